/- Two closed facts that every tied card of this seat asks: the main module, and the looks. -/
import Derived.Test.YtipkjpcedfokhaaDoorCards
import Derived.ProofKit
namespace Go.Proofs.YtipkjpcedfokhaaDoor
theorem card_main : Tryd.pinned.checked.prog.mainIs = some ((true, "e926cc5e3d0bcdcabbb3b564ba0e312d31d7650b98360f7228b2154a947ba908").1, (true, "e926cc5e3d0bcdcabbb3b564ba0e312d31d7650b98360f7228b2154a947ba908").2.toList) := by kernel_rfl
theorem card_looks : false = Tryd.prog.looks [] := by kernel_rfl
end Go.Proofs.YtipkjpcedfokhaaDoor
