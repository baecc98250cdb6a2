/- A condition on the world may be made stronger within a region that draws its order. No condition. -/
import Derived.Test.YtffkpmmgfgcngaaBase3
import Derived.Deep.RegionHeld3
namespace Go.Proofs.Ytffkpmmgfgcngaa
open Go.RowKit

theorem wpAnyH_weak {P : Program} {md : Region.Mode} {ops : Array Oper} {Q : Exit → Act → World → Prop} {S S' : World → Prop} (h : ∀ w, S' w → S w) :
    ∀ (fuel : Nat) (listed : Array Bool) (a : Act) (w : World), wpAnyH P md ops Q S' fuel listed a w → wpAnyH P md ops Q S fuel listed a w
  | 0, _, _, _, hw => hw
  | fuel + 1, _, _, _, hw => ⟨hw.1, fun i hi => wpOp_mono (fun a' w' h' => ⟨h w' h'.1, wpAnyH_weak h fuel _ a' w' h'.2⟩) (hw.2 i hi)⟩
theorem Own.at0 {B : Nat} {w : World} {a : Option Addr} {n c : Nat} {xs : List Int} (h : Own B w a n c xs) (hn : 0 < n) : ∃ g, a = some ⟨g, 0, none⟩ := by
  rcases h.form with ⟨_, h0, _⟩ | ⟨g, h1, _⟩
  · omega
  · exact ⟨g, h1⟩
end Go.Proofs.Ytffkpmmgfgcngaa
