/- Rows stay while a later variable is written. No condition. -/
import Derived.Test.YtffkpmmgfgcngaaBase4
namespace Go.Proofs.Ytffkpmmgfgcngaa
open Go.RowKit

theorem Own.setUnder {B K : Nat} {w : World} {a : Option Addr} {n c : Nat} {xs : List Int} (h : Own B w a n c xs) (hu : Under K a) (u v : Value) : Own B ((w.setCell ⟨K, 0, none⟩ u).setCell ⟨K, 1, none⟩ v) a n c xs :=
  (h.setFar (fun g hg => Nat.ne_of_lt (hu g hg)) u).setFar (fun g hg => Nat.ne_of_lt (hu g hg)) v
theorem below_alloc_drew (w : World) (o : Obj) : Below w.heap.size w.drew (w.alloc o).drew := (Below.refl w.heap.size w.drew).alloc (Nat.le_refl _) o
end Go.Proofs.Ytffkpmmgfgcngaa
