/- Part of the proof of mat6_holds: what the row needs of RatDt. Conditions: as each theorem states. -/
import Derived.Test.YtbnalhmcbolngaaGreatSmRatLs
import Derived.Test.YtbnalhmcbolngaaGreatSmGJ
import Derived.Test.YtbnalhmcbolngaaGreatSmEach
namespace Go.Proofs.YtbnalhmcbolngaaGreat
set_option linter.unusedSimpArgs false
set_option linter.unusedVariables false
open Go.RowKit
theorem Blk.all3 {A : World} {bx : Nat} {p q s : Value} {t : TypeId} (hb : Blk A bx #[p, q, s] t) (x y z : Value) : Blk (((A.setCell ⟨bx, 0, none⟩ x).setCell ⟨bx, 1, none⟩ y).setCell ⟨bx, 2, none⟩ z) bx #[x, y, z] t := by
  have := ((hb.set 0 x).set 1 y).set 2 z
  simpa using this
def RdAt (W : World) (b o : Nat) (r : RR) (a1 : Option Addr) (c1 : Nat) (a2 : Option Addr) (c2 : Nat) : Prop :=
  b < W.heap.size ∧ W.cell? ⟨b, o, none⟩ = some (.bool r.neg) ∧ W.cell? ⟨b, o + 1, none⟩ = some (.slice a1 r.num.length c1) ∧ W.cell? ⟨b, o + 2, none⟩ = some (.slice a2 r.den.length c2)
theorem RdAt.c3 {W : World} {b o : Nat} {r : RR} {a1 : Option Addr} {c1 : Nat} {a2 : Option Addr} {c2 : Nat} {w : World} (h : RdAt w b o r a1 c1 a2 c2) (x : Ext w W) :
    W.cell? ⟨b, o, none⟩ = some (.bool r.neg) ∧ W.cell? ⟨b, o + 1, none⟩ = some (.slice a1 r.num.length c1) ∧ W.cell? ⟨b, o + 2, none⟩ = some (.slice a2 r.den.length c2) :=
  ⟨(x.cell (p := ⟨b, o, none⟩) h.1).trans h.2.1, (x.cell (p := ⟨b, o + 1, none⟩) h.1).trans h.2.2.1, (x.cell (p := ⟨b, o + 2, none⟩) h.1).trans h.2.2.2⟩
end Go.Proofs.YtbnalhmcbolngaaGreat
