/- Part of the proof of imatL_holds: what the row needs of RatLs. Conditions: as each theorem states. -/
import Derived.Test.YthkfkfbfblppeaaGreatSwGJ
import Derived.Test.YthkfkfbfblppeaaGreatSwGG
import Derived.Test.YthkfkfbfblppeaaGreatSwOwRows
namespace Go.Proofs.YthkfkfbfblppeaaGreat
set_option linter.unusedSimpArgs false
set_option linter.unusedVariables false
open Go.RowKit
def RdRs (w : World) (v : Value) (l : List RR) : Prop :=
  ∃ a cap, v = .slice a l.length cap ∧ l.length ≤ cap ∧ cap ≤ 9223372036854775807 ∧
    ∀ i, i < l.length → ∃ b off a1 c1 a2 c2, a = some ⟨b, off, none⟩ ∧ b < w.heap.size ∧
      w.cell? ⟨b, off + i * 3, none⟩ = some (.bool (l.getD i zR).neg) ∧ w.cell? ⟨b, off + i * 3 + 1, none⟩ = some (.slice a1 (l.getD i zR).num.length c1) ∧ w.cell? ⟨b, off + i * 3 + 2, none⟩ = some (.slice a2 (l.getD i zR).den.length c2) ∧
      RdI .u32 w (.slice a1 (l.getD i zR).num.length c1) (l.getD i zR).num ∧ RdI .u32 w (.slice a2 (l.getD i zR).den.length c2) (l.getD i zR).den
theorem RdRs.ext {w w' : World} {v : Value} {l : List RR} (h : RdRs w v l) (e : Ext w w') : RdRs w' v l := by
  obtain ⟨a, cap, hv, hc, hm, hr⟩ := h
  refine ⟨a, cap, hv, hc, hm, fun i hi => ?_⟩
  obtain ⟨b, off, a1, c1, a2, c2, ha, hb, x0, x1, x2, r1, r2⟩ := hr i hi
  exact ⟨b, off, a1, c1, a2, c2, ha, Nat.lt_of_lt_of_le hb e.size, (e.cell (p := ⟨b, off + i * 3, none⟩) hb).trans x0, (e.cell (p := ⟨b, off + i * 3 + 1, none⟩) hb).trans x1, (e.cell (p := ⟨b, off + i * 3 + 2, none⟩) hb).trans x2, r1.ext e, r2.ext e⟩
theorem RdRs.nil (w : World) (a : Option Addr) : RdRs w (.slice a 0 0) [] := ⟨a, 0, rfl, Nat.le_refl _, by omega, fun i hi => by cases hi⟩
theorem RdRs.get {w : World} {v : Value} {l : List RR} (h : RdRs w v l) : ∃ a cap, v = .slice a l.length cap ∧ l.length ≤ cap ∧ cap ≤ 9223372036854775807 ∧
    ∃ f : Nat → (Option Addr × Nat) × (Option Addr × Nat), ∀ i, i < l.length → ∃ b off, a = some ⟨b, off, none⟩ ∧ b < w.heap.size ∧
      w.cell? ⟨b, off + i * 3, none⟩ = some (.bool (l.getD i zR).neg) ∧ w.cell? ⟨b, off + i * 3 + 1, none⟩ = some (.slice (f i).1.1 (l.getD i zR).num.length (f i).1.2) ∧ w.cell? ⟨b, off + i * 3 + 2, none⟩ = some (.slice (f i).2.1 (l.getD i zR).den.length (f i).2.2) ∧
      RdR w (.agg #[.bool (l.getD i zR).neg, .slice (f i).1.1 (l.getD i zR).num.length (f i).1.2, .slice (f i).2.1 (l.getD i zR).den.length (f i).2.2]) (l.getD i zR) := by
  obtain ⟨a, cap, hv, hc, hm, hr⟩ := h
  have h2 : ∀ i : Nat, ∃ y : (Option Addr × Nat) × (Option Addr × Nat), i < l.length → ∃ b off, a = some ⟨b, off, none⟩ ∧ b < w.heap.size ∧
      w.cell? ⟨b, off + i * 3, none⟩ = some (.bool (l.getD i zR).neg) ∧ w.cell? ⟨b, off + i * 3 + 1, none⟩ = some (.slice y.1.1 (l.getD i zR).num.length y.1.2) ∧ w.cell? ⟨b, off + i * 3 + 2, none⟩ = some (.slice y.2.1 (l.getD i zR).den.length y.2.2) ∧
      RdR w (.agg #[.bool (l.getD i zR).neg, .slice y.1.1 (l.getD i zR).num.length y.1.2, .slice y.2.1 (l.getD i zR).den.length y.2.2]) (l.getD i zR) := by
    intro i
    by_cases hi : i < l.length
    · obtain ⟨b, off, a1, c1, a2, c2, ha, hb, x0, x1, x2, r1, r2⟩ := hr i hi
      exact ⟨((a1, c1), (a2, c2)), fun _ => ⟨b, off, ha, hb, x0, x1, x2, _, _, rfl, r1, r2⟩⟩
    · exact ⟨((none, 0), (none, 0)), fun h => absurd h hi⟩
  exact ⟨a, cap, hv, hc, hm, fun i => Classical.choose (h2 i), fun i hi => Classical.choose_spec (h2 i) hi⟩
-- WALKS (written by mkls.py)
def ElR (B : Nat) (w : World) (h : List Value) (r : RR) : Prop := ∃ a1 c1 a2 c2, h = [.bool r.neg, .slice a1 r.num.length c1, .slice a2 r.den.length c2] ∧ SfU B w (.slice a1 r.num.length c1) r.num ∧ SfU B w (.slice a2 r.den.length c2) r.den
theorem ElR.keeps {B : Nat} {t : TypeId} (ht : 206 ≠ t) (w w' : World) (h : List Value) (r : RR) (e : ElR B w h r) (k : Keeps B t w w') : ElR B w' h r := by
  obtain ⟨a1, c1, a2, c2, e1, e2, e3⟩ := e
  exact ⟨a1, c1, a2, c2, e1, e2.keeps k ht, e3.keeps k ht⟩
theorem ElR.ext {B : Nat} {w w' : World} {h : List Value} {r : RR} (e : ElR B w h r) (k : Ext w w') : ElR B w' h r := by
  obtain ⟨a1, c1, a2, c2, e1, e2, e3⟩ := e
  exact ⟨a1, c1, a2, c2, e1, e2.ext k, e3.ext k⟩
theorem ElR.new {B : Nat} {w0 w : World} {a1 a2 : Option Addr} {c1 c2 : Nat} {r : RR} (h : NewR w0 w (.agg #[.bool r.neg, .slice a1 r.num.length c1, .slice a2 r.den.length c2]) r) : ElR B w [.bool r.neg, .slice a1 r.num.length c1, .slice a2 r.den.length c2] r := by
  obtain ⟨vn, vd, e, h1, h2⟩ := h
  injection e with e
  simp only [Array.mk.injEq, List.cons.injEq, and_true, true_and] at e
  obtain ⟨rfl, rfl⟩ := e
  exact ⟨a1, c1, a2, c2, rfl, SfU.new h1, SfU.new h2⟩
theorem ElR.old {B : Nat} {w : World} {a1 a2 : Option Addr} {c1 c2 : Nat} {r : RR} (h : RdR w (.agg #[.bool r.neg, .slice a1 r.num.length c1, .slice a2 r.den.length c2]) r) (hB : w.heap.size ≤ B) : ElR B w [.bool r.neg, .slice a1 r.num.length c1, .slice a2 r.den.length c2] r := by
  obtain ⟨vn, vd, e, h1, h2⟩ := h
  injection e with e
  simp only [Array.mk.injEq, List.cons.injEq, and_true, true_and] at e
  obtain ⟨rfl, rfl⟩ := e
  exact ⟨a1, c1, a2, c2, rfl, SfU.old h1 hB, SfU.old h2 hB⟩
abbrev OwRs (B : Nat) (w : World) (v : Value) (l : List RR) : Prop := OwRow 62 3 (ElR B) B w v l
theorem OwRs.ext' {B : Nat} {w w' : World} {v : Value} {l : List RR} (h : OwRs B w v l) (x : Ext w w') : OwRs B w' v l := OwRow.ext h x (fun _ _ e => e.ext x)
theorem OwRs.rd {B : Nat} {w : World} {v : Value} {l : List RR} (h : OwRs B w v l) : RdRs w v l := by
  obtain ⟨a, cap, hv, hc, hm, hr⟩ := OwRow.rdN h
  refine ⟨a, cap, hv, hc, hm, fun i hi => ?_⟩
  have hl : l[i]? = some (l.getD i zR) := by rw [List.getD_eq_getElem?_getD, List.getElem?_eq_getElem hi]; rfl
  obtain ⟨b, h, e1, _, e2, e3, e4, a1, c1, a2, c2, e5, e6, e7⟩ := hr i _ hl
  subst e5
  refine ⟨b, 0, a1, c1, a2, c2, e1, e2, ?_, ?_, ?_, e6.rd, e7.rd⟩
  · rw [Nat.zero_add]; exact e4 0 (by omega)
  · rw [Nat.zero_add]; exact e4 1 (by omega)
  · rw [Nat.zero_add]; exact e4 2 (by omega)
theorem Tryz.infoR : (Tryz.prog.info? 62).map (fun i => (i.zero, i.size, i.bytes)) = some (some (.agg #[.bool false, .slice none 0 0, .slice none 0 0]), 3, 56) := by kernel_rfl
theorem take_snocD {α : Type} (l : List α) (k : Nat) (d : α) (h : k < l.length) : l.take (k + 1) = l.take k ++ [l.getD k d] := by
  rw [List.take_succ_eq_append_getElem h, List.getD_eq_getElem?_getD, List.getElem?_eq_getElem h]; rfl
end Go.Proofs.YthkfkfbfblppeaaGreat
