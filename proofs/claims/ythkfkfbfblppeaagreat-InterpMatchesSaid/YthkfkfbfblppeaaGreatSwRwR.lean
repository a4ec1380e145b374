/- Part of the proof of imatL_holds: what the row needs of RwR. Conditions: as each theorem states. -/
import Derived.Test.YthkfkfbfblppeaaGreatSwRatDt
import Derived.Test.YthkfkfbfblppeaaGreatSwGK
namespace Go.Proofs.YthkfkfbfblppeaaGreat
set_option linter.unusedSimpArgs false
set_option linter.unusedVariables false
open Go.RowKit
def NoU (c : Array Value) : Prop := ∀ x ∈ c, ∀ k n, x ≠ .int k n
theorem NoU.set {c : Array Value} (h : NoU c) (i : Nat) {x : Value} (hx : ∀ k n, x ≠ .int k n) : NoU (c.setIfInBounds i x) := fun u hu => by
  rcases Array.mem_or_eq_of_mem_setIfInBounds hu with hu | rfl
  · exact h u hu
  · exact hx
theorem noU_3 {b : Bool} {a1 : Option Addr} {n1 c1 : Nat} {a2 : Option Addr} {n2 c2 : Nat} : NoU #[.bool b, .slice a1 n1 c1, .slice a2 n2 c2] := fun x hx k n => by
  simp at hx
  rcases hx with rfl | rfl | rfl <;> simp
theorem rdI_setNo {A : World} {k : IntKind} {v : Value} {l : List Int} (h : RdI k A v l) {bx : Nat} {c : Array Value} {t : TypeId} (hb : Blk A bx c t) (hn : NoU c) (o : Nat) (u : Value) : RdI k (A.setCell ⟨bx, o, none⟩ u) v l := by
  obtain ⟨a, cap, rfl, h1, h2, h3⟩ := h
  refine ⟨a, cap, rfl, h1, h2, fun i hi => ?_⟩
  obtain ⟨b, off, e1, e2, e3⟩ := h3 i hi
  simp only [List.length_map] at hi
  have hne : b ≠ bx := by
    intro e
    rw [e, hb.cell] at e3
    have h4 : (l.map (Value.int k))[i]? = some (.int k l[i]) := by simp [hi]
    rw [h4] at e3
    exact hn _ (Array.mem_of_getElem? e3) _ _ rfl
  refine ⟨b, off, e1, by simpa [World.setCell] using e2, ?_⟩
  rw [← e3]
  exact World.cell?_of_block (Below.heap_setCell _ _ _ _ hne)
theorem rdR_setB {W : World} {v : Value} {r : RR} (h : RdR W v r) {bx : Nat} {c : Array Value} {t : TypeId} (hb : Blk W bx c t) (hn : NoU c) (o : Nat) (x : Value) : RdR (W.setCell ⟨bx, o, none⟩ x) v r := by
  obtain ⟨vn, vd, rfl, h1, h2⟩ := h
  exact ⟨_, _, rfl, rdI_setNo h1 hb hn o x, rdI_setNo h2 hb hn o x⟩
def SumB (W : World) (b : Nat) (t : TypeId) (r : RR) : Prop := ∃ a1 c1 a2 c2, Blk W b #[.bool r.neg, .slice a1 r.num.length c1, .slice a2 r.den.length c2] t ∧ RdR W (.agg #[.bool r.neg, .slice a1 r.num.length c1, .slice a2 r.den.length c2]) r
theorem SumB.ext {W W' : World} {b : Nat} {t : TypeId} {r : RR} (h : SumB W b t r) (x : Ext W W') : SumB W' b t r := by
  obtain ⟨a1, c1, a2, c2, h1, h2⟩ := h
  exact ⟨a1, c1, a2, c2, h1.ext x, h2.ext x⟩
theorem SumB.c3 {W : World} {b : Nat} {t : TypeId} {r : RR} (h : SumB W b t r) : ∃ a1 c1 a2 c2, b < W.heap.size ∧ W.cell? ⟨b, 0, none⟩ = some (.bool r.neg) ∧ W.cell? ⟨b, 1, none⟩ = some (.slice a1 r.num.length c1) ∧ W.cell? ⟨b, 2, none⟩ = some (.slice a2 r.den.length c2) ∧ RdR W (.agg #[.bool r.neg, .slice a1 r.num.length c1, .slice a2 r.den.length c2]) r := by
  obtain ⟨a1, c1, a2, c2, h1, h2⟩ := h
  exact ⟨a1, c1, a2, c2, h1.lt, h1.cell 0, h1.cell 1, h1.cell 2, h2⟩
structure Put3 (W : World) (b : Nat) (c : Array Value) (t : TypeId) (x y z : Value) (o : Nat) : Prop where
  b0 : Blk W b c t
  n0 : NoU c
  hx : ∀ k n, x ≠ .int k n
  hy : ∀ k n, y ≠ .int k n
  hz : ∀ k n, z ≠ .int k n
theorem Put3.of {W : World} {b : Nat} {c : Array Value} {t : TypeId} (h : Blk W b c t) (hn : NoU c) {q : Bool} {a1 : Option Addr} {n1 c1 : Nat} {a2 : Option Addr} {n2 c2 o : Nat} : Put3 W b c t (.bool q) (.slice a1 n1 c1) (.slice a2 n2 c2) o := ⟨h, hn, by simp, by simp, by simp⟩
section
variable {W : World} {b : Nat} {c : Array Value} {t : TypeId} {x y z : Value} {o : Nat}
theorem Put3.rdI (p : Put3 W b c t x y z o) {k : IntKind} {v : Value} {l : List Int} (h : RdI k W v l) : RdI k (((W.setCell ⟨b, o, none⟩ x).setCell ⟨b, o + 1, none⟩ y).setCell ⟨b, o + 2, none⟩ z) v l :=
  rdI_setNo (rdI_setNo (rdI_setNo h p.b0 p.n0 _ _) (p.b0.set _ _) (p.n0.set _ p.hx) _ _) ((p.b0.set _ _).set _ _) ((p.n0.set _ p.hx).set _ p.hy) _ _
theorem Put3.rdR (p : Put3 W b c t x y z o) {v : Value} {r : RR} (h : RdR W v r) : RdR (((W.setCell ⟨b, o, none⟩ x).setCell ⟨b, o + 1, none⟩ y).setCell ⟨b, o + 2, none⟩ z) v r := by
  obtain ⟨vn, vd, rfl, h1, h2⟩ := h
  exact ⟨_, _, rfl, p.rdI h1, p.rdI h2⟩
theorem Put3.blk {p : Nat} {d : Array Value} {u : TypeId} (h : Blk W p d u) (hne : p ≠ b) : Blk (((W.setCell ⟨b, o, none⟩ x).setCell ⟨b, o + 1, none⟩ y).setCell ⟨b, o + 2, none⟩ z) p d u :=
  ((h.setOther (a := ⟨b, o, none⟩) hne x).setOther (a := ⟨b, o + 1, none⟩) hne y).setOther (a := ⟨b, o + 2, none⟩) hne z
theorem ext_put3 {w0 W : World} (h : Ext w0 W) (hb : w0.heap.size ≤ b) : Ext w0 (((W.setCell ⟨b, o, none⟩ x).setCell ⟨b, o + 1, none⟩ y).setCell ⟨b, o + 2, none⟩ z) :=
  ((h.set (p := ⟨b, o, none⟩) hb x).set (p := ⟨b, o + 1, none⟩) hb y).set (p := ⟨b, o + 2, none⟩) hb z
end
theorem SumB.put {W : World} {b : Nat} {t : TypeId} {r s : RR} (h : SumB W b t r) {a1 : Option Addr} {c1 : Nat} {a2 : Option Addr} {c2 : Nat} (hs : RdR W (.agg #[.bool s.neg, .slice a1 s.num.length c1, .slice a2 s.den.length c2]) s) :
    SumB (((W.setCell ⟨b, 0, none⟩ (.bool s.neg)).setCell ⟨b, 0 + 1, none⟩ (.slice a1 s.num.length c1)).setCell ⟨b, 0 + 2, none⟩ (.slice a2 s.den.length c2)) b t s := by
  obtain ⟨d1, e1, d2, e2, h1, h2⟩ := h
  have p := Put3.of (q := s.neg) (a1 := a1) (n1 := s.num.length) (c1 := c1) (a2 := a2) (n2 := s.den.length) (c2 := c2) (o := 0) h1 noU_3
  refine ⟨a1, c1, a2, c2, ?_, p.rdR hs⟩
  have := ((h1.set 0 (.bool s.neg)).set (0 + 1) (.slice a1 s.num.length c1)).set (0 + 2) (.slice a2 s.den.length c2)
  simpa using this
def RwR (W : World) (b n : Nat) (t : TypeId) (f : Nat → RR) : Prop := (∃ c, Blk W b c t ∧ c.size = n * 3 ∧ NoU c) ∧
  ∀ k, k < n → ∃ a1 c1 a2 c2, W.cell? ⟨b, k * 3, none⟩ = some (.bool (f k).neg) ∧ W.cell? ⟨b, k * 3 + 1, none⟩ = some (.slice a1 (f k).num.length c1) ∧ W.cell? ⟨b, k * 3 + 2, none⟩ = some (.slice a2 (f k).den.length c2) ∧
    RdR W (.agg #[.bool (f k).neg, .slice a1 (f k).num.length c1, .slice a2 (f k).den.length c2]) (f k)
theorem RwR.lt {W : World} {b n : Nat} {t : TypeId} {f : Nat → RR} (h : RwR W b n t f) : b < W.heap.size := by
  obtain ⟨⟨c, hc, _⟩, _⟩ := h
  exact hc.lt
theorem RwR.ext {W W' : World} {b n : Nat} {t : TypeId} {f : Nat → RR} (h : RwR W b n t f) (x : Ext W W') : RwR W' b n t f := by
  have hl := h.lt
  obtain ⟨⟨c, hc, hs, hn⟩, h2⟩ := h
  refine ⟨⟨c, hc.ext x, hs, hn⟩, fun k hk => ?_⟩
  obtain ⟨a1, c1, a2, c2, e1, e2, e3, e4⟩ := h2 k hk
  exact ⟨a1, c1, a2, c2, (x.cell (p := ⟨b, k * 3, none⟩) hl).trans e1, (x.cell (p := ⟨b, k * 3 + 1, none⟩) hl).trans e2, (x.cell (p := ⟨b, k * 3 + 2, none⟩) hl).trans e3, e4.ext x⟩
theorem RwR.congr {W : World} {b n : Nat} {t : TypeId} {f g : Nat → RR} (h : RwR W b n t f) (e : ∀ k, k < n → f k = g k) : RwR W b n t g := by
  refine ⟨h.1, fun k hk => ?_⟩
  have := h.2 k hk
  rw [e k hk] at this
  exact this
theorem RwR.set {W : World} {b n : Nat} {t : TypeId} {f : Nat → RR} (h : RwR W b n t f) {a : Nat} (ha : a < n) {r : RR} {a1 : Option Addr} {c1 : Nat} {a2 : Option Addr} {c2 : Nat} (hr : RdR W (.agg #[.bool r.neg, .slice a1 r.num.length c1, .slice a2 r.den.length c2]) r) :
    RwR (((W.setCell ⟨b, a * 3, none⟩ (.bool r.neg)).setCell ⟨b, a * 3 + 1, none⟩ (.slice a1 r.num.length c1)).setCell ⟨b, a * 3 + 2, none⟩ (.slice a2 r.den.length c2)) b n t (fun k => if k = a then r else f k) := by
  obtain ⟨⟨c, hc, hs, hn⟩, h2⟩ := h
  have b1 := hc.set (a * 3) (.bool r.neg)
  have b2 := b1.set (a * 3 + 1) (.slice a1 r.num.length c1)
  have b3 := b2.set (a * 3 + 2) (.slice a2 r.den.length c2)
  have n1 := hn.set (a * 3) (x := .bool r.neg) (by simp)
  have n2 := n1.set (a * 3 + 1) (x := .slice a1 r.num.length c1) (by simp)
  have n3 := n2.set (a * 3 + 2) (x := .slice a2 r.den.length c2) (by simp)
  refine ⟨⟨_, b3, by simp [hs], n3⟩, fun k hk => ?_⟩
  have rd : ∀ {v : Value} {q : RR}, RdR W v q → RdR (((W.setCell ⟨b, a * 3, none⟩ (.bool r.neg)).setCell ⟨b, a * 3 + 1, none⟩ (.slice a1 r.num.length c1)).setCell ⟨b, a * 3 + 2, none⟩ (.slice a2 r.den.length c2)) v q := fun hq => rdR_setB (rdR_setB (rdR_setB hq hc hn _ _) b1 n1 _ _) b2 n2 _ _
  by_cases hka : k = a
  · subst hka
    simp only [if_pos]
    refine ⟨a1, c1, a2, c2, ?_, ?_, ?_, rd hr⟩
    · rw [b3.cell, Array.getElem?_setIfInBounds_ne (by omega), Array.getElem?_setIfInBounds_ne (by omega), Array.getElem?_setIfInBounds_self_of_lt (by omega)]
    · rw [b3.cell, Array.getElem?_setIfInBounds_ne (by omega), Array.getElem?_setIfInBounds_self_of_lt (by simp; omega)]
    · rw [b3.cell, Array.getElem?_setIfInBounds_self_of_lt (by simp; omega)]
  · simp only [if_neg hka]
    obtain ⟨d1, e1, d2, e2, x1, x2, x3, x4⟩ := h2 k hk
    rw [hc.cell] at x1 x2 x3
    refine ⟨d1, e1, d2, e2, ?_, ?_, ?_, rd x4⟩
    · rw [b3.cell, Array.getElem?_setIfInBounds_ne (by omega), Array.getElem?_setIfInBounds_ne (by omega), Array.getElem?_setIfInBounds_ne (by omega)]; exact x1
    · rw [b3.cell, Array.getElem?_setIfInBounds_ne (by omega), Array.getElem?_setIfInBounds_ne (by omega), Array.getElem?_setIfInBounds_ne (by omega)]; exact x2
    · rw [b3.cell, Array.getElem?_setIfInBounds_ne (by omega), Array.getElem?_setIfInBounds_ne (by omega), Array.getElem?_setIfInBounds_ne (by omega)]; exact x3
theorem RwR.other {W : World} {b n : Nat} {t : TypeId} {f : Nat → RR} (h : RwR W b n t f) {p : Nat} {c : Array Value} {u : TypeId} (hb : Blk W p c u) (hn : NoU c) (hne : b ≠ p) (o : Nat) (x : Value) : RwR (W.setCell ⟨p, o, none⟩ x) b n t f := by
  obtain ⟨⟨d, hd, hs, hm⟩, h2⟩ := h
  have hd2 := hd.setOther (a := ⟨p, o, none⟩) hne x
  refine ⟨⟨d, hd2, hs, hm⟩, fun k hk => ?_⟩
  obtain ⟨a1, c1, a2, c2, e1, e2, e3, e4⟩ := h2 k hk
  rw [hd.cell] at e1 e2 e3
  exact ⟨a1, c1, a2, c2, by rw [hd2.cell]; exact e1, by rw [hd2.cell]; exact e2, by rw [hd2.cell]; exact e3, rdR_setB e4 hb hn o x⟩
theorem Put3.row {W : World} {p : Nat} {c : Array Value} {u : TypeId} {x y z : Value} {o : Nat} (q : Put3 W p c u x y z o) {b n : Nat} {t : TypeId} {f : Nat → RR} (h : RwR W b n t f) (hne : b ≠ p) : RwR (((W.setCell ⟨p, o, none⟩ x).setCell ⟨p, o + 1, none⟩ y).setCell ⟨p, o + 2, none⟩ z) b n t f :=
  ((h.other q.b0 q.n0 hne _ _).other (q.b0.set _ _) (q.n0.set _ q.hx) hne _ _).other ((q.b0.set _ _).set _ _) ((q.n0.set _ q.hx).set _ q.hy) hne _ _
theorem made3 (n k j : Nat) (hk : k < n) (hj : j < 3) : (madeCells #[Value.bool false, .slice none 0 0, .slice none 0 0] (n * 3))[k * 3 + j]? = some (#[Value.bool false, .slice none 0 0, .slice none 0 0][j]!) := by
  have h1 : k * 3 + j < n * 3 := by omega
  have h2 : (k * 3 + j) % 3 = j := by omega
  simp [madeCells, h1, h2]
theorem RwR.new {W : World} {b n : Nat} {t : TypeId} (hb : Blk W b (madeCells #[.bool false, .slice none 0 0, .slice none 0 0] (n * 3)) t) : RwR W b n t (fun _ => zR) := by
  refine ⟨⟨_, hb, by simp [madeCells], fun x hx k m => ?_⟩, fun k hk => ⟨none, 0, none, 0, ?_, ?_, ?_, (NewR.zero W W).rd⟩⟩
  · obtain ⟨i, hi, rfl⟩ := Array.mem_iff_getElem.1 hx
    simp only [madeCells, Array.size_map, Array.size_range] at hi
    have h3 : i = (i / 3) * 3 + i % 3 := by omega
    have := made3 n (i / 3) (i % 3) (by omega) (by omega)
    rw [← h3, Array.getElem?_eq_getElem (by simpa [madeCells] using hi)] at this
    injection this with this
    rw [this]
    have h4 : i % 3 = 0 ∨ i % 3 = 1 ∨ i % 3 = 2 := by omega
    rcases h4 with h4 | h4 | h4 <;> rw [h4] <;> simp
  · rw [hb.cell]; exact made3 n k 0 hk (by decide)
  · rw [hb.cell]; exact made3 n k 1 hk (by decide)
  · rw [hb.cell]; exact made3 n k 2 hk (by decide)
end Go.Proofs.YthkfkfbfblppeaaGreat
