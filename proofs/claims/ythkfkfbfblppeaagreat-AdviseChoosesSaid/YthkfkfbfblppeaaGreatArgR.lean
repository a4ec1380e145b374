/- What slices of structs of the arguments look like: api.Rats, advisories, booleans. Conditions: none. -/
import Derived.Test.YthkfkfbfblppeaaGreatRatRow
import Derived.Test.YthkfkfbfblppeaaGreatRatLs
import Derived.Test.YthkfkfbfblppeaaGreatBoolS
import Derived.Test.YthkfkfbfblppeaaGreatGI
namespace Go.Proofs.YthkfkfbfblppeaaGreat
set_option linter.unusedSimpArgs false
set_option linter.unusedVariables false
open Go.RowKit Go.ChangeShapes Go.WideShapes Go.ChangeAt Go.Deep

section
variable {H : Type} {enc : TypeId × Value → H} {w : World} {base : Nat} {spare : Nat → Bool} {held : Bool}

set_option maxRecDepth 100000 in
/-- A slice, by its reading: m cells an element, each of which has a property. -/
theorem rdG_of_trod {n m : Nat} {t e : TypeId} {Pp : List Value → Prop} {cs : List Value} {x : DataW H × List MemPlace} (ht : Tryz.prog.underlying t = some (.slice e)) (hm : Tryz.prog.cellsOf e = m) (hm0 : 0 < m)
    (hel : ∀ n cs x, DataW.trod enc Tryz.prog w base spare held n e cs = some x → Pp cs ∧ cs.length = m) (h : DataW.trod enc Tryz.prog w base spare held n t cs = some x) :
    ∃ (a : Option Addr) (len cap : Nat), cs = [.slice a len cap] ∧ len ≤ cap ∧ cap ≤ 9223372036854775807 ∧ ∀ i, i < len → ∃ b off es, a = some ⟨b, off, none⟩ ∧ b < w.heap.size ∧ Pp es ∧ es.length = m ∧ ∀ j, j < m → w.cell? ⟨b, off + i * m + j, none⟩ = es[j]? := by
  rcases open_slice ht h with ⟨rfl, _⟩ | ⟨a, len, cap, k, n', D, Pl, rfl, hb, hlc, hcm, hk, _, hall⟩
  · exact ⟨none, 0, 0, rfl, by omega, by omega, fun i hi => by omega⟩
  · have hlk : len ≤ k := by rw [hk]; split <;> omega
    have hex : ∀ i, i < len → ∃ es, w.cells? base (a.add (i * m)) m = some es ∧ Pp es ∧ es.length = m := by
      intro i hi
      obtain ⟨cs', h1, h2⟩ := hall i (by omega)
      obtain ⟨h3, h4⟩ := hel _ _ _ h2
      exact ⟨cs', by rw [hm] at h1; exact h1, h3, h4⟩
    refine ⟨some a, len, cap, rfl, hlc, by unfold maxLen at hcm; omega, fun i hi => ?_⟩
    obtain ⟨es, h1, h2, h3⟩ := hex i hi
    obtain ⟨es0, g1, g2, g3⟩ := hex 0 (by omega)
    obtain ⟨_, _, hcell⟩ := World.cells?_some h1
    have hblk := World.cells?_block h1 hm0
    obtain ⟨b, off, spot⟩ := a
    obtain ⟨_, _, hc0⟩ := World.cells?_some g1
    have hsome : w.cell? (((Addr.mk b off spot).add (0 * m)).add 0) = some (es0[0]'(by rw [g3]; exact hm0)) := by rw [hc0 0 hm0, List.getElem?_eq_getElem]
    have hspot : spot = none := by simpa [Addr.add] using World.cell?_spot hsome
    subst hspot
    rw [Go.WideShapes.add_plain] at hblk
    refine ⟨b, off, es, rfl, hblk, h2, h3, fun j hj => ?_⟩
    have h5 := hcell j hj
    rw [Go.WideShapes.add_plain, Go.WideShapes.add_plain] at h5
    exact h5

set_option maxRecDepth 100000 in
/-- A slice of api.Rats, by its reading. -/
theorem rdRs_of_trod {n : Nat} {cs : List Value} {x : DataW H × List MemPlace} (h : DataW.trod enc Tryz.prog w base spare held n 48 cs = some x) :
    ∃ (v : Value) (l : List RR), cs = [v] ∧ RdRs w v l ∧ ∀ i, i < l.length → LimR (l.getD i zR) := by
  obtain ⟨a, len, cap, rfl, h1, h2, h3⟩ := rdG_of_trod (m := 3) (Pp := fun cs => ∃ (b : Bool) (v u : Value) (l m : List Int), cs = [.bool b, v, u] ∧ RdI .u32 w v l ∧ Lim l ∧ RdI .u32 w u m ∧ Lim m) Tryz.underlying48 Tryz.cellsR (by omega)
    (fun n cs x hx => by
      refine ⟨trod_rat hx, ?_⟩
      obtain ⟨b, v, u, l, m, e, _⟩ := trod_rat hx
      rw [e]; rfl) h
  have hex : ∀ i, ∃ r : RR, i < len → ∃ b off a1 c1 a2 c2, a = some ⟨b, off, none⟩ ∧ b < w.heap.size ∧
      w.cell? ⟨b, off + i * 3, none⟩ = some (.bool r.neg) ∧ w.cell? ⟨b, off + i * 3 + 1, none⟩ = some (.slice a1 r.num.length c1) ∧ w.cell? ⟨b, off + i * 3 + 2, none⟩ = some (.slice a2 r.den.length c2) ∧
      RdI .u32 w (.slice a1 r.num.length c1) r.num ∧ RdI .u32 w (.slice a2 r.den.length c2) r.den ∧ LimR r := by
    intro i
    by_cases hi : i < len
    · obtain ⟨b, off, es, e1, e2, ⟨bb, v, u, l, m, e3, e4, e5, e6, e7⟩, e8, e9⟩ := h3 i hi
      obtain ⟨a1, c1, rfl⟩ := rdU_shape e4
      obtain ⟨a2, c2, rfl⟩ := rdU_shape e6
      subst e3
      exact ⟨⟨bb, l, m⟩, fun _ => ⟨b, off, a1, c1, a2, c2, e1, e2, e9 0 (by omega), e9 1 (by omega), e9 2 (by omega), e4, e6, e5, e7⟩⟩
    · exact ⟨zR, fun h => absurd h hi⟩
  refine ⟨_, (List.range len).map fun i => Classical.choose (hex i), rfl, ⟨a, cap, by simp, by simpa using h1, h2, fun i hi => ?_⟩, fun i hi => ?_⟩
  · have hi' : i < len := by simpa using hi
    have e : ((List.range len).map fun i => Classical.choose (hex i)).getD i zR = Classical.choose (hex i) := by simp [hi']
    rw [e]
    obtain ⟨b, off, a1, c1, a2, c2, e1, e2, e3, e4, e5, e6, e7, _⟩ := Classical.choose_spec (hex i) hi'
    exact ⟨b, off, a1, c1, a2, c2, e1, e2, e3, e4, e5, e6, e7⟩
  · have hi' : i < len := by simpa using hi
    have e : ((List.range len).map fun i => Classical.choose (hex i)).getD i zR = Classical.choose (hex i) := by simp [hi']
    rw [e]
    obtain ⟨b, off, a1, c1, a2, c2, e1, e2, e3, e4, e5, e6, e7, e8⟩ := Classical.choose_spec (hex i) hi'
    exact e8

set_option maxRecDepth 100000 in
/-- .. of booleans. -/
theorem rdBs_of_trod {n : Nat} {cs : List Value} {x : DataW H × List MemPlace} (h : DataW.trod enc Tryz.prog w base spare held n 49 cs = some x) :
    ∃ (v : Value) (l : List Bool), cs = [v] ∧ Rd w v (l.map Value.bool) := by
  obtain ⟨v, l, e, hr⟩ := rdN_of_trod (m := 1) (f := fun b : Bool => [Value.bool b]) Tryz.underlying49 Tryz.cellsB (by omega) (fun _ => rfl)
    (fun n cs x hx => by obtain ⟨b, e0, _⟩ := DataW.trod_bool Tryz.underlying4 hx; exact ⟨b, e0⟩) h
  exact ⟨v, l, e, rd_of_rdN1 hr⟩

set_option maxRecDepth 100000 in
theorem okSlice {r : Reach} {b0 : Nat} {t e : TypeId} {v v' : Value} (ht : Tryz.prog.underlying t = some (.slice e)) (hv : Value.okWide Tryz.prog w r b0 t v) (h : v.cells.toList = [v']) : v' = v := by
  obtain ⟨a, len, cap, rfl⟩ := okWide_slice ht hv
  simpa [Value.cells] using h.symm
set_option maxRecDepth 100000 in
theorem open_rats {r : Reach} {b0 : Nat} {v : Value} {d : DataW H} {p : List MemPlace} (hv : Value.okWide Tryz.prog w r b0 48 v) (h : DataW.Trod enc Tryz.prog w base spare held 48 v d p) :
    ∃ l : List RR, RdRs w v l ∧ ∀ i, i < l.length → LimR (l.getD i zR) := by
  obtain ⟨n, hf⟩ := h
  obtain ⟨v', l, e, h1, h2⟩ := rdRs_of_trod hf
  rw [okSlice Tryz.underlying48 hv e] at h1
  exact ⟨l, h1, h2⟩
set_option maxRecDepth 100000 in
theorem open_bools {r : Reach} {b0 : Nat} {v : Value} {d : DataW H} {p : List MemPlace} (hv : Value.okWide Tryz.prog w r b0 49 v) (h : DataW.Trod enc Tryz.prog w base spare held 49 v d p) :
    ∃ l : List Bool, Rd w v (l.map Value.bool) := by
  obtain ⟨n, hf⟩ := h
  obtain ⟨v', l, e, h1⟩ := rdBs_of_trod hf
  rw [okSlice Tryz.underlying49 hv e] at h1
  exact ⟨l, h1⟩

theorem Tryz.cellsU8 : Tryz.prog.cellsOf 5 = 1 := by kernel_rfl
theorem Tryz.cellsI : Tryz.prog.cellsOf 3 = 1 := by kernel_rfl
theorem Tryz.cellsBd : Tryz.prog.cellsOf 187 = 3 := by kernel_rfl
set_option maxRecDepth 100000 in
theorem trod_bnd (n : Nat) (cs : List Value) (x : DataW H × List MemPlace) (h : DataW.trod enc Tryz.prog w base spare held n 187 cs = some x) : ∃ y : Bnd, cs = [.int .u8 y.1, .int .i64 y.2.1, .int .i64 y.2.2] := by
  obtain ⟨xs, m, _, _, hl, hx, hf⟩ := DataW.trod_struct Tryz.underlying187 h
  obtain ⟨c0, c1, c2, rfl⟩ := lst3 (hl.trans Tryz.cellsBd)
  obtain ⟨y0, y1, y2, rfl⟩ := lst3 hx
  have h0 := hf 0 _ rfl; have h1 := hf 1 _ rfl; have h2 := hf 2 _ rfl
  simp [Tryz.cellsU8, Tryz.cellsI] at h0 h1 h2
  obtain ⟨a, e0, _⟩ := DataW.trod_int Tryz.underlying5 h0
  obtain ⟨b, e1, _⟩ := DataW.trod_int Tryz.underlying3 h1
  obtain ⟨c, e2, _⟩ := DataW.trod_int Tryz.underlying3 h2
  simp at e0 e1 e2
  exact ⟨(a, b, c), by rw [e0, e1, e2]⟩
instance : Inhabited Bnd := ⟨(0, 0, 0)⟩
set_option maxRecDepth 100000 in
theorem rdBnd_of_trod {n : Nat} {cs : List Value} {x : DataW H × List MemPlace} (h : DataW.trod enc Tryz.prog w base spare held n 45 cs = some x) :
    ∃ (v : Value) (l : List Bnd), cs = [v] ∧ RdN 3 w v (l.map fun x : Bnd => [.int .u8 x.1, .int .i64 x.2.1, .int .i64 x.2.2]) :=
  rdN_of_trod (m := 3) Tryz.underlying45 Tryz.cellsBd (by omega) (fun _ => rfl) trod_bnd h
set_option maxRecDepth 100000 in
theorem open_bnds {r : Reach} {b0 : Nat} {v : Value} {d : DataW H} {p : List MemPlace} (hv : Value.okWide Tryz.prog w r b0 45 v) (h : DataW.Trod enc Tryz.prog w base spare held 45 v d p) :
    ∃ l : List Bnd, RdN 3 w v (l.map fun x : Bnd => [.int .u8 x.1, .int .i64 x.2.1, .int .i64 x.2.2]) := by
  obtain ⟨n, hf⟩ := h
  obtain ⟨v', l, e, h1⟩ := rdBnd_of_trod hf
  rw [okSlice Tryz.underlying45 hv e] at h1
  exact ⟨l, h1⟩

theorem lst2 {α : Type} {l : List α} (h : l.length = 2) : ∃ a b, l = [a, b] := by match l, h with | [a, b], _ => exact ⟨a, b, rfl⟩
theorem lst5 {α : Type} {l : List α} (h : l.length = 5) : ∃ a b c d e, l = [a, b, c, d, e] := by match l, h with | [a, b, c, d, e], _ => exact ⟨a, b, c, d, e, rfl⟩
theorem lst8 {α : Type} {l : List α} (h : l.length = 8) : ∃ a b c d e f g i, l = [a, b, c, d, e, f, g, i] := by match l, h with | [a, b, c, d, e, f, g, i], _ => exact ⟨a, b, c, d, e, f, g, i, rfl⟩
theorem Tryz.cellsMem : Tryz.prog.cellsOf 47 = 3 := by kernel_rfl
theorem Tryz.cellsLim : Tryz.prog.cellsOf 51 = 2 := by kernel_rfl
theorem Tryz.cellsC28 : Tryz.prog.cellsOf 53 = 8 := by kernel_rfl
theorem Tryz.cellsBs : Tryz.prog.cellsOf 45 = 1 := by kernel_rfl
theorem Tryz.cellsRs : Tryz.prog.cellsOf 48 = 1 := by kernel_rfl
theorem Tryz.cellsBl : Tryz.prog.cellsOf 49 = 1 := by kernel_rfl
def i64B (x : Int) : Prop := -9223372036854775808 ≤ x ∧ x ≤ 9223372036854775807
theorem i64B_of {x : Int} (h : (Lit.int .i64 x).wf = true) : i64B x := by simp [Lit.wf, IntKind.min, IntKind.max, IntKind.signed, IntKind.bits] at h; unfold i64B; omega
set_option maxRecDepth 100000 in
theorem trod_mem {n : Nat} {cs : List Value} {x : DataW H × List MemPlace} (h : DataW.trod enc Tryz.prog w base spare held n 47 cs = some x) : ∃ a b c : Int, cs = [.int .i64 a, .int .i64 b, .int .i64 c] ∧ i64B a ∧ i64B b ∧ i64B c := by
  obtain ⟨xs, m, _, _, hl, hx, hf⟩ := DataW.trod_struct Tryz.underlying47 h
  obtain ⟨c0, c1, c2, rfl⟩ := lst3 (hl.trans Tryz.cellsMem)
  obtain ⟨y0, y1, y2, rfl⟩ := lst3 hx
  have h0 := hf 0 _ rfl; have h1 := hf 1 _ rfl; have h2 := hf 2 _ rfl
  simp [Tryz.cellsI] at h0 h1 h2
  obtain ⟨a, e0, _, w0⟩ := DataW.trod_int Tryz.underlying3 h0
  obtain ⟨b, e1, _, w1⟩ := DataW.trod_int Tryz.underlying3 h1
  obtain ⟨c, e2, _, w2⟩ := DataW.trod_int Tryz.underlying3 h2
  simp at e0 e1 e2
  exact ⟨a, b, c, by rw [e0, e1, e2], i64B_of w0, i64B_of w1, i64B_of w2⟩
set_option maxRecDepth 100000 in
theorem trod_lim {n : Nat} {cs : List Value} {x : DataW H × List MemPlace} (h : DataW.trod enc Tryz.prog w base spare held n 51 cs = some x) : ∃ a b : Int, cs = [.int .i64 a, .int .i64 b] ∧ i64B a ∧ i64B b := by
  obtain ⟨xs, m, _, _, hl, hx, hf⟩ := DataW.trod_struct Tryz.underlying51 h
  obtain ⟨c0, c1, rfl⟩ := lst2 (hl.trans Tryz.cellsLim)
  obtain ⟨y0, y1, rfl⟩ := lst2 hx
  have h0 := hf 0 _ rfl; have h1 := hf 1 _ rfl
  simp [Tryz.cellsI] at h0 h1
  obtain ⟨a, e0, _, w0⟩ := DataW.trod_int Tryz.underlying3 h0
  obtain ⟨b, e1, _, w1⟩ := DataW.trod_int Tryz.underlying3 h1
  simp at e0 e1
  exact ⟨a, b, by rw [e0, e1], i64B_of w0, i64B_of w1⟩

/-- The argument of the laws of layer 28. -/
def RdCase (w : World) (v : Value) (l : List Bnd) (now age rev : Int) (costs : List RR) (mask : List Bool) (lr lh : Int) : Prop :=
  ∃ vl vc vm, v = .agg #[vl, .int .i64 now, .int .i64 age, .int .i64 rev, vc, vm, .int .i64 lr, .int .i64 lh] ∧ RdN 3 w vl (l.map fun x : Bnd => [.int .u8 x.1, .int .i64 x.2.1, .int .i64 x.2.2]) ∧ RdRs w vc costs ∧ Rd w vm (mask.map Value.bool) ∧
    (∀ i, i < costs.length → LimR (costs.getD i zR)) ∧ i64B now ∧ i64B age ∧ i64B rev ∧ i64B lr ∧ i64B lh
set_option maxRecDepth 100000 in
theorem open_case28 {r : Reach} {b0 : Nat} {v : Value} {d : DataW H} {p : List MemPlace} (hv : Value.okWide Tryz.prog w r b0 53 v) (h : DataW.Trod enc Tryz.prog w base spare held 53 v d p) :
    ∃ l now age rev costs mask lr lh, RdCase w v l now age rev costs mask lr lh := by
  obtain ⟨cs, rfl, _⟩ := okWide_struct Tryz.underlying53 hv
  obtain ⟨n, hf⟩ := h
  obtain ⟨xs, m, _, _, hl, hx, hf⟩ := DataW.trod_struct Tryz.underlying53 hf
  obtain ⟨c0, c1, c2, c3, c4, c5, c6, c7, hcs⟩ := lst8 (hl.trans Tryz.cellsC28)
  obtain ⟨y0, y1, y2, y3, y4, rfl⟩ := lst5 hx
  have h0 := hf 0 _ rfl; have h1 := hf 1 _ rfl; have h2 := hf 2 _ rfl; have h3 := hf 3 _ rfl; have h4 := hf 4 _ rfl
  have hcs' : cs.toList = [c0, c1, c2, c3, c4, c5, c6, c7] := hcs
  simp [Value.cells, hcs', Tryz.cellsBs, Tryz.cellsMem, Tryz.cellsRs, Tryz.cellsBl, Tryz.cellsLim] at h0 h1 h2 h3 h4
  obtain ⟨vl, l, e0, hr0⟩ := rdBnd_of_trod h0
  obtain ⟨now, age, rev, e1, b1, b2, b3⟩ := trod_mem h1
  obtain ⟨vc, costs, e2, hr2, hlm⟩ := rdRs_of_trod h2
  obtain ⟨vm, mask, e3, hr3⟩ := rdBs_of_trod h3
  obtain ⟨lr, lh, e4, b4, b5⟩ := trod_lim h4
  simp at e0 e1 e2 e3 e4
  refine ⟨l, now, age, rev, costs, mask, lr, lh, vl, vc, vm, ?_, hr0, hr2, hr3, hlm, b1, b2, b3, b4, b5⟩
  rw [← Array.toArray_toList (xs := cs), hcs', e0, e1.1, e1.2.1, e1.2.2, e2, e3, e4.1, e4.2]
end

end Go.Proofs.YthkfkfbfblppeaaGreat
