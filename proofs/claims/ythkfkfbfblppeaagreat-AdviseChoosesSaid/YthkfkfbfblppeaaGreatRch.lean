/- Walk of the reference of layer 28: Choose (written by mkrch.py). Conditions: the arguments read as slices. -/
import Derived.Test.YthkfkfbfblppeaaGreatRall
import Derived.Test.YthkfkfbfblppeaaGreatAdvP
import Derived.Test.YthkfkfbfblppeaaGreatAdvC
namespace Go.Proofs.YthkfkfbfblppeaaGreat
set_option linter.unusedSimpArgs false
set_option linter.unusedVariables false
open Go.RowKit

/-- The results of the reference's Choose: they may lie in the arguments' memory. -/
def ResD (w' : World) (e : Ending) (r : (Int × Int × RR) × (Int × Int × Int) × Int) : Prop :=
  ∃ vn vd, e = .returned (.tuple #[.agg #[.int .i64 r.1.1, .int .u8 r.1.2.1, .bool r.1.2.2.neg, vn, vd], .agg #[.int .i64 r.2.1.1, .int .i64 r.2.1.2.1, .int .i64 r.2.1.2.2], .int .i64 r.2.2]) ∧ RdI .u32 w' vn r.1.2.2.num ∧ RdI .u32 w' vd r.1.2.2.den
theorem ResD.zero {w' : World} {x : Int} {r : (Int × Int × RR) × (Int × Int × Int) × Int} (e : r = ((0, 0, zR), (0, 0, 0), x)) : ResD w' (.returned (.tuple #[.agg #[.int .i64 0, .int .u8 0, .bool false, .slice none 0 0, .slice none 0 0], .agg #[.int .i64 0, .int .i64 0, .int .i64 0], .int .i64 x])) r := by
  subst e; exact ⟨_, _, rfl, ⟨none, 0, rfl, Nat.le_refl _, by omega, fun i hi => by cases hi⟩, ⟨none, 0, rfl, Nat.le_refl _, by omega, fun i hi => by cases hi⟩⟩
/-- What both masks allow. -/
def andL (may mask : List Bool) : List Bool := (List.range may.length).map fun i => may.getD i false && mask.getD i false
theorem andL_len (may mask : List Bool) : (andL may mask).length = may.length := by simp [andL]
theorem andL_at {may mask : List Bool} {i : Nat} (h : i < may.length) : (andL may mask).getD i false = (may.getD i false && mask.getD i false) := by
  unfold andL
  rw [List.getD_eq_getElem?_getD, List.getElem?_map, List.getElem?_range h]
  rfl
theorem pick_congr {f g : Nat → Nat → Bool} {M M' n : Nat} (h : ∀ i, i < n → allow f M i = allow g M' i) : pick f M n = pick g M' n := by
  unfold pick
  exact List.filter_congr (fun i hi => h i (List.mem_range.1 hi))
theorem pick_and {may mask : List Bool} {n : Nat} (h : may.length = n) : pickL [andL may mask] n = pickL [mask, may] n := by
  refine pick_congr (fun i hi => ?_)
  unfold allow mskF
  simp only [List.length_cons, List.length_nil, List.range_succ, List.range_zero, List.nil_append, List.all_append, List.all_cons, List.all_nil, Bool.and_true, List.cons_append, List.getD_cons_zero, List.getD_cons_succ]
  rw [andL_at (by omega), Bool.and_comm]
/-- Three cells of a block. -/
def Ct3 (W : World) (b o : Nat) (x y z : Value) : Prop := b < W.heap.size ∧ W.cell? ⟨b, o, none⟩ = some x ∧ W.cell? ⟨b, o + 1, none⟩ = some y ∧ W.cell? ⟨b, o + 2, none⟩ = some z
theorem Ct3.ext {W W' : World} {b o : Nat} {x y z : Value} (h : Ct3 W b o x y z) (e : Ext W W') : Ct3 W' b o x y z :=
  ⟨Nat.lt_of_lt_of_le h.1 e.size, (e.cell (p := ⟨b, o, none⟩) h.1).trans h.2.1, (e.cell (p := ⟨b, o + 1, none⟩) h.1).trans h.2.2.1, (e.cell (p := ⟨b, o + 2, none⟩) h.1).trans h.2.2.2⟩
theorem Ct3.drew {W : World} {b o : Nat} {x y z : Value} (h : Ct3 W b o x y z) : Ct3 W.drew b o x y z := h.ext (Ext.refl _).drew
theorem Ct3.set {W : World} {b o : Nat} {x y z : Value} (h : Ct3 W b o x y z) {a : Addr} (hne : b ≠ a.block) (v : Value) : Ct3 (W.setCell a v) b o x y z := by
  have hb : (W.setCell a v).heap[b]? = W.heap[b]? := Below.heap_setCell W a v b hne
  exact ⟨by rw [World.size_setCell]; exact h.1, (World.cell?_of_block hb).trans h.2.1, (World.cell?_of_block hb).trans h.2.2.1, (World.cell?_of_block hb).trans h.2.2.2⟩

theorem resD_mk {w W : World} {va vd : Option Addr} {vc ve : Nat} {r : RR} {n K m1 m2 m3 : Int} {R : (Int × Int × RR) × (Int × Int × Int) × Int} (h : RdR w (.agg #[.bool r.neg, .slice va r.num.length vc, .slice vd r.den.length ve]) r) (e : R = ((n, K, r), (m1, m2, m3), 0)) (x : Ext w W) :
    ResD W (.returned (.tuple #[.agg #[.int .i64 n, .int .u8 K, .bool r.neg, .slice va r.num.length vc, .slice vd r.den.length ve], .agg #[.int .i64 m1, .int .i64 m2, .int .i64 m3], .int .i64 0])) R ∧ Ext w W := by
  subst e
  obtain ⟨vn', vd', he, h1, h2⟩ := h.ext x
  injection he with he
  injection he with he
  injection he with _ he
  injection he with e1 he
  injection he with e2 _
  subst e1; subst e2
  exact ⟨⟨_, _, rfl, h1, h2⟩, x⟩

set_option maxRecDepth 100000 in
set_option maxHeartbeats 8000000 in
theorem refChoose_any (vl vc vm : Value) (l : List Bnd) (now age rev : Int) (costs : List RR) (mask : List Bool) (lr lh : Int) (w : World) (hl : RdBnd w vl l) (hc : RdRs w vc costs) (hm : Rd w vm (mask.map Value.bool)) (hlm : LimRs costs) (ga : -9223372036854775808 ≤ age) (gr : -9223372036854775808 ≤ rev) :
    Calls Tryz.prog 34 #[vl, .agg #[.int .i64 now, .int .i64 age, .int .i64 rev], vc, vm, .agg #[.int .i64 lr, .int .i64 lh]] w fun e w' => ResD w' e (chooseS l now age rev costs mask lr lh) ∧ Ext w w' := by
  have HL := Lib.hid hl; have HC := Lib.hid hc; have HM := Lib.hid hm; have HLM := Lib.hid hlm
  obtain ⟨al, cl, rfl, hlc, hlm1, -⟩ := hl.get
  obtain ⟨ac, cc, rfl, hcc, hcm, f, hr⟩ := hc.get
  obtain ⟨am, cm, rfl, hmc, hmm, -⟩ := rdB_get hm
  have hll : l.length ≤ 9223372036854775807 := by omega
  have hcl : costs.length ≤ 9223372036854775807 := by omega
  have hml : mask.length ≤ 9223372036854775807 := by omega
  have HR := Lib.hid hr
  clear hl hc hm hlm hlc hlm1 hcc hcm hmc hmm hr
  have bb0 := ((((Blk.new w #[.int .i64 now, .int .i64 age, .int .i64 rev] 47).alloc (.cells #[.int .i64 lr, .int .i64 lh] 51)).alloc (.cells #[.int .i64 0, .int .u8 0, .bool false, .slice none 0 0, .slice none 0 0] 64)).alloc (.cells #[.int .i64 0, .int .i64 0, .int .i64 0] 47))
  have bb1 := (((Blk.new (w.alloc (.cells #[.int .i64 now, .int .i64 age, .int .i64 rev] 47)) #[.int .i64 lr, .int .i64 lh] 51).alloc (.cells #[.int .i64 0, .int .u8 0, .bool false, .slice none 0 0, .slice none 0 0] 64)).alloc (.cells #[.int .i64 0, .int .i64 0, .int .i64 0] 47))
  have bb2 := ((Blk.new ((w.alloc (.cells #[.int .i64 now, .int .i64 age, .int .i64 rev] 47)).alloc (.cells #[.int .i64 lr, .int .i64 lh] 51)) #[.int .i64 0, .int .u8 0, .bool false, .slice none 0 0, .slice none 0 0] 64).alloc (.cells #[.int .i64 0, .int .i64 0, .int .i64 0] 47))
  have bb3 := (Blk.new (((w.alloc (.cells #[.int .i64 now, .int .i64 age, .int .i64 rev] 47)).alloc (.cells #[.int .i64 lr, .int .i64 lh] 51)).alloc (.cells #[.int .i64 0, .int .u8 0, .bool false, .slice none 0 0, .slice none 0 0] 64)) #[.int .i64 0, .int .i64 0, .int .i64 0] 47)
  rw [World.size_alloc] at bb1
  rw [World.size_alloc, World.size_alloc] at bb2
  rw [World.size_alloc, World.size_alloc, World.size_alloc] at bb3
  have x0 : Ext w ((((w.alloc (.cells #[.int .i64 now, .int .i64 age, .int .i64 rev] 47)).alloc (.cells #[.int .i64 lr, .int .i64 lh] 51)).alloc (.cells #[.int .i64 0, .int .u8 0, .bool false, .slice none 0 0, .slice none 0 0] 64)).alloc (.cells #[.int .i64 0, .int .i64 0, .int .i64 0] 47)) := (((((Ext.refl w).alloc _).alloc _).alloc _).alloc _)
  have A0 := Lib.hid bb0; have A1 := Lib.hid bb1; have A2 := Lib.hid bb2; have A3 := Lib.hid bb3; have X := Lib.hid x0
  clear x0 bb0 bb1 bb2 bb3
  have HL := Lib.hid (HL.out.ext X.out); have HC := Lib.hid (HC.out.ext X.out); have HM := Lib.hid (HM.out.ext X.out)
  have A0h := A0; have A1h := A1; have A2h := A2; have A3h := A3; have HLh := HL; have HCh := HC; have HMh := HM; have Xh := X
  go_enter Tryz.func34, Tryz.ntmps34
  have qA0 := A0.out.cell; have fA0 := A0.out.free; have lA0 := A0.out.lt; have qA1 := A1.out.cell; have fA1 := A1.out.free; have lA1 := A1.out.lt
  have hal := fun W h => refAllowed28_any (.slice al l.length cl) l now age rev lr lh W h
  obtain ⟨S, hS⟩ : ∃ S, S = allowS l now age rev lr lh := ⟨_, rfl⟩
  rw [← hS] at hal
  have HAL := Lib.hid hal; clear hal
  go_wp2_with fail
  refine (HAL.out _ HL.out).mono ?_
  rintro e w1 ⟨⟨v1, rfl, ho⟩, hx⟩
  clear qA0 fA0 lA0 qA1 fA1 lA1
  have A0 := Lib.hid (A0.out.ext hx); have A1 := Lib.hid (A1.out.ext hx); have A2 := Lib.hid (A2.out.ext hx); have A3 := Lib.hid (A3.out.ext hx); have HL := Lib.hid (HL.out.ext hx); have HC := Lib.hid (HC.out.ext hx); have HM := Lib.hid (HM.out.ext hx); have X := Lib.hid (X.out.trans hx)
  have HO := Lib.hid ho; have XA := Lib.hid hx
  clear ho hx HAL
  by_cases h1 : S.2 = 0
  rotate_left
  · have E := Lib.hid (chooseS_1 (costs := costs) (mask := mask) (by rw [← hS]; exact h1))
    rw [← hS] at E
    obtain ⟨c, hc⟩ : ∃ c, c = S.2 := ⟨_, rfl⟩
    rw [← hc] at E h1 ⊢
    have q1 : (c != 0) = true := by simpa using h1
    have q2 : (c == 0) = false := by simpa using h1
    obtain ⟨sa, sc, hsa⟩ : ∃ a c, v1 = .slice a S.1.length c := by
      rcases HO.out.2 with ⟨e, h0⟩ | ⟨g, cap, cur, e, _⟩
      · exact ⟨none, 0, by rw [h0]; exact e⟩
      · exact ⟨_, _, e⟩
    subst hsa
    clear h1 hc
    have qA2 := A2.out.cell; have fA2 := A2.out.free; have lA2 := A2.out.lt; have qA3 := A3.out.cell; have fA3 := A3.out.free; have lA3 := A3.out.lt
    go_wp2_with fail
    refine bodyPost_ret (v := .tuple #[.agg #[.int .i64 0, .int .u8 0, .bool false, .slice none 0 0, .slice none 0 0], .agg #[.int .i64 0, .int .i64 0, .int .i64 0], .int .i64 c]) (by simp only [results, Tryz.results34]; go_simp) rfl ⟨ResD.zero E.out, ?_⟩
    have := X.out; (repeat (first | (with_reducible exact Ext.refl _) | (with_reducible assumption) | (with_reducible refine Ext.alloc ?_ _) | ((with_reducible refine Ext.setp ?_ ?_); focus (dsimp only; omega)) | (with_reducible refine Ext.drew ?_) | (with_reducible refine Ext.drewN ?_ _) | (with_reducible refine Ext.trans ?_ (by assumption))))
  have hS0 := allowS_0 (l := l) (now := now) (age := age) (rev := rev) (lr := lr) (lh := lh) (by rw [← hS]; exact h1)
  obtain ⟨hac, ⟨ni, hnow, hni⟩, hme, -, hal1⟩ := hS0
  have hto : now.toNat = ni := by omega
  rw [← hS, hto] at hal1
  have hl6 := achk_len hac
  have hS1l : S.1.length = l.length := by rw [hal1, allowL_len]
  have ho := HO.out
  rcases ho.2 with ⟨-, h0⟩ | ⟨g, cap, cur, rfl, hgB, hgb, hn, hcm, hcs, htk⟩
  · omega
  rw [h1]
  rw [hS1l] at htk hn ⊢
  have HGB := Lib.hid hgB
  have HB := Lib.hid (show Blk w1 g cur 4 from hgb)
  have HTK := Lib.hid htk; have HN := Lib.hid (And.intro hn hcm)
  clear ho hgb hcm hn htk hcs hgB HO
  by_cases h2 : costs.length = l.length
  rotate_left
  · have E := Lib.hid (chooseS_2 (costs := costs) (mask := mask) (by rw [← hS]; exact h1) (.inl h2))
    have q2 : ((costs.length : Int) != (l.length : Int)) = true := bne_iff_ne.2 (by omega)
    clear h2
    have qA2 := A2.out.cell; have fA2 := A2.out.free; have lA2 := A2.out.lt; have qA3 := A3.out.cell; have fA3 := A3.out.free; have lA3 := A3.out.lt
    go_wp2_with fail
    refine bodyPost_ret (v := .tuple #[.agg #[.int .i64 0, .int .u8 0, .bool false, .slice none 0 0, .slice none 0 0], .agg #[.int .i64 0, .int .i64 0, .int .i64 0], .int .i64 16]) (by simp only [results, Tryz.results34]; go_simp) rfl ⟨ResD.zero E.out, ?_⟩
    have := X.out; (repeat (first | (with_reducible exact Ext.refl _) | (with_reducible assumption) | (with_reducible refine Ext.alloc ?_ _) | ((with_reducible refine Ext.setp ?_ ?_); focus (dsimp only; omega)) | (with_reducible refine Ext.drew ?_) | (with_reducible refine Ext.drewN ?_ _) | (with_reducible refine Ext.trans ?_ (by assumption))))
  have q2 : ((costs.length : Int) != (l.length : Int)) = false := by simp [h2]
  by_cases h3 : mask.length = l.length
  rotate_left
  · have E := Lib.hid (chooseS_2 (costs := costs) (mask := mask) (by rw [← hS]; exact h1) (.inr h3))
    have q3 : ((mask.length : Int) != (l.length : Int)) = true := bne_iff_ne.2 (by omega)
    clear h2 h3
    have qA2 := A2.out.cell; have fA2 := A2.out.free; have lA2 := A2.out.lt; have qA3 := A3.out.cell; have fA3 := A3.out.free; have lA3 := A3.out.lt
    go_wp2_with fail
    refine bodyPost_ret (v := .tuple #[.agg #[.int .i64 0, .int .u8 0, .bool false, .slice none 0 0, .slice none 0 0], .agg #[.int .i64 0, .int .i64 0, .int .i64 0], .int .i64 16]) (by simp only [results, Tryz.results34]; go_simp) rfl ⟨ResD.zero E.out, ?_⟩
    have := X.out; (repeat (first | (with_reducible exact Ext.refl _) | (with_reducible assumption) | (with_reducible refine Ext.alloc ?_ _) | ((with_reducible refine Ext.setp ?_ ?_); focus (dsimp only; omega)) | (with_reducible refine Ext.drew ?_) | (with_reducible refine Ext.drewN ?_ _) | (with_reducible refine Ext.trans ?_ (by assumption))))
  have q3 : ((mask.length : Int) != (l.length : Int)) = false := by simp [h3]
  have hck := fun W (h : RdRs W (.slice ac costs.length cc) costs) => refRats_any _ costs W h HLM.out
  have HCK := Lib.hid hck; have H2 := Lib.hid h2; have H3 := Lib.hid h3
  clear hck h2 h3
  go_wp2_with fail
  refine (HCK.out _ HC.out).mono ?_
  rintro e w2 ⟨rfl, hx⟩
  have A0 := Lib.hid (A0.out.ext hx); have A1 := Lib.hid (A1.out.ext hx); have A2 := Lib.hid (A2.out.ext hx); have A3 := Lib.hid (A3.out.ext hx); have HL := Lib.hid (HL.out.ext hx); have HC := Lib.hid (HC.out.ext hx); have HM := Lib.hid (HM.out.ext hx); have X := Lib.hid (X.out.trans hx)
  have HB := Lib.hid (HB.out.ext hx); have XA := Lib.hid (XA.out.trans hx)
  clear hx HCK q2 q3
  by_cases h4 : chkRs costs = 0
  rotate_left
  · have E := Lib.hid (chooseS_3 (by rw [← hS]; exact h1) H2.out H3.out h4)
    obtain ⟨c, hc⟩ : ∃ c, c = chkRs costs := ⟨_, rfl⟩
    rw [← hc] at E h4 ⊢
    have q1 : (c != 0) = true := by simpa using h4
    have q2 : (c == 0) = false := by simpa using h4
    clear h4 hc
    have qA2 := A2.out.cell; have fA2 := A2.out.free; have lA2 := A2.out.lt; have qA3 := A3.out.cell; have fA3 := A3.out.free; have lA3 := A3.out.lt
    go_wp2_with fail
    refine bodyPost_ret (v := .tuple #[.agg #[.int .i64 0, .int .u8 0, .bool false, .slice none 0 0, .slice none 0 0], .agg #[.int .i64 0, .int .i64 0, .int .i64 0], .int .i64 c]) (by simp only [results, Tryz.results34]; go_simp) rfl ⟨ResD.zero E.out, ?_⟩
    have := X.out; (repeat (first | (with_reducible exact Ext.refl _) | (with_reducible assumption) | (with_reducible refine Ext.alloc ?_ _) | ((with_reducible refine Ext.setp ?_ ?_); focus (dsimp only; omega)) | (with_reducible refine Ext.drew ?_) | (with_reducible refine Ext.drewN ?_ _) | (with_reducible refine Ext.trans ?_ (by assumption))))
  rw [h4]
  have E4 : Hid (bestC costs mask S.1 = none → chooseS l now age rev costs mask lr lh = ((0, 0, zR), (0, 0, 0), 9)) := Lib.hid fun h => chooseS_4 (by rw [← hS]; exact h1) H2.out H3.out h4 (by rw [← hS]; exact h)
  have E5 : Hid (∀ b : Nat, bestC costs mask S.1 = some b → b < costs.length ∧ chooseS l now age rev costs mask lr lh = ((((b : Nat) : Int), chg l ni b, costs.getD b zR), nextV (chg l ni b) age rev (b : Nat), 0)) := Lib.hid fun b h => ⟨bestC_lt h, by rw [← hto]; exact chooseS_5 (by rw [← hS]; exact h1) H2.out H3.out h4 (by rw [← hS]; exact h)⟩
  have HLC := Lib.hid (show LimRs costs from HLM.out)
  obtain ⟨may, hmay⟩ : ∃ m, m = S.1 := ⟨_, rfl⟩
  rw [← hmay] at E4 E5 HTK hS1l
  have HNOW := Lib.hid hnow; have HML := Lib.hid hS1l; have HME := Lib.hid hme; have HNI := Lib.hid hni; have HAC := Lib.hid hac
  clear hS h1 h4 hmay hal1 hS1l hme hac HLM hcl hml hnow hto hni
  obtain ⟨hl6, hl0⟩ := hl6
  have hcur : ∀ i, i < l.length → cur[i]? = some (.bool (may.getD i false)) := fun i hi => by
    have h9 : (cur.toList.take (l.length * 1))[i]? = (may.map Value.bool)[i]? := by rw [HTK.out]
    have e8 : (may.map Value.bool)[i]? = some (.bool (may.getD i false)) := by
      rw [List.getElem?_map, List.getD_eq_getElem?_getD, List.getElem?_eq_getElem (show i < may.length by rw [HML.out]; exact hi)]; rfl
    rw [List.getElem?_take_of_lt (by omega), e8] at h9
    simpa using h9
  have HCUR := Lib.hid hcur
  clear hcur HTK
  obtain ⟨wl, hwl⟩ : ∃ W, W = w2 := ⟨_, rfl⟩
  rw [← hwl] at X A0 A1 A2 A3 HL HC HM HB XA ⊢
  clear hwl
  go_wp2_with fail
  go_loopw [15] (fun i wr => ∃ (k : Nat) (ck : Array Value), k ≤ l.length ∧ i = .int .i64 k ∧ Gr (some g) wl wr ∧ Blk wr g ck 4 ∧ ∀ j, j < l.length → ck[j]? = some (.bool (may.getD j false && (decide (k ≤ j) || mask.getD j false)))) (fun i _ => l.length - (intOf i).toNat)
  case atStart => exact ⟨0, cur, by omega, rfl, Gr.refl _ _, HB.out, fun j hj => by rw [HCUR.out j hj]; simp⟩
  case round =>
    obtain ⟨wk, hwk⟩ : ∃ W, W = wr := ⟨_, rfl⟩
    subst hwk
    obtain ⟨k, ck, hk, rfl, hgr, hbk, hck⟩ := hrel
    have HG := Lib.hid hgr; have HBK := Lib.hid hbk; have HCK := Lib.hid hck
    have hxg := ((Gr.of_ext (o := none) XA.out).fresh hgr (fun g9 hg9 => .inr (by cases hg9; exact HGB.out))).ext
    by_cases hlt : k < l.length
    · obtain ⟨bm, om, e1, sm1, sm2⟩ : ∃ b o, am = some ⟨b, o, none⟩ ∧ b < wk.heap.size ∧ wk.cell? ⟨b, o + k, none⟩ = some (.bool (mask.getD k false)) := by
        have hm9 := HMh.out.ext hxg
        obtain ⟨a9, c9, e9, _, _, h9⟩ := rdB_get hm9
        injection e9 with e1 _ _
        subst e1
        obtain ⟨b9, o9, e1, e2, e3⟩ := h9 k (by have := H3.out; omega)
        exact ⟨b9, o9, e1, e2, e3⟩
      subst e1
      have c0 := hbk.cell k
      rw [hck k hlt] at c0
      have f1 := hbk.free k; have l1 := hbk.lt
      have q1 : (0 : Int) ≤ (k : Int) := by omega
      have q2 : (k : Int) < (l.length : Int) := by omega
      have q3 : (k : Int) < (mask.length : Int) := by have := H3.out; omega
      obtain ⟨x, hx⟩ : ∃ x, x = may.getD k false := ⟨_, rfl⟩
      obtain ⟨y, hy⟩ : ∃ y, y = mask.getD k false := ⟨_, rfl⟩
      have c1 : wk.cell? ⟨g, k, none⟩ = some (.bool x) := by rw [c0, hx]; simp
      clear c0
      rw [← hy] at sm2
      have hset : ∀ v, v = (x && y) → ∀ j, j < l.length → (ck.setIfInBounds k (.bool v))[j]? = some (.bool (may.getD j false && (decide (k + 1 ≤ j) || mask.getD j false))) := fun v hv j hj => by
        rw [Array.getElem?_setIfInBounds]
        by_cases e : k = j
        · subst e
          have hsz : k < ck.size := (Array.getElem?_eq_some_iff.1 (hck k hlt)).1
          rw [if_pos rfl, if_pos hsz, hv, hx, hy, decide_eq_false (by omega : ¬ k + 1 ≤ k), Bool.false_or]
        · rw [if_neg e, hck j hj]
          have : decide (k + 1 ≤ j) = decide (k ≤ j) := decide_eq_decide.2 (by omega)
          rw [this]
      have HSET := Lib.hid hset
      clear hset hck hbk hgr hxg hx hy
      cases x
      · go_wp2_with fail
        go_roundw
        case rel => exact ⟨k + 1, ck.setIfInBounds k (.bool false), by omega, by go_num, HG.out.set _ _, HBK.out.set k _, HSET.out _ (by simp)⟩
        case measure => simp [intOf]; omega
      · go_wp2_with fail
        go_roundw
        case rel => exact ⟨k + 1, ck.setIfInBounds k (.bool y), by omega, by go_num, HG.out.set _ _, HBK.out.set k _, HSET.out _ (by simp)⟩
        case measure => simp [intOf]; omega
    obtain rfl : k = l.length := by omega
    have q1 : ¬ (l.length : Int) < (l.length : Int) := by omega
    have A0 := Lib.hid (A0h.out.ext hxg); have A1 := Lib.hid (A1h.out.ext hxg); have A2 := Lib.hid (A2h.out.ext hxg); have A3 := Lib.hid (A3h.out.ext hxg); have HL := Lib.hid (HLh.out.ext hxg); have HC := Lib.hid (HCh.out.ext hxg); have HM := Lib.hid (HMh.out.ext hxg); have X := Lib.hid (Xh.out.trans hxg)
    have hand : Rd wk (.slice (some ⟨g, 0, none⟩) l.length cap) ((andL may mask).map Value.bool) := by
      have hle : (andL may mask).length = l.length := by rw [andL_len, HML.out]
      refine ⟨_, cap, by rw [List.length_map, hle], by rw [List.length_map, hle]; exact HN.out.1, by have := HN.out.2; unfold maxLen at this; omega, fun i hi => ⟨g, 0, rfl, hbk.lt, ?_⟩⟩
      rw [List.length_map, hle] at hi
      rw [Nat.zero_add, hbk.cell, hck i hi, decide_eq_false (by omega : ¬ l.length ≤ i), Bool.false_or, ← andL_at (by rw [HML.out]; exact hi)]
      rw [List.getD_eq_getElem?_getD, List.getElem?_eq_getElem (by rw [hle]; exact hi)]
      simp
      rw [List.getElem?_eq_getElem (by rw [hle]; exact hi)]
      rfl
    have hb2 : bestF costs (pickL [andL may mask] costs.length) = bestF costs (pickL [mask, may] costs.length) := by rw [pick_and (by rw [HML.out, H2.out])]
    have hle := fun W (hc : RdRs W (.slice ac costs.length cc) costs) h => refLeast0_any (.slice ac costs.length cc) (.slice (some ⟨g, 0, none⟩) l.length cap) costs (andL may mask) W hc h HLC.out (by rw [andL_len, HML.out, H2.out]; exact Nat.le_refl _)
    rw [hb2] at hle
    have hlm := fun W (hc : RdRs W (.slice ac costs.length cc) costs) h => refLeast0_any (.slice ac costs.length cc) (.slice am mask.length cm) costs mask W hc h HLC.out (by rw [H2.out, H3.out]; exact Nat.le_refl _)
    have hbc : bestC costs mask may = if (bestF costs (pickL [mask, may] costs.length)).isSome = true then bestF costs (pickL [mask, may] costs.length) else bestF costs (pickL [mask] costs.length) := rfl
    obtain ⟨b2, hB2⟩ : ∃ b, b = bestF costs (pickL [mask, may] costs.length) := ⟨_, rfl⟩
    obtain ⟨b1, hB1⟩ : ∃ b, b = bestF costs (pickL [mask] costs.length) := ⟨_, rfl⟩
    rw [← hB2] at hle hbc
    rw [← hB1] at hlm hbc
    rw [hbc] at E4 E5
    have HLE := Lib.hid hle; have HLM2 := Lib.hid hlm; have HAND := Lib.hid hand
    clear hle hlm hand hb2 hB2 hB1 hbc hgr hbk hck hxg HG HBK HCK A0h A1h A2h A3h HLh HCh HMh Xh XA HB HML HCUR HN
    go_wp2_with fail
    refine (HLE.out _ HC.out HAND.out).mono ?_
    rintro e w3 ⟨rfl, hx⟩
    have A0 := Lib.hid (A0.out.ext hx); have A1 := Lib.hid (A1.out.ext hx); have A2 := Lib.hid (A2.out.ext hx); have A3 := Lib.hid (A3.out.ext hx); have HL := Lib.hid (HL.out.ext hx); have HC := Lib.hid (HC.out.ext hx); have HM := Lib.hid (HM.out.ext hx); have X := Lib.hid (X.out.trans hx)
    clear hx HLE HAND
    cases b2 with
    | some j =>
      obtain ⟨hj, hE⟩ := E5.out j (by simp)
      have E := Lib.hid hE; have HJ := Lib.hid hj
      clear hE hj E4 E5 HLM2
      have qj : ¬ (j : Int) < 0 := by omega
      dsimp only [idxB]
      have hj := HJ.out
      obtain ⟨cb, co, e1, s0, s1, s2, s3, hrd⟩ := HR.out j hj
      subst e1
      have CT := Lib.hid (show Ct3 w cb (co + j * 3) _ _ _ from ⟨s0, s1, s2, s3⟩)
      have CB := Lib.hid (show cb < w.heap.size from s0)
      have CT := Lib.hid (CT.out.ext X.out)
      have HRD := Lib.hid hrd
      have hj2 : j < l.length := by have := H2.out; omega
      have hnx := fun W h => refNext_any (.slice al l.length cl) l now age rev j W h ga gr
      rw [show nextS l now age rev j = (nextV (chg l ni j) age rev j, 0) from by rw [HNOW.out]; exact nextS_0 HAC.out HNI.out hj2 HME.out] at hnx
      have hch := fun W h => refChange_any (.slice al l.length cl) l ni j W h HNI.out hj2
      rw [← HNOW.out] at hch
      obtain ⟨K, hK⟩ : ∃ K, K = chg l ni j := ⟨_, rfl⟩
      obtain ⟨M, hM⟩ : ∃ M, M = nextV (chg l ni j) age rev j := ⟨_, rfl⟩
      obtain ⟨r, hrr⟩ : ∃ r, r = costs.getD j zR := ⟨_, rfl⟩
      rw [← hM, ← hK, ← hrr] at E
      rw [← hM] at hnx
      rw [← hK] at hch
      rw [← hrr] at CT HRD
      obtain ⟨m1, m2, m3⟩ := M
      unfold memW at hnx
      dsimp only at hnx
      have HNX := Lib.hid hnx; have HCH := Lib.hid hch
      have QJ := Lib.hid (show (0 : Int) ≤ (j : Int) ∧ (j : Int) < (costs.length : Int) from by omega)
      clear s0 s1 s2 s3 hrd hnx hch hK hM hrr hj hj2
      generalize (f j).1.1 = va at *
      generalize (f j).1.2 = vc at *
      generalize (f j).2.1 = vd at *
      generalize (f j).2.2 = ve at *
      have qA0 := A0.out.cell; have fA0 := A0.out.free; have lA0 := A0.out.lt
      go_wp2_with fail
      refine (HNX.out _ HL.out).mono ?_
      rintro e w4 ⟨rfl, hx⟩
      clear qA0 fA0 lA0
      have A0 := Lib.hid (A0.out.ext hx); have A2 := Lib.hid (A2.out.ext hx); have A3 := Lib.hid (A3.out.ext hx); have HL := Lib.hid (HL.out.ext hx); have CT := Lib.hid (CT.out.ext hx); have X := Lib.hid (X.out.trans hx)
      clear hx HNX
      have qA0 := A0.out.cell; have fA0 := A0.out.free; have lA0 := A0.out.lt
      go_wp2_with fail
      obtain ⟨wz, hwz⟩ : ∃ W, W = w4.alloc (.cells #[.int .i64 m1, .int .i64 m2, .int .i64 m3] 47) := ⟨_, rfl⟩
      have hx : Ext w4 wz := by rw [hwz]; exact (Ext.refl _).alloc _
      have bz : Blk wz w4.heap.size #[.int .i64 m1, .int .i64 m2, .int .i64 m3] 47 := by rw [hwz]; exact Blk.new _ _ _
      rw [← hwz]
      obtain ⟨nz, hnz⟩ : ∃ n, n = w4.heap.size := ⟨_, rfl⟩
      rw [← hnz] at bz ⊢
      have ez : w.heap.size + 1 + 1 < nz := by have := A2.out.lt; omega
      have ez3 : w.heap.size + 1 + 1 + 1 < nz := by have := A3.out.lt; omega
      clear qA0 fA0 lA0
      have A0 := Lib.hid (A0.out.ext hx); have A2 := Lib.hid (A2.out.ext hx); have A3 := Lib.hid (A3.out.ext hx); have HL := Lib.hid (HL.out.ext hx); have CT := Lib.hid (CT.out.ext hx); have X := Lib.hid (X.out.trans hx)
      have AZ := Lib.hid bz
      clear hx bz hwz hnz
      have hcb := CB.out; have hqj := QJ.out
      obtain ⟨qj1, qj2⟩ := hqj
      have qA0 := A0.out.cell; have fA0 := A0.out.free; have lA0 := A0.out.lt; have qAZ := AZ.out.cell; have fAZ := AZ.out.free; have lAZ := AZ.out.lt
      refine wp_region_held_drew (S := (fun W => (Blk W w.heap.size #[.int .i64 now, .int .i64 age, .int .i64 rev] 47 ∧ W.cell? ⟨w.heap.size, 0, none⟩ = some (.int .i64 now) ∧ W.cell? ⟨w.heap.size, 1, none⟩ = some (.int .i64 age) ∧ W.cell? ⟨w.heap.size, 2, none⟩ = some (.int .i64 rev)) ∧ (Blk W nz #[.int .i64 m1, .int .i64 m2, .int .i64 m3] 47 ∧ W.cell? ⟨nz, 0, none⟩ = some (.int .i64 m1) ∧ W.cell? ⟨nz, 1, none⟩ = some (.int .i64 m2) ∧ W.cell? ⟨nz, 2, none⟩ = some (.int .i64 m3)) ∧ (cb < W.heap.size ∧ W.cell? ⟨cb, co + j * 3, none⟩ = some (.bool r.neg) ∧ W.cell? ⟨cb, co + j * 3 + 1, none⟩ = some (.slice va r.num.length vc) ∧ W.cell? ⟨cb, co + j * 3 + 2, none⟩ = some (.slice vd r.den.length ve)))) (by kernel_rfl) ?_ (fun hHeld => ?_)
      · exact ⟨Blk.s3 A0.out.drew, Blk.s3 AZ.out.drew, CT.out.drew⟩
      refine wpAnyH_take (i := 0) (v := ?_) rfl (by kernel_rfl) (by kernel_rfl) (by kernel_rfl) (fun _ _ _ h => h) (Or.inl ⟨by rfl, ?_⟩) (by assumption) ?_
      rotate_left
      · (intro w hSw; (try dsimp only at hSw); go_simp; first | done | with_reducible rfl)
      (try simp only [Act.put, List.getElem_toArray, List.getElem_cons_zero, List.getElem_cons_succ, List.setIfInBounds_toArray, List.set_cons_zero, List.set_cons_succ])
      refine wpAnyH_take (i := 1) (v := ?_) rfl (by kernel_rfl) (by kernel_rfl) (by kernel_rfl) (fun _ _ _ h => h) (Or.inl ⟨by rfl, ?_⟩) (by assumption) ?_
      rotate_left
      · (intro w hSw; (try dsimp only at hSw); go_simp; first | done | with_reducible rfl)
      (try simp only [Act.put, List.getElem_toArray, List.getElem_cons_zero, List.getElem_cons_succ, List.setIfInBounds_toArray, List.set_cons_zero, List.set_cons_succ])
      refine wpAnyH_take (i := 2) (v := ?_) rfl (by kernel_rfl) (by kernel_rfl) (by kernel_rfl) (fun _ _ _ h => h) (Or.inl ⟨by rfl, ?_⟩) (by assumption) ?_
      rotate_left
      · (intro w hSw; (try dsimp only at hSw); go_simp; first | done | with_reducible rfl)
      (try simp only [Act.put, List.getElem_toArray, List.getElem_cons_zero, List.getElem_cons_succ, List.setIfInBounds_toArray, List.set_cons_zero, List.set_cons_succ])
      refine wpAnyH_take (i := 3) (v := ?_) rfl (by kernel_rfl) (by kernel_rfl) (by kernel_rfl) (fun _ _ _ h => h) (Or.inl ⟨by rfl, ?_⟩) (by assumption) ?_
      rotate_left
      · (intro w hSw; (try dsimp only at hSw); go_simp; first | done | with_reducible rfl)
      (try simp only [Act.put, List.getElem_toArray, List.getElem_cons_zero, List.getElem_cons_succ, List.setIfInBounds_toArray, List.set_cons_zero, List.set_cons_succ])
      refine wpAnyH_take (i := 4) (v := ?_) rfl (by kernel_rfl) (by kernel_rfl) (by kernel_rfl) (fun _ _ _ h => h) (Or.inl ⟨by rfl, ?_⟩) (by assumption) ?_
      rotate_left
      · (intro w hSw; (try dsimp only at hSw); go_simp; first | done | with_reducible rfl)
      (try simp only [Act.put, List.getElem_toArray, List.getElem_cons_zero, List.getElem_cons_succ, List.setIfInBounds_toArray, List.set_cons_zero, List.set_cons_succ])
      refine wpAnyH_take (i := 6) (v := ?_) rfl (by kernel_rfl) (by kernel_rfl) (by kernel_rfl) (fun _ _ _ h => h) (Or.inl ⟨by rfl, ?_⟩) (by assumption) ?_
      rotate_left
      · (intro w hSw; (try dsimp only at hSw); go_simp; first | done | with_reducible rfl)
      (try simp only [Act.put, List.getElem_toArray, List.getElem_cons_zero, List.getElem_cons_succ, List.setIfInBounds_toArray, List.set_cons_zero, List.set_cons_succ])
      refine wpAnyH_take (i := 7) (v := ?_) rfl (by kernel_rfl) (by kernel_rfl) (by kernel_rfl) (fun _ _ _ h => h) (Or.inl ⟨by rfl, ?_⟩) (by assumption) ?_
      rotate_left
      · (intro w hSw; (try dsimp only at hSw); go_simp; first | done | with_reducible rfl)
      (try simp only [Act.put, List.getElem_toArray, List.getElem_cons_zero, List.getElem_cons_succ, List.setIfInBounds_toArray, List.set_cons_zero, List.set_cons_succ])
      refine wpAnyH_take (i := 8) (v := ?_) rfl (by kernel_rfl) (by kernel_rfl) (by kernel_rfl) (fun _ _ _ h => h) (Or.inl ⟨by rfl, ?_⟩) (by assumption) ?_
      rotate_left
      · (intro w hSw; (try dsimp only at hSw); go_simp; first | done | with_reducible rfl)
      (try simp only [Act.put, List.getElem_toArray, List.getElem_cons_zero, List.getElem_cons_succ, List.setIfInBounds_toArray, List.set_cons_zero, List.set_cons_succ])
      refine wpAnyH_take (i := 9) (v := ?_) rfl (by kernel_rfl) (by kernel_rfl) (by kernel_rfl) (fun _ _ _ h => h) (Or.inl ⟨by rfl, ?_⟩) (by assumption) ?_
      rotate_left
      · (intro w hSw; (try dsimp only at hSw); go_simp; first | done | with_reducible rfl)
      (try simp only [Act.put, List.getElem_toArray, List.getElem_cons_zero, List.getElem_cons_succ, List.setIfInBounds_toArray, List.set_cons_zero, List.set_cons_succ])
      refine wpAnyH_take (i := 11) (v := ?_) rfl (by kernel_rfl) (by kernel_rfl) (by kernel_rfl) (fun _ _ _ h => h) (Or.inl ⟨by rfl, ?_⟩) (by assumption) ?_
      rotate_left
      · (intro w hSw; (try dsimp only at hSw); go_simp; first | done | with_reducible rfl)
      (try simp only [Act.put, List.getElem_toArray, List.getElem_cons_zero, List.getElem_cons_succ, List.setIfInBounds_toArray, List.set_cons_zero, List.set_cons_succ])
      refine wpAnyH_ready (rs := [5]) (by kernel_rfl) (by simp) ?_
      refine AllReadyH.cons rfl (fun K hK => ?_) ?_
      rotate_left
      · exact AllReadyH.nil
      go_simp
      refine (HCH.out _ (HL.out.ext (by first | exact Ext.refl _ | exact (Ext.refl _).drew))).mono ?_
      rintro e w5 ⟨rfl, hx⟩
      have hx := Ext.trans (show Ext wz _ from by first | exact Ext.refl _ | exact (Ext.refl _).drew) hx
      clear qA0 fA0 lA0 qAZ fAZ lAZ
      have A0 := Lib.hid (A0.out.ext hx); have A2 := Lib.hid (A2.out.ext hx); have A3 := Lib.hid (A3.out.ext hx); have HL := Lib.hid (HL.out.ext hx); have CT := Lib.hid (CT.out.ext hx); have AZ := Lib.hid (AZ.out.ext hx); have X := Lib.hid (X.out.trans hx)
      clear hx HCH
      first | refine hK.out _ _ ?_ (fun hHeld => ?_) | (go_wp2_with fail; refine hK.out _ _ ?_ (fun hHeld => ?_))
      · exact ⟨Blk.s3 A0.out, Blk.s3 AZ.out, CT.out⟩
      clear hK K
      (try simp only [Act.put, List.getElem_toArray, List.getElem_cons_zero, List.getElem_cons_succ, List.setIfInBounds_toArray, List.set_cons_zero, List.set_cons_succ])
      refine wpAnyH_take (i := 10) (v := ?_) rfl (by kernel_rfl) (by kernel_rfl) (by kernel_rfl) (fun _ _ _ h => h) (Or.inl ⟨by rfl, ?_⟩) (by assumption) ?_
      rotate_left
      · (intro w hSw; (try dsimp only at hSw); go_simp; first | done | with_reducible rfl)
      (try simp only [Act.put, List.getElem_toArray, List.getElem_cons_zero, List.getElem_cons_succ, List.setIfInBounds_toArray, List.set_cons_zero, List.set_cons_succ])
      have qA2 := A2.out.cell; have fA2 := A2.out.free; have lA2 := A2.out.lt
      refine wpAnyH_ready (rs := [12]) (by kernel_rfl) (by simp) ?_
      refine AllReadyH.cons rfl (fun K hK => ?_) ?_
      rotate_left
      · exact AllReadyH.nil
      go_simp
      first | refine hK.out _ _ ?_ (fun hHeld => ?_) | (go_wp2_with fail; refine hK.out _ _ ?_ (fun hHeld => ?_))
      · exact ⟨Blk.s3 (Blk.off5 A0.out (by omega) _ _ _ _ _), Blk.s3 (Blk.off5 AZ.out (by omega) _ _ _ _ _), Ct3.set (Ct3.set (Ct3.set (Ct3.set (Ct3.set CT.out (by dsimp only; omega) _) (by dsimp only; omega) _) (by dsimp only; omega) _) (by dsimp only; omega) _) (by dsimp only; omega) _⟩
      clear hK K
      (try simp only [Act.put, List.getElem_toArray, List.getElem_cons_zero, List.getElem_cons_succ, List.setIfInBounds_toArray, List.set_cons_zero, List.set_cons_succ])
      clear qA2 fA2 lA2
      have qA3 := A3.out.cell; have fA3 := A3.out.free; have lA3 := A3.out.lt
      refine wpAnyH_ready (rs := [13]) (by kernel_rfl) (by simp) ?_
      refine AllReadyH.cons rfl (fun K hK => ?_) ?_
      rotate_left
      · exact AllReadyH.nil
      go_simp
      first | refine hK.out _ _ ?_ (fun hHeld => ?_) | (go_wp2_with fail; refine hK.out _ _ ?_ (fun hHeld => ?_))
      · exact ⟨Blk.s3 (Blk.off3 (Blk.off5 A0.out (by omega) _ _ _ _ _) (by omega) _ _ _), Blk.s3 (Blk.off3 (Blk.off5 AZ.out (by omega) _ _ _ _ _) (by omega) _ _ _), Ct3.set (Ct3.set (Ct3.set (Ct3.set (Ct3.set (Ct3.set (Ct3.set (Ct3.set CT.out (by dsimp only; omega) _) (by dsimp only; omega) _) (by dsimp only; omega) _) (by dsimp only; omega) _) (by dsimp only; omega) _) (by dsimp only; omega) _) (by dsimp only; omega) _) (by dsimp only; omega) _⟩
      clear hK K
      (try simp only [Act.put, List.getElem_toArray, List.getElem_cons_zero, List.getElem_cons_succ, List.setIfInBounds_toArray, List.set_cons_zero, List.set_cons_succ])
      refine wpAnyH_ready (rs := [14]) (by kernel_rfl) (by simp) ?_
      refine AllReadyH.cons rfl (fun K hK => ?_) ?_
      rotate_left
      · exact AllReadyH.nil
      go_simp
      first | refine hK.out _ _ ?_ (fun hHeld => ?_) | (go_wp2_with fail; refine hK.out _ _ ?_ (fun hHeld => ?_))
      · exact ⟨Blk.s3 (Blk.off3 (Blk.off5 A0.out (by omega) _ _ _ _ _) (by omega) _ _ _), Blk.s3 (Blk.off3 (Blk.off5 AZ.out (by omega) _ _ _ _ _) (by omega) _ _ _), Ct3.set (Ct3.set (Ct3.set (Ct3.set (Ct3.set (Ct3.set (Ct3.set (Ct3.set CT.out (by dsimp only; omega) _) (by dsimp only; omega) _) (by dsimp only; omega) _) (by dsimp only; omega) _) (by dsimp only; omega) _) (by dsimp only; omega) _) (by dsimp only; omega) _) (by dsimp only; omega) _⟩
      clear hK K
      (try simp only [Act.put, List.getElem_toArray, List.getElem_cons_zero, List.getElem_cons_succ, List.setIfInBounds_toArray, List.set_cons_zero, List.set_cons_succ])
      refine wpAnyH_done (by kernel_rfl) ?_ _
      clear qA3 fA3 lA3
      have qA2 := A2.out.cell; have fA2 := A2.out.free; have lA2 := A2.out.lt; have qA3 := A3.out.cell; have fA3 := A3.out.free; have lA3 := A3.out.lt
      go_wp2_with fail
      refine bodyPost_ret (v := .tuple #[.agg #[.int .i64 j, .int .u8 K, .bool r.neg, .slice va r.num.length vc, .slice vd r.den.length ve], .agg #[.int .i64 m1, .int .i64 m2, .int .i64 m3], .int .i64 0]) (by simp only [results, Tryz.results34]; go_simp) rfl (resD_mk HRD.out E.out ?_)
      have := X.out; (repeat (first | (with_reducible exact Ext.refl _) | (with_reducible assumption) | (with_reducible refine Ext.alloc ?_ _) | ((with_reducible refine Ext.setp ?_ ?_); focus (dsimp only; omega)) | (with_reducible refine Ext.drew ?_) | (with_reducible refine Ext.drewN ?_ _) | (with_reducible refine Ext.trans ?_ (by assumption))))
    | none =>
      dsimp only [idxB]
      have qm : (-1 : Int) < 0 := by omega
      go_wp2_with fail
      refine (HLM2.out _ HC.out HM.out).mono ?_
      rintro e w4 ⟨rfl, hx⟩
      have A0 := Lib.hid (A0.out.ext hx); have A1 := Lib.hid (A1.out.ext hx); have A2 := Lib.hid (A2.out.ext hx); have A3 := Lib.hid (A3.out.ext hx); have HL := Lib.hid (HL.out.ext hx); have HC := Lib.hid (HC.out.ext hx); have HM := Lib.hid (HM.out.ext hx); have X := Lib.hid (X.out.trans hx)
      clear hx HLM2
      cases b1 with
      | some j =>
        obtain ⟨hj, hE⟩ := E5.out j (by simp)
        have E := Lib.hid hE; have HJ := Lib.hid hj
        clear hE hj E4 E5
        have qj : ¬ (j : Int) < 0 := by omega
        dsimp only [idxB]
        have hj := HJ.out
        obtain ⟨cb, co, e1, s0, s1, s2, s3, hrd⟩ := HR.out j hj
        subst e1
        have CT := Lib.hid (show Ct3 w cb (co + j * 3) _ _ _ from ⟨s0, s1, s2, s3⟩)
        have CB := Lib.hid (show cb < w.heap.size from s0)
        have CT := Lib.hid (CT.out.ext X.out)
        have HRD := Lib.hid hrd
        have hj2 : j < l.length := by have := H2.out; omega
        have hnx := fun W h => refNext_any (.slice al l.length cl) l now age rev j W h ga gr
        rw [show nextS l now age rev j = (nextV (chg l ni j) age rev j, 0) from by rw [HNOW.out]; exact nextS_0 HAC.out HNI.out hj2 HME.out] at hnx
        have hch := fun W h => refChange_any (.slice al l.length cl) l ni j W h HNI.out hj2
        rw [← HNOW.out] at hch
        obtain ⟨K, hK⟩ : ∃ K, K = chg l ni j := ⟨_, rfl⟩
        obtain ⟨M, hM⟩ : ∃ M, M = nextV (chg l ni j) age rev j := ⟨_, rfl⟩
        obtain ⟨r, hrr⟩ : ∃ r, r = costs.getD j zR := ⟨_, rfl⟩
        rw [← hM, ← hK, ← hrr] at E
        rw [← hM] at hnx
        rw [← hK] at hch
        rw [← hrr] at CT HRD
        obtain ⟨m1, m2, m3⟩ := M
        unfold memW at hnx
        dsimp only at hnx
        have HNX := Lib.hid hnx; have HCH := Lib.hid hch
        have QJ := Lib.hid (show (0 : Int) ≤ (j : Int) ∧ (j : Int) < (costs.length : Int) from by omega)
        clear s0 s1 s2 s3 hrd hnx hch hK hM hrr hj hj2
        generalize (f j).1.1 = va at *
        generalize (f j).1.2 = vc at *
        generalize (f j).2.1 = vd at *
        generalize (f j).2.2 = ve at *
        have qA0 := A0.out.cell; have fA0 := A0.out.free; have lA0 := A0.out.lt
        go_wp2_with fail
        refine (HNX.out _ HL.out).mono ?_
        rintro e w5 ⟨rfl, hx⟩
        clear qA0 fA0 lA0
        have A0 := Lib.hid (A0.out.ext hx); have A2 := Lib.hid (A2.out.ext hx); have A3 := Lib.hid (A3.out.ext hx); have HL := Lib.hid (HL.out.ext hx); have CT := Lib.hid (CT.out.ext hx); have X := Lib.hid (X.out.trans hx)
        clear hx HNX
        have qA0 := A0.out.cell; have fA0 := A0.out.free; have lA0 := A0.out.lt
        go_wp2_with fail
        obtain ⟨wz, hwz⟩ : ∃ W, W = w5.alloc (.cells #[.int .i64 m1, .int .i64 m2, .int .i64 m3] 47) := ⟨_, rfl⟩
        have hx : Ext w5 wz := by rw [hwz]; exact (Ext.refl _).alloc _
        have bz : Blk wz w5.heap.size #[.int .i64 m1, .int .i64 m2, .int .i64 m3] 47 := by rw [hwz]; exact Blk.new _ _ _
        rw [← hwz]
        obtain ⟨nz, hnz⟩ : ∃ n, n = w5.heap.size := ⟨_, rfl⟩
        rw [← hnz] at bz ⊢
        have ez : w.heap.size + 1 + 1 < nz := by have := A2.out.lt; omega
        have ez3 : w.heap.size + 1 + 1 + 1 < nz := by have := A3.out.lt; omega
        clear qA0 fA0 lA0
        have A0 := Lib.hid (A0.out.ext hx); have A2 := Lib.hid (A2.out.ext hx); have A3 := Lib.hid (A3.out.ext hx); have HL := Lib.hid (HL.out.ext hx); have CT := Lib.hid (CT.out.ext hx); have X := Lib.hid (X.out.trans hx)
        have AZ := Lib.hid bz
        clear hx bz hwz hnz
        have hcb := CB.out; have hqj := QJ.out
        obtain ⟨qj1, qj2⟩ := hqj
        have qA0 := A0.out.cell; have fA0 := A0.out.free; have lA0 := A0.out.lt; have qAZ := AZ.out.cell; have fAZ := AZ.out.free; have lAZ := AZ.out.lt
        refine wp_region_held_drew (S := (fun W => (Blk W w.heap.size #[.int .i64 now, .int .i64 age, .int .i64 rev] 47 ∧ W.cell? ⟨w.heap.size, 0, none⟩ = some (.int .i64 now) ∧ W.cell? ⟨w.heap.size, 1, none⟩ = some (.int .i64 age) ∧ W.cell? ⟨w.heap.size, 2, none⟩ = some (.int .i64 rev)) ∧ (Blk W nz #[.int .i64 m1, .int .i64 m2, .int .i64 m3] 47 ∧ W.cell? ⟨nz, 0, none⟩ = some (.int .i64 m1) ∧ W.cell? ⟨nz, 1, none⟩ = some (.int .i64 m2) ∧ W.cell? ⟨nz, 2, none⟩ = some (.int .i64 m3)) ∧ (cb < W.heap.size ∧ W.cell? ⟨cb, co + j * 3, none⟩ = some (.bool r.neg) ∧ W.cell? ⟨cb, co + j * 3 + 1, none⟩ = some (.slice va r.num.length vc) ∧ W.cell? ⟨cb, co + j * 3 + 2, none⟩ = some (.slice vd r.den.length ve)))) (by kernel_rfl) ?_ (fun hHeld => ?_)
        · exact ⟨Blk.s3 A0.out.drew, Blk.s3 AZ.out.drew, CT.out.drew⟩
        refine wpAnyH_take (i := 0) (v := ?_) rfl (by kernel_rfl) (by kernel_rfl) (by kernel_rfl) (fun _ _ _ h => h) (Or.inl ⟨by rfl, ?_⟩) (by assumption) ?_
        rotate_left
        · (intro w hSw; (try dsimp only at hSw); go_simp; first | done | with_reducible rfl)
        (try simp only [Act.put, List.getElem_toArray, List.getElem_cons_zero, List.getElem_cons_succ, List.setIfInBounds_toArray, List.set_cons_zero, List.set_cons_succ])
        refine wpAnyH_take (i := 1) (v := ?_) rfl (by kernel_rfl) (by kernel_rfl) (by kernel_rfl) (fun _ _ _ h => h) (Or.inl ⟨by rfl, ?_⟩) (by assumption) ?_
        rotate_left
        · (intro w hSw; (try dsimp only at hSw); go_simp; first | done | with_reducible rfl)
        (try simp only [Act.put, List.getElem_toArray, List.getElem_cons_zero, List.getElem_cons_succ, List.setIfInBounds_toArray, List.set_cons_zero, List.set_cons_succ])
        refine wpAnyH_take (i := 2) (v := ?_) rfl (by kernel_rfl) (by kernel_rfl) (by kernel_rfl) (fun _ _ _ h => h) (Or.inl ⟨by rfl, ?_⟩) (by assumption) ?_
        rotate_left
        · (intro w hSw; (try dsimp only at hSw); go_simp; first | done | with_reducible rfl)
        (try simp only [Act.put, List.getElem_toArray, List.getElem_cons_zero, List.getElem_cons_succ, List.setIfInBounds_toArray, List.set_cons_zero, List.set_cons_succ])
        refine wpAnyH_take (i := 3) (v := ?_) rfl (by kernel_rfl) (by kernel_rfl) (by kernel_rfl) (fun _ _ _ h => h) (Or.inl ⟨by rfl, ?_⟩) (by assumption) ?_
        rotate_left
        · (intro w hSw; (try dsimp only at hSw); go_simp; first | done | with_reducible rfl)
        (try simp only [Act.put, List.getElem_toArray, List.getElem_cons_zero, List.getElem_cons_succ, List.setIfInBounds_toArray, List.set_cons_zero, List.set_cons_succ])
        refine wpAnyH_take (i := 4) (v := ?_) rfl (by kernel_rfl) (by kernel_rfl) (by kernel_rfl) (fun _ _ _ h => h) (Or.inl ⟨by rfl, ?_⟩) (by assumption) ?_
        rotate_left
        · (intro w hSw; (try dsimp only at hSw); go_simp; first | done | with_reducible rfl)
        (try simp only [Act.put, List.getElem_toArray, List.getElem_cons_zero, List.getElem_cons_succ, List.setIfInBounds_toArray, List.set_cons_zero, List.set_cons_succ])
        refine wpAnyH_take (i := 6) (v := ?_) rfl (by kernel_rfl) (by kernel_rfl) (by kernel_rfl) (fun _ _ _ h => h) (Or.inl ⟨by rfl, ?_⟩) (by assumption) ?_
        rotate_left
        · (intro w hSw; (try dsimp only at hSw); go_simp; first | done | with_reducible rfl)
        (try simp only [Act.put, List.getElem_toArray, List.getElem_cons_zero, List.getElem_cons_succ, List.setIfInBounds_toArray, List.set_cons_zero, List.set_cons_succ])
        refine wpAnyH_take (i := 7) (v := ?_) rfl (by kernel_rfl) (by kernel_rfl) (by kernel_rfl) (fun _ _ _ h => h) (Or.inl ⟨by rfl, ?_⟩) (by assumption) ?_
        rotate_left
        · (intro w hSw; (try dsimp only at hSw); go_simp; first | done | with_reducible rfl)
        (try simp only [Act.put, List.getElem_toArray, List.getElem_cons_zero, List.getElem_cons_succ, List.setIfInBounds_toArray, List.set_cons_zero, List.set_cons_succ])
        refine wpAnyH_take (i := 8) (v := ?_) rfl (by kernel_rfl) (by kernel_rfl) (by kernel_rfl) (fun _ _ _ h => h) (Or.inl ⟨by rfl, ?_⟩) (by assumption) ?_
        rotate_left
        · (intro w hSw; (try dsimp only at hSw); go_simp; first | done | with_reducible rfl)
        (try simp only [Act.put, List.getElem_toArray, List.getElem_cons_zero, List.getElem_cons_succ, List.setIfInBounds_toArray, List.set_cons_zero, List.set_cons_succ])
        refine wpAnyH_take (i := 9) (v := ?_) rfl (by kernel_rfl) (by kernel_rfl) (by kernel_rfl) (fun _ _ _ h => h) (Or.inl ⟨by rfl, ?_⟩) (by assumption) ?_
        rotate_left
        · (intro w hSw; (try dsimp only at hSw); go_simp; first | done | with_reducible rfl)
        (try simp only [Act.put, List.getElem_toArray, List.getElem_cons_zero, List.getElem_cons_succ, List.setIfInBounds_toArray, List.set_cons_zero, List.set_cons_succ])
        refine wpAnyH_take (i := 11) (v := ?_) rfl (by kernel_rfl) (by kernel_rfl) (by kernel_rfl) (fun _ _ _ h => h) (Or.inl ⟨by rfl, ?_⟩) (by assumption) ?_
        rotate_left
        · (intro w hSw; (try dsimp only at hSw); go_simp; first | done | with_reducible rfl)
        (try simp only [Act.put, List.getElem_toArray, List.getElem_cons_zero, List.getElem_cons_succ, List.setIfInBounds_toArray, List.set_cons_zero, List.set_cons_succ])
        refine wpAnyH_ready (rs := [5]) (by kernel_rfl) (by simp) ?_
        refine AllReadyH.cons rfl (fun K hK => ?_) ?_
        rotate_left
        · exact AllReadyH.nil
        go_simp
        refine (HCH.out _ (HL.out.ext (by first | exact Ext.refl _ | exact (Ext.refl _).drew))).mono ?_
        rintro e w6 ⟨rfl, hx⟩
        have hx := Ext.trans (show Ext wz _ from by first | exact Ext.refl _ | exact (Ext.refl _).drew) hx
        clear qA0 fA0 lA0 qAZ fAZ lAZ
        have A0 := Lib.hid (A0.out.ext hx); have A2 := Lib.hid (A2.out.ext hx); have A3 := Lib.hid (A3.out.ext hx); have HL := Lib.hid (HL.out.ext hx); have CT := Lib.hid (CT.out.ext hx); have AZ := Lib.hid (AZ.out.ext hx); have X := Lib.hid (X.out.trans hx)
        clear hx HCH
        first | refine hK.out _ _ ?_ (fun hHeld => ?_) | (go_wp2_with fail; refine hK.out _ _ ?_ (fun hHeld => ?_))
        · exact ⟨Blk.s3 A0.out, Blk.s3 AZ.out, CT.out⟩
        clear hK K
        (try simp only [Act.put, List.getElem_toArray, List.getElem_cons_zero, List.getElem_cons_succ, List.setIfInBounds_toArray, List.set_cons_zero, List.set_cons_succ])
        refine wpAnyH_take (i := 10) (v := ?_) rfl (by kernel_rfl) (by kernel_rfl) (by kernel_rfl) (fun _ _ _ h => h) (Or.inl ⟨by rfl, ?_⟩) (by assumption) ?_
        rotate_left
        · (intro w hSw; (try dsimp only at hSw); go_simp; first | done | with_reducible rfl)
        (try simp only [Act.put, List.getElem_toArray, List.getElem_cons_zero, List.getElem_cons_succ, List.setIfInBounds_toArray, List.set_cons_zero, List.set_cons_succ])
        have qA2 := A2.out.cell; have fA2 := A2.out.free; have lA2 := A2.out.lt
        refine wpAnyH_ready (rs := [12]) (by kernel_rfl) (by simp) ?_
        refine AllReadyH.cons rfl (fun K hK => ?_) ?_
        rotate_left
        · exact AllReadyH.nil
        go_simp
        first | refine hK.out _ _ ?_ (fun hHeld => ?_) | (go_wp2_with fail; refine hK.out _ _ ?_ (fun hHeld => ?_))
        · exact ⟨Blk.s3 (Blk.off5 A0.out (by omega) _ _ _ _ _), Blk.s3 (Blk.off5 AZ.out (by omega) _ _ _ _ _), Ct3.set (Ct3.set (Ct3.set (Ct3.set (Ct3.set CT.out (by dsimp only; omega) _) (by dsimp only; omega) _) (by dsimp only; omega) _) (by dsimp only; omega) _) (by dsimp only; omega) _⟩
        clear hK K
        (try simp only [Act.put, List.getElem_toArray, List.getElem_cons_zero, List.getElem_cons_succ, List.setIfInBounds_toArray, List.set_cons_zero, List.set_cons_succ])
        clear qA2 fA2 lA2
        have qA3 := A3.out.cell; have fA3 := A3.out.free; have lA3 := A3.out.lt
        refine wpAnyH_ready (rs := [13]) (by kernel_rfl) (by simp) ?_
        refine AllReadyH.cons rfl (fun K hK => ?_) ?_
        rotate_left
        · exact AllReadyH.nil
        go_simp
        first | refine hK.out _ _ ?_ (fun hHeld => ?_) | (go_wp2_with fail; refine hK.out _ _ ?_ (fun hHeld => ?_))
        · exact ⟨Blk.s3 (Blk.off3 (Blk.off5 A0.out (by omega) _ _ _ _ _) (by omega) _ _ _), Blk.s3 (Blk.off3 (Blk.off5 AZ.out (by omega) _ _ _ _ _) (by omega) _ _ _), Ct3.set (Ct3.set (Ct3.set (Ct3.set (Ct3.set (Ct3.set (Ct3.set (Ct3.set CT.out (by dsimp only; omega) _) (by dsimp only; omega) _) (by dsimp only; omega) _) (by dsimp only; omega) _) (by dsimp only; omega) _) (by dsimp only; omega) _) (by dsimp only; omega) _) (by dsimp only; omega) _⟩
        clear hK K
        (try simp only [Act.put, List.getElem_toArray, List.getElem_cons_zero, List.getElem_cons_succ, List.setIfInBounds_toArray, List.set_cons_zero, List.set_cons_succ])
        refine wpAnyH_ready (rs := [14]) (by kernel_rfl) (by simp) ?_
        refine AllReadyH.cons rfl (fun K hK => ?_) ?_
        rotate_left
        · exact AllReadyH.nil
        go_simp
        first | refine hK.out _ _ ?_ (fun hHeld => ?_) | (go_wp2_with fail; refine hK.out _ _ ?_ (fun hHeld => ?_))
        · exact ⟨Blk.s3 (Blk.off3 (Blk.off5 A0.out (by omega) _ _ _ _ _) (by omega) _ _ _), Blk.s3 (Blk.off3 (Blk.off5 AZ.out (by omega) _ _ _ _ _) (by omega) _ _ _), Ct3.set (Ct3.set (Ct3.set (Ct3.set (Ct3.set (Ct3.set (Ct3.set (Ct3.set CT.out (by dsimp only; omega) _) (by dsimp only; omega) _) (by dsimp only; omega) _) (by dsimp only; omega) _) (by dsimp only; omega) _) (by dsimp only; omega) _) (by dsimp only; omega) _) (by dsimp only; omega) _⟩
        clear hK K
        (try simp only [Act.put, List.getElem_toArray, List.getElem_cons_zero, List.getElem_cons_succ, List.setIfInBounds_toArray, List.set_cons_zero, List.set_cons_succ])
        refine wpAnyH_done (by kernel_rfl) ?_ _
        clear qA3 fA3 lA3
        have qA2 := A2.out.cell; have fA2 := A2.out.free; have lA2 := A2.out.lt; have qA3 := A3.out.cell; have fA3 := A3.out.free; have lA3 := A3.out.lt
        go_wp2_with fail
        refine bodyPost_ret (v := .tuple #[.agg #[.int .i64 j, .int .u8 K, .bool r.neg, .slice va r.num.length vc, .slice vd r.den.length ve], .agg #[.int .i64 m1, .int .i64 m2, .int .i64 m3], .int .i64 0]) (by simp only [results, Tryz.results34]; go_simp) rfl (resD_mk HRD.out E.out ?_)
        have := X.out; (repeat (first | (with_reducible exact Ext.refl _) | (with_reducible assumption) | (with_reducible refine Ext.alloc ?_ _) | ((with_reducible refine Ext.setp ?_ ?_); focus (dsimp only; omega)) | (with_reducible refine Ext.drew ?_) | (with_reducible refine Ext.drewN ?_ _) | (with_reducible refine Ext.trans ?_ (by assumption))))
      | none =>
        have hE := E4.out (by simp)
        have E := Lib.hid hE
        clear hE E4 E5
        dsimp only [idxB]
        have qA2 := A2.out.cell; have fA2 := A2.out.free; have lA2 := A2.out.lt; have qA3 := A3.out.cell; have fA3 := A3.out.free; have lA3 := A3.out.lt
        go_wp2_with fail
        refine bodyPost_ret (v := .tuple #[.agg #[.int .i64 0, .int .u8 0, .bool false, .slice none 0 0, .slice none 0 0], .agg #[.int .i64 0, .int .i64 0, .int .i64 0], .int .i64 9]) (by simp only [results, Tryz.results34]; go_simp) rfl ⟨ResD.zero E.out, ?_⟩
        have := X.out; (repeat (first | (with_reducible exact Ext.refl _) | (with_reducible assumption) | (with_reducible refine Ext.alloc ?_ _) | ((with_reducible refine Ext.setp ?_ ?_); focus (dsimp only; omega)) | (with_reducible refine Ext.drew ?_) | (with_reducible refine Ext.drewN ?_ _) | (with_reducible refine Ext.trans ?_ (by assumption))))

end Go.Proofs.YthkfkfbfblppeaaGreat
