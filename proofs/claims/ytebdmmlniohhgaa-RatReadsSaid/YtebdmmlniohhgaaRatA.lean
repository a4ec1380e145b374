/- Walks of the small functions of layer 6: times, plus, minus, unit, of, lowest. Conditions: as each states. -/
import Derived.Test.YtebdmmlniohhgaaRatQ
namespace Go.Proofs.Ytebdmmlniohhgaa
set_option linter.unusedSimpArgs false
set_option linter.unusedVariables false
open Go.RowKit

/-- v is an api.Rat that reads r. -/
def RdR (w : World) (v : Value) (r : RR) : Prop := ∃ vn vd, v = .agg #[.bool r.neg, vn, vd] ∧ RdI .u32 w vn r.num ∧ RdI .u32 w vd r.den
/-- .. whose slices are the call's own. -/
def NewR (w w' : World) (v : Value) (r : RR) : Prop := ∃ vn vd, v = .agg #[.bool r.neg, vn, vd] ∧ NewV w w' vn r.num ∧ NewV w w' vd r.den
theorem RdR.ext {w w' : World} {v : Value} {r : RR} (h : RdR w v r) (e : Ext w w') : RdR w' v r := by
  obtain ⟨vn, vd, h1, h2, h3⟩ := h; exact ⟨vn, vd, h1, h2.ext e, h3.ext e⟩
theorem NewR.rd {w w' : World} {v : Value} {r : RR} (h : NewR w w' v r) : RdR w' v r := by
  obtain ⟨vn, vd, h1, h2, h3⟩ := h; exact ⟨vn, vd, h1, h2.rd, h3.rd⟩
theorem NewR.from {w0 w w' : World} {v : Value} {r : RR} (h : NewR w w' v r) (x : Ext w0 w) : NewR w0 w' v r := by
  obtain ⟨vn, vd, h1, h2, h3⟩ := h; exact ⟨vn, vd, h1, h2.from x, h3.from x⟩
theorem NewR.ext {w w' w2 : World} {v : Value} {r : RR} (h : NewR w w' v r) (x : Ext w' w2) : NewR w w2 v r := by
  obtain ⟨vn, vd, h1, h2, h3⟩ := h; exact ⟨vn, vd, h1, h2.ext x, h3.ext x⟩
theorem NewR.zero (w w' : World) : NewR w w' (.agg #[.bool false, .slice none 0 0, .slice none 0 0]) zR := ⟨_, _, rfl, NewV.nil _ _, NewV.nil _ _⟩
/-- A slice's shape. -/
theorem rdU_shape {w : World} {v : Value} {l : List Int} (h : RdI .u32 w v l) : ∃ a c, v = .slice a l.length c := by
  obtain ⟨a, c, rfl, _⟩ := rdU h; exact ⟨a, c, rfl⟩

theorem timesR_any (va vb : Value) (la lb : List Int) (w : World) (ha : RdI .u32 w va la) (hb : RdI .u32 w vb lb) (hla : Lim la) (hlb : Lim lb) :
    Calls Try.prog 112 #[va, vb] w fun e w' => (∃ v, e = .returned v ∧ NewV w w' v (mulS la lb).1) ∧ Ext w w' := by
  have h := mul2_any va vb la lb w ha hb hla hlb
  obtain ⟨aa, ca, rfl⟩ := rdU_shape ha
  obtain ⟨ab, cb, rfl⟩ := rdU_shape hb
  have H := Lib.hid h
  clear h ha hb
  go_enter Try.func112, Try.ntmps112
  go_wp2_with fail
  refine H.out.mono ?_
  rintro e w2 ⟨⟨v, rfl, n2⟩, hx2⟩
  obtain ⟨a2, c2, rfl⟩ := n2.shape
  have N2 := Lib.hid n2; have X2 := Lib.hid hx2
  clear n2 hx2
  go_wp2_with fail
  go_ret
  exact ⟨⟨_, rfl, N2.out⟩, X2.out⟩

theorem plusR_any (va vb : Value) (la lb : List Int) (w : World) (ha : RdI .u32 w va la) (hb : RdI .u32 w vb lb) (hla : Lim la) (hlb : Lim lb) :
    Calls Try.prog 81 #[va, vb] w fun e w' => (∃ v, e = .returned v ∧ NewV w w' v (addS la lb).1) ∧ Ext w w' := by
  have h := add2_any va vb la lb w ha hb hla hlb
  obtain ⟨aa, ca, rfl⟩ := rdU_shape ha
  obtain ⟨ab, cb, rfl⟩ := rdU_shape hb
  have H := Lib.hid h
  clear h ha hb
  go_enter Try.func81, Try.ntmps81
  go_wp2_with fail
  refine H.out.mono ?_
  rintro e w2 ⟨⟨v, rfl, n2⟩, hx2⟩
  obtain ⟨a2, c2, rfl⟩ := n2.shape
  have N2 := Lib.hid n2; have X2 := Lib.hid hx2
  clear n2 hx2
  go_wp2_with fail
  go_ret
  exact ⟨⟨_, rfl, N2.out⟩, X2.out⟩

/-- minus, of numbers that are valid. -/
theorem minusR_any (va vb : Value) (la lb : List Int) (w : World) (ha : RdI .u32 w va la) (hb : RdI .u32 w vb lb) (hla : Lim la) (hlb : Lim lb) (za : NoZ la) (zb : NoZ lb) (sa : la.length ≤ 512) (sb : lb.length ≤ 512) :
    Calls Try.prog 113 #[va, vb] w fun e w' => (∃ v, e = .returned (.tuple #[v, .bool (decide (nv la < nv lb))]) ∧ NewV w w' v (lim (if nv la < nv lb then nv lb - nv la else nv la - nv lb))) ∧ Ext w w' := by
  have HA := Lib.hid ha; have HB := Lib.hid hb
  have hc := chk2_ok sa za sb zb
  have hc2 := chk2_ok sb zb sa za
  have h1 := fun W h1 h2 => sub2_any va vb la lb W h1 h2 hla hlb
  have h2 := fun W h1 h2 => sub2_any vb va lb la W h1 h2 hlb hla
  obtain ⟨aa, ca, rfl⟩ := rdU_shape ha
  obtain ⟨ab, cb, rfl⟩ := rdU_shape hb
  clear ha hb
  by_cases hlt : nv la < nv lb
  · have e1 : subS la lb = ([], 7) := by unfold subS; rw [opS_ok hc, if_pos hlt]
    have e2 : subS lb la = (lim (nv lb - nv la), 0) := by unfold subS; rw [opS_ok hc2, if_neg (by omega)]
    rw [e1] at h1
    rw [e2] at h2
    rw [decide_eq_true hlt, if_pos hlt]
    have H1 := Lib.hid h1; have H2 := Lib.hid h2
    clear h1 h2 e1 e2 hlt
    go_enter Try.func113, Try.ntmps113
    go_wp2_with fail
    refine (H1.out _ HA.out HB.out).mono ?_
    rintro e w2 ⟨⟨v, rfl, n2⟩, hx2⟩
    obtain ⟨a2, c2, rfl⟩ := n2.shape
    have X2 := Lib.hid hx2
    clear n2 hx2
    go_wp2_with fail
    refine (H2.out _ (HB.out.ext X2.out) (HA.out.ext X2.out)).mono ?_
    rintro e w3 ⟨⟨v, rfl, n3⟩, hx3⟩
    obtain ⟨a3, c3, rfl⟩ := n3.shape
    have N3 := Lib.hid n3; have X3 := Lib.hid (X2.out.trans hx3)
    have X2' := X2
    clear n3 hx3
    go_wp2_with fail
    go_ret2
    exact ⟨⟨_, rfl, N3.out.from X2.out⟩, X3.out⟩
  · have e1 : subS la lb = (lim (nv la - nv lb), 0) := by unfold subS; rw [opS_ok hc, if_neg hlt]
    rw [e1] at h1
    rw [decide_eq_false hlt, if_neg hlt]
    have H1 := Lib.hid h1
    clear h1 h2 e1 hlt
    go_enter Try.func113, Try.ntmps113
    go_wp2_with fail
    refine (H1.out _ HA.out HB.out).mono ?_
    rintro e w2 ⟨⟨v, rfl, n2⟩, hx2⟩
    obtain ⟨a2, c2, rfl⟩ := n2.shape
    have N2 := Lib.hid n2; have X2 := Lib.hid hx2
    clear n2 hx2
    go_wp2_with fail
    go_ret2
    exact ⟨⟨_, rfl, N2.out⟩, X2.out⟩

theorem unitR_any (v : Value) (l : List Int) (w : World) (h : RdI .u32 w v l) :
    Calls Try.prog 72 #[v] w fun e w' => e = .returned (.bool (decide (l = [1]))) ∧ Ext w w' := by
  obtain ⟨a, c, rfl, hc, hm, hr⟩ := rdU h
  clear h
  by_cases h1 : l.length = 1
  · obtain ⟨x, rfl⟩ := List.length_eq_one_iff.1 h1
    obtain ⟨b, off, rfl, hb, hx⟩ := hr 0 (by simp)
    have hx' : w.cell? ⟨b, off, none⟩ = some (.int .u32 x) := hx
    have e : decide ([x] = [1]) = (x == 1) := by
      by_cases h : x = 1 <;> simp [h]
    rw [e]
    clear hr hx h1 e
    go_enter Try.func72, Try.ntmps72
    go_wp2_with fail
    all_goals
      go_ret
      exact ⟨ret_bool (by simp_all), by (repeat (first | (with_reducible exact Ext.refl _) | (with_reducible assumption) | (with_reducible refine Ext.alloc ?_ _) | ((with_reducible refine Ext.setp ?_ ?_); focus (dsimp only; omega)) | (with_reducible refine Ext.drew ?_) | (with_reducible refine Ext.drewN ?_ _) | (with_reducible refine Ext.trans ?_ (by assumption))))⟩
  · have e : decide (l = [1]) = false := decide_eq_false (by rintro rfl; exact h1 rfl)
    rw [e]
    have h1' : ((l.length : Int) == 1) = false := by simpa using (by omega : ¬ (l.length : Int) = 1)
    clear hr e
    go_enter Try.func72, Try.ntmps72
    go_wp2_with fail
    go_ret
    exact ⟨rfl, by (repeat (first | (with_reducible exact Ext.refl _) | (with_reducible assumption) | (with_reducible refine Ext.alloc ?_ _) | ((with_reducible refine Ext.setp ?_ ?_); focus (dsimp only; omega)) | (with_reducible refine Ext.drew ?_) | (with_reducible refine Ext.drewN ?_ _) | (with_reducible refine Ext.trans ?_ (by assumption))))⟩

end Go.Proofs.Ytebdmmlniohhgaa
