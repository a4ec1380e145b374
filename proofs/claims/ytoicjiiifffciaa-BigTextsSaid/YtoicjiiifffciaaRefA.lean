/- Walks of the reference of layer 5: Check, Wrong, cut, limb, Order. Conditions: slices of limbs. -/
import Derived.Test.YtoicjiiifffciaaBigK
import Derived.Test.YtoicjiiifffciaaBigO
namespace Go.Proofs.Ytoicjiiifffciaa
set_option linter.unusedSimpArgs false
set_option linter.unusedVariables false
open Go.RowKit

set_option maxHeartbeats 400000 in
theorem cut_row (g cap : Nat) (l : List Int) (w : World) (h : RowU w g cap l) (hl : Lim l) :
    Calls Try.prog 56 #[.slice (some ⟨g, 0, none⟩) l.length cap] w fun e w' => e = .returned (.slice (some ⟨g, 0, none⟩) (lim (nv l)).length cap) ∧ RowU w' g cap (lim (nv l)) ∧ Ext w w' := by
  have hle := h.le; have hmost := h.most
  have H := Lib.hid h; clear h
  have HL := Lib.hid hl; clear hl
  go_enter Try.func56, Try.ntmps56
  go_wp2
  go_loopw [0] (fun v wr => ∃ k : Nat, k ≤ l.length ∧ v = .slice (some ⟨g, 0, none⟩) k cap ∧ nv (l.take k) = nv l ∧ ∃ n, wr = w.drewN n)
    (fun v _ => slen v)
  case atStart => exact ⟨l.length, Nat.le_refl _, rfl, by rw [List.take_length], 0, rfl⟩
  case round =>
    obtain ⟨k, hk, rfl, htake, n, rfl⟩ := hrel
    have HT := Lib.hid htake; clear htake
    by_cases h0 : 0 < k
    · have hc := H.out.cell (i := k - 1) (by omega)
      obtain ⟨x, hx⟩ : ∃ x, x = l.getD (k - 1) 0 := ⟨_, rfl⟩
      rw [← hx] at hc
      have HX := Lib.hid hx; clear hx
      by_cases hz : x = 0
      · subst hz
        go_wp2
        go_roundw
        case rel => exact ⟨k - 1, by omega, by go_num, take_less hk h0 HX.out.symm HT.out, _, rfl⟩
        case measure => simp [slen]; omega
      · have hz' : (x == 0) = false := by simpa using hz
        go_wp2
        go_ret
        have e := take_noZ HL.out hk (.inr (by rw [← HX.out]; exact hz)) HT.out
        have el : (lim (nv l)).length = k := by rw [← e, List.length_take_of_le hk]
        exact ⟨by rw [el]; rfl, (H.out.lim e).ext ((Ext.refl w).drewN _), (Ext.refl w).drewN _⟩
    · obtain rfl : k = 0 := by omega
      go_wp2
      go_ret
      have e := take_noZ HL.out hk (.inl rfl) HT.out
      have el : (lim (nv l)).length = 0 := by rw [← e]; rfl
      exact ⟨by rw [el]; rfl, (H.out.lim e).ext ((Ext.refl w).drewN _), (Ext.refl w).drewN _⟩

set_option maxHeartbeats 400000 in
theorem cut_nil (a : Option Addr) (w : World) :
    Calls Try.prog 56 #[.slice a 0 0] w fun e w' => e = .returned (.slice a 0 0) ∧ Ext w w' := by
  go_enter Try.func56, Try.ntmps56
  go_wp2
  go_loopw [0] (fun v wr => v = .slice a 0 0 ∧ ∃ n, wr = w.drewN n) (fun _ _ => 0)
  case atStart => exact ⟨rfl, 0, rfl⟩
  case round =>
    obtain ⟨rfl, n, rfl⟩ := hrel
    go_wp2
    go_ret
    exact ⟨rfl, (Ext.refl w).drewN _⟩

/-- cut: leading zeros off. -/
theorem cut_any (o : Option Nat) (v : Value) (l : List Int) (w : World) (h : OwV w o v l) (hl : Lim l) :
    Calls Try.prog 56 #[v] w fun e w' => ∃ v', e = .returned v' ∧ OwV w' o v' (lim (nv l)) ∧ Ext w w' := by
  rcases h with ⟨rfl, rfl, a, ha, rfl⟩ | ⟨g, cap, rfl, rfl, h⟩
  · exact (cut_nil a w).mono fun e w' ⟨he, hx⟩ => ⟨_, he, .inl ⟨rfl, rfl, a, ha, rfl⟩, hx⟩
  · exact (cut_row g cap l w h hl).mono fun e w' ⟨he, hr, hx⟩ => ⟨_, he, .row hr, hx⟩

theorem refCheck1_any (v : Value) (l : List Int) (w : World) (h : RdI .u32 w v l) :
    Calls Try.prog 39 #[v] w fun e w' => e = .returned (.int .i64 (chkE l)) ∧ Ext w w' := by
  obtain ⟨a, cap, rfl, hc, hm, hr⟩ := rdU h
  clear h
  by_cases h5 : 512 < l.length
  · have e : chkE l = 4 := by simp [chkE, h5]
    have H := Lib.hid e; clear e hr
    have hd : decide (512 < (l.length : Int)) = true := by simp; omega
    go_enter Try.func39, Try.ntmps39
    go_wp2
    go_ret
    exact ⟨by rw [H.out]; rfl, Ext.refl w⟩
  · have hd : decide (512 < (l.length : Int)) = false := by simp; omega
    by_cases h0 : 0 < l.length
    · obtain ⟨b, off, rfl, hb, hx⟩ := hr (l.length - 1) (by omega)
      obtain ⟨x, hx'⟩ : ∃ x, x = l.getD (l.length - 1) 0 := ⟨_, rfl⟩
      rw [← hx'] at hx
      have e : chkE l = if x = 0 then 2 else 0 := by
        unfold chkE; rw [if_neg h5, getLast_getD l h0, ← hx']; simp
      have H := Lib.hid e; clear e hr hx'
      have hd0 : decide (0 < (l.length : Int)) = true := by simp; omega
      by_cases hz : x = 0
      · subst hz
        go_enter Try.func39, Try.ntmps39
        go_wp2
        go_ret
        exact ⟨by rw [H.out]; rfl, by (repeat (first | (with_reducible exact Ext.refl _) | (with_reducible assumption) | (with_reducible refine Ext.alloc ?_ _) | ((with_reducible refine Ext.setp ?_ ?_); focus (dsimp only; omega)) | (with_reducible refine Ext.drew ?_) | (with_reducible refine Ext.drewN ?_ _) | (with_reducible refine Ext.trans ?_ (by assumption))))⟩
      · have hz' : (x == 0) = false := by simpa using hz
        go_enter Try.func39, Try.ntmps39
        go_wp2
        go_ret
        exact ⟨by rw [H.out, if_neg hz]; rfl, by (repeat (first | (with_reducible exact Ext.refl _) | (with_reducible assumption) | (with_reducible refine Ext.alloc ?_ _) | ((with_reducible refine Ext.setp ?_ ?_); focus (dsimp only; omega)) | (with_reducible refine Ext.drew ?_) | (with_reducible refine Ext.drewN ?_ _) | (with_reducible refine Ext.trans ?_ (by assumption))))⟩
    · have hl : l.length = 0 := by omega
      have e : chkE l = 0 := by rw [List.length_eq_zero_iff.1 hl]; rfl
      have H := Lib.hid e; clear e hr
      have hd0 : decide (0 < (l.length : Int)) = false := decide_eq_false (by omega)
      go_enter Try.func39, Try.ntmps39
      go_wp2
      go_ret
      exact ⟨by rw [H.out]; rfl, by (repeat (first | (with_reducible exact Ext.refl _) | (with_reducible assumption) | (with_reducible refine Ext.alloc ?_ _) | ((with_reducible refine Ext.setp ?_ ?_); focus (dsimp only; omega)) | (with_reducible refine Ext.drew ?_) | (with_reducible refine Ext.drewN ?_ _) | (with_reducible refine Ext.trans ?_ (by assumption))))⟩


theorem wrong_any (v1 v2 : Value) (l1 l2 : List Int) (w : World) (h1 : RdI .u32 w v1 l1) (h2 : RdI .u32 w v2 l2) :
    Calls Try.prog 59 #[v1, v2] w fun e w' => e = .returned (.int .i64 (chk2 l1 l2)) ∧ Ext w w' := by
  have H1 := Lib.hid h1; have H2 := Lib.hid h2; clear h1 h2
  by_cases h0 : chkE l1 = 0
  · have e : chk2 l1 l2 = chkE l2 := by unfold chk2 orE; rw [if_pos h0]
    have H0 := Lib.hid h0; have HE := Lib.hid e; clear h0 e
    go_enter Try.func59, Try.ntmps59
    go_wp2_with fail
    refine (refCheck1_any v1 l1 _ H1.out).mono ?_
    rintro e w1 ⟨rfl, hx1⟩
    have HX := Lib.hid hx1; clear hx1
    rw [H0.out]
    go_wp2_with fail
    refine (refCheck1_any v2 l2 _ (H2.out.ext HX.out)).mono ?_
    rintro e w2 ⟨rfl, hx2⟩
    have HX2 := Lib.hid (HX.out.trans hx2); clear hx2
    go_wp2_with fail
    go_ret
    exact ⟨by rw [HE.out]; rfl, HX2.out⟩
  · have e : chk2 l1 l2 = chkE l1 := by unfold chk2 orE; rw [if_neg h0]
    have h0' : (chkE l1 == 0) = false := by simpa using h0
    obtain ⟨c, hc⟩ : ∃ c, c = chkE l1 := ⟨_, rfl⟩
    have hk := fun W h => refCheck1_any v1 l1 W h
    rw [← hc] at h0' e hk
    have HE := Lib.hid e; have HK := Lib.hid hk; clear h0 e hk hc
    go_enter Try.func59, Try.ntmps59
    go_wp2_with fail
    refine (HK.out _ H1.out).mono ?_
    rintro e w1 ⟨rfl, hx1⟩
    have HX := Lib.hid hx1; clear hx1
    go_wp2_with fail
    go_ret
    exact ⟨by rw [HE.out]; rfl, HX.out⟩

theorem limb_any (v : Value) (l : List Int) (i : Nat) (w : World) (h : RdI .u32 w v l) (hl : Lim l) (hi : i ≤ 1000000000) :
    Calls Try.prog 75 #[v, .int .i64 i] w fun e w' => e = .returned (.int .u64 (l.getD i 0)) ∧ Ext w w' := by
  obtain ⟨a, cap, rfl, hc, hm, hr⟩ := rdU h
  clear h
  by_cases hlt : i < l.length
  · obtain ⟨b, off, rfl, hb, hx⟩ := hr i hlt
    have hxl := getD_lim hl i
    obtain ⟨x, hxx⟩ : ∃ x, x = l.getD i 0 := ⟨_, rfl⟩
    rw [← hxx] at hx hxl ⊢
    clear hxx hr hl
    have q1 : (0 : Int) ≤ (i : Int) := by omega
    have q2 : (i : Int) < (l.length : Int) := by omega
    go_enter Try.func75, Try.ntmps75
    go_wp2
    go_ret
    exact ⟨rfl, by (repeat (first | (with_reducible exact Ext.refl _) | (with_reducible assumption) | (with_reducible refine Ext.alloc ?_ _) | ((with_reducible refine Ext.setp ?_ ?_); focus (dsimp only; omega)) | (with_reducible refine Ext.drew ?_) | (with_reducible refine Ext.drewN ?_ _) | (with_reducible refine Ext.trans ?_ (by assumption))))⟩
  · have e : l.getD i 0 = 0 := by rw [List.getD_eq_getElem?_getD, List.getElem?_eq_none (by omega)]; rfl
    have HE := Lib.hid e; clear e hr hl
    have q2 : decide ((i : Int) < (l.length : Int)) = false := decide_eq_false (by omega)
    go_enter Try.func75, Try.ntmps75
    go_wp2
    go_ret
    exact ⟨by rw [HE.out]; rfl, by (repeat (first | (with_reducible exact Ext.refl _) | (with_reducible assumption) | (with_reducible refine Ext.alloc ?_ _) | ((with_reducible refine Ext.setp ?_ ?_); focus (dsimp only; omega)) | (with_reducible refine Ext.drew ?_) | (with_reducible refine Ext.drewN ?_ _) | (with_reducible refine Ext.trans ?_ (by assumption))))⟩

set_option maxHeartbeats 1000000 in
theorem refOrder_any (va vb : Value) (la lb : List Int) (w : World) (ha : RdI .u32 w va la) (hb : RdI .u32 w vb lb) (hla : Lim la) (hlb : Lim lb) (sa : la.length ≤ 100000000) (sb : lb.length ≤ 100000000) :
    Calls Try.prog 60 #[va, vb] w fun e w' => e = .returned (.int .i64 (cmpN (nv la) (nv lb))) ∧ Ext w w' := by
  have HA := Lib.hid ha; have HB := Lib.hid hb
  obtain ⟨aa, ca, rfl, hca, hma, hra⟩ := rdU ha
  obtain ⟨ab, cb, rfl, hcb, hmb, hrb⟩ := rdU hb
  clear ha hb hra hrb
  obtain ⟨M, hM⟩ : ∃ M, M = max la.length lb.length := ⟨_, rfl⟩
  have m1 : la.length ≤ M := by omega
  have m2 : lb.length ≤ M := by omega
  have m3 : M ≤ 100000000 := by omega
  have h0 : ∀ j, M ≤ j → la.getD j 0 = lb.getD j 0 := fun j hj => by
    rw [List.getD_eq_getElem?_getD, List.getD_eq_getElem?_getD, List.getElem?_eq_none (by omega), List.getElem?_eq_none (by omega)]
  have H0 := Lib.hid h0; have HLA := Lib.hid hla; have HLB := Lib.hid hlb
  have HM := Lib.hid hM
  clear h0 hM hla hlb
  go_enter Try.func60, Try.ntmps60
  go_wp2_with fail
  all_goals
    go_loopw [5] (fun i wr => ((i = .int .i64 (-1) ∧ ∀ j, la.getD j 0 = lb.getD j 0) ∨ ∃ k : Nat, k < M ∧ i = .int .i64 k ∧ ∀ j, k < j → la.getD j 0 = lb.getD j 0) ∧ Ext w wr) (fun i _ => (intOf i + 1).toNat)
    case atStart =>
      refine ⟨?_, Ext.refl _⟩
      have hM := HM.out
      rcases Nat.eq_zero_or_pos M with h | h
      · exact .inl ⟨by go_num, fun j => H0.out j (by omega)⟩
      · exact .inr ⟨M - 1, by omega, by go_num, fun j hj => H0.out j (by omega)⟩
    case round =>
      obtain ⟨hrel, hext⟩ := hrel
      have HX := Lib.hid hext; clear hext
      rcases hrel with ⟨rfl, hj⟩ | ⟨k, hk, rfl, hj⟩
      · have e := Lib.hid (show cmpN (nv la) (nv lb) = 0 by rw [nv_eq_of_getD la lb hj]; exact cmpN_eq _)
        clear hj
        go_wp2_with fail
        go_ret
        exact ⟨by rw [e.out]; rfl, HX.out⟩
      · have HJ := Lib.hid hj; clear hj
        obtain ⟨x, hxx⟩ : ∃ x, x = la.getD k 0 := ⟨_, rfl⟩
        obtain ⟨y, hyy⟩ : ∃ y, y = lb.getD k 0 := ⟨_, rfl⟩
        have hca2 := fun W h => limb_any (.slice aa la.length ca) la k W h HLA.out (by omega)
        have hcb2 := fun W h => limb_any (.slice ab lb.length cb) lb k W h HLB.out (by omega)
        rw [← hxx] at hca2
        rw [← hyy] at hcb2
        have HX1 := Lib.hid hxx; have HY1 := Lib.hid hyy; have CA := Lib.hid hca2; have CB := Lib.hid hcb2
        clear hxx hyy hca2 hcb2
        go_wp2_with fail
        refine (CA.out _ (HA.out.ext HX.out)).mono ?_
        rintro e w1 ⟨rfl, hx1⟩
        have HX2 := Lib.hid (HX.out.trans hx1); clear hx1
        go_wp2_with fail
        refine (CB.out _ (HB.out.ext HX2.out)).mono ?_
        rintro e w2 ⟨rfl, hx2⟩
        have HX3 := Lib.hid (HX2.out.trans hx2); clear hx2
        rcases Int.lt_trichotomy x y with hc | hc | hc
        · have e := Lib.hid (cmpN_lt (nv_lt_of_getD HLA.out HLB.out HJ.out (by rw [← HX1.out, ← HY1.out]; exact hc)))
          go_wp2_with fail
          go_ret
          exact ⟨by rw [e.out]; rfl, HX3.out⟩
        · have d1 : decide (x < y) = false := decide_eq_false (by omega)
          have d2 : decide (y < x) = false := decide_eq_false (by omega)
          have HC := Lib.hid hc; clear hc
          go_wp2_with fail
          refine (CA.out _ (HA.out.ext HX3.out)).mono ?_
          rintro e w3 ⟨rfl, hx3⟩
          have HX4 := Lib.hid (HX3.out.trans hx3); clear hx3
          go_wp2_with fail
          refine (CB.out _ (HB.out.ext HX4.out)).mono ?_
          rintro e w4 ⟨rfl, hx4⟩
          have HX5 := Lib.hid (HX4.out.trans hx4); clear hx4
          go_wp2_with fail
          go_roundw
          case rel =>
            refine ⟨?_, HX5.out⟩
            have hall : ∀ j, k ≤ j → la.getD j 0 = lb.getD j 0 := fun j hj => by
              rcases Nat.lt_or_ge k j with h | h
              · exact HJ.out j h
              · obtain rfl : j = k := by omega
                rw [← HX1.out, ← HY1.out]; exact HC.out
            rcases Nat.eq_zero_or_pos k with h | h
            · subst h; exact .inl ⟨rfl, fun j => hall j (by omega)⟩
            · exact .inr ⟨k - 1, by omega, by go_num, fun j hj => hall j (by omega)⟩
          case measure => simp [intOf] <;> omega
        · have d1 : decide (x < y) = false := decide_eq_false (by omega)
          have e := Lib.hid (cmpN_gt (nv_lt_of_getD HLB.out HLA.out (fun j hj => (HJ.out j hj).symm) (by rw [← HX1.out, ← HY1.out]; exact hc)))
          go_wp2_with fail
          refine (CA.out _ (HA.out.ext HX3.out)).mono ?_
          rintro e w3 ⟨rfl, hx3⟩
          have HX4 := Lib.hid (HX3.out.trans hx3); clear hx3
          go_wp2_with fail
          refine (CB.out _ (HB.out.ext HX4.out)).mono ?_
          rintro e w4 ⟨rfl, hx4⟩
          have HX5 := Lib.hid (HX4.out.trans hx4); clear hx4
          go_wp2_with fail
          go_ret
          exact ⟨by rw [e.out]; rfl, HX5.out⟩

end Go.Proofs.Ytoicjiiifffciaa
