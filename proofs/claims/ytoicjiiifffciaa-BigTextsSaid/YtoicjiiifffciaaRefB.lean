/- Walks of the reference of layer 5: Sum, Difference. Conditions: numbers in limbs. -/
import Derived.Test.YtoicjiiifffciaaRefA
namespace Go.Proofs.Ytoicjiiifffciaa
set_option linter.unusedSimpArgs false
set_option linter.unusedVariables false
open Go.RowKit

theorem ownU_lt {w : World} {B : Nat} {v : Value} {l : List Int} (h : OwU w B v l) : True := trivial

theorem ownU_len {w : World} {B : Nat} {v : Value} {l : List Int} {n : Nat} (h : OwU w B v l) (hl : l.length = n) : w.ownsRow B 50 1 v n (l.map (Value.int .u32)) := hl ▸ h

theorem nv_snoc (l : List Int) (x : Int) : nv (l ++ [x]) = nv l + 4294967296 ^ l.length * x.toNat := by rw [nv_append]; simp [nv]
theorem lim_snoc {l : List Int} (h : Lim l) {x : Int} (h0 : 0 ≤ x) (h1 : x < 4294967296) : Lim (l ++ [x]) := lim_app h (fun y hy => by rw [List.mem_singleton.1 hy]; exact ⟨h0, h1⟩)

theorem sum_step {n a b k : Nat} {x y c : Int} (hx : 0 ≤ x) (hy : 0 ≤ y) (hc : 0 ≤ c) (h : n + 4294967296 ^ k * c.toNat = a + b) :
    n + 4294967296 ^ k * ((x + y + c) % 4294967296).toNat + 4294967296 ^ (k + 1) * ((x + y + c) / 4294967296).toNat = a + 4294967296 ^ k * x.toNat + (b + 4294967296 ^ k * y.toNat) := by
  have e1 : x.toNat + y.toNat + c.toNat = 4294967296 * ((x + y + c) / 4294967296).toNat + ((x + y + c) % 4294967296).toNat := by omega
  generalize ((x + y + c) / 4294967296).toNat = q at *
  generalize ((x + y + c) % 4294967296).toNat = r at *
  have e2 := congrArg (4294967296 ^ k * ·) e1
  simp only [Nat.mul_add] at e2
  rw [Nat.pow_succ, Nat.mul_assoc]
  omega

/-- What the loop of Sum keeps. -/
def SumRel (w : World) (la lb : List Int) (v : Value) (c : Int) (k : Nat) (wr : World) : Prop :=
  ∃ lk, lk.length = k ∧ Lim lk ∧ nv lk + 4294967296 ^ k * c.toNat = nv (la.take k) + nv (lb.take k) ∧ OwU wr w.heap.size v lk ∧ Ext w wr

set_option maxHeartbeats 1000000 in
theorem sum_any (va vb : Value) (la lb : List Int) (w : World) (ha : RdI .u32 w va la) (hb : RdI .u32 w vb lb) (hla : Lim la) (hlb : Lim lb) (sa : la.length ≤ 100000000) (sb : lb.length ≤ 100000000) :
    Calls Try.prog 49 #[va, vb] w fun e w' => (∃ v, e = .returned v ∧ NewV w w' v (lim (nv la + nv lb))) ∧ Ext w w' := by
  have HA := Lib.hid ha; have HB := Lib.hid hb
  obtain ⟨aa, ca, rfl, hca, hma, hra⟩ := rdU ha
  obtain ⟨ab, cb, rfl, hcb, hmb, hrb⟩ := rdU hb
  clear ha hb hra hrb
  have HLA := Lib.hid hla; have HLB := Lib.hid hlb
  clear hla hlb
  go_enter Try.func49, Try.ntmps49
  go_wp2_with fail
  go_loopw [5, 6, 7, 8] (fun v c i _ wr => ∃ (k : Nat) (c' : Int), i = .int .i64 k ∧ c = .int .u64 c' ∧ 0 ≤ c' ∧ c' ≤ 1 ∧ k ≤ 100000001 ∧ (k ≤ la.length ∨ k ≤ lb.length ∨ c' = 0) ∧ SumRel w la lb v c' k wr)
    (fun _ c i _ _ => 2 * (la.length + lb.length - (intOf i).toNat) + (intOf c).toNat)
  case atStart => exact ⟨0, 0, rfl, rfl, by omega, by omega, by omega, by omega, [], rfl, fun x hx => by simp at hx, by simp [nv], World.ownsRow_nil _ _ _ _, Ext.refl _⟩
  case round =>
    obtain ⟨k, c, rfl, rfl, c0, c1, hk, hk2, hrel⟩ := hrel
    by_cases hgo : k < la.length ∨ k < lb.length ∨ 0 < c
    · have hk3 : k ≤ 100000000 := by omega
      obtain ⟨lk, e1, e2, e3, e4, e5⟩ := hrel
      have hst := Lib.hid (sum_step (getD_lim HLA.out k).1 (getD_lim HLB.out k).1 c0 e3)
      have hxa := getD_lim HLA.out k; have hxb := getD_lim HLB.out k
      have hca2 := fun W h => limb_any (.slice aa la.length ca) la k W h HLA.out (by omega)
      have hcb2 := fun W h => limb_any (.slice ab lb.length cb) lb k W h HLB.out (by omega)
      have G1 := Lib.hid e1; have G2 := Lib.hid e2; have G4 := Lib.hid (ownU_len e4 e1); have G5 := Lib.hid e5
      have ta := Lib.hid (nv_take_all la k); have tb := Lib.hid (nv_take_all lb k)
      obtain ⟨x, hxx⟩ : ∃ x, x = la.getD k 0 := ⟨_, rfl⟩
      obtain ⟨y, hyy⟩ : ∃ y, y = lb.getD k 0 := ⟨_, rfl⟩
      rw [← hxx] at hca2 hst hxa ta
      rw [← hyy] at hcb2 hst hxb tb
      have CA := Lib.hid hca2; have CB := Lib.hid hcb2
      have hx0 : la.length ≤ k → x = 0 := fun h => by rw [hxx, List.getD_eq_getElem?_getD, List.getElem?_eq_none (by omega)]; rfl
      have hy0 : lb.length ≤ k → y = 0 := fun h => by rw [hyy, List.getD_eq_getElem?_getD, List.getElem?_eq_none (by omega)]; rfl
      have HX0 := Lib.hid hx0; have HY0 := Lib.hid hy0
      clear hxx hyy hca2 hcb2 e1 e2 e3 e4 e5 hx0 hy0
      rcases (show k < la.length ∨ (la.length ≤ k ∧ k < lb.length) ∨ (la.length ≤ k ∧ lb.length ≤ k ∧ 0 < c) by omega) with hh | ⟨hh1, hh⟩ | ⟨hh1, hh2, hh⟩
      all_goals
        first
          | have d1 : decide ((k : Int) < (la.length : Int)) = true := decide_eq_true (by omega)
          | (have d1 : decide ((k : Int) < (la.length : Int)) = false := decide_eq_false (by omega)
             have d2 : decide ((k : Int) < (lb.length : Int)) = true := decide_eq_true (by omega))
          | (have d1 : decide ((k : Int) < (la.length : Int)) = false := decide_eq_false (by omega)
             have d2 : decide ((k : Int) < (lb.length : Int)) = false := decide_eq_false (by omega)
             have d3 : decide (0 < c) = true := decide_eq_true (by omega))
        go_wp2_with fail
        refine (CA.out _ (HA.out.ext G5.out)).mono ?_
        rintro e w1 ⟨rfl, hx1⟩
        have G6 := Lib.hid (G5.out.trans hx1); have O6 := Lib.hid (own_ext G4.out hx1); clear hx1
        go_wp2_with fail
        refine (CB.out _ (HB.out.ext G6.out)).mono ?_
        rintro e w2 ⟨rfl, hx2⟩
        have G7 := Lib.hid (G6.out.trans hx2); have O7 := Lib.hid (own_ext O6.out hx2); clear hx2
        have hz := G7.out.size
        go_wp2_with (at_builtin; (refine wpList_append_new w2 rfl _ _ 23 rfl w.heap.size 50 (.int .u32 0) 1 4 Try.underlying23 Try.infoU rfl (by decide) _ _ _ O7.out rfl [_] rfl (by simp [Value.oneCell']) rfl (by omega) (by omega) hz ?_))
        intro g cap w3 hown3 hb3
        have O8 := Lib.hid hown3; have B8 := Lib.hid hb3; clear hown3 hb3
        go_wp2_with fail
        have hcb := carry_bd hxa hxb ⟨c0, c1⟩
        go_roundw
        case rel =>
          refine ⟨k + 1, _, by go_num, rfl, hcb.1, hcb.2, by omega, ?_, lk ++ [(x + y + c) % 4294967296], by rw [List.length_append, G1.out]; rfl, lim_snoc G2.out (by omega) (by omega), ?_, ?_, Below.trans G7.out B8.out⟩
          · have := HX0.out; have := HY0.out
            by_cases h1 : k < la.length
            · exact .inl h1
            · by_cases h2 : k < lb.length
              · exact .inr (.inl h2)
              · have e1 := HX0.out (by omega); have e2 := HY0.out (by omega)
                subst e1; subst e2
                right; right; omega
          · rw [nv_snoc, G1.out, ta.out, tb.out]; exact hst.out
          · have := O8.out
            unfold OwU
            rw [List.length_append, G1.out, List.map_append]
            exact this
        case measure =>
          simp only [intOf]
          by_cases h1 : k < la.length
          · omega
          · by_cases h2 : k < lb.length
            · omega
            · have e1 := HX0.out (by omega); have e2 := HY0.out (by omega)
              subst e1; subst e2
              omega
    · obtain ⟨lk, e1, e2, e3, e4, e5⟩ := hrel
      have hc0 : c = 0 := by omega
      subst hc0
      have ev : nv lk = nv la + nv lb := by
        rw [List.take_of_length_le (by omega), List.take_of_length_le (by omega)] at e3
        simpa using e3
      obtain ⟨o, ho, hof⟩ := OwV.own e4
      have G2 := Lib.hid e2; have G4 := Lib.hid ho; have G5 := Lib.hid e5; have GV := Lib.hid ev; have GF := Lib.hid hof
      clear e1 e2 e3 e4 e5 ho ev hof
      have d1 : decide ((k : Int) < (la.length : Int)) = false := decide_eq_false (by omega)
      have d2 : decide ((k : Int) < (lb.length : Int)) = false := decide_eq_false (by omega)
      go_wp2_with fail
      refine (cut_any o _ lk _ G4.out G2.out).mono ?_
      rintro e w1 ⟨v', rfl, h1, h2⟩
      have P1 := Lib.hid h1; have P2 := Lib.hid h2; clear h1 h2
      go_wp2_with fail
      go_ret
      refine ⟨⟨_, rfl, o, ?_, GF.out⟩, G5.out.trans P2.out⟩
      rw [← GV.out]; exact P1.out

theorem diff_step {n a b k : Nat} {x y c : Int} (hx : 0 ≤ x ∧ x < 4294967296) (hy : 0 ≤ y ∧ y < 4294967296) (hc : 0 ≤ c ∧ c ≤ 1) (h : n + b = a + 4294967296 ^ k * c.toNat) :
    n + 4294967296 ^ k * ((4294967296 + x - y - c) % 4294967296).toNat + (b + 4294967296 ^ k * y.toNat) = a + 4294967296 ^ k * x.toNat + 4294967296 ^ (k + 1) * (1 - (4294967296 + x - y - c) / 4294967296).toNat := by
  have e1 : y.toNat + c.toNat + ((4294967296 + x - y - c) % 4294967296).toNat = x.toNat + 4294967296 * (1 - (4294967296 + x - y - c) / 4294967296).toNat := by omega
  generalize (1 - (4294967296 + x - y - c) / 4294967296).toNat = q at *
  generalize ((4294967296 + x - y - c) % 4294967296).toNat = r at *
  have e2 := congrArg (4294967296 ^ k * ·) e1
  simp only [Nat.mul_add] at e2
  rw [Nat.pow_succ, Nat.mul_assoc]
  omega

set_option maxHeartbeats 1000000 in
theorem difference_any (va vb : Value) (la lb : List Int) (w : World) (ha : RdI .u32 w va la) (hb : RdI .u32 w vb lb) (hla : Lim la) (hlb : Lim lb) (hz : NoZ lb) (sa : la.length ≤ 100000000) (hge : nv lb ≤ nv la) :
    Calls Try.prog 61 #[va, vb] w fun e w' => (∃ v, e = .returned v ∧ NewV w w' v (lim (nv la - nv lb))) ∧ Ext w w' := by
  have hlen := can_len_le hlb hz hla hge
  have HA := Lib.hid ha; have HB := Lib.hid hb
  obtain ⟨aa, ca, rfl, hca, hma, hra⟩ := rdU ha
  obtain ⟨ab, cb, rfl, hcb, hmb, hrb⟩ := rdU hb
  clear ha hb hra hrb
  have HLA := Lib.hid hla; have HLB := Lib.hid hlb; have HGE := Lib.hid hge
  clear hla hlb hge hz
  go_enter Try.func61, Try.ntmps61
  go_wp2_with fail
  go_loopw [5, 6, 7, 8] (fun v c i _ wr => ∃ (k : Nat) (c' : Int) (lk : List Int), i = .int .i64 k ∧ c = .int .u64 c' ∧ 0 ≤ c' ∧ c' ≤ 1 ∧ k ≤ la.length ∧ lk.length = k ∧ Lim lk ∧ nv lk + nv (lb.take k) = nv (la.take k) + 4294967296 ^ k * c'.toNat ∧ OwU wr w.heap.size v lk ∧ Ext w wr)
    (fun _ _ i _ _ => la.length - (intOf i).toNat)
  case atStart => exact ⟨0, 0, [], rfl, rfl, by omega, by omega, by omega, rfl, fun x hx => by simp at hx, by simp [nv], World.ownsRow_nil _ _ _ _, Ext.refl _⟩
  case round =>
    obtain ⟨k, c, lk, rfl, rfl, c0, c1, hk, e1, e2, e3, e4, e5⟩ := hrel
    by_cases hlt : k < la.length
    · have hst := Lib.hid (diff_step (getD_lim HLA.out k) (getD_lim HLB.out k) ⟨c0, c1⟩ e3)
      have hxa := getD_lim HLA.out k; have hxb := getD_lim HLB.out k
      have hca2 := fun W h => limb_any (.slice aa la.length ca) la k W h HLA.out (by omega)
      have hcb2 := fun W h => limb_any (.slice ab lb.length cb) lb k W h HLB.out (by omega)
      have G1 := Lib.hid e1; have G2 := Lib.hid e2; have G4 := Lib.hid (ownU_len e4 e1); have G5 := Lib.hid e5
      have ta := Lib.hid (nv_take_all la k); have tb := Lib.hid (nv_take_all lb k)
      obtain ⟨x, hxx⟩ : ∃ x, x = la.getD k 0 := ⟨_, rfl⟩
      obtain ⟨y, hyy⟩ : ∃ y, y = lb.getD k 0 := ⟨_, rfl⟩
      rw [← hxx] at hca2 hst hxa ta
      rw [← hyy] at hcb2 hst hxb tb
      have CA := Lib.hid hca2; have CB := Lib.hid hcb2
      clear hxx hyy hca2 hcb2 e1 e2 e3 e4 e5
      go_wp2_with fail
      refine (CA.out _ (HA.out.ext G5.out)).mono ?_
      rintro e w1 ⟨rfl, hx1⟩
      have G6 := Lib.hid (G5.out.trans hx1); have O6 := Lib.hid (own_ext G4.out hx1); clear hx1
      go_wp2_with fail
      refine (CB.out _ (HB.out.ext G6.out)).mono ?_
      rintro e w2 ⟨rfl, hx2⟩
      have G7 := Lib.hid (G6.out.trans hx2); have O7 := Lib.hid (own_ext O6.out hx2); clear hx2
      have hz := G7.out.size
      go_wp2_with (at_builtin; (refine wpList_append_new w2 rfl _ _ 23 rfl w.heap.size 50 (.int .u32 0) 1 4 Try.underlying23 Try.infoU rfl (by decide) _ _ _ O7.out rfl [_] rfl (by simp [Value.oneCell']) rfl (by omega) (by omega) hz ?_))
      intro g cap w3 hown3 hb3
      have O8 := Lib.hid hown3; have B8 := Lib.hid hb3; clear hown3 hb3
      go_wp2_with fail
      go_roundw
      case rel =>
        refine ⟨k + 1, _, lk ++ [(4294967296 + x - y - c) % 4294967296], by go_num, rfl, by omega, by omega, by omega, by rw [List.length_append, G1.out]; rfl, lim_snoc G2.out (by omega) (by omega), ?_, ?_, Below.trans G7.out B8.out⟩
        · rw [nv_snoc, G1.out, ta.out, tb.out]; exact hst.out
        · have := O8.out
          unfold OwU
          rw [List.length_append, G1.out, List.map_append]
          exact this
      case measure => simp [intOf]; omega
    · have ev : nv lk = nv la - nv lb := by
        have h1 := nv_lt e2
        have h2 := HGE.out
        rw [e1, show k = la.length by omega] at h1
        rw [show k = la.length by omega, List.take_of_length_le (by omega : lb.length ≤ la.length), List.take_length] at e3
        rcases (show c = 0 ∨ c = 1 by omega) with rfl | rfl
        · simp at e3; omega
        · have h3 := nv_lt HLB.out
          have h4 := pow_le hlen
          simp at e3
          omega
      obtain ⟨o, ho, hof⟩ := OwV.own e4
      have G2 := Lib.hid e2; have G4 := Lib.hid ho; have G5 := Lib.hid e5; have GV := Lib.hid ev; have GF := Lib.hid hof
      clear e1 e2 e3 e4 e5 ho ev hof
      go_wp2_with fail
      refine (cut_any o _ lk _ G4.out G2.out).mono ?_
      rintro e w1 ⟨v', rfl, h1, h2⟩
      have P1 := Lib.hid h1; have P2 := Lib.hid h2; clear h1 h2
      go_wp2_with fail
      go_ret
      refine ⟨⟨_, rfl, o, ?_, GF.out⟩, G5.out.trans P2.out⟩
      rw [← GV.out]; exact P1.out

end Go.Proofs.Ytoicjiiifffciaa
