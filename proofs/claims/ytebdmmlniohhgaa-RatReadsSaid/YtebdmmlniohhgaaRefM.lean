/- Walk of the reference's Parse of layer 5. Conditions: none. -/
import Derived.Test.YtebdmmlniohhgaaRefC
import Derived.Test.YtebdmmlniohhgaaRefD
import Derived.Test.YtebdmmlniohhgaaRefH
import Derived.Test.YtebdmmlniohhgaaGF
namespace Go.Proofs.Ytebdmmlniohhgaa
set_option linter.unusedSimpArgs false
set_option linter.unusedVariables false
open Go.RowKit

theorem text_ne {s : ByteArray} (h : s.size ≠ 0) : s.toList.isEmpty = false := by
  rw [ByteArray.toList_eq]
  have : s.data.toList.length = s.size := by simp
  cases hd : s.data.toList with
  | nil => rw [hd] at this; simp at this; omega
  | cons a t => rfl

theorem byt_getD {s : ByteArray} {k : Nat} (h : k < s.size) : (byt s).getD k 0 = (s[k]'h).toNat := by
  rw [List.getD_eq_getElem?_getD, List.getElem?_eq_getElem (by rw [byt_len]; exact h), byt_get s k h]; rfl

theorem not_all {s : ByteArray} {k : Nat} (h : k < s.size) (hd : isDig (s[k]'h).toNat = false) : (byt s).all isDig = false := by
  cases ha : (byt s).all isDig with
  | false => rfl
  | true =>
    have := List.all_eq_true.1 ha _ (List.getElem_mem (n := k) (by rw [byt_len]; exact h))
    rw [byt_get s k h, hd] at this
    cases this

theorem all_dig {s : ByteArray} (h : ∀ (j : Nat) (hj : j < s.size), isDig (s[j]'hj).toNat = true) : (byt s).all isDig = true := by
  rw [List.all_eq_true]
  intro b hb
  obtain ⟨j, hj, rfl⟩ := List.getElem_of_mem hb
  have hj' : j < s.size := by rw [← byt_len]; exact hj
  rw [byt_get s j hj']
  exact h j hj'

theorem head_byt {s : ByteArray} (h : 0 < s.size) : (byt s).head? = some (s[0]'h).toNat := by
  rw [List.head?_eq_getElem?, List.getElem?_eq_getElem (by rw [byt_len]; exact h), byt_get s 0 h]

theorem len_ten {X d K : Nat} (h : (lim X).length ≤ K) (hd : d ≤ 9) : (lim (X * 10 + d)).length ≤ K + 1 := by
  have h1 := lim_len_le.1 h
  refine lim_len_le.2 ?_
  rw [Nat.pow_succ]
  generalize 4294967296 ^ K = P at *
  omega

theorem ref_from_int (k : Int) (n : Nat) (w : World) (hn : n < 18446744073709551616) (hk : k = n) :
    Calls Try.prog 38 #[.int .u64 k] w fun e w' => (∃ v, e = .returned v ∧ NewV w w' v (lim n)) ∧ Ext w w' := by
  subst hk; exact refFrom_any n w hn

set_option maxHeartbeats 2000000 in
theorem refParse_any (s : ByteArray) (w : World) :
    Calls Try.prog 34 #[.string s] w fun e w' => Res w w' e (parseS s) ∧ Ext w w' := by
  by_cases hsz : 4096 < s.size
  · have e1 : parseS s = ([], 4) := by unfold parseS; rw [if_pos hsz]
    have E1 := Lib.hid e1; clear e1
    go_enter Try.func34, Try.ntmps34
    go_wp2_with fail
    go_ret2
    exact ⟨Res.mk (NewV.nil _ _) E1.out, Ext.refl w⟩
  · by_cases h0 : s.size = 0
    · have e1 : parseS s = ([], 2) := by
        unfold parseS; rw [if_neg hsz, if_pos]; unfold badT; rw [h0]; rfl
      have hs0 : s.toList.isEmpty = true := by
        rw [ByteArray.toList_eq]
        have : s.data.toList.length = s.size := by simp
        cases hd : s.data.toList with
        | nil => rfl
        | cons a t => rw [hd] at this; simp at this; omega
      have E1 := Lib.hid e1; clear e1
      go_enter Try.func34, Try.ntmps34
      go_wp2_with fail
      go_ret2
      exact ⟨Res.mk (NewV.nil _ _) E1.out, Ext.refl w⟩
    · have hs0 := text_ne h0
      have hp0 : 0 < s.size := by omega
      have hhead := head_byt hp0
      by_cases hq : s[0].toNat = 48 ∧ 1 < s.size
      · obtain ⟨hz, hz1⟩ := hq
        have e1 : parseS s = ([], 2) := by
          unfold parseS; rw [if_neg hsz, if_pos]; unfold badT; rw [hhead, hz]; simp [hz1]
        have E1 := Lib.hid e1; clear e1 hhead
        go_enter Try.func34, Try.ntmps34
        go_wp2_with fail
        go_ret2
        exact ⟨Res.mk (NewV.nil _ _) E1.out, Ext.refl w⟩
      · have hbad : (byt s).all isDig = false → parseS s = ([], 2) := fun h => by
          unfold parseS; rw [if_neg hsz, if_pos]; unfold badT; rw [h]; simp
        have hgood : (byt s).all isDig = true → parseS s = fitL (horF (byt s)) := fun h => by
          unfold parseS
          rw [if_neg hsz, if_neg]
          unfold badT
          rw [h, hhead]
          have hz0 : decide (s.size = 0) = false := decide_eq_false h0
          rw [hz0]
          simp only [Bool.not_true, Bool.or_false, Bool.false_or, Bool.and_eq_true, decide_eq_true_eq, Option.some.injEq]
          exact fun e => hq e
        have HBAD := Lib.hid hbad; have HGOOD := Lib.hid hgood
        clear hhead hbad hgood
        by_cases hz : s[0].toNat = 48
        all_goals
          first
            | have hz1 : ¬ 1 < s.size := fun h => hq ⟨hz, h⟩
            | skip
          clear hq
          go_enter Try.func34, Try.ntmps34
          go_wp2_with fail
          go_loopw [5] (fun i wr => ∃ k : Nat, k ≤ s.size ∧ i = .int .i64 k ∧ (∀ (j : Nat) (hj : j < s.size), j < k → isDig (s[j]'hj).toNat = true) ∧ wr = w)
            (fun i _ => s.size - (intOf i).toNat)
          case atStart => exact ⟨0, Nat.zero_le _, rfl, fun j _ h => absurd h (Nat.not_lt_zero j), rfl⟩
          case round =>
            obtain ⟨k, hk, rfl, hdj, rfl⟩ := hrel
            have HDJ := Lib.hid hdj
            clear hdj
            by_cases hlt : k < s.size
            · have hb255 : (s[k]'hlt).toNat < 256 := (s[k]'hlt).toNat_lt
              cases hd : isDig (s[k]'hlt).toNat with
              | true =>
                have hdd := hd
                unfold isDig at hdd
                simp only [Bool.and_eq_true, decide_eq_true_eq] at hdd
                have q1 : ¬ (((s[k]'hlt).toNat : Nat) : Int) < 48 := by omega
                have q2 : ¬ (57 : Int) < (((s[k]'hlt).toNat : Nat) : Int) := by omega
                have HD := Lib.hid hd
                clear hd hdd
                go_wp2
                go_roundw
                case rel =>
                  refine ⟨k + 1, by omega, by go_num, fun j hj hjk => ?_, by first | rfl | trivial⟩
                  by_cases e : j = k
                  · subst e; exact HD.out
                  · exact HDJ.out j hj (by omega)
                case measure => simp [intOf] <;> omega
              | false =>
                have hdd := hd
                unfold isDig at hdd
                simp only [Bool.and_eq_false_iff, decide_eq_false_iff_not] at hdd
                have E1 := Lib.hid (HBAD.out (not_all hlt hd))
                clear hd
                rcases hdd with hdd | hdd
                · have q1 : (((s[k]'hlt).toNat : Nat) : Int) < 48 := by omega
                  clear hdd
                  go_wp2
                  go_ret2
                  exact ⟨Res.mk (NewV.nil _ _) E1.out, Ext.refl _⟩
                · have q1 : ¬ (((s[k]'hlt).toNat : Nat) : Int) < 48 := by omega
                  have q2 : (57 : Int) < (((s[k]'hlt).toNat : Nat) : Int) := by omega
                  clear hdd
                  go_wp2
                  go_ret2
                  exact ⟨Res.mk (NewV.nil _ _) E1.out, Ext.refl _⟩
            · obtain rfl : k = s.size := by omega
              have hall := all_dig (fun j hj => HDJ.out j hj hj)
              have e1 := HGOOD.out hall
              have HA := Lib.hid hall; have E0 := Lib.hid e1
              clear hall e1 HDJ HBAD HGOOD
              go_wp2_with fail
              go_loopw [4, 6] (fun v i wq => ∃ k : Nat, k ≤ s.size ∧ i = .int .i64 k ∧ (lim (horF ((byt s).take k))).length ≤ 513 ∧ NewV wr wq v (lim (horF ((byt s).take k))) ∧ Ext wr wq)
                (fun _ i _ => s.size - (intOf i).toNat)
              case atStart => exact ⟨0, Nat.zero_le _, rfl, by simp [horF, lim_zero], by simpa [horF, lim_zero] using NewV.nil _ _, Ext.refl _⟩
              case round =>
                obtain ⟨k, hk, rfl, hlen, hnew, hx⟩ := hrel
                obtain ⟨a, c, rfl⟩ := hnew.shape
                have HN := Lib.hid hnew; have HX := Lib.hid hx
                clear hnew hx
                have hfit := fun W W0 n (h : NewV W0 W (.slice a (lim (horF ((byt s).take k))).length c) (lim n)) => refFit_any (.slice a (lim (horF ((byt s).take k))).length c) n W W0 h
                by_cases hlt2 : k < s.size
                · by_cases hl5 : (lim (horF ((byt s).take k))).length ≤ 512
                  · obtain ⟨d, hd9, hbk, hhor⟩ := dig_at HA.out hlt2
                    rw [byt_getD hlt2] at hbk
                    obtain ⟨X, hX⟩ : ∃ X, X = horF ((byt s).take k) := ⟨_, rfl⟩
                    rw [← hX] at hl5 hhor HN hlen ⊢
                    have hsx : (((s[k]'hlt2).toNat : Nat) : Int) = 48 + (d : Int) := by rw [hbk]; omega
                    have hp := fun W v1 v2 h1 h2 => product_any v1 v2 (lim X) [10] W h1 h2 (lim_lim _) (lims [10] (by decide)) (by omega) (by simp)
                    rw [nv_lim, show nv [10] = 10 from rfl] at hp
                    have hln : (lim (X * 10 + d)).length ≤ 513 := len_ten (K := 512) hl5 hd9
                    have hl1 : (lim (X * 10)).length ≤ 513 := len_ten (d := 0) (K := 512) hl5 (by omega)
                    have hl2 : (lim d).length ≤ 2 := lim_len_le.2 (Nat.lt_of_le_of_lt hd9 (by decide))
                    have hsu := fun W v1 v2 h1 h2 => sum_any v1 v2 (lim (X * 10)) (lim d) W h1 h2 (lim_lim _) (lim_lim _) (by omega) (by omega)
                    rw [nv_lim, nv_lim] at hsu
                    have hfr := fun W z (hz : z = (d : Int)) => ref_from_int z d W (by omega) hz
                    have HP := Lib.hid hp; have HSU := Lib.hid hsu; have HH := Lib.hid hhor; have HFR := Lib.hid hfr; have HXX := Lib.hid hX; have HLN := Lib.hid hln
                    clear hp hsu hhor hfr hX hfit hbk hln hl1 hl2 hlen HA E0
                    go_wp2_with fail
                    have hmx : Try.prog.follows .mixedOrders = true := by kernel_rfl
                    go_region_held3 (fun _ => True)
                      (trivial)
                      (first | (go_at_call_of 84 (Value.slice a (lim X).length c); refine (HP.out _ _ _ (by exact HN.out.rd.ext (by (repeat (first | (with_reducible exact Ext.refl _) | (with_reducible assumption) | (with_reducible refine Ext.alloc ?_ _) | ((with_reducible refine Ext.setp ?_ ?_); focus (dsimp only; omega)) | (with_reducible refine Ext.drew ?_) | (with_reducible refine Ext.drewN ?_ _) | (with_reducible refine Ext.trans ?_ (by assumption)))))) (by exact rdU_new _ [10] (by simp))).mono ?_; rintro e w3 ⟨⟨v3, rfl, n3⟩, hx3⟩; obtain ⟨a3, c3, rfl⟩ := n3.shape; have N3 := Lib.hid n3.rd; have X3 := Lib.hid (Ext.trans (show Ext wr _ by (repeat (first | (with_reducible exact Ext.refl _) | (with_reducible assumption) | (with_reducible refine Ext.alloc ?_ _) | ((with_reducible refine Ext.setp ?_ ?_); focus (dsimp only; omega)) | (with_reducible refine Ext.drew ?_) | (with_reducible refine Ext.drewN ?_ _) | (with_reducible refine Ext.trans ?_ (by assumption))))) hx3); clear n3 hx3) | (go_at_call 38; refine (HFR.out _ _ (by first | omega | (simp [IntKind.wrap, IntKind.signed, IntKind.bits]; done) | (simp [IntKind.wrap, IntKind.signed, IntKind.bits]; omega))).mono ?_; rintro e w4 ⟨⟨v4, rfl, n4⟩, hx4⟩; obtain ⟨a4, c4, rfl⟩ := n4.shape; have N4 := Lib.hid n4.rd; have M3 := Lib.hid (N3.out.ext hx4); have X4 := Lib.hid (X3.out.trans hx4); clear n4 hx4) | (go_at_call 83; refine (HSU.out _ _ _ M3.out N4.out).mono ?_; rintro e w5 ⟨⟨v5, rfl, n5⟩, hx5⟩; have N5 := Lib.hid n5; have X5 := Lib.hid hx5; clear n5 hx5))
                    all_goals
                      go_wp2_with fail
                      go_roundw
                      case rel =>
                        have hsum : horF ((byt s).take (k + 1)) = X * 10 + d := by rw [HH.out]; omega
                        refine ⟨k + 1, by omega, by go_num, ?_, ?_, ?_⟩
                        · rw [hsum]; exact HLN.out
                        · rw [hsum]; exact N5.out.from (HX.out.trans X4.out)
                        · exact (HX.out.trans X4.out).trans X5.out
                      case measure => simp [intOf]; omega
                  · have hbig : ¬ horF ((byt s).take k) < MAXN := fun h => hl5 (len_max.2 h)
                    have hbig2 : ¬ horF (byt s) < MAXN := fun h => hbig (Nat.lt_of_le_of_lt (horF_take_le (byt s) k) h)
                    have hf := hfit wr _ _ HN.out
                    rw [fitL_long hbig] at hf
                    have e1 := E0.out
                    rw [fitL_long hbig2] at e1
                    have HF := Lib.hid hf; have E1 := Lib.hid e1
                    have q5 : (512 : Int) < ((lim (horF ((byt s).take k))).length : Int) := by omega
                    obtain ⟨L, hL⟩ : ∃ L, L = lim (horF ((byt s).take k)) := ⟨_, rfl⟩
                    rw [← hL] at HF HN q5 ⊢
                    clear hf e1 hbig hbig2 hfit HA E0 hlen hl5 hL
                    go_wp2_with fail
                    refine HF.out.mono ?_
                    rintro e w3 ⟨⟨v4, rfl, n4⟩, hx3⟩
                    have N4 := Lib.hid n4; have X3 := Lib.hid hx3
                    clear n4 hx3
                    go_wp2_with fail
                    go_ret2
                    exact ⟨Res.mk N4.out E1.out, HX.out.trans X3.out⟩
                · obtain rfl : k = s.size := by omega
                  have hfl := fun W W0 h => hfit W W0 (horF ((byt s).take s.size)) h
                  rw [List.take_of_length_le (by rw [byt_len]; exact Nat.le_refl _)] at hfl HN hlen ⊢
                  have hf := hfl wr _ HN.out
                  have e1 := E0.out
                  obtain ⟨R, hR⟩ : ∃ R, R = fitL (horF (byt s)) := ⟨_, rfl⟩
                  obtain ⟨L, hL⟩ : ∃ L, L = lim (horF (byt s)) := ⟨_, rfl⟩
                  rw [← hR] at hf e1
                  rw [← hL] at hf HN ⊢
                  have HF := Lib.hid hf; have E1 := Lib.hid e1
                  clear hf e1 hfl hfit HA E0 hlen hR hL
                  go_wp2_with fail
                  refine HF.out.mono ?_
                  rintro e w3 ⟨⟨v4, rfl, n4⟩, hx3⟩
                  have N4 := Lib.hid n4; have X3 := Lib.hid hx3
                  clear n4 hx3
                  go_wp2_with fail
                  go_ret2
                  refine ⟨?_, HX.out.trans X3.out⟩
                  rw [E1.out]
                  exact ⟨_, rfl, N4.out⟩

end Go.Proofs.Ytebdmmlniohhgaa
