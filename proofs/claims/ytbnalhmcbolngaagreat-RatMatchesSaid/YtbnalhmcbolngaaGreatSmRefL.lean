/- Part of the proof of mat6_holds: what the row needs of RefL. Conditions: as each theorem states. -/
import Derived.Test.YtbnalhmcbolngaaGreatSmGH
import Derived.Test.YtbnalhmcbolngaaGreatSmGF
namespace Go.Proofs.YtbnalhmcbolngaaGreat
set_option linter.unusedSimpArgs false
set_option linter.unusedVariables false
open Go.RowKit
theorem strOf_app (X Y : List Int) : strOfNums X ++ strOfNums Y = strOfNums (X ++ Y) := by
  have h : (strOfNums X ++ strOfNums Y).data.toList = (strOfNums (X ++ Y)).data.toList := by
    rw [ByteArray.data_append, Array.toList_append, strOfNums_data, strOfNums_data, strOfNums_data, List.map_append]
  have h2 : (strOfNums X ++ strOfNums Y).data = (strOfNums (X ++ Y)).data := by
    rw [← Array.toArray_toList (xs := (strOfNums X ++ strOfNums Y).data), h]
  cases h3 : strOfNums X ++ strOfNums Y
  cases h4 : strOfNums (X ++ Y)
  simp_all
def dtx (L : List Nat) : ByteArray := strOfNums (L.map (fun d => ((48 + d : Nat) : Int))).reverse
theorem dtx_snoc (L : List Nat) (d : Nat) : strOfNums [(48 : Int) + (d : Int)] ++ dtx L = dtx (L ++ [d]) := by
  have e : (48 : Int) + (d : Int) = ((48 + d : Nat) : Int) := by omega
  rw [e]
  unfold dtx
  rw [strOf_app, List.map_append, List.reverse_append]
  rfl
theorem dtx_size (L : List Nat) : (dtx L).size = L.length := by
  unfold dtx
  rw [strOfNums_size, List.length_reverse, List.length_map]
theorem decT_dtx {n : Nat} (h : n ≠ 0) : decT n = dtx (decR n) := by
  unfold decT dtx
  rw [if_neg h]
theorem text1 (w : World) (x : Int) : (convert 187 9 (.slice (some ⟨w.heap.size, 0, none⟩) 1 1)).run Tryz.prog (w.alloc (.cells #[.int .u8 x] 5)) = .ok (.string (strOfNums [x])) (w.alloc (.cells #[.int .u8 x] 5)) := by
  refine run_convert_bytes_arg _ 187 5 und51 und5 w.heap.size 0 1 1 [x] rfl (fun i hi => ?_) _ und9
  have hb := (Blk.new w #[.int .u8 x] 5).cell i
  rw [Nat.zero_add, hb]
  have : i = 0 := by simpa using hi
  subst this
  rfl
theorem text_ne0 {s : ByteArray} (h : s.size ≠ 0) : s.toList.isEmpty = false := by
  rw [ByteArray.toList_eq]
  have : s.data.toList.length = s.size := by simp
  cases hd : s.data.toList with
  | nil => rw [hd] at this; simp at this; omega
  | cons a t => rfl
set_option maxHeartbeats 2000000 in
theorem digitsT_any (va : Value) (la : List Int) (w : World) (ha : RdI .u32 w va la) (hla : Lim la) (za : NoZ la) (hs : la.length ≤ 10000) :
    Calls Tryz.prog 122 #[va] w fun e w' => e = .returned (.string (decT (nv la))) ∧ Ext w w' := by
  have HA := Lib.hid ha
  obtain ⟨aa, ca, rfl, hca, hma, hra⟩ := rdU ha
  have HLA := Lib.hid hla; have HZA := Lib.hid za
  clear ha hra hla za
  go_enter Tryz.func122, Tryz.ntmps122
  go_wp2_with (at_builtin; (refine wpList_append_nil rfl _ _ rfl rfl _ la rfl HA.out (by omega) ?_))
  intro v2 w2 hnew hx2
  obtain ⟨a2, c2, rfl⟩ := hnew.shape
  have N2 := Lib.hid hnew; have X2 := Lib.hid hx2
  clear hnew hx2
  go_wp2_with fail
  go_loopg [3, 4, 5, 6, 7] (nv la) (fun g st v _ _ _ wr => ∃ (L : List Nat) (lk : List Int), nv lk ≤ g ∧ Lim lk ∧ NoZ lk ∧ lk.length ≤ 10000 ∧ decR (nv la) = L ++ decR (nv lk) ∧ st = .string (dtx L) ∧ OwB wr w.heap.size v lk ∧ Ext w wr)
  case atStart => exact ⟨[], la, Nat.le_refl _, HLA.out, HZA.out, hs, rfl, rfl, N2.out, X2.out⟩
  case round =>
    obtain ⟨L, lk, hg, h1, h2, h3, h4, rfl, h6, h7⟩ := hrel
    obtain ⟨a4, c4, rfl⟩ := h6.shape
    have hszL : (dtx L).size ≤ 400000 := by
      rw [dtx_size]
      have e1 := decR_len (nv la)
      have e2 : blen (nv la) ≤ 32 * la.length := blen_le.2 (by rw [← pow_two]; exact nv_lt HLA.out)
      rw [h4, List.length_append] at e1
      omega
    have G1 := Lib.hid h1; have G2 := Lib.hid h2; have G4 := Lib.hid h4; have G6 := Lib.hid h6; have G7 := Lib.hid h7
    clear h1 h2 h4 h6 h7
    by_cases hlk : 0 < lk.length
    · have q0 : (0 : Int) < (lk.length : Int) := by omega
      go_wp2_with fail
      go_loopw [5, 6, 7] (fun r i _ wq => ∃ (k : Nat) (lj : List Int), k ≤ lk.length ∧ i = .int .i64 ((k : Int) - 1) ∧ r = .int .u64 ((nv (lk.drop k) % 10 : Nat) : Int) ∧ lj.length = lk.length ∧ Lim lj ∧ lj.take k = lk.take k ∧ nv (lj.drop k) = nv (lk.drop k) / 10 ∧ OwB wq w.heap.size (.slice a4 lk.length c4) lj ∧ Ext w wq)
        (fun _ i _ _ => (intOf i + 1).toNat)
      case atStart => exact ⟨lk.length, lk, Nat.le_refl _, by go_num, by rw [List.drop_length]; rfl, rfl, G1.out, rfl, by rw [List.drop_length]; rfl, G6.out, G7.out⟩
      case round =>
        obtain ⟨k, lj, hk, rfl, rfl, e1, e2, e3, e4, e5, e6⟩ := hrel
        cases k with
        | zero =>
          rw [List.drop_zero, List.drop_zero] at e4
          rw [List.drop_zero]
          obtain ⟨og, hov, hog⟩ := e5
          have hcut := cut_any og _ lj wr hov e2
          rw [e4] at hcut
          obtain ⟨d, hd⟩ : ∃ d : Nat, d = nv lk % 10 := ⟨_, rfl⟩
          rw [← hd]
          have hd9 : d < 10 := by omega
          have HC := Lib.hid hcut; have HD := Lib.hid hd; have E6 := Lib.hid e6; have HG := Lib.hid hog
          clear hcut hd e1 e2 e3 e4 e6 hov hog
          go_wp2_with fail
          refine HC.out.mono ?_
          rintro e w5 ⟨v5, rfl, ho5, hx5⟩
          have O5 := Lib.hid ho5; have X5 := Lib.hid (E6.out.trans hx5)
          clear ho5 hx5
          have htx := text1 w5 ((48 : Int) + (d : Int))
          have hs1 : (strOfNums [(48 : Int) + (d : Int)]).size = 1 := rfl
          have hpos : nv lk ≠ 0 := fun e => by have := (nv_zero_iff G1.out G2.out).1 e; omega
          go_wp2_with fail
          go_roundg (nv lk / 10)
          case measure => omega
          case rel =>
            refine ⟨L ++ [d], lim (nv lk / 10), by rw [nv_lim]; exact Nat.le_refl _, lim_lim _, lim_noZ _, ?_, ?_, ?_, ⟨og, O5.out.ext ((Ext.refl _).alloc _), HG.out⟩, X5.out.alloc _⟩
            · exact Nat.le_trans (lim_len_le.2 (Nat.lt_of_le_of_lt (Nat.div_le_self _ _) (nv_lt G1.out))) h3
            · rw [nv_lim, G4.out, decR_pos hpos, List.append_assoc, HD.out]; rfl
            · rw [← dtx_snoc]
        | succ j =>
          have hj1 : (((j + 1 : Nat) : Int) - 1) = (j : Int) := by omega
          rw [hj1]
          obtain ⟨g, rfl, hn, hBg, hrow⟩ := e5.row (j := j) (by omega)
          have hgk : lj.getD j 0 = lk.getD j 0 := by
            have := congrArg (fun t => t.getD j 0) e3
            simpa [List.getD_eq_getElem?_getD, List.getElem?_take] using this
          have hxl := getD_lim G1.out j
          have hdk := nv_drop_succ lk j (by omega)
          obtain ⟨y, hyy⟩ : ∃ y, y = lk.getD j 0 := ⟨_, rfl⟩
          have hy' := hrow.getD (i := j) (by omega) (hyy.trans hgk.symm)
          rw [← hyy] at hxl hdk
          have fy := hrow.free; have ly := hrow.lt
          obtain ⟨h, hh⟩ : ∃ h, h = nv (lk.drop (j + 1)) := ⟨_, rfl⟩
          rw [← hh] at hdk e4 ⊢
          have hst := dec_step y.toNat h
          rw [← hdk] at hst
          obtain ⟨r, hr⟩ : ∃ r : Nat, r = h % 10 := ⟨_, rfl⟩
          rw [← hr] at hst ⊢
          have hr9 : r ≤ 9 := by omega
          obtain ⟨y0, y1⟩ := hxl
          have q1 : (0 : Int) ≤ (j : Int) := by omega
          have q2 : (j : Int) < (lk.length : Int) := by omega
          obtain ⟨s1, s2, s3⟩ := hst
          have s3' := s3 (by omega)
          obtain ⟨yn, hyn⟩ : ∃ yn : Nat, y = (yn : Int) := ⟨y.toNat, by omega⟩
          subst hyn
          rw [Int.toNat_natCast] at s1 s2 s3'
          have E1 := Lib.hid e1; have E2 := Lib.hid e2; have E3 := Lib.hid e3; have E4 := Lib.hid e4; have E6 := Lib.hid e6; have HROW := Lib.hid hrow; have S1 := Lib.hid s1; have S2 := Lib.hid s2; have S3 := Lib.hid s3'
          clear e1 e2 e3 e4 e5 e6 hrow s1 s2 s3 s3' hgk hyy hh hr hdk hn hj1 hk
          go_wp2_with fail
          go_roundw
          case rel =>
            obtain ⟨t, ht⟩ : ∃ t : Nat, t = (yn + 4294967296 * r) / 10 := ⟨_, rfl⟩
            have et : ((4294967296 : Int) * (r : Int) + (yn : Int)) / 10 = (t : Int) := by omega
            have em : ((4294967296 : Int) * (r : Int) + (yn : Int)) % 10 = ((nv (lk.drop j) % 10 : Nat) : Int) := by rw [S2.out]; omega
            have ht0 : t < 4294967296 := by rw [ht]; exact S3.out
            rw [et, em]
            refine ⟨j, lj.set j (t : Int), by omega, rfl, rfl, (List.length_set).trans E1.out, lim_set E2.out _ (by omega) (by omega), ?_, ?_, ⟨some g, ?_, fun g' h => by cases h; exact hBg⟩, E6.out.set (p := ⟨g, j, none⟩) hBg _⟩
            · rw [List.take_set_of_le (Nat.le_refl _)]
              have := congrArg (List.take j) E3.out
              simpa [List.take_take, Nat.min_eq_left (Nat.le_succ j)] using this
            · rw [nv_drop_succ _ j (by rw [List.length_set, E1.out]; omega), set_getD_self _ (by rw [E1.out]; omega), Int.toNat_natCast, List.drop_set_of_lt (by omega), E4.out, S1.out, ht]
            · have := OwV.row (HROW.out.set j (t : Int) (by have := E1.out; omega))
              rw [List.length_set, E1.out] at this
              exact this
          case measure => simp [intOf]
    · obtain rfl : lk = [] := List.length_eq_zero_iff.1 (by omega)
      have e4 := G4.out
      rw [show nv ([] : List Int) = 0 from rfl, decR_zero, List.append_nil] at e4
      by_cases h0 : nv la = 0
      · rw [h0, decR_zero] at e4
        subst e4
        have es : dtx [] = ⟨#[]⟩ := rfl
        have e5 : decT (nv la) = ⟨#[48]⟩ := by rw [h0]; rfl
        have E5 := Lib.hid e5
        rw [es]
        clear es hszL e5
        go_wp2_with fail
        go_ret
        exact ⟨by rw [E5.out]; rfl, G7.out⟩
      · have hs0 : (dtx L).toList.isEmpty = false := by
          refine text_ne0 ?_
          rw [dtx_size, ← e4, decR_pos h0]
          simp
        have e5 := decT_dtx h0
        rw [e4] at e5
        have E5 := Lib.hid e5
        clear e4 e5
        go_wp2_with fail
        go_ret
        exact ⟨by rw [E5.out]; rfl, G7.out⟩
end Go.Proofs.YtbnalhmcbolngaaGreat
