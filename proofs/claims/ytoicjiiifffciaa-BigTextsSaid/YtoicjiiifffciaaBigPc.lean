/- Walk of Parse of layer 5. Conditions: none. -/
import Derived.Test.YtoicjiiifffciaaBigPb
namespace Go.Proofs.Ytoicjiiifffciaa
set_option linter.unusedSimpArgs false
set_option linter.unusedVariables false
open Go.RowKit

/-- '[]byte(s)'. -/
theorem conv_bytes (s : ByteArray) (w : World) : ∃ cap w1, (convert 9 51 (.string s)).run Try.prog w = .ok (.slice (some ⟨w.heap.size, 0, none⟩) s.size cap) w1 ∧ Ext w w1 ∧ w1.heap.size = w.heap.size + 1 ∧
    ∀ i, i < s.size → w1.cell? ⟨w.heap.size, i, none⟩ = some (.int .u8 (((byt s).getD i 0 : Nat) : Int)) := by
  refine ⟨_, _, run_bytes_of_string w 9 51 5 s und9 und51 und5, ((Ext.refl w).drew).alloc _, by simp, fun i hi => ?_⟩
  have h1 := World.cell?_alloc_mark w.drew (bytesRow s (grownCap w s.size 0 5)) 5 ((bytesRow s (grownCap w s.size 0 5)).size, (bytesRow s (grownCap w s.size 0 5)).size + 1) i
  have h2 : w.drew.heap.size = w.heap.size := rfl
  rw [h2] at h1
  rw [h1, bytesRow_at s _ i hi]
  have h3 : (byt s).getD i 0 = (s.data[i]).toNat := by
    rw [List.getD_eq_getElem?_getD, List.getElem?_eq_getElem (by rw [byt_len]; exact hi)]
    simp [byt]
  rw [h3]

theorem ten_arith (P tk r q c x n m : Nat) (h : tk + P * c = 10 * m + n) (h4 : r + 4294967296 * q = c + 10 * x) : tk + P * r + P * (4294967296 * q) = 10 * (m + P * x) + n := by
  have h5 : P * r + P * (4294967296 * q) = P * (r + 4294967296 * q) := by rw [Nat.mul_add]
  rw [h4, Nat.mul_add] at h5
  have h6 : 10 * (P * x) = P * (10 * x) := by rw [Nat.mul_left_comm]
  rw [Nat.mul_add, h6]
  omega

theorem ten_div (c x : Int) (h0 : 0 ≤ c) (h1 : 0 ≤ x) : ((c + x * 10) % 4294967296).toNat + 4294967296 * ((c + x * 10) / 4294967296).toNat = c.toNat + 10 * x.toNat := by
  obtain ⟨a, rfl⟩ := Int.eq_ofNat_of_zero_le h0
  obtain ⟨b, rfl⟩ := Int.eq_ofNat_of_zero_le h1
  have e1 : ((a : Int) + b * 10) % 4294967296 = (((a + b * 10) % 4294967296 : Nat) : Int) := by omega
  have e2 : ((a : Int) + b * 10) / 4294967296 = (((a + b * 10) / 4294967296 : Nat) : Int) := by omega
  rw [e1, e2]
  simp only [Int.toNat_natCast]
  omega

/-- One limb of '10 a + d'. -/
theorem ten_step {lj l : List Int} {k : Nat} {c x : Int} {n : Nat} (hl : Lim l) (hlen : lj.length = l.length) (hk : k < l.length) (hx : x = l.getD k 0) (hc : 0 ≤ c ∧ c ≤ 9) (h : nv (lj.take k) + 4294967296 ^ k * c.toNat = 10 * nv (l.take k) + n) :
    nv ((lj.set k ((c + x * 10) % 4294967296)).take (k + 1)) + 4294967296 ^ (k + 1) * ((c + x * 10) / 4294967296).toNat = 10 * nv (l.take (k + 1)) + n := by
  have hxl := getD_lim hl k
  rw [← hx] at hxl
  have h4 := ten_div c x hc.1 hxl.1
  generalize ((c + x * 10) / 4294967296) = q at *
  generalize ((c + x * 10) % 4294967296) = r at *
  have h1 := nv_takeD (l := lj.set k r) (k := k) (by rw [List.length_set]; omega)
  have h2 : (lj.set k r).getD k 0 = r := by
    rw [List.getD_eq_getElem?_getD, List.getElem?_set_self (by omega), Option.getD_some]
  have h3 : (lj.set k r).take k = lj.take k := List.take_set_of_le (Nat.le_refl _)
  rw [h1, h2, h3, nv_takeD hk, ← hx, Nat.pow_succ, Nat.mul_assoc]
  exact ten_arith _ _ _ _ _ _ _ _ h h4

theorem noZ_ten {l lj : List Int} {d : Nat} (hl : Lim l) (hz : NoZ l) (hj : Lim lj) (hlen : lj.length = l.length) (h : nv lj = 10 * nv l + d) : NoZ lj := by
  by_cases h0 : l = []
  · subst h0
    rw [List.length_eq_zero_iff.1 hlen]; simp [NoZ]
  · refine noZ_of_ge hj ?_
    have := nv_ge hl hz h0
    rw [hlen]; omega

theorem good_text {s : ByteArray} (hb : badT s = false) : s.toList.isEmpty = false ∧ 0 < s.size ∧ (byt s).all isDig = true ∧ (∀ h : 0 < s.size, (s[0]'h).toNat = 48 → s.size ≤ 1) := by
  unfold badT at hb
  simp only [Bool.or_eq_false_iff, Bool.and_eq_false_iff, Bool.not_eq_false', decide_eq_false_iff_not] at hb
  obtain ⟨⟨h1, h2⟩, h3⟩ := hb
  have h0 : 0 < s.size := by omega
  refine ⟨?_, h0, h3, fun h e => ?_⟩
  · rw [ByteArray.toList_eq]
    have : s.data.toList.length = s.size := by simp
    cases hd : s.data.toList with
    | nil => rw [hd] at this; simp at this; omega
    | cons a t => rfl
  · rcases h2 with h2 | h2
    · exfalso; apply h2
      rw [List.head?_eq_getElem?, List.getElem?_eq_getElem (by rw [byt_len]; exact h0), byt_get s 0 h0, e]
    · omega

theorem OwB.row {w : World} {B : Nat} {a : Option Addr} {n c : Nat} {l : List Int} {j : Nat} (h : OwB w B (.slice a n c) l) (hj : j < l.length) : ∃ g, a = some ⟨g, 0, none⟩ ∧ n = l.length ∧ B ≤ g ∧ RowU w g c l := by
  obtain ⟨o, h1, h2⟩ := h
  rcases h1 with ⟨_, h0, a, ha, he⟩ | ⟨g, cap, ho, he, hr⟩
  · subst h0; simp at hj
  · injection he with e1 e2 e3
    subst e1; subst e2; subst e3
    exact ⟨g, rfl, rfl, h2 g ho, hr⟩

theorem dig_at {s : ByteArray} (h : (byt s).all isDig = true) {k : Nat} (hk : k < s.size) : ∃ d : Nat, d ≤ 9 ∧ (byt s).getD k 0 = 48 + d ∧ horF ((byt s).take (k + 1)) = 10 * horF ((byt s).take k) + d := by
  have hk' : k < (byt s).length := by rw [byt_len]; exact hk
  have h1 := List.all_eq_true.1 h _ (List.getElem_mem hk')
  unfold isDig at h1
  simp only [Bool.and_eq_true, decide_eq_true_eq] at h1
  refine ⟨(byt s)[k] - 48, by omega, ?_, ?_⟩
  · rw [List.getD_eq_getElem?_getD, List.getElem?_eq_getElem hk', Option.getD_some]; omega
  · rw [List.take_succ_eq_append_getElem hk', horF_snoc]

set_option maxHeartbeats 2000000 in
theorem parse_good (s : ByteArray) (w : World) (hsz : s.size ≤ 4096) (hb : badT s = false) :
    Calls Try.prog 22 #[.string s] w fun e w' => Res w w' e (fitL (horF (byt s))) ∧ Ext w w' := by
  obtain ⟨hs0, hp0, hall, h48⟩ := good_text hb
  have h48' := h48 hp0
  have hcall := containsDig_any s
  rw [hall] at hcall
  have HC := Lib.hid hcall; have HA := Lib.hid hall
  clear hcall hall hb h48
  by_cases hz : s[0].toNat = 48
  all_goals
    first
      | have hz1 := h48' hz
      | skip
    clear h48'
    go_enter Try.func22, Try.ntmps22
    go_wp2_with fail
    refine (HC.out _).mono ?_
    rintro e w1 ⟨rfl, hx1⟩
    obtain ⟨cap, w2, hcv, hx2, hs2, hcell⟩ := conv_bytes s w1
    have hX2 := hx1.trans hx2
    have X2 := Lib.hid hX2; have CE := Lib.hid hcell
    have hz12 := hX2.size
    have hs2' : w1.heap.size < w2.heap.size := by omega
    clear hs2
    clear hx1 hx2 hcell hX2
    go_wp2_with fail
    clear hcv
    go_loopw [2, 5, 6, 7, 8, 29] (fun v _ _ _ _ i wr => ∃ k : Nat, k ≤ s.size ∧ i = .int .i64 k ∧ (lim (horF ((byt s).take k))).length ≤ 512 ∧ OwB wr w2.heap.size v (lim (horF ((byt s).take k))) ∧ Below w2.heap.size w2 wr)
      (fun _ _ _ _ _ i _ => s.size - (intOf i).toNat)
    case atStart =>
      exact ⟨0, Nat.zero_le _, rfl, by simp [horF, lim_zero], by simpa [horF, lim_zero] using OwB.nil _ _, Below.refl _ _⟩
    case round =>
      obtain ⟨k, hk, rfl, hl5, how, hbw⟩ := hrel
      by_cases hlt : k < s.size
      · obtain ⟨d, hd9, hbk, hhor⟩ := dig_at HA.out hlt
        have hbyte := (hbw.cell (p := ⟨w1.heap.size, k, none⟩) (by dsimp only; omega)).trans (CE.out k hlt)
        rw [hbk] at hbyte
        have hbyte' : wr.cell? ⟨w1.heap.size, k, none⟩ = some (.int .u8 (48 + (d : Int))) := by rw [hbyte]; rfl
        have hLL : ∃ L, L = lim (horF ((byt s).take k)) := ⟨_, rfl⟩
        obtain ⟨L, hL⟩ := hLL
        have hLl : Lim L := by rw [hL]; exact lim_lim _
        have hLz : NoZ L := by rw [hL]; exact lim_noZ _
        have hLv : nv L = horF ((byt s).take k) := by rw [hL]; exact nv_lim _
        rw [← hL] at hl5 how
        rw [← hLv] at hhor
        obtain ⟨a, c0, rfl⟩ := how.shape
        have HO := Lib.hid how; have HB := Lib.hid hbw; have HH := Lib.hid hhor; have HL := Lib.hid hLl; have HZ := Lib.hid hLz
        have hszb := hbw.size
        clear how hbw hhor hLl hLz hLv hL hbyte hbk
        go_wp2_with fail
        go_loopw [6, 7, 8, 38] (fun cy _ _ i wq => ∃ (j : Nat) (c : Int) (lj : List Int), j ≤ L.length ∧ i = .int .i64 j ∧ cy = .int .u64 c ∧ 0 ≤ c ∧ c ≤ 9 ∧ lj.length = L.length ∧ Lim lj ∧ lj.drop j = L.drop j ∧
            nv (lj.take j) + 4294967296 ^ j * c.toNat = 10 * nv (L.take j) + d ∧ OwB wq w2.heap.size (.slice a L.length c0) lj ∧ Below w2.heap.size w2 wq)
          (fun _ _ _ i _ => L.length - (intOf i).toNat)
        case atStart =>
          exact ⟨0, (d : Int), L, Nat.zero_le _, rfl, by congr 1; omega, by omega, by omega, rfl, HL.out, rfl, by simp [nv], HO.out, HB.out⟩
        case round =>
          obtain ⟨j, c, lj, hj, rfl, rfl, cc0, cc9, e1, e2, ed, e3, e4, e5⟩ := hrel
          by_cases hjl : j < L.length
          · obtain ⟨g, rfl, hn, hBg, hrow⟩ := e4.row (j := j) (by omega)
            have hgk : lj.getD j 0 = L.getD j 0 := by
              have := congrArg (fun t => t.getD 0 0) ed
              simpa [List.getD_eq_getElem?_getD, List.getElem?_drop] using this
            have hxl := getD_lim HL.out j
            obtain ⟨y, hyy⟩ : ∃ y, y = L.getD j 0 := ⟨_, rfl⟩
            have hst := ten_step HL.out e1 hjl hyy ⟨cc0, cc9⟩ e3
            have hy' := hrow.getD (i := j) (by omega) (hyy.trans hgk.symm)
            rw [← hyy] at hxl
            have fy := hrow.free; have ly := hrow.lt
            have hdk : (lj.set j ((c + y * 10) % 4294967296)).drop (j + 1) = L.drop (j + 1) := by
              rw [List.drop_set_of_lt (by omega)]
              have := congrArg (List.drop 1) ed
              simpa [List.drop_drop, Nat.add_comm] using this
            obtain ⟨y0, y1⟩ := hxl
            have hq0 : 0 ≤ (c + y * 10) / 4294967296 := by omega
            have hq1 : (c + y * 10) / 4294967296 ≤ 9 := by omega
            have q1 : (0 : Int) ≤ (j : Int) := by omega
            have q2 : (j : Int) < (L.length : Int) := by omega
            have G1 := Lib.hid e1; have G2 := Lib.hid e2; have G5 := Lib.hid e5; have GS := Lib.hid hst; have GD := Lib.hid hdk; have GR := Lib.hid hrow
            clear e1 e2 e3 e4 e5 ed hst hyy hgk hdk hrow hn
            go_wp2_with fail
            go_roundw
            case rel =>
              refine ⟨j + 1, (c + y * 10) / 4294967296, lj.set j ((c + y * 10) % 4294967296), by omega, by go_num, rfl, hq0, hq1, (List.length_set).trans G1.out, lim_setMod G2.out _ _, GD.out, GS.out, ?_, ?_⟩
              · refine ⟨some g, ?_, fun g' h => by cases h; exact hBg⟩
                have := OwV.row (GR.out.set j ((c + y * 10) % 4294967296) (by have := G1.out; omega))
                rw [List.length_set, G1.out] at this
                exact this
              · exact G5.out.setCell (by dsimp only; omega) _
            case measure => simp [intOf]; omega
          · obtain rfl : j = L.length := by omega
            rw [List.take_length, ← e1, List.take_length, e1] at e3
            have hszq := e5.size
            by_cases hc0 : c = 0
            · subst hc0
              have ev : nv lj = 10 * nv L + d := by simpa using e3
              have ec := lim_nv e2 (noZ_ten HL.out HZ.out e2 e1 ev)
              rw [ev, ← HH.out] at ec
              have hll : lj.length ≤ 512 := by omega
              rw [← e1] at e4
              have G1 := Lib.hid e1; have G4 := Lib.hid e4; have GE := Lib.hid ec; have G5 := Lib.hid e5
              clear e1 e2 e3 e4 e5 ed ev ec
              go_wp2_with fail
              go_roundw
              case rel =>
                refine ⟨k + 1, by omega, by go_num, by rw [GE.out]; exact hll, ?_, G5.out⟩
                rw [GE.out, ← G1.out]; exact G4.out
              case measure => simp [intOf]; omega
            · have hcn : (c != 0) = true := by simpa using hc0
              have e2' : Lim (lj ++ [c]) := lim_snoc e2 (by omega) (by omega)
              have ev : nv (lj ++ [c]) = 10 * nv L + d := by rw [nv_snoc, e1]; exact e3
              have ec := lim_nv e2' (by simpa [NoZ] using hc0)
              rw [ev, ← HH.out] at ec
              have hown := e4.own
              rw [OwU, e1] at hown
              have hcm : c % 4294967296 = c := by omega
              have G1 := Lib.hid e1; have G4 := Lib.hid hown; have GE := Lib.hid ec; have G5 := Lib.hid e5
              clear e1 e2 e3 e4 e5 ed ev ec hown e2'
              go_wp2_with (at_builtin; (refine wpList_append_new wr rfl _ _ 23 rfl w2.heap.size 50 (.int .u32 0) 1 4 Try.underlying23 Try.infoU rfl (by decide) _ _ _ G4.out rfl [_] rfl (by simp [Value.oneCell']) rfl (by omega) (by omega) (by omega) ?_))
              intro g2 cap2 w5 hown5 hb5
              have O8 := Lib.hid hown5; have B8 := Lib.hid (G5.out.trans hb5); clear hown5 hb5
              by_cases h5 : (512 : Int) < (L.length : Int) + 1
              · have hbig : ¬ horF (byt s) < MAXN := fun h => by
                  have h1 := len_max.2 (Nat.lt_of_le_of_lt (horF_take_le (byt s) (k + 1)) h)
                  rw [GE.out, List.length_append, G1.out, List.length_singleton] at h1
                  omega
                have e1 := fitL_long hbig
                have E1 := Lib.hid e1; clear e1 hbig
                go_wp2_with fail
                go_ret2
                exact ⟨Res.mk (NewV.nil _ _) E1.out, X2.out.trans B8.out⟩
              · have h5' : (L.length : Int) + 1 ≤ 512 := by omega
                go_wp2_with fail
                go_roundw
                case rel =>
                  refine ⟨k + 1, by omega, by go_num, by rw [GE.out, List.length_append, G1.out, List.length_singleton]; omega, OwB.of ?_, B8.out⟩
                  have := O8.out
                  unfold OwU
                  rw [GE.out, List.length_append, G1.out, List.map_append]
                  exact this
                case measure => simp [intOf]; omega
      · obtain rfl : k = s.size := by omega
        rw [List.take_of_length_le (by rw [byt_len]; exact Nat.le_refl _)] at hl5 how
        have e1 := fitL_ok (len_max.1 hl5)
        have HO := Lib.hid how; have HB := Lib.hid hbw; have E1 := Lib.hid e1
        clear how hbw e1
        go_wp2_with fail
        go_ret2
        refine ⟨Res.mk ?_ E1.out, X2.out.trans HB.out⟩
        obtain ⟨o, h1, h2⟩ := HO.out
        exact ⟨o, h1, fun g hg => Nat.le_trans hz12 (h2 g hg)⟩

/-- Parse. -/
theorem parse_any (s : ByteArray) (w : World) :
    Calls Try.prog 22 #[.string s] w fun e w' => Res w w' e (parseS s) ∧ Ext w w' := by
  by_cases hsz : 4096 < s.size
  · have e1 : parseS s = ([], 4) := by unfold parseS; rw [if_pos hsz]
    have E1 := Lib.hid e1; clear e1
    go_enter Try.func22, Try.ntmps22
    go_wp2_with fail
    go_ret2
    exact ⟨Res.mk (NewV.nil _ _) E1.out, Ext.refl w⟩
  · cases hb : badT s with
    | false =>
      have e1 : parseS s = fitL (horF (byt s)) := by unfold parseS; rw [if_neg hsz, hb]; exact if_neg (by decide)
      rw [e1]
      exact parse_good s w (by omega) hb
    | true =>
      have e1 : parseS s = ([], 2) := by unfold parseS; rw [if_neg hsz, hb]; exact if_pos rfl
      have hcall := containsDig_any s
      have E1 := Lib.hid e1
      by_cases h0 : s.size = 0
      · have hs0 : s.toList.isEmpty = true := by
          rw [ByteArray.toList_eq]
          have : s.data.toList.length = s.size := by simp
          cases hd : s.data.toList with
          | nil => rfl
          | cons a t => rw [hd] at this; simp at this; omega
        clear hb e1 hcall
        go_enter Try.func22, Try.ntmps22
        go_wp2_with fail
        go_ret2
        exact ⟨Res.mk (NewV.nil _ _) E1.out, Ext.refl w⟩
      · have hs0 : s.toList.isEmpty = false := by
          rw [ByteArray.toList_eq]
          have : s.data.toList.length = s.size := by simp
          cases hd : s.data.toList with
          | nil => rw [hd] at this; simp at this; omega
          | cons a t => rfl
        have hp0 : 0 < s.size := by omega
        by_cases hq : s[0].toNat = 48 ∧ 1 < s.size
        · obtain ⟨hz, hz1⟩ := hq
          clear hb e1 hcall
          go_enter Try.func22, Try.ntmps22
          go_wp2_with fail
          go_ret2
          exact ⟨Res.mk (NewV.nil _ _) E1.out, Ext.refl w⟩
        · have hall : (byt s).all isDig = false := by
            unfold badT at hb
            simp only [Bool.or_eq_true, Bool.and_eq_true, Bool.not_eq_true', decide_eq_true_eq] at hb
            rcases hb with (h1 | ⟨h1, h2⟩) | h3
            · omega
            · exfalso
              rw [List.head?_eq_getElem?, List.getElem?_eq_getElem (by rw [byt_len]; exact hp0), byt_get s 0 hp0] at h1
              injection h1 with h1
              exact hq ⟨h1, h2⟩
            · exact h3
          rw [hall] at hcall
          have HC := Lib.hid hcall
          clear hb e1 hcall hall
          by_cases hz : s[0].toNat = 48
          all_goals
            first
              | have hz1 : ¬ 1 < s.size := fun h => hq ⟨hz, h⟩
              | skip
            clear hq
            go_enter Try.func22, Try.ntmps22
            go_wp2_with fail
            refine (HC.out _).mono ?_
            rintro e w1 ⟨rfl, hx1⟩
            have X1 := Lib.hid hx1; clear hx1
            go_wp2_with fail
            go_ret2
            exact ⟨Res.mk (NewV.nil _ _) E1.out, X1.out⟩

end Go.Proofs.Ytoicjiiifffciaa
