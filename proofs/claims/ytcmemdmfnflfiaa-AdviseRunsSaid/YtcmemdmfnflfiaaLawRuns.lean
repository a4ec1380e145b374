/- The law AdviseRuns answers true (written by mkruns.py). Conditions: the arguments read as slices, the bytes are bytes. -/
import Derived.Test.YtcmemdmfnflfiaaAdvAw
import Derived.Test.YtcmemdmfnflfiaaRunP
import Derived.Test.YtcmemdmfnflfiaaRatLs
namespace Go.Proofs.Ytcmemdmfnflfiaa
set_option linter.unusedSimpArgs false
set_option linter.unusedVariables false
open Go.RowKit

/-- The row of n booleans of which the first k are true. -/
def allK (n k : Nat) : Array Value := ((List.range n).map fun b => Value.bool (decide (b < k))).toArray
theorem allK_0 (n : Nat) : Array.replicate n (Value.bool false) = allK n 0 := by
  unfold allK
  apply Array.ext
  · simp
  · intro j h1 h2; simp
theorem allK_get {n k : Nat} (h : k < n) : (allK n k)[k]? = some (.bool false) := by unfold allK; simp [h]
theorem allK_set {n k : Nat} : (allK n k).setIfInBounds k (.bool true) = allK n (k + 1) := by
  unfold allK
  apply Array.ext
  · simp
  · intro j h1 h2
    simp only [List.setIfInBounds_toArray, List.getElem_toArray, List.getElem_set, List.getElem_map, List.getElem_range]
    by_cases e : k = j
    · subst e; simp
    · rw [if_neg e]
      congr 1
      exact decide_eq_decide.2 (by omega)
theorem allK_full (n : Nat) : allK n n = ((List.replicate n true).map Value.bool).toArray := by
  unfold allK
  congr 1
  apply List.ext_getElem
  · simp
  · intro j h1 h2
    simp at h1
    simp [h1]
theorem idx_at {t n k m : Nat} (ht : t ≤ 60) (hn : n ≤ 20) (hk : k < n) : (wrap64 (wrap64 ((t : Int) * n) + k)).tmod (m : Int) = (((t * n + k) % m : Nat) : Int) := by
  have h : t * n ≤ 60 * 20 := Nat.mul_le_mul ht hn
  rw [← Int.natCast_mul]
  generalize t * n = q at h ⊢
  have e : wrap64 (q : Int) = q := by unfold wrap64; omega
  have e2 : wrap64 ((q : Int) + k) = ((q + k : Nat) : Int) := by unfold wrap64; omega
  rw [e, e2]
  rfl
/-- The prices of a cycle. -/
def prices (cs : List Int) (n t : Nat) : List RR := (List.range n).map fun b => rep ((cs.getD ((t * n + b) % cs.length) 0 : Int) : Rat)
theorem prices_len (cs : List Int) (n t : Nat) : (prices cs n t).length = n := by unfold prices; simp
theorem prices_get {cs : List Int} {n t k : Nat} (h : k < n) : (prices cs n t).getD k zR = rep ((cs.getD ((t * n + k) % cs.length) 0 : Int) : Rat) := by
  unfold prices
  rw [List.getD_eq_getElem?_getD, List.getElem?_map, List.getElem?_range h]
  rfl

set_option maxRecDepth 100000 in
set_option maxHeartbeats 8000000 in
theorem runsL_any (vl vc : Value) (l : List Bnd) (a b : Int) (cs : List Int) (w : World) (hl : RdBnd w vl l) (hc : RdI .u8 w vc cs) (ha : 0 ≤ a ∧ a ≤ 255) (hb : 0 ≤ b ∧ b ≤ 255) (hcs : ∀ y ∈ cs, 0 ≤ y ∧ y ≤ 255) :
    Calls Try.prog 6 #[vl, .agg #[.int .u8 a, .int .u8 b], vc] w fun e w' => e = .returned (.bool true) ∧ Ext w w' := by
  have HL := Lib.hid hl; have HC := Lib.hid hc; have HCS := Lib.hid hcs
  have hck := fun W h => achk_any vl l W h
  obtain ⟨al, cl, rfl, hlc, hlm1, -⟩ := hl.get
  obtain ⟨ac, cc, rfl, hcc, hcm, hr⟩ := hc.get
  obtain ⟨ak, hak⟩ : ∃ x, x = achk l := ⟨_, rfl⟩
  rw [← hak] at hck
  have HCK := Lib.hid hck; have HAK := Lib.hid hak; have HR := Lib.hid hr
  have a0 := ha.1; have a1 := ha.2; have b0 := hb.1; have b1 := hb.2
  clear hl hc hck hak hcs hr ha hb
  have bb0 := (Blk.new w #[.int .u8 a, .int .u8 b] 83)
  have x0 : Ext w (w.alloc (.cells #[.int .u8 a, .int .u8 b] 83)) := ((Ext.refl w).alloc _)
  have A0 := Lib.hid bb0; have X := Lib.hid x0
  clear x0 bb0
  have HL0 := HL; have HL := Lib.hid (HL.out.ext X.out); have HC := Lib.hid (HC.out.ext X.out)
  by_cases h1 : 20 < l.length
  · have q1 : (20 : Int) < (l.length : Int) := by omega
    clear h1
    go_enter Try.func6, Try.ntmps6
    go_wp2_with fail
    refine (awake28_any _).mono ?_
    rintro e w1 ⟨rfl, hx⟩
    have HL := Lib.hid (HL.out.ext hx); have HC := Lib.hid (HC.out.ext hx); have A0 := Lib.hid (A0.out.ext hx); have X := Lib.hid (X.out.trans hx)
    clear hx
    go_wp2_with fail
    go_ret
    exact ⟨rfl, X.out⟩
  · have q1 : ¬ (20 : Int) < (l.length : Int) := by omega
    by_cases h2 : ak = 0
    · subst h2
      clear h1
      have hall : ∀ i, i < l.length → (List.replicate l.length true).getD i false = true := fun i hi => by rw [List.getD_eq_getElem?_getD, List.getElem?_replicate, if_pos hi]; rfl
      have hstep := fun costs now age rev lr lh hn h2 h3 hc hck => runs_step (l := l) (costs := costs) (mask := List.replicate l.length true) (now := now) (age := age) (rev := rev) (lr := lr) (lh := lh) HAK.out.symm hn h2 h3 hc (by simp) hck hall
      have hnx := fun K age rev lr lh b h ha hr hl hK => next_counts (K := K) (age := age) (rev := rev) (lr := lr) (lh := lh) (b := b) h ha hr hl hK
      have ST := Lib.hid hstep; have NX := Lib.hid hnx
      have hl0 : 0 < l.length := by
        have h := HAK.out
        unfold achk at h
        split at h
        · cases h
        · omega
      clear hall hstep hnx HAK
      go_enter Try.func6, Try.ntmps6
      have qA0 := A0.out.cell; have fA0 := A0.out.free; have lA0 := A0.out.lt
      go_wp2_with fail
      refine (HCK.out _ HL.out).mono ?_
      rintro e w1 ⟨rfl, hx⟩
      clear qA0 fA0 lA0
      have HL := Lib.hid (HL.out.ext hx); have HC := Lib.hid (HC.out.ext hx); have A0 := Lib.hid (A0.out.ext hx); have X := Lib.hid (X.out.trans hx)
      clear hx
      have qA0 := A0.out.cell; have fA0 := A0.out.free; have lA0 := A0.out.lt
      go_wp2_with fail
      refine (awake28_any _).mono ?_
      rintro e w2 ⟨rfl, hx⟩
      clear qA0 fA0 lA0
      have HL := Lib.hid (HL.out.ext hx); have HC := Lib.hid (HC.out.ext hx); have A0 := Lib.hid (A0.out.ext hx); have X := Lib.hid (X.out.trans hx)
      clear hx
      have qA0 := A0.out.cell; have fA0 := A0.out.free; have lA0 := A0.out.lt
      have bz1 := (Blk.new w2 #[.int .i64 (a % 4), .int .i64 (b % 4)] 63).alloc (.cells #[.int .i64 0, .int .i64 0, .int .i64 0] 61)
      have bz2 := Blk.new (w2.alloc (.cells #[.int .i64 (a % 4), .int .i64 (b % 4)] 63)) #[.int .i64 0, .int .i64 0, .int .i64 0] 61
      rw [World.size_alloc] at bz2
      have hxa : Ext w2 ((w2.alloc (.cells #[.int .i64 (a % 4), .int .i64 (b % 4)] 63)).alloc (.cells #[.int .i64 0, .int .i64 0, .int .i64 0] 61)) := ((Ext.refl _).alloc _).alloc _
      have gL : l.length ≤ 20 := by omega
      go_wp2_with (at_make; (refine wpList_make_bo rfl _ _ rfl _ _ l.length rfl rfl rfl rfl (by omega) ?_))
      intro w9 hrow hx9 hz9
      rw [allK_0] at hrow
      clear hz9
      have hx := hxa.trans hx9
      have bz1 := bz1.ext hx9; have bz2 := bz2.ext hx9
      clear hxa hx9
      obtain ⟨lr, hlr⟩ : ∃ x, x = a % 4 := ⟨_, rfl⟩
      obtain ⟨lh, hlh⟩ : ∃ x, x = b % 4 := ⟨_, rfl⟩
      rw [← hlr, ← hlh] at bz1
      have r0 : 0 ≤ lr ∧ lr ≤ 3 := by omega
      have r1 : 0 ≤ lh ∧ lh ≤ 3 := by omega
      obtain ⟨g, hg⟩ : ∃ g, g = w2.heap.size := ⟨_, rfl⟩
      have hgw : w.heap.size ≤ g := by have := X.out.size; omega
      rw [← hlr, ← hlh, ← hg]
      rw [← hg] at bz1 bz2 hrow
      obtain ⟨g1, hg1⟩ : ∃ x, x = g + 1 := ⟨_, rfl⟩
      obtain ⟨g2, hg2⟩ : ∃ x, x = g1 + 1 := ⟨_, rfl⟩
      rw [← hg1, ← hg2]
      rw [← hg1] at bz2 hrow
      rw [← hg2] at hrow
      have d1 : g < g1 := by omega
      have d2 : g1 < g2 := by omega
      have d3 : g < g2 := by omega
      have d4 : w.heap.size ≤ g1 := by omega
      have d5 : w.heap.size ≤ g2 := by omega
      clear hg1 hg2
      clear qA0 fA0 lA0
      have HL := Lib.hid (HL.out.ext hx); have HC := Lib.hid (HC.out.ext hx); have A0 := Lib.hid (A0.out.ext hx); have X := Lib.hid (X.out.trans hx)
      have BL := Lib.hid bz1; have BM := Lib.hid bz2; have BA := Lib.hid hrow; have R0 := Lib.hid r0; have R1 := Lib.hid r1
      clear hx bz1 bz2 hrow hg hlr hlh r0 r1 a0 a1 b0 b1 A0
      go_wp2_with fail
      go_loopw [10] (fun i wr => ∃ k : Nat, k ≤ l.length ∧ i = .int .i64 k ∧ Ext w wr ∧ Blk wr g #[.int .i64 lr, .int .i64 lh] 63 ∧ Blk wr (g1) #[.int .i64 0, .int .i64 0, .int .i64 0] 61 ∧ Blk wr (g2) (allK l.length k) 4) (fun i _ => l.length - (intOf i).toNat)
      case atStart => exact ⟨0, Nat.zero_le _, rfl, X.out, BL.out, BM.out, BA.out⟩
      case round =>
        obtain ⟨k, hk, rfl, hx, hb0, hb1, hrow⟩ := hrel
        clear X BL BM BA
        have XR := Lib.hid hx; have BL := Lib.hid hb0; have BM := Lib.hid hb1; have BA := Lib.hid hrow
        clear hx hb0 hb1 hrow
        by_cases hlt : k < l.length
        · have HGT := Lib.hid (allK_get hlt); have HST := Lib.hid (allK_set (n := l.length) (k := k))
          have c2 : wr.cell? ⟨g2, k, none⟩ = some (.bool false) := by rw [BA.out.cell]; exact HGT.out
          have f2 := BA.out.free; have l2 := BA.out.lt
          have q1 : (0 : Int) ≤ (k : Int) := by omega
          have q2 : (k : Int) < (l.length : Int) := by omega
          go_wp2_with fail
          have hs := BA.out.set k (.bool true)
          rw [HST.out] at hs
          have S := Lib.hid hs; have XS := Lib.hid (show Ext w (wr.setCell ⟨g2, k, none⟩ (.bool true)) from XR.out.set (by dsimp only; omega) _)
          have BL := Lib.hid (BL.out.setOther (a := ⟨g2, k, none⟩) (by dsimp only; omega) (.bool true)); have BM := Lib.hid (BM.out.setOther (a := ⟨g2, k, none⟩) (by dsimp only; omega) (.bool true))
          clear hs
          go_roundw
          case rel => exact ⟨k + 1, by omega, by go_num, XS.out, BL.out, BM.out, S.out⟩
          case measure => simp [intOf]; omega
        · obtain rfl : k = l.length := by omega
          have q2 : ¬ (l.length : Int) < (l.length : Int) := by omega
          go_wp2_with fail
          clear hlt hk q2
          go_loopw [11, 12, 13] (fun u ag ti wo => ∃ (tt now : Nat) (age rev : Int), tt ≤ 40 ∧ now < l.length ∧ (0 ≤ age ∧ age ≤ tt) ∧ (0 ≤ rev ∧ rev ≤ lr) ∧ u = .int .i64 rev ∧ ag = .int .i64 age ∧ ti = .int .i64 tt ∧ Ext w wo ∧ Blk wo g #[.int .i64 lr, .int .i64 lh] 63 ∧ Blk wo g1 #[.int .i64 now, .int .i64 age, .int .i64 rev] 61 ∧ Blk wo g2 (allK l.length l.length) 4) (fun _ _ ti _ => 40 - (intOf ti).toNat)
          case atStart => exact ⟨0, 0, 0, 0, by omega, hl0, ⟨by omega, by omega⟩, ⟨by omega, R0.out.1⟩, rfl, rfl, rfl, XR.out, BL.out, BM.out, BA.out⟩
          case round =>
            obtain ⟨tt, now, age, rev, ht, hnow, hage, hrev, rfl, rfl, rfl, hx, hb0, hb1, hrow⟩ := hrel
            clear XR BL BM BA
            obtain ⟨wo, rfl⟩ : ∃ W, W = wr := ⟨_, rfl⟩
            have X := Lib.hid hx; have BL := Lib.hid hb0; have BM := Lib.hid hb1; have BA := Lib.hid hrow
            clear hx hb0 hb1 hrow
            by_cases hlt : tt < 40
            · have t1 : (tt : Int) < 40 := by omega
              by_cases hc0 : cs.length = 0
              · have t2 : ¬ 0 < (cs.length : Int) := by omega
                go_wp2_with fail
                go_ret
                exact ⟨rfl, X.out⟩
              · have t2 : 0 < (cs.length : Int) := by omega
                have t3 : 0 < cs.length := by omega
                go_wp2_with fail
                obtain ⟨P, hP⟩ : ∃ x, x = prices cs l.length tt := ⟨_, rfl⟩
                have hPl : P.length = l.length := by rw [hP, prices_len]
                have hPg : ∀ k, k < l.length → P.getD k zR = rep ((cs.getD ((tt * l.length + k) % cs.length) 0 : Int) : Rat) := fun k hk => by rw [hP]; exact prices_get hk
                have HP := Lib.hid hP; have HPL := Lib.hid hPl; have HPG := Lib.hid hPg
                clear hP hPl hPg
                go_loopw [14, 15] (fun v i wi => ∃ k : Nat, k ≤ l.length ∧ i = .int .i64 k ∧ OwRs wo.heap.size wi v (P.take k) ∧ Ext wo wi) (fun _ i _ => l.length - (intOf i).toNat)
                case atStart => exact ⟨0, Nat.zero_le _, rfl, OwRow.nil _ _ _ _ _, Ext.refl wo⟩
                case round =>
                  obtain ⟨k, hk, rfl, hown, hext⟩ := hrel
                  have HO := Lib.hid hown
                  have XR := Lib.hid hext
                  clear hown hext
                  by_cases hlk : k < l.length
                  · have hts := take_snocD P k zR (by rw [HPL.out]; exact hlk)
                    rw [HPG.out k hlk] at hts
                    have hlk2 := List.length_take_of_le (l := P) (i := k) (by rw [HPL.out]; omega)
                    have hjl : (tt * l.length + k) % cs.length < cs.length := Nat.mod_lt _ (by omega)
                    obtain ⟨j, hj⟩ : ∃ j, j = (tt * l.length + k) % cs.length := ⟨_, rfl⟩
                    rw [← hj] at hjl hts
                    obtain ⟨bc, oc, rfl, hbc, z0⟩ := HR.out j hjl
                    have hin : cs.getD j 0 ∈ cs := by rw [List.getD_eq_getElem?_getD, List.getElem?_eq_getElem hjl]; exact List.getElem_mem hjl
                    have hcb := HCS.out _ hin
                    clear hin
                    obtain ⟨c, hc⟩ : ∃ x, x = cs.getD j 0 := ⟨_, rfl⟩
                    rw [← hc] at z0 hcb hts
                    have hxw := X.out.trans XR.out
                    have y9 := (hxw.cell (p := ⟨bc, oc + j, none⟩) hbc).trans z0
                    have hfr := fun W => fromR_any c W (by omega) (by omega)
                    have HF := Lib.hid hfr; have hwc : wrap64 c = c := by unfold wrap64; omega
                    have HT := Lib.hid hts; have HLK2 := Lib.hid hlk2; have HJ := Lib.hid hj; have HCB := Lib.hid hcb
                    have q1 : (k : Int) < (l.length : Int) := by omega
                    have q0 : (0 : Int) ≤ (j : Int) := by omega
                    have q2 : (j : Int) < (cs.length : Int) := by omega
                    have hE : (wrap64 (wrap64 ((tt : Int) * (l.length : Int)) + (k : Int))).tmod (cs.length : Int) = (j : Int) := by rw [hj]; exact idx_at (by omega) gL hlk
                    clear hfr hts hlk2 hj hcb hc z0 hbc hxw
                    go_wp2_with fail
                    refine (HF.out _).mono ?_
                    rintro e w5 ⟨⟨v, rfl, nn⟩, hx⟩
                    obtain ⟨R, hR⟩ : ∃ y, y = rep ((c : Int) : Rat) := ⟨_, rfl⟩
                    rw [← hR] at nn
                    have HT := Lib.hid (show List.take (k + 1) P = List.take k P ++ [R] by rw [hR]; exact HT.out)
                    obtain ⟨s1, s2, s3, s4, rfl⟩ := nn.shape
                    have HO1 := Lib.hid (OwRs.ext' HO.out hx); have XR1 := Lib.hid (XR.out.trans hx); have HE := Lib.hid (ElR.new (B := wo.heap.size) nn)
                    have hz1 := XR1.out.size
                    clear nn hx hR y9 hE
                    go_wp2_with (at_builtin; (refine wpList_append_row w5 rfl _ _ 66 rfl wo.heap.size 70 (.agg #[.bool false, .slice none 0 0, .slice none 0 0]) 3 56 Try.underlying66 Try.infoR rfl (by decide) (ElR.keeps (by decide)) _ _ HO1.out rfl [.bool R.neg, .slice s1 R.num.length s2, .slice s3 R.den.length s4] rfl (by simp [Value.oneCell']) R HE.out rfl (by have := HLK2.out; omega) (by have := HLK2.out; omega) hz1 ?_))
                    intro g9 cap2 w99 hown2 hk2
                    have HO2 := Lib.hid hown2; have XR2 := Lib.hid (Below.trans XR1.out (hk2.below hz1))
                    clear hown2 hk2
                    go_wp2
                    go_roundw
                    case rel =>
                      refine ⟨k + 1, by omega, by go_num, ?_, XR2.out⟩
                      rw [HT.out]
                      exact HO2.out
                    case measure => simp [intOf]; omega
                  · obtain rfl : k = l.length := by omega
                    have q1 : ¬ (l.length : Int) < (l.length : Int) := by omega
                    have hown := HO.out
                    rw [List.take_of_length_le (by rw [HPL.out]; omega)] at hown
                    have RP := Lib.hid (OwRs.rd hown)
                    have X := Lib.hid (X.out.trans XR.out)
                    have hl := HL0.out.ext X.out
                    have hba := BA.out.ext XR.out
                    have BL := Lib.hid (BL.out.ext XR.out); have BM := Lib.hid (BM.out.ext XR.out); have BA := Lib.hid hba
                    rw [allK_full] at hba
                    have hrm := rdB_blk (List.replicate l.length true) hba (by simp; omega)
                    rw [List.length_replicate] at hrm
                    have hlim : LimRs P := fun i hi => by rw [HPG.out i (by rw [HPL.out] at hi; exact hi)]; exact limR_rep _
                    have hck : chkRs P = 0 := chkRs_ok fun i hi => by
                      have hi' : i < l.length := by rw [HPL.out] at hi; exact hi
                      rw [HPG.out i hi']
                      have hjl : (tt * l.length + i) % cs.length < cs.length := Nat.mod_lt _ t3
                      have hin : cs.getD ((tt * l.length + i) % cs.length) 0 ∈ cs := by rw [List.getD_eq_getElem?_getD, List.getElem?_eq_getElem hjl]; exact List.getElem_mem hjl
                      have := HCS.out _ hin
                      exact chk_rep (small_int (by omega) (by omega))
                    have r0 := R0.out; have r1 := R1.out
                    obtain ⟨b, hb, hok, he⟩ := ST.out P now age rev lr lh hnow (memE_0 (by omega) (by omega)) (limE_0 (by omega) (by omega)) HPL.out hck
                    obtain ⟨n1, n2, n3⟩ := NX.out _ age rev lr lh (b : Int) hok (by omega) (by omega) (by omega) (chg_range l now b)
                    have hkr := chg_range l now b
                    have hch := choose_any _ _ _ l now age rev P (List.replicate l.length true) lr lh wr hl RP.out hrm hlim (by omega) (by omega)
                    rw [he, n3] at hch
                    obtain ⟨r, hr⟩ : ∃ r, r = P.getD b zR := ⟨_, rfl⟩
                    obtain ⟨K, hK⟩ : ∃ K, K = chg l now b := ⟨_, rfl⟩
                    rw [← hr] at hch
                    rw [← hK] at hch n1 n2 hkr
                    have t4 : ¬ lr < 0 := by omega
                    have t5 : ¬ lr < rev := by omega
                    have v1 : wrap64 (age + 1) = age + 1 := by unfold wrap64; omega
                    have v2 : wrap64 (rev + 1) = rev + 1 := by unfold wrap64; omega
                    have w1 := R0.out.1
                    have BP := Lib.hid hb
                    clear hown hl hba hrm hlim hck r0 r1 hok he n3 hr hK HO RP hb q1 hk
                    by_cases h1 : K = 1
                    · subst h1
                      simp only [reduceIte, Int.reduceEq, false_or, or_false, or_true, true_or] at hch
                      have HCH := Lib.hid hch; clear hch n1 n2 hkr
                      have qBL := BL.out.cell; have fBL := BL.out.free; have lBL := BL.out.lt; have qBM := BM.out.cell; have fBM := BM.out.free; have lBM := BM.out.lt
                      go_wp2_with fail
                      refine (HCH.out).mono ?_
                      rintro e w21 ⟨⟨vn, vd, rfl, nn1, nn2⟩, hx⟩
                      clear qBL fBL lBL qBM fBM lBM
                      have BL := Lib.hid (BL.out.ext hx); have BM := Lib.hid (BM.out.ext hx); have BA := Lib.hid (BA.out.ext hx); have X := Lib.hid (X.out.trans hx)
                      obtain ⟨s1, s2, rfl⟩ := nn1.shape; obtain ⟨s3, s4, rfl⟩ := nn2.shape
                      clear nn1 nn2 hx
                      have qBL := BL.out.cell; have fBL := BL.out.free; have lBL := BL.out.lt; have qBM := BM.out.cell; have fBM := BM.out.free; have lBM := BM.out.lt
                      go_wp2_with fail
                      clear qBL fBL lBL qBM fBM lBM
                      have lM := BM.out.lt
                      have BL := Lib.hid (((BL.out.off3 (bx := g1) (by omega) (.int .i64 b) (.int .i64 (age + 1)) (.int .i64 rev)).alloc (.cells #[.int .i64 b, .int .u8 1, .bool r.neg, .slice s1 r.num.length s2, .slice s3 r.den.length s4] 76)).alloc (.cells #[.int .i64 b, .int .i64 (age + 1), .int .i64 rev] 61)); have BA := Lib.hid (((BA.out.off3 (bx := g1) (by omega) (.int .i64 b) (.int .i64 (age + 1)) (.int .i64 rev)).alloc (.cells #[.int .i64 b, .int .u8 1, .bool r.neg, .slice s1 r.num.length s2, .slice s3 r.den.length s4] 76)).alloc (.cells #[.int .i64 b, .int .i64 (age + 1), .int .i64 rev] 61))
                      have hbm := ((BM.out.set 0 (.int .i64 b)).set 1 (.int .i64 (age + 1))).set 2 (.int .i64 rev)
                      simp only [List.setIfInBounds_toArray, List.set_cons_zero, List.set_cons_succ] at hbm
                      have BM := Lib.hid ((hbm.alloc (.cells #[.int .i64 b, .int .u8 1, .bool r.neg, .slice s1 r.num.length s2, .slice s3 r.den.length s4] 76)).alloc (.cells #[.int .i64 b, .int .i64 (age + 1), .int .i64 rev] 61))
                      have hx : Ext w (((((w21.setCell ⟨g1, 0, none⟩ (.int .i64 b)).setCell ⟨g1, 1, none⟩ (.int .i64 (age + 1))).setCell ⟨g1, 2, none⟩ (.int .i64 rev)).alloc (.cells #[.int .i64 b, .int .u8 1, .bool r.neg, .slice s1 r.num.length s2, .slice s3 r.den.length s4] 76)).alloc (.cells #[.int .i64 b, .int .i64 (age + 1), .int .i64 rev] 61)) := ((((X.out.set (by dsimp only; omega) _).set (by dsimp only; omega) _).set (by dsimp only; omega) _).alloc _).alloc _
                      have X := Lib.hid hx
                      clear hbm hx
                      go_roundw
                      case rel => exact ⟨tt + 1, b, (age + 1), rev, by omega, BP.out, ⟨by omega, by omega⟩, ⟨by omega, by omega⟩, by first | rfl | go_num | rw [v2], by first | rfl | go_num | rw [v1], by go_num, X.out, BL.out, BM.out, BA.out⟩
                      case measure => simp [intOf]; omega
                    · by_cases h2 : K = 2
                      · subst h2
                        simp only [reduceIte, Int.reduceEq, false_or, or_false, or_true, true_or] at hch
                        have t6 : ¬ age < lh := by have := n1 rfl; omega
                        have HCH := Lib.hid hch; clear hch n1 n2 hkr
                        have qBL := BL.out.cell; have fBL := BL.out.free; have lBL := BL.out.lt; have qBM := BM.out.cell; have fBM := BM.out.free; have lBM := BM.out.lt
                        go_wp2_with fail
                        refine (HCH.out).mono ?_
                        rintro e w21 ⟨⟨vn, vd, rfl, nn1, nn2⟩, hx⟩
                        clear qBL fBL lBL qBM fBM lBM
                        have BL := Lib.hid (BL.out.ext hx); have BM := Lib.hid (BM.out.ext hx); have BA := Lib.hid (BA.out.ext hx); have X := Lib.hid (X.out.trans hx)
                        obtain ⟨s1, s2, rfl⟩ := nn1.shape; obtain ⟨s3, s4, rfl⟩ := nn2.shape
                        clear nn1 nn2 hx
                        have qBL := BL.out.cell; have fBL := BL.out.free; have lBL := BL.out.lt; have qBM := BM.out.cell; have fBM := BM.out.free; have lBM := BM.out.lt
                        go_wp2_with fail
                        clear qBL fBL lBL qBM fBM lBM
                        have lM := BM.out.lt
                        have BL := Lib.hid (((BL.out.off3 (bx := g1) (by omega) (.int .i64 b) (.int .i64 0) (.int .i64 0)).alloc (.cells #[.int .i64 b, .int .u8 2, .bool r.neg, .slice s1 r.num.length s2, .slice s3 r.den.length s4] 76)).alloc (.cells #[.int .i64 b, .int .i64 0, .int .i64 0] 61)); have BA := Lib.hid (((BA.out.off3 (bx := g1) (by omega) (.int .i64 b) (.int .i64 0) (.int .i64 0)).alloc (.cells #[.int .i64 b, .int .u8 2, .bool r.neg, .slice s1 r.num.length s2, .slice s3 r.den.length s4] 76)).alloc (.cells #[.int .i64 b, .int .i64 0, .int .i64 0] 61))
                        have hbm := ((BM.out.set 0 (.int .i64 b)).set 1 (.int .i64 0)).set 2 (.int .i64 0)
                        simp only [List.setIfInBounds_toArray, List.set_cons_zero, List.set_cons_succ] at hbm
                        have BM := Lib.hid ((hbm.alloc (.cells #[.int .i64 b, .int .u8 2, .bool r.neg, .slice s1 r.num.length s2, .slice s3 r.den.length s4] 76)).alloc (.cells #[.int .i64 b, .int .i64 0, .int .i64 0] 61))
                        have hx : Ext w (((((w21.setCell ⟨g1, 0, none⟩ (.int .i64 b)).setCell ⟨g1, 1, none⟩ (.int .i64 0)).setCell ⟨g1, 2, none⟩ (.int .i64 0)).alloc (.cells #[.int .i64 b, .int .u8 2, .bool r.neg, .slice s1 r.num.length s2, .slice s3 r.den.length s4] 76)).alloc (.cells #[.int .i64 b, .int .i64 0, .int .i64 0] 61)) := ((((X.out.set (by dsimp only; omega) _).set (by dsimp only; omega) _).set (by dsimp only; omega) _).alloc _).alloc _
                        have X := Lib.hid hx
                        clear hbm hx
                        go_roundw
                        case rel => exact ⟨tt + 1, b, 0, 0, by omega, BP.out, ⟨by omega, by omega⟩, ⟨by omega, by omega⟩, by first | rfl | go_num | rw [v2], by first | rfl | go_num | rw [v1], by go_num, X.out, BL.out, BM.out, BA.out⟩
                        case measure => simp [intOf]; omega
                      · by_cases h3 : K = 3
                        · subst h3
                          simp only [reduceIte, Int.reduceEq, false_or, or_false, or_true, true_or] at hch
                          have HCH := Lib.hid hch; clear hch n1 n2 hkr
                          have qBL := BL.out.cell; have fBL := BL.out.free; have lBL := BL.out.lt; have qBM := BM.out.cell; have fBM := BM.out.free; have lBM := BM.out.lt
                          go_wp2_with fail
                          refine (HCH.out).mono ?_
                          rintro e w21 ⟨⟨vn, vd, rfl, nn1, nn2⟩, hx⟩
                          clear qBL fBL lBL qBM fBM lBM
                          have BL := Lib.hid (BL.out.ext hx); have BM := Lib.hid (BM.out.ext hx); have BA := Lib.hid (BA.out.ext hx); have X := Lib.hid (X.out.trans hx)
                          obtain ⟨s1, s2, rfl⟩ := nn1.shape; obtain ⟨s3, s4, rfl⟩ := nn2.shape
                          clear nn1 nn2 hx
                          have qBL := BL.out.cell; have fBL := BL.out.free; have lBL := BL.out.lt; have qBM := BM.out.cell; have fBM := BM.out.free; have lBM := BM.out.lt
                          go_wp2_with fail
                          clear qBL fBL lBL qBM fBM lBM
                          have lM := BM.out.lt
                          have BL := Lib.hid (((BL.out.off3 (bx := g1) (by omega) (.int .i64 b) (.int .i64 0) (.int .i64 0)).alloc (.cells #[.int .i64 b, .int .u8 3, .bool r.neg, .slice s1 r.num.length s2, .slice s3 r.den.length s4] 76)).alloc (.cells #[.int .i64 b, .int .i64 0, .int .i64 0] 61)); have BA := Lib.hid (((BA.out.off3 (bx := g1) (by omega) (.int .i64 b) (.int .i64 0) (.int .i64 0)).alloc (.cells #[.int .i64 b, .int .u8 3, .bool r.neg, .slice s1 r.num.length s2, .slice s3 r.den.length s4] 76)).alloc (.cells #[.int .i64 b, .int .i64 0, .int .i64 0] 61))
                          have hbm := ((BM.out.set 0 (.int .i64 b)).set 1 (.int .i64 0)).set 2 (.int .i64 0)
                          simp only [List.setIfInBounds_toArray, List.set_cons_zero, List.set_cons_succ] at hbm
                          have BM := Lib.hid ((hbm.alloc (.cells #[.int .i64 b, .int .u8 3, .bool r.neg, .slice s1 r.num.length s2, .slice s3 r.den.length s4] 76)).alloc (.cells #[.int .i64 b, .int .i64 0, .int .i64 0] 61))
                          have hx : Ext w (((((w21.setCell ⟨g1, 0, none⟩ (.int .i64 b)).setCell ⟨g1, 1, none⟩ (.int .i64 0)).setCell ⟨g1, 2, none⟩ (.int .i64 0)).alloc (.cells #[.int .i64 b, .int .u8 3, .bool r.neg, .slice s1 r.num.length s2, .slice s3 r.den.length s4] 76)).alloc (.cells #[.int .i64 b, .int .i64 0, .int .i64 0] 61)) := ((((X.out.set (by dsimp only; omega) _).set (by dsimp only; omega) _).set (by dsimp only; omega) _).alloc _).alloc _
                          have X := Lib.hid hx
                          clear hbm hx
                          go_roundw
                          case rel => exact ⟨tt + 1, b, 0, 0, by omega, BP.out, ⟨by omega, by omega⟩, ⟨by omega, by omega⟩, by first | rfl | go_num | rw [v2], by first | rfl | go_num | rw [v1], by go_num, X.out, BL.out, BM.out, BA.out⟩
                          case measure => simp [intOf]; omega
                        · by_cases h4 : K = 4
                          · subst h4
                            simp only [reduceIte, Int.reduceEq, false_or, or_false, or_true, true_or] at hch
                            have t6 : rev + 1 ≤ lr := n2 rfl
                            have t7 : ¬ lr < rev + 1 := by omega
                            have HCH := Lib.hid hch; clear hch n1 n2 hkr
                            have qBL := BL.out.cell; have fBL := BL.out.free; have lBL := BL.out.lt; have qBM := BM.out.cell; have fBM := BM.out.free; have lBM := BM.out.lt
                            go_wp2_with fail
                            refine (HCH.out).mono ?_
                            rintro e w21 ⟨⟨vn, vd, rfl, nn1, nn2⟩, hx⟩
                            clear qBL fBL lBL qBM fBM lBM
                            have BL := Lib.hid (BL.out.ext hx); have BM := Lib.hid (BM.out.ext hx); have BA := Lib.hid (BA.out.ext hx); have X := Lib.hid (X.out.trans hx)
                            obtain ⟨s1, s2, rfl⟩ := nn1.shape; obtain ⟨s3, s4, rfl⟩ := nn2.shape
                            clear nn1 nn2 hx
                            have qBL := BL.out.cell; have fBL := BL.out.free; have lBL := BL.out.lt; have qBM := BM.out.cell; have fBM := BM.out.free; have lBM := BM.out.lt
                            go_wp2_with fail
                            clear qBL fBL lBL qBM fBM lBM
                            have lM := BM.out.lt
                            have BL := Lib.hid (((BL.out.off3 (bx := g1) (by omega) (.int .i64 b) (.int .i64 0) (.int .i64 (rev + 1))).alloc (.cells #[.int .i64 b, .int .u8 4, .bool r.neg, .slice s1 r.num.length s2, .slice s3 r.den.length s4] 76)).alloc (.cells #[.int .i64 b, .int .i64 0, .int .i64 (rev + 1)] 61)); have BA := Lib.hid (((BA.out.off3 (bx := g1) (by omega) (.int .i64 b) (.int .i64 0) (.int .i64 (rev + 1))).alloc (.cells #[.int .i64 b, .int .u8 4, .bool r.neg, .slice s1 r.num.length s2, .slice s3 r.den.length s4] 76)).alloc (.cells #[.int .i64 b, .int .i64 0, .int .i64 (rev + 1)] 61))
                            have hbm := ((BM.out.set 0 (.int .i64 b)).set 1 (.int .i64 0)).set 2 (.int .i64 (rev + 1))
                            simp only [List.setIfInBounds_toArray, List.set_cons_zero, List.set_cons_succ] at hbm
                            have BM := Lib.hid ((hbm.alloc (.cells #[.int .i64 b, .int .u8 4, .bool r.neg, .slice s1 r.num.length s2, .slice s3 r.den.length s4] 76)).alloc (.cells #[.int .i64 b, .int .i64 0, .int .i64 (rev + 1)] 61))
                            have hx : Ext w (((((w21.setCell ⟨g1, 0, none⟩ (.int .i64 b)).setCell ⟨g1, 1, none⟩ (.int .i64 0)).setCell ⟨g1, 2, none⟩ (.int .i64 (rev + 1))).alloc (.cells #[.int .i64 b, .int .u8 4, .bool r.neg, .slice s1 r.num.length s2, .slice s3 r.den.length s4] 76)).alloc (.cells #[.int .i64 b, .int .i64 0, .int .i64 (rev + 1)] 61)) := ((((X.out.set (by dsimp only; omega) _).set (by dsimp only; omega) _).set (by dsimp only; omega) _).alloc _).alloc _
                            have X := Lib.hid hx
                            clear hbm hx
                            go_roundw
                            case rel => exact ⟨tt + 1, b, 0, (rev + 1), by omega, BP.out, ⟨by omega, by omega⟩, ⟨by omega, by omega⟩, by first | rfl | go_num | rw [v2], by first | rfl | go_num | rw [v1], by go_num, X.out, BL.out, BM.out, BA.out⟩
                            case measure => simp [intOf]; omega
                          · rw [if_neg h1, if_neg h4, if_neg (by omega)] at hch
                            have k1 : (K == 1) = false := by simpa using h1
                            have k1b : (K != 1) = true := by simpa using h1
                            have k2 : (K == 2) = false := by simpa using h2
                            have k3 : (K == 3) = false := by simpa using h3
                            have k4 : (K == 4) = false := by simpa using h4
                            have HCH := Lib.hid hch; clear hch n1 n2 hkr
                            have qBL := BL.out.cell; have fBL := BL.out.free; have lBL := BL.out.lt; have qBM := BM.out.cell; have fBM := BM.out.free; have lBM := BM.out.lt
                            go_wp2_with fail
                            refine (HCH.out).mono ?_
                            rintro e w21 ⟨⟨vn, vd, rfl, nn1, nn2⟩, hx⟩
                            clear qBL fBL lBL qBM fBM lBM
                            have BL := Lib.hid (BL.out.ext hx); have BM := Lib.hid (BM.out.ext hx); have BA := Lib.hid (BA.out.ext hx); have X := Lib.hid (X.out.trans hx)
                            obtain ⟨s1, s2, rfl⟩ := nn1.shape; obtain ⟨s3, s4, rfl⟩ := nn2.shape
                            clear nn1 nn2 hx
                            have qBL := BL.out.cell; have fBL := BL.out.free; have lBL := BL.out.lt; have qBM := BM.out.cell; have fBM := BM.out.free; have lBM := BM.out.lt
                            go_wp2_with fail
                            clear qBL fBL lBL qBM fBM lBM
                            have lM := BM.out.lt
                            have BL := Lib.hid (((BL.out.off3 (bx := g1) (by omega) (.int .i64 b) (.int .i64 0) (.int .i64 rev)).alloc (.cells #[.int .i64 b, .int .u8 K, .bool r.neg, .slice s1 r.num.length s2, .slice s3 r.den.length s4] 76)).alloc (.cells #[.int .i64 b, .int .i64 0, .int .i64 rev] 61)); have BA := Lib.hid (((BA.out.off3 (bx := g1) (by omega) (.int .i64 b) (.int .i64 0) (.int .i64 rev)).alloc (.cells #[.int .i64 b, .int .u8 K, .bool r.neg, .slice s1 r.num.length s2, .slice s3 r.den.length s4] 76)).alloc (.cells #[.int .i64 b, .int .i64 0, .int .i64 rev] 61))
                            have hbm := ((BM.out.set 0 (.int .i64 b)).set 1 (.int .i64 0)).set 2 (.int .i64 rev)
                            simp only [List.setIfInBounds_toArray, List.set_cons_zero, List.set_cons_succ] at hbm
                            have BM := Lib.hid ((hbm.alloc (.cells #[.int .i64 b, .int .u8 K, .bool r.neg, .slice s1 r.num.length s2, .slice s3 r.den.length s4] 76)).alloc (.cells #[.int .i64 b, .int .i64 0, .int .i64 rev] 61))
                            have hx : Ext w (((((w21.setCell ⟨g1, 0, none⟩ (.int .i64 b)).setCell ⟨g1, 1, none⟩ (.int .i64 0)).setCell ⟨g1, 2, none⟩ (.int .i64 rev)).alloc (.cells #[.int .i64 b, .int .u8 K, .bool r.neg, .slice s1 r.num.length s2, .slice s3 r.den.length s4] 76)).alloc (.cells #[.int .i64 b, .int .i64 0, .int .i64 rev] 61)) := ((((X.out.set (by dsimp only; omega) _).set (by dsimp only; omega) _).set (by dsimp only; omega) _).alloc _).alloc _
                            have X := Lib.hid hx
                            clear hbm hx
                            go_roundw
                            case rel => exact ⟨tt + 1, b, 0, rev, by omega, BP.out, ⟨by omega, by omega⟩, ⟨by omega, by omega⟩, by first | rfl | go_num | rw [v2], by first | rfl | go_num | rw [v1], by go_num, X.out, BL.out, BM.out, BA.out⟩
                            case measure => simp [intOf]; omega
            · have t1 : ¬ (tt : Int) < 40 := by omega
              go_wp2_with fail
              go_ret
              exact ⟨rfl, X.out⟩
    · have q2 : (ak != 0) = true := by simpa using h2
      clear h1 h2
      go_enter Try.func6, Try.ntmps6
      go_wp2_with fail
      refine (HCK.out _ HL.out).mono ?_
      rintro e w1 ⟨rfl, hx⟩
      have HL := Lib.hid (HL.out.ext hx); have HC := Lib.hid (HC.out.ext hx); have A0 := Lib.hid (A0.out.ext hx); have X := Lib.hid (X.out.trans hx)
      clear hx
      go_wp2_with fail
      refine (awake28_any _).mono ?_
      rintro e w2 ⟨rfl, hx⟩
      have HL := Lib.hid (HL.out.ext hx); have HC := Lib.hid (HC.out.ext hx); have A0 := Lib.hid (A0.out.ext hx); have X := Lib.hid (X.out.trans hx)
      clear hx
      go_wp2_with fail
      go_ret
      exact ⟨rfl, X.out⟩

end Go.Proofs.Ytcmemdmfnflfiaa
