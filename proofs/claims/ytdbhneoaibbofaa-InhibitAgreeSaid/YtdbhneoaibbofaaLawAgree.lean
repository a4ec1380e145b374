/- Walk of the law InhibitAgree: it returns true. Conditions: the advisories read av a slice. -/
import Derived.Test.YtdbhneoaibbofaaAdvice
import Derived.Test.YtdbhneoaibbofaaLawMasks
import Derived.Test.YtdbhneoaibbofaaSpecT
namespace Go.Proofs.Ytdbhneoaibbofaa
set_option linter.unusedSimpArgs false
set_option linter.unusedVariables false
open Go.RowKit

theorem firstErr_zero : ∀ (l : List Bnd), firstErr l = 0 → ∀ x ∈ l, bnd1 x = 0
  | [], _, x, hx => by simp at hx
  | y :: r, h, x, hx => by
    unfold firstErr at h
    split at h
    · exact absurd h ‹_›
    · rcases List.mem_cons.1 hx with rfl | hx
      · by_cases hb : bnd1 x = 0
        · exact hb
        · exact absurd hb ‹_›
      · exact firstErr_zero r h x hx
theorem achk_bnd {l : List Bnd} (h : achk l = 0) {i : Nat} {x : Bnd} (hi : i ≠ 0) (hx : l[i]? = some x) : (x.1 = 1 ∨ x.1 = 2) ∧ x.2.1 ≤ x.2.2 ∧ -100 ≤ x.2.1 ∧ x.2.2 ≤ 100 := by
  obtain ⟨h0, h6⟩ := achk_len h
  unfold achk at h
  rw [if_neg (by omega), if_neg (by omega)] at h
  have hm : x ∈ l.drop 1 := by
    refine List.mem_of_getElem? (i := i - 1) ?_
    rw [List.getElem?_drop, show 1 + (i - 1) = i by omega]
    exact hx
  have hb := firstErr_zero _ h x hm
  unfold bnd1 at hb
  split at hb
  · cases hb
  · split at hb
    · cases hb
    · omega

section
variable {r : Int} {bd bs ba : Bool} {s rt : Int} {kp : Bool}
theorem weak_adv {i : Nat} {x : Bnd} (hb : i ≠ 0 → (x.1 = 1 ∨ x.1 = 2) ∧ x.2.1 ≤ x.2.2 ∧ -100 ≤ x.2.1 ∧ x.2.2 ≤ 100) :
    (weak 0 r bd bs ba (advOf i x).1 (advOf i x).2.1 (advOf i x).2.2).2.2.2 = 0 ∧ (mskE r bd bs ba i x.2.2 = true → weak 0 r bd bs ba (advOf i x).1 (advOf i x).2.1 (advOf i x).2.2 = ((advOf i x).1, (advOf i x).2.1, (advOf i x).2.2, 0)) := by
  by_cases hi : i = 0
  · have e : advOf i x = (0, 0, false) := by simp [advOf, hi]
    rw [e]
    cases ba <;> simp [weak]
  · obtain ⟨h1, h2, h3, h4⟩ := hb hi
    by_cases hs : x.1 = 2
    · have e : advOf i x = (2, -x.2.2, decide (-x.2.2 ≤ 0)) := by simp [advOf, hi, hs]
      rw [e]
      dsimp only
      unfold weak mskE
      have n1 : ¬ ((0 : Int) ≠ 0) := by omega
      have n2 : ¬ ((2 : Int) < 2) := by omega
      have n3 : ¬ (-x.2.2 < -100 ∨ 100 < -x.2.2) := by omega
      rw [if_neg n1, if_neg n2, if_neg n3]
      cases ba
      · by_cases hp : -x.2.2 ≤ 0
        · simp [hp]
        · have hlt : x.2.2 < 0 := by omega
          cases bd
          · cases bs
            · simp [hp]
            · by_cases hr : r < -x.2.2
              · have : x.2.2 < -r := by omega
                simp [hp, hr, this, hi]
              · simp [hp, hr]
          · simp [hp, hlt, hi]
      · simp [hi]
    · have e : advOf i x = (x.1, x.2.1, decide (x.2.1 ≤ 0)) := by simp [advOf, hi, hs]
      have hs1 : x.1 = 1 := by omega
      rw [e, hs1]
      dsimp only
      unfold weak mskE
      have n1 : ¬ ((0 : Int) ≠ 0) := by omega
      have n2 : ¬ ((2 : Int) < 1) := by omega
      have n3 : ¬ (x.2.1 < -100 ∨ 100 < x.2.1) := by omega
      rw [if_neg n1, if_neg n2, if_neg n3]
      cases ba
      · simp
      · simp [hi]

theorem weak_ways (hs : 0 ≤ s) (hr : 0 ≤ r ∧ r ≤ 100) : (∃ e, e ≠ 0 ∧ weak 0 r bd bs ba s rt kp = (0, 0, false, e)) ∨ (∃ ps pr pk, weak 0 r bd bs ba s rt kp = (ps, pr, pk, 0) ∧ 0 ≤ ps ∧
    weak 0 r bd bs ba ps pr pk = (ps, pr, pk, 0) ∧ (ps = 2 → pr ≤ rt ∧ (bd = true → pr ≤ 0)) ∧ (ps = s ∨ (ba = true ∧ ps = 0 ∧ pr = 0 ∧ pk = false))) := by
  by_cases h1 : 2 < s
  · exact .inl ⟨6, by omega, weak_k rfl h1⟩
  by_cases h2 : rt < -100 ∨ 100 < rt
  · exact .inl ⟨1, by omega, weak_r rfl (by omega) h2⟩
  right
  cases ba
  · by_cases h3 : s ≠ 2 ∨ rt ≤ 0
    · have e := weak_s (r := r) (bd := bd) (bs := bs) (kp := kp) (ba := false) rfl (show s ≤ 2 by omega) (show -100 ≤ rt ∧ rt ≤ 100 by omega) rfl h3
      exact ⟨s, rt, kp, e, hs, e, fun hp => ⟨by omega, fun _ => by omega⟩, .inl rfl⟩
    · have hs2 : s = 2 := by omega
      subst hs2
      cases bd
      · by_cases h4 : bs = true ∧ r < rt
        · have e := weak_f (r := r) (kp := kp) (ba := false) (bd := false) rfl rfl (show 0 < rt ∧ rt ≤ 100 by omega) rfl rfl h4.1 h4.2
          refine ⟨2, r, kp || (r == 0), e, by omega, ?_, fun _ => ⟨by omega, fun h => by cases h⟩, .inl rfl⟩
          by_cases h5 : r ≤ 0
          · exact weak_s rfl (by omega) (by omega) rfl (.inr h5)
          · exact weak_g rfl rfl (by omega) rfl rfl (.inr (by omega))
        · have e := weak_g (r := r) (kp := kp) (ba := false) (bd := false) (bs := bs) rfl rfl (show 0 < rt ∧ rt ≤ 100 by omega) rfl rfl (by
            cases bs
            · exact .inl rfl
            · exact .inr (by have : ¬ r < rt := fun h => h4 ⟨rfl, h⟩; omega))
          exact ⟨2, rt, kp, e, by omega, e, fun _ => ⟨by omega, fun h => by cases h⟩, .inl rfl⟩
      · have e := weak_d (r := r) (bs := bs) (kp := kp) (ba := false) (bd := true) rfl rfl (show 0 < rt ∧ rt ≤ 100 by omega) rfl rfl
        exact ⟨2, 0, true, e, by omega, weak_s rfl (by omega) (by omega) rfl (.inr (by omega)), fun _ => ⟨by omega, fun _ => by omega⟩, .inl rfl⟩
  · have e := weak_a (r := r) (bd := bd) (bs := bs) (kp := kp) (ba := true) rfl (show s ≤ 2 by omega) (show -100 ≤ rt ∧ rt ≤ 100 by omega) rfl
    exact ⟨0, 0, false, e, by omega, weak_a rfl (by omega) (by omega) rfl, fun h => by omega, .inr ⟨rfl, rfl, rfl, rfl⟩⟩
end

theorem msk_at {de dl se sl ae al r : Int} {bd bs ba : Bool} {l : List Bnd} (hc : chk de dl se sl ae al r = 0) {i : Nat} {mk : Bool} (h : (mskR de dl se sl ae al r bd bs ba l).1[i]? = some mk) : achk l = 0 ∧ ∃ x, l[i]? = some x ∧ mk = mskE r bd bs ba i x.2.2 := by
  by_cases ha : achk l = 0
  · rw [mskR_0 ha hc] at h
    unfold mskL at h
    rw [List.getElem?_mapIdx] at h
    cases hx : l[i]? with
    | none => rw [hx] at h; cases h
    | some x => rw [hx] at h; exact ⟨ha, x, rfl, by simpa using h.symm⟩
  · rw [mskR_a ha] at h
    simp at h
theorem msk_err {de dl se sl ae al r : Int} {bd bs ba : Bool} {l : List Bnd} (hc : chk de dl se sl ae al r = 0) : (mskR de dl se sl ae al r bd bs ba l).2 = achk l := by
  by_cases ha : achk l = 0
  · rw [mskR_0 ha hc, ha]
  · rw [mskR_a ha]

set_option maxRecDepth 100000 in
set_option maxHeartbeats 4000000 in
theorem agree_any (de dl se sl ae al r : Int) (bd bs ba : Bool) (v : Value) (l : List Bnd) (s rt : Int) (kp : Bool) (w : World) (hrd : RdBnd w v l) (hs : 0 ≤ s) :
    Calls Try.prog 8 #[.agg #[.int .i64 de, .int .i64 dl, .int .i64 se, .int .i64 sl, .int .i64 ae, .int .i64 al, .int .i64 r], .agg #[.bool bd, .bool bs, .bool ba], .agg #[v, .int .u8 s, .int .i64 rt, .bool kp]] w fun en w' => en = .returned (.bool true) ∧ Ext w w' := by
  have hrd0 := hrd
  obtain ⟨a, cap, rfl, hca, hm, _⟩ := RdBnd.get hrd
  clear hrd
  have HRD := Lib.hid hrd0; clear hrd0
  by_cases hlen : 20 < l.length
  · have hd : decide (20 < (l.length : Int)) = true := by simp; omega
    go_enter Try.func8, Try.ntmps8
    go_wp2_with fail
    refine (awake_any _).mono ?_
    rintro e w1 ⟨rfl, hx1⟩
    go_wp2_with fail
    go_ret
    exact ⟨rfl, by (repeat (first | (with_reducible exact Ext.refl _) | (with_reducible assumption) | (with_reducible refine Ext.alloc ?_ _) | ((with_reducible refine Ext.setp ?_ ?_); focus (dsimp only; omega)) | (with_reducible refine Ext.drew ?_) | (with_reducible refine Ext.drewN ?_ _) | (with_reducible refine Ext.trans ?_ (by assumption))))⟩
  · have hd : decide (20 < (l.length : Int)) = false := by simp; omega
    go_enter Try.func8, Try.ntmps8
    go_wp2_with fail
    have hx0 : Ext w (((w.alloc (.cells #[.int .i64 de, .int .i64 dl, .int .i64 se, .int .i64 sl, .int .i64 ae, .int .i64 al, .int .i64 r] 25)).alloc (.cells #[.bool bd, .bool bs, .bool ba] 27)).alloc (.cells #[.slice a l.length cap, .int .u8 s, .int .i64 rt, .bool kp] 32)) := (((Ext.refl w).alloc _).alloc _).alloc _
    have hB0 := ((Blk.new w #[.int .i64 de, .int .i64 dl, .int .i64 se, .int .i64 sl, .int .i64 ae, .int .i64 al, .int .i64 r] 25).alloc (.cells #[.bool bd, .bool bs, .bool ba] 27)).alloc (.cells #[.slice a l.length cap, .int .u8 s, .int .i64 rt, .bool kp] 32)
    have hB1 := (Blk.new (w.alloc (.cells #[.int .i64 de, .int .i64 dl, .int .i64 se, .int .i64 sl, .int .i64 ae, .int .i64 al, .int .i64 r] 25)) #[.bool bd, .bool bs, .bool ba] 27).alloc (.cells #[.slice a l.length cap, .int .u8 s, .int .i64 rt, .bool kp] 32)
    have hB2 := Blk.new ((w.alloc (.cells #[.int .i64 de, .int .i64 dl, .int .i64 se, .int .i64 sl, .int .i64 ae, .int .i64 al, .int .i64 r] 25)).alloc (.cells #[.bool bd, .bool bs, .bool ba] 27)) #[.slice a l.length cap, .int .u8 s, .int .i64 rt, .bool kp] 32
    rw [World.size_alloc] at hB1
    rw [World.size_alloc, World.size_alloc] at hB2
    refine (awake_any _).mono ?_
    rintro e w1 ⟨rfl, hx1⟩
    have HX := Lib.hid (hx0.trans hx1); have H1 := Lib.hid (hB1.ext hx1); have H2 := Lib.hid (hB2.ext hx1)
    have c0 := (hB0.ext hx1).cell
    clear hx0 hB0 hB1 hB2 hx1
    go_wp2_with fail
    refine (tame_any _ _ _ _ _ _ _ _).mono ?_
    rintro e w2 ⟨rfl, hx2⟩
    have hx2' := hx2.alloc (.cells #[.int .i64 (umod de 2000), .int .i64 (umod de 2000 + umod dl 500), .int .i64 (umod se 2000), .int .i64 (umod se 2000 + umod sl 500), .int .i64 (umod ae 2000), .int .i64 (umod ae 2000 + umod al 500), .int .i64 (umod r 101)] 25)
    have HX2 := Lib.hid (HX.out.trans hx2'); have J1 := Lib.hid (H1.out.ext hx2'); have J2 := Lib.hid (H2.out.ext hx2'); have HT := Lib.hid (Blk.new w2 #[.int .i64 (umod de 2000), .int .i64 (umod de 2000 + umod dl 500), .int .i64 (umod se 2000), .int .i64 (umod se 2000 + umod sl 500), .int .i64 (umod ae 2000), .int .i64 (umod ae 2000 + umod al 500), .int .i64 (umod r 101)] 25)
    have hck := tame_chk de dl se sl ae al r
    have hcM := fun W v h => mask_any v (umod de 2000) (umod de 2000 + umod dl 500) (umod se 2000) (umod se 2000 + umod sl 500) (umod ae 2000) (umod ae 2000 + umod al 500) (umod r 101) bd bs ba l W h
    have hcW := fun W s rt kp h => weak_any (umod de 2000) (umod de 2000 + umod dl 500) (umod se 2000) (umod se 2000 + umod sl 500) (umod ae 2000) (umod ae 2000 + umod al 500) (umod r 101) bd bs ba s rt kp W h
    rw [hck] at hcW
    have hat := fun i mk h => msk_at (bd := bd) (bs := bs) (ba := ba) (l := l) hck (i := i) (mk := mk) h
    have her := msk_err (bd := bd) (bs := bs) (ba := ba) (l := l) hck
    have hrr := (chk_ok hck).2.2.2
    have c1 := J1.out.cell; have c2 := J2.out.cell
    clear hx2 hx2' HX H1 H2 c0 hck
    go_wp2_with fail
    generalize umod de 2000 + umod dl 500 = g1 at *
    generalize umod se 2000 + umod sl 500 = g3 at *
    generalize umod ae 2000 + umod al 500 = g5 at *
    generalize umod de 2000 = g0 at *
    generalize umod se 2000 = g2 at *
    generalize umod ae 2000 = g4 at *
    generalize umod r 101 = g6 at *
    generalize mskR g0 g1 g2 g3 g4 g5 g6 bd bs ba l = p at *
    obtain ⟨ml, er⟩ := p
    dsimp only at her hat hcM
    subst her
    have HCM := Lib.hid hcM; have HCW := Lib.hid hcW; have HAT := Lib.hid hat; have HRR := Lib.hid hrr
    refine (HCM.out _ _ (HRD.out.ext HX2.out)).mono ?_
    clear hcM hcW hat hrr c1 c2
    rintro e w3 ⟨⟨vm, rfl, hown⟩, hx3⟩
    have hrb := rdb_own hown
    obtain ⟨am, cm, rfl, hcm, hmm, hgm⟩ := rdB_get hrb
    generalize w2.alloc (.cells #[.int .i64 g0, .int .i64 g1, .int .i64 g2, .int .i64 g3, .int .i64 g4, .int .i64 g5, .int .i64 g6] 25) = w2' at *
    generalize w2.heap.size = G at *
    have HX3 := Lib.hid (HX2.out.trans hx3); have K1 := Lib.hid (J1.out.ext hx3); have K2 := Lib.hid (J2.out.ext hx3); have KT := Lib.hid (HT.out.ext hx3); have HGM := Lib.hid hgm
    clear hown hrb hgm hx3 HX2 J1 J2 HT
    go_wp2_with fail
    go_loopw [10] (fun i wr => ∃ k : Nat, k ≤ ml.length ∧ i = .int .i64 k ∧ Ext w3 wr) (fun i _ => ml.length - (intOf i).toNat)
    case atStart => exact ⟨0, by omega, rfl, Ext.refl _⟩
    case round =>
      obtain ⟨k, hk, rfl, hext⟩ := hrel
      have HE := Lib.hid hext; clear hext
      by_cases hlt : k < ml.length
      · obtain ⟨mk, hmk⟩ : ∃ mk, ml[k]? = some mk := ⟨ml[k], List.getElem?_eq_getElem hlt⟩
        obtain ⟨hac, x, hx, hme⟩ := HAT.out k mk hmk
        obtain ⟨bm, om, rfl, hbm, hym⟩ := HGM.out k hlt
        have e1 : ml.getD k false = mk := by simp [List.getD, hmk]
        rw [e1] at hym
        have hbn := fun h => achk_bnd hac (i := k) (x := x) h hx
        have hwa := weak_adv (r := g6) (bd := bd) (bs := bs) (ba := ba) hbn
        rw [← hme] at hwa
        have hadv := fun W h => advice_any (.slice a l.length cap) l k x W h hac hx (fun h => ⟨(hbn h).1, by have := hbn h; omega, (hbn h).2.2.2⟩)
        have hs0 : 0 ≤ (advOf k x).1 := by
          unfold advOf
          split
          · omega
          · rename_i hk0
            have := hbn hk0
            split <;> dsimp only <;> omega
        generalize advOf k x = ad at *
        obtain ⟨av, ar, ak⟩ := ad
        dsimp only at hwa hadv hs0
        have hwc := fun W => HCW.out W av ar ak hs0
        generalize weak 0 g6 bd bs ba av ar ak = ww at *
        obtain ⟨ws, wq, wk, we⟩ := ww
        dsimp only at hwa hwc
        obtain ⟨rfl, hwa⟩ := hwa
        have HADV := Lib.hid hadv; have HWC := Lib.hid hwc; have HWA := Lib.hid hwa
        have c2 := (K2.out.ext HE.out).cell
        clear hadv hwc hwa hbn hx hme hmk hs0 hac e1
        go_wp2_with fail
        refine (HADV.out _ (HRD.out.ext (HX3.out.trans HE.out))).mono ?_
        rintro e w4 ⟨rfl, hx4⟩
        have hx4' := hx4.alloc (.cells #[.int .u8 av, .int .i64 ar, .bool ak] 30)
        have HE4 := Lib.hid (HE.out.trans hx4'); have HA4 := Lib.hid (Blk.new w4 #[.int .u8 av, .int .i64 ar, .bool ak] 30)
        have c1 := (K1.out.ext HE4.out).cell; have cT := (KT.out.ext HE4.out).cell; have cA := HA4.out.cell
        clear c2 hx4 hx4'
        go_wp2_with fail
        refine (HWC.out _).mono ?_
        rintro e w5 ⟨rfl, hx5⟩
        have hx5' := hx5.alloc (.cells #[.int .u8 ws, .int .i64 wq, .bool wk] 30)
        have HE5 := Lib.hid (HE4.out.trans hx5'); have HA5 := Lib.hid (HA4.out.ext hx5'); have HW5 := Lib.hid (Blk.new w5 #[.int .u8 ws, .int .i64 wq, .bool wk] 30)
        have cm5 := ((HE5.out).cell (p := ⟨bm, om + k, none⟩) hbm).trans hym
        have lm5 : bm < (w5.alloc (.cells #[.int .u8 ws, .int .i64 wq, .bool wk] 30)).heap.size := Nat.lt_of_lt_of_le hbm HE5.out.size
        have cA5 := HA5.out.cell; have cW5 := HW5.out.cell
        have q1 : (0 : Int) ≤ (k : Int) := by omega
        have q2 : (k : Int) < (ml.length : Int) := by omega
        clear c1 cT cA hx5 hx5' hym
        cases mk
        · go_wp2_with fail
          go_roundw
          case rel => exact ⟨k + 1, by omega, by go_num, HE5.out⟩
          case measure => simp [intOf]; omega
        · have hw := HWA.out rfl
          simp only [Prod.mk.injEq] at hw
          obtain ⟨rfl, rfl, rfl, _⟩ := hw
          have hE : ∀ W, (binOp .neq 30 (.agg #[.int .u8 ws, .int .i64 wq, .bool wk]) (.agg #[.int .u8 ws, .int .i64 wq, .bool wk])).run Try.prog W = .ok (.bool false) W := fun W => by rw [neqAdv, beqD_self]; rfl
          go_wp2_with fail
          go_roundw
          case rel => exact ⟨k + 1, by omega, by go_num, HE5.out⟩
          case measure => simp [intOf]; omega
      · have c2 := (K2.out.ext HE.out).cell
        go_wp2_with fail
        refine (achk_any _ l _ (HRD.out.ext (HX3.out.trans HE.out))).mono ?_
        rintro e w4 ⟨rfl, hx4⟩
        have HE4 := Lib.hid (HE.out.trans hx4)
        have c1 := (K1.out.ext HE4.out).cell; have cT := (KT.out.ext HE4.out).cell; have c2' := (K2.out.ext HE4.out).cell
        clear c2 hx4
        rcases weak_ways (r := g6) (bd := bd) (bs := bs) (ba := ba) (s := s) (rt := rt) (kp := kp) hs HRR.out with ⟨ee, hee, hww⟩ | ⟨ps, pr, pk, hww, hps, hag, hp2, hp3⟩
        · have hwc := fun W => HCW.out W s rt kp hs
          rw [hww] at hwc
          dsimp only at hwc
          have HWC := Lib.hid hwc
          have hE : ∀ W, (binOp .eql 30 (.agg #[.int .u8 0, .int .i64 0, .bool false]) (.agg #[.int .u8 0, .int .i64 0, .bool false])).run Try.prog W = .ok (.bool true) W := fun W => by rw [eqAdv, beqD_self]
          have hb : (ee != 0) = true := by simpa using hee
          clear hwc hww hee
          go_wp2_with fail
          refine (HWC.out _).mono ?_
          rintro e w5 ⟨rfl, hx5⟩
          clear c1 cT c2'
          go_wp2_with fail
          go_ret
          exact ⟨rfl, ((HX3.out.trans HE4.out).trans hx5).alloc _⟩
        · have hwc := fun W => HCW.out W s rt kp hs
          rw [hww] at hwc
          have hwd := fun W => HCW.out W ps pr pk hps
          rw [hag] at hwd
          dsimp only at hwc hwd
          have HWC := Lib.hid hwc; have HWD := Lib.hid hwd; have HP2 := Lib.hid hp2; have HP3 := Lib.hid hp3
          clear hwc hwd hww hag hp2 hp3
          go_wp2_with fail
          refine (HWC.out _).mono ?_
          rintro e w5 ⟨rfl, hx5⟩
          have hx5' := hx5.alloc (.cells #[.int .u8 ps, .int .i64 pr, .bool pk] 30)
          have HE5 := Lib.hid (HE4.out.trans hx5'); have HA5 := Lib.hid (Blk.new w5 #[.int .u8 ps, .int .i64 pr, .bool pk] 30)
          clear c1 cT c2' hx5 hx5'
          have c1 := (K1.out.ext HE5.out).cell; have cT := (KT.out.ext HE5.out).cell; have cA := HA5.out.cell
          go_wp2_with fail
          refine (HWD.out _).mono ?_
          rintro e w6 ⟨rfl, hx6⟩
          have hx6' := hx6.alloc (.cells #[.int .u8 ps, .int .i64 pr, .bool pk] 30)
          have HE6 := Lib.hid (HE5.out.trans hx6'); have HA6 := Lib.hid (HA5.out.ext hx6'); have HB6 := Lib.hid (Blk.new w6 #[.int .u8 ps, .int .i64 pr, .bool pk] 30)
          clear c1 cT cA hx6 hx6'
          have c1 := (K1.out.ext HE6.out).cell; have c2 := (K2.out.ext HE6.out).cell; have cA := HA6.out.cell; have cB := HB6.out.cell
          have hN : ∀ W, (binOp .neq 30 (.agg #[.int .u8 ps, .int .i64 pr, .bool pk]) (.agg #[.int .u8 ps, .int .i64 pr, .bool pk])).run Try.prog W = .ok (.bool false) W := fun W => by rw [neqAdv, beqD_self]; rfl
          have hZ : ∀ W, (binOp .eql 30 (.agg #[.int .u8 0, .int .i64 0, .bool false]) (.agg #[.int .u8 0, .int .i64 0, .bool false])).run Try.prog W = .ok (.bool true) W := fun W => by rw [eqAdv, beqD_self]
          rcases HP3.out with h3 | ⟨h3, h4, h5, h6⟩
          · have hq : (ps == s) = true := by simpa using h3
            have HQ3 := Lib.hid h3
            clear h3
            by_cases h2 : ps = 2
            · have g1 : (ps == 2) = true := by simpa using h2
              obtain ⟨p1, p2⟩ := HP2.out h2
              have g2 : decide (rt < pr) = false := by simp; omega
              have H22 := Lib.hid h2; clear h2
              cases bd
              · clear p2
                go_wp2_with fail
                go_ret
                exact ⟨rfl, HX3.out.trans HE6.out⟩
              · have p3 := p2 rfl
                have g3 : decide (0 < pr) = false := by simp; omega
                clear p2
                go_wp2_with fail
                go_ret
                exact ⟨rfl, HX3.out.trans HE6.out⟩
            · have g1 : (ps == 2) = false := by simpa using h2
              have H22 := Lib.hid h2; clear h2
              go_wp2_with fail
              go_ret
              exact ⟨rfl, HX3.out.trans HE6.out⟩
          · subst h3; subst h4; subst h5; subst h6
            rcases hqq : ((0 : Int) == s) with _ | _
            · go_wp2_with fail
              go_ret
              exact ⟨rfl, HX3.out.trans HE6.out⟩
            · go_wp2_with fail
              go_ret
              exact ⟨rfl, HX3.out.trans HE6.out⟩

end Go.Proofs.Ytdbhneoaibbofaa
