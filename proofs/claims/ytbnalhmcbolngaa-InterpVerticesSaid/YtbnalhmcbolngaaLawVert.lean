/- Walk of the law InterpVertices: it returns true (written by mkver.py). Conditions: a grid whose rows read as ints; values that read as numbers; an int. -/
import Derived.Test.YtbnalhmcbolngaaGM
import Derived.Test.YtbnalhmcbolngaaInK
namespace Go.Proofs.Ytbnalhmcbolngaa
set_option linter.unusedSimpArgs false
set_option linter.unusedVariables false
open Go.RowKit

theorem chk_ne16 (r : RR) : chkR r ≠ 16 := by
  unfold chkR
  split
  · decide
  · split
    · decide
    · split <;> decide

set_option maxRecDepth 100000 in
set_option maxHeartbeats 8000000 in
theorem vertL_any (gv vv : Value) (g : List (List Int)) (v : Int) (vals : List RR) (w : World) (h : RdG w gv g) (hv : RdRs w vv vals) (hlv : LimL vals) (hb : -9223372036854775808 ≤ v ∧ v ≤ 9223372036854775807) :
    Calls Try.prog 6 #[gv, .int .i64 v, vv] w fun e w' => e = .returned (.bool true) ∧ Ext w w' := by
  have HG := Lib.hid h; have HV := Lib.hid hv; have HLV := Lib.hid hlv; have X := Lib.hid (Ext.refl w)
  obtain ⟨a, cap, rfl, hgl⟩ := h.shape
  obtain ⟨av, cv, rfl, hvc, hvm, fv, hvf⟩ := hv.get
  have hvl : vals.length ≤ 9223372036854775807 := by omega
  clear h hv hlv hvc hvm hvf
  go_enter Try.func6, Try.ntmps6
  go_wp2_with fail
  refine (long7_any _ g _ HG.out).mono ?_
  rintro e w1 ⟨⟨r, rfl, hr⟩, hx⟩
  have HG := Lib.hid (HG.out.ext hx); have HV := Lib.hid (HV.out.ext hx); have X := Lib.hid (X.out.trans hx)
  clear hr hx
  cases r
  rotate_left
  · go_wp2_with fail
    refine (awake7_any _).mono ?_
    rintro e w2 ⟨rfl, hx⟩
    have HG := Lib.hid (HG.out.ext hx); have HV := Lib.hid (HV.out.ext hx); have X := Lib.hid (X.out.trans hx)
    clear hx
    go_wp2_with fail
    go_ret
    exact ⟨rfl, X.out⟩
  by_cases h3 : 300 < vals.length
  · have q1 : (300 : Int) < (vals.length : Int) := by omega
    go_wp2_with fail
    refine (awake7_any _).mono ?_
    rintro e w2 ⟨rfl, hx⟩
    have HG := Lib.hid (HG.out.ext hx); have HV := Lib.hid (HV.out.ext hx); have X := Lib.hid (X.out.trans hx)
    clear hx
    go_wp2_with fail
    go_ret
    exact ⟨rfl, X.out⟩
  have q1 : ¬ (300 : Int) < (vals.length : Int) := by omega
  go_wp2_with fail
  refine (long6s_any _ vals _ HV.out (by omega)).mono ?_
  rintro e w2 ⟨⟨r, rfl, hr⟩, hx⟩
  have HG := Lib.hid (HG.out.ext hx); have HV := Lib.hid (HV.out.ext hx); have X := Lib.hid (X.out.trans hx)
  clear hr hx
  cases r
  rotate_left
  · go_wp2_with fail
    refine (awake7_any _).mono ?_
    rintro e w3 ⟨rfl, hx⟩
    have HG := Lib.hid (HG.out.ext hx); have HV := Lib.hid (HV.out.ext hx); have X := Lib.hid (X.out.trans hx)
    clear hx
    go_wp2_with fail
    go_ret
    exact ⟨rfl, X.out⟩
  go_wp2_with fail
  refine (awake7_any _).mono ?_
  rintro e w3 ⟨rfl, hx⟩
  have HG := Lib.hid (HG.out.ext hx); have HV := Lib.hid (HV.out.ext hx); have X := Lib.hid (X.out.trans hx)
  clear hx
  go_wp2_with fail
  clear h3 q1
  have hpc := fun W (h : RdG W (.slice a g.length cap) g) => place7_any _ g v W h
  have hqc := fun W (h : RdG W (.slice a g.length cap) g) => point7_any _ g v W h
  have HPC := Lib.hid hpc; have HQC := Lib.hid hqc
  clear hpc hqc
  by_cases hp : (placeS g v).2 = 0
  rotate_left
  · have hnil := placeS_bad hp
    obtain ⟨c, hc⟩ : ∃ c, c = placeS g v := ⟨_, rfl⟩
    rw [← hc] at HPC hp hnil
    obtain ⟨pl, pe⟩ := c
    dsimp only at HPC hp hnil
    subst hnil
    have q2 : (pe != 0) = true := bne_iff_ne.2 hp
    clear hp hc
    go_wp2_with fail
    refine (HPC.out _ HG.out).mono ?_
    rintro e w4 ⟨⟨v, rfl, nn⟩, hx⟩
    have HG := Lib.hid (HG.out.ext hx); have HV := Lib.hid (HV.out.ext hx); have X := Lib.hid (X.out.trans hx)
    obtain ⟨pa, rfl⟩ := nn.shape
    clear nn hx
    go_wp2_with fail
    go_ret
    exact ⟨rfl, X.out⟩
  obtain ⟨h0, hvn, hpe⟩ := placeS_0 hp
  have hqe := pointS_ok h0 hvn
  obtain ⟨n, rfl⟩ : ∃ n : Nat, v = n := ⟨v.toNat, by omega⟩
  rw [Int.toNat_natCast] at hpe hqe
  have hn : n < gsize g := by omega
  rw [hpe] at HPC
  rw [hqe] at HQC
  (try dsimp only at HPC HQC)
  have ok := gridE_ok h0
  have hsz := ok.size
  have hlen4 := ok.le
  have H0 := Lib.hid h0; have HN := Lib.hid hn; have OK := Lib.hid ok
  clear hp hpe hqe h0 hvn ok
  go_wp2_with fail
  refine (HPC.out _ HG.out).mono ?_
  rintro e w4 ⟨⟨v, rfl, nn⟩, hx⟩
  have HG := Lib.hid (HG.out.ext hx); have HV := Lib.hid (HV.out.ext hx); have X := Lib.hid (X.out.trans hx)
  obtain ⟨pa, rfl⟩ := nn.shape
  have PL := Lib.hid nn.rd
  clear nn hx
  rw [plK_len] at PL ⊢
  have hvx := fun W (h : RdG W (.slice a g.length cap) g) (k : RdI .i64 W (.slice pa g.length g.length) (plK g n 0)) => vertex7_any _ _ g (plK g n 0) W h k
  rw [vertex_place H0.out HN.out] at hvx
  (try dsimp only at hvx)
  have HVX := Lib.hid hvx; clear hvx
  go_wp2_with fail
  refine (HVX.out _ HG.out PL.out).mono ?_
  rintro e w5 ⟨rfl, hx⟩
  have HG := Lib.hid (HG.out.ext hx); have HV := Lib.hid (HV.out.ext hx); have PL := Lib.hid (PL.out.ext hx); have X := Lib.hid (X.out.trans hx)
  clear hx
  go_wp2_with fail
  refine (HQC.out _ HG.out).mono ?_
  rintro e w6 ⟨⟨v, rfl, nn⟩, hx⟩
  have HG := Lib.hid (HG.out.ext hx); have HV := Lib.hid (HV.out.ext hx); have PL := Lib.hid (PL.out.ext hx); have X := Lib.hid (X.out.trans hx)
  obtain ⟨qa, rfl⟩ := nn.shape
  have PT := Lib.hid nn.rd
  clear nn hx
  rw [ptK_len] at PT ⊢
  have q3 : ((n : Int) != (n : Int)) = false := by simp
  have q4 : ((g.length : Int) != (g.length : Int)) = false := by simp
  go_wp2_with fail
  clear q3 q4
  obtain ⟨wl, hwl⟩ : ∃ W, W = w6 := ⟨_, rfl⟩
  subst hwl
  go_loopw [13] (fun i wr => ∃ k : Nat, k ≤ g.length ∧ i = .int .i64 k ∧ Ext wl wr) (fun i _ => g.length - (intOf i).toNat)
  case atStart => exact ⟨0, Nat.zero_le _, rfl, Ext.refl _⟩
  case round =>
    obtain ⟨wk, hwk⟩ : ∃ W, W = wr := ⟨_, rfl⟩
    subst hwk
    obtain ⟨k, hk, rfl, hext⟩ := hrel
    have HX := Lib.hid hext
    clear hext
    by_cases hlt : k < g.length
    · obtain ⟨b, off, ai, ci, rfl, hb, hc, hr⟩ := HG.out.at hlt
      obtain ⟨_, _, e1, hcc, hcm, hrow⟩ := hr.get
      injection e1 with e0 _ e3
      subst e0; subst e3
      obtain ⟨_, _, e1, _, _, hpl⟩ := (show RdI .i64 wl _ (plK g n 0) from PL.out).get
      injection e1 with e0 e4 e5
      subst e0
      clear e4 e5
      obtain ⟨bp, op, rfl, hbp, hcp⟩ := hpl k (by rw [plK_len]; exact hlt)
      obtain ⟨_, _, e1, _, _, hpt⟩ := (show RdI .i64 wl _ (ptK g n g.length) from PT.out).get
      injection e1 with e0 e4 e5
      subst e0
      clear e4 e5
      obtain ⟨bt, ot, rfl, hbt, hct⟩ := hpt k (by rw [ptK_len]; exact hlt)
      have hlc := plc_lt (pos_of OK.out) hlt n
      obtain ⟨bc, oc, rfl, hbc, hcc2⟩ := hrow (plc g n k) hlc
      rw [plK_at hlt] at hcp
      rw [ptK_pt hlt] at hct
      unfold cutAt at hct
      obtain ⟨c, hce⟩ : ∃ c, c = g.getD k [] := ⟨_, rfl⟩
      obtain ⟨i, hie⟩ : ∃ i, i = plc g n k := ⟨_, rfl⟩
      rw [← hce] at hc hcc hct hcc2 hlc
      rw [← hie] at hcp hct hcc2 hlc
      obtain ⟨y, hye⟩ : ∃ y, y = c.getD i 0 := ⟨_, rfl⟩
      rw [← hye] at hct hcc2
      have x1 := (HX.out.cell (p := ⟨b, off + k, none⟩) hb).trans hc
      have x2 := (HX.out.cell (p := ⟨bp, op + k, none⟩) hbp).trans hcp
      have x3 := (HX.out.cell (p := ⟨bt, ot + k, none⟩) hbt).trans hct
      have x4 := (HX.out.cell (p := ⟨bc, oc + i, none⟩) hbc).trans hcc2
      have hsx := HX.out.size
      have l1 := Nat.lt_of_lt_of_le hb hsx
      have l2 := Nat.lt_of_lt_of_le hbp hsx
      have l3 := Nat.lt_of_lt_of_le hbt hsx
      have l4 := Nat.lt_of_lt_of_le hbc hsx
      have q1 : (0 : Int) ≤ (k : Int) := by omega
      have q2 : (k : Int) < (g.length : Int) := by omega
      have q3 : (0 : Int) ≤ (i : Int) := by omega
      have q4 : (i : Int) < (c.length : Int) := by omega
      have q5 : (y != y) = false := by simp
      have q6 : decide ((i : Int) < 0) = false := decide_eq_false (by omega)
      have q7 : decide ((c.length : Int) ≤ (i : Int)) = false := decide_eq_false (by omega)
      have q8 : decide (c.length ≤ i) = false := decide_eq_false (by omega)
      have q9 : ¬ c.length ≤ i := by omega
      have qa : ¬ (c.length : Int) ≤ (i : Int) := by omega
      clear hc hr hrow hpl hpt hcp hct hcc2 hce hie hye hlc
      go_wp2_with fail
      go_quiet (fail)
      go_wp2_with fail
      go_roundw
      case rel => exact ⟨k + 1, by omega, by go_num, HX.out.drewN _⟩
      case measure => simp [intOf]; omega
    · have HG := Lib.hid (HG.out.ext HX.out); have HV := Lib.hid (HV.out.ext HX.out); have PT := Lib.hid (PT.out.ext HX.out); have X := Lib.hid (X.out.trans HX.out)
      have hvl := value7_any _ _ _ g vals (ptK g n g.length) wk HG.out HV.out HLV.out (show RdI .i64 wk (.slice qa (ptK g n g.length).length g.length) (ptK g n g.length) from by rw [ptK_len]; exact PT.out) (fun j hj => by
        rw [ptK_len] at hj
        rw [ptK_pt hj]
        have := (OK.out.ax j hj).2.2.2 _ (plc_lt (pos_of OK.out) hj n)
        unfold cutAt
        omega)
      rw [ptK_len, value_point H0.out HN.out HLV.out] at hvl
      obtain ⟨x, hx⟩ : ∃ x, x = vals.getD n zR := ⟨_, rfl⟩
      rw [← hx] at hvl
      have LX : Hid (n < vals.length → LimR x) := Lib.hid (fun h => by rw [hx]; exact HLV.out n h)
      have HXX := Lib.hid hx
      have hnn := HN.out
      obtain ⟨_, _, e1, _, _, fv, hvf⟩ := HV.out.get
      injection e1 with e0 e4 e5
      subst e0
      clear e4 e5
      have HVF := Lib.hid hvf
      clear hx hvf
      have q1 : ¬ (k : Int) < (g.length : Int) := by omega
      by_cases hl : vals.length = gsize g
      rotate_left
      · rw [if_neg hl] at hvl
        have HVL := Lib.hid hvl
        clear hvl hl
        go_wp2_with fail
        refine (HVL.out).mono ?_
        rintro e w51 ⟨⟨v, rfl, nn⟩, hx⟩
        have HG := Lib.hid (HG.out.ext hx); have HV := Lib.hid (HV.out.ext hx); have PT := Lib.hid (PT.out.ext hx); have X := Lib.hid (X.out.trans hx)
        obtain ⟨y1, y2, y3, y4, rfl⟩ := nn.shape
        clear nn hx
        go_wp2_with fail
        go_ret
        exact ⟨rfl, X.out.alloc _⟩
      rw [if_pos hl] at hvl
      have hnl : n < vals.length := by omega
      have LX := Lib.hid (LX.out hnl)
      obtain ⟨bv, ov, rfl, hbv, m0, m1, m2, hrd⟩ := HVF.out n hnl
      rw [← HXX.out] at m0 m1 m2 hrd
      obtain ⟨ff, hff⟩ : ∃ f, f = fv n := ⟨_, rfl⟩
      rw [← hff] at m1 m2 hrd
      obtain ⟨⟨z1, z2⟩, ⟨z3, z4⟩⟩ := ff
      dsimp only at m1 m2 hrd
      have VC : Hid (RdAt wk bv (ov + n * 3) x z1 z2 z3 z4) := Lib.hid ⟨hbv, m0, m1, m2⟩
      have RX := Lib.hid hrd
      have q2 : (n : Int) < (vals.length : Int) := by omega
      have q3 : (0 : Int) ≤ (n : Int) := by omega
      clear m0 m1 m2 hrd hff hbv hl hnn hnl
      by_cases hc : chkR x = 0
      rotate_left
      · rw [if_neg hc] at hvl
        obtain ⟨ck, hck⟩ : ∃ c, c = chkR x := ⟨_, rfl⟩
        have hcc := fun W (h : RdR W (.agg #[.bool x.neg, .slice z1 x.num.length z2, .slice z3 x.den.length z4]) x) => checkR_any _ x W h LX.out
        have h16 := chk_ne16 x
        rw [← hck] at hvl hc hcc h16
        have HCC := Lib.hid hcc
        have HVL := Lib.hid hvl
        have q4 : (ck != 0) = true := bne_iff_ne.2 hc
        have q5 : (ck == 16) = false := beq_eq_false_iff_ne.2 h16
        have X0 := X
        have X : Hid (Ext wk wk) := Lib.hid (Ext.refl _)
        clear hvl hc hcc h16 hck
        go_wp2_with fail
        refine (HVL.out).mono ?_
        rintro e w51 ⟨⟨v, rfl, nn⟩, hx⟩
        have RX := Lib.hid (RX.out.ext hx); have X := Lib.hid (X.out.trans hx)
        obtain ⟨y1, y2, y3, y4, rfl⟩ := nn.shape
        clear nn hx
        obtain ⟨m0, m1, m2⟩ := VC.out.c3 X.out
        have lbv := Nat.lt_of_lt_of_le VC.out.1 X.out.size
        go_wp2_with fail
        refine (HCC.out _ (RX.out.ext ((Ext.refl _).alloc _))).mono ?_
        rintro e w52 ⟨rfl, hx⟩
        have hx := Ext.trans ((Ext.refl _).alloc _) hx
        have RX := Lib.hid (RX.out.ext hx); have X := Lib.hid (X.out.trans hx)
        go_wp2_with fail
        go_ret
        exact ⟨rfl, X0.out.trans X.out⟩
      rw [if_pos hc] at hvl
      have HVL := Lib.hid hvl
      have X0 := X
      have X : Hid (Ext wk wk) := Lib.hid (Ext.refl _)
      clear hvl hc
      go_wp2_with fail
      refine (HVL.out).mono ?_
      rintro e w51 ⟨⟨v, rfl, nn⟩, hx⟩
      have RX := Lib.hid (RX.out.ext hx); have X := Lib.hid (X.out.trans hx)
      obtain ⟨y1, y2, y3, y4, rfl⟩ := nn.shape
      have NX := Lib.hid nn.rd
      clear nn hx

      go_wp2_with fail
      have bb0 := (Blk.new w51 #[.bool x.neg, .slice y1 x.num.length y2, .slice y3 x.den.length y4] 35)
      have hx : Ext w51 (w51.alloc (.cells #[.bool x.neg, .slice y1 x.num.length y2, .slice y3 x.den.length y4] 35)) := ((Ext.refl w51).alloc _)
      obtain ⟨w152, hw152⟩ : ∃ W, W = (w51.alloc (.cells #[.bool x.neg, .slice y1 x.num.length y2, .slice y3 x.den.length y4] 35)) := ⟨_, rfl⟩
      rw [← hw152] at hx bb0 ⊢; clear hw152
      obtain ⟨Yn, hYn⟩ : ∃ n, n = w51.heap.size := ⟨_, rfl⟩
      rw [← hYn] at bb0 ⊢; clear hYn
      have RX := Lib.hid (RX.out.ext hx); have NX := Lib.hid (NX.out.ext hx); have X := Lib.hid (X.out.trans hx)
      clear hx
      have Y := Lib.hid bb0; clear bb0
      obtain ⟨m0, m1, m2⟩ := VC.out.c3 X.out
      have lbv := Nat.lt_of_lt_of_le VC.out.1 X.out.size
      have hq := fun W (e : Ext w152 W) => equalRat_any _ _ x x W (NX.out.ext e) (RX.out.ext e)
      rw [decide_eq_true (show x = x from rfl)] at hq
      have HQ := Lib.hid hq
      have hsz := (X0.out.trans X.out).size
      clear hq
      have qY := Y.out.cell; have fY := Y.out.free; have lY := Y.out.lt
      (refine wp_region_quietE (by kernel_rfl) (by kernel_rfl) ?_; (repeat (go_big_quiet_step ((go_at_call 16; exact quietE (HQ.out _ (Later.ext _)))))); refine wpQuiet_nil ?_; rintro w1 ⟨⟨_, hx1⟩, rfl⟩; (try dsimp only); have hz1 := hx1.size; (try simp only [World.size_alloc, World.size_setCell, World.size_drew, size_drewN] at hz1); obtain ⟨hc1, hf1⟩ := hx1.old (B := w.heap.size) (by (try simp only [World.size_alloc, World.size_setCell, World.size_drew, size_drewN]); omega))
      have X := Lib.hid ((X0.out.trans X.out).trans hx1)
      clear hx1
      go_wp2_with fail
      go_ret
      exact ⟨rfl, X.out⟩

end Go.Proofs.Ytbnalhmcbolngaa
