/- Part of the proof of ivalL_holds: what the row needs of LawIVal. Conditions: as each theorem states. -/
import Derived.Test.YtlbppdgijjbjbaaGreatSvRi7e
import Derived.Test.YtlbppdgijjbjbaaGreatSvInK
import Derived.Test.YtlbppdgijjbjbaaGreatSvGM
import Derived.Test.YtlbppdgijjbjbaaGreatSvRatOv
namespace Go.Proofs.YtlbppdgijjbjbaaGreat
set_option linter.unusedSimpArgs false
set_option linter.unusedVariables false
open Go.RowKit
def Shr (r : RR) : Prop := r.num.length ≤ 1000000 ∧ r.den.length ≤ 1000000
theorem shr_z : Shr zR := ⟨by decide, by decide⟩
theorem shr_op (a b : RR) (q : Rat) : Shr (opR a b (fitR q)).1 := by
  unfold opR
  split
  · by_cases hs : small q
    · rw [fitR_ok hs]; exact ⟨Nat.le_trans hs.1 (by decide), Nat.le_trans hs.2 (by decide)⟩
    · rw [fitR_long hs]; exact shr_z
  · exact shr_z
theorem addL_shr : ∀ (l : List RR) (s : RR), Shr s → Shr (addL s l).1
  | [], _, h => h
  | x :: r, s, h => by
    unfold addL
    split
    · exact addL_shr r _ (shr_op _ _ _)
    · exact shr_z
theorem dotL_shr : ∀ (a b : List RR) (s : RR), Shr s → Shr (dotL s a b).1
  | [], b, s, h => by rw [dotL_nil]; exact h
  | x :: r, [], s, h => by unfold dotL; exact h
  | x :: r, y :: t, s, h => by
    unfold dotL
    split
    · split
      · exact dotL_shr r t _ (addL_shr _ _ shr_z)
      · exact shr_z
    · exact shr_z
theorem value_shr (g : List (List Int)) (vals : List RR) (x : List Int) : Shr (valueS g vals x).1 := by
  unfold valueS
  split
  · split
    · unfold dotR
      split
      · exact dotL_shr _ _ _ shr_z
      · exact shr_z
    · exact shr_z
  · exact shr_z
set_option maxRecDepth 100000 in
set_option maxHeartbeats 8000000 in
theorem ivalL_any (gv vv xv : Value) (g : List (List Int)) (vals : List RR) (x : List Int) (w : World) (h : RdG w gv g) (hv : RdRs w vv vals) (hx : RdI .i64 w xv x) (hlv : LimL vals) (hxb : ∀ i, i < x.length → -9223372036854775808 ≤ x.getD i 0 ∧ x.getD i 0 ≤ 9223372036854775807) :
    Calls Tryz.prog 3 #[gv, vv, xv] w fun e w' => e = .returned (.bool true) ∧ Ext w w' := by
  have HG := Lib.hid h; have HV := Lib.hid hv; have HXI := Lib.hid hx; have HXB := Lib.hid hxb; have HLV := Lib.hid hlv; have X := Lib.hid (Ext.refl w)
  obtain ⟨a, cap, rfl, hgl⟩ := h.shape
  obtain ⟨pa, ca, rfl, hac, ham, fa, hfa⟩ := hv.get
  obtain ⟨ax, cx, rfl, hxc, hxm, _⟩ := hx.get
  have hal : vals.length ≤ 9223372036854775807 := by omega
  have hxl : x.length ≤ 9223372036854775807 := by omega
  clear h hv hx hlv hxb hac ham hfa hxc hxm fa
  go_enter Tryz.func3, Tryz.ntmps3
  go_wp2_with fail
  refine (long7_any _ g _ HG.out).mono ?_
  rintro e w1 ⟨⟨r, rfl, hr⟩, hx⟩
  have HG := Lib.hid (HG.out.ext hx); have HV := Lib.hid (HV.out.ext hx); have HXI := Lib.hid (HXI.out.ext hx); have X := Lib.hid (X.out.trans hx)
  clear hr hx
  cases r
  rotate_left
  · go_wp2_with fail
    refine (awake7_any _).mono ?_
    rintro e w2 ⟨rfl, hx⟩
    have HG := Lib.hid (HG.out.ext hx); have HV := Lib.hid (HV.out.ext hx); have HXI := Lib.hid (HXI.out.ext hx); have X := Lib.hid (X.out.trans hx)
    clear hx
    go_wp2_with fail
    go_ret
    exact ⟨rfl, X.out⟩
  by_cases h3 : 300 < vals.length
  · have qh3 : (300 : Int) < (vals.length : Int) := by omega
    go_wp2_with fail
    refine (awake7_any _).mono ?_
    rintro e w2 ⟨rfl, hx⟩
    have HG := Lib.hid (HG.out.ext hx); have HV := Lib.hid (HV.out.ext hx); have HXI := Lib.hid (HXI.out.ext hx); have X := Lib.hid (X.out.trans hx)
    clear hx
    go_wp2_with fail
    go_ret
    exact ⟨rfl, X.out⟩
  have qh3 : ¬ (300 : Int) < (vals.length : Int) := by omega
  by_cases h5 : 20 < x.length
  · have qh5 : (20 : Int) < (x.length : Int) := by omega
    go_wp2_with fail
    refine (awake7_any _).mono ?_
    rintro e w2 ⟨rfl, hx⟩
    have HG := Lib.hid (HG.out.ext hx); have HV := Lib.hid (HV.out.ext hx); have HXI := Lib.hid (HXI.out.ext hx); have X := Lib.hid (X.out.trans hx)
    clear hx
    go_wp2_with fail
    go_ret
    exact ⟨rfl, X.out⟩
  have qh5 : ¬ (20 : Int) < (x.length : Int) := by omega
  go_wp2_with fail
  refine (long6s_any _ vals _ HV.out (by omega)).mono ?_
  rintro e w2 ⟨⟨r, rfl, hr⟩, hx⟩
  have HG := Lib.hid (HG.out.ext hx); have HV := Lib.hid (HV.out.ext hx); have HXI := Lib.hid (HXI.out.ext hx); have X := Lib.hid (X.out.trans hx)
  clear hx
  cases r
  rotate_left
  · clear hr
    go_wp2_with fail
    refine (awake7_any _).mono ?_
    rintro e w3 ⟨rfl, hx⟩
    have HG := Lib.hid (HG.out.ext hx); have HV := Lib.hid (HV.out.ext hx); have HXI := Lib.hid (HXI.out.ext hx); have X := Lib.hid (X.out.trans hx)
    clear hx
    go_wp2_with fail
    go_ret
    exact ⟨rfl, X.out⟩
  have hok := hr rfl
  have HLN : Hid (∀ i, i < vals.length → (vals.getD i zR).num.length ≤ 1000000 ∧ (vals.getD i zR).den.length ≤ 1000000) := Lib.hid fun i hi => by
    have := hok i hi
    unfold okLen at this
    omega
  clear hr hok
  go_wp2_with fail
  refine (copyRats_any _ vals _ HV.out (by omega) HLN.out).mono ?_
  rintro e w3 ⟨⟨v, rfl, ho⟩, hx⟩
  have HG := Lib.hid (HG.out.ext hx); have HV := Lib.hid (HV.out.ext hx); have HXI := Lib.hid (HXI.out.ext hx); have X := Lib.hid (X.out.trans hx)
  have IN := Lib.hid (OwRs.rd ho)
  obtain ⟨ia, ic, rfl⟩ := OwRs.shape ho
  clear ho hx qh3 qh5
  have hvr := fun W (h : RdG W (.slice a g.length cap) g) (k : RdRs W (.slice pa vals.length ca) vals) (m : RdI .i64 W (.slice ax x.length cx) x) => refValue7_any _ _ _ g vals x W h k HLV.out m
  have hvp := fun W (h : RdG W (.slice a g.length cap) g) (k : RdRs W (.slice ia vals.length ic) vals) (m : RdI .i64 W (.slice ax x.length cx) x) => value7_any _ _ _ g vals x W h k HLV.out m HXB.out
  have hsh := value_shr g vals x
  obtain ⟨ra, hra⟩ : ∃ r, r = valueS g vals x := ⟨_, rfl⟩
  rw [← hra] at hvr hvp hsh
  clear hra
  obtain ⟨y, ey⟩ := ra
  dsimp only at hsh
  have HVR := Lib.hid hvr; have HVP := Lib.hid hvp; have SH := Lib.hid hsh
  clear hvr hvp hsh
  go_wp2_with fail
  refine (HVR.out _ HG.out HV.out HXI.out).mono ?_
  rintro e w4 ⟨⟨v, rfl, nn⟩, hx⟩
  have HG := Lib.hid (HG.out.ext hx); have HV := Lib.hid (HV.out.ext hx); have HXI := Lib.hid (HXI.out.ext hx); have IN := Lib.hid (IN.out.ext hx); have X := Lib.hid (X.out.trans hx)
  obtain ⟨y1, y2, y3, y4, rfl⟩ := nn.shape
  have Ny := Lib.hid nn.rd
  clear nn hx
  dsimp only
  go_wp2_with fail
  have bb0 := (Blk.new w4 #[.bool y.neg, .slice y1 y.num.length y2, .slice y3 y.den.length y4] 33)
  have hx : Ext w4 (w4.alloc (.cells #[.bool y.neg, .slice y1 y.num.length y2, .slice y3 y.den.length y4] 33)) := ((Ext.refl w4).alloc _)
  obtain ⟨w105, hw105⟩ : ∃ W, W = (w4.alloc (.cells #[.bool y.neg, .slice y1 y.num.length y2, .slice y3 y.den.length y4] 33)) := ⟨_, rfl⟩
  rw [← hw105] at hx bb0 ⊢; clear hw105
  obtain ⟨BYn, hBYn⟩ : ∃ n, n = w4.heap.size := ⟨_, rfl⟩
  rw [← hBYn] at bb0 ⊢; clear hBYn
  have HG := Lib.hid (HG.out.ext hx); have HV := Lib.hid (HV.out.ext hx); have HXI := Lib.hid (HXI.out.ext hx); have IN := Lib.hid (IN.out.ext hx); have Ny := Lib.hid (Ny.out.ext hx); have X := Lib.hid (X.out.trans hx)
  clear hx
  have BY := Lib.hid bb0; clear bb0
  obtain ⟨wc, hwc⟩ : ∃ W, W = w105 := ⟨_, rfl⟩
  rw [← hwc] at HG HV HXI IN Ny BY X ⊢
  clear hwc
  refine (HVP.out _ HG.out IN.out HXI.out).mono ?_
  rintro e w20 ⟨⟨v, rfl, nn⟩, hx⟩
  obtain ⟨z1, z2, z3, z4, rfl⟩ := nn.shape
  dsimp only at nn ⊢
  have KZ := Lib.hid (KpR.new nn)
  have XC := Lib.hid hx
  clear nn hx
  have qS := (BY.out.ext XC.out).cell; have fS := (BY.out.ext XC.out).free; have lS := (BY.out.ext XC.out).lt
  have q1 : ((ey == ey) = true) := by simp
  clear qS fS lS
  obtain ⟨wz, hwz⟩ : ∃ W, W = (w20.alloc (.cells #[.bool y.neg, .slice z1 y.num.length z2, .slice z3 y.den.length z4] 33)) := ⟨_, rfl⟩
  have hx : Ext w20 wz := by rw [hwz]; exact (Ext.refl _).alloc _
  have bz : Blk wz w20.heap.size #[.bool y.neg, .slice z1 y.num.length z2, .slice z3 y.den.length z4] 33 := by rw [hwz]; exact Blk.new _ _ _
  have KZ := Lib.hid (KZ.out.ext hx); have XC := Lib.hid (XC.out.trans hx)
  have qS := (BY.out.ext XC.out).cell; have fS := (BY.out.ext XC.out).free; have lS := (BY.out.ext XC.out).lt; have qZ := bz.cell; have fZ := bz.free; have lZ := bz.lt
  rw [hwz] at qS fS lS qZ fZ lZ
  have BZ := Lib.hid bz; have HWZ := Lib.hid hwz; have HXZ := Lib.hid hx
  clear hx bz hwz
  go_wp2_with fail
  rw [← HWZ.out]
  clear qS fS lS qZ fZ lZ
  refine (equalRat_any _ _ _ _ _ KZ.out.rd (Ny.out.ext XC.out)).mono ?_
  rintro e w21 ⟨rfl, hx⟩
  rw [decide_eq_true rfl]
  have KZ := Lib.hid (KZ.out.ext hx); have XC := Lib.hid (XC.out.trans hx); have BZ := Lib.hid (BZ.out.ext hx)
  have hz9 : w20.heap.size ≤ w21.heap.size := Nat.le_trans HXZ.out.size hx.size
  have HZ9 := Lib.hid hz9
  clear hx hz9
  obtain ⟨zn, hzn⟩ : ∃ n, n = w20.heap.size := ⟨_, rfl⟩
  rw [← hzn] at BZ ⊢
  have HZN := Lib.hid hzn
  clear hzn
  have qZ := BZ.out.cell; have fZ := BZ.out.free; have lZ := BZ.out.lt
  go_wp2_with fail
  clear qZ fZ lZ
  refine (overRat_any _ _ _ _ _ KZ.out HZ9.out SH.out).mono ?_
  rintro e w22 ⟨rfl, hg⟩
  have hx := GrX.ext XC.out hg (Nat.le_refl _)
  have IN := Lib.hid (IN.out.ext hx); have HV := Lib.hid (HV.out.ext hx); have X := Lib.hid (X.out.trans hx)
  clear hg hx
  go_wp2_with fail
  refine (equalRats_any _ _ vals vals _ IN.out HV.out).mono ?_
  rintro e w31 ⟨rfl, hx⟩
  have X := Lib.hid (X.out.trans hx)
  clear hx
  rw [decide_eq_true rfl]
  go_wp2_with fail
  refine (awake7_any _).mono ?_
  rintro e w32 ⟨rfl, hx⟩
  have X := Lib.hid (X.out.trans hx)
  clear hx
  go_wp2_with fail
  go_ret
  exact ⟨rfl, X.out⟩
end Go.Proofs.YtlbppdgijjbjbaaGreat
