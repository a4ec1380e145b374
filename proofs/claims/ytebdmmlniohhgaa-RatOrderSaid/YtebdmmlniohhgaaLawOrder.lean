/- Walk of the law RatOrder: it returns true (written by mkorder.py). Conditions: three api.Rats whose slices read as limbs. -/
import Derived.Test.YtebdmmlniohhgaaRatOp
import Derived.Test.YtebdmmlniohhgaaLawField
namespace Go.Proofs.Ytebdmmlniohhgaa
set_option linter.unusedSimpArgs false
set_option linter.unusedVariables false
open Go.RowKit

theorem RdR.set3 {W : World} {v : Value} {r : RR} (h : RdR W v r) {bx : Nat} {c : Array Value} {t : TypeId} (hb : Blk W bx c t) (ht : ∀ x ∈ c, ∀ n, x ≠ .int .u32 n) (x y z : Value) (hx : ∀ n, x ≠ .int .u32 n) (hy : ∀ n, y ≠ .int .u32 n) :
    RdR (((W.setCell ⟨bx, 0, none⟩ x).setCell ⟨bx, 1, none⟩ y).setCell ⟨bx, 2, none⟩ z) v r := by
  obtain ⟨vn, vd, rfl, h1, h2⟩ := h
  exact ⟨_, _, rfl, rdI_set3 h1 hb ht x y z hx hy, rdI_set3 h2 hb ht x y z hx hy⟩

set_option maxRecDepth 100000 in
set_option maxHeartbeats 8000000 in
theorem ratOrder_any (v1 v2 v3 : Value) (r1 r2 r3 : RR) (w : World) (h1 : RdR w v1 r1) (h2 : RdR w v2 r2) (h3 : RdR w v3 r3) (g1 : LimR r1) (g2 : LimR r2) (g3 : LimR r3) :
    Calls Try.prog 6 #[v1, v2, v3] w fun en w' => en = .returned (.bool true) ∧ Ext w w' := by
  obtain ⟨x1, x2, x3, x4, rfl⟩ := h1.shape
  obtain ⟨y1, y2, y3, y4, rfl⟩ := h2.shape
  obtain ⟨z1, z2, z3, z4, rfl⟩ := h3.shape
  have Nx := Lib.hid h1; have G1 := Lib.hid g1
  have Ny := Lib.hid h2; have G2 := Lib.hid g2
  have Nz := Lib.hid h3; have G3 := Lib.hid g3
  clear h1 h2 h3 g1 g2 g3
  have bx := ((Blk.new w #[.bool r1.neg, .slice x1 r1.num.length x2, .slice x3 r1.den.length x4] 26).alloc (.cells #[.bool r2.neg, .slice y1 r2.num.length y2, .slice y3 r2.den.length y4] 26)).alloc (.cells #[.bool r3.neg, .slice z1 r3.num.length z2, .slice z3 r3.den.length z4] 26)
  have by' := (Blk.new (w.alloc (.cells #[.bool r1.neg, .slice x1 r1.num.length x2, .slice x3 r1.den.length x4] 26)) #[.bool r2.neg, .slice y1 r2.num.length y2, .slice y3 r2.den.length y4] 26).alloc (.cells #[.bool r3.neg, .slice z1 r3.num.length z2, .slice z3 r3.den.length z4] 26)
  have bz := Blk.new ((w.alloc (.cells #[.bool r1.neg, .slice x1 r1.num.length x2, .slice x3 r1.den.length x4] 26)).alloc (.cells #[.bool r2.neg, .slice y1 r2.num.length y2, .slice y3 r2.den.length y4] 26)) #[.bool r3.neg, .slice z1 r3.num.length z2, .slice z3 r3.den.length z4] 26
  rw [World.size_alloc] at by'
  rw [World.size_alloc, World.size_alloc] at bz
  have x0 : Ext w (((w.alloc (.cells #[.bool r1.neg, .slice x1 r1.num.length x2, .slice x3 r1.den.length x4] 26)).alloc (.cells #[.bool r2.neg, .slice y1 r2.num.length y2, .slice y3 r2.den.length y4] 26)).alloc (.cells #[.bool r3.neg, .slice z1 r3.num.length z2, .slice z3 r3.den.length z4] 26)) := (((Ext.refl w).alloc _).alloc _).alloc _
  have Bx := Lib.hid bx; have By := Lib.hid by'; have Bz := Lib.hid bz; have X := Lib.hid x0; have Nx := Lib.hid (Nx.out.ext x0); have Ny := Lib.hid (Ny.out.ext x0); have Nz := Lib.hid (Nz.out.ext x0)
  clear bx by' bz x0
  have ha1 := fun W h => checkR_any (.agg #[.bool r1.neg, .slice x1 r1.num.length x2, .slice x3 r1.den.length x4]) r1 W h G1.out
  have ha2 := fun W h => checkR_any (.agg #[.bool r2.neg, .slice y1 r2.num.length y2, .slice y3 r2.den.length y4]) r2 W h G2.out
  have ha3 := fun W h => checkR_any (.agg #[.bool r3.neg, .slice z1 r3.num.length z2, .slice z3 r3.den.length z4]) r3 W h G3.out
  obtain ⟨k1, hk1⟩ : ∃ k1, k1 = chkR r1 := ⟨_, rfl⟩
  obtain ⟨k2, hk2⟩ : ∃ k2, k2 = chkR r2 := ⟨_, rfl⟩
  obtain ⟨k3, hk3⟩ : ∃ k3, k3 = chkR r3 := ⟨_, rfl⟩
  rw [← hk1] at ha1; rw [← hk2] at ha2; rw [← hk3] at ha3
  have CA1 := Lib.hid ha1; have CA2 := Lib.hid ha2; have CA3 := Lib.hid ha3; have HK1 := Lib.hid hk1; have HK2 := Lib.hid hk2; have HK3 := Lib.hid hk3
  clear ha1 ha2 ha3 hk1 hk2 hk3
  go_enter Try.func6, Try.ntmps6
  have qBx := Bx.out.cell; have lBx := Bx.out.lt
  have qBy := By.out.cell; have lBy := By.out.lt
  have qBz := Bz.out.cell; have lBz := Bz.out.lt
  go_wp2_with fail
  refine (long63_any r1.neg r2.neg r3.neg x1 x3 y1 y3 z1 z3 r1.num.length r2.num.length r3.num.length r1.den.length r2.den.length r3.den.length x2 x4 y2 y4 z2 z4 (((w.alloc (.cells #[.bool r1.neg, .slice x1 r1.num.length x2, .slice x3 r1.den.length x4] 26)).alloc (.cells #[.bool r2.neg, .slice y1 r2.num.length y2, .slice y3 r2.den.length y4] 26)).alloc (.cells #[.bool r3.neg, .slice z1 r3.num.length z2, .slice z3 r3.den.length z4] 26)) (w.heap.size + 1 + 1 + 1) (by simp)).mono ?_
  rintro e w0 ⟨⟨rl, rfl, hr⟩, hx⟩
  have Bx := Lib.hid (Bx.out.ext hx)
  have By := Lib.hid (By.out.ext hx)
  have Bz := Lib.hid (Bz.out.ext hx)
  have Nx := Lib.hid (Nx.out.ext hx)
  have Ny := Lib.hid (Ny.out.ext hx)
  have Nz := Lib.hid (Nz.out.ext hx)
  have X := Lib.hid (X.out.trans hx)
  clear qBx lBx qBy lBy qBz lBz
  clear hx
  cases rl
  case true =>
    clear hr
    go_wp2_with fail
    refine (awake6_any _).mono ?_
    rintro e wz ⟨rfl, hx⟩
    have X := Lib.hid (X.out.trans hx)
    clear hx
    go_wp2_with fail
    go_ret
    exact ⟨rfl, X.out⟩
  have HL := Lib.hid (hr rfl)
  clear hr
  go_wp2_with fail
  refine (awake6_any _).mono ?_
  rintro e w1 ⟨rfl, hx⟩
  have Bx := Lib.hid (Bx.out.ext hx)
  have By := Lib.hid (By.out.ext hx)
  have Bz := Lib.hid (Bz.out.ext hx)
  have Nx := Lib.hid (Nx.out.ext hx)
  have Ny := Lib.hid (Ny.out.ext hx)
  have Nz := Lib.hid (Nz.out.ext hx)
  have X := Lib.hid (X.out.trans hx)
  clear hx
  dsimp only
  have qBx := Bx.out.cell; have lBx := Bx.out.lt
  go_wp2_with fail
  refine (CA1.out _ Nx.out).mono ?_
  rintro e w2 ⟨rfl, hx⟩
  have Bx := Lib.hid (Bx.out.ext hx)
  have By := Lib.hid (By.out.ext hx)
  have Bz := Lib.hid (Bz.out.ext hx)
  have Nx := Lib.hid (Nx.out.ext hx)
  have Ny := Lib.hid (Ny.out.ext hx)
  have Nz := Lib.hid (Nz.out.ext hx)
  have X := Lib.hid (X.out.trans hx)
  clear qBx lBx
  clear hx
  dsimp only
  by_cases hc1 : k1 = 0
  case neg =>
    have hb1 : (k1 != 0) = true := by simpa using hc1
    clear hc1
    go_wp2_with fail
    refine (awake6_any _).mono ?_
    rintro e wz ⟨rfl, hx⟩
    have X := Lib.hid (X.out.trans hx)
    clear hx
    go_wp2_with fail
    go_ret
    exact ⟨rfl, X.out⟩
  have K1 := HK1.out.symm.trans hc1
  subst hc1
  have qBy := By.out.cell; have lBy := By.out.lt
  go_wp2_with fail
  refine (CA2.out _ Ny.out).mono ?_
  rintro e w3 ⟨rfl, hx⟩
  have Bx := Lib.hid (Bx.out.ext hx)
  have By := Lib.hid (By.out.ext hx)
  have Bz := Lib.hid (Bz.out.ext hx)
  have Nx := Lib.hid (Nx.out.ext hx)
  have Ny := Lib.hid (Ny.out.ext hx)
  have Nz := Lib.hid (Nz.out.ext hx)
  have X := Lib.hid (X.out.trans hx)
  clear qBy lBy
  clear hx
  dsimp only
  by_cases hc2 : k2 = 0
  case neg =>
    have hb2 : (k2 != 0) = true := by simpa using hc2
    clear hc2
    go_wp2_with fail
    refine (awake6_any _).mono ?_
    rintro e wz ⟨rfl, hx⟩
    have X := Lib.hid (X.out.trans hx)
    clear hx
    go_wp2_with fail
    go_ret
    exact ⟨rfl, X.out⟩
  have K2 := HK2.out.symm.trans hc2
  subst hc2
  have qBz := Bz.out.cell; have lBz := Bz.out.lt
  go_wp2_with fail
  refine (CA3.out _ Nz.out).mono ?_
  rintro e w4 ⟨rfl, hx⟩
  have Bx := Lib.hid (Bx.out.ext hx)
  have By := Lib.hid (By.out.ext hx)
  have Bz := Lib.hid (Bz.out.ext hx)
  have Nx := Lib.hid (Nx.out.ext hx)
  have Ny := Lib.hid (Ny.out.ext hx)
  have Nz := Lib.hid (Nz.out.ext hx)
  have X := Lib.hid (X.out.trans hx)
  clear qBz lBz
  clear hx
  dsimp only
  by_cases hc3 : k3 = 0
  case neg =>
    have hb3 : (k3 != 0) = true := by simpa using hc3
    clear hc3
    go_wp2_with fail
    refine (awake6_any _).mono ?_
    rintro e wz ⟨rfl, hx⟩
    have X := Lib.hid (X.out.trans hx)
    clear hx
    go_wp2_with fail
    go_ret
    exact ⟨rfl, X.out⟩
  have K3 := HK3.out.symm.trans hc3
  subst hc3
  obtain ⟨⟨u1, u2⟩, ⟨u3, u4⟩, u5, u6⟩ := HL.out
  have d1 := bd_valid G1.out K1 u1 u2
  have e1 := (valid_rep G1.out K1).2.2.symm
  have d2 := bd_valid G2.out K2 u3 u4
  have e2 := (valid_rep G2.out K2).2.2.symm
  have d3 := bd_valid G3.out K3 u5 u6
  have e3 := (valid_rep G3.out K3).2.2.symm
  obtain ⟨a, ha⟩ : ∃ a, a = qv r1 := ⟨_, rfl⟩
  obtain ⟨b, hb⟩ : ∃ b, b = qv r2 := ⟨_, rfl⟩
  obtain ⟨c, hc⟩ : ∃ c, c = qv r3 := ⟨_, rfl⟩
  rw [← ha] at d1 e1; rw [← hb] at d2 e2; rw [← hc] at d3 e3
  have E1 := Lib.hid e1; have E2 := Lib.hid e2; have E3 := Lib.hid e3; have D1 := Lib.hid d1; have D2 := Lib.hid d2; have D3 := Lib.hid d3
  clear ha hb hc u1 u2 u3 u4 u5 u6 d1 d2 d3 e1 e2 e3 K1 K2 K3 HL
  have hz0 : small (0 : Rat) := by decide
  obtain ⟨c1, hc1⟩ : ∃ k, k = cmpQ a b := ⟨_, rfl⟩
  obtain ⟨c2, hc2⟩ : ∃ k, k = cmpQ b c := ⟨_, rfl⟩
  obtain ⟨c3, hc3⟩ : ∃ k, k = cmpQ a c := ⟨_, rfl⟩
  obtain ⟨sg1, hsg⟩ : ∃ k, k = cmpQ c 0 := ⟨_, rfl⟩
  obtain ⟨m1, hm1⟩ : ∃ k, k = c1 * sg1 := ⟨_, rfl⟩
  obtain ⟨rxx, hxx⟩ : ∃ r, r = rep (a + c) := ⟨_, rfl⟩
  have Dxx : Hid (bd (a + c) _) := Lib.hid (bd_add D1.out D3.out)
  have oxx := fun W va vb (h1 : RdR W va r1) (h2 : RdR W vb r3) => addR_any va vb r1 r3 W h1 h2 G1.out G3.out
  rw [show addR r1 r3 = (rxx, 0) by rw [E1.out, E3.out, hxx]; exact add_rep (small_of_bd D1.out (by decide)) (small_of_bd D3.out (by decide)) (small_of_bd Dxx.out (by decide))] at oxx
  have Oxx := Lib.hid oxx; have Exx := Lib.hid hxx
  have Lxx : Hid (LimR rxx) := Lib.hid (by rw [hxx]; exact limR_rep _)
  clear oxx hxx
  obtain ⟨ryy, hyy⟩ : ∃ r, r = rep (b + c) := ⟨_, rfl⟩
  have Dyy : Hid (bd (b + c) _) := Lib.hid (bd_add D2.out D3.out)
  have oyy := fun W va vb (h1 : RdR W va r2) (h2 : RdR W vb r3) => addR_any va vb r2 r3 W h1 h2 G2.out G3.out
  rw [show addR r2 r3 = (ryy, 0) by rw [E2.out, E3.out, hyy]; exact add_rep (small_of_bd D2.out (by decide)) (small_of_bd D3.out (by decide)) (small_of_bd Dyy.out (by decide))] at oyy
  have Oyy := Lib.hid oyy; have Eyy := Lib.hid hyy
  have Lyy : Hid (LimR ryy) := Lib.hid (by rw [hyy]; exact limR_rep _)
  clear oyy hyy
  obtain ⟨rmx, hmx⟩ : ∃ r, r = rep (a * c) := ⟨_, rfl⟩
  have Dmx : Hid (bd (a * c) _) := Lib.hid (bd_mul D1.out D3.out)
  have omx := fun W va vb (h1 : RdR W va r1) (h2 : RdR W vb r3) => mulR_any va vb r1 r3 W h1 h2 G1.out G3.out
  rw [show mulR r1 r3 = (rmx, 0) by rw [E1.out, E3.out, hmx]; exact mul_rep (small_of_bd D1.out (by decide)) (small_of_bd D3.out (by decide)) (small_of_bd Dmx.out (by decide))] at omx
  have Omx := Lib.hid omx; have Emx := Lib.hid hmx
  have Lmx : Hid (LimR rmx) := Lib.hid (by rw [hmx]; exact limR_rep _)
  clear omx hmx
  obtain ⟨rmy, hmy⟩ : ∃ r, r = rep (b * c) := ⟨_, rfl⟩
  have Dmy : Hid (bd (b * c) _) := Lib.hid (bd_mul D2.out D3.out)
  have omy := fun W va vb (h1 : RdR W va r2) (h2 : RdR W vb r3) => mulR_any va vb r2 r3 W h1 h2 G2.out G3.out
  rw [show mulR r2 r3 = (rmy, 0) by rw [E2.out, E3.out, hmy]; exact mul_rep (small_of_bd D2.out (by decide)) (small_of_bd D3.out (by decide)) (small_of_bd Dmy.out (by decide))] at omy
  have Omy := Lib.hid omy; have Emy := Lib.hid hmy
  have Lmy : Hid (LimR rmy) := Lib.hid (by rw [hmy]; exact limR_rep _)
  clear omy hmy
  obtain ⟨rpa, hpa⟩ : ∃ r, r = rep (absQ a) := ⟨_, rfl⟩
  have Dpa : Hid (bd (absQ a) _) := Lib.hid (bd_abs D1.out)
  have opa := fun W va (h1 : RdR W va r1) => absR_any va r1 W h1 G1.out
  rw [show absR r1 = (rpa, 0) by rw [E1.out, hpa]; exact abs_rep (small_of_bd D1.out (by decide))] at opa
  have Opa := Lib.hid opa; have Epa := Lib.hid hpa
  have Lpa : Hid (LimR rpa) := Lib.hid (by rw [hpa]; exact limR_rep _)
  clear opa hpa
  obtain ⟨rpb, hpb⟩ : ∃ r, r = rep (absQ b) := ⟨_, rfl⟩
  have Dpb : Hid (bd (absQ b) _) := Lib.hid (bd_abs D2.out)
  have opb := fun W va (h1 : RdR W va r2) => absR_any va r2 W h1 G2.out
  rw [show absR r2 = (rpb, 0) by rw [E2.out, hpb]; exact abs_rep (small_of_bd D2.out (by decide))] at opb
  have Opb := Lib.hid opb; have Epb := Lib.hid hpb
  have Lpb : Hid (LimR rpb) := Lib.hid (by rw [hpb]; exact limR_rep _)
  clear opb hpb
  obtain ⟨rss, hss⟩ : ∃ r, r = rep (a + b) := ⟨_, rfl⟩
  have Dss : Hid (bd (a + b) _) := Lib.hid (bd_add D1.out D2.out)
  have oss := fun W va vb (h1 : RdR W va r1) (h2 : RdR W vb r2) => addR_any va vb r1 r2 W h1 h2 G1.out G2.out
  rw [show addR r1 r2 = (rss, 0) by rw [E1.out, E2.out, hss]; exact add_rep (small_of_bd D1.out (by decide)) (small_of_bd D2.out (by decide)) (small_of_bd Dss.out (by decide))] at oss
  have Oss := Lib.hid oss; have Ess := Lib.hid hss
  have Lss : Hid (LimR rss) := Lib.hid (by rw [hss]; exact limR_rep _)
  clear oss hss
  obtain ⟨rtt, htt⟩ : ∃ r, r = rep (absQ (a + b)) := ⟨_, rfl⟩
  have Dtt : Hid (bd (absQ (a + b)) _) := Lib.hid (bd_abs Dss.out)
  have ott := fun W va (h1 : RdR W va rss) => absR_any va rss W h1 Lss.out
  rw [show absR rss = (rtt, 0) by rw [Ess.out, htt]; exact abs_rep (small_of_bd Dss.out (by decide))] at ott
  have Ott := Lib.hid ott; have Ett := Lib.hid htt
  have Ltt : Hid (LimR rtt) := Lib.hid (by rw [htt]; exact limR_rep _)
  clear ott htt
  obtain ⟨ruu, huu⟩ : ∃ r, r = rep (absQ a + absQ b) := ⟨_, rfl⟩
  have Duu : Hid (bd (absQ a + absQ b) _) := Lib.hid (bd_add Dpa.out Dpb.out)
  have ouu := fun W va vb (h1 : RdR W va rpa) (h2 : RdR W vb rpb) => addR_any va vb rpa rpb W h1 h2 Lpa.out Lpb.out
  rw [show addR rpa rpb = (ruu, 0) by rw [Epa.out, Epb.out, huu]; exact add_rep (small_of_bd Dpa.out (by decide)) (small_of_bd Dpb.out (by decide)) (small_of_bd Duu.out (by decide))] at ouu
  have Ouu := Lib.hid ouu; have Euu := Lib.hid huu
  have Luu : Hid (LimR ruu) := Lib.hid (by rw [huu]; exact limR_rep _)
  clear ouu huu
  obtain ⟨rz, hrz⟩ : ∃ r, r = rep 0 := ⟨_, rfl⟩
  have Ez := Lib.hid hrz; have Dz : Hid (bd (0 : Rat) 1) := Lib.hid ⟨by decide, by decide⟩; have Lz : Hid (LimR rz) := Lib.hid (by rw [hrz]; exact limR_rep _)
  have hrz2 : rz = zR := hrz.trans rep_zero
  have HRZ := Lib.hid hrz2
  clear hrz hrz2
  obtain ⟨c5, hc5⟩ : ∃ k, k = cmpQ (absQ (a + b)) (absQ a + absQ b) := ⟨_, rfl⟩
  have oab := fun W va vb (h1 : RdR W va r1) (h2 : RdR W vb r2) => cmpR_any va vb r1 r2 W h1 h2 G1.out G2.out
  rw [show cmpR r1 r2 = (c1, 0) by rw [E1.out, E2.out, cmp_rep (small_of_bd D1.out (by decide)) (small_of_bd D2.out (by decide)), ← hc1]] at oab
  have Oab := Lib.hid oab
  clear oab
  have oba := fun W va vb (h1 : RdR W va r2) (h2 : RdR W vb r1) => cmpR_any va vb r2 r1 W h1 h2 G2.out G1.out
  rw [show cmpR r2 r1 = (-c1, 0) by rw [E2.out, E1.out, cmp_rep (small_of_bd D2.out (by decide)) (small_of_bd D1.out (by decide)), cmpQ_swap a b, ← hc1]] at oba
  have Oba := Lib.hid oba
  clear oba
  have obc := fun W va vb (h1 : RdR W va r2) (h2 : RdR W vb r3) => cmpR_any va vb r2 r3 W h1 h2 G2.out G3.out
  rw [show cmpR r2 r3 = (c2, 0) by rw [E2.out, E3.out, cmp_rep (small_of_bd D2.out (by decide)) (small_of_bd D3.out (by decide)), ← hc2]] at obc
  have Obc := Lib.hid obc
  clear obc
  have oac := fun W va vb (h1 : RdR W va r1) (h2 : RdR W vb r3) => cmpR_any va vb r1 r3 W h1 h2 G1.out G3.out
  rw [show cmpR r1 r3 = (c3, 0) by rw [E1.out, E3.out, cmp_rep (small_of_bd D1.out (by decide)) (small_of_bd D3.out (by decide)), ← hc3]] at oac
  have Oac := Lib.hid oac
  clear oac
  have oxy := fun W va vb (h1 : RdR W va rxx) (h2 : RdR W vb ryy) => cmpR_any va vb rxx ryy W h1 h2 Lxx.out Lyy.out
  rw [show cmpR rxx ryy = (c1, 0) by rw [Exx.out, Eyy.out, cmp_rep (small_of_bd Dxx.out (by decide)) (small_of_bd Dyy.out (by decide)), cmpQ_add, ← hc1]] at oxy
  have Oxy := Lib.hid oxy
  clear oxy
  have ocz := fun W va vb (h1 : RdR W va r3) (h2 : RdR W vb rz) => cmpR_any va vb r3 rz W h1 h2 G3.out Lz.out
  rw [show cmpR r3 rz = (sg1, 0) by rw [E3.out, Ez.out, cmp_rep (small_of_bd D3.out (by decide)) (small_of_bd Dz.out (by decide)), ← hsg]] at ocz
  have Ocz := Lib.hid ocz
  clear ocz
  have omm := fun W va vb (h1 : RdR W va rmx) (h2 : RdR W vb rmy) => cmpR_any va vb rmx rmy W h1 h2 Lmx.out Lmy.out
  rw [show cmpR rmx rmy = (m1, 0) by rw [Emx.out, Emy.out, cmp_rep (small_of_bd Dmx.out (by decide)) (small_of_bd Dmy.out (by decide)), cmpQ_mul, ← hc1, ← hsg, ← hm1]] at omm
  have Omm := Lib.hid omm
  clear omm
  have otu := fun W va vb (h1 : RdR W va rtt) (h2 : RdR W vb ruu) => cmpR_any va vb rtt ruu W h1 h2 Ltt.out Luu.out
  rw [show cmpR rtt ruu = (c5, 0) by rw [Ett.out, Euu.out, cmp_rep (small_of_bd Dtt.out (by decide)) (small_of_bd Duu.out (by decide)), ← hc5]] at otu
  have Otu := Lib.hid otu
  clear otu
  have oeq := fun W va vb (h1 : RdR W va r1) (h2 : RdR W vb r2) => equalRat_any va vb r1 r2 W h1 h2
  have edq : decide (r1 = r2) = (c1 == 0) := by rw [hc1, cmpQ_zero]; exact decide_eq_decide.2 (by rw [E1.out, E2.out])
  rw [edq] at oeq
  have Oeq := Lib.hid oeq
  have b1 := cmpQ_bd a b; rw [← hc1] at b1
  have bs := cmpQ_bd c 0; rw [← hsg] at bs
  obtain ⟨b1l, b1r⟩ := b1; obtain ⟨bsl, bsr⟩ := bs
  have bm : -1 ≤ m1 ∧ m1 ≤ 1 := by
    rw [hm1]
    have k1 : c1 = -1 ∨ c1 = 0 ∨ c1 = 1 := by omega
    have k2 : sg1 = -1 ∨ sg1 = 0 ∨ sg1 = 1 := by omega
    rcases k1 with k1 | k1 | k1 <;> rcases k2 with k2 | k2 | k2 <;> rw [k1, k2] <;> decide
  have h3 : c1 = c2 → c3 = c1 := fun h => by rw [hc1, hc3]; exact cmpQ_trans (by rw [← hc1, ← hc2]; exact h)
  have b5 : ¬ (0 : Int) < c5 := by have := tri_absQ a b; rw [← hc5] at this; omega
  have H3 := Lib.hid h3; have B5 := Lib.hid b5; have HM := Lib.hid hm1; have BM := Lib.hid bm; have BS := Lib.hid (And.intro bsl bsr)
  have hfl := floor_rep (a := a) (small_of_bd D1.out (by decide))
  rw [← E1.out] at hfl
  have HFL := Lib.hid hfl
  have ofl := fun W va (h1 : RdR W va r1) => floorR_any va r1 W h1 G1.out
  obtain ⟨fl, hfq⟩ : ∃ fl, fl = floorR r1 := ⟨_, rfl⟩
  rw [← hfq] at ofl HFL
  have OFL := Lib.hid ofl
  clear oeq edq hc1 hc2 hc3 hsg hm1 hc5 bm h3 b5 hfl ofl hfq bsl bsr hz0
  have qBx := Bx.out.cell; have lBx := Bx.out.lt
  have qBy := By.out.cell; have lBy := By.out.lt
  go_wp2_with fail
  refine (Oab.out _ _ _ Nx.out Ny.out).mono ?_
  rintro e w5 ⟨rfl, hx⟩
  have Bx := Lib.hid (Bx.out.ext hx)
  have By := Lib.hid (By.out.ext hx)
  have Bz := Lib.hid (Bz.out.ext hx)
  have Nx := Lib.hid (Nx.out.ext hx)
  have Ny := Lib.hid (Ny.out.ext hx)
  have Nz := Lib.hid (Nz.out.ext hx)
  have X := Lib.hid (X.out.trans hx)
  clear qBx lBx qBy lBy
  clear hx
  dsimp only
  have qBy := By.out.cell; have lBy := By.out.lt
  have qBx := Bx.out.cell; have lBx := Bx.out.lt
  go_wp2_with fail
  refine (Oba.out _ _ _ Ny.out Nx.out).mono ?_
  rintro e w6 ⟨rfl, hx⟩
  have Bx := Lib.hid (Bx.out.ext hx)
  have By := Lib.hid (By.out.ext hx)
  have Bz := Lib.hid (Bz.out.ext hx)
  have Nx := Lib.hid (Nx.out.ext hx)
  have Ny := Lib.hid (Ny.out.ext hx)
  have Nz := Lib.hid (Nz.out.ext hx)
  have X := Lib.hid (X.out.trans hx)
  clear qBy lBy qBx lBx
  clear hx
  dsimp only
  have qBy := By.out.cell; have lBy := By.out.lt
  have qBz := Bz.out.cell; have lBz := Bz.out.lt
  go_wp2_with fail
  refine (Obc.out _ _ _ Ny.out Nz.out).mono ?_
  rintro e w7 ⟨rfl, hx⟩
  have Bx := Lib.hid (Bx.out.ext hx)
  have By := Lib.hid (By.out.ext hx)
  have Bz := Lib.hid (Bz.out.ext hx)
  have Nx := Lib.hid (Nx.out.ext hx)
  have Ny := Lib.hid (Ny.out.ext hx)
  have Nz := Lib.hid (Nz.out.ext hx)
  have X := Lib.hid (X.out.trans hx)
  clear qBy lBy qBz lBz
  clear hx
  dsimp only
  have qBx := Bx.out.cell; have lBx := Bx.out.lt
  have qBz := Bz.out.cell; have lBz := Bz.out.lt
  go_wp2_with fail
  refine (Oac.out _ _ _ Nx.out Nz.out).mono ?_
  rintro e w8 ⟨rfl, hx⟩
  have Bx := Lib.hid (Bx.out.ext hx)
  have By := Lib.hid (By.out.ext hx)
  have Bz := Lib.hid (Bz.out.ext hx)
  have Nx := Lib.hid (Nx.out.ext hx)
  have Ny := Lib.hid (Ny.out.ext hx)
  have Nz := Lib.hid (Nz.out.ext hx)
  have X := Lib.hid (X.out.trans hx)
  clear qBx lBx qBz lBz
  clear hx
  dsimp only
  have q1 : ¬ c1 < -1 := by omega
  have q2 : ¬ (1 : Int) < c1 := by omega
  have qBx := Bx.out.cell; have lBx := Bx.out.lt
  have qBy := By.out.cell; have lBy := By.out.lt
  go_wp2_with fail
  refine (Oeq.out _ _ _ Nx.out Ny.out).mono ?_
  rintro e w9 ⟨rfl, hx⟩
  have Bx := Lib.hid (Bx.out.ext hx)
  have By := Lib.hid (By.out.ext hx)
  have Bz := Lib.hid (Bz.out.ext hx)
  have Nx := Lib.hid (Nx.out.ext hx)
  have Ny := Lib.hid (Ny.out.ext hx)
  have Nz := Lib.hid (Nz.out.ext hx)
  have X := Lib.hid (X.out.trans hx)
  clear qBx lBx qBy lBy
  clear hx
  dsimp only
  have q12 : c1 = c2 ∨ ¬ c1 = c2 := Classical.em _
  have HQ := Lib.hid q12
  clear q12
  rcases HQ.out with q12 | q12
  all_goals
    first
      | (have q13 := H3.out q12; have q14 : (c1 == c2) = true := by simpa using q12)
      | (have q14 : (c1 == c2) = false := by simpa using q12)
    clear HQ H3
    first | (rw [q13]) | skip
    clear q12
    have qBx := Bx.out.cell; have lBx := Bx.out.lt
    have qBz := Bz.out.cell; have lBz := Bz.out.lt
    go_wp2_with fail
    refine (Oxx.out _ _ _ Nx.out Nz.out).mono ?_
    rintro e w10 ⟨⟨v, rfl, nn⟩, hx⟩
    have Bx := Lib.hid (Bx.out.ext hx)
    have By := Lib.hid (By.out.ext hx)
    have Bz := Lib.hid (Bz.out.ext hx)
    have Nx := Lib.hid (Nx.out.ext hx)
    have Ny := Lib.hid (Ny.out.ext hx)
    have Nz := Lib.hid (Nz.out.ext hx)
    have X := Lib.hid (X.out.trans hx)
    clear qBx lBx qBz lBz
    obtain ⟨xx1, xx2, xx3, xx4, rfl⟩ := nn.shape
    have Nxx := Lib.hid nn.rd
    clear nn hx
    dsimp only
    clear q1 q2 q14
    try clear q13
    have i1 : w.heap.size + 1 + 1 < w10.heap.size := Bz.out.lt
    have Bxx := Lib.hid (Blk.new w10 #[.bool rxx.neg, .slice xx1 rxx.num.length xx2, .slice xx3 rxx.den.length xx4] 26)
    have Bx := Lib.hid (Bx.out.ext ((Ext.refl w10).alloc (.cells #[.bool rxx.neg, .slice xx1 rxx.num.length xx2, .slice xx3 rxx.den.length xx4] 26)))
    have By := Lib.hid (By.out.ext ((Ext.refl w10).alloc (.cells #[.bool rxx.neg, .slice xx1 rxx.num.length xx2, .slice xx3 rxx.den.length xx4] 26)))
    have Bz := Lib.hid (Bz.out.ext ((Ext.refl w10).alloc (.cells #[.bool rxx.neg, .slice xx1 rxx.num.length xx2, .slice xx3 rxx.den.length xx4] 26)))
    have Nx := Lib.hid (Nx.out.ext ((Ext.refl w10).alloc (.cells #[.bool rxx.neg, .slice xx1 rxx.num.length xx2, .slice xx3 rxx.den.length xx4] 26)))
    have Ny := Lib.hid (Ny.out.ext ((Ext.refl w10).alloc (.cells #[.bool rxx.neg, .slice xx1 rxx.num.length xx2, .slice xx3 rxx.den.length xx4] 26)))
    have Nz := Lib.hid (Nz.out.ext ((Ext.refl w10).alloc (.cells #[.bool rxx.neg, .slice xx1 rxx.num.length xx2, .slice xx3 rxx.den.length xx4] 26)))
    have Nxx := Lib.hid (Nxx.out.ext ((Ext.refl w10).alloc (.cells #[.bool rxx.neg, .slice xx1 rxx.num.length xx2, .slice xx3 rxx.den.length xx4] 26)))
    have X := Lib.hid (X.out.alloc (.cells #[.bool rxx.neg, .slice xx1 rxx.num.length xx2, .slice xx3 rxx.den.length xx4] 26))
    have qBy := By.out.cell; have lBy := By.out.lt
    have qBz := Bz.out.cell; have lBz := Bz.out.lt
    go_wp2_with fail
    refine (Oyy.out _ _ _ Ny.out Nz.out).mono ?_
    rintro e w11 ⟨⟨v, rfl, nn⟩, hx⟩
    have Bx := Lib.hid (Bx.out.ext hx)
    have By := Lib.hid (By.out.ext hx)
    have Bz := Lib.hid (Bz.out.ext hx)
    have Nx := Lib.hid (Nx.out.ext hx)
    have Ny := Lib.hid (Ny.out.ext hx)
    have Nz := Lib.hid (Nz.out.ext hx)
    have Nxx := Lib.hid (Nxx.out.ext hx)
    have Bxx := Lib.hid (Bxx.out.ext hx)
    have X := Lib.hid (X.out.trans hx)
    clear qBy lBy qBz lBz
    obtain ⟨yy1, yy2, yy3, yy4, rfl⟩ := nn.shape
    have Nyy := Lib.hid nn.rd
    clear nn hx
    dsimp only
    have i2 : w10.heap.size < w11.heap.size := Bxx.out.lt
    have Byy := Lib.hid (Blk.new w11 #[.bool ryy.neg, .slice yy1 ryy.num.length yy2, .slice yy3 ryy.den.length yy4] 26)
    have Bx := Lib.hid (Bx.out.ext ((Ext.refl w11).alloc (.cells #[.bool ryy.neg, .slice yy1 ryy.num.length yy2, .slice yy3 ryy.den.length yy4] 26)))
    have By := Lib.hid (By.out.ext ((Ext.refl w11).alloc (.cells #[.bool ryy.neg, .slice yy1 ryy.num.length yy2, .slice yy3 ryy.den.length yy4] 26)))
    have Bz := Lib.hid (Bz.out.ext ((Ext.refl w11).alloc (.cells #[.bool ryy.neg, .slice yy1 ryy.num.length yy2, .slice yy3 ryy.den.length yy4] 26)))
    have Nx := Lib.hid (Nx.out.ext ((Ext.refl w11).alloc (.cells #[.bool ryy.neg, .slice yy1 ryy.num.length yy2, .slice yy3 ryy.den.length yy4] 26)))
    have Ny := Lib.hid (Ny.out.ext ((Ext.refl w11).alloc (.cells #[.bool ryy.neg, .slice yy1 ryy.num.length yy2, .slice yy3 ryy.den.length yy4] 26)))
    have Nz := Lib.hid (Nz.out.ext ((Ext.refl w11).alloc (.cells #[.bool ryy.neg, .slice yy1 ryy.num.length yy2, .slice yy3 ryy.den.length yy4] 26)))
    have Nxx := Lib.hid (Nxx.out.ext ((Ext.refl w11).alloc (.cells #[.bool ryy.neg, .slice yy1 ryy.num.length yy2, .slice yy3 ryy.den.length yy4] 26)))
    have Bxx := Lib.hid (Bxx.out.ext ((Ext.refl w11).alloc (.cells #[.bool ryy.neg, .slice yy1 ryy.num.length yy2, .slice yy3 ryy.den.length yy4] 26)))
    have Nyy := Lib.hid (Nyy.out.ext ((Ext.refl w11).alloc (.cells #[.bool ryy.neg, .slice yy1 ryy.num.length yy2, .slice yy3 ryy.den.length yy4] 26)))
    have X := Lib.hid (X.out.alloc (.cells #[.bool ryy.neg, .slice yy1 ryy.num.length yy2, .slice yy3 ryy.den.length yy4] 26))
    have qBxx := Bxx.out.cell; have lBxx := Bxx.out.lt
    have qByy := Byy.out.cell; have lByy := Byy.out.lt
    go_wp2_with fail
    refine (Oxy.out _ _ _ Nxx.out Nyy.out).mono ?_
    rintro e w12 ⟨rfl, hx⟩
    have Bx := Lib.hid (Bx.out.ext hx)
    have By := Lib.hid (By.out.ext hx)
    have Bz := Lib.hid (Bz.out.ext hx)
    have Nx := Lib.hid (Nx.out.ext hx)
    have Ny := Lib.hid (Ny.out.ext hx)
    have Nz := Lib.hid (Nz.out.ext hx)
    have Nxx := Lib.hid (Nxx.out.ext hx)
    have Bxx := Lib.hid (Bxx.out.ext hx)
    have Nyy := Lib.hid (Nyy.out.ext hx)
    have Byy := Lib.hid (Byy.out.ext hx)
    have X := Lib.hid (X.out.trans hx)
    clear qBxx lBxx qByy lByy
    clear hx
    dsimp only
    clear Nxx Nyy
    have qBz := Bz.out.cell; have lBz := Bz.out.lt
    go_wp2_with fail
    refine (Ocz.out _ _ _ Nz.out (by rw [HRZ.out]; exact (NewR.zero w _).rd)).mono ?_
    rintro e w13 ⟨rfl, hx⟩
    have Bx := Lib.hid (Bx.out.ext hx)
    have By := Lib.hid (By.out.ext hx)
    have Bz := Lib.hid (Bz.out.ext hx)
    have Nx := Lib.hid (Nx.out.ext hx)
    have Ny := Lib.hid (Ny.out.ext hx)
    have Nz := Lib.hid (Nz.out.ext hx)
    have Bxx := Lib.hid (Bxx.out.ext hx)
    have Byy := Lib.hid (Byy.out.ext hx)
    have X := Lib.hid (X.out.trans hx)
    clear qBz lBz
    clear hx
    dsimp only
    have qBx := Bx.out.cell; have lBx := Bx.out.lt
    have qBz := Bz.out.cell; have lBz := Bz.out.lt
    go_wp2_with fail
    refine (Omx.out _ _ _ Nx.out Nz.out).mono ?_
    rintro e w14 ⟨⟨v, rfl, nn⟩, hx⟩
    have Bx := Lib.hid (Bx.out.ext hx)
    have By := Lib.hid (By.out.ext hx)
    have Bz := Lib.hid (Bz.out.ext hx)
    have Nx := Lib.hid (Nx.out.ext hx)
    have Ny := Lib.hid (Ny.out.ext hx)
    have Nz := Lib.hid (Nz.out.ext hx)
    have Bxx := Lib.hid (Bxx.out.ext hx)
    have Byy := Lib.hid (Byy.out.ext hx)
    have X := Lib.hid (X.out.trans hx)
    clear qBx lBx qBz lBz
    obtain ⟨mx1, mx2, mx3, mx4, rfl⟩ := nn.shape
    have Nmx := Lib.hid nn.rd
    clear nn hx
    dsimp only
    have zs := Bxx.out
    have qs := Bxx.out.cell; have fs := Bxx.out.free; have ls := Bxx.out.lt
    have Bx := Lib.hid (((Bx.out.setOther (a := ⟨w10.heap.size, 0, none⟩) (by dsimp only; omega) (.bool rmx.neg)).setOther (a := ⟨w10.heap.size, 1, none⟩) (by dsimp only; omega) (.slice mx1 rmx.num.length mx2)).setOther (a := ⟨w10.heap.size, 2, none⟩) (by dsimp only; omega) (.slice mx3 rmx.den.length mx4))
    have By := Lib.hid (((By.out.setOther (a := ⟨w10.heap.size, 0, none⟩) (by dsimp only; omega) (.bool rmx.neg)).setOther (a := ⟨w10.heap.size, 1, none⟩) (by dsimp only; omega) (.slice mx1 rmx.num.length mx2)).setOther (a := ⟨w10.heap.size, 2, none⟩) (by dsimp only; omega) (.slice mx3 rmx.den.length mx4))
    have Bz := Lib.hid (((Bz.out.setOther (a := ⟨w10.heap.size, 0, none⟩) (by dsimp only; omega) (.bool rmx.neg)).setOther (a := ⟨w10.heap.size, 1, none⟩) (by dsimp only; omega) (.slice mx1 rmx.num.length mx2)).setOther (a := ⟨w10.heap.size, 2, none⟩) (by dsimp only; omega) (.slice mx3 rmx.den.length mx4))
    have Nx := Lib.hid (RdR.set3 Nx.out zs (by intro x hx n; rcases (by simpa using hx) with rfl | rfl | rfl <;> simp) (.bool rmx.neg) (.slice mx1 rmx.num.length mx2) (.slice mx3 rmx.den.length mx4) (by simp) (by simp))
    have Ny := Lib.hid (RdR.set3 Ny.out zs (by intro x hx n; rcases (by simpa using hx) with rfl | rfl | rfl <;> simp) (.bool rmx.neg) (.slice mx1 rmx.num.length mx2) (.slice mx3 rmx.den.length mx4) (by simp) (by simp))
    have Nz := Lib.hid (RdR.set3 Nz.out zs (by intro x hx n; rcases (by simpa using hx) with rfl | rfl | rfl <;> simp) (.bool rmx.neg) (.slice mx1 rmx.num.length mx2) (.slice mx3 rmx.den.length mx4) (by simp) (by simp))
    have Bxx : Hid (Blk ((((w14).setCell ⟨w10.heap.size, 0, none⟩ (.bool rmx.neg)).setCell ⟨w10.heap.size, 1, none⟩ (.slice mx1 rmx.num.length mx2)).setCell ⟨w10.heap.size, 2, none⟩ (.slice mx3 rmx.den.length mx4)) (w10.heap.size) #[.bool rmx.neg, .slice mx1 rmx.num.length mx2, .slice mx3 rmx.den.length mx4] 26) := Lib.hid (by have := ((zs.set 0 (.bool rmx.neg)).set 1 (.slice mx1 rmx.num.length mx2)).set 2 (.slice mx3 rmx.den.length mx4); simpa using this)
    have Byy := Lib.hid (((Byy.out.setOther (a := ⟨w10.heap.size, 0, none⟩) (by dsimp only; omega) (.bool rmx.neg)).setOther (a := ⟨w10.heap.size, 1, none⟩) (by dsimp only; omega) (.slice mx1 rmx.num.length mx2)).setOther (a := ⟨w10.heap.size, 2, none⟩) (by dsimp only; omega) (.slice mx3 rmx.den.length mx4))
    have Nmx := Lib.hid (RdR.set3 Nmx.out zs (by intro x hx n; rcases (by simpa using hx) with rfl | rfl | rfl <;> simp) (.bool rmx.neg) (.slice mx1 rmx.num.length mx2) (.slice mx3 rmx.den.length mx4) (by simp) (by simp))
    have X := Lib.hid (((X.out.set (p := ⟨w10.heap.size, 0, none⟩) (by dsimp only; omega) (.bool rmx.neg)).set (p := ⟨w10.heap.size, 1, none⟩) (by dsimp only; omega) (.slice mx1 rmx.num.length mx2)).set (p := ⟨w10.heap.size, 2, none⟩) (by dsimp only; omega) (.slice mx3 rmx.den.length mx4))
    clear zs
    have qBy := By.out.cell; have lBy := By.out.lt
    have qBz := Bz.out.cell; have lBz := Bz.out.lt
    go_wp2_with fail
    refine (Omy.out _ _ _ Ny.out Nz.out).mono ?_
    rintro e w15 ⟨⟨v, rfl, nn⟩, hx⟩
    have Bx := Lib.hid (Bx.out.ext hx)
    have By := Lib.hid (By.out.ext hx)
    have Bz := Lib.hid (Bz.out.ext hx)
    have Nx := Lib.hid (Nx.out.ext hx)
    have Ny := Lib.hid (Ny.out.ext hx)
    have Nz := Lib.hid (Nz.out.ext hx)
    have Bxx := Lib.hid (Bxx.out.ext hx)
    have Byy := Lib.hid (Byy.out.ext hx)
    have Nmx := Lib.hid (Nmx.out.ext hx)
    have X := Lib.hid (X.out.trans hx)
    clear qBy lBy qBz lBz
    obtain ⟨my1, my2, my3, my4, rfl⟩ := nn.shape
    have Nmy := Lib.hid nn.rd
    clear nn hx
    dsimp only
    clear qs fs ls
    have zs := Byy.out
    have qs := Byy.out.cell; have fs := Byy.out.free; have ls := Byy.out.lt
    have Bx := Lib.hid (((Bx.out.setOther (a := ⟨w11.heap.size, 0, none⟩) (by dsimp only; omega) (.bool rmy.neg)).setOther (a := ⟨w11.heap.size, 1, none⟩) (by dsimp only; omega) (.slice my1 rmy.num.length my2)).setOther (a := ⟨w11.heap.size, 2, none⟩) (by dsimp only; omega) (.slice my3 rmy.den.length my4))
    have By := Lib.hid (((By.out.setOther (a := ⟨w11.heap.size, 0, none⟩) (by dsimp only; omega) (.bool rmy.neg)).setOther (a := ⟨w11.heap.size, 1, none⟩) (by dsimp only; omega) (.slice my1 rmy.num.length my2)).setOther (a := ⟨w11.heap.size, 2, none⟩) (by dsimp only; omega) (.slice my3 rmy.den.length my4))
    have Bz := Lib.hid (((Bz.out.setOther (a := ⟨w11.heap.size, 0, none⟩) (by dsimp only; omega) (.bool rmy.neg)).setOther (a := ⟨w11.heap.size, 1, none⟩) (by dsimp only; omega) (.slice my1 rmy.num.length my2)).setOther (a := ⟨w11.heap.size, 2, none⟩) (by dsimp only; omega) (.slice my3 rmy.den.length my4))
    have Nx := Lib.hid (RdR.set3 Nx.out zs (by intro x hx n; rcases (by simpa using hx) with rfl | rfl | rfl <;> simp) (.bool rmy.neg) (.slice my1 rmy.num.length my2) (.slice my3 rmy.den.length my4) (by simp) (by simp))
    have Ny := Lib.hid (RdR.set3 Ny.out zs (by intro x hx n; rcases (by simpa using hx) with rfl | rfl | rfl <;> simp) (.bool rmy.neg) (.slice my1 rmy.num.length my2) (.slice my3 rmy.den.length my4) (by simp) (by simp))
    have Nz := Lib.hid (RdR.set3 Nz.out zs (by intro x hx n; rcases (by simpa using hx) with rfl | rfl | rfl <;> simp) (.bool rmy.neg) (.slice my1 rmy.num.length my2) (.slice my3 rmy.den.length my4) (by simp) (by simp))
    have Bxx := Lib.hid (((Bxx.out.setOther (a := ⟨w11.heap.size, 0, none⟩) (by dsimp only; omega) (.bool rmy.neg)).setOther (a := ⟨w11.heap.size, 1, none⟩) (by dsimp only; omega) (.slice my1 rmy.num.length my2)).setOther (a := ⟨w11.heap.size, 2, none⟩) (by dsimp only; omega) (.slice my3 rmy.den.length my4))
    have Byy : Hid (Blk ((((w15).setCell ⟨w11.heap.size, 0, none⟩ (.bool rmy.neg)).setCell ⟨w11.heap.size, 1, none⟩ (.slice my1 rmy.num.length my2)).setCell ⟨w11.heap.size, 2, none⟩ (.slice my3 rmy.den.length my4)) (w11.heap.size) #[.bool rmy.neg, .slice my1 rmy.num.length my2, .slice my3 rmy.den.length my4] 26) := Lib.hid (by have := ((zs.set 0 (.bool rmy.neg)).set 1 (.slice my1 rmy.num.length my2)).set 2 (.slice my3 rmy.den.length my4); simpa using this)
    have Nmx := Lib.hid (RdR.set3 Nmx.out zs (by intro x hx n; rcases (by simpa using hx) with rfl | rfl | rfl <;> simp) (.bool rmy.neg) (.slice my1 rmy.num.length my2) (.slice my3 rmy.den.length my4) (by simp) (by simp))
    have Nmy := Lib.hid (RdR.set3 Nmy.out zs (by intro x hx n; rcases (by simpa using hx) with rfl | rfl | rfl <;> simp) (.bool rmy.neg) (.slice my1 rmy.num.length my2) (.slice my3 rmy.den.length my4) (by simp) (by simp))
    have X := Lib.hid (((X.out.set (p := ⟨w11.heap.size, 0, none⟩) (by dsimp only; omega) (.bool rmy.neg)).set (p := ⟨w11.heap.size, 1, none⟩) (by dsimp only; omega) (.slice my1 rmy.num.length my2)).set (p := ⟨w11.heap.size, 2, none⟩) (by dsimp only; omega) (.slice my3 rmy.den.length my4))
    clear zs
    have qBxx := Bxx.out.cell; have lBxx := Bxx.out.lt
    have qByy := Byy.out.cell; have lByy := Byy.out.lt
    go_wp2_with fail
    refine (Omm.out _ _ _ Nmx.out Nmy.out).mono ?_
    rintro e w16 ⟨rfl, hx⟩
    have Bx := Lib.hid (Bx.out.ext hx)
    have By := Lib.hid (By.out.ext hx)
    have Bz := Lib.hid (Bz.out.ext hx)
    have Nx := Lib.hid (Nx.out.ext hx)
    have Ny := Lib.hid (Ny.out.ext hx)
    have Nz := Lib.hid (Nz.out.ext hx)
    have Bxx := Lib.hid (Bxx.out.ext hx)
    have Byy := Lib.hid (Byy.out.ext hx)
    have Nmx := Lib.hid (Nmx.out.ext hx)
    have Nmy := Lib.hid (Nmy.out.ext hx)
    have X := Lib.hid (X.out.trans hx)
    clear qBxx lBxx qByy lByy
    clear hx
    dsimp only
    clear qs fs ls
    have hm1 := HM.out; have bm := BM.out
    obtain ⟨bml, bmr⟩ := bm
    rw [hm1] at bml bmr
    clear Bxx Byy Nmx Nmy
    have qBx := Bx.out.cell; have lBx := Bx.out.lt
    go_wp2_with fail
    refine (Opa.out _ _ Nx.out).mono ?_
    rintro e w17 ⟨⟨v, rfl, nn⟩, hx⟩
    have Bx := Lib.hid (Bx.out.ext hx)
    have By := Lib.hid (By.out.ext hx)
    have Bz := Lib.hid (Bz.out.ext hx)
    have Nx := Lib.hid (Nx.out.ext hx)
    have Ny := Lib.hid (Ny.out.ext hx)
    have Nz := Lib.hid (Nz.out.ext hx)
    have X := Lib.hid (X.out.trans hx)
    clear qBx lBx
    obtain ⟨pa1, pa2, pa3, pa4, rfl⟩ := nn.shape
    have Npa := Lib.hid nn.rd
    clear nn hx
    dsimp only
    clear hm1 bml bmr
    have Bpa := Lib.hid (Blk.new w17 #[.bool rpa.neg, .slice pa1 rpa.num.length pa2, .slice pa3 rpa.den.length pa4] 26)
    have Bx := Lib.hid (Bx.out.ext ((Ext.refl w17).alloc (.cells #[.bool rpa.neg, .slice pa1 rpa.num.length pa2, .slice pa3 rpa.den.length pa4] 26)))
    have By := Lib.hid (By.out.ext ((Ext.refl w17).alloc (.cells #[.bool rpa.neg, .slice pa1 rpa.num.length pa2, .slice pa3 rpa.den.length pa4] 26)))
    have Bz := Lib.hid (Bz.out.ext ((Ext.refl w17).alloc (.cells #[.bool rpa.neg, .slice pa1 rpa.num.length pa2, .slice pa3 rpa.den.length pa4] 26)))
    have Nx := Lib.hid (Nx.out.ext ((Ext.refl w17).alloc (.cells #[.bool rpa.neg, .slice pa1 rpa.num.length pa2, .slice pa3 rpa.den.length pa4] 26)))
    have Ny := Lib.hid (Ny.out.ext ((Ext.refl w17).alloc (.cells #[.bool rpa.neg, .slice pa1 rpa.num.length pa2, .slice pa3 rpa.den.length pa4] 26)))
    have Nz := Lib.hid (Nz.out.ext ((Ext.refl w17).alloc (.cells #[.bool rpa.neg, .slice pa1 rpa.num.length pa2, .slice pa3 rpa.den.length pa4] 26)))
    have Npa := Lib.hid (Npa.out.ext ((Ext.refl w17).alloc (.cells #[.bool rpa.neg, .slice pa1 rpa.num.length pa2, .slice pa3 rpa.den.length pa4] 26)))
    have X := Lib.hid (X.out.alloc (.cells #[.bool rpa.neg, .slice pa1 rpa.num.length pa2, .slice pa3 rpa.den.length pa4] 26))
    have qBy := By.out.cell; have lBy := By.out.lt
    go_wp2_with fail
    refine (Opb.out _ _ Ny.out).mono ?_
    rintro e w18 ⟨⟨v, rfl, nn⟩, hx⟩
    have Bx := Lib.hid (Bx.out.ext hx)
    have By := Lib.hid (By.out.ext hx)
    have Bz := Lib.hid (Bz.out.ext hx)
    have Nx := Lib.hid (Nx.out.ext hx)
    have Ny := Lib.hid (Ny.out.ext hx)
    have Nz := Lib.hid (Nz.out.ext hx)
    have Npa := Lib.hid (Npa.out.ext hx)
    have Bpa := Lib.hid (Bpa.out.ext hx)
    have X := Lib.hid (X.out.trans hx)
    clear qBy lBy
    obtain ⟨pb1, pb2, pb3, pb4, rfl⟩ := nn.shape
    have Npb := Lib.hid nn.rd
    clear nn hx
    dsimp only
    have Bpb := Lib.hid (Blk.new w18 #[.bool rpb.neg, .slice pb1 rpb.num.length pb2, .slice pb3 rpb.den.length pb4] 26)
    have Bx := Lib.hid (Bx.out.ext ((Ext.refl w18).alloc (.cells #[.bool rpb.neg, .slice pb1 rpb.num.length pb2, .slice pb3 rpb.den.length pb4] 26)))
    have By := Lib.hid (By.out.ext ((Ext.refl w18).alloc (.cells #[.bool rpb.neg, .slice pb1 rpb.num.length pb2, .slice pb3 rpb.den.length pb4] 26)))
    have Bz := Lib.hid (Bz.out.ext ((Ext.refl w18).alloc (.cells #[.bool rpb.neg, .slice pb1 rpb.num.length pb2, .slice pb3 rpb.den.length pb4] 26)))
    have Nx := Lib.hid (Nx.out.ext ((Ext.refl w18).alloc (.cells #[.bool rpb.neg, .slice pb1 rpb.num.length pb2, .slice pb3 rpb.den.length pb4] 26)))
    have Ny := Lib.hid (Ny.out.ext ((Ext.refl w18).alloc (.cells #[.bool rpb.neg, .slice pb1 rpb.num.length pb2, .slice pb3 rpb.den.length pb4] 26)))
    have Nz := Lib.hid (Nz.out.ext ((Ext.refl w18).alloc (.cells #[.bool rpb.neg, .slice pb1 rpb.num.length pb2, .slice pb3 rpb.den.length pb4] 26)))
    have Npa := Lib.hid (Npa.out.ext ((Ext.refl w18).alloc (.cells #[.bool rpb.neg, .slice pb1 rpb.num.length pb2, .slice pb3 rpb.den.length pb4] 26)))
    have Bpa := Lib.hid (Bpa.out.ext ((Ext.refl w18).alloc (.cells #[.bool rpb.neg, .slice pb1 rpb.num.length pb2, .slice pb3 rpb.den.length pb4] 26)))
    have Npb := Lib.hid (Npb.out.ext ((Ext.refl w18).alloc (.cells #[.bool rpb.neg, .slice pb1 rpb.num.length pb2, .slice pb3 rpb.den.length pb4] 26)))
    have X := Lib.hid (X.out.alloc (.cells #[.bool rpb.neg, .slice pb1 rpb.num.length pb2, .slice pb3 rpb.den.length pb4] 26))
    have qBx := Bx.out.cell; have lBx := Bx.out.lt
    have qBy := By.out.cell; have lBy := By.out.lt
    go_wp2_with fail
    refine (Oss.out _ _ _ Nx.out Ny.out).mono ?_
    rintro e w19 ⟨⟨v, rfl, nn⟩, hx⟩
    have Bx := Lib.hid (Bx.out.ext hx)
    have By := Lib.hid (By.out.ext hx)
    have Bz := Lib.hid (Bz.out.ext hx)
    have Nx := Lib.hid (Nx.out.ext hx)
    have Ny := Lib.hid (Ny.out.ext hx)
    have Nz := Lib.hid (Nz.out.ext hx)
    have Npa := Lib.hid (Npa.out.ext hx)
    have Bpa := Lib.hid (Bpa.out.ext hx)
    have Npb := Lib.hid (Npb.out.ext hx)
    have Bpb := Lib.hid (Bpb.out.ext hx)
    have X := Lib.hid (X.out.trans hx)
    clear qBx lBx qBy lBy
    obtain ⟨ss1, ss2, ss3, ss4, rfl⟩ := nn.shape
    have Nss := Lib.hid nn.rd
    clear nn hx
    dsimp only
    have Bss := Lib.hid (Blk.new w19 #[.bool rss.neg, .slice ss1 rss.num.length ss2, .slice ss3 rss.den.length ss4] 26)
    have Bx := Lib.hid (Bx.out.ext ((Ext.refl w19).alloc (.cells #[.bool rss.neg, .slice ss1 rss.num.length ss2, .slice ss3 rss.den.length ss4] 26)))
    have By := Lib.hid (By.out.ext ((Ext.refl w19).alloc (.cells #[.bool rss.neg, .slice ss1 rss.num.length ss2, .slice ss3 rss.den.length ss4] 26)))
    have Bz := Lib.hid (Bz.out.ext ((Ext.refl w19).alloc (.cells #[.bool rss.neg, .slice ss1 rss.num.length ss2, .slice ss3 rss.den.length ss4] 26)))
    have Nx := Lib.hid (Nx.out.ext ((Ext.refl w19).alloc (.cells #[.bool rss.neg, .slice ss1 rss.num.length ss2, .slice ss3 rss.den.length ss4] 26)))
    have Ny := Lib.hid (Ny.out.ext ((Ext.refl w19).alloc (.cells #[.bool rss.neg, .slice ss1 rss.num.length ss2, .slice ss3 rss.den.length ss4] 26)))
    have Nz := Lib.hid (Nz.out.ext ((Ext.refl w19).alloc (.cells #[.bool rss.neg, .slice ss1 rss.num.length ss2, .slice ss3 rss.den.length ss4] 26)))
    have Npa := Lib.hid (Npa.out.ext ((Ext.refl w19).alloc (.cells #[.bool rss.neg, .slice ss1 rss.num.length ss2, .slice ss3 rss.den.length ss4] 26)))
    have Bpa := Lib.hid (Bpa.out.ext ((Ext.refl w19).alloc (.cells #[.bool rss.neg, .slice ss1 rss.num.length ss2, .slice ss3 rss.den.length ss4] 26)))
    have Npb := Lib.hid (Npb.out.ext ((Ext.refl w19).alloc (.cells #[.bool rss.neg, .slice ss1 rss.num.length ss2, .slice ss3 rss.den.length ss4] 26)))
    have Bpb := Lib.hid (Bpb.out.ext ((Ext.refl w19).alloc (.cells #[.bool rss.neg, .slice ss1 rss.num.length ss2, .slice ss3 rss.den.length ss4] 26)))
    have Nss := Lib.hid (Nss.out.ext ((Ext.refl w19).alloc (.cells #[.bool rss.neg, .slice ss1 rss.num.length ss2, .slice ss3 rss.den.length ss4] 26)))
    have X := Lib.hid (X.out.alloc (.cells #[.bool rss.neg, .slice ss1 rss.num.length ss2, .slice ss3 rss.den.length ss4] 26))
    have qBss := Bss.out.cell; have lBss := Bss.out.lt
    go_wp2_with fail
    refine (Ott.out _ _ Nss.out).mono ?_
    rintro e w20 ⟨⟨v, rfl, nn⟩, hx⟩
    have Bx := Lib.hid (Bx.out.ext hx)
    have By := Lib.hid (By.out.ext hx)
    have Bz := Lib.hid (Bz.out.ext hx)
    have Nx := Lib.hid (Nx.out.ext hx)
    have Ny := Lib.hid (Ny.out.ext hx)
    have Nz := Lib.hid (Nz.out.ext hx)
    have Npa := Lib.hid (Npa.out.ext hx)
    have Bpa := Lib.hid (Bpa.out.ext hx)
    have Npb := Lib.hid (Npb.out.ext hx)
    have Bpb := Lib.hid (Bpb.out.ext hx)
    have Nss := Lib.hid (Nss.out.ext hx)
    have Bss := Lib.hid (Bss.out.ext hx)
    have X := Lib.hid (X.out.trans hx)
    clear qBss lBss
    obtain ⟨tt1, tt2, tt3, tt4, rfl⟩ := nn.shape
    have Ntt := Lib.hid nn.rd
    clear nn hx
    dsimp only
    have Btt := Lib.hid (Blk.new w20 #[.bool rtt.neg, .slice tt1 rtt.num.length tt2, .slice tt3 rtt.den.length tt4] 26)
    have Bx := Lib.hid (Bx.out.ext ((Ext.refl w20).alloc (.cells #[.bool rtt.neg, .slice tt1 rtt.num.length tt2, .slice tt3 rtt.den.length tt4] 26)))
    have By := Lib.hid (By.out.ext ((Ext.refl w20).alloc (.cells #[.bool rtt.neg, .slice tt1 rtt.num.length tt2, .slice tt3 rtt.den.length tt4] 26)))
    have Bz := Lib.hid (Bz.out.ext ((Ext.refl w20).alloc (.cells #[.bool rtt.neg, .slice tt1 rtt.num.length tt2, .slice tt3 rtt.den.length tt4] 26)))
    have Nx := Lib.hid (Nx.out.ext ((Ext.refl w20).alloc (.cells #[.bool rtt.neg, .slice tt1 rtt.num.length tt2, .slice tt3 rtt.den.length tt4] 26)))
    have Ny := Lib.hid (Ny.out.ext ((Ext.refl w20).alloc (.cells #[.bool rtt.neg, .slice tt1 rtt.num.length tt2, .slice tt3 rtt.den.length tt4] 26)))
    have Nz := Lib.hid (Nz.out.ext ((Ext.refl w20).alloc (.cells #[.bool rtt.neg, .slice tt1 rtt.num.length tt2, .slice tt3 rtt.den.length tt4] 26)))
    have Npa := Lib.hid (Npa.out.ext ((Ext.refl w20).alloc (.cells #[.bool rtt.neg, .slice tt1 rtt.num.length tt2, .slice tt3 rtt.den.length tt4] 26)))
    have Bpa := Lib.hid (Bpa.out.ext ((Ext.refl w20).alloc (.cells #[.bool rtt.neg, .slice tt1 rtt.num.length tt2, .slice tt3 rtt.den.length tt4] 26)))
    have Npb := Lib.hid (Npb.out.ext ((Ext.refl w20).alloc (.cells #[.bool rtt.neg, .slice tt1 rtt.num.length tt2, .slice tt3 rtt.den.length tt4] 26)))
    have Bpb := Lib.hid (Bpb.out.ext ((Ext.refl w20).alloc (.cells #[.bool rtt.neg, .slice tt1 rtt.num.length tt2, .slice tt3 rtt.den.length tt4] 26)))
    have Nss := Lib.hid (Nss.out.ext ((Ext.refl w20).alloc (.cells #[.bool rtt.neg, .slice tt1 rtt.num.length tt2, .slice tt3 rtt.den.length tt4] 26)))
    have Bss := Lib.hid (Bss.out.ext ((Ext.refl w20).alloc (.cells #[.bool rtt.neg, .slice tt1 rtt.num.length tt2, .slice tt3 rtt.den.length tt4] 26)))
    have Ntt := Lib.hid (Ntt.out.ext ((Ext.refl w20).alloc (.cells #[.bool rtt.neg, .slice tt1 rtt.num.length tt2, .slice tt3 rtt.den.length tt4] 26)))
    have X := Lib.hid (X.out.alloc (.cells #[.bool rtt.neg, .slice tt1 rtt.num.length tt2, .slice tt3 rtt.den.length tt4] 26))
    have qBpa := Bpa.out.cell; have lBpa := Bpa.out.lt
    have qBpb := Bpb.out.cell; have lBpb := Bpb.out.lt
    go_wp2_with fail
    refine (Ouu.out _ _ _ Npa.out Npb.out).mono ?_
    rintro e w21 ⟨⟨v, rfl, nn⟩, hx⟩
    have Bx := Lib.hid (Bx.out.ext hx)
    have By := Lib.hid (By.out.ext hx)
    have Bz := Lib.hid (Bz.out.ext hx)
    have Nx := Lib.hid (Nx.out.ext hx)
    have Ny := Lib.hid (Ny.out.ext hx)
    have Nz := Lib.hid (Nz.out.ext hx)
    have Npa := Lib.hid (Npa.out.ext hx)
    have Bpa := Lib.hid (Bpa.out.ext hx)
    have Npb := Lib.hid (Npb.out.ext hx)
    have Bpb := Lib.hid (Bpb.out.ext hx)
    have Nss := Lib.hid (Nss.out.ext hx)
    have Bss := Lib.hid (Bss.out.ext hx)
    have Ntt := Lib.hid (Ntt.out.ext hx)
    have Btt := Lib.hid (Btt.out.ext hx)
    have X := Lib.hid (X.out.trans hx)
    clear qBpa lBpa qBpb lBpb
    obtain ⟨uu1, uu2, uu3, uu4, rfl⟩ := nn.shape
    have Nuu := Lib.hid nn.rd
    clear nn hx
    dsimp only
    have Buu := Lib.hid (Blk.new w21 #[.bool ruu.neg, .slice uu1 ruu.num.length uu2, .slice uu3 ruu.den.length uu4] 26)
    have Bx := Lib.hid (Bx.out.ext ((Ext.refl w21).alloc (.cells #[.bool ruu.neg, .slice uu1 ruu.num.length uu2, .slice uu3 ruu.den.length uu4] 26)))
    have By := Lib.hid (By.out.ext ((Ext.refl w21).alloc (.cells #[.bool ruu.neg, .slice uu1 ruu.num.length uu2, .slice uu3 ruu.den.length uu4] 26)))
    have Bz := Lib.hid (Bz.out.ext ((Ext.refl w21).alloc (.cells #[.bool ruu.neg, .slice uu1 ruu.num.length uu2, .slice uu3 ruu.den.length uu4] 26)))
    have Nx := Lib.hid (Nx.out.ext ((Ext.refl w21).alloc (.cells #[.bool ruu.neg, .slice uu1 ruu.num.length uu2, .slice uu3 ruu.den.length uu4] 26)))
    have Ny := Lib.hid (Ny.out.ext ((Ext.refl w21).alloc (.cells #[.bool ruu.neg, .slice uu1 ruu.num.length uu2, .slice uu3 ruu.den.length uu4] 26)))
    have Nz := Lib.hid (Nz.out.ext ((Ext.refl w21).alloc (.cells #[.bool ruu.neg, .slice uu1 ruu.num.length uu2, .slice uu3 ruu.den.length uu4] 26)))
    have Npa := Lib.hid (Npa.out.ext ((Ext.refl w21).alloc (.cells #[.bool ruu.neg, .slice uu1 ruu.num.length uu2, .slice uu3 ruu.den.length uu4] 26)))
    have Bpa := Lib.hid (Bpa.out.ext ((Ext.refl w21).alloc (.cells #[.bool ruu.neg, .slice uu1 ruu.num.length uu2, .slice uu3 ruu.den.length uu4] 26)))
    have Npb := Lib.hid (Npb.out.ext ((Ext.refl w21).alloc (.cells #[.bool ruu.neg, .slice uu1 ruu.num.length uu2, .slice uu3 ruu.den.length uu4] 26)))
    have Bpb := Lib.hid (Bpb.out.ext ((Ext.refl w21).alloc (.cells #[.bool ruu.neg, .slice uu1 ruu.num.length uu2, .slice uu3 ruu.den.length uu4] 26)))
    have Nss := Lib.hid (Nss.out.ext ((Ext.refl w21).alloc (.cells #[.bool ruu.neg, .slice uu1 ruu.num.length uu2, .slice uu3 ruu.den.length uu4] 26)))
    have Bss := Lib.hid (Bss.out.ext ((Ext.refl w21).alloc (.cells #[.bool ruu.neg, .slice uu1 ruu.num.length uu2, .slice uu3 ruu.den.length uu4] 26)))
    have Ntt := Lib.hid (Ntt.out.ext ((Ext.refl w21).alloc (.cells #[.bool ruu.neg, .slice uu1 ruu.num.length uu2, .slice uu3 ruu.den.length uu4] 26)))
    have Btt := Lib.hid (Btt.out.ext ((Ext.refl w21).alloc (.cells #[.bool ruu.neg, .slice uu1 ruu.num.length uu2, .slice uu3 ruu.den.length uu4] 26)))
    have Nuu := Lib.hid (Nuu.out.ext ((Ext.refl w21).alloc (.cells #[.bool ruu.neg, .slice uu1 ruu.num.length uu2, .slice uu3 ruu.den.length uu4] 26)))
    have X := Lib.hid (X.out.alloc (.cells #[.bool ruu.neg, .slice uu1 ruu.num.length uu2, .slice uu3 ruu.den.length uu4] 26))
    have qBtt := Btt.out.cell; have lBtt := Btt.out.lt
    have qBuu := Buu.out.cell; have lBuu := Buu.out.lt
    go_wp2_with fail
    refine (Otu.out _ _ _ Ntt.out Nuu.out).mono ?_
    rintro e w22 ⟨rfl, hx⟩
    have Bx := Lib.hid (Bx.out.ext hx)
    have By := Lib.hid (By.out.ext hx)
    have Bz := Lib.hid (Bz.out.ext hx)
    have Nx := Lib.hid (Nx.out.ext hx)
    have Ny := Lib.hid (Ny.out.ext hx)
    have Nz := Lib.hid (Nz.out.ext hx)
    have Npa := Lib.hid (Npa.out.ext hx)
    have Bpa := Lib.hid (Bpa.out.ext hx)
    have Npb := Lib.hid (Npb.out.ext hx)
    have Bpb := Lib.hid (Bpb.out.ext hx)
    have Nss := Lib.hid (Nss.out.ext hx)
    have Bss := Lib.hid (Bss.out.ext hx)
    have Ntt := Lib.hid (Ntt.out.ext hx)
    have Btt := Lib.hid (Btt.out.ext hx)
    have Nuu := Lib.hid (Nuu.out.ext hx)
    have Buu := Lib.hid (Buu.out.ext hx)
    have X := Lib.hid (X.out.trans hx)
    clear qBtt lBtt qBuu lBuu
    clear hx
    dsimp only
    have b5 := B5.out
    clear Bpa Npa Bpb Npb Bss Nss Btt Ntt Buu Nuu
    have qBx := Bx.out.cell; have lBx := Bx.out.lt
    go_wp2_with fail
    refine (OFL.out _ _ Nx.out).mono ?_
    rintro e w23 ⟨rfl, hx⟩
    have Bx := Lib.hid (Bx.out.ext hx)
    have By := Lib.hid (By.out.ext hx)
    have Bz := Lib.hid (Bz.out.ext hx)
    have Nx := Lib.hid (Nx.out.ext hx)
    have Ny := Lib.hid (Ny.out.ext hx)
    have Nz := Lib.hid (Nz.out.ext hx)
    have X := Lib.hid (X.out.trans hx)
    clear qBx lBx
    clear hx
    dsimp only
    clear b5
    have hfl := HFL.out
    rcases hfl with rfl | ⟨hf, fl0, fl1⟩
    case inl =>
      dsimp only
      go_wp2_with fail
      go_ret
      exact ⟨rfl, X.out⟩
    obtain ⟨k, hk⟩ : ∃ k, k = a.floor := ⟨_, rfl⟩
    have hcf := cmp_floor a
    rw [← hk] at hf fl0 fl1 hcf
    subst hf
    dsimp only
    by_cases hmax : k = 9223372036854775807
    case pos =>
      have q1 : (k == 9223372036854775807) = true := by simpa using hmax
      clear hmax
      go_wp2_with fail
      go_ret
      exact ⟨rfl, X.out⟩
    have q1 : (k == 9223372036854775807) = false := by simpa using hmax
    have fl2 : k + 1 ≤ 9223372036854775807 := by omega
    have fl3 : -9223372036854775808 ≤ k + 1 := by omega
    obtain ⟨rk, hrk⟩ : ∃ r, r = rep ((k : Int) : Rat) := ⟨_, rfl⟩
    obtain ⟨rk1, hrk1⟩ : ∃ r, r = rep ((k + 1 : Int) : Rat) := ⟨_, rfl⟩
    obtain ⟨lo, hlo⟩ : ∃ q, q = cmpQ (k : Rat) a := ⟨_, rfl⟩
    have of1 := fun W => fromR_any k W fl0 fl1
    have of2 : ∀ (W : World) (z : Int), z = k + 1 → Calls Try.prog 14 #[.int .i64 z] W fun e w' => (∃ v, e = .returned v ∧ NewR W w' v (rep ((k + 1 : Int) : Rat))) ∧ Ext W w' := fun W z hz => by subst hz; exact fromR_any (k + 1) W fl3 fl2
    rw [← hrk] at of1; rw [← hrk1] at of2
    have ol := fun W va vb (h1 : RdR W va rk) (h2 : RdR W vb r1) => cmpR_any va vb rk r1 W h1 h2 (by rw [hrk]; exact limR_rep _) G1.out
    rw [show cmpR rk r1 = (lo, 0) by rw [hrk, E1.out, cmp_rep (small_int fl0 fl1) (small_of_bd D1.out (by decide)), ← hlo]] at ol
    have oh := fun W va vb (h1 : RdR W va r1) (h2 : RdR W vb rk1) => cmpR_any va vb r1 rk1 W h1 h2 G1.out (by rw [hrk1]; exact limR_rep _)
    rw [show cmpR r1 rk1 = (-1, 0) by rw [hrk1, E1.out, cmp_rep (small_of_bd D1.out (by decide)) (small_int fl3 fl2), hcf.2]] at oh
    have hlo0 : lo ≤ 0 := by rw [hlo]; exact hcf.1
    have OF1 := Lib.hid of1; have OF2 := Lib.hid of2; have OL := Lib.hid ol; have OH := Lib.hid oh; have HLO := Lib.hid hlo0
    clear of1 of2 ol oh hlo0 hcf hlo hrk hrk1 hk hmax
    have qx := Bx.out.cell; have lx := Bx.out.lt
    go_wp2_with fail
    have hmx : Try.prog.follows .mixedOrders = true := by kernel_rfl
    go_region_held3 (fun W => Blk W w.heap.size #[.bool r1.neg, .slice x1 r1.num.length x2, .slice x3 r1.den.length x4] 26 ∧ W.cell? ⟨w.heap.size, 0, none⟩ = some (.bool r1.neg) ∧ W.cell? ⟨w.heap.size, 1, none⟩ = some (.slice x1 r1.num.length x2) ∧ W.cell? ⟨w.heap.size, 2, none⟩ = some (.slice x3 r1.den.length x4))
      ((refine Blk.s3 ?_; (repeat (first | exact Bx.out | exact k4 | exact k5 | refine Blk.alloc ?_ _ | refine Blk.drew ?_))))
      (first | (go_at_call 14; refine (OF1.out _).mono ?_; rintro e W4 ⟨⟨v, rfl, nn⟩, hx4⟩; obtain ⟨kk1, kk2, kk3, kk4, rfl⟩ := nn.shape; have e4 : Ext w23 W4 := Ext.trans (by (repeat (first | (with_reducible exact Ext.refl _) | (with_reducible assumption) | (with_reducible refine Ext.alloc ?_ _) | ((with_reducible refine Ext.setp ?_ ?_); focus (dsimp only; omega)) | (with_reducible refine Ext.drew ?_) | (with_reducible refine Ext.drewN ?_ _) | (with_reducible refine Ext.trans ?_ (by assumption))))) hx4; have k4 := Bx.out.ext e4; have N4 := Lib.hid nn.rd; have X4 := Lib.hid (X.out.trans e4); have N5 := Lib.hid (Nx.out.ext e4); clear nn) | (go_at_call 29; refine (OL.out _ _ _ (N4.out.ext (by (repeat (first | (with_reducible exact Ext.refl _) | (with_reducible assumption) | (with_reducible refine Ext.alloc ?_ _) | ((with_reducible refine Ext.setp ?_ ?_); focus (dsimp only; omega)) | (with_reducible refine Ext.drew ?_) | (with_reducible refine Ext.drewN ?_ _) | (with_reducible refine Ext.trans ?_ (by assumption)))))) (N5.out.ext (by (repeat (first | (with_reducible exact Ext.refl _) | (with_reducible assumption) | (with_reducible refine Ext.alloc ?_ _) | ((with_reducible refine Ext.setp ?_ ?_); focus (dsimp only; omega)) | (with_reducible refine Ext.drew ?_) | (with_reducible refine Ext.drewN ?_ _) | (with_reducible refine Ext.trans ?_ (by assumption))))))).mono ?_; rintro e W5 ⟨rfl, hx5⟩; have k5 := k4.ext hx5; have X5 := Lib.hid (X4.out.trans hx5); have N6 := Lib.hid (N5.out.ext hx5)))
    have BB := Lib.hid k5
    clear qx lx k4 k5
    have qx := BB.out.cell; have lx := BB.out.lt
    go_wp2_with fail
    go_region_held3 (fun W => Blk W w.heap.size #[.bool r1.neg, .slice x1 r1.num.length x2, .slice x3 r1.den.length x4] 26 ∧ W.cell? ⟨w.heap.size, 0, none⟩ = some (.bool r1.neg) ∧ W.cell? ⟨w.heap.size, 1, none⟩ = some (.slice x1 r1.num.length x2) ∧ W.cell? ⟨w.heap.size, 2, none⟩ = some (.slice x3 r1.den.length x4))
      ((refine Blk.s3 ?_; (repeat (first | exact BB.out | exact k6 | exact k7 | refine Blk.alloc ?_ _ | refine Blk.drew ?_))))
      (first | (go_at_call 29; refine (OH.out _ _ _ (N8.out.ext (by (repeat (first | (with_reducible exact Ext.refl _) | (with_reducible assumption) | (with_reducible refine Ext.alloc ?_ _) | ((with_reducible refine Ext.setp ?_ ?_); focus (dsimp only; omega)) | (with_reducible refine Ext.drew ?_) | (with_reducible refine Ext.drewN ?_ _) | (with_reducible refine Ext.trans ?_ (by assumption)))))) (N7.out.ext (by (repeat (first | (with_reducible exact Ext.refl _) | (with_reducible assumption) | (with_reducible refine Ext.alloc ?_ _) | ((with_reducible refine Ext.setp ?_ ?_); focus (dsimp only; omega)) | (with_reducible refine Ext.drew ?_) | (with_reducible refine Ext.drewN ?_ _) | (with_reducible refine Ext.trans ?_ (by assumption))))))).mono ?_; rintro e W7 ⟨rfl, hx7⟩; have k7 := k6.ext hx7; have X7 := Lib.hid (X6.out.trans hx7)) | (go_at_call 14; refine (OF2.out _ _ (by first | rfl | omega | (simp [IntKind.wrap, IntKind.signed, IntKind.bits]; omega))).mono ?_; rintro e W6 ⟨⟨v, rfl, nn⟩, hx6⟩; obtain ⟨kl1, kl2, kl3, kl4, rfl⟩ := nn.shape; have e6 : Ext W5 W6 := Ext.trans (by (repeat (first | (with_reducible exact Ext.refl _) | (with_reducible assumption) | (with_reducible refine Ext.alloc ?_ _) | ((with_reducible refine Ext.setp ?_ ?_); focus (dsimp only; omega)) | (with_reducible refine Ext.drew ?_) | (with_reducible refine Ext.drewN ?_ _) | (with_reducible refine Ext.trans ?_ (by assumption))))) hx6; have k6 := BB.out.ext e6; have N7 := Lib.hid nn.rd; have X6 := Lib.hid (X5.out.trans e6); have N8 := Lib.hid (N6.out.ext e6); clear nn))
    clear qx lx k6 k7
    have hlo := HLO.out
    go_wp2_with fail
    go_ret
    exact ⟨rfl, X7.out⟩

end Go.Proofs.Ytebdmmlniohhgaa
