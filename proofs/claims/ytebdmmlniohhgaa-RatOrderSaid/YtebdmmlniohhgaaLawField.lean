/- Walk of the law RatField: it returns true (written by mkfield.py). Conditions: three api.Rats whose slices read as limbs. -/
import Derived.Test.YtebdmmlniohhgaaRatP
namespace Go.Proofs.Ytebdmmlniohhgaa
set_option linter.unusedSimpArgs false
set_option linter.unusedVariables false
open Go.RowKit

theorem equalOK_any (v1 v2 : Value) (r1 r2 : RR) (e : r1 = r2) (w : World) (h1 : RdR w v1 r1) (h2 : RdR w v2 r2) :
    Calls Try.prog 21 #[v1, .int .i64 0, v2, .int .i64 0] w fun e w' => e = .returned (.bool true) ∧ Ext w w' := by
  have := equalR_any v1 v2 r1 r2 0 0 w h1 h2
  rwa [decide_eq_true ⟨rfl, rfl, e⟩] at this

/-- Three arguments. -/
theorem long63_any (b1 b2 b3 : Bool) (x1 x3 y1 y3 z1 z3 : Option Addr) (n1 n2 n3 m1 m2 m3 x2 x4 y2 y4 z2 z4 : Nat) (W : World) (n : Nat) (hn : W.heap.size = n) :
    Calls Try.prog 19 #[.slice (some ⟨n, 0, none⟩) 3 3] (W.alloc (.cells #[.bool b1, .slice x1 n1 x2, .slice x3 m1 x4, .bool b2, .slice y1 n2 y2, .slice y3 m2 y4, .bool b3, .slice z1 n3 z2, .slice z3 m3 z4] 26)) fun e w' =>
      (∃ r, e = .returned (.bool r) ∧ (r = false → (okLen n1 ∧ okLen m1) ∧ (okLen n2 ∧ okLen m2) ∧ (okLen n3 ∧ okLen m3))) ∧ Ext W w' := by
  subst hn
  have hb := Blk.new W #[.bool b1, .slice x1 n1 x2, .slice x3 m1 x4, .bool b2, .slice y1 n2 y2, .slice y3 m2 y4, .bool b3, .slice z1 n3 z2, .slice z3 m3 z4] 26
  refine (long6_any W.heap.size [((x1, n1, x2), (x3, m1, x4)), ((y1, n2, y2), (y3, m2, y4)), ((z1, n3, z2), (z3, m3, z4))] _ (by simp) (fun i hi => ?_)).mono ?_
  · match i, hi with
    | 0, _ => exact ⟨(hb.cell 1).trans rfl, (hb.cell 2).trans rfl⟩
    | 1, _ => exact ⟨(hb.cell 4).trans rfl, (hb.cell 5).trans rfl⟩
    | 2, _ => exact ⟨(hb.cell 7).trans rfl, (hb.cell 8).trans rfl⟩
  · rintro e w' ⟨⟨r, h, hr⟩, hx⟩
    exact ⟨⟨r, h, fun e => ⟨hr e 0 (by simp), hr e 1 (by simp), hr e 2 (by simp)⟩⟩, ((Ext.refl W).alloc _).trans hx⟩

set_option maxRecDepth 100000 in
set_option maxHeartbeats 8000000 in
theorem field_any (v1 v2 v3 : Value) (r1 r2 r3 : RR) (w : World) (h1 : RdR w v1 r1) (h2 : RdR w v2 r2) (h3 : RdR w v3 r3) (g1 : LimR r1) (g2 : LimR r2) (g3 : LimR r3) :
    Calls Try.prog 5 #[v1, v2, v3] w fun en w' => en = .returned (.bool true) ∧ Ext w w' := by
  obtain ⟨x1, x2, x3, x4, rfl⟩ := h1.shape
  obtain ⟨y1, y2, y3, y4, rfl⟩ := h2.shape
  obtain ⟨z1, z2, z3, z4, rfl⟩ := h3.shape
  have Nx := Lib.hid h1; have G1 := Lib.hid g1
  have Ny := Lib.hid h2; have G2 := Lib.hid g2
  have Nz := Lib.hid h3; have G3 := Lib.hid g3
  clear h1 h2 h3 g1 g2 g3
  have bx := ((Blk.new w #[.bool r1.neg, .slice x1 r1.num.length x2, .slice x3 r1.den.length x4] 26).alloc (.cells #[.bool r2.neg, .slice y1 r2.num.length y2, .slice y3 r2.den.length y4] 26)).alloc (.cells #[.bool r3.neg, .slice z1 r3.num.length z2, .slice z3 r3.den.length z4] 26)
  have by' := (Blk.new (w.alloc (.cells #[.bool r1.neg, .slice x1 r1.num.length x2, .slice x3 r1.den.length x4] 26)) #[.bool r2.neg, .slice y1 r2.num.length y2, .slice y3 r2.den.length y4] 26).alloc (.cells #[.bool r3.neg, .slice z1 r3.num.length z2, .slice z3 r3.den.length z4] 26)
  have bz := Blk.new ((w.alloc (.cells #[.bool r1.neg, .slice x1 r1.num.length x2, .slice x3 r1.den.length x4] 26)).alloc (.cells #[.bool r2.neg, .slice y1 r2.num.length y2, .slice y3 r2.den.length y4] 26)) #[.bool r3.neg, .slice z1 r3.num.length z2, .slice z3 r3.den.length z4] 26
  rw [World.size_alloc] at by'
  rw [World.size_alloc, World.size_alloc] at bz
  have x0 : Ext w (((w.alloc (.cells #[.bool r1.neg, .slice x1 r1.num.length x2, .slice x3 r1.den.length x4] 26)).alloc (.cells #[.bool r2.neg, .slice y1 r2.num.length y2, .slice y3 r2.den.length y4] 26)).alloc (.cells #[.bool r3.neg, .slice z1 r3.num.length z2, .slice z3 r3.den.length z4] 26)) := (((Ext.refl w).alloc _).alloc _).alloc _
  have Bx := Lib.hid bx; have By := Lib.hid by'; have Bz := Lib.hid bz; have X := Lib.hid x0; have Nx := Lib.hid (Nx.out.ext x0); have Ny := Lib.hid (Ny.out.ext x0); have Nz := Lib.hid (Nz.out.ext x0)
  clear bx by' bz x0
  have ha1 := fun W h => checkR_any (.agg #[.bool r1.neg, .slice x1 r1.num.length x2, .slice x3 r1.den.length x4]) r1 W h G1.out
  have ha2 := fun W h => checkR_any (.agg #[.bool r2.neg, .slice y1 r2.num.length y2, .slice y3 r2.den.length y4]) r2 W h G2.out
  have ha3 := fun W h => checkR_any (.agg #[.bool r3.neg, .slice z1 r3.num.length z2, .slice z3 r3.den.length z4]) r3 W h G3.out
  obtain ⟨k1, hk1⟩ : ∃ k1, k1 = chkR r1 := ⟨_, rfl⟩
  obtain ⟨k2, hk2⟩ : ∃ k2, k2 = chkR r2 := ⟨_, rfl⟩
  obtain ⟨k3, hk3⟩ : ∃ k3, k3 = chkR r3 := ⟨_, rfl⟩
  rw [← hk1] at ha1; rw [← hk2] at ha2; rw [← hk3] at ha3
  have CA1 := Lib.hid ha1; have CA2 := Lib.hid ha2; have CA3 := Lib.hid ha3; have HK1 := Lib.hid hk1; have HK2 := Lib.hid hk2; have HK3 := Lib.hid hk3
  clear ha1 ha2 ha3 hk1 hk2 hk3
  go_enter Try.func5, Try.ntmps5
  have qBx := Bx.out.cell; have lBx := Bx.out.lt
  have qBy := By.out.cell; have lBy := By.out.lt
  have qBz := Bz.out.cell; have lBz := Bz.out.lt
  go_wp2_with fail
  refine (long63_any r1.neg r2.neg r3.neg x1 x3 y1 y3 z1 z3 r1.num.length r2.num.length r3.num.length r1.den.length r2.den.length r3.den.length x2 x4 y2 y4 z2 z4 (((w.alloc (.cells #[.bool r1.neg, .slice x1 r1.num.length x2, .slice x3 r1.den.length x4] 26)).alloc (.cells #[.bool r2.neg, .slice y1 r2.num.length y2, .slice y3 r2.den.length y4] 26)).alloc (.cells #[.bool r3.neg, .slice z1 r3.num.length z2, .slice z3 r3.den.length z4] 26)) (w.heap.size + 1 + 1 + 1) (by simp)).mono ?_
  rintro e w0 ⟨⟨rl, rfl, hr⟩, hx⟩
  have Bx := Lib.hid (Bx.out.ext hx)
  have By := Lib.hid (By.out.ext hx)
  have Bz := Lib.hid (Bz.out.ext hx)
  have Nx := Lib.hid (Nx.out.ext hx)
  have Ny := Lib.hid (Ny.out.ext hx)
  have Nz := Lib.hid (Nz.out.ext hx)
  have X := Lib.hid (X.out.trans hx)
  clear qBx lBx qBy lBy qBz lBz
  clear hx
  cases rl
  case true =>
    clear hr
    go_wp2_with fail
    refine (awake6_any _).mono ?_
    rintro e wz ⟨rfl, hx⟩
    have X := Lib.hid (X.out.trans hx)
    clear hx
    go_wp2_with fail
    go_ret
    exact ⟨rfl, X.out⟩
  have HL := Lib.hid (hr rfl)
  clear hr
  go_wp2_with fail
  refine (awake6_any _).mono ?_
  rintro e w1 ⟨rfl, hx⟩
  have Bx := Lib.hid (Bx.out.ext hx)
  have By := Lib.hid (By.out.ext hx)
  have Bz := Lib.hid (Bz.out.ext hx)
  have Nx := Lib.hid (Nx.out.ext hx)
  have Ny := Lib.hid (Ny.out.ext hx)
  have Nz := Lib.hid (Nz.out.ext hx)
  have X := Lib.hid (X.out.trans hx)
  clear hx
  dsimp only
  have qBx := Bx.out.cell; have lBx := Bx.out.lt
  go_wp2_with fail
  refine (CA1.out _ Nx.out).mono ?_
  rintro e w2 ⟨rfl, hx⟩
  have Bx := Lib.hid (Bx.out.ext hx)
  have By := Lib.hid (By.out.ext hx)
  have Bz := Lib.hid (Bz.out.ext hx)
  have Nx := Lib.hid (Nx.out.ext hx)
  have Ny := Lib.hid (Ny.out.ext hx)
  have Nz := Lib.hid (Nz.out.ext hx)
  have X := Lib.hid (X.out.trans hx)
  clear qBx lBx
  clear hx
  dsimp only
  by_cases hc1 : k1 = 0
  case neg =>
    have hb1 : (k1 != 0) = true := by simpa using hc1
    clear hc1
    go_wp2_with fail
    refine (awake6_any _).mono ?_
    rintro e wz ⟨rfl, hx⟩
    have X := Lib.hid (X.out.trans hx)
    clear hx
    go_wp2_with fail
    go_ret
    exact ⟨rfl, X.out⟩
  have K1 := HK1.out.symm.trans hc1
  subst hc1
  have qBy := By.out.cell; have lBy := By.out.lt
  go_wp2_with fail
  refine (CA2.out _ Ny.out).mono ?_
  rintro e w3 ⟨rfl, hx⟩
  have Bx := Lib.hid (Bx.out.ext hx)
  have By := Lib.hid (By.out.ext hx)
  have Bz := Lib.hid (Bz.out.ext hx)
  have Nx := Lib.hid (Nx.out.ext hx)
  have Ny := Lib.hid (Ny.out.ext hx)
  have Nz := Lib.hid (Nz.out.ext hx)
  have X := Lib.hid (X.out.trans hx)
  clear qBy lBy
  clear hx
  dsimp only
  by_cases hc2 : k2 = 0
  case neg =>
    have hb2 : (k2 != 0) = true := by simpa using hc2
    clear hc2
    go_wp2_with fail
    refine (awake6_any _).mono ?_
    rintro e wz ⟨rfl, hx⟩
    have X := Lib.hid (X.out.trans hx)
    clear hx
    go_wp2_with fail
    go_ret
    exact ⟨rfl, X.out⟩
  have K2 := HK2.out.symm.trans hc2
  subst hc2
  have qBz := Bz.out.cell; have lBz := Bz.out.lt
  go_wp2_with fail
  refine (CA3.out _ Nz.out).mono ?_
  rintro e w4 ⟨rfl, hx⟩
  have Bx := Lib.hid (Bx.out.ext hx)
  have By := Lib.hid (By.out.ext hx)
  have Bz := Lib.hid (Bz.out.ext hx)
  have Nx := Lib.hid (Nx.out.ext hx)
  have Ny := Lib.hid (Ny.out.ext hx)
  have Nz := Lib.hid (Nz.out.ext hx)
  have X := Lib.hid (X.out.trans hx)
  clear qBz lBz
  clear hx
  dsimp only
  by_cases hc3 : k3 = 0
  case neg =>
    have hb3 : (k3 != 0) = true := by simpa using hc3
    clear hc3
    go_wp2_with fail
    refine (awake6_any _).mono ?_
    rintro e wz ⟨rfl, hx⟩
    have X := Lib.hid (X.out.trans hx)
    clear hx
    go_wp2_with fail
    go_ret
    exact ⟨rfl, X.out⟩
  have K3 := HK3.out.symm.trans hc3
  subst hc3
  obtain ⟨⟨u1, u2⟩, ⟨u3, u4⟩, u5, u6⟩ := HL.out
  have d1 := bd_valid G1.out K1 u1 u2
  have e1 := (valid_rep G1.out K1).2.2.symm
  have d2 := bd_valid G2.out K2 u3 u4
  have e2 := (valid_rep G2.out K2).2.2.symm
  have d3 := bd_valid G3.out K3 u5 u6
  have e3 := (valid_rep G3.out K3).2.2.symm
  obtain ⟨a, ha⟩ : ∃ a, a = qv r1 := ⟨_, rfl⟩
  obtain ⟨b, hb⟩ : ∃ b, b = qv r2 := ⟨_, rfl⟩
  obtain ⟨c, hc⟩ : ∃ c, c = qv r3 := ⟨_, rfl⟩
  rw [← ha] at d1 e1; rw [← hb] at d2 e2; rw [← hc] at d3 e3
  have E1 := Lib.hid e1; have E2 := Lib.hid e2; have E3 := Lib.hid e3; have D1 := Lib.hid d1; have D2 := Lib.hid d2; have D3 := Lib.hid d3
  clear ha hb hc u1 u2 u3 u4 u5 u6 d1 d2 d3 e1 e2 e3 K1 K2 K3 HL
  obtain ⟨rab, hab⟩ : ∃ r, r = rep (a + b) := ⟨_, rfl⟩
  have Dab : Hid (bd (a + b) _) := Lib.hid (bd_add D1.out D2.out)
  have oab := fun W va vb (h1 : RdR W va r1) (h2 : RdR W vb r2) => addR_any va vb r1 r2 W h1 h2 G1.out G2.out
  rw [show addR r1 r2 = (rab, 0) by rw [E1.out, E2.out, hab]; exact add_rep (small_of_bd D1.out (by decide)) (small_of_bd D2.out (by decide)) (small_of_bd Dab.out (by decide))] at oab
  have Oab := Lib.hid oab; have Eab := Lib.hid hab
  have Lab : Hid (LimR rab) := Lib.hid (by rw [hab]; exact limR_rep _)
  clear oab hab
  obtain ⟨rba, hba⟩ : ∃ r, r = rep (b + a) := ⟨_, rfl⟩
  have Dba : Hid (bd (b + a) _) := Lib.hid (bd_add D2.out D1.out)
  have oba := fun W va vb (h1 : RdR W va r2) (h2 : RdR W vb r1) => addR_any va vb r2 r1 W h1 h2 G2.out G1.out
  rw [show addR r2 r1 = (rba, 0) by rw [E2.out, E1.out, hba]; exact add_rep (small_of_bd D2.out (by decide)) (small_of_bd D1.out (by decide)) (small_of_bd Dba.out (by decide))] at oba
  have Oba := Lib.hid oba; have Eba := Lib.hid hba
  have Lba : Hid (LimR rba) := Lib.hid (by rw [hba]; exact limR_rep _)
  clear oba hba
  obtain ⟨rbc, hbc⟩ : ∃ r, r = rep (b + c) := ⟨_, rfl⟩
  have Dbc : Hid (bd (b + c) _) := Lib.hid (bd_add D2.out D3.out)
  have obc := fun W va vb (h1 : RdR W va r2) (h2 : RdR W vb r3) => addR_any va vb r2 r3 W h1 h2 G2.out G3.out
  rw [show addR r2 r3 = (rbc, 0) by rw [E2.out, E3.out, hbc]; exact add_rep (small_of_bd D2.out (by decide)) (small_of_bd D3.out (by decide)) (small_of_bd Dbc.out (by decide))] at obc
  have Obc := Lib.hid obc; have Ebc := Lib.hid hbc
  have Lbc : Hid (LimR rbc) := Lib.hid (by rw [hbc]; exact limR_rep _)
  clear obc hbc
  obtain ⟨rle, hle⟩ : ∃ r, r = rep (a + b + c) := ⟨_, rfl⟩
  have Dle : Hid (bd (a + b + c) _) := Lib.hid (bd_add Dab.out D3.out)
  have ole := fun W va vb (h1 : RdR W va rab) (h2 : RdR W vb r3) => addR_any va vb rab r3 W h1 h2 Lab.out G3.out
  rw [show addR rab r3 = (rle, 0) by rw [Eab.out, E3.out, hle]; exact add_rep (small_of_bd Dab.out (by decide)) (small_of_bd D3.out (by decide)) (small_of_bd Dle.out (by decide))] at ole
  have Ole := Lib.hid ole; have Ele := Lib.hid hle
  have Lle : Hid (LimR rle) := Lib.hid (by rw [hle]; exact limR_rep _)
  clear ole hle
  obtain ⟨rri, hri⟩ : ∃ r, r = rep (a + (b + c)) := ⟨_, rfl⟩
  have Dri : Hid (bd (a + (b + c)) _) := Lib.hid (bd_add D1.out Dbc.out)
  have ori := fun W va vb (h1 : RdR W va r1) (h2 : RdR W vb rbc) => addR_any va vb r1 rbc W h1 h2 G1.out Lbc.out
  rw [show addR r1 rbc = (rri, 0) by rw [E1.out, Ebc.out, hri]; exact add_rep (small_of_bd D1.out (by decide)) (small_of_bd Dbc.out (by decide)) (small_of_bd Dri.out (by decide))] at ori
  have Ori := Lib.hid ori; have Eri := Lib.hid hri
  have Lri : Hid (LimR rri) := Lib.hid (by rw [hri]; exact limR_rep _)
  clear ori hri
  obtain ⟨rbk, hbk⟩ : ∃ r, r = rep (a + b - b) := ⟨_, rfl⟩
  have Dbk : Hid (bd (a + b - b) _) := Lib.hid (bd_sub Dab.out D2.out)
  have obk := fun W va vb (h1 : RdR W va rab) (h2 : RdR W vb r2) => subR_any va vb rab r2 W h1 h2 Lab.out G2.out
  rw [show subR rab r2 = (rbk, 0) by rw [Eab.out, E2.out, hbk]; exact sub_rep (small_of_bd Dab.out (by decide)) (small_of_bd D2.out (by decide)) (small_of_bd Dbk.out (by decide))] at obk
  have Obk := Lib.hid obk; have Ebk := Lib.hid hbk
  have Lbk : Hid (LimR rbk) := Lib.hid (by rw [hbk]; exact limR_rep _)
  clear obk hbk
  obtain ⟨rp, hp⟩ : ∃ r, r = rep (a * b) := ⟨_, rfl⟩
  have Dp : Hid (bd (a * b) _) := Lib.hid (bd_mul D1.out D2.out)
  have op := fun W va vb (h1 : RdR W va r1) (h2 : RdR W vb r2) => mulR_any va vb r1 r2 W h1 h2 G1.out G2.out
  rw [show mulR r1 r2 = (rp, 0) by rw [E1.out, E2.out, hp]; exact mul_rep (small_of_bd D1.out (by decide)) (small_of_bd D2.out (by decide)) (small_of_bd Dp.out (by decide))] at op
  have Op := Lib.hid op; have Ep := Lib.hid hp
  have Lp : Hid (LimR rp) := Lib.hid (by rw [hp]; exact limR_rep _)
  clear op hp
  obtain ⟨rq, hq⟩ : ∃ r, r = rep (b * a) := ⟨_, rfl⟩
  have Dq : Hid (bd (b * a) _) := Lib.hid (bd_mul D2.out D1.out)
  have oq := fun W va vb (h1 : RdR W va r2) (h2 : RdR W vb r1) => mulR_any va vb r2 r1 W h1 h2 G2.out G1.out
  rw [show mulR r2 r1 = (rq, 0) by rw [E2.out, E1.out, hq]; exact mul_rep (small_of_bd D2.out (by decide)) (small_of_bd D1.out (by decide)) (small_of_bd Dq.out (by decide))] at oq
  have Oq := Lib.hid oq; have Eq := Lib.hid hq
  have Lq : Hid (LimR rq) := Lib.hid (by rw [hq]; exact limR_rep _)
  clear oq hq
  obtain ⟨rmb, hmb⟩ : ∃ r, r = rep (b * c) := ⟨_, rfl⟩
  have Dmb : Hid (bd (b * c) _) := Lib.hid (bd_mul D2.out D3.out)
  have omb := fun W va vb (h1 : RdR W va r2) (h2 : RdR W vb r3) => mulR_any va vb r2 r3 W h1 h2 G2.out G3.out
  rw [show mulR r2 r3 = (rmb, 0) by rw [E2.out, E3.out, hmb]; exact mul_rep (small_of_bd D2.out (by decide)) (small_of_bd D3.out (by decide)) (small_of_bd Dmb.out (by decide))] at omb
  have Omb := Lib.hid omb; have Emb := Lib.hid hmb
  have Lmb : Hid (LimR rmb) := Lib.hid (by rw [hmb]; exact limR_rep _)
  clear omb hmb
  obtain ⟨rxx, hxx⟩ : ∃ r, r = rep (a * b * c) := ⟨_, rfl⟩
  have Dxx : Hid (bd (a * b * c) _) := Lib.hid (bd_mul Dp.out D3.out)
  have oxx := fun W va vb (h1 : RdR W va rp) (h2 : RdR W vb r3) => mulR_any va vb rp r3 W h1 h2 Lp.out G3.out
  rw [show mulR rp r3 = (rxx, 0) by rw [Ep.out, E3.out, hxx]; exact mul_rep (small_of_bd Dp.out (by decide)) (small_of_bd D3.out (by decide)) (small_of_bd Dxx.out (by decide))] at oxx
  have Oxx := Lib.hid oxx; have Exx := Lib.hid hxx
  have Lxx : Hid (LimR rxx) := Lib.hid (by rw [hxx]; exact limR_rep _)
  clear oxx hxx
  obtain ⟨ryy, hyy⟩ : ∃ r, r = rep (a * (b * c)) := ⟨_, rfl⟩
  have Dyy : Hid (bd (a * (b * c)) _) := Lib.hid (bd_mul D1.out Dmb.out)
  have oyy := fun W va vb (h1 : RdR W va r1) (h2 : RdR W vb rmb) => mulR_any va vb r1 rmb W h1 h2 G1.out Lmb.out
  rw [show mulR r1 rmb = (ryy, 0) by rw [E1.out, Emb.out, hyy]; exact mul_rep (small_of_bd D1.out (by decide)) (small_of_bd Dmb.out (by decide)) (small_of_bd Dyy.out (by decide))] at oyy
  have Oyy := Lib.hid oyy; have Eyy := Lib.hid hyy
  have Lyy : Hid (LimR ryy) := Lib.hid (by rw [hyy]; exact limR_rep _)
  clear oyy hyy
  obtain ⟨rac, hac⟩ : ∃ r, r = rep (a * c) := ⟨_, rfl⟩
  have Dac : Hid (bd (a * c) _) := Lib.hid (bd_mul D1.out D3.out)
  have oac := fun W va vb (h1 : RdR W va r1) (h2 : RdR W vb r3) => mulR_any va vb r1 r3 W h1 h2 G1.out G3.out
  rw [show mulR r1 r3 = (rac, 0) by rw [E1.out, E3.out, hac]; exact mul_rep (small_of_bd D1.out (by decide)) (small_of_bd D3.out (by decide)) (small_of_bd Dac.out (by decide))] at oac
  have Oac := Lib.hid oac; have Eac := Lib.hid hac
  have Lac : Hid (LimR rac) := Lib.hid (by rw [hac]; exact limR_rep _)
  clear oac hac
  obtain ⟨rs, hs⟩ : ∃ r, r = rep (a * (b + c)) := ⟨_, rfl⟩
  have Ds : Hid (bd (a * (b + c)) _) := Lib.hid (bd_mul D1.out Dbc.out)
  have os := fun W va vb (h1 : RdR W va r1) (h2 : RdR W vb rbc) => mulR_any va vb r1 rbc W h1 h2 G1.out Lbc.out
  rw [show mulR r1 rbc = (rs, 0) by rw [E1.out, Ebc.out, hs]; exact mul_rep (small_of_bd D1.out (by decide)) (small_of_bd Dbc.out (by decide)) (small_of_bd Ds.out (by decide))] at os
  have Os := Lib.hid os; have Es := Lib.hid hs
  have Ls : Hid (LimR rs) := Lib.hid (by rw [hs]; exact limR_rep _)
  clear os hs
  obtain ⟨rtt, htt⟩ : ∃ r, r = rep (a * b + a * c) := ⟨_, rfl⟩
  have Dtt : Hid (bd (a * b + a * c) _) := Lib.hid (bd_add Dp.out Dac.out)
  have ott := fun W va vb (h1 : RdR W va rp) (h2 : RdR W vb rac) => addR_any va vb rp rac W h1 h2 Lp.out Lac.out
  rw [show addR rp rac = (rtt, 0) by rw [Ep.out, Eac.out, htt]; exact add_rep (small_of_bd Dp.out (by decide)) (small_of_bd Dac.out (by decide)) (small_of_bd Dtt.out (by decide))] at ott
  have Ott := Lib.hid ott; have Ett := Lib.hid htt
  have Ltt : Hid (LimR rtt) := Lib.hid (by rw [htt]; exact limR_rep _)
  clear ott htt
  obtain ⟨rmi, hmi⟩ : ∃ r, r = rep (-a) := ⟨_, rfl⟩
  have Dmi : Hid (bd (-a) _) := Lib.hid (bd_neg D1.out)
  have omi := fun W va (h1 : RdR W va r1) => negR_any va r1 W h1 G1.out
  rw [show negR r1 = (rmi, 0) by rw [E1.out, hmi]; exact neg_rep (small_of_bd D1.out (by decide))] at omi
  have Omi := Lib.hid omi; have Emi := Lib.hid hmi
  have Lmi : Hid (LimR rmi) := Lib.hid (by rw [hmi]; exact limR_rep _)
  clear omi hmi
  obtain ⟨rze, hze⟩ : ∃ r, r = rep (a + -a) := ⟨_, rfl⟩
  have Dze : Hid (bd (a + -a) _) := Lib.hid (bd_add D1.out Dmi.out)
  have oze := fun W va vb (h1 : RdR W va r1) (h2 : RdR W vb rmi) => addR_any va vb r1 rmi W h1 h2 G1.out Lmi.out
  rw [show addR r1 rmi = (rze, 0) by rw [E1.out, Emi.out, hze]; exact add_rep (small_of_bd D1.out (by decide)) (small_of_bd Dmi.out (by decide)) (small_of_bd Dze.out (by decide))] at oze
  have Oze := Lib.hid oze; have Eze := Lib.hid hze
  have Lze : Hid (LimR rze) := Lib.hid (by rw [hze]; exact limR_rep _)
  clear oze hze
  have qBx := Bx.out.cell; have lBx := Bx.out.lt
  have qBy := By.out.cell; have lBy := By.out.lt
  go_wp2_with fail
  refine (Oab.out _ _ _ Nx.out Ny.out).mono ?_
  rintro e w5 ⟨⟨v, rfl, nn⟩, hx⟩
  have Bx := Lib.hid (Bx.out.ext hx)
  have By := Lib.hid (By.out.ext hx)
  have Bz := Lib.hid (Bz.out.ext hx)
  have Nx := Lib.hid (Nx.out.ext hx)
  have Ny := Lib.hid (Ny.out.ext hx)
  have Nz := Lib.hid (Nz.out.ext hx)
  have X := Lib.hid (X.out.trans hx)
  clear qBx lBx qBy lBy
  obtain ⟨ab1, ab2, ab3, ab4, rfl⟩ := nn.shape
  have Nab := Lib.hid nn.rd
  clear nn hx
  dsimp only
  have Bab := Lib.hid (Blk.new w5 #[.bool rab.neg, .slice ab1 rab.num.length ab2, .slice ab3 rab.den.length ab4] 26)
  have Bx := Lib.hid (Bx.out.ext ((Ext.refl w5).alloc (.cells #[.bool rab.neg, .slice ab1 rab.num.length ab2, .slice ab3 rab.den.length ab4] 26)))
  have By := Lib.hid (By.out.ext ((Ext.refl w5).alloc (.cells #[.bool rab.neg, .slice ab1 rab.num.length ab2, .slice ab3 rab.den.length ab4] 26)))
  have Bz := Lib.hid (Bz.out.ext ((Ext.refl w5).alloc (.cells #[.bool rab.neg, .slice ab1 rab.num.length ab2, .slice ab3 rab.den.length ab4] 26)))
  have Nx := Lib.hid (Nx.out.ext ((Ext.refl w5).alloc (.cells #[.bool rab.neg, .slice ab1 rab.num.length ab2, .slice ab3 rab.den.length ab4] 26)))
  have Ny := Lib.hid (Ny.out.ext ((Ext.refl w5).alloc (.cells #[.bool rab.neg, .slice ab1 rab.num.length ab2, .slice ab3 rab.den.length ab4] 26)))
  have Nz := Lib.hid (Nz.out.ext ((Ext.refl w5).alloc (.cells #[.bool rab.neg, .slice ab1 rab.num.length ab2, .slice ab3 rab.den.length ab4] 26)))
  have Nab := Lib.hid (Nab.out.ext ((Ext.refl w5).alloc (.cells #[.bool rab.neg, .slice ab1 rab.num.length ab2, .slice ab3 rab.den.length ab4] 26)))
  have X := Lib.hid (X.out.alloc (.cells #[.bool rab.neg, .slice ab1 rab.num.length ab2, .slice ab3 rab.den.length ab4] 26))
  have qBy := By.out.cell; have lBy := By.out.lt
  have qBx := Bx.out.cell; have lBx := Bx.out.lt
  go_wp2_with fail
  refine (Oba.out _ _ _ Ny.out Nx.out).mono ?_
  rintro e w6 ⟨⟨v, rfl, nn⟩, hx⟩
  have Bx := Lib.hid (Bx.out.ext hx)
  have By := Lib.hid (By.out.ext hx)
  have Bz := Lib.hid (Bz.out.ext hx)
  have Nx := Lib.hid (Nx.out.ext hx)
  have Ny := Lib.hid (Ny.out.ext hx)
  have Nz := Lib.hid (Nz.out.ext hx)
  have Nab := Lib.hid (Nab.out.ext hx)
  have Bab := Lib.hid (Bab.out.ext hx)
  have X := Lib.hid (X.out.trans hx)
  clear qBy lBy qBx lBx
  obtain ⟨ba1, ba2, ba3, ba4, rfl⟩ := nn.shape
  have Nba := Lib.hid nn.rd
  clear nn hx
  dsimp only
  have Bba := Lib.hid (Blk.new w6 #[.bool rba.neg, .slice ba1 rba.num.length ba2, .slice ba3 rba.den.length ba4] 26)
  have Bx := Lib.hid (Bx.out.ext ((Ext.refl w6).alloc (.cells #[.bool rba.neg, .slice ba1 rba.num.length ba2, .slice ba3 rba.den.length ba4] 26)))
  have By := Lib.hid (By.out.ext ((Ext.refl w6).alloc (.cells #[.bool rba.neg, .slice ba1 rba.num.length ba2, .slice ba3 rba.den.length ba4] 26)))
  have Bz := Lib.hid (Bz.out.ext ((Ext.refl w6).alloc (.cells #[.bool rba.neg, .slice ba1 rba.num.length ba2, .slice ba3 rba.den.length ba4] 26)))
  have Nx := Lib.hid (Nx.out.ext ((Ext.refl w6).alloc (.cells #[.bool rba.neg, .slice ba1 rba.num.length ba2, .slice ba3 rba.den.length ba4] 26)))
  have Ny := Lib.hid (Ny.out.ext ((Ext.refl w6).alloc (.cells #[.bool rba.neg, .slice ba1 rba.num.length ba2, .slice ba3 rba.den.length ba4] 26)))
  have Nz := Lib.hid (Nz.out.ext ((Ext.refl w6).alloc (.cells #[.bool rba.neg, .slice ba1 rba.num.length ba2, .slice ba3 rba.den.length ba4] 26)))
  have Nab := Lib.hid (Nab.out.ext ((Ext.refl w6).alloc (.cells #[.bool rba.neg, .slice ba1 rba.num.length ba2, .slice ba3 rba.den.length ba4] 26)))
  have Bab := Lib.hid (Bab.out.ext ((Ext.refl w6).alloc (.cells #[.bool rba.neg, .slice ba1 rba.num.length ba2, .slice ba3 rba.den.length ba4] 26)))
  have Nba := Lib.hid (Nba.out.ext ((Ext.refl w6).alloc (.cells #[.bool rba.neg, .slice ba1 rba.num.length ba2, .slice ba3 rba.den.length ba4] 26)))
  have X := Lib.hid (X.out.alloc (.cells #[.bool rba.neg, .slice ba1 rba.num.length ba2, .slice ba3 rba.den.length ba4] 26))
  have qBy := By.out.cell; have lBy := By.out.lt
  have qBz := Bz.out.cell; have lBz := Bz.out.lt
  go_wp2_with fail
  refine (Obc.out _ _ _ Ny.out Nz.out).mono ?_
  rintro e w7 ⟨⟨v, rfl, nn⟩, hx⟩
  have Bx := Lib.hid (Bx.out.ext hx)
  have By := Lib.hid (By.out.ext hx)
  have Bz := Lib.hid (Bz.out.ext hx)
  have Nx := Lib.hid (Nx.out.ext hx)
  have Ny := Lib.hid (Ny.out.ext hx)
  have Nz := Lib.hid (Nz.out.ext hx)
  have Nab := Lib.hid (Nab.out.ext hx)
  have Bab := Lib.hid (Bab.out.ext hx)
  have Nba := Lib.hid (Nba.out.ext hx)
  have Bba := Lib.hid (Bba.out.ext hx)
  have X := Lib.hid (X.out.trans hx)
  clear qBy lBy qBz lBz
  obtain ⟨bc1, bc2, bc3, bc4, rfl⟩ := nn.shape
  have Nbc := Lib.hid nn.rd
  clear nn hx
  dsimp only
  have Bbc := Lib.hid (Blk.new w7 #[.bool rbc.neg, .slice bc1 rbc.num.length bc2, .slice bc3 rbc.den.length bc4] 26)
  have Bx := Lib.hid (Bx.out.ext ((Ext.refl w7).alloc (.cells #[.bool rbc.neg, .slice bc1 rbc.num.length bc2, .slice bc3 rbc.den.length bc4] 26)))
  have By := Lib.hid (By.out.ext ((Ext.refl w7).alloc (.cells #[.bool rbc.neg, .slice bc1 rbc.num.length bc2, .slice bc3 rbc.den.length bc4] 26)))
  have Bz := Lib.hid (Bz.out.ext ((Ext.refl w7).alloc (.cells #[.bool rbc.neg, .slice bc1 rbc.num.length bc2, .slice bc3 rbc.den.length bc4] 26)))
  have Nx := Lib.hid (Nx.out.ext ((Ext.refl w7).alloc (.cells #[.bool rbc.neg, .slice bc1 rbc.num.length bc2, .slice bc3 rbc.den.length bc4] 26)))
  have Ny := Lib.hid (Ny.out.ext ((Ext.refl w7).alloc (.cells #[.bool rbc.neg, .slice bc1 rbc.num.length bc2, .slice bc3 rbc.den.length bc4] 26)))
  have Nz := Lib.hid (Nz.out.ext ((Ext.refl w7).alloc (.cells #[.bool rbc.neg, .slice bc1 rbc.num.length bc2, .slice bc3 rbc.den.length bc4] 26)))
  have Nab := Lib.hid (Nab.out.ext ((Ext.refl w7).alloc (.cells #[.bool rbc.neg, .slice bc1 rbc.num.length bc2, .slice bc3 rbc.den.length bc4] 26)))
  have Bab := Lib.hid (Bab.out.ext ((Ext.refl w7).alloc (.cells #[.bool rbc.neg, .slice bc1 rbc.num.length bc2, .slice bc3 rbc.den.length bc4] 26)))
  have Nba := Lib.hid (Nba.out.ext ((Ext.refl w7).alloc (.cells #[.bool rbc.neg, .slice bc1 rbc.num.length bc2, .slice bc3 rbc.den.length bc4] 26)))
  have Bba := Lib.hid (Bba.out.ext ((Ext.refl w7).alloc (.cells #[.bool rbc.neg, .slice bc1 rbc.num.length bc2, .slice bc3 rbc.den.length bc4] 26)))
  have Nbc := Lib.hid (Nbc.out.ext ((Ext.refl w7).alloc (.cells #[.bool rbc.neg, .slice bc1 rbc.num.length bc2, .slice bc3 rbc.den.length bc4] 26)))
  have X := Lib.hid (X.out.alloc (.cells #[.bool rbc.neg, .slice bc1 rbc.num.length bc2, .slice bc3 rbc.den.length bc4] 26))
  have qBab := Bab.out.cell; have lBab := Bab.out.lt
  have qBz := Bz.out.cell; have lBz := Bz.out.lt
  go_wp2_with fail
  refine (Ole.out _ _ _ Nab.out Nz.out).mono ?_
  rintro e w8 ⟨⟨v, rfl, nn⟩, hx⟩
  have Bx := Lib.hid (Bx.out.ext hx)
  have By := Lib.hid (By.out.ext hx)
  have Bz := Lib.hid (Bz.out.ext hx)
  have Nx := Lib.hid (Nx.out.ext hx)
  have Ny := Lib.hid (Ny.out.ext hx)
  have Nz := Lib.hid (Nz.out.ext hx)
  have Nab := Lib.hid (Nab.out.ext hx)
  have Bab := Lib.hid (Bab.out.ext hx)
  have Nba := Lib.hid (Nba.out.ext hx)
  have Bba := Lib.hid (Bba.out.ext hx)
  have Nbc := Lib.hid (Nbc.out.ext hx)
  have Bbc := Lib.hid (Bbc.out.ext hx)
  have X := Lib.hid (X.out.trans hx)
  clear qBab lBab qBz lBz
  obtain ⟨le1, le2, le3, le4, rfl⟩ := nn.shape
  have Nle := Lib.hid nn.rd
  clear nn hx
  dsimp only
  have Ble := Lib.hid (Blk.new w8 #[.bool rle.neg, .slice le1 rle.num.length le2, .slice le3 rle.den.length le4] 26)
  have Bx := Lib.hid (Bx.out.ext ((Ext.refl w8).alloc (.cells #[.bool rle.neg, .slice le1 rle.num.length le2, .slice le3 rle.den.length le4] 26)))
  have By := Lib.hid (By.out.ext ((Ext.refl w8).alloc (.cells #[.bool rle.neg, .slice le1 rle.num.length le2, .slice le3 rle.den.length le4] 26)))
  have Bz := Lib.hid (Bz.out.ext ((Ext.refl w8).alloc (.cells #[.bool rle.neg, .slice le1 rle.num.length le2, .slice le3 rle.den.length le4] 26)))
  have Nx := Lib.hid (Nx.out.ext ((Ext.refl w8).alloc (.cells #[.bool rle.neg, .slice le1 rle.num.length le2, .slice le3 rle.den.length le4] 26)))
  have Ny := Lib.hid (Ny.out.ext ((Ext.refl w8).alloc (.cells #[.bool rle.neg, .slice le1 rle.num.length le2, .slice le3 rle.den.length le4] 26)))
  have Nz := Lib.hid (Nz.out.ext ((Ext.refl w8).alloc (.cells #[.bool rle.neg, .slice le1 rle.num.length le2, .slice le3 rle.den.length le4] 26)))
  have Nab := Lib.hid (Nab.out.ext ((Ext.refl w8).alloc (.cells #[.bool rle.neg, .slice le1 rle.num.length le2, .slice le3 rle.den.length le4] 26)))
  have Bab := Lib.hid (Bab.out.ext ((Ext.refl w8).alloc (.cells #[.bool rle.neg, .slice le1 rle.num.length le2, .slice le3 rle.den.length le4] 26)))
  have Nba := Lib.hid (Nba.out.ext ((Ext.refl w8).alloc (.cells #[.bool rle.neg, .slice le1 rle.num.length le2, .slice le3 rle.den.length le4] 26)))
  have Bba := Lib.hid (Bba.out.ext ((Ext.refl w8).alloc (.cells #[.bool rle.neg, .slice le1 rle.num.length le2, .slice le3 rle.den.length le4] 26)))
  have Nbc := Lib.hid (Nbc.out.ext ((Ext.refl w8).alloc (.cells #[.bool rle.neg, .slice le1 rle.num.length le2, .slice le3 rle.den.length le4] 26)))
  have Bbc := Lib.hid (Bbc.out.ext ((Ext.refl w8).alloc (.cells #[.bool rle.neg, .slice le1 rle.num.length le2, .slice le3 rle.den.length le4] 26)))
  have Nle := Lib.hid (Nle.out.ext ((Ext.refl w8).alloc (.cells #[.bool rle.neg, .slice le1 rle.num.length le2, .slice le3 rle.den.length le4] 26)))
  have X := Lib.hid (X.out.alloc (.cells #[.bool rle.neg, .slice le1 rle.num.length le2, .slice le3 rle.den.length le4] 26))
  have qBx := Bx.out.cell; have lBx := Bx.out.lt
  have qBbc := Bbc.out.cell; have lBbc := Bbc.out.lt
  go_wp2_with fail
  refine (Ori.out _ _ _ Nx.out Nbc.out).mono ?_
  rintro e w9 ⟨⟨v, rfl, nn⟩, hx⟩
  have Bx := Lib.hid (Bx.out.ext hx)
  have By := Lib.hid (By.out.ext hx)
  have Bz := Lib.hid (Bz.out.ext hx)
  have Nx := Lib.hid (Nx.out.ext hx)
  have Ny := Lib.hid (Ny.out.ext hx)
  have Nz := Lib.hid (Nz.out.ext hx)
  have Nab := Lib.hid (Nab.out.ext hx)
  have Bab := Lib.hid (Bab.out.ext hx)
  have Nba := Lib.hid (Nba.out.ext hx)
  have Bba := Lib.hid (Bba.out.ext hx)
  have Nbc := Lib.hid (Nbc.out.ext hx)
  have Bbc := Lib.hid (Bbc.out.ext hx)
  have Nle := Lib.hid (Nle.out.ext hx)
  have Ble := Lib.hid (Ble.out.ext hx)
  have X := Lib.hid (X.out.trans hx)
  clear qBx lBx qBbc lBbc
  obtain ⟨ri1, ri2, ri3, ri4, rfl⟩ := nn.shape
  have Nri := Lib.hid nn.rd
  clear nn hx
  dsimp only
  have Bri := Lib.hid (Blk.new w9 #[.bool rri.neg, .slice ri1 rri.num.length ri2, .slice ri3 rri.den.length ri4] 26)
  have Bx := Lib.hid (Bx.out.ext ((Ext.refl w9).alloc (.cells #[.bool rri.neg, .slice ri1 rri.num.length ri2, .slice ri3 rri.den.length ri4] 26)))
  have By := Lib.hid (By.out.ext ((Ext.refl w9).alloc (.cells #[.bool rri.neg, .slice ri1 rri.num.length ri2, .slice ri3 rri.den.length ri4] 26)))
  have Bz := Lib.hid (Bz.out.ext ((Ext.refl w9).alloc (.cells #[.bool rri.neg, .slice ri1 rri.num.length ri2, .slice ri3 rri.den.length ri4] 26)))
  have Nx := Lib.hid (Nx.out.ext ((Ext.refl w9).alloc (.cells #[.bool rri.neg, .slice ri1 rri.num.length ri2, .slice ri3 rri.den.length ri4] 26)))
  have Ny := Lib.hid (Ny.out.ext ((Ext.refl w9).alloc (.cells #[.bool rri.neg, .slice ri1 rri.num.length ri2, .slice ri3 rri.den.length ri4] 26)))
  have Nz := Lib.hid (Nz.out.ext ((Ext.refl w9).alloc (.cells #[.bool rri.neg, .slice ri1 rri.num.length ri2, .slice ri3 rri.den.length ri4] 26)))
  have Nab := Lib.hid (Nab.out.ext ((Ext.refl w9).alloc (.cells #[.bool rri.neg, .slice ri1 rri.num.length ri2, .slice ri3 rri.den.length ri4] 26)))
  have Bab := Lib.hid (Bab.out.ext ((Ext.refl w9).alloc (.cells #[.bool rri.neg, .slice ri1 rri.num.length ri2, .slice ri3 rri.den.length ri4] 26)))
  have Nba := Lib.hid (Nba.out.ext ((Ext.refl w9).alloc (.cells #[.bool rri.neg, .slice ri1 rri.num.length ri2, .slice ri3 rri.den.length ri4] 26)))
  have Bba := Lib.hid (Bba.out.ext ((Ext.refl w9).alloc (.cells #[.bool rri.neg, .slice ri1 rri.num.length ri2, .slice ri3 rri.den.length ri4] 26)))
  have Nbc := Lib.hid (Nbc.out.ext ((Ext.refl w9).alloc (.cells #[.bool rri.neg, .slice ri1 rri.num.length ri2, .slice ri3 rri.den.length ri4] 26)))
  have Bbc := Lib.hid (Bbc.out.ext ((Ext.refl w9).alloc (.cells #[.bool rri.neg, .slice ri1 rri.num.length ri2, .slice ri3 rri.den.length ri4] 26)))
  have Nle := Lib.hid (Nle.out.ext ((Ext.refl w9).alloc (.cells #[.bool rri.neg, .slice ri1 rri.num.length ri2, .slice ri3 rri.den.length ri4] 26)))
  have Ble := Lib.hid (Ble.out.ext ((Ext.refl w9).alloc (.cells #[.bool rri.neg, .slice ri1 rri.num.length ri2, .slice ri3 rri.den.length ri4] 26)))
  have Nri := Lib.hid (Nri.out.ext ((Ext.refl w9).alloc (.cells #[.bool rri.neg, .slice ri1 rri.num.length ri2, .slice ri3 rri.den.length ri4] 26)))
  have X := Lib.hid (X.out.alloc (.cells #[.bool rri.neg, .slice ri1 rri.num.length ri2, .slice ri3 rri.den.length ri4] 26))
  have qBab := Bab.out.cell; have lBab := Bab.out.lt
  have qBy := By.out.cell; have lBy := By.out.lt
  go_wp2_with fail
  refine (Obk.out _ _ _ Nab.out Ny.out).mono ?_
  rintro e w10 ⟨⟨v, rfl, nn⟩, hx⟩
  have Bx := Lib.hid (Bx.out.ext hx)
  have By := Lib.hid (By.out.ext hx)
  have Bz := Lib.hid (Bz.out.ext hx)
  have Nx := Lib.hid (Nx.out.ext hx)
  have Ny := Lib.hid (Ny.out.ext hx)
  have Nz := Lib.hid (Nz.out.ext hx)
  have Nab := Lib.hid (Nab.out.ext hx)
  have Bab := Lib.hid (Bab.out.ext hx)
  have Nba := Lib.hid (Nba.out.ext hx)
  have Bba := Lib.hid (Bba.out.ext hx)
  have Nbc := Lib.hid (Nbc.out.ext hx)
  have Bbc := Lib.hid (Bbc.out.ext hx)
  have Nle := Lib.hid (Nle.out.ext hx)
  have Ble := Lib.hid (Ble.out.ext hx)
  have Nri := Lib.hid (Nri.out.ext hx)
  have Bri := Lib.hid (Bri.out.ext hx)
  have X := Lib.hid (X.out.trans hx)
  clear qBab lBab qBy lBy
  obtain ⟨bk1, bk2, bk3, bk4, rfl⟩ := nn.shape
  have Nbk := Lib.hid nn.rd
  clear nn hx
  dsimp only
  have Bbk := Lib.hid (Blk.new w10 #[.bool rbk.neg, .slice bk1 rbk.num.length bk2, .slice bk3 rbk.den.length bk4] 26)
  have Bx := Lib.hid (Bx.out.ext ((Ext.refl w10).alloc (.cells #[.bool rbk.neg, .slice bk1 rbk.num.length bk2, .slice bk3 rbk.den.length bk4] 26)))
  have By := Lib.hid (By.out.ext ((Ext.refl w10).alloc (.cells #[.bool rbk.neg, .slice bk1 rbk.num.length bk2, .slice bk3 rbk.den.length bk4] 26)))
  have Bz := Lib.hid (Bz.out.ext ((Ext.refl w10).alloc (.cells #[.bool rbk.neg, .slice bk1 rbk.num.length bk2, .slice bk3 rbk.den.length bk4] 26)))
  have Nx := Lib.hid (Nx.out.ext ((Ext.refl w10).alloc (.cells #[.bool rbk.neg, .slice bk1 rbk.num.length bk2, .slice bk3 rbk.den.length bk4] 26)))
  have Ny := Lib.hid (Ny.out.ext ((Ext.refl w10).alloc (.cells #[.bool rbk.neg, .slice bk1 rbk.num.length bk2, .slice bk3 rbk.den.length bk4] 26)))
  have Nz := Lib.hid (Nz.out.ext ((Ext.refl w10).alloc (.cells #[.bool rbk.neg, .slice bk1 rbk.num.length bk2, .slice bk3 rbk.den.length bk4] 26)))
  have Nab := Lib.hid (Nab.out.ext ((Ext.refl w10).alloc (.cells #[.bool rbk.neg, .slice bk1 rbk.num.length bk2, .slice bk3 rbk.den.length bk4] 26)))
  have Bab := Lib.hid (Bab.out.ext ((Ext.refl w10).alloc (.cells #[.bool rbk.neg, .slice bk1 rbk.num.length bk2, .slice bk3 rbk.den.length bk4] 26)))
  have Nba := Lib.hid (Nba.out.ext ((Ext.refl w10).alloc (.cells #[.bool rbk.neg, .slice bk1 rbk.num.length bk2, .slice bk3 rbk.den.length bk4] 26)))
  have Bba := Lib.hid (Bba.out.ext ((Ext.refl w10).alloc (.cells #[.bool rbk.neg, .slice bk1 rbk.num.length bk2, .slice bk3 rbk.den.length bk4] 26)))
  have Nbc := Lib.hid (Nbc.out.ext ((Ext.refl w10).alloc (.cells #[.bool rbk.neg, .slice bk1 rbk.num.length bk2, .slice bk3 rbk.den.length bk4] 26)))
  have Bbc := Lib.hid (Bbc.out.ext ((Ext.refl w10).alloc (.cells #[.bool rbk.neg, .slice bk1 rbk.num.length bk2, .slice bk3 rbk.den.length bk4] 26)))
  have Nle := Lib.hid (Nle.out.ext ((Ext.refl w10).alloc (.cells #[.bool rbk.neg, .slice bk1 rbk.num.length bk2, .slice bk3 rbk.den.length bk4] 26)))
  have Ble := Lib.hid (Ble.out.ext ((Ext.refl w10).alloc (.cells #[.bool rbk.neg, .slice bk1 rbk.num.length bk2, .slice bk3 rbk.den.length bk4] 26)))
  have Nri := Lib.hid (Nri.out.ext ((Ext.refl w10).alloc (.cells #[.bool rbk.neg, .slice bk1 rbk.num.length bk2, .slice bk3 rbk.den.length bk4] 26)))
  have Bri := Lib.hid (Bri.out.ext ((Ext.refl w10).alloc (.cells #[.bool rbk.neg, .slice bk1 rbk.num.length bk2, .slice bk3 rbk.den.length bk4] 26)))
  have Nbk := Lib.hid (Nbk.out.ext ((Ext.refl w10).alloc (.cells #[.bool rbk.neg, .slice bk1 rbk.num.length bk2, .slice bk3 rbk.den.length bk4] 26)))
  have X := Lib.hid (X.out.alloc (.cells #[.bool rbk.neg, .slice bk1 rbk.num.length bk2, .slice bk3 rbk.den.length bk4] 26))
  have qBab := Bab.out.cell; have lBab := Bab.out.lt
  have qBba := Bba.out.cell; have lBba := Bba.out.lt
  go_wp2_with fail
  refine (equalOK_any _ _ rab rba (by rw [Eab.out, Eba.out, Rat.add_comm]) _ Nab.out Nba.out).mono ?_
  rintro e w11 ⟨rfl, hx⟩
  have Bx := Lib.hid (Bx.out.ext hx)
  have By := Lib.hid (By.out.ext hx)
  have Bz := Lib.hid (Bz.out.ext hx)
  have Nx := Lib.hid (Nx.out.ext hx)
  have Ny := Lib.hid (Ny.out.ext hx)
  have Nz := Lib.hid (Nz.out.ext hx)
  have Nab := Lib.hid (Nab.out.ext hx)
  have Bab := Lib.hid (Bab.out.ext hx)
  have Nba := Lib.hid (Nba.out.ext hx)
  have Bba := Lib.hid (Bba.out.ext hx)
  have Nbc := Lib.hid (Nbc.out.ext hx)
  have Bbc := Lib.hid (Bbc.out.ext hx)
  have Nle := Lib.hid (Nle.out.ext hx)
  have Ble := Lib.hid (Ble.out.ext hx)
  have Nri := Lib.hid (Nri.out.ext hx)
  have Bri := Lib.hid (Bri.out.ext hx)
  have Nbk := Lib.hid (Nbk.out.ext hx)
  have Bbk := Lib.hid (Bbk.out.ext hx)
  have X := Lib.hid (X.out.trans hx)
  clear qBab lBab qBba lBba
  clear hx
  dsimp only
  have qBle := Ble.out.cell; have lBle := Ble.out.lt
  have qBri := Bri.out.cell; have lBri := Bri.out.lt
  go_wp2_with fail
  refine (equalOK_any _ _ rle rri (by rw [Ele.out, Eri.out, Rat.add_assoc]) _ Nle.out Nri.out).mono ?_
  rintro e w12 ⟨rfl, hx⟩
  have Bx := Lib.hid (Bx.out.ext hx)
  have By := Lib.hid (By.out.ext hx)
  have Bz := Lib.hid (Bz.out.ext hx)
  have Nx := Lib.hid (Nx.out.ext hx)
  have Ny := Lib.hid (Ny.out.ext hx)
  have Nz := Lib.hid (Nz.out.ext hx)
  have Nab := Lib.hid (Nab.out.ext hx)
  have Bab := Lib.hid (Bab.out.ext hx)
  have Nba := Lib.hid (Nba.out.ext hx)
  have Bba := Lib.hid (Bba.out.ext hx)
  have Nbc := Lib.hid (Nbc.out.ext hx)
  have Bbc := Lib.hid (Bbc.out.ext hx)
  have Nle := Lib.hid (Nle.out.ext hx)
  have Ble := Lib.hid (Ble.out.ext hx)
  have Nri := Lib.hid (Nri.out.ext hx)
  have Bri := Lib.hid (Bri.out.ext hx)
  have Nbk := Lib.hid (Nbk.out.ext hx)
  have Bbk := Lib.hid (Bbk.out.ext hx)
  have X := Lib.hid (X.out.trans hx)
  clear qBle lBle qBri lBri
  clear hx
  dsimp only
  have qBbk := Bbk.out.cell; have lBbk := Bbk.out.lt
  have qBx := Bx.out.cell; have lBx := Bx.out.lt
  go_wp2_with fail
  refine (equalOK_any _ _ rbk r1 (by rw [Ebk.out, E1.out, Rat.sub_eq_add_neg, Rat.add_assoc, Rat.add_neg_cancel, Rat.add_zero]) _ Nbk.out Nx.out).mono ?_
  rintro e w13 ⟨rfl, hx⟩
  have Bx := Lib.hid (Bx.out.ext hx)
  have By := Lib.hid (By.out.ext hx)
  have Bz := Lib.hid (Bz.out.ext hx)
  have Nx := Lib.hid (Nx.out.ext hx)
  have Ny := Lib.hid (Ny.out.ext hx)
  have Nz := Lib.hid (Nz.out.ext hx)
  have Nab := Lib.hid (Nab.out.ext hx)
  have Bab := Lib.hid (Bab.out.ext hx)
  have Nba := Lib.hid (Nba.out.ext hx)
  have Bba := Lib.hid (Bba.out.ext hx)
  have Nbc := Lib.hid (Nbc.out.ext hx)
  have Bbc := Lib.hid (Bbc.out.ext hx)
  have Nle := Lib.hid (Nle.out.ext hx)
  have Ble := Lib.hid (Ble.out.ext hx)
  have Nri := Lib.hid (Nri.out.ext hx)
  have Bri := Lib.hid (Bri.out.ext hx)
  have Nbk := Lib.hid (Nbk.out.ext hx)
  have Bbk := Lib.hid (Bbk.out.ext hx)
  have X := Lib.hid (X.out.trans hx)
  clear qBbk lBbk qBx lBx
  clear hx
  dsimp only
  have qBx := Bx.out.cell; have lBx := Bx.out.lt
  have qBy := By.out.cell; have lBy := By.out.lt
  go_wp2_with fail
  refine (Op.out _ _ _ Nx.out Ny.out).mono ?_
  rintro e w14 ⟨⟨v, rfl, nn⟩, hx⟩
  have Bx := Lib.hid (Bx.out.ext hx)
  have By := Lib.hid (By.out.ext hx)
  have Bz := Lib.hid (Bz.out.ext hx)
  have Nx := Lib.hid (Nx.out.ext hx)
  have Ny := Lib.hid (Ny.out.ext hx)
  have Nz := Lib.hid (Nz.out.ext hx)
  have Nab := Lib.hid (Nab.out.ext hx)
  have Bab := Lib.hid (Bab.out.ext hx)
  have Nba := Lib.hid (Nba.out.ext hx)
  have Bba := Lib.hid (Bba.out.ext hx)
  have Nbc := Lib.hid (Nbc.out.ext hx)
  have Bbc := Lib.hid (Bbc.out.ext hx)
  have Nle := Lib.hid (Nle.out.ext hx)
  have Ble := Lib.hid (Ble.out.ext hx)
  have Nri := Lib.hid (Nri.out.ext hx)
  have Bri := Lib.hid (Bri.out.ext hx)
  have Nbk := Lib.hid (Nbk.out.ext hx)
  have Bbk := Lib.hid (Bbk.out.ext hx)
  have X := Lib.hid (X.out.trans hx)
  clear qBx lBx qBy lBy
  obtain ⟨p1, p2, p3, p4, rfl⟩ := nn.shape
  have Np := Lib.hid nn.rd
  clear nn hx
  dsimp only
  have Bp := Lib.hid (Blk.new w14 #[.bool rp.neg, .slice p1 rp.num.length p2, .slice p3 rp.den.length p4] 26)
  have Bx := Lib.hid (Bx.out.ext ((Ext.refl w14).alloc (.cells #[.bool rp.neg, .slice p1 rp.num.length p2, .slice p3 rp.den.length p4] 26)))
  have By := Lib.hid (By.out.ext ((Ext.refl w14).alloc (.cells #[.bool rp.neg, .slice p1 rp.num.length p2, .slice p3 rp.den.length p4] 26)))
  have Bz := Lib.hid (Bz.out.ext ((Ext.refl w14).alloc (.cells #[.bool rp.neg, .slice p1 rp.num.length p2, .slice p3 rp.den.length p4] 26)))
  have Nx := Lib.hid (Nx.out.ext ((Ext.refl w14).alloc (.cells #[.bool rp.neg, .slice p1 rp.num.length p2, .slice p3 rp.den.length p4] 26)))
  have Ny := Lib.hid (Ny.out.ext ((Ext.refl w14).alloc (.cells #[.bool rp.neg, .slice p1 rp.num.length p2, .slice p3 rp.den.length p4] 26)))
  have Nz := Lib.hid (Nz.out.ext ((Ext.refl w14).alloc (.cells #[.bool rp.neg, .slice p1 rp.num.length p2, .slice p3 rp.den.length p4] 26)))
  have Nab := Lib.hid (Nab.out.ext ((Ext.refl w14).alloc (.cells #[.bool rp.neg, .slice p1 rp.num.length p2, .slice p3 rp.den.length p4] 26)))
  have Bab := Lib.hid (Bab.out.ext ((Ext.refl w14).alloc (.cells #[.bool rp.neg, .slice p1 rp.num.length p2, .slice p3 rp.den.length p4] 26)))
  have Nba := Lib.hid (Nba.out.ext ((Ext.refl w14).alloc (.cells #[.bool rp.neg, .slice p1 rp.num.length p2, .slice p3 rp.den.length p4] 26)))
  have Bba := Lib.hid (Bba.out.ext ((Ext.refl w14).alloc (.cells #[.bool rp.neg, .slice p1 rp.num.length p2, .slice p3 rp.den.length p4] 26)))
  have Nbc := Lib.hid (Nbc.out.ext ((Ext.refl w14).alloc (.cells #[.bool rp.neg, .slice p1 rp.num.length p2, .slice p3 rp.den.length p4] 26)))
  have Bbc := Lib.hid (Bbc.out.ext ((Ext.refl w14).alloc (.cells #[.bool rp.neg, .slice p1 rp.num.length p2, .slice p3 rp.den.length p4] 26)))
  have Nle := Lib.hid (Nle.out.ext ((Ext.refl w14).alloc (.cells #[.bool rp.neg, .slice p1 rp.num.length p2, .slice p3 rp.den.length p4] 26)))
  have Ble := Lib.hid (Ble.out.ext ((Ext.refl w14).alloc (.cells #[.bool rp.neg, .slice p1 rp.num.length p2, .slice p3 rp.den.length p4] 26)))
  have Nri := Lib.hid (Nri.out.ext ((Ext.refl w14).alloc (.cells #[.bool rp.neg, .slice p1 rp.num.length p2, .slice p3 rp.den.length p4] 26)))
  have Bri := Lib.hid (Bri.out.ext ((Ext.refl w14).alloc (.cells #[.bool rp.neg, .slice p1 rp.num.length p2, .slice p3 rp.den.length p4] 26)))
  have Nbk := Lib.hid (Nbk.out.ext ((Ext.refl w14).alloc (.cells #[.bool rp.neg, .slice p1 rp.num.length p2, .slice p3 rp.den.length p4] 26)))
  have Bbk := Lib.hid (Bbk.out.ext ((Ext.refl w14).alloc (.cells #[.bool rp.neg, .slice p1 rp.num.length p2, .slice p3 rp.den.length p4] 26)))
  have Np := Lib.hid (Np.out.ext ((Ext.refl w14).alloc (.cells #[.bool rp.neg, .slice p1 rp.num.length p2, .slice p3 rp.den.length p4] 26)))
  have X := Lib.hid (X.out.alloc (.cells #[.bool rp.neg, .slice p1 rp.num.length p2, .slice p3 rp.den.length p4] 26))
  have qBy := By.out.cell; have lBy := By.out.lt
  have qBx := Bx.out.cell; have lBx := Bx.out.lt
  go_wp2_with fail
  refine (Oq.out _ _ _ Ny.out Nx.out).mono ?_
  rintro e w15 ⟨⟨v, rfl, nn⟩, hx⟩
  have Bx := Lib.hid (Bx.out.ext hx)
  have By := Lib.hid (By.out.ext hx)
  have Bz := Lib.hid (Bz.out.ext hx)
  have Nx := Lib.hid (Nx.out.ext hx)
  have Ny := Lib.hid (Ny.out.ext hx)
  have Nz := Lib.hid (Nz.out.ext hx)
  have Nab := Lib.hid (Nab.out.ext hx)
  have Bab := Lib.hid (Bab.out.ext hx)
  have Nba := Lib.hid (Nba.out.ext hx)
  have Bba := Lib.hid (Bba.out.ext hx)
  have Nbc := Lib.hid (Nbc.out.ext hx)
  have Bbc := Lib.hid (Bbc.out.ext hx)
  have Nle := Lib.hid (Nle.out.ext hx)
  have Ble := Lib.hid (Ble.out.ext hx)
  have Nri := Lib.hid (Nri.out.ext hx)
  have Bri := Lib.hid (Bri.out.ext hx)
  have Nbk := Lib.hid (Nbk.out.ext hx)
  have Bbk := Lib.hid (Bbk.out.ext hx)
  have Np := Lib.hid (Np.out.ext hx)
  have Bp := Lib.hid (Bp.out.ext hx)
  have X := Lib.hid (X.out.trans hx)
  clear qBy lBy qBx lBx
  obtain ⟨q1, q2, q3, q4, rfl⟩ := nn.shape
  have Nq := Lib.hid nn.rd
  clear nn hx
  dsimp only
  have Bq := Lib.hid (Blk.new w15 #[.bool rq.neg, .slice q1 rq.num.length q2, .slice q3 rq.den.length q4] 26)
  have Bx := Lib.hid (Bx.out.ext ((Ext.refl w15).alloc (.cells #[.bool rq.neg, .slice q1 rq.num.length q2, .slice q3 rq.den.length q4] 26)))
  have By := Lib.hid (By.out.ext ((Ext.refl w15).alloc (.cells #[.bool rq.neg, .slice q1 rq.num.length q2, .slice q3 rq.den.length q4] 26)))
  have Bz := Lib.hid (Bz.out.ext ((Ext.refl w15).alloc (.cells #[.bool rq.neg, .slice q1 rq.num.length q2, .slice q3 rq.den.length q4] 26)))
  have Nx := Lib.hid (Nx.out.ext ((Ext.refl w15).alloc (.cells #[.bool rq.neg, .slice q1 rq.num.length q2, .slice q3 rq.den.length q4] 26)))
  have Ny := Lib.hid (Ny.out.ext ((Ext.refl w15).alloc (.cells #[.bool rq.neg, .slice q1 rq.num.length q2, .slice q3 rq.den.length q4] 26)))
  have Nz := Lib.hid (Nz.out.ext ((Ext.refl w15).alloc (.cells #[.bool rq.neg, .slice q1 rq.num.length q2, .slice q3 rq.den.length q4] 26)))
  have Nab := Lib.hid (Nab.out.ext ((Ext.refl w15).alloc (.cells #[.bool rq.neg, .slice q1 rq.num.length q2, .slice q3 rq.den.length q4] 26)))
  have Bab := Lib.hid (Bab.out.ext ((Ext.refl w15).alloc (.cells #[.bool rq.neg, .slice q1 rq.num.length q2, .slice q3 rq.den.length q4] 26)))
  have Nba := Lib.hid (Nba.out.ext ((Ext.refl w15).alloc (.cells #[.bool rq.neg, .slice q1 rq.num.length q2, .slice q3 rq.den.length q4] 26)))
  have Bba := Lib.hid (Bba.out.ext ((Ext.refl w15).alloc (.cells #[.bool rq.neg, .slice q1 rq.num.length q2, .slice q3 rq.den.length q4] 26)))
  have Nbc := Lib.hid (Nbc.out.ext ((Ext.refl w15).alloc (.cells #[.bool rq.neg, .slice q1 rq.num.length q2, .slice q3 rq.den.length q4] 26)))
  have Bbc := Lib.hid (Bbc.out.ext ((Ext.refl w15).alloc (.cells #[.bool rq.neg, .slice q1 rq.num.length q2, .slice q3 rq.den.length q4] 26)))
  have Nle := Lib.hid (Nle.out.ext ((Ext.refl w15).alloc (.cells #[.bool rq.neg, .slice q1 rq.num.length q2, .slice q3 rq.den.length q4] 26)))
  have Ble := Lib.hid (Ble.out.ext ((Ext.refl w15).alloc (.cells #[.bool rq.neg, .slice q1 rq.num.length q2, .slice q3 rq.den.length q4] 26)))
  have Nri := Lib.hid (Nri.out.ext ((Ext.refl w15).alloc (.cells #[.bool rq.neg, .slice q1 rq.num.length q2, .slice q3 rq.den.length q4] 26)))
  have Bri := Lib.hid (Bri.out.ext ((Ext.refl w15).alloc (.cells #[.bool rq.neg, .slice q1 rq.num.length q2, .slice q3 rq.den.length q4] 26)))
  have Nbk := Lib.hid (Nbk.out.ext ((Ext.refl w15).alloc (.cells #[.bool rq.neg, .slice q1 rq.num.length q2, .slice q3 rq.den.length q4] 26)))
  have Bbk := Lib.hid (Bbk.out.ext ((Ext.refl w15).alloc (.cells #[.bool rq.neg, .slice q1 rq.num.length q2, .slice q3 rq.den.length q4] 26)))
  have Np := Lib.hid (Np.out.ext ((Ext.refl w15).alloc (.cells #[.bool rq.neg, .slice q1 rq.num.length q2, .slice q3 rq.den.length q4] 26)))
  have Bp := Lib.hid (Bp.out.ext ((Ext.refl w15).alloc (.cells #[.bool rq.neg, .slice q1 rq.num.length q2, .slice q3 rq.den.length q4] 26)))
  have Nq := Lib.hid (Nq.out.ext ((Ext.refl w15).alloc (.cells #[.bool rq.neg, .slice q1 rq.num.length q2, .slice q3 rq.den.length q4] 26)))
  have X := Lib.hid (X.out.alloc (.cells #[.bool rq.neg, .slice q1 rq.num.length q2, .slice q3 rq.den.length q4] 26))
  have qBy := By.out.cell; have lBy := By.out.lt
  have qBz := Bz.out.cell; have lBz := Bz.out.lt
  go_wp2_with fail
  refine (Omb.out _ _ _ Ny.out Nz.out).mono ?_
  rintro e w16 ⟨⟨v, rfl, nn⟩, hx⟩
  have Bx := Lib.hid (Bx.out.ext hx)
  have By := Lib.hid (By.out.ext hx)
  have Bz := Lib.hid (Bz.out.ext hx)
  have Nx := Lib.hid (Nx.out.ext hx)
  have Ny := Lib.hid (Ny.out.ext hx)
  have Nz := Lib.hid (Nz.out.ext hx)
  have Nab := Lib.hid (Nab.out.ext hx)
  have Bab := Lib.hid (Bab.out.ext hx)
  have Nba := Lib.hid (Nba.out.ext hx)
  have Bba := Lib.hid (Bba.out.ext hx)
  have Nbc := Lib.hid (Nbc.out.ext hx)
  have Bbc := Lib.hid (Bbc.out.ext hx)
  have Nle := Lib.hid (Nle.out.ext hx)
  have Ble := Lib.hid (Ble.out.ext hx)
  have Nri := Lib.hid (Nri.out.ext hx)
  have Bri := Lib.hid (Bri.out.ext hx)
  have Nbk := Lib.hid (Nbk.out.ext hx)
  have Bbk := Lib.hid (Bbk.out.ext hx)
  have Np := Lib.hid (Np.out.ext hx)
  have Bp := Lib.hid (Bp.out.ext hx)
  have Nq := Lib.hid (Nq.out.ext hx)
  have Bq := Lib.hid (Bq.out.ext hx)
  have X := Lib.hid (X.out.trans hx)
  clear qBy lBy qBz lBz
  obtain ⟨mb1, mb2, mb3, mb4, rfl⟩ := nn.shape
  have Nmb := Lib.hid nn.rd
  clear nn hx
  dsimp only
  have Bmb := Lib.hid (Blk.new w16 #[.bool rmb.neg, .slice mb1 rmb.num.length mb2, .slice mb3 rmb.den.length mb4] 26)
  have Bx := Lib.hid (Bx.out.ext ((Ext.refl w16).alloc (.cells #[.bool rmb.neg, .slice mb1 rmb.num.length mb2, .slice mb3 rmb.den.length mb4] 26)))
  have By := Lib.hid (By.out.ext ((Ext.refl w16).alloc (.cells #[.bool rmb.neg, .slice mb1 rmb.num.length mb2, .slice mb3 rmb.den.length mb4] 26)))
  have Bz := Lib.hid (Bz.out.ext ((Ext.refl w16).alloc (.cells #[.bool rmb.neg, .slice mb1 rmb.num.length mb2, .slice mb3 rmb.den.length mb4] 26)))
  have Nx := Lib.hid (Nx.out.ext ((Ext.refl w16).alloc (.cells #[.bool rmb.neg, .slice mb1 rmb.num.length mb2, .slice mb3 rmb.den.length mb4] 26)))
  have Ny := Lib.hid (Ny.out.ext ((Ext.refl w16).alloc (.cells #[.bool rmb.neg, .slice mb1 rmb.num.length mb2, .slice mb3 rmb.den.length mb4] 26)))
  have Nz := Lib.hid (Nz.out.ext ((Ext.refl w16).alloc (.cells #[.bool rmb.neg, .slice mb1 rmb.num.length mb2, .slice mb3 rmb.den.length mb4] 26)))
  have Nab := Lib.hid (Nab.out.ext ((Ext.refl w16).alloc (.cells #[.bool rmb.neg, .slice mb1 rmb.num.length mb2, .slice mb3 rmb.den.length mb4] 26)))
  have Bab := Lib.hid (Bab.out.ext ((Ext.refl w16).alloc (.cells #[.bool rmb.neg, .slice mb1 rmb.num.length mb2, .slice mb3 rmb.den.length mb4] 26)))
  have Nba := Lib.hid (Nba.out.ext ((Ext.refl w16).alloc (.cells #[.bool rmb.neg, .slice mb1 rmb.num.length mb2, .slice mb3 rmb.den.length mb4] 26)))
  have Bba := Lib.hid (Bba.out.ext ((Ext.refl w16).alloc (.cells #[.bool rmb.neg, .slice mb1 rmb.num.length mb2, .slice mb3 rmb.den.length mb4] 26)))
  have Nbc := Lib.hid (Nbc.out.ext ((Ext.refl w16).alloc (.cells #[.bool rmb.neg, .slice mb1 rmb.num.length mb2, .slice mb3 rmb.den.length mb4] 26)))
  have Bbc := Lib.hid (Bbc.out.ext ((Ext.refl w16).alloc (.cells #[.bool rmb.neg, .slice mb1 rmb.num.length mb2, .slice mb3 rmb.den.length mb4] 26)))
  have Nle := Lib.hid (Nle.out.ext ((Ext.refl w16).alloc (.cells #[.bool rmb.neg, .slice mb1 rmb.num.length mb2, .slice mb3 rmb.den.length mb4] 26)))
  have Ble := Lib.hid (Ble.out.ext ((Ext.refl w16).alloc (.cells #[.bool rmb.neg, .slice mb1 rmb.num.length mb2, .slice mb3 rmb.den.length mb4] 26)))
  have Nri := Lib.hid (Nri.out.ext ((Ext.refl w16).alloc (.cells #[.bool rmb.neg, .slice mb1 rmb.num.length mb2, .slice mb3 rmb.den.length mb4] 26)))
  have Bri := Lib.hid (Bri.out.ext ((Ext.refl w16).alloc (.cells #[.bool rmb.neg, .slice mb1 rmb.num.length mb2, .slice mb3 rmb.den.length mb4] 26)))
  have Nbk := Lib.hid (Nbk.out.ext ((Ext.refl w16).alloc (.cells #[.bool rmb.neg, .slice mb1 rmb.num.length mb2, .slice mb3 rmb.den.length mb4] 26)))
  have Bbk := Lib.hid (Bbk.out.ext ((Ext.refl w16).alloc (.cells #[.bool rmb.neg, .slice mb1 rmb.num.length mb2, .slice mb3 rmb.den.length mb4] 26)))
  have Np := Lib.hid (Np.out.ext ((Ext.refl w16).alloc (.cells #[.bool rmb.neg, .slice mb1 rmb.num.length mb2, .slice mb3 rmb.den.length mb4] 26)))
  have Bp := Lib.hid (Bp.out.ext ((Ext.refl w16).alloc (.cells #[.bool rmb.neg, .slice mb1 rmb.num.length mb2, .slice mb3 rmb.den.length mb4] 26)))
  have Nq := Lib.hid (Nq.out.ext ((Ext.refl w16).alloc (.cells #[.bool rmb.neg, .slice mb1 rmb.num.length mb2, .slice mb3 rmb.den.length mb4] 26)))
  have Bq := Lib.hid (Bq.out.ext ((Ext.refl w16).alloc (.cells #[.bool rmb.neg, .slice mb1 rmb.num.length mb2, .slice mb3 rmb.den.length mb4] 26)))
  have Nmb := Lib.hid (Nmb.out.ext ((Ext.refl w16).alloc (.cells #[.bool rmb.neg, .slice mb1 rmb.num.length mb2, .slice mb3 rmb.den.length mb4] 26)))
  have X := Lib.hid (X.out.alloc (.cells #[.bool rmb.neg, .slice mb1 rmb.num.length mb2, .slice mb3 rmb.den.length mb4] 26))
  have qBp := Bp.out.cell; have lBp := Bp.out.lt
  have qBz := Bz.out.cell; have lBz := Bz.out.lt
  go_wp2_with fail
  refine (Oxx.out _ _ _ Np.out Nz.out).mono ?_
  rintro e w17 ⟨⟨v, rfl, nn⟩, hx⟩
  have Bx := Lib.hid (Bx.out.ext hx)
  have By := Lib.hid (By.out.ext hx)
  have Bz := Lib.hid (Bz.out.ext hx)
  have Nx := Lib.hid (Nx.out.ext hx)
  have Ny := Lib.hid (Ny.out.ext hx)
  have Nz := Lib.hid (Nz.out.ext hx)
  have Nab := Lib.hid (Nab.out.ext hx)
  have Bab := Lib.hid (Bab.out.ext hx)
  have Nba := Lib.hid (Nba.out.ext hx)
  have Bba := Lib.hid (Bba.out.ext hx)
  have Nbc := Lib.hid (Nbc.out.ext hx)
  have Bbc := Lib.hid (Bbc.out.ext hx)
  have Nle := Lib.hid (Nle.out.ext hx)
  have Ble := Lib.hid (Ble.out.ext hx)
  have Nri := Lib.hid (Nri.out.ext hx)
  have Bri := Lib.hid (Bri.out.ext hx)
  have Nbk := Lib.hid (Nbk.out.ext hx)
  have Bbk := Lib.hid (Bbk.out.ext hx)
  have Np := Lib.hid (Np.out.ext hx)
  have Bp := Lib.hid (Bp.out.ext hx)
  have Nq := Lib.hid (Nq.out.ext hx)
  have Bq := Lib.hid (Bq.out.ext hx)
  have Nmb := Lib.hid (Nmb.out.ext hx)
  have Bmb := Lib.hid (Bmb.out.ext hx)
  have X := Lib.hid (X.out.trans hx)
  clear qBp lBp qBz lBz
  obtain ⟨xx1, xx2, xx3, xx4, rfl⟩ := nn.shape
  have Nxx := Lib.hid nn.rd
  clear nn hx
  dsimp only
  have Bxx := Lib.hid (Blk.new w17 #[.bool rxx.neg, .slice xx1 rxx.num.length xx2, .slice xx3 rxx.den.length xx4] 26)
  have Bx := Lib.hid (Bx.out.ext ((Ext.refl w17).alloc (.cells #[.bool rxx.neg, .slice xx1 rxx.num.length xx2, .slice xx3 rxx.den.length xx4] 26)))
  have By := Lib.hid (By.out.ext ((Ext.refl w17).alloc (.cells #[.bool rxx.neg, .slice xx1 rxx.num.length xx2, .slice xx3 rxx.den.length xx4] 26)))
  have Bz := Lib.hid (Bz.out.ext ((Ext.refl w17).alloc (.cells #[.bool rxx.neg, .slice xx1 rxx.num.length xx2, .slice xx3 rxx.den.length xx4] 26)))
  have Nx := Lib.hid (Nx.out.ext ((Ext.refl w17).alloc (.cells #[.bool rxx.neg, .slice xx1 rxx.num.length xx2, .slice xx3 rxx.den.length xx4] 26)))
  have Ny := Lib.hid (Ny.out.ext ((Ext.refl w17).alloc (.cells #[.bool rxx.neg, .slice xx1 rxx.num.length xx2, .slice xx3 rxx.den.length xx4] 26)))
  have Nz := Lib.hid (Nz.out.ext ((Ext.refl w17).alloc (.cells #[.bool rxx.neg, .slice xx1 rxx.num.length xx2, .slice xx3 rxx.den.length xx4] 26)))
  have Nab := Lib.hid (Nab.out.ext ((Ext.refl w17).alloc (.cells #[.bool rxx.neg, .slice xx1 rxx.num.length xx2, .slice xx3 rxx.den.length xx4] 26)))
  have Bab := Lib.hid (Bab.out.ext ((Ext.refl w17).alloc (.cells #[.bool rxx.neg, .slice xx1 rxx.num.length xx2, .slice xx3 rxx.den.length xx4] 26)))
  have Nba := Lib.hid (Nba.out.ext ((Ext.refl w17).alloc (.cells #[.bool rxx.neg, .slice xx1 rxx.num.length xx2, .slice xx3 rxx.den.length xx4] 26)))
  have Bba := Lib.hid (Bba.out.ext ((Ext.refl w17).alloc (.cells #[.bool rxx.neg, .slice xx1 rxx.num.length xx2, .slice xx3 rxx.den.length xx4] 26)))
  have Nbc := Lib.hid (Nbc.out.ext ((Ext.refl w17).alloc (.cells #[.bool rxx.neg, .slice xx1 rxx.num.length xx2, .slice xx3 rxx.den.length xx4] 26)))
  have Bbc := Lib.hid (Bbc.out.ext ((Ext.refl w17).alloc (.cells #[.bool rxx.neg, .slice xx1 rxx.num.length xx2, .slice xx3 rxx.den.length xx4] 26)))
  have Nle := Lib.hid (Nle.out.ext ((Ext.refl w17).alloc (.cells #[.bool rxx.neg, .slice xx1 rxx.num.length xx2, .slice xx3 rxx.den.length xx4] 26)))
  have Ble := Lib.hid (Ble.out.ext ((Ext.refl w17).alloc (.cells #[.bool rxx.neg, .slice xx1 rxx.num.length xx2, .slice xx3 rxx.den.length xx4] 26)))
  have Nri := Lib.hid (Nri.out.ext ((Ext.refl w17).alloc (.cells #[.bool rxx.neg, .slice xx1 rxx.num.length xx2, .slice xx3 rxx.den.length xx4] 26)))
  have Bri := Lib.hid (Bri.out.ext ((Ext.refl w17).alloc (.cells #[.bool rxx.neg, .slice xx1 rxx.num.length xx2, .slice xx3 rxx.den.length xx4] 26)))
  have Nbk := Lib.hid (Nbk.out.ext ((Ext.refl w17).alloc (.cells #[.bool rxx.neg, .slice xx1 rxx.num.length xx2, .slice xx3 rxx.den.length xx4] 26)))
  have Bbk := Lib.hid (Bbk.out.ext ((Ext.refl w17).alloc (.cells #[.bool rxx.neg, .slice xx1 rxx.num.length xx2, .slice xx3 rxx.den.length xx4] 26)))
  have Np := Lib.hid (Np.out.ext ((Ext.refl w17).alloc (.cells #[.bool rxx.neg, .slice xx1 rxx.num.length xx2, .slice xx3 rxx.den.length xx4] 26)))
  have Bp := Lib.hid (Bp.out.ext ((Ext.refl w17).alloc (.cells #[.bool rxx.neg, .slice xx1 rxx.num.length xx2, .slice xx3 rxx.den.length xx4] 26)))
  have Nq := Lib.hid (Nq.out.ext ((Ext.refl w17).alloc (.cells #[.bool rxx.neg, .slice xx1 rxx.num.length xx2, .slice xx3 rxx.den.length xx4] 26)))
  have Bq := Lib.hid (Bq.out.ext ((Ext.refl w17).alloc (.cells #[.bool rxx.neg, .slice xx1 rxx.num.length xx2, .slice xx3 rxx.den.length xx4] 26)))
  have Nmb := Lib.hid (Nmb.out.ext ((Ext.refl w17).alloc (.cells #[.bool rxx.neg, .slice xx1 rxx.num.length xx2, .slice xx3 rxx.den.length xx4] 26)))
  have Bmb := Lib.hid (Bmb.out.ext ((Ext.refl w17).alloc (.cells #[.bool rxx.neg, .slice xx1 rxx.num.length xx2, .slice xx3 rxx.den.length xx4] 26)))
  have Nxx := Lib.hid (Nxx.out.ext ((Ext.refl w17).alloc (.cells #[.bool rxx.neg, .slice xx1 rxx.num.length xx2, .slice xx3 rxx.den.length xx4] 26)))
  have X := Lib.hid (X.out.alloc (.cells #[.bool rxx.neg, .slice xx1 rxx.num.length xx2, .slice xx3 rxx.den.length xx4] 26))
  have qBx := Bx.out.cell; have lBx := Bx.out.lt
  have qBmb := Bmb.out.cell; have lBmb := Bmb.out.lt
  go_wp2_with fail
  refine (Oyy.out _ _ _ Nx.out Nmb.out).mono ?_
  rintro e w18 ⟨⟨v, rfl, nn⟩, hx⟩
  have Bx := Lib.hid (Bx.out.ext hx)
  have By := Lib.hid (By.out.ext hx)
  have Bz := Lib.hid (Bz.out.ext hx)
  have Nx := Lib.hid (Nx.out.ext hx)
  have Ny := Lib.hid (Ny.out.ext hx)
  have Nz := Lib.hid (Nz.out.ext hx)
  have Nab := Lib.hid (Nab.out.ext hx)
  have Bab := Lib.hid (Bab.out.ext hx)
  have Nba := Lib.hid (Nba.out.ext hx)
  have Bba := Lib.hid (Bba.out.ext hx)
  have Nbc := Lib.hid (Nbc.out.ext hx)
  have Bbc := Lib.hid (Bbc.out.ext hx)
  have Nle := Lib.hid (Nle.out.ext hx)
  have Ble := Lib.hid (Ble.out.ext hx)
  have Nri := Lib.hid (Nri.out.ext hx)
  have Bri := Lib.hid (Bri.out.ext hx)
  have Nbk := Lib.hid (Nbk.out.ext hx)
  have Bbk := Lib.hid (Bbk.out.ext hx)
  have Np := Lib.hid (Np.out.ext hx)
  have Bp := Lib.hid (Bp.out.ext hx)
  have Nq := Lib.hid (Nq.out.ext hx)
  have Bq := Lib.hid (Bq.out.ext hx)
  have Nmb := Lib.hid (Nmb.out.ext hx)
  have Bmb := Lib.hid (Bmb.out.ext hx)
  have Nxx := Lib.hid (Nxx.out.ext hx)
  have Bxx := Lib.hid (Bxx.out.ext hx)
  have X := Lib.hid (X.out.trans hx)
  clear qBx lBx qBmb lBmb
  obtain ⟨yy1, yy2, yy3, yy4, rfl⟩ := nn.shape
  have Nyy := Lib.hid nn.rd
  clear nn hx
  dsimp only
  have Byy := Lib.hid (Blk.new w18 #[.bool ryy.neg, .slice yy1 ryy.num.length yy2, .slice yy3 ryy.den.length yy4] 26)
  have Bx := Lib.hid (Bx.out.ext ((Ext.refl w18).alloc (.cells #[.bool ryy.neg, .slice yy1 ryy.num.length yy2, .slice yy3 ryy.den.length yy4] 26)))
  have By := Lib.hid (By.out.ext ((Ext.refl w18).alloc (.cells #[.bool ryy.neg, .slice yy1 ryy.num.length yy2, .slice yy3 ryy.den.length yy4] 26)))
  have Bz := Lib.hid (Bz.out.ext ((Ext.refl w18).alloc (.cells #[.bool ryy.neg, .slice yy1 ryy.num.length yy2, .slice yy3 ryy.den.length yy4] 26)))
  have Nx := Lib.hid (Nx.out.ext ((Ext.refl w18).alloc (.cells #[.bool ryy.neg, .slice yy1 ryy.num.length yy2, .slice yy3 ryy.den.length yy4] 26)))
  have Ny := Lib.hid (Ny.out.ext ((Ext.refl w18).alloc (.cells #[.bool ryy.neg, .slice yy1 ryy.num.length yy2, .slice yy3 ryy.den.length yy4] 26)))
  have Nz := Lib.hid (Nz.out.ext ((Ext.refl w18).alloc (.cells #[.bool ryy.neg, .slice yy1 ryy.num.length yy2, .slice yy3 ryy.den.length yy4] 26)))
  have Nab := Lib.hid (Nab.out.ext ((Ext.refl w18).alloc (.cells #[.bool ryy.neg, .slice yy1 ryy.num.length yy2, .slice yy3 ryy.den.length yy4] 26)))
  have Bab := Lib.hid (Bab.out.ext ((Ext.refl w18).alloc (.cells #[.bool ryy.neg, .slice yy1 ryy.num.length yy2, .slice yy3 ryy.den.length yy4] 26)))
  have Nba := Lib.hid (Nba.out.ext ((Ext.refl w18).alloc (.cells #[.bool ryy.neg, .slice yy1 ryy.num.length yy2, .slice yy3 ryy.den.length yy4] 26)))
  have Bba := Lib.hid (Bba.out.ext ((Ext.refl w18).alloc (.cells #[.bool ryy.neg, .slice yy1 ryy.num.length yy2, .slice yy3 ryy.den.length yy4] 26)))
  have Nbc := Lib.hid (Nbc.out.ext ((Ext.refl w18).alloc (.cells #[.bool ryy.neg, .slice yy1 ryy.num.length yy2, .slice yy3 ryy.den.length yy4] 26)))
  have Bbc := Lib.hid (Bbc.out.ext ((Ext.refl w18).alloc (.cells #[.bool ryy.neg, .slice yy1 ryy.num.length yy2, .slice yy3 ryy.den.length yy4] 26)))
  have Nle := Lib.hid (Nle.out.ext ((Ext.refl w18).alloc (.cells #[.bool ryy.neg, .slice yy1 ryy.num.length yy2, .slice yy3 ryy.den.length yy4] 26)))
  have Ble := Lib.hid (Ble.out.ext ((Ext.refl w18).alloc (.cells #[.bool ryy.neg, .slice yy1 ryy.num.length yy2, .slice yy3 ryy.den.length yy4] 26)))
  have Nri := Lib.hid (Nri.out.ext ((Ext.refl w18).alloc (.cells #[.bool ryy.neg, .slice yy1 ryy.num.length yy2, .slice yy3 ryy.den.length yy4] 26)))
  have Bri := Lib.hid (Bri.out.ext ((Ext.refl w18).alloc (.cells #[.bool ryy.neg, .slice yy1 ryy.num.length yy2, .slice yy3 ryy.den.length yy4] 26)))
  have Nbk := Lib.hid (Nbk.out.ext ((Ext.refl w18).alloc (.cells #[.bool ryy.neg, .slice yy1 ryy.num.length yy2, .slice yy3 ryy.den.length yy4] 26)))
  have Bbk := Lib.hid (Bbk.out.ext ((Ext.refl w18).alloc (.cells #[.bool ryy.neg, .slice yy1 ryy.num.length yy2, .slice yy3 ryy.den.length yy4] 26)))
  have Np := Lib.hid (Np.out.ext ((Ext.refl w18).alloc (.cells #[.bool ryy.neg, .slice yy1 ryy.num.length yy2, .slice yy3 ryy.den.length yy4] 26)))
  have Bp := Lib.hid (Bp.out.ext ((Ext.refl w18).alloc (.cells #[.bool ryy.neg, .slice yy1 ryy.num.length yy2, .slice yy3 ryy.den.length yy4] 26)))
  have Nq := Lib.hid (Nq.out.ext ((Ext.refl w18).alloc (.cells #[.bool ryy.neg, .slice yy1 ryy.num.length yy2, .slice yy3 ryy.den.length yy4] 26)))
  have Bq := Lib.hid (Bq.out.ext ((Ext.refl w18).alloc (.cells #[.bool ryy.neg, .slice yy1 ryy.num.length yy2, .slice yy3 ryy.den.length yy4] 26)))
  have Nmb := Lib.hid (Nmb.out.ext ((Ext.refl w18).alloc (.cells #[.bool ryy.neg, .slice yy1 ryy.num.length yy2, .slice yy3 ryy.den.length yy4] 26)))
  have Bmb := Lib.hid (Bmb.out.ext ((Ext.refl w18).alloc (.cells #[.bool ryy.neg, .slice yy1 ryy.num.length yy2, .slice yy3 ryy.den.length yy4] 26)))
  have Nxx := Lib.hid (Nxx.out.ext ((Ext.refl w18).alloc (.cells #[.bool ryy.neg, .slice yy1 ryy.num.length yy2, .slice yy3 ryy.den.length yy4] 26)))
  have Bxx := Lib.hid (Bxx.out.ext ((Ext.refl w18).alloc (.cells #[.bool ryy.neg, .slice yy1 ryy.num.length yy2, .slice yy3 ryy.den.length yy4] 26)))
  have Nyy := Lib.hid (Nyy.out.ext ((Ext.refl w18).alloc (.cells #[.bool ryy.neg, .slice yy1 ryy.num.length yy2, .slice yy3 ryy.den.length yy4] 26)))
  have X := Lib.hid (X.out.alloc (.cells #[.bool ryy.neg, .slice yy1 ryy.num.length yy2, .slice yy3 ryy.den.length yy4] 26))
  have qBp := Bp.out.cell; have lBp := Bp.out.lt
  have qBq := Bq.out.cell; have lBq := Bq.out.lt
  go_wp2_with fail
  refine (equalOK_any _ _ rp rq (by rw [Ep.out, Eq.out, Rat.mul_comm]) _ Np.out Nq.out).mono ?_
  rintro e w19 ⟨rfl, hx⟩
  have Bx := Lib.hid (Bx.out.ext hx)
  have By := Lib.hid (By.out.ext hx)
  have Bz := Lib.hid (Bz.out.ext hx)
  have Nx := Lib.hid (Nx.out.ext hx)
  have Ny := Lib.hid (Ny.out.ext hx)
  have Nz := Lib.hid (Nz.out.ext hx)
  have Nab := Lib.hid (Nab.out.ext hx)
  have Bab := Lib.hid (Bab.out.ext hx)
  have Nba := Lib.hid (Nba.out.ext hx)
  have Bba := Lib.hid (Bba.out.ext hx)
  have Nbc := Lib.hid (Nbc.out.ext hx)
  have Bbc := Lib.hid (Bbc.out.ext hx)
  have Nle := Lib.hid (Nle.out.ext hx)
  have Ble := Lib.hid (Ble.out.ext hx)
  have Nri := Lib.hid (Nri.out.ext hx)
  have Bri := Lib.hid (Bri.out.ext hx)
  have Nbk := Lib.hid (Nbk.out.ext hx)
  have Bbk := Lib.hid (Bbk.out.ext hx)
  have Np := Lib.hid (Np.out.ext hx)
  have Bp := Lib.hid (Bp.out.ext hx)
  have Nq := Lib.hid (Nq.out.ext hx)
  have Bq := Lib.hid (Bq.out.ext hx)
  have Nmb := Lib.hid (Nmb.out.ext hx)
  have Bmb := Lib.hid (Bmb.out.ext hx)
  have Nxx := Lib.hid (Nxx.out.ext hx)
  have Bxx := Lib.hid (Bxx.out.ext hx)
  have Nyy := Lib.hid (Nyy.out.ext hx)
  have Byy := Lib.hid (Byy.out.ext hx)
  have X := Lib.hid (X.out.trans hx)
  clear qBp lBp qBq lBq
  clear hx
  dsimp only
  have qBxx := Bxx.out.cell; have lBxx := Bxx.out.lt
  have qByy := Byy.out.cell; have lByy := Byy.out.lt
  go_wp2_with fail
  refine (equalOK_any _ _ rxx ryy (by rw [Exx.out, Eyy.out, Rat.mul_assoc]) _ Nxx.out Nyy.out).mono ?_
  rintro e w20 ⟨rfl, hx⟩
  have Bx := Lib.hid (Bx.out.ext hx)
  have By := Lib.hid (By.out.ext hx)
  have Bz := Lib.hid (Bz.out.ext hx)
  have Nx := Lib.hid (Nx.out.ext hx)
  have Ny := Lib.hid (Ny.out.ext hx)
  have Nz := Lib.hid (Nz.out.ext hx)
  have Nab := Lib.hid (Nab.out.ext hx)
  have Bab := Lib.hid (Bab.out.ext hx)
  have Nba := Lib.hid (Nba.out.ext hx)
  have Bba := Lib.hid (Bba.out.ext hx)
  have Nbc := Lib.hid (Nbc.out.ext hx)
  have Bbc := Lib.hid (Bbc.out.ext hx)
  have Nle := Lib.hid (Nle.out.ext hx)
  have Ble := Lib.hid (Ble.out.ext hx)
  have Nri := Lib.hid (Nri.out.ext hx)
  have Bri := Lib.hid (Bri.out.ext hx)
  have Nbk := Lib.hid (Nbk.out.ext hx)
  have Bbk := Lib.hid (Bbk.out.ext hx)
  have Np := Lib.hid (Np.out.ext hx)
  have Bp := Lib.hid (Bp.out.ext hx)
  have Nq := Lib.hid (Nq.out.ext hx)
  have Bq := Lib.hid (Bq.out.ext hx)
  have Nmb := Lib.hid (Nmb.out.ext hx)
  have Bmb := Lib.hid (Bmb.out.ext hx)
  have Nxx := Lib.hid (Nxx.out.ext hx)
  have Bxx := Lib.hid (Bxx.out.ext hx)
  have Nyy := Lib.hid (Nyy.out.ext hx)
  have Byy := Lib.hid (Byy.out.ext hx)
  have X := Lib.hid (X.out.trans hx)
  clear qBxx lBxx qByy lByy
  clear hx
  dsimp only
  have qBx := Bx.out.cell; have lBx := Bx.out.lt
  have qBz := Bz.out.cell; have lBz := Bz.out.lt
  go_wp2_with fail
  refine (Oac.out _ _ _ Nx.out Nz.out).mono ?_
  rintro e w21 ⟨⟨v, rfl, nn⟩, hx⟩
  have Bx := Lib.hid (Bx.out.ext hx)
  have By := Lib.hid (By.out.ext hx)
  have Bz := Lib.hid (Bz.out.ext hx)
  have Nx := Lib.hid (Nx.out.ext hx)
  have Ny := Lib.hid (Ny.out.ext hx)
  have Nz := Lib.hid (Nz.out.ext hx)
  have Nab := Lib.hid (Nab.out.ext hx)
  have Bab := Lib.hid (Bab.out.ext hx)
  have Nba := Lib.hid (Nba.out.ext hx)
  have Bba := Lib.hid (Bba.out.ext hx)
  have Nbc := Lib.hid (Nbc.out.ext hx)
  have Bbc := Lib.hid (Bbc.out.ext hx)
  have Nle := Lib.hid (Nle.out.ext hx)
  have Ble := Lib.hid (Ble.out.ext hx)
  have Nri := Lib.hid (Nri.out.ext hx)
  have Bri := Lib.hid (Bri.out.ext hx)
  have Nbk := Lib.hid (Nbk.out.ext hx)
  have Bbk := Lib.hid (Bbk.out.ext hx)
  have Np := Lib.hid (Np.out.ext hx)
  have Bp := Lib.hid (Bp.out.ext hx)
  have Nq := Lib.hid (Nq.out.ext hx)
  have Bq := Lib.hid (Bq.out.ext hx)
  have Nmb := Lib.hid (Nmb.out.ext hx)
  have Bmb := Lib.hid (Bmb.out.ext hx)
  have Nxx := Lib.hid (Nxx.out.ext hx)
  have Bxx := Lib.hid (Bxx.out.ext hx)
  have Nyy := Lib.hid (Nyy.out.ext hx)
  have Byy := Lib.hid (Byy.out.ext hx)
  have X := Lib.hid (X.out.trans hx)
  clear qBx lBx qBz lBz
  obtain ⟨ac1, ac2, ac3, ac4, rfl⟩ := nn.shape
  have Nac := Lib.hid nn.rd
  clear nn hx
  dsimp only
  have Bac := Lib.hid (Blk.new w21 #[.bool rac.neg, .slice ac1 rac.num.length ac2, .slice ac3 rac.den.length ac4] 26)
  have Bx := Lib.hid (Bx.out.ext ((Ext.refl w21).alloc (.cells #[.bool rac.neg, .slice ac1 rac.num.length ac2, .slice ac3 rac.den.length ac4] 26)))
  have By := Lib.hid (By.out.ext ((Ext.refl w21).alloc (.cells #[.bool rac.neg, .slice ac1 rac.num.length ac2, .slice ac3 rac.den.length ac4] 26)))
  have Bz := Lib.hid (Bz.out.ext ((Ext.refl w21).alloc (.cells #[.bool rac.neg, .slice ac1 rac.num.length ac2, .slice ac3 rac.den.length ac4] 26)))
  have Nx := Lib.hid (Nx.out.ext ((Ext.refl w21).alloc (.cells #[.bool rac.neg, .slice ac1 rac.num.length ac2, .slice ac3 rac.den.length ac4] 26)))
  have Ny := Lib.hid (Ny.out.ext ((Ext.refl w21).alloc (.cells #[.bool rac.neg, .slice ac1 rac.num.length ac2, .slice ac3 rac.den.length ac4] 26)))
  have Nz := Lib.hid (Nz.out.ext ((Ext.refl w21).alloc (.cells #[.bool rac.neg, .slice ac1 rac.num.length ac2, .slice ac3 rac.den.length ac4] 26)))
  have Nab := Lib.hid (Nab.out.ext ((Ext.refl w21).alloc (.cells #[.bool rac.neg, .slice ac1 rac.num.length ac2, .slice ac3 rac.den.length ac4] 26)))
  have Bab := Lib.hid (Bab.out.ext ((Ext.refl w21).alloc (.cells #[.bool rac.neg, .slice ac1 rac.num.length ac2, .slice ac3 rac.den.length ac4] 26)))
  have Nba := Lib.hid (Nba.out.ext ((Ext.refl w21).alloc (.cells #[.bool rac.neg, .slice ac1 rac.num.length ac2, .slice ac3 rac.den.length ac4] 26)))
  have Bba := Lib.hid (Bba.out.ext ((Ext.refl w21).alloc (.cells #[.bool rac.neg, .slice ac1 rac.num.length ac2, .slice ac3 rac.den.length ac4] 26)))
  have Nbc := Lib.hid (Nbc.out.ext ((Ext.refl w21).alloc (.cells #[.bool rac.neg, .slice ac1 rac.num.length ac2, .slice ac3 rac.den.length ac4] 26)))
  have Bbc := Lib.hid (Bbc.out.ext ((Ext.refl w21).alloc (.cells #[.bool rac.neg, .slice ac1 rac.num.length ac2, .slice ac3 rac.den.length ac4] 26)))
  have Nle := Lib.hid (Nle.out.ext ((Ext.refl w21).alloc (.cells #[.bool rac.neg, .slice ac1 rac.num.length ac2, .slice ac3 rac.den.length ac4] 26)))
  have Ble := Lib.hid (Ble.out.ext ((Ext.refl w21).alloc (.cells #[.bool rac.neg, .slice ac1 rac.num.length ac2, .slice ac3 rac.den.length ac4] 26)))
  have Nri := Lib.hid (Nri.out.ext ((Ext.refl w21).alloc (.cells #[.bool rac.neg, .slice ac1 rac.num.length ac2, .slice ac3 rac.den.length ac4] 26)))
  have Bri := Lib.hid (Bri.out.ext ((Ext.refl w21).alloc (.cells #[.bool rac.neg, .slice ac1 rac.num.length ac2, .slice ac3 rac.den.length ac4] 26)))
  have Nbk := Lib.hid (Nbk.out.ext ((Ext.refl w21).alloc (.cells #[.bool rac.neg, .slice ac1 rac.num.length ac2, .slice ac3 rac.den.length ac4] 26)))
  have Bbk := Lib.hid (Bbk.out.ext ((Ext.refl w21).alloc (.cells #[.bool rac.neg, .slice ac1 rac.num.length ac2, .slice ac3 rac.den.length ac4] 26)))
  have Np := Lib.hid (Np.out.ext ((Ext.refl w21).alloc (.cells #[.bool rac.neg, .slice ac1 rac.num.length ac2, .slice ac3 rac.den.length ac4] 26)))
  have Bp := Lib.hid (Bp.out.ext ((Ext.refl w21).alloc (.cells #[.bool rac.neg, .slice ac1 rac.num.length ac2, .slice ac3 rac.den.length ac4] 26)))
  have Nq := Lib.hid (Nq.out.ext ((Ext.refl w21).alloc (.cells #[.bool rac.neg, .slice ac1 rac.num.length ac2, .slice ac3 rac.den.length ac4] 26)))
  have Bq := Lib.hid (Bq.out.ext ((Ext.refl w21).alloc (.cells #[.bool rac.neg, .slice ac1 rac.num.length ac2, .slice ac3 rac.den.length ac4] 26)))
  have Nmb := Lib.hid (Nmb.out.ext ((Ext.refl w21).alloc (.cells #[.bool rac.neg, .slice ac1 rac.num.length ac2, .slice ac3 rac.den.length ac4] 26)))
  have Bmb := Lib.hid (Bmb.out.ext ((Ext.refl w21).alloc (.cells #[.bool rac.neg, .slice ac1 rac.num.length ac2, .slice ac3 rac.den.length ac4] 26)))
  have Nxx := Lib.hid (Nxx.out.ext ((Ext.refl w21).alloc (.cells #[.bool rac.neg, .slice ac1 rac.num.length ac2, .slice ac3 rac.den.length ac4] 26)))
  have Bxx := Lib.hid (Bxx.out.ext ((Ext.refl w21).alloc (.cells #[.bool rac.neg, .slice ac1 rac.num.length ac2, .slice ac3 rac.den.length ac4] 26)))
  have Nyy := Lib.hid (Nyy.out.ext ((Ext.refl w21).alloc (.cells #[.bool rac.neg, .slice ac1 rac.num.length ac2, .slice ac3 rac.den.length ac4] 26)))
  have Byy := Lib.hid (Byy.out.ext ((Ext.refl w21).alloc (.cells #[.bool rac.neg, .slice ac1 rac.num.length ac2, .slice ac3 rac.den.length ac4] 26)))
  have Nac := Lib.hid (Nac.out.ext ((Ext.refl w21).alloc (.cells #[.bool rac.neg, .slice ac1 rac.num.length ac2, .slice ac3 rac.den.length ac4] 26)))
  have X := Lib.hid (X.out.alloc (.cells #[.bool rac.neg, .slice ac1 rac.num.length ac2, .slice ac3 rac.den.length ac4] 26))
  have qBx := Bx.out.cell; have lBx := Bx.out.lt
  have qBbc := Bbc.out.cell; have lBbc := Bbc.out.lt
  go_wp2_with fail
  refine (Os.out _ _ _ Nx.out Nbc.out).mono ?_
  rintro e w22 ⟨⟨v, rfl, nn⟩, hx⟩
  have Bx := Lib.hid (Bx.out.ext hx)
  have By := Lib.hid (By.out.ext hx)
  have Bz := Lib.hid (Bz.out.ext hx)
  have Nx := Lib.hid (Nx.out.ext hx)
  have Ny := Lib.hid (Ny.out.ext hx)
  have Nz := Lib.hid (Nz.out.ext hx)
  have Nab := Lib.hid (Nab.out.ext hx)
  have Bab := Lib.hid (Bab.out.ext hx)
  have Nba := Lib.hid (Nba.out.ext hx)
  have Bba := Lib.hid (Bba.out.ext hx)
  have Nbc := Lib.hid (Nbc.out.ext hx)
  have Bbc := Lib.hid (Bbc.out.ext hx)
  have Nle := Lib.hid (Nle.out.ext hx)
  have Ble := Lib.hid (Ble.out.ext hx)
  have Nri := Lib.hid (Nri.out.ext hx)
  have Bri := Lib.hid (Bri.out.ext hx)
  have Nbk := Lib.hid (Nbk.out.ext hx)
  have Bbk := Lib.hid (Bbk.out.ext hx)
  have Np := Lib.hid (Np.out.ext hx)
  have Bp := Lib.hid (Bp.out.ext hx)
  have Nq := Lib.hid (Nq.out.ext hx)
  have Bq := Lib.hid (Bq.out.ext hx)
  have Nmb := Lib.hid (Nmb.out.ext hx)
  have Bmb := Lib.hid (Bmb.out.ext hx)
  have Nxx := Lib.hid (Nxx.out.ext hx)
  have Bxx := Lib.hid (Bxx.out.ext hx)
  have Nyy := Lib.hid (Nyy.out.ext hx)
  have Byy := Lib.hid (Byy.out.ext hx)
  have Nac := Lib.hid (Nac.out.ext hx)
  have Bac := Lib.hid (Bac.out.ext hx)
  have X := Lib.hid (X.out.trans hx)
  clear qBx lBx qBbc lBbc
  obtain ⟨s1, s2, s3, s4, rfl⟩ := nn.shape
  have Ns := Lib.hid nn.rd
  clear nn hx
  dsimp only
  have Bs := Lib.hid (Blk.new w22 #[.bool rs.neg, .slice s1 rs.num.length s2, .slice s3 rs.den.length s4] 26)
  have Bx := Lib.hid (Bx.out.ext ((Ext.refl w22).alloc (.cells #[.bool rs.neg, .slice s1 rs.num.length s2, .slice s3 rs.den.length s4] 26)))
  have By := Lib.hid (By.out.ext ((Ext.refl w22).alloc (.cells #[.bool rs.neg, .slice s1 rs.num.length s2, .slice s3 rs.den.length s4] 26)))
  have Bz := Lib.hid (Bz.out.ext ((Ext.refl w22).alloc (.cells #[.bool rs.neg, .slice s1 rs.num.length s2, .slice s3 rs.den.length s4] 26)))
  have Nx := Lib.hid (Nx.out.ext ((Ext.refl w22).alloc (.cells #[.bool rs.neg, .slice s1 rs.num.length s2, .slice s3 rs.den.length s4] 26)))
  have Ny := Lib.hid (Ny.out.ext ((Ext.refl w22).alloc (.cells #[.bool rs.neg, .slice s1 rs.num.length s2, .slice s3 rs.den.length s4] 26)))
  have Nz := Lib.hid (Nz.out.ext ((Ext.refl w22).alloc (.cells #[.bool rs.neg, .slice s1 rs.num.length s2, .slice s3 rs.den.length s4] 26)))
  have Nab := Lib.hid (Nab.out.ext ((Ext.refl w22).alloc (.cells #[.bool rs.neg, .slice s1 rs.num.length s2, .slice s3 rs.den.length s4] 26)))
  have Bab := Lib.hid (Bab.out.ext ((Ext.refl w22).alloc (.cells #[.bool rs.neg, .slice s1 rs.num.length s2, .slice s3 rs.den.length s4] 26)))
  have Nba := Lib.hid (Nba.out.ext ((Ext.refl w22).alloc (.cells #[.bool rs.neg, .slice s1 rs.num.length s2, .slice s3 rs.den.length s4] 26)))
  have Bba := Lib.hid (Bba.out.ext ((Ext.refl w22).alloc (.cells #[.bool rs.neg, .slice s1 rs.num.length s2, .slice s3 rs.den.length s4] 26)))
  have Nbc := Lib.hid (Nbc.out.ext ((Ext.refl w22).alloc (.cells #[.bool rs.neg, .slice s1 rs.num.length s2, .slice s3 rs.den.length s4] 26)))
  have Bbc := Lib.hid (Bbc.out.ext ((Ext.refl w22).alloc (.cells #[.bool rs.neg, .slice s1 rs.num.length s2, .slice s3 rs.den.length s4] 26)))
  have Nle := Lib.hid (Nle.out.ext ((Ext.refl w22).alloc (.cells #[.bool rs.neg, .slice s1 rs.num.length s2, .slice s3 rs.den.length s4] 26)))
  have Ble := Lib.hid (Ble.out.ext ((Ext.refl w22).alloc (.cells #[.bool rs.neg, .slice s1 rs.num.length s2, .slice s3 rs.den.length s4] 26)))
  have Nri := Lib.hid (Nri.out.ext ((Ext.refl w22).alloc (.cells #[.bool rs.neg, .slice s1 rs.num.length s2, .slice s3 rs.den.length s4] 26)))
  have Bri := Lib.hid (Bri.out.ext ((Ext.refl w22).alloc (.cells #[.bool rs.neg, .slice s1 rs.num.length s2, .slice s3 rs.den.length s4] 26)))
  have Nbk := Lib.hid (Nbk.out.ext ((Ext.refl w22).alloc (.cells #[.bool rs.neg, .slice s1 rs.num.length s2, .slice s3 rs.den.length s4] 26)))
  have Bbk := Lib.hid (Bbk.out.ext ((Ext.refl w22).alloc (.cells #[.bool rs.neg, .slice s1 rs.num.length s2, .slice s3 rs.den.length s4] 26)))
  have Np := Lib.hid (Np.out.ext ((Ext.refl w22).alloc (.cells #[.bool rs.neg, .slice s1 rs.num.length s2, .slice s3 rs.den.length s4] 26)))
  have Bp := Lib.hid (Bp.out.ext ((Ext.refl w22).alloc (.cells #[.bool rs.neg, .slice s1 rs.num.length s2, .slice s3 rs.den.length s4] 26)))
  have Nq := Lib.hid (Nq.out.ext ((Ext.refl w22).alloc (.cells #[.bool rs.neg, .slice s1 rs.num.length s2, .slice s3 rs.den.length s4] 26)))
  have Bq := Lib.hid (Bq.out.ext ((Ext.refl w22).alloc (.cells #[.bool rs.neg, .slice s1 rs.num.length s2, .slice s3 rs.den.length s4] 26)))
  have Nmb := Lib.hid (Nmb.out.ext ((Ext.refl w22).alloc (.cells #[.bool rs.neg, .slice s1 rs.num.length s2, .slice s3 rs.den.length s4] 26)))
  have Bmb := Lib.hid (Bmb.out.ext ((Ext.refl w22).alloc (.cells #[.bool rs.neg, .slice s1 rs.num.length s2, .slice s3 rs.den.length s4] 26)))
  have Nxx := Lib.hid (Nxx.out.ext ((Ext.refl w22).alloc (.cells #[.bool rs.neg, .slice s1 rs.num.length s2, .slice s3 rs.den.length s4] 26)))
  have Bxx := Lib.hid (Bxx.out.ext ((Ext.refl w22).alloc (.cells #[.bool rs.neg, .slice s1 rs.num.length s2, .slice s3 rs.den.length s4] 26)))
  have Nyy := Lib.hid (Nyy.out.ext ((Ext.refl w22).alloc (.cells #[.bool rs.neg, .slice s1 rs.num.length s2, .slice s3 rs.den.length s4] 26)))
  have Byy := Lib.hid (Byy.out.ext ((Ext.refl w22).alloc (.cells #[.bool rs.neg, .slice s1 rs.num.length s2, .slice s3 rs.den.length s4] 26)))
  have Nac := Lib.hid (Nac.out.ext ((Ext.refl w22).alloc (.cells #[.bool rs.neg, .slice s1 rs.num.length s2, .slice s3 rs.den.length s4] 26)))
  have Bac := Lib.hid (Bac.out.ext ((Ext.refl w22).alloc (.cells #[.bool rs.neg, .slice s1 rs.num.length s2, .slice s3 rs.den.length s4] 26)))
  have Ns := Lib.hid (Ns.out.ext ((Ext.refl w22).alloc (.cells #[.bool rs.neg, .slice s1 rs.num.length s2, .slice s3 rs.den.length s4] 26)))
  have X := Lib.hid (X.out.alloc (.cells #[.bool rs.neg, .slice s1 rs.num.length s2, .slice s3 rs.den.length s4] 26))
  have qBp := Bp.out.cell; have lBp := Bp.out.lt
  have qBac := Bac.out.cell; have lBac := Bac.out.lt
  go_wp2_with fail
  refine (Ott.out _ _ _ Np.out Nac.out).mono ?_
  rintro e w23 ⟨⟨v, rfl, nn⟩, hx⟩
  have Bx := Lib.hid (Bx.out.ext hx)
  have By := Lib.hid (By.out.ext hx)
  have Bz := Lib.hid (Bz.out.ext hx)
  have Nx := Lib.hid (Nx.out.ext hx)
  have Ny := Lib.hid (Ny.out.ext hx)
  have Nz := Lib.hid (Nz.out.ext hx)
  have Nab := Lib.hid (Nab.out.ext hx)
  have Bab := Lib.hid (Bab.out.ext hx)
  have Nba := Lib.hid (Nba.out.ext hx)
  have Bba := Lib.hid (Bba.out.ext hx)
  have Nbc := Lib.hid (Nbc.out.ext hx)
  have Bbc := Lib.hid (Bbc.out.ext hx)
  have Nle := Lib.hid (Nle.out.ext hx)
  have Ble := Lib.hid (Ble.out.ext hx)
  have Nri := Lib.hid (Nri.out.ext hx)
  have Bri := Lib.hid (Bri.out.ext hx)
  have Nbk := Lib.hid (Nbk.out.ext hx)
  have Bbk := Lib.hid (Bbk.out.ext hx)
  have Np := Lib.hid (Np.out.ext hx)
  have Bp := Lib.hid (Bp.out.ext hx)
  have Nq := Lib.hid (Nq.out.ext hx)
  have Bq := Lib.hid (Bq.out.ext hx)
  have Nmb := Lib.hid (Nmb.out.ext hx)
  have Bmb := Lib.hid (Bmb.out.ext hx)
  have Nxx := Lib.hid (Nxx.out.ext hx)
  have Bxx := Lib.hid (Bxx.out.ext hx)
  have Nyy := Lib.hid (Nyy.out.ext hx)
  have Byy := Lib.hid (Byy.out.ext hx)
  have Nac := Lib.hid (Nac.out.ext hx)
  have Bac := Lib.hid (Bac.out.ext hx)
  have Ns := Lib.hid (Ns.out.ext hx)
  have Bs := Lib.hid (Bs.out.ext hx)
  have X := Lib.hid (X.out.trans hx)
  clear qBp lBp qBac lBac
  obtain ⟨tt1, tt2, tt3, tt4, rfl⟩ := nn.shape
  have Ntt := Lib.hid nn.rd
  clear nn hx
  dsimp only
  have Btt := Lib.hid (Blk.new w23 #[.bool rtt.neg, .slice tt1 rtt.num.length tt2, .slice tt3 rtt.den.length tt4] 26)
  have Bx := Lib.hid (Bx.out.ext ((Ext.refl w23).alloc (.cells #[.bool rtt.neg, .slice tt1 rtt.num.length tt2, .slice tt3 rtt.den.length tt4] 26)))
  have By := Lib.hid (By.out.ext ((Ext.refl w23).alloc (.cells #[.bool rtt.neg, .slice tt1 rtt.num.length tt2, .slice tt3 rtt.den.length tt4] 26)))
  have Bz := Lib.hid (Bz.out.ext ((Ext.refl w23).alloc (.cells #[.bool rtt.neg, .slice tt1 rtt.num.length tt2, .slice tt3 rtt.den.length tt4] 26)))
  have Nx := Lib.hid (Nx.out.ext ((Ext.refl w23).alloc (.cells #[.bool rtt.neg, .slice tt1 rtt.num.length tt2, .slice tt3 rtt.den.length tt4] 26)))
  have Ny := Lib.hid (Ny.out.ext ((Ext.refl w23).alloc (.cells #[.bool rtt.neg, .slice tt1 rtt.num.length tt2, .slice tt3 rtt.den.length tt4] 26)))
  have Nz := Lib.hid (Nz.out.ext ((Ext.refl w23).alloc (.cells #[.bool rtt.neg, .slice tt1 rtt.num.length tt2, .slice tt3 rtt.den.length tt4] 26)))
  have Nab := Lib.hid (Nab.out.ext ((Ext.refl w23).alloc (.cells #[.bool rtt.neg, .slice tt1 rtt.num.length tt2, .slice tt3 rtt.den.length tt4] 26)))
  have Bab := Lib.hid (Bab.out.ext ((Ext.refl w23).alloc (.cells #[.bool rtt.neg, .slice tt1 rtt.num.length tt2, .slice tt3 rtt.den.length tt4] 26)))
  have Nba := Lib.hid (Nba.out.ext ((Ext.refl w23).alloc (.cells #[.bool rtt.neg, .slice tt1 rtt.num.length tt2, .slice tt3 rtt.den.length tt4] 26)))
  have Bba := Lib.hid (Bba.out.ext ((Ext.refl w23).alloc (.cells #[.bool rtt.neg, .slice tt1 rtt.num.length tt2, .slice tt3 rtt.den.length tt4] 26)))
  have Nbc := Lib.hid (Nbc.out.ext ((Ext.refl w23).alloc (.cells #[.bool rtt.neg, .slice tt1 rtt.num.length tt2, .slice tt3 rtt.den.length tt4] 26)))
  have Bbc := Lib.hid (Bbc.out.ext ((Ext.refl w23).alloc (.cells #[.bool rtt.neg, .slice tt1 rtt.num.length tt2, .slice tt3 rtt.den.length tt4] 26)))
  have Nle := Lib.hid (Nle.out.ext ((Ext.refl w23).alloc (.cells #[.bool rtt.neg, .slice tt1 rtt.num.length tt2, .slice tt3 rtt.den.length tt4] 26)))
  have Ble := Lib.hid (Ble.out.ext ((Ext.refl w23).alloc (.cells #[.bool rtt.neg, .slice tt1 rtt.num.length tt2, .slice tt3 rtt.den.length tt4] 26)))
  have Nri := Lib.hid (Nri.out.ext ((Ext.refl w23).alloc (.cells #[.bool rtt.neg, .slice tt1 rtt.num.length tt2, .slice tt3 rtt.den.length tt4] 26)))
  have Bri := Lib.hid (Bri.out.ext ((Ext.refl w23).alloc (.cells #[.bool rtt.neg, .slice tt1 rtt.num.length tt2, .slice tt3 rtt.den.length tt4] 26)))
  have Nbk := Lib.hid (Nbk.out.ext ((Ext.refl w23).alloc (.cells #[.bool rtt.neg, .slice tt1 rtt.num.length tt2, .slice tt3 rtt.den.length tt4] 26)))
  have Bbk := Lib.hid (Bbk.out.ext ((Ext.refl w23).alloc (.cells #[.bool rtt.neg, .slice tt1 rtt.num.length tt2, .slice tt3 rtt.den.length tt4] 26)))
  have Np := Lib.hid (Np.out.ext ((Ext.refl w23).alloc (.cells #[.bool rtt.neg, .slice tt1 rtt.num.length tt2, .slice tt3 rtt.den.length tt4] 26)))
  have Bp := Lib.hid (Bp.out.ext ((Ext.refl w23).alloc (.cells #[.bool rtt.neg, .slice tt1 rtt.num.length tt2, .slice tt3 rtt.den.length tt4] 26)))
  have Nq := Lib.hid (Nq.out.ext ((Ext.refl w23).alloc (.cells #[.bool rtt.neg, .slice tt1 rtt.num.length tt2, .slice tt3 rtt.den.length tt4] 26)))
  have Bq := Lib.hid (Bq.out.ext ((Ext.refl w23).alloc (.cells #[.bool rtt.neg, .slice tt1 rtt.num.length tt2, .slice tt3 rtt.den.length tt4] 26)))
  have Nmb := Lib.hid (Nmb.out.ext ((Ext.refl w23).alloc (.cells #[.bool rtt.neg, .slice tt1 rtt.num.length tt2, .slice tt3 rtt.den.length tt4] 26)))
  have Bmb := Lib.hid (Bmb.out.ext ((Ext.refl w23).alloc (.cells #[.bool rtt.neg, .slice tt1 rtt.num.length tt2, .slice tt3 rtt.den.length tt4] 26)))
  have Nxx := Lib.hid (Nxx.out.ext ((Ext.refl w23).alloc (.cells #[.bool rtt.neg, .slice tt1 rtt.num.length tt2, .slice tt3 rtt.den.length tt4] 26)))
  have Bxx := Lib.hid (Bxx.out.ext ((Ext.refl w23).alloc (.cells #[.bool rtt.neg, .slice tt1 rtt.num.length tt2, .slice tt3 rtt.den.length tt4] 26)))
  have Nyy := Lib.hid (Nyy.out.ext ((Ext.refl w23).alloc (.cells #[.bool rtt.neg, .slice tt1 rtt.num.length tt2, .slice tt3 rtt.den.length tt4] 26)))
  have Byy := Lib.hid (Byy.out.ext ((Ext.refl w23).alloc (.cells #[.bool rtt.neg, .slice tt1 rtt.num.length tt2, .slice tt3 rtt.den.length tt4] 26)))
  have Nac := Lib.hid (Nac.out.ext ((Ext.refl w23).alloc (.cells #[.bool rtt.neg, .slice tt1 rtt.num.length tt2, .slice tt3 rtt.den.length tt4] 26)))
  have Bac := Lib.hid (Bac.out.ext ((Ext.refl w23).alloc (.cells #[.bool rtt.neg, .slice tt1 rtt.num.length tt2, .slice tt3 rtt.den.length tt4] 26)))
  have Ns := Lib.hid (Ns.out.ext ((Ext.refl w23).alloc (.cells #[.bool rtt.neg, .slice tt1 rtt.num.length tt2, .slice tt3 rtt.den.length tt4] 26)))
  have Bs := Lib.hid (Bs.out.ext ((Ext.refl w23).alloc (.cells #[.bool rtt.neg, .slice tt1 rtt.num.length tt2, .slice tt3 rtt.den.length tt4] 26)))
  have Ntt := Lib.hid (Ntt.out.ext ((Ext.refl w23).alloc (.cells #[.bool rtt.neg, .slice tt1 rtt.num.length tt2, .slice tt3 rtt.den.length tt4] 26)))
  have X := Lib.hid (X.out.alloc (.cells #[.bool rtt.neg, .slice tt1 rtt.num.length tt2, .slice tt3 rtt.den.length tt4] 26))
  have qBs := Bs.out.cell; have lBs := Bs.out.lt
  have qBtt := Btt.out.cell; have lBtt := Btt.out.lt
  go_wp2_with fail
  refine (equalOK_any _ _ rs rtt (by rw [Es.out, Ett.out, Rat.mul_add]) _ Ns.out Ntt.out).mono ?_
  rintro e w24 ⟨rfl, hx⟩
  have Bx := Lib.hid (Bx.out.ext hx)
  have By := Lib.hid (By.out.ext hx)
  have Bz := Lib.hid (Bz.out.ext hx)
  have Nx := Lib.hid (Nx.out.ext hx)
  have Ny := Lib.hid (Ny.out.ext hx)
  have Nz := Lib.hid (Nz.out.ext hx)
  have Nab := Lib.hid (Nab.out.ext hx)
  have Bab := Lib.hid (Bab.out.ext hx)
  have Nba := Lib.hid (Nba.out.ext hx)
  have Bba := Lib.hid (Bba.out.ext hx)
  have Nbc := Lib.hid (Nbc.out.ext hx)
  have Bbc := Lib.hid (Bbc.out.ext hx)
  have Nle := Lib.hid (Nle.out.ext hx)
  have Ble := Lib.hid (Ble.out.ext hx)
  have Nri := Lib.hid (Nri.out.ext hx)
  have Bri := Lib.hid (Bri.out.ext hx)
  have Nbk := Lib.hid (Nbk.out.ext hx)
  have Bbk := Lib.hid (Bbk.out.ext hx)
  have Np := Lib.hid (Np.out.ext hx)
  have Bp := Lib.hid (Bp.out.ext hx)
  have Nq := Lib.hid (Nq.out.ext hx)
  have Bq := Lib.hid (Bq.out.ext hx)
  have Nmb := Lib.hid (Nmb.out.ext hx)
  have Bmb := Lib.hid (Bmb.out.ext hx)
  have Nxx := Lib.hid (Nxx.out.ext hx)
  have Bxx := Lib.hid (Bxx.out.ext hx)
  have Nyy := Lib.hid (Nyy.out.ext hx)
  have Byy := Lib.hid (Byy.out.ext hx)
  have Nac := Lib.hid (Nac.out.ext hx)
  have Bac := Lib.hid (Bac.out.ext hx)
  have Ns := Lib.hid (Ns.out.ext hx)
  have Bs := Lib.hid (Bs.out.ext hx)
  have Ntt := Lib.hid (Ntt.out.ext hx)
  have Btt := Lib.hid (Btt.out.ext hx)
  have X := Lib.hid (X.out.trans hx)
  clear qBs lBs qBtt lBtt
  clear hx
  dsimp only
  have hsp := small_of_bd Dp.out (by decide)
  have hs2 := small_of_bd D2.out (by decide)
  have od := fun W va vb (h1 : RdR W va rp) (h2 : RdR W vb r2) => divR_any va vb rp r2 W h1 h2 Lp.out G2.out
  by_cases hb0 : b = 0
  case pos =>
    rw [show divR rp r2 = (zR, 14) by rw [Ep.out, E2.out, hb0]; exact div_rep0 (by rw [← hb0]; exact hsp)] at od
    have hz : ((r2.num.length : Int) == 0) = true := by rw [E2.out, hb0]; rfl
    have OD := Lib.hid od
    clear od hsp hs2 hb0
    obtain ⟨rz, hrz⟩ : ∃ rz, rz = zR := ⟨_, rfl⟩
    rw [← hrz] at OD
    clear hrz
    have qBp := Bp.out.cell; have lBp := Bp.out.lt
    have qBy := By.out.cell; have lBy := By.out.lt
    go_wp2_with fail
    refine (OD.out _ _ _ Np.out Ny.out).mono ?_
    rintro e w25 ⟨⟨v, rfl, nn⟩, hx⟩
    have Bx := Lib.hid (Bx.out.ext hx)
    have By := Lib.hid (By.out.ext hx)
    have Bz := Lib.hid (Bz.out.ext hx)
    have Nx := Lib.hid (Nx.out.ext hx)
    have Ny := Lib.hid (Ny.out.ext hx)
    have Nz := Lib.hid (Nz.out.ext hx)
    have Nab := Lib.hid (Nab.out.ext hx)
    have Bab := Lib.hid (Bab.out.ext hx)
    have Nba := Lib.hid (Nba.out.ext hx)
    have Bba := Lib.hid (Bba.out.ext hx)
    have Nbc := Lib.hid (Nbc.out.ext hx)
    have Bbc := Lib.hid (Bbc.out.ext hx)
    have Nle := Lib.hid (Nle.out.ext hx)
    have Ble := Lib.hid (Ble.out.ext hx)
    have Nri := Lib.hid (Nri.out.ext hx)
    have Bri := Lib.hid (Bri.out.ext hx)
    have Nbk := Lib.hid (Nbk.out.ext hx)
    have Bbk := Lib.hid (Bbk.out.ext hx)
    have Np := Lib.hid (Np.out.ext hx)
    have Bp := Lib.hid (Bp.out.ext hx)
    have Nq := Lib.hid (Nq.out.ext hx)
    have Bq := Lib.hid (Bq.out.ext hx)
    have Nmb := Lib.hid (Nmb.out.ext hx)
    have Bmb := Lib.hid (Bmb.out.ext hx)
    have Nxx := Lib.hid (Nxx.out.ext hx)
    have Bxx := Lib.hid (Bxx.out.ext hx)
    have Nyy := Lib.hid (Nyy.out.ext hx)
    have Byy := Lib.hid (Byy.out.ext hx)
    have Nac := Lib.hid (Nac.out.ext hx)
    have Bac := Lib.hid (Bac.out.ext hx)
    have Ns := Lib.hid (Ns.out.ext hx)
    have Bs := Lib.hid (Bs.out.ext hx)
    have Ntt := Lib.hid (Ntt.out.ext hx)
    have Btt := Lib.hid (Btt.out.ext hx)
    have X := Lib.hid (X.out.trans hx)
    clear qBp lBp qBy lBy
    obtain ⟨d1, d2, d3, d4, rfl⟩ := nn.shape
    have Nd := Lib.hid nn.rd
    clear nn hx
    dsimp only
    have Bd := Lib.hid (Blk.new w25 #[.bool rz.neg, .slice d1 rz.num.length d2, .slice d3 rz.den.length d4] 26)
    have Bx := Lib.hid (Bx.out.ext ((Ext.refl w25).alloc (.cells #[.bool rz.neg, .slice d1 rz.num.length d2, .slice d3 rz.den.length d4] 26)))
    have By := Lib.hid (By.out.ext ((Ext.refl w25).alloc (.cells #[.bool rz.neg, .slice d1 rz.num.length d2, .slice d3 rz.den.length d4] 26)))
    have Bz := Lib.hid (Bz.out.ext ((Ext.refl w25).alloc (.cells #[.bool rz.neg, .slice d1 rz.num.length d2, .slice d3 rz.den.length d4] 26)))
    have Nx := Lib.hid (Nx.out.ext ((Ext.refl w25).alloc (.cells #[.bool rz.neg, .slice d1 rz.num.length d2, .slice d3 rz.den.length d4] 26)))
    have Ny := Lib.hid (Ny.out.ext ((Ext.refl w25).alloc (.cells #[.bool rz.neg, .slice d1 rz.num.length d2, .slice d3 rz.den.length d4] 26)))
    have Nz := Lib.hid (Nz.out.ext ((Ext.refl w25).alloc (.cells #[.bool rz.neg, .slice d1 rz.num.length d2, .slice d3 rz.den.length d4] 26)))
    have Nab := Lib.hid (Nab.out.ext ((Ext.refl w25).alloc (.cells #[.bool rz.neg, .slice d1 rz.num.length d2, .slice d3 rz.den.length d4] 26)))
    have Bab := Lib.hid (Bab.out.ext ((Ext.refl w25).alloc (.cells #[.bool rz.neg, .slice d1 rz.num.length d2, .slice d3 rz.den.length d4] 26)))
    have Nba := Lib.hid (Nba.out.ext ((Ext.refl w25).alloc (.cells #[.bool rz.neg, .slice d1 rz.num.length d2, .slice d3 rz.den.length d4] 26)))
    have Bba := Lib.hid (Bba.out.ext ((Ext.refl w25).alloc (.cells #[.bool rz.neg, .slice d1 rz.num.length d2, .slice d3 rz.den.length d4] 26)))
    have Nbc := Lib.hid (Nbc.out.ext ((Ext.refl w25).alloc (.cells #[.bool rz.neg, .slice d1 rz.num.length d2, .slice d3 rz.den.length d4] 26)))
    have Bbc := Lib.hid (Bbc.out.ext ((Ext.refl w25).alloc (.cells #[.bool rz.neg, .slice d1 rz.num.length d2, .slice d3 rz.den.length d4] 26)))
    have Nle := Lib.hid (Nle.out.ext ((Ext.refl w25).alloc (.cells #[.bool rz.neg, .slice d1 rz.num.length d2, .slice d3 rz.den.length d4] 26)))
    have Ble := Lib.hid (Ble.out.ext ((Ext.refl w25).alloc (.cells #[.bool rz.neg, .slice d1 rz.num.length d2, .slice d3 rz.den.length d4] 26)))
    have Nri := Lib.hid (Nri.out.ext ((Ext.refl w25).alloc (.cells #[.bool rz.neg, .slice d1 rz.num.length d2, .slice d3 rz.den.length d4] 26)))
    have Bri := Lib.hid (Bri.out.ext ((Ext.refl w25).alloc (.cells #[.bool rz.neg, .slice d1 rz.num.length d2, .slice d3 rz.den.length d4] 26)))
    have Nbk := Lib.hid (Nbk.out.ext ((Ext.refl w25).alloc (.cells #[.bool rz.neg, .slice d1 rz.num.length d2, .slice d3 rz.den.length d4] 26)))
    have Bbk := Lib.hid (Bbk.out.ext ((Ext.refl w25).alloc (.cells #[.bool rz.neg, .slice d1 rz.num.length d2, .slice d3 rz.den.length d4] 26)))
    have Np := Lib.hid (Np.out.ext ((Ext.refl w25).alloc (.cells #[.bool rz.neg, .slice d1 rz.num.length d2, .slice d3 rz.den.length d4] 26)))
    have Bp := Lib.hid (Bp.out.ext ((Ext.refl w25).alloc (.cells #[.bool rz.neg, .slice d1 rz.num.length d2, .slice d3 rz.den.length d4] 26)))
    have Nq := Lib.hid (Nq.out.ext ((Ext.refl w25).alloc (.cells #[.bool rz.neg, .slice d1 rz.num.length d2, .slice d3 rz.den.length d4] 26)))
    have Bq := Lib.hid (Bq.out.ext ((Ext.refl w25).alloc (.cells #[.bool rz.neg, .slice d1 rz.num.length d2, .slice d3 rz.den.length d4] 26)))
    have Nmb := Lib.hid (Nmb.out.ext ((Ext.refl w25).alloc (.cells #[.bool rz.neg, .slice d1 rz.num.length d2, .slice d3 rz.den.length d4] 26)))
    have Bmb := Lib.hid (Bmb.out.ext ((Ext.refl w25).alloc (.cells #[.bool rz.neg, .slice d1 rz.num.length d2, .slice d3 rz.den.length d4] 26)))
    have Nxx := Lib.hid (Nxx.out.ext ((Ext.refl w25).alloc (.cells #[.bool rz.neg, .slice d1 rz.num.length d2, .slice d3 rz.den.length d4] 26)))
    have Bxx := Lib.hid (Bxx.out.ext ((Ext.refl w25).alloc (.cells #[.bool rz.neg, .slice d1 rz.num.length d2, .slice d3 rz.den.length d4] 26)))
    have Nyy := Lib.hid (Nyy.out.ext ((Ext.refl w25).alloc (.cells #[.bool rz.neg, .slice d1 rz.num.length d2, .slice d3 rz.den.length d4] 26)))
    have Byy := Lib.hid (Byy.out.ext ((Ext.refl w25).alloc (.cells #[.bool rz.neg, .slice d1 rz.num.length d2, .slice d3 rz.den.length d4] 26)))
    have Nac := Lib.hid (Nac.out.ext ((Ext.refl w25).alloc (.cells #[.bool rz.neg, .slice d1 rz.num.length d2, .slice d3 rz.den.length d4] 26)))
    have Bac := Lib.hid (Bac.out.ext ((Ext.refl w25).alloc (.cells #[.bool rz.neg, .slice d1 rz.num.length d2, .slice d3 rz.den.length d4] 26)))
    have Ns := Lib.hid (Ns.out.ext ((Ext.refl w25).alloc (.cells #[.bool rz.neg, .slice d1 rz.num.length d2, .slice d3 rz.den.length d4] 26)))
    have Bs := Lib.hid (Bs.out.ext ((Ext.refl w25).alloc (.cells #[.bool rz.neg, .slice d1 rz.num.length d2, .slice d3 rz.den.length d4] 26)))
    have Ntt := Lib.hid (Ntt.out.ext ((Ext.refl w25).alloc (.cells #[.bool rz.neg, .slice d1 rz.num.length d2, .slice d3 rz.den.length d4] 26)))
    have Btt := Lib.hid (Btt.out.ext ((Ext.refl w25).alloc (.cells #[.bool rz.neg, .slice d1 rz.num.length d2, .slice d3 rz.den.length d4] 26)))
    have Nd := Lib.hid (Nd.out.ext ((Ext.refl w25).alloc (.cells #[.bool rz.neg, .slice d1 rz.num.length d2, .slice d3 rz.den.length d4] 26)))
    have X := Lib.hid (X.out.alloc (.cells #[.bool rz.neg, .slice d1 rz.num.length d2, .slice d3 rz.den.length d4] 26))
    have qBy := By.out.cell; have lBy := By.out.lt
    go_wp2_with fail
    go_ret
    exact ⟨rfl, X.out⟩
  have hdq : a * b / b = a := Rat.mul_div_cancel hb0
  have hs1 := small_of_bd D1.out (by decide)
  rw [show divR rp r2 = (r1, 0) by rw [Ep.out, E2.out, E1.out, div_rep hsp hs2 hb0 (by rw [hdq]; exact hs1), hdq]] at od
  have OD := Lib.hid od
  have hz : ((rze.num.length : Int) == 0) = true := by rw [Eze.out, Rat.add_neg_cancel]; rfl
  have HZ := Lib.hid hz
  have cl := fun W v (h : RdR W v rle) => checkR_any v rle W h Lle.out
  rw [show chkR rle = 0 by rw [Ele.out]; exact chk_rep (small_of_bd Dle.out (by decide))] at cl
  have cx := fun W v (h : RdR W v rxx) => checkR_any v rxx W h Lxx.out
  rw [show chkR rxx = 0 by rw [Exx.out]; exact chk_rep (small_of_bd Dxx.out (by decide))] at cx
  have CL := Lib.hid cl; have CX := Lib.hid cx
  clear od hsp hs2 hs1 hb0 hdq hz cl cx
  have qBp := Bp.out.cell; have lBp := Bp.out.lt
  have qBy := By.out.cell; have lBy := By.out.lt
  go_wp2_with fail
  refine (OD.out _ _ _ Np.out Ny.out).mono ?_
  rintro e w25 ⟨⟨v, rfl, nn⟩, hx⟩
  have Bx := Lib.hid (Bx.out.ext hx)
  have By := Lib.hid (By.out.ext hx)
  have Bz := Lib.hid (Bz.out.ext hx)
  have Nx := Lib.hid (Nx.out.ext hx)
  have Ny := Lib.hid (Ny.out.ext hx)
  have Nz := Lib.hid (Nz.out.ext hx)
  have Nab := Lib.hid (Nab.out.ext hx)
  have Bab := Lib.hid (Bab.out.ext hx)
  have Nba := Lib.hid (Nba.out.ext hx)
  have Bba := Lib.hid (Bba.out.ext hx)
  have Nbc := Lib.hid (Nbc.out.ext hx)
  have Bbc := Lib.hid (Bbc.out.ext hx)
  have Nle := Lib.hid (Nle.out.ext hx)
  have Ble := Lib.hid (Ble.out.ext hx)
  have Nri := Lib.hid (Nri.out.ext hx)
  have Bri := Lib.hid (Bri.out.ext hx)
  have Nbk := Lib.hid (Nbk.out.ext hx)
  have Bbk := Lib.hid (Bbk.out.ext hx)
  have Np := Lib.hid (Np.out.ext hx)
  have Bp := Lib.hid (Bp.out.ext hx)
  have Nq := Lib.hid (Nq.out.ext hx)
  have Bq := Lib.hid (Bq.out.ext hx)
  have Nmb := Lib.hid (Nmb.out.ext hx)
  have Bmb := Lib.hid (Bmb.out.ext hx)
  have Nxx := Lib.hid (Nxx.out.ext hx)
  have Bxx := Lib.hid (Bxx.out.ext hx)
  have Nyy := Lib.hid (Nyy.out.ext hx)
  have Byy := Lib.hid (Byy.out.ext hx)
  have Nac := Lib.hid (Nac.out.ext hx)
  have Bac := Lib.hid (Bac.out.ext hx)
  have Ns := Lib.hid (Ns.out.ext hx)
  have Bs := Lib.hid (Bs.out.ext hx)
  have Ntt := Lib.hid (Ntt.out.ext hx)
  have Btt := Lib.hid (Btt.out.ext hx)
  have X := Lib.hid (X.out.trans hx)
  clear qBp lBp qBy lBy
  obtain ⟨d1, d2, d3, d4, rfl⟩ := nn.shape
  have Nd := Lib.hid nn.rd
  clear nn hx
  dsimp only
  have Bd := Lib.hid (Blk.new w25 #[.bool r1.neg, .slice d1 r1.num.length d2, .slice d3 r1.den.length d4] 26)
  have Bx := Lib.hid (Bx.out.ext ((Ext.refl w25).alloc (.cells #[.bool r1.neg, .slice d1 r1.num.length d2, .slice d3 r1.den.length d4] 26)))
  have By := Lib.hid (By.out.ext ((Ext.refl w25).alloc (.cells #[.bool r1.neg, .slice d1 r1.num.length d2, .slice d3 r1.den.length d4] 26)))
  have Bz := Lib.hid (Bz.out.ext ((Ext.refl w25).alloc (.cells #[.bool r1.neg, .slice d1 r1.num.length d2, .slice d3 r1.den.length d4] 26)))
  have Nx := Lib.hid (Nx.out.ext ((Ext.refl w25).alloc (.cells #[.bool r1.neg, .slice d1 r1.num.length d2, .slice d3 r1.den.length d4] 26)))
  have Ny := Lib.hid (Ny.out.ext ((Ext.refl w25).alloc (.cells #[.bool r1.neg, .slice d1 r1.num.length d2, .slice d3 r1.den.length d4] 26)))
  have Nz := Lib.hid (Nz.out.ext ((Ext.refl w25).alloc (.cells #[.bool r1.neg, .slice d1 r1.num.length d2, .slice d3 r1.den.length d4] 26)))
  have Nab := Lib.hid (Nab.out.ext ((Ext.refl w25).alloc (.cells #[.bool r1.neg, .slice d1 r1.num.length d2, .slice d3 r1.den.length d4] 26)))
  have Bab := Lib.hid (Bab.out.ext ((Ext.refl w25).alloc (.cells #[.bool r1.neg, .slice d1 r1.num.length d2, .slice d3 r1.den.length d4] 26)))
  have Nba := Lib.hid (Nba.out.ext ((Ext.refl w25).alloc (.cells #[.bool r1.neg, .slice d1 r1.num.length d2, .slice d3 r1.den.length d4] 26)))
  have Bba := Lib.hid (Bba.out.ext ((Ext.refl w25).alloc (.cells #[.bool r1.neg, .slice d1 r1.num.length d2, .slice d3 r1.den.length d4] 26)))
  have Nbc := Lib.hid (Nbc.out.ext ((Ext.refl w25).alloc (.cells #[.bool r1.neg, .slice d1 r1.num.length d2, .slice d3 r1.den.length d4] 26)))
  have Bbc := Lib.hid (Bbc.out.ext ((Ext.refl w25).alloc (.cells #[.bool r1.neg, .slice d1 r1.num.length d2, .slice d3 r1.den.length d4] 26)))
  have Nle := Lib.hid (Nle.out.ext ((Ext.refl w25).alloc (.cells #[.bool r1.neg, .slice d1 r1.num.length d2, .slice d3 r1.den.length d4] 26)))
  have Ble := Lib.hid (Ble.out.ext ((Ext.refl w25).alloc (.cells #[.bool r1.neg, .slice d1 r1.num.length d2, .slice d3 r1.den.length d4] 26)))
  have Nri := Lib.hid (Nri.out.ext ((Ext.refl w25).alloc (.cells #[.bool r1.neg, .slice d1 r1.num.length d2, .slice d3 r1.den.length d4] 26)))
  have Bri := Lib.hid (Bri.out.ext ((Ext.refl w25).alloc (.cells #[.bool r1.neg, .slice d1 r1.num.length d2, .slice d3 r1.den.length d4] 26)))
  have Nbk := Lib.hid (Nbk.out.ext ((Ext.refl w25).alloc (.cells #[.bool r1.neg, .slice d1 r1.num.length d2, .slice d3 r1.den.length d4] 26)))
  have Bbk := Lib.hid (Bbk.out.ext ((Ext.refl w25).alloc (.cells #[.bool r1.neg, .slice d1 r1.num.length d2, .slice d3 r1.den.length d4] 26)))
  have Np := Lib.hid (Np.out.ext ((Ext.refl w25).alloc (.cells #[.bool r1.neg, .slice d1 r1.num.length d2, .slice d3 r1.den.length d4] 26)))
  have Bp := Lib.hid (Bp.out.ext ((Ext.refl w25).alloc (.cells #[.bool r1.neg, .slice d1 r1.num.length d2, .slice d3 r1.den.length d4] 26)))
  have Nq := Lib.hid (Nq.out.ext ((Ext.refl w25).alloc (.cells #[.bool r1.neg, .slice d1 r1.num.length d2, .slice d3 r1.den.length d4] 26)))
  have Bq := Lib.hid (Bq.out.ext ((Ext.refl w25).alloc (.cells #[.bool r1.neg, .slice d1 r1.num.length d2, .slice d3 r1.den.length d4] 26)))
  have Nmb := Lib.hid (Nmb.out.ext ((Ext.refl w25).alloc (.cells #[.bool r1.neg, .slice d1 r1.num.length d2, .slice d3 r1.den.length d4] 26)))
  have Bmb := Lib.hid (Bmb.out.ext ((Ext.refl w25).alloc (.cells #[.bool r1.neg, .slice d1 r1.num.length d2, .slice d3 r1.den.length d4] 26)))
  have Nxx := Lib.hid (Nxx.out.ext ((Ext.refl w25).alloc (.cells #[.bool r1.neg, .slice d1 r1.num.length d2, .slice d3 r1.den.length d4] 26)))
  have Bxx := Lib.hid (Bxx.out.ext ((Ext.refl w25).alloc (.cells #[.bool r1.neg, .slice d1 r1.num.length d2, .slice d3 r1.den.length d4] 26)))
  have Nyy := Lib.hid (Nyy.out.ext ((Ext.refl w25).alloc (.cells #[.bool r1.neg, .slice d1 r1.num.length d2, .slice d3 r1.den.length d4] 26)))
  have Byy := Lib.hid (Byy.out.ext ((Ext.refl w25).alloc (.cells #[.bool r1.neg, .slice d1 r1.num.length d2, .slice d3 r1.den.length d4] 26)))
  have Nac := Lib.hid (Nac.out.ext ((Ext.refl w25).alloc (.cells #[.bool r1.neg, .slice d1 r1.num.length d2, .slice d3 r1.den.length d4] 26)))
  have Bac := Lib.hid (Bac.out.ext ((Ext.refl w25).alloc (.cells #[.bool r1.neg, .slice d1 r1.num.length d2, .slice d3 r1.den.length d4] 26)))
  have Ns := Lib.hid (Ns.out.ext ((Ext.refl w25).alloc (.cells #[.bool r1.neg, .slice d1 r1.num.length d2, .slice d3 r1.den.length d4] 26)))
  have Bs := Lib.hid (Bs.out.ext ((Ext.refl w25).alloc (.cells #[.bool r1.neg, .slice d1 r1.num.length d2, .slice d3 r1.den.length d4] 26)))
  have Ntt := Lib.hid (Ntt.out.ext ((Ext.refl w25).alloc (.cells #[.bool r1.neg, .slice d1 r1.num.length d2, .slice d3 r1.den.length d4] 26)))
  have Btt := Lib.hid (Btt.out.ext ((Ext.refl w25).alloc (.cells #[.bool r1.neg, .slice d1 r1.num.length d2, .slice d3 r1.den.length d4] 26)))
  have Nd := Lib.hid (Nd.out.ext ((Ext.refl w25).alloc (.cells #[.bool r1.neg, .slice d1 r1.num.length d2, .slice d3 r1.den.length d4] 26)))
  have X := Lib.hid (X.out.alloc (.cells #[.bool r1.neg, .slice d1 r1.num.length d2, .slice d3 r1.den.length d4] 26))
  have qBx := Bx.out.cell; have lBx := Bx.out.lt
  go_wp2_with fail
  refine (Omi.out _ _ Nx.out).mono ?_
  rintro e w26 ⟨⟨v, rfl, nn⟩, hx⟩
  have Bx := Lib.hid (Bx.out.ext hx)
  have By := Lib.hid (By.out.ext hx)
  have Bz := Lib.hid (Bz.out.ext hx)
  have Nx := Lib.hid (Nx.out.ext hx)
  have Ny := Lib.hid (Ny.out.ext hx)
  have Nz := Lib.hid (Nz.out.ext hx)
  have Nab := Lib.hid (Nab.out.ext hx)
  have Bab := Lib.hid (Bab.out.ext hx)
  have Nba := Lib.hid (Nba.out.ext hx)
  have Bba := Lib.hid (Bba.out.ext hx)
  have Nbc := Lib.hid (Nbc.out.ext hx)
  have Bbc := Lib.hid (Bbc.out.ext hx)
  have Nle := Lib.hid (Nle.out.ext hx)
  have Ble := Lib.hid (Ble.out.ext hx)
  have Nri := Lib.hid (Nri.out.ext hx)
  have Bri := Lib.hid (Bri.out.ext hx)
  have Nbk := Lib.hid (Nbk.out.ext hx)
  have Bbk := Lib.hid (Bbk.out.ext hx)
  have Np := Lib.hid (Np.out.ext hx)
  have Bp := Lib.hid (Bp.out.ext hx)
  have Nq := Lib.hid (Nq.out.ext hx)
  have Bq := Lib.hid (Bq.out.ext hx)
  have Nmb := Lib.hid (Nmb.out.ext hx)
  have Bmb := Lib.hid (Bmb.out.ext hx)
  have Nxx := Lib.hid (Nxx.out.ext hx)
  have Bxx := Lib.hid (Bxx.out.ext hx)
  have Nyy := Lib.hid (Nyy.out.ext hx)
  have Byy := Lib.hid (Byy.out.ext hx)
  have Nac := Lib.hid (Nac.out.ext hx)
  have Bac := Lib.hid (Bac.out.ext hx)
  have Ns := Lib.hid (Ns.out.ext hx)
  have Bs := Lib.hid (Bs.out.ext hx)
  have Ntt := Lib.hid (Ntt.out.ext hx)
  have Btt := Lib.hid (Btt.out.ext hx)
  have Nd := Lib.hid (Nd.out.ext hx)
  have Bd := Lib.hid (Bd.out.ext hx)
  have X := Lib.hid (X.out.trans hx)
  clear qBx lBx
  obtain ⟨mi1, mi2, mi3, mi4, rfl⟩ := nn.shape
  have Nmi := Lib.hid nn.rd
  clear nn hx
  dsimp only
  have Bmi := Lib.hid (Blk.new w26 #[.bool rmi.neg, .slice mi1 rmi.num.length mi2, .slice mi3 rmi.den.length mi4] 26)
  have Bx := Lib.hid (Bx.out.ext ((Ext.refl w26).alloc (.cells #[.bool rmi.neg, .slice mi1 rmi.num.length mi2, .slice mi3 rmi.den.length mi4] 26)))
  have By := Lib.hid (By.out.ext ((Ext.refl w26).alloc (.cells #[.bool rmi.neg, .slice mi1 rmi.num.length mi2, .slice mi3 rmi.den.length mi4] 26)))
  have Bz := Lib.hid (Bz.out.ext ((Ext.refl w26).alloc (.cells #[.bool rmi.neg, .slice mi1 rmi.num.length mi2, .slice mi3 rmi.den.length mi4] 26)))
  have Nx := Lib.hid (Nx.out.ext ((Ext.refl w26).alloc (.cells #[.bool rmi.neg, .slice mi1 rmi.num.length mi2, .slice mi3 rmi.den.length mi4] 26)))
  have Ny := Lib.hid (Ny.out.ext ((Ext.refl w26).alloc (.cells #[.bool rmi.neg, .slice mi1 rmi.num.length mi2, .slice mi3 rmi.den.length mi4] 26)))
  have Nz := Lib.hid (Nz.out.ext ((Ext.refl w26).alloc (.cells #[.bool rmi.neg, .slice mi1 rmi.num.length mi2, .slice mi3 rmi.den.length mi4] 26)))
  have Nab := Lib.hid (Nab.out.ext ((Ext.refl w26).alloc (.cells #[.bool rmi.neg, .slice mi1 rmi.num.length mi2, .slice mi3 rmi.den.length mi4] 26)))
  have Bab := Lib.hid (Bab.out.ext ((Ext.refl w26).alloc (.cells #[.bool rmi.neg, .slice mi1 rmi.num.length mi2, .slice mi3 rmi.den.length mi4] 26)))
  have Nba := Lib.hid (Nba.out.ext ((Ext.refl w26).alloc (.cells #[.bool rmi.neg, .slice mi1 rmi.num.length mi2, .slice mi3 rmi.den.length mi4] 26)))
  have Bba := Lib.hid (Bba.out.ext ((Ext.refl w26).alloc (.cells #[.bool rmi.neg, .slice mi1 rmi.num.length mi2, .slice mi3 rmi.den.length mi4] 26)))
  have Nbc := Lib.hid (Nbc.out.ext ((Ext.refl w26).alloc (.cells #[.bool rmi.neg, .slice mi1 rmi.num.length mi2, .slice mi3 rmi.den.length mi4] 26)))
  have Bbc := Lib.hid (Bbc.out.ext ((Ext.refl w26).alloc (.cells #[.bool rmi.neg, .slice mi1 rmi.num.length mi2, .slice mi3 rmi.den.length mi4] 26)))
  have Nle := Lib.hid (Nle.out.ext ((Ext.refl w26).alloc (.cells #[.bool rmi.neg, .slice mi1 rmi.num.length mi2, .slice mi3 rmi.den.length mi4] 26)))
  have Ble := Lib.hid (Ble.out.ext ((Ext.refl w26).alloc (.cells #[.bool rmi.neg, .slice mi1 rmi.num.length mi2, .slice mi3 rmi.den.length mi4] 26)))
  have Nri := Lib.hid (Nri.out.ext ((Ext.refl w26).alloc (.cells #[.bool rmi.neg, .slice mi1 rmi.num.length mi2, .slice mi3 rmi.den.length mi4] 26)))
  have Bri := Lib.hid (Bri.out.ext ((Ext.refl w26).alloc (.cells #[.bool rmi.neg, .slice mi1 rmi.num.length mi2, .slice mi3 rmi.den.length mi4] 26)))
  have Nbk := Lib.hid (Nbk.out.ext ((Ext.refl w26).alloc (.cells #[.bool rmi.neg, .slice mi1 rmi.num.length mi2, .slice mi3 rmi.den.length mi4] 26)))
  have Bbk := Lib.hid (Bbk.out.ext ((Ext.refl w26).alloc (.cells #[.bool rmi.neg, .slice mi1 rmi.num.length mi2, .slice mi3 rmi.den.length mi4] 26)))
  have Np := Lib.hid (Np.out.ext ((Ext.refl w26).alloc (.cells #[.bool rmi.neg, .slice mi1 rmi.num.length mi2, .slice mi3 rmi.den.length mi4] 26)))
  have Bp := Lib.hid (Bp.out.ext ((Ext.refl w26).alloc (.cells #[.bool rmi.neg, .slice mi1 rmi.num.length mi2, .slice mi3 rmi.den.length mi4] 26)))
  have Nq := Lib.hid (Nq.out.ext ((Ext.refl w26).alloc (.cells #[.bool rmi.neg, .slice mi1 rmi.num.length mi2, .slice mi3 rmi.den.length mi4] 26)))
  have Bq := Lib.hid (Bq.out.ext ((Ext.refl w26).alloc (.cells #[.bool rmi.neg, .slice mi1 rmi.num.length mi2, .slice mi3 rmi.den.length mi4] 26)))
  have Nmb := Lib.hid (Nmb.out.ext ((Ext.refl w26).alloc (.cells #[.bool rmi.neg, .slice mi1 rmi.num.length mi2, .slice mi3 rmi.den.length mi4] 26)))
  have Bmb := Lib.hid (Bmb.out.ext ((Ext.refl w26).alloc (.cells #[.bool rmi.neg, .slice mi1 rmi.num.length mi2, .slice mi3 rmi.den.length mi4] 26)))
  have Nxx := Lib.hid (Nxx.out.ext ((Ext.refl w26).alloc (.cells #[.bool rmi.neg, .slice mi1 rmi.num.length mi2, .slice mi3 rmi.den.length mi4] 26)))
  have Bxx := Lib.hid (Bxx.out.ext ((Ext.refl w26).alloc (.cells #[.bool rmi.neg, .slice mi1 rmi.num.length mi2, .slice mi3 rmi.den.length mi4] 26)))
  have Nyy := Lib.hid (Nyy.out.ext ((Ext.refl w26).alloc (.cells #[.bool rmi.neg, .slice mi1 rmi.num.length mi2, .slice mi3 rmi.den.length mi4] 26)))
  have Byy := Lib.hid (Byy.out.ext ((Ext.refl w26).alloc (.cells #[.bool rmi.neg, .slice mi1 rmi.num.length mi2, .slice mi3 rmi.den.length mi4] 26)))
  have Nac := Lib.hid (Nac.out.ext ((Ext.refl w26).alloc (.cells #[.bool rmi.neg, .slice mi1 rmi.num.length mi2, .slice mi3 rmi.den.length mi4] 26)))
  have Bac := Lib.hid (Bac.out.ext ((Ext.refl w26).alloc (.cells #[.bool rmi.neg, .slice mi1 rmi.num.length mi2, .slice mi3 rmi.den.length mi4] 26)))
  have Ns := Lib.hid (Ns.out.ext ((Ext.refl w26).alloc (.cells #[.bool rmi.neg, .slice mi1 rmi.num.length mi2, .slice mi3 rmi.den.length mi4] 26)))
  have Bs := Lib.hid (Bs.out.ext ((Ext.refl w26).alloc (.cells #[.bool rmi.neg, .slice mi1 rmi.num.length mi2, .slice mi3 rmi.den.length mi4] 26)))
  have Ntt := Lib.hid (Ntt.out.ext ((Ext.refl w26).alloc (.cells #[.bool rmi.neg, .slice mi1 rmi.num.length mi2, .slice mi3 rmi.den.length mi4] 26)))
  have Btt := Lib.hid (Btt.out.ext ((Ext.refl w26).alloc (.cells #[.bool rmi.neg, .slice mi1 rmi.num.length mi2, .slice mi3 rmi.den.length mi4] 26)))
  have Nd := Lib.hid (Nd.out.ext ((Ext.refl w26).alloc (.cells #[.bool rmi.neg, .slice mi1 rmi.num.length mi2, .slice mi3 rmi.den.length mi4] 26)))
  have Bd := Lib.hid (Bd.out.ext ((Ext.refl w26).alloc (.cells #[.bool rmi.neg, .slice mi1 rmi.num.length mi2, .slice mi3 rmi.den.length mi4] 26)))
  have Nmi := Lib.hid (Nmi.out.ext ((Ext.refl w26).alloc (.cells #[.bool rmi.neg, .slice mi1 rmi.num.length mi2, .slice mi3 rmi.den.length mi4] 26)))
  have X := Lib.hid (X.out.alloc (.cells #[.bool rmi.neg, .slice mi1 rmi.num.length mi2, .slice mi3 rmi.den.length mi4] 26))
  have qBx := Bx.out.cell; have lBx := Bx.out.lt
  have qBmi := Bmi.out.cell; have lBmi := Bmi.out.lt
  go_wp2_with fail
  refine (Oze.out _ _ _ Nx.out Nmi.out).mono ?_
  rintro e w27 ⟨⟨v, rfl, nn⟩, hx⟩
  have Bx := Lib.hid (Bx.out.ext hx)
  have By := Lib.hid (By.out.ext hx)
  have Bz := Lib.hid (Bz.out.ext hx)
  have Nx := Lib.hid (Nx.out.ext hx)
  have Ny := Lib.hid (Ny.out.ext hx)
  have Nz := Lib.hid (Nz.out.ext hx)
  have Nab := Lib.hid (Nab.out.ext hx)
  have Bab := Lib.hid (Bab.out.ext hx)
  have Nba := Lib.hid (Nba.out.ext hx)
  have Bba := Lib.hid (Bba.out.ext hx)
  have Nbc := Lib.hid (Nbc.out.ext hx)
  have Bbc := Lib.hid (Bbc.out.ext hx)
  have Nle := Lib.hid (Nle.out.ext hx)
  have Ble := Lib.hid (Ble.out.ext hx)
  have Nri := Lib.hid (Nri.out.ext hx)
  have Bri := Lib.hid (Bri.out.ext hx)
  have Nbk := Lib.hid (Nbk.out.ext hx)
  have Bbk := Lib.hid (Bbk.out.ext hx)
  have Np := Lib.hid (Np.out.ext hx)
  have Bp := Lib.hid (Bp.out.ext hx)
  have Nq := Lib.hid (Nq.out.ext hx)
  have Bq := Lib.hid (Bq.out.ext hx)
  have Nmb := Lib.hid (Nmb.out.ext hx)
  have Bmb := Lib.hid (Bmb.out.ext hx)
  have Nxx := Lib.hid (Nxx.out.ext hx)
  have Bxx := Lib.hid (Bxx.out.ext hx)
  have Nyy := Lib.hid (Nyy.out.ext hx)
  have Byy := Lib.hid (Byy.out.ext hx)
  have Nac := Lib.hid (Nac.out.ext hx)
  have Bac := Lib.hid (Bac.out.ext hx)
  have Ns := Lib.hid (Ns.out.ext hx)
  have Bs := Lib.hid (Bs.out.ext hx)
  have Ntt := Lib.hid (Ntt.out.ext hx)
  have Btt := Lib.hid (Btt.out.ext hx)
  have Nd := Lib.hid (Nd.out.ext hx)
  have Bd := Lib.hid (Bd.out.ext hx)
  have Nmi := Lib.hid (Nmi.out.ext hx)
  have Bmi := Lib.hid (Bmi.out.ext hx)
  have X := Lib.hid (X.out.trans hx)
  clear qBx lBx qBmi lBmi
  obtain ⟨ze1, ze2, ze3, ze4, rfl⟩ := nn.shape
  have Nze := Lib.hid nn.rd
  clear nn hx
  dsimp only
  have Bze := Lib.hid (Blk.new w27 #[.bool rze.neg, .slice ze1 rze.num.length ze2, .slice ze3 rze.den.length ze4] 26)
  have Bx := Lib.hid (Bx.out.ext ((Ext.refl w27).alloc (.cells #[.bool rze.neg, .slice ze1 rze.num.length ze2, .slice ze3 rze.den.length ze4] 26)))
  have By := Lib.hid (By.out.ext ((Ext.refl w27).alloc (.cells #[.bool rze.neg, .slice ze1 rze.num.length ze2, .slice ze3 rze.den.length ze4] 26)))
  have Bz := Lib.hid (Bz.out.ext ((Ext.refl w27).alloc (.cells #[.bool rze.neg, .slice ze1 rze.num.length ze2, .slice ze3 rze.den.length ze4] 26)))
  have Nx := Lib.hid (Nx.out.ext ((Ext.refl w27).alloc (.cells #[.bool rze.neg, .slice ze1 rze.num.length ze2, .slice ze3 rze.den.length ze4] 26)))
  have Ny := Lib.hid (Ny.out.ext ((Ext.refl w27).alloc (.cells #[.bool rze.neg, .slice ze1 rze.num.length ze2, .slice ze3 rze.den.length ze4] 26)))
  have Nz := Lib.hid (Nz.out.ext ((Ext.refl w27).alloc (.cells #[.bool rze.neg, .slice ze1 rze.num.length ze2, .slice ze3 rze.den.length ze4] 26)))
  have Nab := Lib.hid (Nab.out.ext ((Ext.refl w27).alloc (.cells #[.bool rze.neg, .slice ze1 rze.num.length ze2, .slice ze3 rze.den.length ze4] 26)))
  have Bab := Lib.hid (Bab.out.ext ((Ext.refl w27).alloc (.cells #[.bool rze.neg, .slice ze1 rze.num.length ze2, .slice ze3 rze.den.length ze4] 26)))
  have Nba := Lib.hid (Nba.out.ext ((Ext.refl w27).alloc (.cells #[.bool rze.neg, .slice ze1 rze.num.length ze2, .slice ze3 rze.den.length ze4] 26)))
  have Bba := Lib.hid (Bba.out.ext ((Ext.refl w27).alloc (.cells #[.bool rze.neg, .slice ze1 rze.num.length ze2, .slice ze3 rze.den.length ze4] 26)))
  have Nbc := Lib.hid (Nbc.out.ext ((Ext.refl w27).alloc (.cells #[.bool rze.neg, .slice ze1 rze.num.length ze2, .slice ze3 rze.den.length ze4] 26)))
  have Bbc := Lib.hid (Bbc.out.ext ((Ext.refl w27).alloc (.cells #[.bool rze.neg, .slice ze1 rze.num.length ze2, .slice ze3 rze.den.length ze4] 26)))
  have Nle := Lib.hid (Nle.out.ext ((Ext.refl w27).alloc (.cells #[.bool rze.neg, .slice ze1 rze.num.length ze2, .slice ze3 rze.den.length ze4] 26)))
  have Ble := Lib.hid (Ble.out.ext ((Ext.refl w27).alloc (.cells #[.bool rze.neg, .slice ze1 rze.num.length ze2, .slice ze3 rze.den.length ze4] 26)))
  have Nri := Lib.hid (Nri.out.ext ((Ext.refl w27).alloc (.cells #[.bool rze.neg, .slice ze1 rze.num.length ze2, .slice ze3 rze.den.length ze4] 26)))
  have Bri := Lib.hid (Bri.out.ext ((Ext.refl w27).alloc (.cells #[.bool rze.neg, .slice ze1 rze.num.length ze2, .slice ze3 rze.den.length ze4] 26)))
  have Nbk := Lib.hid (Nbk.out.ext ((Ext.refl w27).alloc (.cells #[.bool rze.neg, .slice ze1 rze.num.length ze2, .slice ze3 rze.den.length ze4] 26)))
  have Bbk := Lib.hid (Bbk.out.ext ((Ext.refl w27).alloc (.cells #[.bool rze.neg, .slice ze1 rze.num.length ze2, .slice ze3 rze.den.length ze4] 26)))
  have Np := Lib.hid (Np.out.ext ((Ext.refl w27).alloc (.cells #[.bool rze.neg, .slice ze1 rze.num.length ze2, .slice ze3 rze.den.length ze4] 26)))
  have Bp := Lib.hid (Bp.out.ext ((Ext.refl w27).alloc (.cells #[.bool rze.neg, .slice ze1 rze.num.length ze2, .slice ze3 rze.den.length ze4] 26)))
  have Nq := Lib.hid (Nq.out.ext ((Ext.refl w27).alloc (.cells #[.bool rze.neg, .slice ze1 rze.num.length ze2, .slice ze3 rze.den.length ze4] 26)))
  have Bq := Lib.hid (Bq.out.ext ((Ext.refl w27).alloc (.cells #[.bool rze.neg, .slice ze1 rze.num.length ze2, .slice ze3 rze.den.length ze4] 26)))
  have Nmb := Lib.hid (Nmb.out.ext ((Ext.refl w27).alloc (.cells #[.bool rze.neg, .slice ze1 rze.num.length ze2, .slice ze3 rze.den.length ze4] 26)))
  have Bmb := Lib.hid (Bmb.out.ext ((Ext.refl w27).alloc (.cells #[.bool rze.neg, .slice ze1 rze.num.length ze2, .slice ze3 rze.den.length ze4] 26)))
  have Nxx := Lib.hid (Nxx.out.ext ((Ext.refl w27).alloc (.cells #[.bool rze.neg, .slice ze1 rze.num.length ze2, .slice ze3 rze.den.length ze4] 26)))
  have Bxx := Lib.hid (Bxx.out.ext ((Ext.refl w27).alloc (.cells #[.bool rze.neg, .slice ze1 rze.num.length ze2, .slice ze3 rze.den.length ze4] 26)))
  have Nyy := Lib.hid (Nyy.out.ext ((Ext.refl w27).alloc (.cells #[.bool rze.neg, .slice ze1 rze.num.length ze2, .slice ze3 rze.den.length ze4] 26)))
  have Byy := Lib.hid (Byy.out.ext ((Ext.refl w27).alloc (.cells #[.bool rze.neg, .slice ze1 rze.num.length ze2, .slice ze3 rze.den.length ze4] 26)))
  have Nac := Lib.hid (Nac.out.ext ((Ext.refl w27).alloc (.cells #[.bool rze.neg, .slice ze1 rze.num.length ze2, .slice ze3 rze.den.length ze4] 26)))
  have Bac := Lib.hid (Bac.out.ext ((Ext.refl w27).alloc (.cells #[.bool rze.neg, .slice ze1 rze.num.length ze2, .slice ze3 rze.den.length ze4] 26)))
  have Ns := Lib.hid (Ns.out.ext ((Ext.refl w27).alloc (.cells #[.bool rze.neg, .slice ze1 rze.num.length ze2, .slice ze3 rze.den.length ze4] 26)))
  have Bs := Lib.hid (Bs.out.ext ((Ext.refl w27).alloc (.cells #[.bool rze.neg, .slice ze1 rze.num.length ze2, .slice ze3 rze.den.length ze4] 26)))
  have Ntt := Lib.hid (Ntt.out.ext ((Ext.refl w27).alloc (.cells #[.bool rze.neg, .slice ze1 rze.num.length ze2, .slice ze3 rze.den.length ze4] 26)))
  have Btt := Lib.hid (Btt.out.ext ((Ext.refl w27).alloc (.cells #[.bool rze.neg, .slice ze1 rze.num.length ze2, .slice ze3 rze.den.length ze4] 26)))
  have Nd := Lib.hid (Nd.out.ext ((Ext.refl w27).alloc (.cells #[.bool rze.neg, .slice ze1 rze.num.length ze2, .slice ze3 rze.den.length ze4] 26)))
  have Bd := Lib.hid (Bd.out.ext ((Ext.refl w27).alloc (.cells #[.bool rze.neg, .slice ze1 rze.num.length ze2, .slice ze3 rze.den.length ze4] 26)))
  have Nmi := Lib.hid (Nmi.out.ext ((Ext.refl w27).alloc (.cells #[.bool rze.neg, .slice ze1 rze.num.length ze2, .slice ze3 rze.den.length ze4] 26)))
  have Bmi := Lib.hid (Bmi.out.ext ((Ext.refl w27).alloc (.cells #[.bool rze.neg, .slice ze1 rze.num.length ze2, .slice ze3 rze.den.length ze4] 26)))
  have Nze := Lib.hid (Nze.out.ext ((Ext.refl w27).alloc (.cells #[.bool rze.neg, .slice ze1 rze.num.length ze2, .slice ze3 rze.den.length ze4] 26)))
  have X := Lib.hid (X.out.alloc (.cells #[.bool rze.neg, .slice ze1 rze.num.length ze2, .slice ze3 rze.den.length ze4] 26))
  have qBd := Bd.out.cell; have lBd := Bd.out.lt
  have qBx := Bx.out.cell; have lBx := Bx.out.lt
  go_wp2_with fail
  refine (equalOK_any _ _ r1 r1 rfl _ Nd.out Nx.out).mono ?_
  rintro e w28 ⟨rfl, hx⟩
  have Bx := Lib.hid (Bx.out.ext hx)
  have By := Lib.hid (By.out.ext hx)
  have Bz := Lib.hid (Bz.out.ext hx)
  have Nx := Lib.hid (Nx.out.ext hx)
  have Ny := Lib.hid (Ny.out.ext hx)
  have Nz := Lib.hid (Nz.out.ext hx)
  have Nab := Lib.hid (Nab.out.ext hx)
  have Bab := Lib.hid (Bab.out.ext hx)
  have Nba := Lib.hid (Nba.out.ext hx)
  have Bba := Lib.hid (Bba.out.ext hx)
  have Nbc := Lib.hid (Nbc.out.ext hx)
  have Bbc := Lib.hid (Bbc.out.ext hx)
  have Nle := Lib.hid (Nle.out.ext hx)
  have Ble := Lib.hid (Ble.out.ext hx)
  have Nri := Lib.hid (Nri.out.ext hx)
  have Bri := Lib.hid (Bri.out.ext hx)
  have Nbk := Lib.hid (Nbk.out.ext hx)
  have Bbk := Lib.hid (Bbk.out.ext hx)
  have Np := Lib.hid (Np.out.ext hx)
  have Bp := Lib.hid (Bp.out.ext hx)
  have Nq := Lib.hid (Nq.out.ext hx)
  have Bq := Lib.hid (Bq.out.ext hx)
  have Nmb := Lib.hid (Nmb.out.ext hx)
  have Bmb := Lib.hid (Bmb.out.ext hx)
  have Nxx := Lib.hid (Nxx.out.ext hx)
  have Bxx := Lib.hid (Bxx.out.ext hx)
  have Nyy := Lib.hid (Nyy.out.ext hx)
  have Byy := Lib.hid (Byy.out.ext hx)
  have Nac := Lib.hid (Nac.out.ext hx)
  have Bac := Lib.hid (Bac.out.ext hx)
  have Ns := Lib.hid (Ns.out.ext hx)
  have Bs := Lib.hid (Bs.out.ext hx)
  have Ntt := Lib.hid (Ntt.out.ext hx)
  have Btt := Lib.hid (Btt.out.ext hx)
  have Nd := Lib.hid (Nd.out.ext hx)
  have Bd := Lib.hid (Bd.out.ext hx)
  have Nmi := Lib.hid (Nmi.out.ext hx)
  have Bmi := Lib.hid (Bmi.out.ext hx)
  have Nze := Lib.hid (Nze.out.ext hx)
  have Bze := Lib.hid (Bze.out.ext hx)
  have X := Lib.hid (X.out.trans hx)
  clear qBd lBd qBx lBx
  clear hx
  dsimp only
  have hz := HZ.out
  have qBze := Bze.out.cell; have lBze := Bze.out.lt
  have qBle := Ble.out.cell; have lBle := Ble.out.lt
  go_wp2_with fail
  refine (CL.out _ _ Nle.out).mono ?_
  rintro e w29 ⟨rfl, hx⟩
  have Bx := Lib.hid (Bx.out.ext hx)
  have By := Lib.hid (By.out.ext hx)
  have Bz := Lib.hid (Bz.out.ext hx)
  have Nx := Lib.hid (Nx.out.ext hx)
  have Ny := Lib.hid (Ny.out.ext hx)
  have Nz := Lib.hid (Nz.out.ext hx)
  have Nab := Lib.hid (Nab.out.ext hx)
  have Bab := Lib.hid (Bab.out.ext hx)
  have Nba := Lib.hid (Nba.out.ext hx)
  have Bba := Lib.hid (Bba.out.ext hx)
  have Nbc := Lib.hid (Nbc.out.ext hx)
  have Bbc := Lib.hid (Bbc.out.ext hx)
  have Nle := Lib.hid (Nle.out.ext hx)
  have Ble := Lib.hid (Ble.out.ext hx)
  have Nri := Lib.hid (Nri.out.ext hx)
  have Bri := Lib.hid (Bri.out.ext hx)
  have Nbk := Lib.hid (Nbk.out.ext hx)
  have Bbk := Lib.hid (Bbk.out.ext hx)
  have Np := Lib.hid (Np.out.ext hx)
  have Bp := Lib.hid (Bp.out.ext hx)
  have Nq := Lib.hid (Nq.out.ext hx)
  have Bq := Lib.hid (Bq.out.ext hx)
  have Nmb := Lib.hid (Nmb.out.ext hx)
  have Bmb := Lib.hid (Bmb.out.ext hx)
  have Nxx := Lib.hid (Nxx.out.ext hx)
  have Bxx := Lib.hid (Bxx.out.ext hx)
  have Nyy := Lib.hid (Nyy.out.ext hx)
  have Byy := Lib.hid (Byy.out.ext hx)
  have Nac := Lib.hid (Nac.out.ext hx)
  have Bac := Lib.hid (Bac.out.ext hx)
  have Ns := Lib.hid (Ns.out.ext hx)
  have Bs := Lib.hid (Bs.out.ext hx)
  have Ntt := Lib.hid (Ntt.out.ext hx)
  have Btt := Lib.hid (Btt.out.ext hx)
  have Nd := Lib.hid (Nd.out.ext hx)
  have Bd := Lib.hid (Bd.out.ext hx)
  have Nmi := Lib.hid (Nmi.out.ext hx)
  have Bmi := Lib.hid (Bmi.out.ext hx)
  have Nze := Lib.hid (Nze.out.ext hx)
  have Bze := Lib.hid (Bze.out.ext hx)
  have X := Lib.hid (X.out.trans hx)
  clear qBze lBze qBle lBle
  clear hx
  dsimp only
  have qBxx := Bxx.out.cell; have lBxx := Bxx.out.lt
  go_wp2_with fail
  refine (CX.out _ _ Nxx.out).mono ?_
  rintro e w30 ⟨rfl, hx⟩
  have Bx := Lib.hid (Bx.out.ext hx)
  have By := Lib.hid (By.out.ext hx)
  have Bz := Lib.hid (Bz.out.ext hx)
  have Nx := Lib.hid (Nx.out.ext hx)
  have Ny := Lib.hid (Ny.out.ext hx)
  have Nz := Lib.hid (Nz.out.ext hx)
  have Nab := Lib.hid (Nab.out.ext hx)
  have Bab := Lib.hid (Bab.out.ext hx)
  have Nba := Lib.hid (Nba.out.ext hx)
  have Bba := Lib.hid (Bba.out.ext hx)
  have Nbc := Lib.hid (Nbc.out.ext hx)
  have Bbc := Lib.hid (Bbc.out.ext hx)
  have Nle := Lib.hid (Nle.out.ext hx)
  have Ble := Lib.hid (Ble.out.ext hx)
  have Nri := Lib.hid (Nri.out.ext hx)
  have Bri := Lib.hid (Bri.out.ext hx)
  have Nbk := Lib.hid (Nbk.out.ext hx)
  have Bbk := Lib.hid (Bbk.out.ext hx)
  have Np := Lib.hid (Np.out.ext hx)
  have Bp := Lib.hid (Bp.out.ext hx)
  have Nq := Lib.hid (Nq.out.ext hx)
  have Bq := Lib.hid (Bq.out.ext hx)
  have Nmb := Lib.hid (Nmb.out.ext hx)
  have Bmb := Lib.hid (Bmb.out.ext hx)
  have Nxx := Lib.hid (Nxx.out.ext hx)
  have Bxx := Lib.hid (Bxx.out.ext hx)
  have Nyy := Lib.hid (Nyy.out.ext hx)
  have Byy := Lib.hid (Byy.out.ext hx)
  have Nac := Lib.hid (Nac.out.ext hx)
  have Bac := Lib.hid (Bac.out.ext hx)
  have Ns := Lib.hid (Ns.out.ext hx)
  have Bs := Lib.hid (Bs.out.ext hx)
  have Ntt := Lib.hid (Ntt.out.ext hx)
  have Btt := Lib.hid (Btt.out.ext hx)
  have Nd := Lib.hid (Nd.out.ext hx)
  have Bd := Lib.hid (Bd.out.ext hx)
  have Nmi := Lib.hid (Nmi.out.ext hx)
  have Bmi := Lib.hid (Bmi.out.ext hx)
  have Nze := Lib.hid (Nze.out.ext hx)
  have Bze := Lib.hid (Bze.out.ext hx)
  have X := Lib.hid (X.out.trans hx)
  clear qBxx lBxx
  clear hx
  dsimp only
  go_wp2_with fail
  go_ret
  exact ⟨rfl, X.out⟩

end Go.Proofs.Ytebdmmlniohhgaa
