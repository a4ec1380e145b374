/- Walk of awake of layer 6's laws: it returns true (written by mkaw06.py). Conditions: none. -/
import Derived.Test.YtebdmmlniohhgaaRatK
namespace Go.Proofs.Ytebdmmlniohhgaa
set_option linter.unusedSimpArgs false
set_option linter.unusedVariables false
open Go.RowKit

/-- An api.Rat written out: two slices of one limb each. -/
theorem lit2 (w : World) (b : Bool) (x y : Int) (n : Nat) (hn : w.heap.size = n) : RdR ((w.alloc (.cells #[.int .u32 x] 46)).alloc (.cells #[.int .u32 y] 46)) (.agg #[.bool b, .slice (some ⟨n, 0, none⟩) 1 1, .slice (some ⟨n + 1, 0, none⟩) 1 1]) ⟨b, [x], [y]⟩ := by
  subst hn
  refine ⟨_, _, rfl, (rdU_new w [x] (by simp)).ext ((Ext.refl _).alloc _), ?_⟩
  have := rdU_new (w.alloc (.cells #[.int .u32 x] 46)) [y] (by simp)
  rwa [World.size_alloc] at this
/-- .. one slice. -/
theorem lit1 (w : World) (b : Bool) (x : Int) (n : Nat) (hn : w.heap.size = n) : RdR (w.alloc (.cells #[.int .u32 x] 46)) (.agg #[.bool b, .slice (some ⟨n, 0, none⟩) 1 1, .slice none 0 0]) ⟨b, [x], []⟩ := by
  subst hn
  exact ⟨_, _, rfl, rdU_new w [x] (by simp), (NewV.nil w _).rd⟩

theorem equalTrue_any (v1 v2 : Value) (r1 r2 : RR) (e : r1 = r2) (w : World) (h1 : RdR w v1 r1) (h2 : RdR w v2 r2) :
    Calls Try.prog 22 #[v1, v2] w fun e w' => e = .returned (.bool true) ∧ Ext w w' := by
  have := equalRat_any v1 v2 r1 r2 w h1 h2
  rwa [decide_eq_true e] at this

theorem limR_of (b : Bool) (l1 l2 : List Int) (h : (l1 ++ l2).all (fun x => decide (0 ≤ x) && decide (x < 4294967296)) = true) : LimR ⟨b, l1, l2⟩ := by
  rw [List.all_append, Bool.and_eq_true] at h
  exact ⟨lims _ h.1, lims _ h.2⟩

set_option maxRecDepth 100000 in
set_option maxHeartbeats 8000000 in
theorem awake6_any (w : World) : Calls Try.prog 11 #[] w fun en w' => en = .returned (.bool true) ∧ Ext w w' := by
  obtain ⟨rx, hrx⟩ : ∃ rx : RR, rx = ⟨true, [3], [2]⟩ := ⟨_, rfl⟩
  have Erx := Lib.hid hrx
  have Lrx : Hid (LimR rx) := Lib.hid (by rw [hrx]; exact limR_of _ _ _ (by decide))
  have grx := fun W => ofS_any (6) (-4) W (by decide) (by decide) (by decide) (by decide)
  rw [k_x, ← hrx] at grx
  have Grx := Lib.hid grx
  clear grx
  obtain ⟨r12, hr12⟩ : ∃ r12 : RR, r12 = ⟨false, [1], [2]⟩ := ⟨_, rfl⟩
  have Er12 := Lib.hid hr12
  have Lr12 : Hid (LimR r12) := Lib.hid (by rw [hr12]; exact limR_of _ _ _ (by decide))
  have gr12 := fun W => ofS_any (1) (2) W (by decide) (by decide) (by decide) (by decide)
  rw [k_12, ← hr12] at gr12
  have Gr12 := Lib.hid gr12
  clear gr12
  obtain ⟨r13, hr13⟩ : ∃ r13 : RR, r13 = ⟨false, [1], [3]⟩ := ⟨_, rfl⟩
  have Er13 := Lib.hid hr13
  have Lr13 : Hid (LimR r13) := Lib.hid (by rw [hr13]; exact limR_of _ _ _ (by decide))
  have gr13 := fun W => ofS_any (1) (3) W (by decide) (by decide) (by decide) (by decide)
  rw [k_13, ← hr13] at gr13
  have Gr13 := Lib.hid gr13
  clear gr13
  obtain ⟨r23, hr23⟩ : ∃ r23 : RR, r23 = ⟨false, [2], [3]⟩ := ⟨_, rfl⟩
  have Er23 := Lib.hid hr23
  have Lr23 : Hid (LimR r23) := Lib.hid (by rw [hr23]; exact limR_of _ _ _ (by decide))
  have gr23 := fun W => ofS_any (2) (3) W (by decide) (by decide) (by decide) (by decide)
  rw [k_23, ← hr23] at gr23
  have Gr23 := Lib.hid gr23
  clear gr23
  obtain ⟨rm, hrm⟩ : ∃ rm : RR, rm = ⟨true, [1], [4]⟩ := ⟨_, rfl⟩
  have Erm := Lib.hid hrm
  have Lrm : Hid (LimR rm) := Lib.hid (by rw [hrm]; exact limR_of _ _ _ (by decide))
  have grm := fun W => ofS_any (-1) (4) W (by decide) (by decide) (by decide) (by decide)
  rw [k_m14, ← hrm] at grm
  have Grm := Lib.hid grm
  clear grm
  obtain ⟨ra, hra⟩ : ∃ ra : RR, ra = ⟨false, [5], [6]⟩ := ⟨_, rfl⟩
  have Era := Lib.hid hra
  have Lra : Hid (LimR ra) := Lib.hid (by rw [hra]; exact limR_of _ _ _ (by decide))
  obtain ⟨rb, hrb⟩ : ∃ rb : RR, rb = ⟨false, [1], [3]⟩ := ⟨_, rfl⟩
  have Erb := Lib.hid hrb
  have Lrb : Hid (LimR rb) := Lib.hid (by rw [hrb]; exact limR_of _ _ _ (by decide))
  obtain ⟨rc, hrc⟩ : ∃ rc : RR, rc = ⟨true, [2], []⟩ := ⟨_, rfl⟩
  have Erc := Lib.hid hrc
  have Lrc : Hid (LimR rc) := Lib.hid (by rw [hrc]; exact limR_of _ _ _ (by decide))
  obtain ⟨r5, hr5⟩ : ∃ r5 : RR, r5 = ⟨false, [5], []⟩ := ⟨_, rfl⟩
  have Er5 := Lib.hid hr5
  have Lr5 : Hid (LimR r5) := Lib.hid (by rw [hr5]; exact limR_of _ _ _ (by decide))
  have gt := fun W v (h : RdR W v rx) => textR_any v rx W h Lrx.out
  rw [hrx, k_tx, ← hrx] at gt
  have gf := fun W v (h : RdR W v rx) => floorR_any v rx W h Lrx.out
  rw [hrx, k_fl, ← hrx] at gf
  have ga := fun W va vb (h1 : RdR W va r12) (h2 : RdR W vb r13) => addR_any va vb r12 r13 W h1 h2 Lr12.out Lr13.out
  have gae : addR r12 r13 = (ra, 0) := by rw [hr12, hr13, hra]; exact k_add
  rw [gae] at ga
  have gm := fun W va vb (h1 : RdR W va r12) (h2 : RdR W vb r23) => mulR_any va vb r12 r23 W h1 h2 Lr12.out Lr23.out
  have gme : mulR r12 r23 = (rb, 0) := by rw [hr12, hr23, hrb]; exact k_mul
  rw [gme] at gm
  have gd := fun W va vb (h1 : RdR W va r12) (h2 : RdR W vb rm) => divR_any va vb r12 rm W h1 h2 Lr12.out Lrm.out
  have gde : divR r12 rm = (rc, 0) := by rw [hr12, hrm, hrc]; exact k_div
  rw [gde] at gd
  have g5 := fun W => fromR_any 5 W (by decide) (by decide)
  rw [k_five, ← hr5] at g5
  obtain ⟨rz, hrz⟩ : ∃ rz, rz = zR := ⟨_, rfl⟩
  have gp1 := fun W => parseR_any ⟨#[50, 47, 52]⟩ W
  rw [k_p1, ← hrz] at gp1
  have gp2 := fun W => parseR_any ⟨#[51, 47, 49]⟩ W
  rw [k_p2, ← hrz] at gp2
  have gp3 := fun W => parseR_any ⟨#[45, 48]⟩ W
  rw [k_p3, ← hrz] at gp3
  have Hgt := Lib.hid gt; have Hgf := Lib.hid gf; have Hga := Lib.hid ga; have Hgm := Lib.hid gm; have Hgd := Lib.hid gd; have Hg5 := Lib.hid g5; have Hgp1 := Lib.hid gp1; have Hgp2 := Lib.hid gp2; have Hgp3 := Lib.hid gp3
  clear hrz gt gf ga gm gd g5 gp1 gp2 gp3 gae gme gde hrx hr12 hr13 hr23 hrm hra hrb hrc hr5
  go_enter Try.func11, Try.ntmps11
  repeat (first | go_values | go_skip | go_guarded | go_step | go_upon)
  refine (Grx.out _).mono ?_
  rintro e w1 ⟨⟨v, rfl, nn⟩, hx⟩
  have X := Lib.hid hx
  obtain ⟨x1, x2, x3, x4, rfl⟩ := nn.shape
  have Nx := Lib.hid nn.rd
  clear nn hx
  dsimp only
  have Bx := Lib.hid (Blk.new w1 #[.bool rx.neg, .slice x1 rx.num.length x2, .slice x3 rx.den.length x4] 26)
  have Nx := Lib.hid (Nx.out.ext ((Ext.refl w1).alloc (.cells #[.bool rx.neg, .slice x1 rx.num.length x2, .slice x3 rx.den.length x4] 26)))
  have X := Lib.hid (X.out.alloc (.cells #[.bool rx.neg, .slice x1 rx.num.length x2, .slice x3 rx.den.length x4] 26))
  have c0 := Bx.out.cell; have l0 := Bx.out.lt
  repeat (first | go_values | go_skip | go_guarded | go_step | go_upon)
  refine (Hgt.out _ _ Nx.out).mono ?_
  rintro e w2 ⟨rfl, hx⟩
  have Nx := Lib.hid (Nx.out.ext (hx))
  have Bx := Lib.hid (Bx.out.ext (hx))
  have X := Lib.hid (X.out.trans (hx))
  clear hx
  dsimp only
  clear c0 l0
  have c0 := Bx.out.cell; have l0 := Bx.out.lt
  repeat (first | go_values | go_skip | go_guarded | go_step | go_upon)
  refine (Hgf.out _ _ Nx.out).mono ?_
  rintro e w3 ⟨rfl, hx⟩
  have Nx := Lib.hid (Nx.out.ext (hx))
  have Bx := Lib.hid (Bx.out.ext (hx))
  have X := Lib.hid (X.out.trans (hx))
  clear hx
  dsimp only
  clear c0 l0
  repeat (first | go_values | go_skip | go_guarded | go_step | go_upon)
  refine (Gr12.out _).mono ?_
  rintro e w4 ⟨⟨v, rfl, nn⟩, hx⟩
  have Nx := Lib.hid (Nx.out.ext (hx))
  have Bx := Lib.hid (Bx.out.ext (hx))
  have X := Lib.hid (X.out.trans (hx))
  obtain ⟨du1, du2, du3, du4, rfl⟩ := nn.shape
  have Ndu := Lib.hid nn.rd
  clear nn hx
  dsimp only
  repeat (first | go_values | go_skip | go_guarded | go_step | go_upon)
  refine (Gr13.out _).mono ?_
  rintro e w5 ⟨⟨v, rfl, nn⟩, hx⟩
  have Nx := Lib.hid (Nx.out.ext (hx))
  have Bx := Lib.hid (Bx.out.ext (hx))
  have Ndu := Lib.hid (Ndu.out.ext (hx))
  have X := Lib.hid (X.out.trans (hx))
  obtain ⟨eu1, eu2, eu3, eu4, rfl⟩ := nn.shape
  have Neu := Lib.hid nn.rd
  clear nn hx
  dsimp only
  repeat (first | go_values | go_skip | go_guarded | go_step | go_upon)
  refine (Hga.out _ _ _ Ndu.out Neu.out).mono ?_
  rintro e w6 ⟨⟨v, rfl, nn⟩, hx⟩
  have Nx := Lib.hid (Nx.out.ext (hx))
  have Bx := Lib.hid (Bx.out.ext (hx))
  have Ndu := Lib.hid (Ndu.out.ext (hx))
  have Neu := Lib.hid (Neu.out.ext (hx))
  have X := Lib.hid (X.out.trans (hx))
  obtain ⟨Au1, Au2, Au3, Au4, rfl⟩ := nn.shape
  have NAu := Lib.hid nn.rd
  clear nn hx
  dsimp only
  clear Ndu Neu
  have BAu := Lib.hid (Blk.new w6 #[.bool ra.neg, .slice Au1 ra.num.length Au2, .slice Au3 ra.den.length Au4] 26)
  have Nx := Lib.hid (Nx.out.ext ((Ext.refl w6).alloc (.cells #[.bool ra.neg, .slice Au1 ra.num.length Au2, .slice Au3 ra.den.length Au4] 26)))
  have Bx := Lib.hid (Bx.out.ext ((Ext.refl w6).alloc (.cells #[.bool ra.neg, .slice Au1 ra.num.length Au2, .slice Au3 ra.den.length Au4] 26)))
  have NAu := Lib.hid (NAu.out.ext ((Ext.refl w6).alloc (.cells #[.bool ra.neg, .slice Au1 ra.num.length Au2, .slice Au3 ra.den.length Au4] 26)))
  have X := Lib.hid (X.out.alloc (.cells #[.bool ra.neg, .slice Au1 ra.num.length Au2, .slice Au3 ra.den.length Au4] 26))
  repeat (first | go_values | go_skip | go_guarded | go_step | go_upon)
  refine (Gr12.out _).mono ?_
  rintro e w7 ⟨⟨v, rfl, nn⟩, hx⟩
  have Nx := Lib.hid (Nx.out.ext (hx))
  have Bx := Lib.hid (Bx.out.ext (hx))
  have NAu := Lib.hid (NAu.out.ext (hx))
  have BAu := Lib.hid (BAu.out.ext (hx))
  have X := Lib.hid (X.out.trans (hx))
  obtain ⟨fu1, fu2, fu3, fu4, rfl⟩ := nn.shape
  have Nfu := Lib.hid nn.rd
  clear nn hx
  dsimp only
  repeat (first | go_values | go_skip | go_guarded | go_step | go_upon)
  refine (Gr23.out _).mono ?_
  rintro e w8 ⟨⟨v, rfl, nn⟩, hx⟩
  have Nx := Lib.hid (Nx.out.ext (hx))
  have Bx := Lib.hid (Bx.out.ext (hx))
  have NAu := Lib.hid (NAu.out.ext (hx))
  have BAu := Lib.hid (BAu.out.ext (hx))
  have Nfu := Lib.hid (Nfu.out.ext (hx))
  have X := Lib.hid (X.out.trans (hx))
  obtain ⟨gu1, gu2, gu3, gu4, rfl⟩ := nn.shape
  have Ngu := Lib.hid nn.rd
  clear nn hx
  dsimp only
  repeat (first | go_values | go_skip | go_guarded | go_step | go_upon)
  refine (Hgm.out _ _ _ Nfu.out Ngu.out).mono ?_
  rintro e w9 ⟨⟨v, rfl, nn⟩, hx⟩
  have Nx := Lib.hid (Nx.out.ext (hx))
  have Bx := Lib.hid (Bx.out.ext (hx))
  have NAu := Lib.hid (NAu.out.ext (hx))
  have BAu := Lib.hid (BAu.out.ext (hx))
  have Nfu := Lib.hid (Nfu.out.ext (hx))
  have Ngu := Lib.hid (Ngu.out.ext (hx))
  have X := Lib.hid (X.out.trans (hx))
  obtain ⟨Bu1, Bu2, Bu3, Bu4, rfl⟩ := nn.shape
  have NBu := Lib.hid nn.rd
  clear nn hx
  dsimp only
  clear Nfu Ngu
  have BBu := Lib.hid (Blk.new w9 #[.bool rb.neg, .slice Bu1 rb.num.length Bu2, .slice Bu3 rb.den.length Bu4] 26)
  have Nx := Lib.hid (Nx.out.ext ((Ext.refl w9).alloc (.cells #[.bool rb.neg, .slice Bu1 rb.num.length Bu2, .slice Bu3 rb.den.length Bu4] 26)))
  have Bx := Lib.hid (Bx.out.ext ((Ext.refl w9).alloc (.cells #[.bool rb.neg, .slice Bu1 rb.num.length Bu2, .slice Bu3 rb.den.length Bu4] 26)))
  have NAu := Lib.hid (NAu.out.ext ((Ext.refl w9).alloc (.cells #[.bool rb.neg, .slice Bu1 rb.num.length Bu2, .slice Bu3 rb.den.length Bu4] 26)))
  have BAu := Lib.hid (BAu.out.ext ((Ext.refl w9).alloc (.cells #[.bool rb.neg, .slice Bu1 rb.num.length Bu2, .slice Bu3 rb.den.length Bu4] 26)))
  have NBu := Lib.hid (NBu.out.ext ((Ext.refl w9).alloc (.cells #[.bool rb.neg, .slice Bu1 rb.num.length Bu2, .slice Bu3 rb.den.length Bu4] 26)))
  have X := Lib.hid (X.out.alloc (.cells #[.bool rb.neg, .slice Bu1 rb.num.length Bu2, .slice Bu3 rb.den.length Bu4] 26))
  repeat (first | go_values | go_skip | go_guarded | go_step | go_upon)
  refine (Gr12.out _).mono ?_
  rintro e w10 ⟨⟨v, rfl, nn⟩, hx⟩
  have Nx := Lib.hid (Nx.out.ext (hx))
  have Bx := Lib.hid (Bx.out.ext (hx))
  have NAu := Lib.hid (NAu.out.ext (hx))
  have BAu := Lib.hid (BAu.out.ext (hx))
  have NBu := Lib.hid (NBu.out.ext (hx))
  have BBu := Lib.hid (BBu.out.ext (hx))
  have X := Lib.hid (X.out.trans (hx))
  obtain ⟨hu1, hu2, hu3, hu4, rfl⟩ := nn.shape
  have Nhu := Lib.hid nn.rd
  clear nn hx
  dsimp only
  repeat (first | go_values | go_skip | go_guarded | go_step | go_upon)
  refine (Grm.out _).mono ?_
  rintro e w11 ⟨⟨v, rfl, nn⟩, hx⟩
  have Nx := Lib.hid (Nx.out.ext (hx))
  have Bx := Lib.hid (Bx.out.ext (hx))
  have NAu := Lib.hid (NAu.out.ext (hx))
  have BAu := Lib.hid (BAu.out.ext (hx))
  have NBu := Lib.hid (NBu.out.ext (hx))
  have BBu := Lib.hid (BBu.out.ext (hx))
  have Nhu := Lib.hid (Nhu.out.ext (hx))
  have X := Lib.hid (X.out.trans (hx))
  obtain ⟨iu1, iu2, iu3, iu4, rfl⟩ := nn.shape
  have Niu := Lib.hid nn.rd
  clear nn hx
  dsimp only
  repeat (first | go_values | go_skip | go_guarded | go_step | go_upon)
  refine (Hgd.out _ _ _ Nhu.out Niu.out).mono ?_
  rintro e w12 ⟨⟨v, rfl, nn⟩, hx⟩
  have Nx := Lib.hid (Nx.out.ext (hx))
  have Bx := Lib.hid (Bx.out.ext (hx))
  have NAu := Lib.hid (NAu.out.ext (hx))
  have BAu := Lib.hid (BAu.out.ext (hx))
  have NBu := Lib.hid (NBu.out.ext (hx))
  have BBu := Lib.hid (BBu.out.ext (hx))
  have Nhu := Lib.hid (Nhu.out.ext (hx))
  have Niu := Lib.hid (Niu.out.ext (hx))
  have X := Lib.hid (X.out.trans (hx))
  obtain ⟨Cu1, Cu2, Cu3, Cu4, rfl⟩ := nn.shape
  have NCu := Lib.hid nn.rd
  clear nn hx
  dsimp only
  clear Nhu Niu
  have BCu := Lib.hid (Blk.new w12 #[.bool rc.neg, .slice Cu1 rc.num.length Cu2, .slice Cu3 rc.den.length Cu4] 26)
  have Nx := Lib.hid (Nx.out.ext ((Ext.refl w12).alloc (.cells #[.bool rc.neg, .slice Cu1 rc.num.length Cu2, .slice Cu3 rc.den.length Cu4] 26)))
  have Bx := Lib.hid (Bx.out.ext ((Ext.refl w12).alloc (.cells #[.bool rc.neg, .slice Cu1 rc.num.length Cu2, .slice Cu3 rc.den.length Cu4] 26)))
  have NAu := Lib.hid (NAu.out.ext ((Ext.refl w12).alloc (.cells #[.bool rc.neg, .slice Cu1 rc.num.length Cu2, .slice Cu3 rc.den.length Cu4] 26)))
  have BAu := Lib.hid (BAu.out.ext ((Ext.refl w12).alloc (.cells #[.bool rc.neg, .slice Cu1 rc.num.length Cu2, .slice Cu3 rc.den.length Cu4] 26)))
  have NBu := Lib.hid (NBu.out.ext ((Ext.refl w12).alloc (.cells #[.bool rc.neg, .slice Cu1 rc.num.length Cu2, .slice Cu3 rc.den.length Cu4] 26)))
  have BBu := Lib.hid (BBu.out.ext ((Ext.refl w12).alloc (.cells #[.bool rc.neg, .slice Cu1 rc.num.length Cu2, .slice Cu3 rc.den.length Cu4] 26)))
  have NCu := Lib.hid (NCu.out.ext ((Ext.refl w12).alloc (.cells #[.bool rc.neg, .slice Cu1 rc.num.length Cu2, .slice Cu3 rc.den.length Cu4] 26)))
  have X := Lib.hid (X.out.alloc (.cells #[.bool rc.neg, .slice Cu1 rc.num.length Cu2, .slice Cu3 rc.den.length Cu4] 26))
  repeat (first | go_values | go_skip | go_guarded | go_step | go_upon)
  refine (Hgp1.out _).mono ?_
  rintro e w13 ⟨⟨v, rfl, nn⟩, hx⟩
  have Nx := Lib.hid (Nx.out.ext (hx))
  have Bx := Lib.hid (Bx.out.ext (hx))
  have NAu := Lib.hid (NAu.out.ext (hx))
  have BAu := Lib.hid (BAu.out.ext (hx))
  have NBu := Lib.hid (NBu.out.ext (hx))
  have BBu := Lib.hid (BBu.out.ext (hx))
  have NCu := Lib.hid (NCu.out.ext (hx))
  have BCu := Lib.hid (BCu.out.ext (hx))
  have X := Lib.hid (X.out.trans (hx))
  obtain ⟨p1u1, p1u2, p1u3, p1u4, rfl⟩ := nn.shape
  clear nn hx
  dsimp only
  have Nx := Lib.hid (Nx.out.ext ((Ext.refl w13).alloc (.cells #[.bool rz.neg, .slice p1u1 rz.num.length p1u2, .slice p1u3 rz.den.length p1u4] 26)))
  have Bx := Lib.hid (Bx.out.ext ((Ext.refl w13).alloc (.cells #[.bool rz.neg, .slice p1u1 rz.num.length p1u2, .slice p1u3 rz.den.length p1u4] 26)))
  have NAu := Lib.hid (NAu.out.ext ((Ext.refl w13).alloc (.cells #[.bool rz.neg, .slice p1u1 rz.num.length p1u2, .slice p1u3 rz.den.length p1u4] 26)))
  have BAu := Lib.hid (BAu.out.ext ((Ext.refl w13).alloc (.cells #[.bool rz.neg, .slice p1u1 rz.num.length p1u2, .slice p1u3 rz.den.length p1u4] 26)))
  have NBu := Lib.hid (NBu.out.ext ((Ext.refl w13).alloc (.cells #[.bool rz.neg, .slice p1u1 rz.num.length p1u2, .slice p1u3 rz.den.length p1u4] 26)))
  have BBu := Lib.hid (BBu.out.ext ((Ext.refl w13).alloc (.cells #[.bool rz.neg, .slice p1u1 rz.num.length p1u2, .slice p1u3 rz.den.length p1u4] 26)))
  have NCu := Lib.hid (NCu.out.ext ((Ext.refl w13).alloc (.cells #[.bool rz.neg, .slice p1u1 rz.num.length p1u2, .slice p1u3 rz.den.length p1u4] 26)))
  have BCu := Lib.hid (BCu.out.ext ((Ext.refl w13).alloc (.cells #[.bool rz.neg, .slice p1u1 rz.num.length p1u2, .slice p1u3 rz.den.length p1u4] 26)))
  have X := Lib.hid (X.out.alloc (.cells #[.bool rz.neg, .slice p1u1 rz.num.length p1u2, .slice p1u3 rz.den.length p1u4] 26))
  repeat (first | go_values | go_skip | go_guarded | go_step | go_upon)
  refine (Hgp2.out _).mono ?_
  rintro e w14 ⟨⟨v, rfl, nn⟩, hx⟩
  have Nx := Lib.hid (Nx.out.ext (hx))
  have Bx := Lib.hid (Bx.out.ext (hx))
  have NAu := Lib.hid (NAu.out.ext (hx))
  have BAu := Lib.hid (BAu.out.ext (hx))
  have NBu := Lib.hid (NBu.out.ext (hx))
  have BBu := Lib.hid (BBu.out.ext (hx))
  have NCu := Lib.hid (NCu.out.ext (hx))
  have BCu := Lib.hid (BCu.out.ext (hx))
  have X := Lib.hid (X.out.trans (hx))
  obtain ⟨p2u1, p2u2, p2u3, p2u4, rfl⟩ := nn.shape
  clear nn hx
  dsimp only
  have Nx := Lib.hid (Nx.out.ext ((Ext.refl w14).alloc (.cells #[.bool rz.neg, .slice p2u1 rz.num.length p2u2, .slice p2u3 rz.den.length p2u4] 26)))
  have Bx := Lib.hid (Bx.out.ext ((Ext.refl w14).alloc (.cells #[.bool rz.neg, .slice p2u1 rz.num.length p2u2, .slice p2u3 rz.den.length p2u4] 26)))
  have NAu := Lib.hid (NAu.out.ext ((Ext.refl w14).alloc (.cells #[.bool rz.neg, .slice p2u1 rz.num.length p2u2, .slice p2u3 rz.den.length p2u4] 26)))
  have BAu := Lib.hid (BAu.out.ext ((Ext.refl w14).alloc (.cells #[.bool rz.neg, .slice p2u1 rz.num.length p2u2, .slice p2u3 rz.den.length p2u4] 26)))
  have NBu := Lib.hid (NBu.out.ext ((Ext.refl w14).alloc (.cells #[.bool rz.neg, .slice p2u1 rz.num.length p2u2, .slice p2u3 rz.den.length p2u4] 26)))
  have BBu := Lib.hid (BBu.out.ext ((Ext.refl w14).alloc (.cells #[.bool rz.neg, .slice p2u1 rz.num.length p2u2, .slice p2u3 rz.den.length p2u4] 26)))
  have NCu := Lib.hid (NCu.out.ext ((Ext.refl w14).alloc (.cells #[.bool rz.neg, .slice p2u1 rz.num.length p2u2, .slice p2u3 rz.den.length p2u4] 26)))
  have BCu := Lib.hid (BCu.out.ext ((Ext.refl w14).alloc (.cells #[.bool rz.neg, .slice p2u1 rz.num.length p2u2, .slice p2u3 rz.den.length p2u4] 26)))
  have X := Lib.hid (X.out.alloc (.cells #[.bool rz.neg, .slice p2u1 rz.num.length p2u2, .slice p2u3 rz.den.length p2u4] 26))
  repeat (first | go_values | go_skip | go_guarded | go_step | go_upon)
  refine (Hgp3.out _).mono ?_
  rintro e w15 ⟨⟨v, rfl, nn⟩, hx⟩
  have Nx := Lib.hid (Nx.out.ext (hx))
  have Bx := Lib.hid (Bx.out.ext (hx))
  have NAu := Lib.hid (NAu.out.ext (hx))
  have BAu := Lib.hid (BAu.out.ext (hx))
  have NBu := Lib.hid (NBu.out.ext (hx))
  have BBu := Lib.hid (BBu.out.ext (hx))
  have NCu := Lib.hid (NCu.out.ext (hx))
  have BCu := Lib.hid (BCu.out.ext (hx))
  have X := Lib.hid (X.out.trans (hx))
  obtain ⟨p3u1, p3u2, p3u3, p3u4, rfl⟩ := nn.shape
  clear nn hx
  dsimp only
  have Nx := Lib.hid (Nx.out.ext ((Ext.refl w15).alloc (.cells #[.bool rz.neg, .slice p3u1 rz.num.length p3u2, .slice p3u3 rz.den.length p3u4] 26)))
  have Bx := Lib.hid (Bx.out.ext ((Ext.refl w15).alloc (.cells #[.bool rz.neg, .slice p3u1 rz.num.length p3u2, .slice p3u3 rz.den.length p3u4] 26)))
  have NAu := Lib.hid (NAu.out.ext ((Ext.refl w15).alloc (.cells #[.bool rz.neg, .slice p3u1 rz.num.length p3u2, .slice p3u3 rz.den.length p3u4] 26)))
  have BAu := Lib.hid (BAu.out.ext ((Ext.refl w15).alloc (.cells #[.bool rz.neg, .slice p3u1 rz.num.length p3u2, .slice p3u3 rz.den.length p3u4] 26)))
  have NBu := Lib.hid (NBu.out.ext ((Ext.refl w15).alloc (.cells #[.bool rz.neg, .slice p3u1 rz.num.length p3u2, .slice p3u3 rz.den.length p3u4] 26)))
  have BBu := Lib.hid (BBu.out.ext ((Ext.refl w15).alloc (.cells #[.bool rz.neg, .slice p3u1 rz.num.length p3u2, .slice p3u3 rz.den.length p3u4] 26)))
  have NCu := Lib.hid (NCu.out.ext ((Ext.refl w15).alloc (.cells #[.bool rz.neg, .slice p3u1 rz.num.length p3u2, .slice p3u3 rz.den.length p3u4] 26)))
  have BCu := Lib.hid (BCu.out.ext ((Ext.refl w15).alloc (.cells #[.bool rz.neg, .slice p3u1 rz.num.length p3u2, .slice p3u3 rz.den.length p3u4] 26)))
  have X := Lib.hid (X.out.alloc (.cells #[.bool rz.neg, .slice p3u1 rz.num.length p3u2, .slice p3u3 rz.den.length p3u4] 26))
  have c0 := Bx.out.cell; have l0 := Bx.out.lt
  iterate 22 (first | go_values | go_skip | go_guarded | go_step | go_upon)
  simp only [List.append_eq, List.cons_append, List.nil_append]
  repeat (first | go_values | go_skip | go_guarded | go_step | go_upon)
  refine (equalTrue_any _ _ rx ⟨true, [3], [2]⟩ Erx.out _ (Nx.out.ext (((Ext.refl (w15.alloc (.cells #[.bool rz.neg, .slice p3u1 rz.num.length p3u2, .slice p3u3 rz.den.length p3u4] 26))).alloc (.cells #[.int .u32 3] 46)).alloc (.cells #[.int .u32 2] 46))) (lit2 (w15.alloc (.cells #[.bool rz.neg, .slice p3u1 rz.num.length p3u2, .slice p3u3 rz.den.length p3u4] 26)) true 3 2 (w15.heap.size + 1) (World.size_alloc _ _))).mono ?_
  rintro e w16 ⟨rfl, hx⟩
  have Nx := Lib.hid (Nx.out.ext ((((Ext.refl (w15.alloc (.cells #[.bool rz.neg, .slice p3u1 rz.num.length p3u2, .slice p3u3 rz.den.length p3u4] 26))).alloc (.cells #[.int .u32 3] 46)).alloc (.cells #[.int .u32 2] 46)).trans hx))
  have Bx := Lib.hid (Bx.out.ext ((((Ext.refl (w15.alloc (.cells #[.bool rz.neg, .slice p3u1 rz.num.length p3u2, .slice p3u3 rz.den.length p3u4] 26))).alloc (.cells #[.int .u32 3] 46)).alloc (.cells #[.int .u32 2] 46)).trans hx))
  have NAu := Lib.hid (NAu.out.ext ((((Ext.refl (w15.alloc (.cells #[.bool rz.neg, .slice p3u1 rz.num.length p3u2, .slice p3u3 rz.den.length p3u4] 26))).alloc (.cells #[.int .u32 3] 46)).alloc (.cells #[.int .u32 2] 46)).trans hx))
  have BAu := Lib.hid (BAu.out.ext ((((Ext.refl (w15.alloc (.cells #[.bool rz.neg, .slice p3u1 rz.num.length p3u2, .slice p3u3 rz.den.length p3u4] 26))).alloc (.cells #[.int .u32 3] 46)).alloc (.cells #[.int .u32 2] 46)).trans hx))
  have NBu := Lib.hid (NBu.out.ext ((((Ext.refl (w15.alloc (.cells #[.bool rz.neg, .slice p3u1 rz.num.length p3u2, .slice p3u3 rz.den.length p3u4] 26))).alloc (.cells #[.int .u32 3] 46)).alloc (.cells #[.int .u32 2] 46)).trans hx))
  have BBu := Lib.hid (BBu.out.ext ((((Ext.refl (w15.alloc (.cells #[.bool rz.neg, .slice p3u1 rz.num.length p3u2, .slice p3u3 rz.den.length p3u4] 26))).alloc (.cells #[.int .u32 3] 46)).alloc (.cells #[.int .u32 2] 46)).trans hx))
  have NCu := Lib.hid (NCu.out.ext ((((Ext.refl (w15.alloc (.cells #[.bool rz.neg, .slice p3u1 rz.num.length p3u2, .slice p3u3 rz.den.length p3u4] 26))).alloc (.cells #[.int .u32 3] 46)).alloc (.cells #[.int .u32 2] 46)).trans hx))
  have BCu := Lib.hid (BCu.out.ext ((((Ext.refl (w15.alloc (.cells #[.bool rz.neg, .slice p3u1 rz.num.length p3u2, .slice p3u3 rz.den.length p3u4] 26))).alloc (.cells #[.int .u32 3] 46)).alloc (.cells #[.int .u32 2] 46)).trans hx))
  have X := Lib.hid (X.out.trans ((((Ext.refl (w15.alloc (.cells #[.bool rz.neg, .slice p3u1 rz.num.length p3u2, .slice p3u3 rz.den.length p3u4] 26))).alloc (.cells #[.int .u32 3] 46)).alloc (.cells #[.int .u32 2] 46)).trans hx))
  clear hx
  clear c0 l0
  dsimp only
  have c0 := BAu.out.cell; have l0 := BAu.out.lt
  repeat (first | go_values | go_skip | go_guarded | go_step | go_upon)
  refine (equalTrue_any _ _ ra ⟨false, [5], [6]⟩ Era.out _ (NAu.out.ext (((Ext.refl w16).alloc (.cells #[.int .u32 5] 46)).alloc (.cells #[.int .u32 6] 46))) (lit2 w16 false 5 6 w16.heap.size rfl)).mono ?_
  rintro e w17 ⟨rfl, hx⟩
  have Nx := Lib.hid (Nx.out.ext ((((Ext.refl w16).alloc (.cells #[.int .u32 5] 46)).alloc (.cells #[.int .u32 6] 46)).trans hx))
  have Bx := Lib.hid (Bx.out.ext ((((Ext.refl w16).alloc (.cells #[.int .u32 5] 46)).alloc (.cells #[.int .u32 6] 46)).trans hx))
  have NAu := Lib.hid (NAu.out.ext ((((Ext.refl w16).alloc (.cells #[.int .u32 5] 46)).alloc (.cells #[.int .u32 6] 46)).trans hx))
  have BAu := Lib.hid (BAu.out.ext ((((Ext.refl w16).alloc (.cells #[.int .u32 5] 46)).alloc (.cells #[.int .u32 6] 46)).trans hx))
  have NBu := Lib.hid (NBu.out.ext ((((Ext.refl w16).alloc (.cells #[.int .u32 5] 46)).alloc (.cells #[.int .u32 6] 46)).trans hx))
  have BBu := Lib.hid (BBu.out.ext ((((Ext.refl w16).alloc (.cells #[.int .u32 5] 46)).alloc (.cells #[.int .u32 6] 46)).trans hx))
  have NCu := Lib.hid (NCu.out.ext ((((Ext.refl w16).alloc (.cells #[.int .u32 5] 46)).alloc (.cells #[.int .u32 6] 46)).trans hx))
  have BCu := Lib.hid (BCu.out.ext ((((Ext.refl w16).alloc (.cells #[.int .u32 5] 46)).alloc (.cells #[.int .u32 6] 46)).trans hx))
  have X := Lib.hid (X.out.trans ((((Ext.refl w16).alloc (.cells #[.int .u32 5] 46)).alloc (.cells #[.int .u32 6] 46)).trans hx))
  clear hx
  clear c0 l0
  dsimp only
  have c0 := BBu.out.cell; have l0 := BBu.out.lt
  repeat (first | go_values | go_skip | go_guarded | go_step | go_upon)
  refine (equalTrue_any _ _ rb ⟨false, [1], [3]⟩ Erb.out _ (NBu.out.ext (((Ext.refl w17).alloc (.cells #[.int .u32 1] 46)).alloc (.cells #[.int .u32 3] 46))) (lit2 w17 false 1 3 w17.heap.size rfl)).mono ?_
  rintro e w18 ⟨rfl, hx⟩
  have Nx := Lib.hid (Nx.out.ext ((((Ext.refl w17).alloc (.cells #[.int .u32 1] 46)).alloc (.cells #[.int .u32 3] 46)).trans hx))
  have Bx := Lib.hid (Bx.out.ext ((((Ext.refl w17).alloc (.cells #[.int .u32 1] 46)).alloc (.cells #[.int .u32 3] 46)).trans hx))
  have NAu := Lib.hid (NAu.out.ext ((((Ext.refl w17).alloc (.cells #[.int .u32 1] 46)).alloc (.cells #[.int .u32 3] 46)).trans hx))
  have BAu := Lib.hid (BAu.out.ext ((((Ext.refl w17).alloc (.cells #[.int .u32 1] 46)).alloc (.cells #[.int .u32 3] 46)).trans hx))
  have NBu := Lib.hid (NBu.out.ext ((((Ext.refl w17).alloc (.cells #[.int .u32 1] 46)).alloc (.cells #[.int .u32 3] 46)).trans hx))
  have BBu := Lib.hid (BBu.out.ext ((((Ext.refl w17).alloc (.cells #[.int .u32 1] 46)).alloc (.cells #[.int .u32 3] 46)).trans hx))
  have NCu := Lib.hid (NCu.out.ext ((((Ext.refl w17).alloc (.cells #[.int .u32 1] 46)).alloc (.cells #[.int .u32 3] 46)).trans hx))
  have BCu := Lib.hid (BCu.out.ext ((((Ext.refl w17).alloc (.cells #[.int .u32 1] 46)).alloc (.cells #[.int .u32 3] 46)).trans hx))
  have X := Lib.hid (X.out.trans ((((Ext.refl w17).alloc (.cells #[.int .u32 1] 46)).alloc (.cells #[.int .u32 3] 46)).trans hx))
  clear hx
  clear c0 l0
  dsimp only
  have c0 := BCu.out.cell; have l0 := BCu.out.lt
  repeat (first | go_values | go_skip | go_guarded | go_step | go_upon)
  refine (equalTrue_any _ _ rc ⟨true, [2], []⟩ Erc.out _ (NCu.out.ext ((Ext.refl w18).alloc (.cells #[.int .u32 2] 46))) (lit1 w18 true 2 w18.heap.size rfl)).mono ?_
  rintro e w19 ⟨rfl, hx⟩
  have Nx := Lib.hid (Nx.out.ext (((Ext.refl w18).alloc (.cells #[.int .u32 2] 46)).trans hx))
  have Bx := Lib.hid (Bx.out.ext (((Ext.refl w18).alloc (.cells #[.int .u32 2] 46)).trans hx))
  have NAu := Lib.hid (NAu.out.ext (((Ext.refl w18).alloc (.cells #[.int .u32 2] 46)).trans hx))
  have BAu := Lib.hid (BAu.out.ext (((Ext.refl w18).alloc (.cells #[.int .u32 2] 46)).trans hx))
  have NBu := Lib.hid (NBu.out.ext (((Ext.refl w18).alloc (.cells #[.int .u32 2] 46)).trans hx))
  have BBu := Lib.hid (BBu.out.ext (((Ext.refl w18).alloc (.cells #[.int .u32 2] 46)).trans hx))
  have NCu := Lib.hid (NCu.out.ext (((Ext.refl w18).alloc (.cells #[.int .u32 2] 46)).trans hx))
  have BCu := Lib.hid (BCu.out.ext (((Ext.refl w18).alloc (.cells #[.int .u32 2] 46)).trans hx))
  have X := Lib.hid (X.out.trans (((Ext.refl w18).alloc (.cells #[.int .u32 2] 46)).trans hx))
  clear hx
  clear c0 l0
  dsimp only
  repeat (first | go_values | go_skip | go_guarded | go_step | go_upon)
  refine (Hg5.out _).mono ?_
  rintro e w20 ⟨⟨v, rfl, nn⟩, hx⟩
  have Nx := Lib.hid (Nx.out.ext (hx))
  have Bx := Lib.hid (Bx.out.ext (hx))
  have NAu := Lib.hid (NAu.out.ext (hx))
  have BAu := Lib.hid (BAu.out.ext (hx))
  have NBu := Lib.hid (NBu.out.ext (hx))
  have BBu := Lib.hid (BBu.out.ext (hx))
  have NCu := Lib.hid (NCu.out.ext (hx))
  have BCu := Lib.hid (BCu.out.ext (hx))
  have X := Lib.hid (X.out.trans (hx))
  obtain ⟨five1, five2, five3, five4, rfl⟩ := nn.shape
  have Nfive := Lib.hid nn.rd
  clear nn hx
  dsimp only
  repeat (first | go_values | go_skip | go_guarded | go_step | go_upon)
  refine (equalTrue_any _ _ r5 ⟨false, [5], []⟩ Er5.out _ (Nfive.out.ext ((Ext.refl w20).alloc (.cells #[.int .u32 5] 46))) (lit1 w20 false 5 w20.heap.size rfl)).mono ?_
  rintro e w21 ⟨rfl, hx⟩
  have Nx := Lib.hid (Nx.out.ext (((Ext.refl w20).alloc (.cells #[.int .u32 5] 46)).trans hx))
  have Bx := Lib.hid (Bx.out.ext (((Ext.refl w20).alloc (.cells #[.int .u32 5] 46)).trans hx))
  have NAu := Lib.hid (NAu.out.ext (((Ext.refl w20).alloc (.cells #[.int .u32 5] 46)).trans hx))
  have BAu := Lib.hid (BAu.out.ext (((Ext.refl w20).alloc (.cells #[.int .u32 5] 46)).trans hx))
  have NBu := Lib.hid (NBu.out.ext (((Ext.refl w20).alloc (.cells #[.int .u32 5] 46)).trans hx))
  have BBu := Lib.hid (BBu.out.ext (((Ext.refl w20).alloc (.cells #[.int .u32 5] 46)).trans hx))
  have NCu := Lib.hid (NCu.out.ext (((Ext.refl w20).alloc (.cells #[.int .u32 5] 46)).trans hx))
  have BCu := Lib.hid (BCu.out.ext (((Ext.refl w20).alloc (.cells #[.int .u32 5] 46)).trans hx))
  have Nfive := Lib.hid (Nfive.out.ext (((Ext.refl w20).alloc (.cells #[.int .u32 5] 46)).trans hx))
  have X := Lib.hid (X.out.trans (((Ext.refl w20).alloc (.cells #[.int .u32 5] 46)).trans hx))
  clear hx
  dsimp only
  repeat (first | go_values | go_skip | go_guarded | go_step | go_upon)
  go_ret
  exact ⟨rfl, X.out⟩

end Go.Proofs.Ytebdmmlniohhgaa
