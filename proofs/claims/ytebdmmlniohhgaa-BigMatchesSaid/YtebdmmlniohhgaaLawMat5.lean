/- Walk of the law BigMatches: it returns true (written by mkmatch05.py). Conditions: two slices of limbs. -/
import Derived.Test.YtebdmmlniohhgaaBigOv
import Derived.Test.YtebdmmlniohhgaaBigLp
import Derived.Test.YtebdmmlniohhgaaRefE
import Derived.Test.YtebdmmlniohhgaaRefF
import Derived.Test.YtebdmmlniohhgaaRefG
import Derived.Test.YtebdmmlniohhgaaRefK
import Derived.Test.YtebdmmlniohhgaaRefL
import Derived.Test.YtebdmmlniohhgaaBigUA
namespace Go.Proofs.Ytebdmmlniohhgaa
set_option linter.unusedSimpArgs false
set_option linter.unusedVariables false
open Go.RowKit

theorem Kp.shape {w : World} {A B : Nat} {v : Value} {l : List Int} (h : Kp w A B v l) : ∃ a c, v = .slice a l.length c := by
  obtain ⟨o, h1, _⟩ := h
  exact h1.shape
theorem Kp.two {w w' : World} {v1 v2 : Value} {l1 l2 : List Int} (h : Two w w' v1 v2 l1 l2) (hs : w.heap.size ≤ w'.heap.size) : ∃ m, w.heap.size ≤ m ∧ m ≤ w'.heap.size ∧ Kp w' w.heap.size m v1 l1 ∧ Kp w' m w'.heap.size v2 l2 := by
  obtain ⟨m, h0, ⟨o1, h1, h1'⟩, o, h2, h3⟩ := h
  refine ⟨min m w'.heap.size, by omega, by omega, ⟨o1, h1, fun g hg => ?_⟩, o, h2, fun g hg => ?_⟩
  · have := h1.lt hg; have := h1' g hg; omega
  · have := h2.lt hg; have := h3 g hg; omega

theorem rdU_sh {w : World} {v : Value} {l : List Int} (h : RdI .u32 w v l) : ∃ a c, v = .slice a l.length c := by
  obtain ⟨a, c, rfl, _⟩ := rdU h; exact ⟨a, c, rfl⟩

set_option maxRecDepth 100000 in
set_option maxHeartbeats 8000000 in
theorem match5_any (v1 v2 : Value) (l1 l2 : List Int) (w : World) (h1 : RdI .u32 w v1 l1) (h2 : RdI .u32 w v2 l2) (hl1 : Lim l1) (hl2 : Lim l2) :
    Calls Try.prog 9 #[v1, v2] w fun en w' => en = .returned (.bool true) ∧ Ext w w' := by
  have H1 := Lib.hid h1; have H2 := Lib.hid h2
  obtain ⟨a1, c1, rfl⟩ := rdU_sh h1
  obtain ⟨a2, c2, rfl⟩ := rdU_sh h2
  have HL1 := Lib.hid hl1; have HL2 := Lib.hid hl2
  clear h1 h2
  have ha0 := fun W v1 h1 => refInt_any v1 l1 W h1 hl1
  have hb0 := fun W v1 h1 => int_any v1 l1 W h1 hl1
  obtain ⟨S0, hS0⟩ : ∃ S0, S0 = intS l1 := ⟨_, rfl⟩
  rw [← hS0] at ha0 hb0
  obtain ⟨P0, C0⟩ := S0
  have HA0 := Lib.hid ha0; have HB0 := Lib.hid hb0
  clear ha0 hb0 hS0
  have ha1 := fun W v1 h1 => refBits_any v1 l1 W h1 hl1
  have hb1 := fun W v1 h1 => bits_any v1 l1 W h1 hl1
  obtain ⟨S1, hS1⟩ : ∃ S1, S1 = bitsS l1 := ⟨_, rfl⟩
  rw [← hS1] at ha1 hb1
  obtain ⟨P1, C1⟩ := S1
  have HA1 := Lib.hid ha1; have HB1 := Lib.hid hb1
  clear ha1 hb1 hS1
  have ha2 := fun W v1 v2 h1 h2 => refAdd_any v1 v2 l1 l2 W h1 h2 hl1 hl2
  have hb2 := fun W v1 v2 h1 h2 => add2_any v1 v2 l1 l2 W h1 h2 hl1 hl2
  obtain ⟨S2, hS2⟩ : ∃ S2, S2 = addS l1 l2 := ⟨_, rfl⟩
  rw [← hS2] at ha2 hb2
  obtain ⟨P2, C2⟩ := S2
  have HA2 := Lib.hid ha2; have HB2 := Lib.hid hb2
  clear ha2 hb2 hS2
  have ha3 := fun W v1 v2 h1 h2 => refSub_any v1 v2 l1 l2 W h1 h2 hl1 hl2
  have hb3 := fun W v1 v2 h1 h2 => sub2_any v1 v2 l1 l2 W h1 h2 hl1 hl2
  obtain ⟨S3, hS3⟩ : ∃ S3, S3 = subS l1 l2 := ⟨_, rfl⟩
  rw [← hS3] at ha3 hb3
  obtain ⟨P3, C3⟩ := S3
  have HA3 := Lib.hid ha3; have HB3 := Lib.hid hb3
  clear ha3 hb3 hS3
  have ha4 := fun W v1 v2 h1 h2 => refMul_any v1 v2 l1 l2 W h1 h2 hl1 hl2
  have hb4 := fun W v1 v2 h1 h2 => mul2_any v1 v2 l1 l2 W h1 h2 hl1 hl2
  obtain ⟨S4, hS4⟩ : ∃ S4, S4 = mulS l1 l2 := ⟨_, rfl⟩
  rw [← hS4] at ha4 hb4
  obtain ⟨P4, C4⟩ := S4
  have HA4 := Lib.hid ha4; have HB4 := Lib.hid hb4
  clear ha4 hb4 hS4
  have ha5 := fun W v1 v2 h1 h2 => refDivMod_any v1 v2 l1 l2 W h1 h2 hl1 hl2
  have hb5 := fun W v1 v2 h1 h2 => divModA_any v1 v2 l1 l2 W h1 h2 hl1 hl2
  obtain ⟨S5, hS5⟩ : ∃ S5, S5 = divS l1 l2 := ⟨_, rfl⟩
  rw [← hS5] at ha5 hb5
  obtain ⟨P5, Q5, C5⟩ := S5
  have HA5 := Lib.hid ha5; have HB5 := Lib.hid hb5
  clear ha5 hb5 hS5
  have ha6 := fun W v1 v2 h1 h2 => refCmp_any v1 v2 l1 l2 W h1 h2 hl1 hl2
  have hb6 := fun W v1 v2 h1 h2 => cmp2_any v1 v2 l1 l2 W h1 h2 hl1 hl2
  obtain ⟨S6, hS6⟩ : ∃ S6, S6 = cmpS l1 l2 := ⟨_, rfl⟩
  rw [← hS6] at ha6 hb6
  obtain ⟨P6, C6⟩ := S6
  have HA6 := Lib.hid ha6; have HB6 := Lib.hid hb6
  clear ha6 hb6 hS6
  have ha7 := fun W v1 v2 h1 h2 => refGCD_any v1 v2 l1 l2 W h1 h2 hl1 hl2
  have hb7 := fun W v1 v2 h1 h2 => gcd_any v1 v2 l1 l2 W h1 h2 hl1 hl2
  obtain ⟨S7, hS7⟩ : ∃ S7, S7 = gcdS l1 l2 := ⟨_, rfl⟩
  rw [← hS7] at ha7 hb7
  obtain ⟨P7, C7⟩ := S7
  have HA7 := Lib.hid ha7; have HB7 := Lib.hid hb7
  clear ha7 hb7 hS7
  have ha8 := fun W v1 h1 => refText_any v1 l1 W h1 hl1
  have hb8 := fun W v1 h1 => text_any v1 l1 W h1 hl1
  obtain ⟨S8, hS8⟩ : ∃ S8, S8 = textS l1 := ⟨_, rfl⟩
  rw [← hS8] at ha8 hb8
  obtain ⟨P8, C8⟩ := S8
  have HA8 := Lib.hid ha8; have HB8 := Lib.hid hb8
  clear ha8 hb8 hS8
  have hca := fun W v h => refCheck1_any v l1 W h
  have hcb := fun W v h => check1_any v l1 W h
  obtain ⟨CE, hCE⟩ : ∃ CE, CE = chkE l1 := ⟨_, rfl⟩
  rw [← hCE] at hca hcb
  have HCA := Lib.hid hca; have HCB := Lib.hid hcb
  clear hca hcb hCE hl1 hl2
  go_enter Try.func9, Try.ntmps9
  go_wp2_with fail
  refine (longC2_any a1 a2 l1.length l2.length c1 c2 w).mono ?_
  rintro e w0 ⟨⟨r, rfl, hr⟩, hx0⟩
  have X0 := Lib.hid hx0
  clear hx0
  cases r
  · have hr2 := hr rfl
    obtain ⟨⟨_, b1⟩, _, b2⟩ := hr2
    clear hr
    go_wp2_with fail
    refine (copyNat_any _ l1 _ (H1.out.ext X0.out) (by omega)).mono ?_
    rintro e wx ⟨⟨vx, rfl, nx⟩, hxx⟩
    obtain ⟨ax, cx, rfl⟩ := nx.shape
    have RX := Lib.hid nx.rd; have XX := Lib.hid (X0.out.trans hxx)
    clear nx hxx
    go_wp2_with fail
    refine (copyNat_any _ l2 _ (H2.out.ext XX.out) (by omega)).mono ?_
    rintro e wy ⟨⟨vy, rfl, ny⟩, hxy⟩
    obtain ⟨ay, cy, rfl⟩ := ny.shape
    have RY := Lib.hid ny.rd; have RX := Lib.hid (RX.out.ext hxy); have X := Lib.hid (XX.out.trans hxy)
    clear ny hxy XX X0
    go_wp2_with fail
    refine (HA0.out _ _ (H1.out.ext X.out)).mono ?_
    rintro e u0 ⟨rfl, hx⟩
    have RX := Lib.hid (RX.out.ext hx); have RY := Lib.hid (RY.out.ext hx); have X := Lib.hid (X.out.trans hx)
    clear hx
    dsimp only
    go_wp2_with fail
    refine (HA1.out _ _ (H1.out.ext X.out)).mono ?_
    rintro e u1 ⟨rfl, hx⟩
    have RX := Lib.hid (RX.out.ext hx); have RY := Lib.hid (RY.out.ext hx); have X := Lib.hid (X.out.trans hx)
    clear hx
    dsimp only
    go_wp2_with fail
    refine (HA2.out _ _ _ (H1.out.ext X.out) (H2.out.ext X.out)).mono ?_
    rintro e u2 ⟨⟨v, rfl, nn⟩, hx⟩
    obtain ⟨d2, f2, rfl⟩ := nn.shape
    have R2 := Lib.hid nn.rd
    clear nn
    have RX := Lib.hid (RX.out.ext hx); have RY := Lib.hid (RY.out.ext hx); have X := Lib.hid (X.out.trans hx)
    clear hx
    dsimp only
    go_wp2_with fail
    refine (HA3.out _ _ _ (H1.out.ext X.out) (H2.out.ext X.out)).mono ?_
    rintro e u3 ⟨⟨v, rfl, nn⟩, hx⟩
    obtain ⟨d3, f3, rfl⟩ := nn.shape
    have R3 := Lib.hid nn.rd
    clear nn
    have RX := Lib.hid (RX.out.ext hx); have RY := Lib.hid (RY.out.ext hx); have R2 := Lib.hid (R2.out.ext hx); have X := Lib.hid (X.out.trans hx)
    clear hx
    dsimp only
    go_wp2_with fail
    refine (HA4.out _ _ _ (H1.out.ext X.out) (H2.out.ext X.out)).mono ?_
    rintro e u4 ⟨⟨v, rfl, nn⟩, hx⟩
    obtain ⟨d4, f4, rfl⟩ := nn.shape
    have R4 := Lib.hid nn.rd
    clear nn
    have RX := Lib.hid (RX.out.ext hx); have RY := Lib.hid (RY.out.ext hx); have R2 := Lib.hid (R2.out.ext hx); have R3 := Lib.hid (R3.out.ext hx); have X := Lib.hid (X.out.trans hx)
    clear hx
    dsimp only
    go_wp2_with fail
    refine (HA5.out _ _ _ (H1.out.ext X.out) (H2.out.ext X.out)).mono ?_
    rintro e u5 ⟨⟨v, v', rfl, nn, nm⟩, hx⟩
    obtain ⟨d5, f5, rfl⟩ := nn.shape
    obtain ⟨e5, g5, rfl⟩ := nm.shape
    have R5 := Lib.hid nn.rd; have T5 := Lib.hid nm.rd
    clear nn nm
    have RX := Lib.hid (RX.out.ext hx); have RY := Lib.hid (RY.out.ext hx); have R2 := Lib.hid (R2.out.ext hx); have R3 := Lib.hid (R3.out.ext hx); have R4 := Lib.hid (R4.out.ext hx); have X := Lib.hid (X.out.trans hx)
    clear hx
    dsimp only
    go_wp2_with fail
    refine (HA6.out _ _ _ (H1.out.ext X.out) (H2.out.ext X.out)).mono ?_
    rintro e u6 ⟨rfl, hx⟩
    have RX := Lib.hid (RX.out.ext hx); have RY := Lib.hid (RY.out.ext hx); have R2 := Lib.hid (R2.out.ext hx); have R3 := Lib.hid (R3.out.ext hx); have R4 := Lib.hid (R4.out.ext hx); have R5 := Lib.hid (R5.out.ext hx); have T5 := Lib.hid (T5.out.ext hx); have X := Lib.hid (X.out.trans hx)
    clear hx
    dsimp only
    go_wp2_with fail
    refine (HA7.out _ _ _ (H1.out.ext X.out) (H2.out.ext X.out)).mono ?_
    rintro e u7 ⟨⟨v, rfl, nn⟩, hx⟩
    obtain ⟨d7, f7, rfl⟩ := nn.shape
    have R7 := Lib.hid nn.rd
    clear nn
    have RX := Lib.hid (RX.out.ext hx); have RY := Lib.hid (RY.out.ext hx); have R2 := Lib.hid (R2.out.ext hx); have R3 := Lib.hid (R3.out.ext hx); have R4 := Lib.hid (R4.out.ext hx); have R5 := Lib.hid (R5.out.ext hx); have T5 := Lib.hid (T5.out.ext hx); have X := Lib.hid (X.out.trans hx)
    clear hx
    dsimp only
    go_wp2_with fail
    refine (HA8.out _ _ (H1.out.ext X.out)).mono ?_
    rintro e u8 ⟨rfl, hx⟩
    have RX := Lib.hid (RX.out.ext hx); have RY := Lib.hid (RY.out.ext hx); have R2 := Lib.hid (R2.out.ext hx); have R3 := Lib.hid (R3.out.ext hx); have R4 := Lib.hid (R4.out.ext hx); have R5 := Lib.hid (R5.out.ext hx); have T5 := Lib.hid (T5.out.ext hx); have R7 := Lib.hid (R7.out.ext hx); have X := Lib.hid (X.out.trans hx)
    clear hx
    dsimp only
    go_wp2_with fail
    go_loopw [26, 27, 28, 29, 30, 31, 32, 33, 34, 35, 36, 37, 38, 39, 40, 41, 42, 43, 44, 45] (fun i _ _ _ _ _ _ _ _ _ _ _ _ _ _ _ _ _ _ _ wr => ∃ k : Nat, k ≤ 2 ∧ i = .int .i64 k ∧ Ext u8 wr) (fun i _ _ _ _ _ _ _ _ _ _ _ _ _ _ _ _ _ _ _ _ => 2 - (intOf i).toNat)
    case atStart => exact ⟨0, by omega, rfl, Ext.refl _⟩
    case round =>
      obtain ⟨k, hk, rfl, hx⟩ := hrel
      have Y := Lib.hid hx
      clear hx
      by_cases hlt : k < 2
      · have Z := Lib.hid (Ext.refl wr)
        go_wp2_with fail
        refine (HB0.out _ _ (RX.out.ext (Y.out.trans Z.out))).mono ?_
        rintro e p0 ⟨rfl, hx⟩
        have zz0 := hx.size
        have Z := Lib.hid (Z.out.trans hx)
        clear hx
        dsimp only
        go_wp2_with fail
        refine (HB1.out _ _ (RX.out.ext (Y.out.trans Z.out))).mono ?_
        rintro e p1 ⟨rfl, hx⟩
        have zz1 := hx.size
        have Z := Lib.hid (Z.out.trans hx)
        clear hx
        dsimp only
        go_wp2_with fail
        refine (HB2.out _ _ _ (RX.out.ext (Y.out.trans Z.out)) (RY.out.ext (Y.out.trans Z.out))).mono ?_
        rintro e p2 ⟨⟨v, rfl, nn⟩, hx⟩
        obtain ⟨m2, q2, rfl⟩ := nn.shape
        have K2 := Lib.hid (Kp.new nn)
        clear nn
        have zz2 := hx.size
        have Z := Lib.hid (Z.out.trans hx)
        clear hx
        dsimp only
        go_wp2_with fail
        refine (HB3.out _ _ _ (RX.out.ext (Y.out.trans Z.out)) (RY.out.ext (Y.out.trans Z.out))).mono ?_
        rintro e p3 ⟨⟨v, rfl, nn⟩, hx⟩
        obtain ⟨m3, q3, rfl⟩ := nn.shape
        have K3 := Lib.hid (Kp.new nn)
        clear nn
        have zz3 := hx.size
        have K2 := Lib.hid (K2.out.ext hx); have Z := Lib.hid (Z.out.trans hx)
        clear hx
        dsimp only
        go_wp2_with fail
        refine (HB4.out _ _ _ (RX.out.ext (Y.out.trans Z.out)) (RY.out.ext (Y.out.trans Z.out))).mono ?_
        rintro e p4 ⟨⟨v, rfl, nn⟩, hx⟩
        obtain ⟨m4, q4, rfl⟩ := nn.shape
        have K4 := Lib.hid (Kp.new nn)
        clear nn
        have zz4 := hx.size
        have K2 := Lib.hid (K2.out.ext hx); have K3 := Lib.hid (K3.out.ext hx); have Z := Lib.hid (Z.out.trans hx)
        clear hx
        dsimp only
        go_wp2_with fail
        refine (HB5.out _ _ _ (RX.out.ext (Y.out.trans Z.out)) (RY.out.ext (Y.out.trans Z.out))).mono ?_
        rintro e p5 ⟨⟨v, v', rfl, n2⟩, hx⟩
        obtain ⟨mm, mz, my, ka, kb⟩ := Kp.two n2 hx.size
        clear n2
        obtain ⟨m5, q5, rfl⟩ := ka.shape
        obtain ⟨n5, z5, rfl⟩ := kb.shape
        have K5 := Lib.hid ka; have J5 := Lib.hid kb
        clear ka kb
        have zz5 := hx.size
        have K2 := Lib.hid (K2.out.ext hx); have K3 := Lib.hid (K3.out.ext hx); have K4 := Lib.hid (K4.out.ext hx); have Z := Lib.hid (Z.out.trans hx)
        clear hx
        dsimp only
        go_wp2_with fail
        refine (HB6.out _ _ _ (RX.out.ext (Y.out.trans Z.out)) (RY.out.ext (Y.out.trans Z.out))).mono ?_
        rintro e p6 ⟨rfl, hx⟩
        have zz6 := hx.size
        have K2 := Lib.hid (K2.out.ext hx); have K3 := Lib.hid (K3.out.ext hx); have K4 := Lib.hid (K4.out.ext hx); have K5 := Lib.hid (K5.out.ext hx); have J5 := Lib.hid (J5.out.ext hx); have Z := Lib.hid (Z.out.trans hx)
        clear hx
        dsimp only
        go_wp2_with fail
        refine (HB7.out _ _ _ (RX.out.ext (Y.out.trans Z.out)) (RY.out.ext (Y.out.trans Z.out))).mono ?_
        rintro e p7 ⟨⟨v, rfl, nn⟩, hx⟩
        obtain ⟨m7, q7, rfl⟩ := nn.shape
        have K7 := Lib.hid (Kp.new nn)
        clear nn
        have zz7 := hx.size
        have K2 := Lib.hid (K2.out.ext hx); have K3 := Lib.hid (K3.out.ext hx); have K4 := Lib.hid (K4.out.ext hx); have K5 := Lib.hid (K5.out.ext hx); have J5 := Lib.hid (J5.out.ext hx); have Z := Lib.hid (Z.out.trans hx)
        clear hx
        dsimp only
        go_wp2_with fail
        refine (HB8.out _ _ (RX.out.ext (Y.out.trans Z.out))).mono ?_
        rintro e p8 ⟨rfl, hx⟩
        have zz8 := hx.size
        have K2 := Lib.hid (K2.out.ext hx); have K3 := Lib.hid (K3.out.ext hx); have K4 := Lib.hid (K4.out.ext hx); have K5 := Lib.hid (K5.out.ext hx); have J5 := Lib.hid (J5.out.ext hx); have K7 := Lib.hid (K7.out.ext hx); have Z := Lib.hid (Z.out.trans hx)
        clear hx
        dsimp only
        go_wp2_with fail
        refine (HCB.out _ _ (RX.out.ext (Y.out.trans Z.out))).mono ?_
        rintro e pa ⟨rfl, hx⟩
        have K2 := Lib.hid (K2.out.ext hx); have K3 := Lib.hid (K3.out.ext hx); have K4 := Lib.hid (K4.out.ext hx); have K5 := Lib.hid (K5.out.ext hx); have J5 := Lib.hid (J5.out.ext hx); have K7 := Lib.hid (K7.out.ext hx); have Z := Lib.hid (Z.out.trans hx)
        clear hx
        go_wp2_with fail
        refine (HCA.out _ _ (H1.out.ext ((X.out.trans Y.out).trans Z.out))).mono ?_
        rintro e pb ⟨rfl, hx⟩
        have K2 := Lib.hid (K2.out.ext hx); have K3 := Lib.hid (K3.out.ext hx); have K4 := Lib.hid (K4.out.ext hx); have K5 := Lib.hid (K5.out.ext hx); have J5 := Lib.hid (J5.out.ext hx); have K7 := Lib.hid (K7.out.ext hx); have Z := Lib.hid (Z.out.trans hx)
        clear hx
        go_wp2_with fail
        refine (equalSame_any _ _ P2 _ K2.out.rd (R2.out.ext (Y.out.trans Z.out))).mono ?_
        rintro e q0x ⟨rfl, hx⟩
        have K2 := Lib.hid (K2.out.ext hx); have K3 := Lib.hid (K3.out.ext hx); have K4 := Lib.hid (K4.out.ext hx); have K5 := Lib.hid (K5.out.ext hx); have J5 := Lib.hid (J5.out.ext hx); have K7 := Lib.hid (K7.out.ext hx); have Z := Lib.hid (Z.out.trans hx)
        clear hx
        go_wp2_with fail
        refine (equalSame_any _ _ P3 _ K3.out.rd (R3.out.ext (Y.out.trans Z.out))).mono ?_
        rintro e q1x ⟨rfl, hx⟩
        have K2 := Lib.hid (K2.out.ext hx); have K3 := Lib.hid (K3.out.ext hx); have K4 := Lib.hid (K4.out.ext hx); have K5 := Lib.hid (K5.out.ext hx); have J5 := Lib.hid (J5.out.ext hx); have K7 := Lib.hid (K7.out.ext hx); have Z := Lib.hid (Z.out.trans hx)
        clear hx
        go_wp2_with fail
        refine (equalSame_any _ _ P4 _ K4.out.rd (R4.out.ext (Y.out.trans Z.out))).mono ?_
        rintro e q2x ⟨rfl, hx⟩
        have K2 := Lib.hid (K2.out.ext hx); have K3 := Lib.hid (K3.out.ext hx); have K4 := Lib.hid (K4.out.ext hx); have K5 := Lib.hid (K5.out.ext hx); have J5 := Lib.hid (J5.out.ext hx); have K7 := Lib.hid (K7.out.ext hx); have Z := Lib.hid (Z.out.trans hx)
        clear hx
        go_wp2_with fail
        refine (equalSame_any _ _ P5 _ K5.out.rd (R5.out.ext (Y.out.trans Z.out))).mono ?_
        rintro e q3x ⟨rfl, hx⟩
        have K2 := Lib.hid (K2.out.ext hx); have K3 := Lib.hid (K3.out.ext hx); have K4 := Lib.hid (K4.out.ext hx); have K5 := Lib.hid (K5.out.ext hx); have J5 := Lib.hid (J5.out.ext hx); have K7 := Lib.hid (K7.out.ext hx); have Z := Lib.hid (Z.out.trans hx)
        clear hx
        go_wp2_with fail
        refine (equalSame_any _ _ Q5 _ J5.out.rd (T5.out.ext (Y.out.trans Z.out))).mono ?_
        rintro e q4x ⟨rfl, hx⟩
        have K2 := Lib.hid (K2.out.ext hx); have K3 := Lib.hid (K3.out.ext hx); have K4 := Lib.hid (K4.out.ext hx); have K5 := Lib.hid (K5.out.ext hx); have J5 := Lib.hid (J5.out.ext hx); have K7 := Lib.hid (K7.out.ext hx); have Z := Lib.hid (Z.out.trans hx)
        clear hx
        go_wp2_with fail
        refine (equalSame_any _ _ P7 _ K7.out.rd (R7.out.ext (Y.out.trans Z.out))).mono ?_
        rintro e q5x ⟨rfl, hx⟩
        have K2 := Lib.hid (K2.out.ext hx); have K3 := Lib.hid (K3.out.ext hx); have K4 := Lib.hid (K4.out.ext hx); have K5 := Lib.hid (K5.out.ext hx); have J5 := Lib.hid (J5.out.ext hx); have K7 := Lib.hid (K7.out.ext hx); have Z := Lib.hid (Z.out.trans hx)
        clear hx
        go_wp2_with fail
        refine (equalSame_any _ _ l1 _ (RX.out.ext (Y.out.trans Z.out)) (H1.out.ext ((X.out.trans Y.out).trans Z.out))).mono ?_
        rintro e q6x ⟨rfl, hx⟩
        have K2 := Lib.hid (K2.out.ext hx); have K3 := Lib.hid (K3.out.ext hx); have K4 := Lib.hid (K4.out.ext hx); have K5 := Lib.hid (K5.out.ext hx); have J5 := Lib.hid (J5.out.ext hx); have K7 := Lib.hid (K7.out.ext hx); have Z := Lib.hid (Z.out.trans hx)
        clear hx
        go_wp2_with fail
        refine (equalSame_any _ _ l2 _ (RY.out.ext (Y.out.trans Z.out)) (H2.out.ext ((X.out.trans Y.out).trans Z.out))).mono ?_
        rintro e q7x ⟨rfl, hx⟩
        have K2 := Lib.hid (K2.out.ext hx); have K3 := Lib.hid (K3.out.ext hx); have K4 := Lib.hid (K4.out.ext hx); have K5 := Lib.hid (K5.out.ext hx); have J5 := Lib.hid (J5.out.ext hx); have K7 := Lib.hid (K7.out.ext hx); have Z := Lib.hid (Z.out.trans hx)
        clear hx
        go_wp2_with fail
        refine (overKp_any _ P2 _ _ _ K2.out).mono ?_
        rintro e o0x ⟨rfl, hg⟩
        have K3 := Lib.hid (K3.out.gr hg (.inl (by omega))); have K4 := Lib.hid (K4.out.gr hg (.inl (by omega))); have K5 := Lib.hid (K5.out.gr hg (.inl (by omega))); have J5 := Lib.hid (J5.out.gr hg (.inl (by omega))); have K7 := Lib.hid (K7.out.gr hg (.inl (by omega))); have Z := Lib.hid (GrI.ext Z.out hg (by omega))
        clear hg
        go_wp2_with fail
        refine (overKp_any _ P3 _ _ _ K3.out).mono ?_
        rintro e o1x ⟨rfl, hg⟩
        have K4 := Lib.hid (K4.out.gr hg (.inl (by omega))); have K5 := Lib.hid (K5.out.gr hg (.inl (by omega))); have J5 := Lib.hid (J5.out.gr hg (.inl (by omega))); have K7 := Lib.hid (K7.out.gr hg (.inl (by omega))); have Z := Lib.hid (GrI.ext Z.out hg (by omega))
        clear hg
        go_wp2_with fail
        refine (overKp_any _ P4 _ _ _ K4.out).mono ?_
        rintro e o2x ⟨rfl, hg⟩
        have K5 := Lib.hid (K5.out.gr hg (.inl (by omega))); have J5 := Lib.hid (J5.out.gr hg (.inl (by omega))); have K7 := Lib.hid (K7.out.gr hg (.inl (by omega))); have Z := Lib.hid (GrI.ext Z.out hg (by omega))
        clear hg
        go_wp2_with fail
        refine (overKp_any _ P5 _ _ _ K5.out).mono ?_
        rintro e o3x ⟨rfl, hg⟩
        have J5 := Lib.hid (J5.out.gr hg (.inl (by omega))); have K7 := Lib.hid (K7.out.gr hg (.inl (by omega))); have Z := Lib.hid (GrI.ext Z.out hg (by omega))
        clear hg
        go_wp2_with fail
        refine (overKp_any _ Q5 _ _ _ J5.out).mono ?_
        rintro e o4x ⟨rfl, hg⟩
        have K7 := Lib.hid (K7.out.gr hg (.inl (by omega))); have Z := Lib.hid (GrI.ext Z.out hg (by omega))
        clear hg
        go_wp2_with fail
        refine (overKp_any _ P7 _ _ _ K7.out).mono ?_
        rintro e o5x ⟨rfl, hg⟩
        have Z := Lib.hid (GrI.ext Z.out hg (by omega))
        clear hg
        go_wp2_with fail
        go_roundw
        case rel => exact ⟨k + 1, by omega, by go_num, Y.out.trans Z.out⟩
        case measure => simp [intOf]; omega
      · have q : ¬ ((k : Int) < 2) := by omega
        go_wp2_with fail
        refine (awake_any _).mono ?_
        rintro e w2 ⟨rfl, hx2⟩
        have X2 := Lib.hid hx2
        clear hx2
        go_wp2_with fail
        go_ret
        exact ⟨rfl, (X.out.trans Y.out).trans X2.out⟩
  · clear hr
    go_wp2_with fail
    refine (awake_any _).mono ?_
    rintro e w2 ⟨rfl, hx2⟩
    have X2 := Lib.hid hx2
    clear hx2
    go_wp2_with fail
    go_ret
    exact ⟨rfl, X0.out.trans X2.out⟩

end Go.Proofs.Ytebdmmlniohhgaa
