/- Walk of GCD of layer 5. Conditions: slices of limbs. -/
import Derived.Test.YtoicjiiifffciaaBigX
import Derived.Deep.LoopGhost
import Derived.WalkMore
namespace Go.Proofs.Ytoicjiiifffciaa
set_option linter.unusedSimpArgs false
set_option linter.unusedVariables false
open Go.RowKit

theorem odd_coprime {a : Nat} (h : a % 2 = 1) (n : Nat) : Nat.Coprime (2 ^ n) a := by
  have h2 : Nat.Coprime a 2 := by
    show Nat.gcd a 2 = 1
    rw [Nat.gcd_comm, Nat.gcd_rec, h, Nat.gcd_one_left]
  exact (Nat.Coprime.pow_right n h2).symm

/-- Powers of 2 beside an odd number. -/
theorem gcd_pow_right {a : Nat} (h : a % 2 = 1) (b n : Nat) : Nat.gcd a (b * 2 ^ n) = Nat.gcd a b := Nat.Coprime.gcd_mul_right_cancel_right b (odd_coprime h n)
theorem gcd_pow_left {b : Nat} (h : b % 2 = 1) (a n : Nat) : Nat.gcd (a * 2 ^ n) b = Nat.gcd a b := by rw [Nat.gcd_comm, gcd_pow_right h, Nat.gcd_comm]

theorem gcd_twos {a b n m : Nat} (ha : a % 2 = 1) (hb : b % 2 = 1) : Nat.gcd (a * 2 ^ n) (b * 2 ^ m) = Nat.gcd a b * 2 ^ min n m := by
  rcases Nat.le_total n m with h | h
  · obtain ⟨d, rfl⟩ := Nat.exists_eq_add_of_le h
    rw [Nat.min_eq_left h, Nat.pow_add, Nat.mul_comm (2 ^ n), ← Nat.mul_assoc, Nat.gcd_mul_right, gcd_pow_right ha]
  · obtain ⟨d, rfl⟩ := Nat.exists_eq_add_of_le h
    rw [Nat.min_eq_right h, Nat.pow_add, Nat.mul_comm (2 ^ m), ← Nat.mul_assoc, Nat.gcd_mul_right, gcd_pow_left hb]

/-- A step of the search. -/
theorem gcd_step {a b m k : Nat} (h : b < a) (hb : b % 2 = 1) (e : a - b = m * 2 ^ k) : Nat.gcd m b = Nat.gcd a b ∧ m + b < a + b := by
  refine ⟨?_, ?_⟩
  · rw [← gcd_pow_left hb m k, ← e, Nat.gcd_sub_self_left (Nat.le_of_lt h)]
  · have : m ≤ m * 2 ^ k := Nat.le_mul_of_pos_right _ (Nat.pow_pos (by omega))
    omega

/-- What GCD returns. -/
def gcdS (l1 l2 : List Int) : List Int × Int := opS l1 l2 (lim (Nat.gcd (nv l1) (nv l2)), 0)

theorem cmpN_eq' {a b : Nat} (h : a = b) : cmpN a b = 0 := by subst h; exact cmpN_eq _
/-- Between two rounds of the search. -/
def GcdI (w0 : World) (G : Nat) (N : Nat) (va vb : Value) (W : World) : Prop :=
  ∃ (ga ca gb cb : Nat) (la lb : List Int), va = .slice (some ⟨ga, 0, none⟩) la.length ca ∧ vb = .slice (some ⟨gb, 0, none⟩) lb.length cb ∧ N = nv la + nv lb ∧ ga ≠ gb ∧ w0.heap.size ≤ ga ∧ w0.heap.size ≤ gb ∧
    RowU W ga ca la ∧ RowU W gb cb lb ∧ Lim la ∧ Lim lb ∧ NoZ la ∧ NoZ lb ∧ nv la % 2 = 1 ∧ nv lb % 2 = 1 ∧ la.length ≤ 512 ∧ lb.length ≤ 512 ∧ Nat.gcd (nv la) (nv lb) = G ∧ Ext w0 W

theorem OwV.shape {o : Option Nat} {w : World} {v : Value} {l : List Int} (h : OwV w o v l) : ∃ a c, v = .slice a l.length c := by
  rcases h with ⟨_, h0, a, ha, rfl⟩ | ⟨g, cap, _, rfl, _⟩
  · rw [h0]; exact ⟨_, _, rfl⟩
  · exact ⟨_, _, rfl⟩
theorem OwV.isRow {o : Option Nat} {w : World} {v : Value} {l : List Int} (h : OwV w o v l) (h0 : 0 < l.length) : ∃ g cap, o = some g ∧ v = .slice (some ⟨g, 0, none⟩) l.length cap ∧ RowU w g cap l := by
  rcases h with ⟨_, h1, _⟩ | h
  · rw [h1] at h0; cases h0
  · exact h
theorem RowU.rdI {w : World} {g cap : Nat} {l : List Int} (h : RowU w g cap l) : RdI .u32 w (.slice (some ⟨g, 0, none⟩) l.length cap) l := (h.rd (p := fun _ => True) trivial).to
theorem Ext.own {a b c : World} {g : Nat} (h : Ext a b) (k : Gr (some g) b c) (hg : a.heap.size ≤ g) : Ext a c := ((Gr.of_ext (o := none) h).fresh k (fun g' e => by cases e; exact .inr hg)).ext

theorem pow_le_of {x k : Nat} {l : List Int} (hl : Lim l) (hs : l.length ≤ 512) (h : nv l = x * 2 ^ k) (h0 : nv l ≠ 0) : k ≤ 16384 := by
  have e1 : 2 ^ k ≤ nv l := by
    rw [h]
    have : x ≠ 0 := fun e => h0 (by rw [h, e, Nat.zero_mul])
    calc 2 ^ k = 1 * 2 ^ k := (Nat.one_mul _).symm
      _ ≤ x * 2 ^ k := Nat.mul_le_mul_right _ (by omega)
  have e2 := nv_lt hl
  rw [pow_two] at e2
  have := (Nat.pow_lt_pow_iff_right (a := 2) (by omega)).1 (Nat.lt_of_le_of_lt e1 e2)
  omega

set_option maxRecDepth 100000 in
set_option maxHeartbeats 4000000 in
theorem gcd_any (v1 v2 : Value) (l1 l2 : List Int) (w : World) (h1 : RdI .u32 w v1 l1) (h2 : RdI .u32 w v2 l2) (hl1 : Lim l1) (hl2 : Lim l2) :
    Calls Try.prog 12 #[v1, v2] w fun e w' => Res w w' e (gcdS l1 l2) ∧ Ext w w' := by
  have H1 := Lib.hid h1; have H2 := Lib.hid h2
  obtain ⟨a1, c1, rfl, hc1, hm1, hr1⟩ := rdU h1
  obtain ⟨a2, c2, rfl, hc2, hm2, hr2⟩ := rdU h2
  have HL1 := Lib.hid hl1; have HL2 := Lib.hid hl2
  clear h1 h2 hr1 hr2 hl1 hl2
  by_cases hc : chk2 l1 l2 = 0
  · have HC := Lib.hid hc
    obtain ⟨⟨g1, z1⟩, g2, z2⟩ := chk2_0 hc
    have Z1 := Lib.hid z1; have Z2 := Lib.hid z2
    have e1 := Lib.hid (show gcdS l1 l2 = (lim (Nat.gcd (nv l1) (nv l2)), 0) from opS_ok hc)
    clear hc z1 z2
    go_enter Try.func12, Try.ntmps12
    go_wp2_with fail
    go_step3
    go_wp2_with fail
    refine (check2_any _ _ l1 l2 _ H1.out H2.out).mono ?_
    rintro e w1 ⟨rfl, hx1⟩
    rw [HC.out]
    have X1 := Lib.hid hx1; clear hx1
    go_wp2_with fail
    refine (clone_any _ l1 _ (H1.out.ext X1.out) (by omega)).mono ?_
    rintro e w2 ⟨⟨u1, rfl, n1⟩, hx2⟩
    obtain ⟨o1, n1, f1⟩ := n1
    have N1 := Lib.hid n1; have F1 := Lib.hid f1; have X2 := Lib.hid (X1.out.trans hx2)
    clear n1 f1 hx2
    go_wp2_with fail
    refine (clone_any _ l2 _ (H2.out.ext X2.out) (by omega)).mono ?_
    rintro e w3 ⟨⟨u2, rfl, n2⟩, hx3⟩
    obtain ⟨o2, n2, f2⟩ := n2
    have N2 := Lib.hid n2; have F2 := Lib.hid f2; have X3 := Lib.hid (X2.out.trans hx3); have N3 := Lib.hid (N1.out.ext hx3)
    have NE : Hid (∀ g1 g2, o1 = some g1 → o2 = some g2 → g1 < g2) := Lib.hid (fun g1 g2 e1 e2 => Nat.lt_of_lt_of_le (N1.out.lt e1) (f2 g2 e2))
    clear n2 f2 hx3
    by_cases n0 : l1.length = 0
    · obtain rfl : l1 = [] := List.length_eq_zero_iff.1 n0
      obtain ⟨ar, cr, rfl⟩ := N3.out.shape
      clear n0
      go_wp2_with fail
      rw [Exit.noGoto_ret]
      go_ret2
      refine ⟨Res.mk (l := l2) ⟨o2, N2.out, fun g e => Nat.le_trans X2.out.size (F2.out g e)⟩ ?_, X3.out⟩
      rw [e1.out]
      have : nv ([] : List Int) = 0 := rfl
      rw [this, Nat.gcd_zero_left, lim_nv HL2.out Z2.out]
    by_cases n1 : l2.length = 0
    · obtain rfl : l2 = [] := List.length_eq_zero_iff.1 n1
      obtain ⟨ar, cr, rfl⟩ := N2.out.shape
      obtain ⟨ar1, cr1, rfl⟩ := N3.out.shape
      have hq1 : ((l1.length : Int) == 0) = false := by simp; intro h; subst h; simp at n0
      clear n1 n0
      go_wp2_with fail
      rw [Exit.noGoto_ret]
      go_ret2
      refine ⟨Res.mk (l := l1) ⟨o1, N3.out, fun g e => Nat.le_trans X1.out.size (F1.out g e)⟩ ?_, X3.out⟩
      rw [e1.out]
      have : nv ([] : List Int) = 0 := rfl
      rw [this, Nat.gcd_zero_right, lim_nv HL1.out Z1.out]
    obtain ⟨ga, ca, ho1, rfl, ra⟩ := N3.out.isRow (by omega)
    obtain ⟨gb, cb, ho2, rfl, rb⟩ := N2.out.isRow (by omega)
    have hne := NE.out ga gb ho1 ho2
    have hga := F1.out ga ho1; have hgb := F2.out gb ho2
    have hx1 := X1.out.size; have hx2 := X2.out.size
    have hq1 : ((l1.length : Int) == 0) = false := by simp; intro h; subst h; simp at n0
    have hq2 : ((l2.length : Int) == 0) = false := by simp; intro h; subst h; simp at n1
    have RA := Lib.hid ra; have RB := Lib.hid rb
    have hp1 := Lib.hid (show nv l1 ≠ 0 from fun e => n0 ((nv_zero_iff HL1.out Z1.out).1 e))
    have hp2 := Lib.hid (show nv l2 ≠ 0 from fun e => n1 ((nv_zero_iff HL2.out Z2.out).1 e))
    clear ra rb n0 n1 N1 N2 N3 NE F1 F2 H1 H2
    go_wp2_with fail
    refine (halve_row ga ca l1 _ RA.out HL1.out Z1.out (by omega)).mono ?_
    rintro e w4 ⟨⟨n, m1, k1, k2, k3, rfl, r4⟩, g4⟩
    have K1 := Lib.hid k1; have K3 := Lib.hid (k3 hp1.out); have R4 := Lib.hid r4; have X4 := Lib.hid (X3.out.own g4 (by omega)); have RB4 := Lib.hid (RB.out.gr g4 (by simp; omega))
    have hn := pow_le_of HL1.out g1 k1 hp1.out
    clear k1 k2 k3 r4 g4
    go_wp2_with fail
    refine (halve_row gb cb l2 _ RB4.out HL2.out Z2.out (by omega)).mono ?_
    rintro e w5 ⟨⟨m, m2, k1, k2, k3, rfl, r5⟩, g5⟩
    have K2 := Lib.hid k1; have K4 := Lib.hid (k3 hp2.out); have R5 := Lib.hid r5; have X5 := Lib.hid (X4.out.own g5 (by omega)); have RA5 := Lib.hid (R4.out.gr g5 (by simp; omega))
    have hm := pow_le_of HL2.out g2 k1 hp2.out
    clear k1 k2 k3 r5 g5
    go_wp2_with fail
    go_step3
    go_wp2_with fail
    go_loopg [0, 1] (m1 + m2) (fun N va vb W => GcdI w (Nat.gcd m1 m2) N va vb W)
    case atStart =>
      have l1' : (lim m1).length ≤ 512 := by
        refine Nat.le_trans (lim_len_le.2 (Nat.lt_of_le_of_lt ?_ (nv_lt HL1.out))) g1
        rw [K1.out]; exact Nat.le_mul_of_pos_right _ (Nat.pow_pos (by omega))
      have l2' : (lim m2).length ≤ 512 := by
        refine Nat.le_trans (lim_len_le.2 (Nat.lt_of_le_of_lt ?_ (nv_lt HL2.out))) g2
        rw [K2.out]; exact Nat.le_mul_of_pos_right _ (Nat.pow_pos (by omega))
      exact ⟨ga, ca, gb, cb, lim m1, lim m2, rfl, rfl, by rw [nv_lim, nv_lim], by omega, by omega, by omega, RA5.out, R5.out, lim_lim _, lim_lim _, lim_noZ _, lim_noZ _, by rw [nv_lim]; exact K3.out, by rw [nv_lim]; exact K4.out, l1', l2', by rw [nv_lim, nv_lim], X5.out⟩
    case round =>
      clear RA RB R4 X4 RB4 R5 X5 RA5 ho1 ho2
      obtain ⟨pa, qa, pb, qb, la, lb, rfl, rfl, hN, hab, hpa, hpb, ra, rb, la1, lb1, la2, lb2, oa, ob, sa, sb, hG, hx⟩ := hrel
      have RA := Lib.hid ra; have RB := Lib.hid rb; have LA := Lib.hid la1; have LB := Lib.hid lb1; have ZA := Lib.hid la2; have ZB := Lib.hid lb2; have OA := Lib.hid oa; have OB := Lib.hid ob; have HG := Lib.hid hG; have HX := Lib.hid hx; have HN := Lib.hid hN
      clear ra rb la1 lb1 la2 lb2 oa ob hG hx hN
      have hord := fun W (hx : Ext wr W) => order_any _ _ la lb W (RA.out.ext hx).rdI (RB.out.ext hx).rdI LA.out LB.out ZA.out ZB.out
      rcases Nat.lt_trichotomy (nv la) (nv lb) with hlt | heq | hgt
      · rw [cmpN_lt hlt] at hord
        have HO := Lib.hid hord; clear hord
        go_wp2_with fail
        refine (HO.out _ (Ext.refl _)).mono ?_
        rintro e w6 ⟨rfl, hx6⟩
        have X6 := Lib.hid (HX.out.trans hx6); have RA6 := Lib.hid (RA.out.ext hx6); have RB6 := Lib.hid (RB.out.ext hx6)
        clear hx6 HO RA RB
        go_wp2_with fail
        refine (subtract_any (some pb) _ _ lb la _ (OwV.row RB6.out) LB.out (RA6.out.rd (by simp; omega)) LA.out ZA.out (by omega)).mono ?_
        rintro e w7 ⟨v, rfl, hv, g7⟩
        have hpos : 0 < (lim (nv lb - nv la)).length := by
          rcases Nat.eq_zero_or_pos (lim (nv lb - nv la)).length with h | h
          · have := (nv_zero_iff (lim_lim _) (lim_noZ _)).2 h; rw [nv_lim] at this; omega
          · exact h
        have hle : (lim (nv lb - nv la)).length ≤ 512 := Nat.le_trans (lim_len_le.2 (Nat.lt_of_le_of_lt (Nat.sub_le _ _) (nv_lt LB.out))) sb
        obtain ⟨_, qc, e0, rfl, r7⟩ := hv.isRow hpos
        cases e0
        have R7 := Lib.hid r7; have X7 := Lib.hid (X6.out.own g7 (by omega)); have RA7 := Lib.hid (RA6.out.gr g7 (by simp; omega))
        clear hv r7 g7 X6 RB6 RA6
        go_wp2_with fail
        refine (halve_row _ qc _ _ R7.out (lim_lim _) (lim_noZ _) (by omega)).mono ?_
        rintro e w8 ⟨⟨j, mj, k1, k2, k3, rfl, r8⟩, g8⟩
        rw [nv_lim] at k1 k3
        have K3 := k3 (by omega)
        have R8 := Lib.hid r8; have X8 := Lib.hid (X7.out.own g8 (by omega)); have RA8 := Lib.hid (RA7.out.gr g8 (by simp; omega))
        obtain ⟨hs1, hs2⟩ := gcd_step hlt OA.out k1
        have KJ := Lib.hid K3; have S1 := Lib.hid hs1; have S2 := Lib.hid hs2; have KE := Lib.hid k1
        clear r8 g8 k1 k2 k3 K3 hs1 hs2 X7 R7 RA7
        go_wp2_with fail
        go_roundg (mj + nv la)
        case measure => rw [HN.out]; have := S2.out; omega
        case rel =>
          have hmj : (lim mj).length ≤ 512 := by
            refine Nat.le_trans (lim_len_le.2 (Nat.lt_of_le_of_lt ?_ (nv_lt LB.out))) sb
            have : mj ≤ mj * 2 ^ j := Nat.le_mul_of_pos_right _ (Nat.pow_pos (by omega))
            have := KE.out; omega
          exact ⟨pb, qc, pa, qa, lim mj, la, rfl, rfl, by rw [nv_lim], by omega, hpb, hpa, R8.out, RA8.out, lim_lim _, LA.out, lim_noZ _, ZA.out, by rw [nv_lim]; exact KJ.out, OA.out, hmj, sa, by rw [nv_lim, S1.out, Nat.gcd_comm, HG.out], X8.out⟩
      · rw [cmpN_eq' heq] at hord
        have hgg : nv la = Nat.gcd m1 m2 := by rw [← HG.out, heq, Nat.gcd_self]
        have HGG := Lib.hid hgg
        have HO := Lib.hid hord; clear hord hgg heq
        have hmin := Nat.le_total n m
        go_wp2_with fail
        refine (HO.out _ (Ext.refl _)).mono ?_
        rintro e w6 ⟨rfl, hx6⟩
        have X6 := Lib.hid (HX.out.trans hx6); have RA6 := Lib.hid (RA.out.ext hx6)
        clear hx6 HO RA RB
        go_wp2_with fail
        · have hq : m = min n m := by omega
          have HQ := Lib.hid hq
          clear hq
          go_loopg [0, 57] (m) (fun N v i W => ∃ k : Nat, k + N = m ∧ i = .int .i64 k ∧ OwB W w.heap.size v (lim (nv la * 2 ^ k)) ∧ Ext w W)
          case atStart =>
            refine ⟨0, by omega, rfl, ?_, X6.out⟩
            rw [Nat.pow_zero, Nat.mul_one, lim_nv LA.out ZA.out]
            exact ⟨some pa, OwV.row RA6.out, fun g e => by cases e; exact hpa⟩
          case round =>
            obtain ⟨k, hk, rfl, hv, hx⟩ := hrel
            obtain ⟨av, cv, rfl⟩ := hv.shape
            have VV := Lib.hid hv; have VX := Lib.hid hx
            clear hv hx
            by_cases hkq : k < m
            · have q1 : (k : Int) < (m : Int) := by omega
              have hb : nv la * 2 ^ k ≤ nv l1 := by
                rw [K1.out, HGG.out]
                exact Nat.mul_le_mul (Nat.gcd_le_left _ (by have := K3.out; omega)) (Nat.pow_le_pow_right (by omega) (by omega))
              have hl : (lim (nv la * 2 ^ k)).length ≤ 512 := Nat.le_trans (lim_len_le.2 (Nat.lt_of_le_of_lt hb (nv_lt HL1.out))) g1
              have hsz := VX.out.size
              have hcall := double_any w.heap.size _ _ 0 _ VV.out (lim_lim _) (lim_noZ _) (by omega) hsz (by omega)
              have ek : 2 * nv (lim (nv la * 2 ^ k)) + (0 : Int).toNat = nv la * 2 ^ (k + 1) := by
                rw [nv_lim, Nat.pow_succ, Nat.mul_comm 2 (nv la * 2 ^ k), Nat.mul_assoc]; rfl
              rw [ek] at hcall
              have HC2 := Lib.hid hcall
              clear hcall hb ek
              go_wp2_with fail
              refine HC2.out.mono ?_
              rintro e w9 ⟨⟨v', rfl, hv⟩, hb⟩
              have VV2 := Lib.hid hv; have VX2 := Lib.hid (Below.trans (show Below w.heap.size w wr from VX.out) hb)
              clear hv hb
              go_wp2_with fail
              go_roundg (gk - 1)
              case measure => omega
              case rel => exact ⟨k + 1, by omega, rfl, VV2.out, VX2.out⟩
            · have hkk : k = m := by omega
              subst hkk
              clear hkq hk hmin
              go_wp2_with fail
              rw [Exit.noGoto_ret]
              go_ret2
              refine ⟨Res.mk VV.out ?_, VX.out⟩
              rw [e1.out, K1.out, K2.out, gcd_twos K3.out K4.out, ← HQ.out, HGG.out]
        · have hq : n = min n m := by omega
          have HQ := Lib.hid hq
          clear hq
          go_loopg [0, 57] (n) (fun N v i W => ∃ k : Nat, k + N = n ∧ i = .int .i64 k ∧ OwB W w.heap.size v (lim (nv la * 2 ^ k)) ∧ Ext w W)
          case atStart =>
            refine ⟨0, by omega, rfl, ?_, X6.out⟩
            rw [Nat.pow_zero, Nat.mul_one, lim_nv LA.out ZA.out]
            exact ⟨some pa, OwV.row RA6.out, fun g e => by cases e; exact hpa⟩
          case round =>
            obtain ⟨k, hk, rfl, hv, hx⟩ := hrel
            obtain ⟨av, cv, rfl⟩ := hv.shape
            have VV := Lib.hid hv; have VX := Lib.hid hx
            clear hv hx
            by_cases hkq : k < n
            · have q1 : (k : Int) < (n : Int) := by omega
              have hb : nv la * 2 ^ k ≤ nv l1 := by
                rw [K1.out, HGG.out]
                exact Nat.mul_le_mul (Nat.gcd_le_left _ (by have := K3.out; omega)) (Nat.pow_le_pow_right (by omega) (by omega))
              have hl : (lim (nv la * 2 ^ k)).length ≤ 512 := Nat.le_trans (lim_len_le.2 (Nat.lt_of_le_of_lt hb (nv_lt HL1.out))) g1
              have hsz := VX.out.size
              have hcall := double_any w.heap.size _ _ 0 _ VV.out (lim_lim _) (lim_noZ _) (by omega) hsz (by omega)
              have ek : 2 * nv (lim (nv la * 2 ^ k)) + (0 : Int).toNat = nv la * 2 ^ (k + 1) := by
                rw [nv_lim, Nat.pow_succ, Nat.mul_comm 2 (nv la * 2 ^ k), Nat.mul_assoc]; rfl
              rw [ek] at hcall
              have HC2 := Lib.hid hcall
              clear hcall hb ek
              go_wp2_with fail
              refine HC2.out.mono ?_
              rintro e w9 ⟨⟨v', rfl, hv⟩, hb⟩
              have VV2 := Lib.hid hv; have VX2 := Lib.hid (Below.trans (show Below w.heap.size w wr from VX.out) hb)
              clear hv hb
              go_wp2_with fail
              go_roundg (gk - 1)
              case measure => omega
              case rel => exact ⟨k + 1, by omega, rfl, VV2.out, VX2.out⟩
            · have hkk : k = n := by omega
              subst hkk
              clear hkq hk hmin
              go_wp2_with fail
              rw [Exit.noGoto_ret]
              go_ret2
              refine ⟨Res.mk VV.out ?_, VX.out⟩
              rw [e1.out, K1.out, K2.out, gcd_twos K3.out K4.out, ← HQ.out, HGG.out]
      · rw [cmpN_gt hgt] at hord
        have HO := Lib.hid hord; clear hord
        go_wp2_with fail
        refine (HO.out _ (Ext.refl _)).mono ?_
        rintro e w6 ⟨rfl, hx6⟩
        have X6 := Lib.hid (HX.out.trans hx6); have RA6 := Lib.hid (RA.out.ext hx6); have RB6 := Lib.hid (RB.out.ext hx6)
        clear hx6 HO RA RB
        go_wp2_with fail
        refine (subtract_any (some pa) _ _ la lb _ (OwV.row RA6.out) LA.out (RB6.out.rd (by simp; omega)) LB.out ZB.out (by omega)).mono ?_
        rintro e w7 ⟨v, rfl, hv, g7⟩
        have hpos : 0 < (lim (nv la - nv lb)).length := by
          rcases Nat.eq_zero_or_pos (lim (nv la - nv lb)).length with h | h
          · have := (nv_zero_iff (lim_lim _) (lim_noZ _)).2 h; rw [nv_lim] at this; omega
          · exact h
        have hle : (lim (nv la - nv lb)).length ≤ 512 := Nat.le_trans (lim_len_le.2 (Nat.lt_of_le_of_lt (Nat.sub_le _ _) (nv_lt LA.out))) sa
        obtain ⟨_, qc, e0, rfl, r7⟩ := hv.isRow hpos
        cases e0
        have R7 := Lib.hid r7; have X7 := Lib.hid (X6.out.own g7 (by omega)); have RB7 := Lib.hid (RB6.out.gr g7 (by simp; omega))
        clear hv r7 g7 X6 RB6 RA6
        go_wp2_with fail
        refine (halve_row _ qc _ _ R7.out (lim_lim _) (lim_noZ _) (by omega)).mono ?_
        rintro e w8 ⟨⟨j, mj, k1, k2, k3, rfl, r8⟩, g8⟩
        rw [nv_lim] at k1 k3
        have K3 := k3 (by omega)
        have R8 := Lib.hid r8; have X8 := Lib.hid (X7.out.own g8 (by omega)); have RB8 := Lib.hid (RB7.out.gr g8 (by simp; omega))
        obtain ⟨hs1, hs2⟩ := gcd_step hgt OB.out k1
        have KJ := Lib.hid K3; have S1 := Lib.hid hs1; have S2 := Lib.hid hs2; have KE := Lib.hid k1
        clear r8 g8 k1 k2 k3 K3 hs1 hs2 X7 R7 RB7
        go_wp2_with fail
        go_roundg (mj + nv lb)
        case measure => rw [HN.out]; have := S2.out; omega
        case rel =>
          have hmj : (lim mj).length ≤ 512 := by
            refine Nat.le_trans (lim_len_le.2 (Nat.lt_of_le_of_lt ?_ (nv_lt LA.out))) sa
            have : mj ≤ mj * 2 ^ j := Nat.le_mul_of_pos_right _ (Nat.pow_pos (by omega))
            have := KE.out; omega
          exact ⟨pa, qc, pb, qb, lim mj, lb, rfl, rfl, by rw [nv_lim], by omega, hpa, hpb, R8.out, RB8.out, lim_lim _, LB.out, lim_noZ _, ZB.out, by rw [nv_lim]; exact KJ.out, OB.out, hmj, sb, by rw [nv_lim, S1.out, HG.out], X8.out⟩
  · have e1 := Lib.hid (show gcdS l1 l2 = ([], chk2 l1 l2) from opS_err hc)
    have hc' : (chk2 l1 l2 != 0) = true := by simpa using hc
    obtain ⟨c, hcc⟩ : ∃ c, c = chk2 l1 l2 := ⟨_, rfl⟩
    have hk := fun W h1 h2 => check2_any (.slice a1 l1.length c1) (.slice a2 l2.length c2) l1 l2 W h1 h2
    rw [← hcc] at hk hc' e1
    have HK := Lib.hid hk
    clear hc hcc hk
    go_enter Try.func12, Try.ntmps12
    go_wp2_with fail
    go_step3
    go_wp2_with fail
    refine (HK.out _ H1.out H2.out).mono ?_
    rintro e w1 ⟨rfl, hx1⟩
    have X1 := Lib.hid hx1; clear hx1
    go_wp2_with fail
    rw [Exit.noGoto_ret]
    go_ret2
    exact ⟨Res.mk (NewV.nil _ _) e1.out, X1.out⟩

end Go.Proofs.Ytoicjiiifffciaa
