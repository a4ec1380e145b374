/- Walks of Mul of layer 5 and of the reference's Product. Conditions: slices of limbs of bounded length. -/
import Derived.Test.YtoicjiiifffciaaBigJ
import Derived.Test.YtoicjiiifffciaaRefB
namespace Go.Proofs.Ytoicjiiifffciaa
set_option linter.unusedSimpArgs false
set_option linter.unusedVariables false
open Go.RowKit

theorem rdU_at {a : Option Addr} {c : Nat} {l : List Int} {w : World} (h : RdI .u32 w (.slice a l.length c) l) : ∀ i, i < l.length → ∃ b off, a = some ⟨b, off, none⟩ ∧ b < w.heap.size ∧ w.cell? ⟨b, off + i, none⟩ = some (.int .u32 (l.getD i 0)) := by
  obtain ⟨a', c', e, _, _, hr⟩ := rdU h
  injection e with e1 _ _
  rw [e1]; exact hr
theorem getD_set_ne0 {l : List Int} {i j : Nat} (x : Int) (h : i ≠ j) : (l.set i x).getD j 0 = l.getD j 0 := by
  rw [List.getD_eq_getElem?_getD, List.getD_eq_getElem?_getD, List.getElem?_set_ne h]
theorem prod_bd {x y : Int} (hx : 0 ≤ x ∧ x < 4294967296) (hy : 0 ≤ y ∧ y < 4294967296) : 0 ≤ x * y ∧ x * y ≤ 18446744065119617025 := by
  refine ⟨Int.mul_nonneg hx.1 hy.1, ?_⟩
  have h1 : x * y ≤ 4294967295 * y := Int.mul_le_mul_of_nonneg_right (by omega) hy.1
  omega

theorem step_val {l : List Int} {p : Nat} {q c : Int} (hl : Lim l) (hp : p < l.length) (hq : 0 ≤ q) (hc : 0 ≤ c) :
    nv (l.set p ((q + l.getD p 0 + c) % 4294967296)) + 4294967296 ^ (p + 1) * ((q + l.getD p 0 + c) / 4294967296).toNat = nv l + 4294967296 ^ p * (q.toNat + c.toNat) := by
  have := add_step (x := q) (c := c) hl hp hq hc
  rw [Int.add_comm q]
  exact this

theorem row_step {l : List Int} {k : Nat} {q : Int} (hl : Lim l) (hk : k + 1 < l.length) (hq : 0 ≤ q) (h0 : l.getD (k + 1) 0 = 0) :
    nv ((l.set k ((q + l.getD k 0) % 4294967296)).set (k + 1) ((q + l.getD k 0) / 4294967296)) = nv l + 4294967296 ^ k * q.toNat := by
  have hlt : k < l.length := by omega
  have hne : k ≠ k + 1 := by omega
  have h1 := step_val (q := q) (c := 0) hl hlt hq (Int.le_refl 0)
  have h2 := nv_setD (l := l.set k ((q + l.getD k 0) % 4294967296)) (k := k + 1) (by rw [List.length_set]; exact hk) ((q + l.getD k 0) / 4294967296)
  rw [getD_set_ne0 _ hne, h0] at h2
  rw [show (0 : Int).toNat = 0 from rfl, Nat.mul_zero, Nat.add_zero] at h2
  rw [show (0 : Int).toNat = 0 from rfl, Nat.add_zero, Int.add_zero] at h1
  rw [h2]; exact h1

theorem nat_mul_take (x : Nat) (l : List Int) {k : Nat} (h : k < l.length) : x * nv (l.take (k + 1)) = x * nv (l.take k) + 4294967296 ^ k * (x * (l.getD k 0).toNat) := by
  rw [nv_takeD h, Nat.mul_add, ← Nat.mul_assoc, Nat.mul_comm x (4294967296 ^ k), Nat.mul_assoc]

theorem mul_fits {la lb : List Int} (ha : Lim la) (hb : Lim lb) {i : Nat} : nv (la.take i) * nv lb < 4294967296 ^ (i + lb.length) := by
  have h1 := nv_lt (lim_take ha i)
  have h2 := nv_lt hb
  have h3 := pow_le (show (la.take i).length ≤ i by rw [List.length_take]; omega)
  rw [Nat.pow_add]
  exact Nat.mul_lt_mul'' (by omega) h2

set_option maxHeartbeats 2000000 in
theorem mul2_0 (a1 : Option Addr) (c1 : Nat) (l1 : List Int) (a2 : Option Addr) (c2 : Nat) (l2 : List Int) (w : World) (h1 : RdI .u32 w (.slice a1 l1.length c1) l1) (h2 : RdI .u32 w (.slice a2 l2.length c2) l2) (hl1 : Lim l1) (hl2 : Lim l2) (hc : chk2 l1 l2 = 0)
    (hc1 : l1.length ≤ c1) (hm1 : c1 ≤ 9223372036854775807) (hc2 : l2.length ≤ c2) (hm2 : c2 ≤ 9223372036854775807) :
    Calls Try.prog 15 #[.slice a1 l1.length c1, .slice a2 l2.length c2] w fun e w' => Res w w' e (fitL (nv l1 * nv l2)) ∧ Ext w w' := by
  have hr1 := rdU_at h1; have hr2 := rdU_at h2
  have H1 := Lib.hid h1; have H2 := Lib.hid h2; have R1 := Lib.hid hr1; have R2 := Lib.hid hr2
  have HL1 := Lib.hid hl1; have HL2 := Lib.hid hl2; have HC := Lib.hid hc
  obtain ⟨⟨g1, z1⟩, g2, z2⟩ := chk2_0 hc
  clear h1 h2 hr1 hr2 hl1 hl2 hc z1 z2
  go_enter Try.func15, Try.ntmps15
  go_wp2_with fail
  refine (check2_any _ _ l1 l2 _ H1.out H2.out).mono ?_
  rintro e w1 ⟨rfl, hx1⟩
  rw [HC.out]
  have X1 := Lib.hid hx1; clear hx1
  go_wp2_with (with_reducible refine wpList_make_u rfl _ _ rfl _ _ (l1.length + l2.length + 1) rfl rfl (by omega) (by omega) (by omega) ?_)
  intro w2 hrow2 hx2 hsz2
  have HR2 := Lib.hid hrow2; have X2 := Lib.hid hx2
  have W1 : w1.heap.size < w2.heap.size := by omega
  have W0 := X1.out.size
  clear hrow2 hx2 hsz2
  go_wp2_with fail
  go_loopw [8, 9, 10, 11, 12, 13, 29, 40] (fun _ _ _ _ _ _ i _ wr => ∃ (k : Nat) (lo : List Int), k ≤ l1.length ∧ i = .int .i64 k ∧ lo.length = l1.length + l2.length + 1 ∧ Lim lo ∧ nv lo = nv (l1.take k) * nv l2 ∧ RowU wr w1.heap.size (l1.length + l2.length + 1) lo ∧ Ext w1 wr)
    (fun _ _ _ _ _ _ i _ _ => l1.length - (intOf i).toNat)
  case atStart => exact ⟨0, _, Nat.zero_le _, rfl, List.length_replicate, lim_zeros _, by rw [nv_zeros]; simp [nv], HR2.out, X2.out⟩
  case round =>
    obtain ⟨k, lo, hk, rfl, e1, e2, e3, e4, e5⟩ := hrel
    have G1 := Lib.hid e1; have G2 := Lib.hid e2; have G3 := Lib.hid e3; have G4 := Lib.hid e4; have G5 := Lib.hid e5
    have Wr := e4.lt
    clear e1 e2 e3 e4 e5
    by_cases hlt : k < l1.length
    · obtain ⟨b, off, rfl, hbl, hx⟩ := R1.out k hlt
      have hxl := getD_lim HL1.out k
      have hx' := ((X1.out.trans G5.out).cell (p := ⟨b, off + k, none⟩) hbl).trans hx
      obtain ⟨x, hxx⟩ : ∃ x, x = l1.getD k 0 := ⟨_, rfl⟩
      rw [← hxx] at hx' hxl
      have hxn : 0 ≤ x := hxl.1
      have HXX := Lib.hid hxx
      clear hx hxx
      go_wp2_with (with_reducible refine wpList_make_u rfl _ _ rfl _ _ (l2.length + 1) rfl rfl (by omega) (by omega) (by omega) ?_)
      intro w3 hrow3 hx3 hsz3
      have HR3 := Lib.hid hrow3; have X3 := Lib.hid hx3
      have W3 : wr.heap.size < w3.heap.size := by omega
      clear hrow3 hx3 hsz3 hx'
      go_wp2_with fail
      obtain ⟨wo, hwo⟩ : ∃ wo : World, wo = wr := ⟨_, rfl⟩
      rw [← hwo] at G4 G5 X3 HR3 Wr W3 ⊢
      clear hwo
      go_loopw [11, 12, 13, 40] (fun _ _ _ i wq => ∃ (j : Nat) (lr : List Int), j ≤ l2.length ∧ i = .int .i64 j ∧ lr.length = l2.length + 1 ∧ Lim lr ∧ nv lr = x.toNat * nv (l2.take j) ∧ (∀ t, j < t → lr.getD t 0 = 0) ∧ RowU wq wo.heap.size (l2.length + 1) lr ∧ Ext wo wq)
        (fun _ _ _ i _ => l2.length - (intOf i).toNat)
      case atStart =>
        refine ⟨0, _, Nat.zero_le _, rfl, List.length_replicate, lim_zeros _, by rw [nv_zeros]; simp [nv], fun t _ => ?_, HR3.out, X3.out⟩
        rw [List.getD_eq_getElem?_getD, List.getElem?_replicate]; split <;> rfl
      case round =>
        obtain ⟨j, lr, hj, rfl, e1, e2, e3, ez, e4, e5⟩ := hrel
        by_cases hlt2 : j < l2.length
        · obtain ⟨b, off, rfl, hbl, hx⟩ := R2.out j hlt2
          have hyl := getD_lim HL2.out j
          have hy' := (((X1.out.trans G5.out).trans e5).cell (p := ⟨b, off + j, none⟩) hbl).trans hx
          obtain ⟨y, hyy⟩ : ∃ y, y = l2.getD j 0 := ⟨_, rfl⟩
          have hmt := nat_mul_take x.toNat l2 hlt2
          rw [← hyy] at hy' hyl hmt
          have hp := prod_bd hxl hyl
          have hst := row_step e2 (show j + 1 < lr.length by omega) hp.1 (ez _ (by omega))
          have hzl := getD_lim e2 j
          obtain ⟨z, hzz⟩ : ∃ z, z = lr.getD j 0 := ⟨_, rfl⟩
          have hz' := e4.getD (i := j) (by omega) hzz
          have hz2 := e4.cell (i := j + 1) (by omega)
          rw [← hzz] at hst hzl
          obtain ⟨q, hq⟩ : ∃ q, q = x * y := ⟨_, rfl⟩
          rw [← hq] at hst hp
          have hqn : q.toNat = x.toNat * y.toNat := by rw [hq]; exact Int.toNat_mul hxl.1 hyl.1
          rw [← hqn] at hmt
          have fz := e4.free; have lz := e4.lt
          have G7 := Lib.hid e1; have G8 := Lib.hid e2; have G9 := Lib.hid e3; have G10 := Lib.hid ez; have G11 := Lib.hid e4; have G12 := Lib.hid e5; have GS := Lib.hid hst; have GM := Lib.hid hmt; have HQ := Lib.hid hq
          have q1 : (0 : Int) ≤ (j : Int) := by omega
          have q2 : (j : Int) < (l2.length : Int) := by omega
          have hq0 := hp.1; have hq1 := hp.2
          have p1 : 0 ≤ x * y := by rw [← hq]; exact hp.1
          have p2 : x * y ≤ 18446744065119617025 := by rw [← hq]; exact hp.2
          obtain ⟨hz0, hz1⟩ := hzl
          obtain ⟨hx0, hx1'⟩ := hxl
          obtain ⟨hy0, hy1'⟩ := hyl
          clear e1 e2 e3 e4 e5 ez hx hyy hzz hst hmt hqn hq hp
          go_wp2_with fail
          go_roundw
          case rel =>
            rw [← HQ.out]
            refine ⟨j + 1, (lr.set j ((q + z) % 4294967296)).set (j + 1) ((q + z) / 4294967296), by omega, by go_num, by rw [List.length_set, List.length_set]; exact G7.out, lim_set (lim_setMod G8.out _ _) _ (by omega) (by omega), ?_, fun t ht => ?_, ?_, (G12.out.set (by have := X3.out.size; dsimp only; omega) _).set (by have := X3.out.size; dsimp only; omega) _⟩
            · rw [GS.out, GM.out, G9.out]
            · rw [getD_set_ne0 _ (by omega), getD_set_ne0 _ (by omega)]; exact G10.out t (by omega)
            · exact (G11.out.set j _ (by have := G7.out; omega)).set (j + 1) _ (by rw [List.length_set]; have := G7.out; omega)
          case measure => simp [intOf]; omega
        · obtain rfl : j = l2.length := by omega
          rw [List.take_length] at e3
          have G7 := Lib.hid e1; have G8 := Lib.hid e2; have G9 := Lib.hid e3; have G11 := Lib.hid e4; have G12 := Lib.hid e5
          clear e1 e2 e3 e4 e5 ez
          go_wp2_with fail
          have HRow := G4.out.ext G12.out
          have hfit : nv lo + 4294967296 ^ k * nv lr < 4294967296 ^ lo.length := by
            rw [G3.out, G9.out, G1.out]
            have h1 := mul_fits HL1.out HL2.out (i := k + 1)
            have h2 := pow_le (show k + 1 + l2.length ≤ l1.length + l2.length + 1 by omega)
            rw [nv_takeD hlt, ← HXX.out, Nat.add_mul, Nat.mul_assoc] at h1
            omega
          have HFT := Lib.hid hfit; have HRW := Lib.hid HRow
          clear hfit HRow
          have hcall := add_any w1.heap.size (l1.length + l2.length + 1) lo (.slice (some ⟨wo.heap.size, 0, none⟩) lr.length (l2.length + 1)) lr k wr HRW.out G2.out (G11.out.rd (p := (· ≠ w1.heap.size)) (by omega)) G8.out (by have := G7.out; have := G1.out; omega) HFT.out
          rw [G1.out, G7.out] at hcall
          refine hcall.mono ?_
          clear hcall
          rintro e w5 ⟨rfl, ⟨l5, q1, q2, q3, q4⟩, hg5⟩
          have P1 := Lib.hid q1; have P2 := Lib.hid q2; have P3 := Lib.hid q3; have P4 := Lib.hid q4; have P5 := Lib.hid hg5
          clear q1 q2 q3 q4 hg5
          go_wp2_with fail
          go_roundw
          case rel =>
            refine ⟨k + 1, l5, by omega, by go_num, P1.out, P2.out, ?_, P4.out, ?_⟩
            · rw [P3.out, G3.out, G9.out, nv_takeD hlt, ← HXX.out, Nat.add_mul, Nat.mul_assoc]
            · exact ((Gr.of_ext (o := none) (G5.out.trans G12.out)).fresh P5.out (fun g hg => by right; cases hg; exact Nat.le_refl _)).ext
          case measure => simp [intOf]; omega
    · obtain rfl : k = l1.length := by omega
      have e3 := G3.out
      rw [List.take_length] at e3
      have G9 := Lib.hid e3; clear e3
      go_wp2_with fail
      have hcall := fit_any (some w1.heap.size) _ lo wr (OwV.row G4.out) G2.out
      rw [G1.out] at hcall
      refine hcall.mono ?_
      clear hcall
      rintro e w5 ⟨⟨v', o', rfl, hO, ho'⟩, hx5⟩
      have HO := Lib.hid hO; have HO' := Lib.hid ho'; have X5 := Lib.hid hx5
      clear hO ho' hx5
      go_wp2_with fail
      go_ret2
      rw [← G9.out]
      refine ⟨⟨v', rfl, o', HO.out, fun g hg => ?_⟩, (X1.out.trans G5.out).trans X5.out⟩
      rcases HO'.out with rfl | rfl
      · cases hg; exact W0
      · cases hg

theorem mul2_any (v1 v2 : Value) (l1 l2 : List Int) (w : World) (h1 : RdI .u32 w v1 l1) (h2 : RdI .u32 w v2 l2) (hl1 : Lim l1) (hl2 : Lim l2) :
    Calls Try.prog 15 #[v1, v2] w fun e w' => Res w w' e (mulS l1 l2) ∧ Ext w w' := by
  have H1 := Lib.hid h1; have H2 := Lib.hid h2
  obtain ⟨a1, c1, rfl, hc1, hm1, hr1⟩ := rdU h1
  obtain ⟨a2, c2, rfl, hc2, hm2, hr2⟩ := rdU h2
  by_cases hc : chk2 l1 l2 = 0
  · rw [show mulS l1 l2 = fitL (nv l1 * nv l2) from opS_ok hc]
    exact mul2_0 a1 c1 l1 a2 c2 l2 w h1 h2 hl1 hl2 hc hc1 hm1 hc2 hm2
  · clear h1 h2 hr1 hr2 hl1 hl2
    have e1 := Lib.hid (show mulS l1 l2 = ([], chk2 l1 l2) from opS_err hc)
    have hc' : (chk2 l1 l2 != 0) = true := by simpa using hc
    obtain ⟨c, hcc⟩ : ∃ c, c = chk2 l1 l2 := ⟨_, rfl⟩
    have hk := fun W h1 h2 => check2_any (.slice a1 l1.length c1) (.slice a2 l2.length c2) l1 l2 W h1 h2
    rw [← hcc] at hk hc' e1
    have HK := Lib.hid hk
    clear hc hcc hk
    go_enter Try.func15, Try.ntmps15
    go_wp2_with fail
    refine (HK.out _ H1.out H2.out).mono ?_
    rintro e w1 ⟨rfl, hx1⟩
    have X1 := Lib.hid hx1; clear hx1
    go_wp2_with fail
    go_ret2
    exact ⟨Res.mk (NewV.nil _ _) e1.out, X1.out⟩

end Go.Proofs.Ytoicjiiifffciaa
