/- Walk of the reference's Product. Conditions: slices of limbs of bounded length. -/
import Derived.Test.YtebdmmlniohhgaaGC
namespace Go.Proofs.Ytebdmmlniohhgaa
set_option linter.unusedSimpArgs false
set_option linter.unusedVariables false
open Go.RowKit

/-- One limb of a row that is added in place. -/
theorem prod_step {l : List Int} {p : Nat} {q c : Int} {n m k : Nat} (hl : Lim l) (hp : p < l.length) (hq : 0 ≤ q) (hc : 0 ≤ c) (h : nv l + 4294967296 ^ p * c.toNat = n + 4294967296 ^ k * m) (hk : k ≤ p) (r : Nat) (hr : 4294967296 ^ k * r = 4294967296 ^ p * q.toNat) :
    nv (l.set p ((q + l.getD p 0 + c) % 4294967296)) + 4294967296 ^ (p + 1) * ((q + l.getD p 0 + c) / 4294967296).toNat = n + 4294967296 ^ k * (m + r) := by
  have h1 := step_val (q := q) (c := c) hl hp hq hc
  rw [h1, Nat.mul_add, Nat.mul_add, hr]
  omega

theorem prod_big {x y z c : Int} (hx : 0 ≤ x ∧ x < 4294967296) (hy : 0 ≤ y ∧ y < 4294967296) (hz : 0 ≤ z ∧ z < 4294967296) (hc : 0 ≤ c ∧ c < 4294967296) : 0 ≤ x * y + z + c ∧ x * y + z + c < 18446744073709551616 := by
  have := prod_bd hx hy
  omega

theorem set_getD_self {l : List Int} {p : Nat} (x : Int) (h : p < l.length) : (l.set p x).getD p 0 = x := by
  rw [List.getD_eq_getElem?_getD, List.getElem?_set_self h, Option.getD_some]

set_option maxHeartbeats 2000000 in
theorem product_any (v1 v2 : Value) (l1 l2 : List Int) (w : World) (h1 : RdI .u32 w v1 l1) (h2 : RdI .u32 w v2 l2) (hl1 : Lim l1) (hl2 : Lim l2) (s1 : l1.length ≤ 10000000) (s2 : l2.length ≤ 10000000) :
    Calls Try.prog 84 #[v1, v2] w fun e w' => (∃ v, e = .returned v ∧ NewV w w' v (lim (nv l1 * nv l2))) ∧ Ext w w' := by
  have H1 := Lib.hid h1; have H2 := Lib.hid h2
  obtain ⟨a1, c1, rfl, hc1, hm1, hr1⟩ := rdU h1
  obtain ⟨a2, c2, rfl, hc2, hm2, hr2⟩ := rdU h2
  have R1 := Lib.hid hr1; have R2 := Lib.hid hr2
  have HL1 := Lib.hid hl1; have HL2 := Lib.hid hl2
  clear h1 h2 hr1 hr2 hl1 hl2
  go_enter Try.func84, Try.ntmps84
  go_wp2_with (with_reducible refine wpList_make_u rfl _ _ rfl _ _ (l1.length + l2.length) rfl rfl (by omega) (by omega) (by omega) ?_)
  intro w2 hrow2 hx2 hsz2
  have HR2 := Lib.hid hrow2; have X2 := Lib.hid hx2
  have W1 : w.heap.size < w2.heap.size := by omega
  clear hrow2 hx2 hsz2
  go_wp2_with fail
  go_loopw [6, 7, 8, 9] (fun i _ _ _ wr => ∃ (k : Nat) (lo : List Int), k ≤ l1.length ∧ i = .int .i64 k ∧ lo.length = l1.length + l2.length ∧ Lim lo ∧ nv lo = nv (l1.take k) * nv l2 ∧ (∀ t, k + l2.length ≤ t → lo.getD t 0 = 0) ∧ RowU wr w.heap.size (l1.length + l2.length) lo ∧ Ext w wr)
    (fun i _ _ _ _ => l1.length - (intOf i).toNat)
  case atStart =>
    refine ⟨0, _, Nat.zero_le _, rfl, List.length_replicate, lim_zeros _, by rw [nv_zeros]; simp [nv], fun t _ => ?_, HR2.out, X2.out⟩
    rw [List.getD_eq_getElem?_getD, List.getElem?_replicate]; split <;> rfl
  case round =>
    obtain ⟨k, lo, hk, rfl, e1, e2, e3, ez, e4, e5⟩ := hrel
    have G1 := Lib.hid e1; have G2 := Lib.hid e2; have G3 := Lib.hid e3; have GZ := Lib.hid ez; have G4 := Lib.hid e4; have G5 := Lib.hid e5
    clear e1 e2 e3 e4 e5 ez
    by_cases hlt : k < l1.length
    · obtain ⟨b, off, rfl, hbl, hx⟩ := R1.out k hlt
      have hxl := getD_lim HL1.out k
      obtain ⟨x, hxx⟩ : ∃ x, x = l1.getD k 0 := ⟨_, rfl⟩
      rw [← hxx] at hx hxl
      have HXX := Lib.hid hxx; have HX := Lib.hid hx
      clear hx hxx
      go_wp2_with fail
      go_loopw [7, 8, 9] (fun cy i _ wq => ∃ (j : Nat) (c : Int) (lj : List Int), j ≤ l2.length ∧ i = .int .i64 j ∧ cy = .int .u64 c ∧ 0 ≤ c ∧ c < 4294967296 ∧ lj.length = l1.length + l2.length ∧ Lim lj ∧ nv lj + 4294967296 ^ (k + j) * c.toNat = nv lo + 4294967296 ^ k * (x.toNat * nv (l2.take j)) ∧
          (∀ t, k + l2.length ≤ t → lj.getD t 0 = 0) ∧ RowU wq w.heap.size (l1.length + l2.length) lj ∧ Ext w wq)
        (fun _ i _ _ => l2.length - (intOf i).toNat)
      case atStart =>
        exact ⟨0, 0, lo, Nat.zero_le _, rfl, rfl, by omega, by omega, G1.out, G2.out, by simp [nv], GZ.out, G4.out, G5.out⟩
      case round =>
        obtain ⟨j, c, lj, hj, rfl, rfl, c0, c1, e1, e2, e3, ez, e4, e5⟩ := hrel
        by_cases hlt2 : j < l2.length
        · obtain ⟨b2, off2, rfl, hbl2, hy⟩ := R2.out j hlt2
          have hyl := getD_lim HL2.out j
          have hx' := (e5.cell (p := ⟨b, off + k, none⟩) hbl).trans HX.out
          have hy' := (e5.cell (p := ⟨b2, off2 + j, none⟩) hbl2).trans hy
          obtain ⟨y, hyy⟩ : ∃ y, y = l2.getD j 0 := ⟨_, rfl⟩
          have hmt := nat_mul_take x.toNat l2 hlt2
          rw [← hyy] at hy' hyl hmt
          have hzl := getD_lim e2 (k + j)
          obtain ⟨z, hzz⟩ : ∃ z, z = lj.getD (k + j) 0 := ⟨_, rfl⟩
          have hz' := e4.getD (i := k + j) (by omega) hzz
          have hst := prod_step (q := x * y) (r := 4294967296 ^ j * (x * y).toNat) e2 (show k + j < lj.length by omega) (prod_bd hxl hyl).1 c0 e3 (by omega) (by rw [← Nat.mul_assoc, ← Nat.pow_add])
          rw [← hzz] at hst hzl
          have hbig := prod_big hxl hyl hzl ⟨c0, c1⟩
          have hqn : (x * y).toNat = x.toNat * y.toNat := Int.toNat_mul hxl.1 hyl.1
          rw [hqn, ← hmt] at hst
          have hpb := prod_bd hxl hyl
          obtain ⟨s, hs⟩ : ∃ s, s = x * y + z + c := ⟨_, rfl⟩
          have fz := e4.free; have lz := e4.lt
          have hcd : 0 ≤ (x * y + z + c) / 4294967296 ∧ (x * y + z + c) / 4294967296 < 4294967296 := by omega
          have hez : ∀ t, k + l2.length ≤ t → (lj.set (k + j) ((x * y + z + c) % 4294967296)).getD t 0 = 0 := fun t ht => by
            rw [getD_set_ne0 _ (by omega)]; exact ez t ht
          have G7 := Lib.hid e1; have G8 := Lib.hid e2; have G11 := Lib.hid e4; have G12 := Lib.hid e5; have GS := Lib.hid hst; have GE := Lib.hid hez
          have q1 : (0 : Int) ≤ (j : Int) := by omega
          have q2 : (j : Int) < (l2.length : Int) := by omega
          obtain ⟨hz0, hz1⟩ := hzl
          obtain ⟨hx0, hx1'⟩ := hxl
          obtain ⟨hy0, hy1'⟩ := hyl
          obtain ⟨hb0, hb1⟩ := hbig
          obtain ⟨p1, p2⟩ := hpb
          obtain ⟨d1, d2⟩ := hcd
          clear e1 e2 e3 e4 e5 ez hyy hzz hst hmt hqn hy hez hs
          go_wp2_with fail
          go_quiet (fail)
          go_wp2_with fail
          go_roundw
          case rel =>
            refine ⟨j + 1, (x * y + z + c) / 4294967296, lj.set (k + j) ((x * y + z + c) % 4294967296), by omega, by go_num, rfl, d1, d2, (List.length_set).trans G7.out, lim_setMod G8.out _ _, ?_, GE.out, ?_, ?_⟩
            · rw [← Nat.add_assoc]; exact GS.out
            · exact (G11.out.ext ((Ext.refl _).drewN _)).set (k + j) _ (by have := G7.out; omega)
            · exact (G12.out.drewN _).set (p := ⟨w.heap.size, k + j, none⟩) (Nat.le_refl _) _
          case measure => simp [intOf]; omega
        · obtain rfl : j = l2.length := by omega
          rw [List.take_length] at e3
          have hset := nv_setD (l := lj) (k := k + l2.length) (by omega) c
          rw [ez _ (Nat.le_refl _), show (0 : Int).toNat = 0 from rfl, Nat.mul_zero, Nat.add_zero, e3] at hset
          have hez : ∀ t, k + 1 + l2.length ≤ t → (lj.set (k + l2.length) c).getD t 0 = 0 := fun t ht => by
            rw [getD_set_ne0 _ (by omega)]; exact ez t (by omega)
          have hz2 := e4.cell (i := k + l2.length) (by omega)
          have fz := e4.free; have lz := e4.lt
          have hcm : c % 4294967296 = c := by omega
          have G7 := Lib.hid e1; have G8 := Lib.hid e2; have GS := Lib.hid hset; have G11 := Lib.hid e4; have G12 := Lib.hid e5; have GE := Lib.hid hez
          clear e1 e2 e3 e4 e5 ez hset hez
          go_wp2_with fail
          go_roundw
          case rel =>
            refine ⟨k + 1, lj.set (k + l2.length) c, by omega, by go_num, (List.length_set).trans G7.out, lim_set G8.out _ c0 c1, ?_, GE.out, ?_, ?_⟩
            · rw [GS.out, G3.out, nv_takeD hlt, ← HXX.out, Nat.add_mul, Nat.mul_assoc]
            · exact G11.out.set (k + l2.length) _ (by have := G7.out; omega)
            · exact G12.out.set (Nat.le_refl _) _
          case measure => simp [intOf]; omega
    · obtain rfl : k = l1.length := by omega
      have e3 := G3.out
      rw [List.take_length] at e3
      have G9 := Lib.hid e3; clear e3
      have hcall := cut_any (some w.heap.size) _ lo wr (OwV.row G4.out) G2.out
      rw [G1.out] at hcall
      have HC := Lib.hid hcall; clear hcall
      go_wp2_with fail
      refine HC.out.mono ?_
      rintro e w5 ⟨v', rfl, hO, hx5⟩
      have HO := Lib.hid hO; have X5 := Lib.hid hx5
      clear hO hx5
      go_wp2_with fail
      go_ret
      rw [← G9.out]
      exact ⟨⟨v', rfl, some w.heap.size, HO.out, fun g hg => by cases hg; exact Nat.le_refl _⟩, G5.out.trans X5.out⟩

end Go.Proofs.Ytebdmmlniohhgaa
