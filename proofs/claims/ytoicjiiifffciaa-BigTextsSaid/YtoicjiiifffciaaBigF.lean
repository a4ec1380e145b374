/- Walks of subtract of layer 5. Conditions: rows of limbs; the difference is no less than 0. -/
import Derived.Test.YtoicjiiifffciaaBigE
namespace Go.Proofs.Ytoicjiiifffciaa
set_option linter.unusedSimpArgs false
set_option linter.unusedVariables false
open Go.RowKit

theorem RowU.getD {w : World} {g cap : Nat} {l : List Int} (h : RowU w g cap l) {i : Nat} (hi : i < l.length) {y : Int} (hy : y = l.getD i 0) : w.cell? ⟨g, i, none⟩ = some (.int .u32 y) := by rw [hy]; exact h.cell hi

set_option maxHeartbeats 2000000 in
theorem subtract_row (g cap : Nat) (l : List Int) (vb : Value) (lb : List Int) (w : World) (h : RowU w g cap l) (hl : Lim l) (hb : RdA (· ≠ g) w vb lb) (hlb : Lim lb)
    (hs : lb.length ≤ l.length) (hge : nv lb ≤ nv l) :
    Calls Try.prog 44 #[.slice (some ⟨g, 0, none⟩) l.length cap, vb] w fun e w' => e = .returned (.slice (some ⟨g, 0, none⟩) (lim (nv l - nv lb)).length cap) ∧
      RowU w' g cap (lim (nv l - nv lb)) ∧ Gr (some g) w w' := by
  have hle := h.le; have hmost := h.most; have hg := h.lt
  obtain ⟨a, capb, rfl, hc2, hm2, hr⟩ := hb
  have H := Lib.hid h; have HL := Lib.hid hl; have HB := Lib.hid hr; have HLB := Lib.hid hlb; have HF := Lib.hid hge
  clear h hl hr hlb hge
  go_enter Try.func44, Try.ntmps44
  go_wp2_with fail
  go_loopw [5, 6, 7, 11] (fun vc _ _ i wr => ∃ (k : Nat) (c : Int) (lk : List Int), k ≤ lb.length ∧ i = .int .i64 k ∧ vc = .int .u32 c ∧ 0 ≤ c ∧ c ≤ 1 ∧ lk.length = l.length ∧ Lim lk ∧ nv lk + nv (lb.take k) = nv l + 4294967296 ^ k * c.toNat ∧ RowU wr g cap lk ∧ Gr (some g) w wr)
    (fun _ _ _ i _ => lb.length - (intOf i).toNat)
  case atStart => exact ⟨0, 0, l, Nat.zero_le _, rfl, rfl, by omega, by omega, rfl, HL.out, by simp [nv], H.out, Gr.refl _ _⟩
  case round =>
    obtain ⟨k, c, lk, hk, rfl, rfl, c0, c1, e1, e2, e3, e4, e6⟩ := hrel
    by_cases hlt : k < lb.length
    · obtain ⟨b, off, rfl, hbg, hbl, hx⟩ := HB.out k hlt
      have hxl := getD_lim HLB.out k
      have hyl := getD_lim e2 k
      have hx' : wr.cell? ⟨b, off + k, none⟩ = some (.int .u32 (lb.getD k 0)) := (e6.cell (p := ⟨b, off + k, none⟩) hbl (by simpa using hbg)).trans hx
      have ht := nv_takeD hlt
      obtain ⟨x, hxx⟩ : ∃ x, x = lb.getD k 0 := ⟨_, rfl⟩
      obtain ⟨y, hyy⟩ : ∃ y, y = lk.getD k 0 := ⟨_, rfl⟩
      have hst := sub_step (x := x) (c := c) e2 (show k < lk.length by omega) (by rw [hxx]; exact hxl) ⟨c0, c1⟩
      have hy' := e4.getD (i := k) (by omega) hyy
      rw [← hyy] at hst hyl
      rw [← hxx] at hx' ht hxl
      have fy := e4.free
      have l3 := e4.lt
      have lb1 := Nat.lt_of_lt_of_le hbl e6.size
      have G1 := Lib.hid e1; have G2 := Lib.hid e2; have G3 := Lib.hid e3; have G4 := Lib.hid e4; have G6 := Lib.hid e6; have GT := Lib.hid ht; have GS := Lib.hid hst
      have q1 : (0 : Int) ≤ (k : Int) := by omega
      have q2 : (k : Int) < (l.length : Int) := by omega
      have q3 : (k : Int) < (lb.length : Int) := by omega
      clear e1 e2 e3 e4 e6 hx ht hxx hyy hst
      go_wp2_with fail
      refine (sub32_any _ _ _ _ hyl hxl ⟨c0, c1⟩).mono ?_
      rintro e w1 ⟨rfl, hx1⟩
      have fz := (G4.out.ext hx1).free
      have c9 := (G4.out.ext hx1).getD (i := k) (by have := G1.out; omega) rfl
      have l9 := (G4.out.ext hx1).lt
      have GX := Lib.hid hx1; clear hx1
      have hbd := brw_bd y x c
      go_wp2_with fail
      go_roundw
      case rel =>
        refine ⟨k + 1, _, lk.set k ((y - x - c) % 4294967296), by omega, by go_num, rfl, hbd.1, hbd.2, (List.length_set).trans G1.out, lim_setMod G2.out _ _, ?_, (G4.out.ext GX.out).set k _ (by have := G1.out; omega), (G6.out.trans (Gr.of_ext GX.out)).set _ _⟩
        have h1 := G3.out; have h2 := GT.out; have h3 := GS.out
        rw [Nat.mul_add] at h3
        omega
      case measure => simp [intOf]; omega
    · obtain rfl : k = lb.length := by omega
      rw [List.take_length] at e3
      have G1 := Lib.hid e1; have G2 := Lib.hid e2; have G3 := Lib.hid e3; have G4 := Lib.hid e4; have G6 := Lib.hid e6
      clear e1 e2 e3 e4 e6
      go_wp2_with fail
      obtain ⟨wo, hwo⟩ : ∃ wo : World, wo = wr := ⟨_, rfl⟩
      rw [← hwo] at G4 G6 ⊢
      clear hwo
      go_loopw [5, 8] (fun vc i wq => ∃ (j : Nat) (c : Int) (lk : List Int), j ≤ l.length ∧ i = .int .i64 j ∧ vc = .int .u32 c ∧ 0 ≤ c ∧ c ≤ 1 ∧ lk.length = l.length ∧ Lim lk ∧ nv lk + nv lb = nv l + 4294967296 ^ j * c.toNat ∧ RowU wq g cap lk ∧ Gr (some g) w wq)
        (fun _ i _ => l.length - (intOf i).toNat)
      case atStart => exact ⟨lb.length, c, lk, hs, rfl, rfl, c0, c1, G1.out, G2.out, G3.out, G4.out, G6.out⟩
      case round =>
        clear G1 G2 G3 G4 G6 c0 c1
        obtain ⟨j, c, lk, hj, rfl, rfl, c0, c1, e1, e2, e3, e4, e6⟩ := hrel
        by_cases hcz : c = 0
        · subst hcz
          have e5 : nv lk = nv l - nv lb := by have := HF.out; simp at e3; omega
          have G1 := Lib.hid e1; have G2 := Lib.hid e2; have G4 := Lib.hid e4; have G5 := Lib.hid e5; have G6 := Lib.hid e6
          clear e1 e2 e3 e4 e5 e6
          go_wp2_with fail
          rw [← G1.out]
          refine (trim_row g cap lk wr G4.out G2.out).mono ?_
          rintro e w1 ⟨rfl, r1, r2⟩
          have P1 := Lib.hid r1; have P2 := Lib.hid r2; clear r1 r2
          go_wp2_with fail
          go_ret
          rw [← G5.out]
          exact ⟨rfl, P1.out, G6.out.trans (Gr.of_ext P2.out)⟩
        · have hcz' : (c != 0) = true := by simpa using hcz
          have hjl : j < l.length := by
            have h1 := nv_lt e2
            rw [e1] at h1
            refine lt_of_pow_le (n := nv lk) ?_ h1
            have h2 : 4294967296 ^ j * 1 ≤ 4294967296 ^ j * c.toNat := Nat.mul_le_mul_left _ (by omega)
            have := HF.out
            omega
          have hyl := getD_lim e2 j
          obtain ⟨y, hyy⟩ : ∃ y, y = lk.getD j 0 := ⟨_, rfl⟩
          have hst := sub_step (x := 0) (c := c) e2 (show j < lk.length by omega) (by omega) ⟨c0, c1⟩
          rw [Int.sub_zero] at hst
          have hy' := e4.getD (i := j) (by omega) hyy
          rw [← hyy] at hst hyl
          have fy := e4.free
          have l3 := e4.lt
          have G1 := Lib.hid e1; have G2 := Lib.hid e2; have G3 := Lib.hid e3; have G4 := Lib.hid e4; have G6 := Lib.hid e6; have GS := Lib.hid hst
          have q1 : (0 : Int) ≤ (j : Int) := by omega
          have q2 : (j : Int) < (l.length : Int) := by omega
          clear e1 e2 e3 e4 e6 hyy hst
          go_wp2_with fail
          refine (sub32_any _ _ _ _ hyl (by omega) ⟨c0, c1⟩).mono ?_
          rintro e w1 ⟨rfl, hx1⟩
          have fz := (G4.out.ext hx1).free
          have c9 := (G4.out.ext hx1).getD (i := j) (by have := G1.out; omega) rfl
          have l9 := (G4.out.ext hx1).lt
          have GX := Lib.hid hx1; clear hx1
          have hbd := brw_bd y 0 c
          go_wp2_with fail
          go_roundw
          case rel =>
            refine ⟨j + 1, _, lk.set j ((y - c) % 4294967296), by omega, by go_num, rfl, hbd.1, hbd.2, (List.length_set).trans G1.out, lim_setMod G2.out _ _, ?_, (G4.out.ext GX.out).set j _ (by have := G1.out; omega), (G6.out.trans (Gr.of_ext GX.out)).set _ _⟩
            have h1 := G3.out; have h3 := GS.out
            rw [Nat.mul_add] at h3
            simp at h3
            omega
          case measure => simp [intOf]; omega

/-- The length of a canonical list goes with its value. -/
theorem can_len_le {a b : List Int} (ha : Lim a) (za : NoZ a) (hb : Lim b) (h : nv a ≤ nv b) : a.length ≤ b.length := by
  have h1 := nv_lt hb
  rw [← lim_nv ha za]
  exact lim_len_le.2 (by omega)

theorem lim_can {l : List Int} (h : Lim l) (z : NoZ l) : lim (nv l) = l := lim_nv h z

set_option maxHeartbeats 400000 in
theorem subtract_nil (a : Option Addr) (vb : Value) (w : World) (hb : RdA (fun _ => True) w vb []) :
    Calls Try.prog 44 #[.slice a 0 0, vb] w fun e w' => e = .returned (.slice a 0 0) ∧ Ext w w' := by
  obtain ⟨b, capb, rfl, hc2, hm2, hr⟩ := hb
  clear hr
  simp only [List.length_nil] at *
  go_enter Try.func44, Try.ntmps44
  go_wp2_with fail
  refine wp_loop_rounds 1 ?_
  rw [rounds_succ]
  go_wp2_with fail
  refine wp_loop_rounds 1 ?_
  rw [rounds_succ]
  go_wp2_with fail
  refine (trim_nil a _).mono ?_
  rintro e w1 ⟨rfl, hx1⟩
  go_wp2
  go_ret
  exact ⟨rfl, by (repeat (first | (with_reducible exact Ext.refl _) | (with_reducible assumption) | (with_reducible refine Ext.alloc ?_ _) | ((with_reducible refine Ext.setp ?_ ?_); focus (dsimp only; omega)) | (with_reducible refine Ext.drew ?_) | (with_reducible refine Ext.drewN ?_ _) | (with_reducible refine Ext.trans ?_ (by assumption))))⟩

theorem nv_pos_ne {l : List Int} (h : l ≠ []) (hl : Lim l) (hz : NoZ l) : 0 < nv l := nv_pos_of_noZ hl hz h

/-- subtract. -/
theorem subtract_any (o : Option Nat) (v vb : Value) (l lb : List Int) (w : World) (h : OwV w o v l) (hl : Lim l) (hb : RdA (fun b => o ≠ some b) w vb lb) (hlb : Lim lb) (hz : NoZ lb) (hge : nv lb ≤ nv l) :
    Calls Try.prog 44 #[v, vb] w fun e w' => ∃ v', e = .returned v' ∧ OwV w' o v' (lim (nv l - nv lb)) ∧ Gr o w w' := by
  rcases h with ⟨rfl, rfl, a, ha, rfl⟩ | ⟨g, cap, rfl, rfl, h⟩
  · have e : lb = [] := by
      by_cases h0 : lb = []
      · exact h0
      · have := nv_pos_of_noZ hlb hz h0
        simp only [nv_nil] at hge; omega
    subst e
    exact (subtract_nil a vb w (hb.mono fun _ _ => trivial)).mono fun e w' ⟨he, hx⟩ => ⟨_, he, .inl ⟨rfl, rfl, a, ha, rfl⟩, Gr.of_ext hx⟩
  · exact (subtract_row g cap l vb lb w h hl (hb.mono fun b hb e => hb (by rw [e])) hlb (can_len_le hlb hz hl hge) hge).mono fun e w' ⟨he, hr, hx⟩ => ⟨_, he, .row hr, hx⟩

end Go.Proofs.Ytoicjiiifffciaa

