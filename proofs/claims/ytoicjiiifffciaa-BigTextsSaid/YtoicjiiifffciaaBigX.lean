/- Walk of halve of layer 5. Conditions: a row of limbs without leading zeros. -/
import Derived.Test.YtoicjiiifffciaaBigW
import Derived.Sort.LoopGhostIn
namespace Go.Proofs.Ytoicjiiifffciaa
set_option linter.unusedSimpArgs false
set_option linter.unusedVariables false
open Go.RowKit Go.Shelf
attribute [local go_sem] Oper.semAt_some

theorem half_step (x h : Nat) (hx : x < 4294967296) : (x + 4294967296 * h) / 2 = (x / 2 + 2147483648 * (h % 2)) + 4294967296 * (h / 2) ∧ (x + 4294967296 * h) % 2 = x % 2 ∧ x / 2 + 2147483648 * (h % 2) < 4294967296 := by omega

theorem half_or (x : Int) (h : Nat) (hx : 0 ≤ x ∧ x < 4294967296) : bits .or .u32 (x / 2) ((h % 2 * 2147483648 : Nat) : Int) = ((x.toNat / 2 + 2147483648 * (h % 2) : Nat) : Int) := by
  obtain ⟨a, rfl⟩ := Int.eq_ofNat_of_zero_le hx.1
  rw [Int.toNat_natCast, show ((a : Int) / 2) = ((a / 2 : Nat) : Int) by omega, (bits_u32 (a / 2) (h % 2 * 2147483648) (by omega) (by omega)).2.1]
  rw [Nat.or_comm, or_add (h % 2 * 2147483648) (a / 2) 31 (by omega) (by omega)]
  omega

theorem half_carry (x : Int) (hx : 0 ≤ x ∧ x < 4294967296) : x * 2147483648 % 4294967296 = ((x.toNat % 2 * 2147483648 : Nat) : Int) := by omega

theorem nv_drop_succ (l : List Int) (k : Nat) (hk : k < l.length) : nv (l.drop k) = (l.getD k 0).toNat + 4294967296 * nv (l.drop (k + 1)) := by
  rw [List.drop_eq_getElem_cons hk, nv_cons, List.getD_eq_getElem?_getD, List.getElem?_eq_getElem hk]; rfl

/-- Between two rounds of the inner loop of halve: k limbs are still to come. -/
def HalI (w0 : World) (lk : List Int) (g cap Bc k : Nat) (W : World) : Prop :=
  ∃ lj : List Int, lj.length = lk.length ∧ Lim lj ∧ lj.take k = lk.take k ∧ nv (lj.drop k) = nv (lk.drop k) / 2 ∧ RowU W g cap lj ∧ Blk W Bc #[.int .u32 ((nv (lk.drop k) % 2 * 2147483648 : Nat) : Int)] 50 ∧
    Fr (fun i => i = g ∨ i = Bc) w0 W

def HalAx (w0 : World) (lk : List Int) (g cap Bc H k : Nat) (x : Int) (a1 : Act) (W : World) : Prop :=
  k < lk.length ∧ HalI w0 lk g cap Bc (k + 1) W ∧ x = lk.getD k 0 ∧ w0.heap.size + 1 < W.heap.size ∧ ∃ t0 t2 t3 t4 t8 t9 t10 t11 t12 t13 t14 t15 t16 t17 t18 t19 t20 t21 t22 t23 t24 t25 t26 t27 t28 t29 t30 t31 t32 t33 t34 t35 t36 : Value,
    a1 = { tmps := #[t0, .pointer (some ⟨H, 0, none⟩), t2, t3, t4, .pointer (some ⟨Bc, 0, none⟩), .int .i64 k, .int .u32 x, t8, t9, t10, t11, t12, t13, t14, t15, t16, t17, t18, t19, t20, t21, t22, t23, t24, t25, t26, t27, t28, t29, t30, t31, t32, t33, t34, t35, t36], defers := [] }

theorem HalI.kz {w0 : World} {lk : List Int} {g cap Bc k : Nat} {A B : World} (h : HalI w0 lk g cap Bc k A) (z : Kz w0.heap.size A B) (hg : g < w0.heap.size) (hb : Bc < w0.heap.size) : HalI w0 lk g cap Bc k B := by
  obtain ⟨lj, h1, h2, h3, h4, h5, h6, h7⟩ := h
  exact ⟨lj, h1, h2, h3, h4, h5.kz z (.inl hg), h6.kz z (.inl hb), h7.kz z (Nat.le_refl _)⟩

theorem getD_take {l m : List Int} {k : Nat} (h : l.take (k + 1) = m.take (k + 1)) : l.getD k 0 = m.getD k 0 := by
  have h1 : (l.take (k + 1))[k]? = (m.take (k + 1))[k]? := by rw [h]
  rw [List.getElem?_take_of_lt (by omega), List.getElem?_take_of_lt (by omega)] at h1
  rw [List.getD_eq_getElem?_getD, List.getD_eq_getElem?_getD, h1]
theorem take_set_eq {l m : List Int} {k : Nat} (x : Int) (h : l.take (k + 1) = m.take (k + 1)) : (l.set k x).take k = m.take k := by
  rw [List.take_set_of_le (Nat.le_refl k)]
  have := congrArg (List.take k) h
  rwa [List.take_take, List.take_take, Nat.min_eq_left (by omega)] at this
theorem drop_set_nv {l : List Int} {k : Nat} (x : Int) (hk : k < l.length) : nv ((l.set k x).drop k) = x.toNat + 4294967296 * nv (l.drop (k + 1)) := by
  rw [nv_drop_succ _ k (by rw [List.length_set]; exact hk), List.drop_set_of_lt (by omega), List.getD_eq_getElem?_getD, List.getElem?_set_self hk]
  rfl

set_option maxRecDepth 100000 in
set_option maxHeartbeats 4000000 in
theorem halve_row (g cap : Nat) (l : List Int) (w : World) (h : RowU w g cap l) (hl : Lim l) (hz : NoZ l) (hs : l.length ≤ 10000) :
    Calls Try.prog 42 #[.slice (some ⟨g, 0, none⟩) l.length cap] w fun e w' => (∃ (k m : Nat), nv l = m * 2 ^ k ∧ (nv l = 0 → k = 0) ∧ (nv l ≠ 0 → m % 2 = 1) ∧
      e = .returned (.tuple #[.slice (some ⟨g, 0, none⟩) (lim m).length cap, .int .i64 k]) ∧ RowU w' g cap (lim m)) ∧ Gr (some g) w w' := by
  have hgl := h.lt; have hmost := h.most; have hle := h.le
  have H := Lib.hid h; have HL := Lib.hid hl; have HZ := Lib.hid hz
  clear h hl hz
  have hbx : Blk (w.alloc (.cells #[.slice (some ⟨g, 0, none⟩) l.length cap] 23)) w.heap.size #[.slice (some ⟨g, 0, none⟩) l.length cap] 23 := Blk.new w _ _
  have GB := Lib.hid hbx; clear hbx
  refine (callsIn_wide (n := 8)).1 ?_
  refine callsIn_of_wp_marks Try.func42 rfl trivial ?_ rfl
  simp only [Try.ntmps42, List.size_toArray, List.length_cons, List.length_nil, Nat.reduceAdd, Nat.reduceSub, Array.replicate_succ, Array.replicate_zero, List.push_toArray, List.append_toArray, List.nil_append, List.cons_append]
  gi_wp2_with fail
  refine wpIn_loop_ghost (fun N a W => ∃ (k : Nat) (lk : List Int) (ds : List Deferred), N = nv lk ∧ Lim lk ∧ NoZ lk ∧ lk.length ≤ l.length ∧ nv l = nv lk * 2 ^ k ∧ (nv l = 0 → k = 0) ∧ RowU W g cap lk ∧ Blk W w.heap.size #[.slice (some ⟨g, 0, none⟩) lk.length cap] 23 ∧ Gr (some g) w W ∧ Marks w.heap.size ds W ∧
    ∃ t0 t2 t3 t5 t6 t7 t8 t9 t10 t11 t12 t13 t14 t15 t16 t17 t18 t19 t20 t21 t22 t23 t24 t25 t26 t27 t28 t29 t30 t31 t32 t33 t34 t35 t36 : Value, a = { tmps := #[t0, .pointer (some ⟨w.heap.size, 0, none⟩), t2, t3, .int .i64 k, t5, t6, t7, t8, t9, t10, t11, t12, t13, t14, t15, t16, t17, t18, t19, t20, t21, t22, t23, t24, t25, t26, t27, t28, t29, t30, t31, t32, t33, t34, t35, t36], defers := ds }) (nv l) ?h0 ?round
  case h0 =>
    exact ⟨0, l, [], rfl, HL.out, HZ.out, Nat.le_refl _, by simp, fun _ => rfl, H.out.ext ((Ext.refl w).alloc _), GB.out, (Gr.refl _ w).alloc _, Marks.nil _ _, _, _, _, _, _, _, _, _, _, _, _, _, _, _, _, _, _, _, _, _, _, _, _, _, _, _, _, _, _, _, _, _, _, _, _, rfl⟩
  case round =>
    rintro N a W ⟨k, lk, ds, rfl, h1, h2, h3, h4, h5, h6, h7, h8, h9, t0, t2, t3, t5, t6, t7, t8, t9, t10, t11, t12, t13, t14, t15, t16, t17, t18, t19, t20, t21, t22, t23, t24, t25, t26, t27, t28, t29, t30, t31, t32, t33, t34, t35, t36, rfl⟩
    have hk : k ≤ 320000 := by
      by_cases h0 : nv l = 0
      · have := h5 h0; omega
      · have e1 : 2 ^ k ≤ nv l := by
          rw [h4]
          have : nv lk ≠ 0 := fun e => h0 (by rw [h4, e, Nat.zero_mul])
          calc 2 ^ k = 1 * 2 ^ k := (Nat.one_mul _).symm
            _ ≤ nv lk * 2 ^ k := Nat.mul_le_mul_right _ (by omega)
        have e2 := nv_lt HL.out
        rw [pow_two] at e2
        have := (Nat.pow_lt_pow_iff_right (a := 2) (by omega)).1 (Nat.lt_of_le_of_lt e1 e2)
        omega
    have hc0 := h7.cell 0; have hlb := h7.lt; have hfb := h7.free 0
    simp only [List.getElem?_toArray, List.getElem?_cons_zero] at hc0
    have hlc := h6.le
    have G1 := Lib.hid h1; have G2 := Lib.hid h2; have G3 := Lib.hid h3; have G4 := Lib.hid h4; have G5 := Lib.hid h5; have G6 := Lib.hid h6; have G7 := Lib.hid h7; have G8 := Lib.hid h8; have G9 := Lib.hid h9
    by_cases hne : 0 < lk.length
    · have hx := getD_lim h1 0
      obtain ⟨x, hxx⟩ : ∃ x, x = lk.getD 0 0 := ⟨_, rfl⟩
      have hcx := h6.getD (i := 0) hne hxx
      have hpar : nv lk % 2 = x.toNat % 2 := by rw [nv_head lk, ← hxx]; omega
      have hand := and_one x 0 (by rw [hxx]; exact hx)
      rw [Int.pow_zero, Int.ediv_one, Nat.pow_zero, Nat.div_one] at hand
      have q0 : (0 : Int) < (lk.length : Int) := by omega
      have GP := Lib.hid hpar
      by_cases hp2 : x.toNat % 2 = 1
      · have hand1 : (bits .and .u32 x 1 == 0) = false := by rw [hand, hp2]; rfl
        have hO := Lib.hid hp2
        clear h1 h2 h3 h4 h5 h6 h7 h8 h9 hxx hand hpar hx hp2
        gi_wp2_with fail
        refine G9.out.leaves (fun W' hb => ?_)
        have hnv := GP.out; rw [hO.out] at hnv
        refine ⟨.tuple #[.slice (some ⟨g, 0, none⟩) lk.length cap, .int .i64 k], by simp only [results, Try.results42]; go_simp, ⟨k, nv lk, G4.out, G5.out, fun _ => hnv, ?_, ?_⟩, ?_⟩
        · rw [lim_nv G1.out G2.out]
        · rw [lim_nv G1.out G2.out]
          obtain ⟨cur, hbk, hs', ht⟩ := G6.out.blk
          exact ⟨⟨cur, (hb.block g (by omega)).trans hbk, hs', ht⟩, G6.out.le, G6.out.most⟩
        · exact ⟨hb.os.trans G8.out.os, hb.tape.trans G8.out.tape, hb.output.trans G8.out.output, Nat.le_trans G8.out.size hb.size, fun i hi hn => (hb.block i (by omega)).trans (G8.out.block i hi hn)⟩
      · have hand1 : (bits .and .u32 x 1 == 0) = true := by rw [hand, show x.toNat % 2 = 0 by omega]; rfl
        have hO := Lib.hid hp2
        have hdl : nv (lk.drop 0) = nv lk := by rw [List.drop_zero]
        clear h1 h2 h3 h4 h5 h6 h7 h8 h9 hxx hand hpar hx hp2
        gi_wp2_with fail
        refine ⟨trivial, (callsIn_wide.2 (backward_any _ lk.length cap _)).mono ?_⟩
        rintro e w3 ⟨rfl, hw3⟩
        have hxW : Ext W w3 := by rw [hw3]; exact ((Ext.refl W).alloc _).alloc _
        have hs3 : w3.heap.size = W.heap.size + 1 + 1 := by rw [hw3]; simp
        have hBc : Blk w3 W.heap.size #[.int .u32 0] 50 := by rw [hw3]; exact (Blk.new W _ _).alloc _
        have hBx : Blk w3 (W.heap.size + 1) #[.slice (some ⟨g, 0, none⟩) lk.length cap] 23 := by
          rw [hw3]; have := Blk.new (W.alloc (.cells #[.int .u32 0] 50)) #[.slice (some ⟨g, 0, none⟩) lk.length cap] 23; rwa [World.size_alloc] at this
        have KX := Lib.hid hxW; have KC := Lib.hid hBc; have KB := Lib.hid hBx; have KR := Lib.hid (G6.out.ext hxW); have KH := Lib.hid (G7.out.ext hxW)
        clear hw3 hxW hBc hBx hcx hc0 hfb
        gi_wp2_with fail
        have hseq : ∀ W1, Ext w3 W1 → DownSeq Fence.wide 7 Try.prog 77 #[.pointer (some ⟨W.heap.size + 1, 0, none⟩)] lk.length (fun k (x : Int) => #[.int .i64 k, .int .u32 x]) (RdBk (W.heap.size + 1) (.slice (some ⟨g, 0, none⟩) lk.length cap)) (w3.heap.size + 1) W1 :=
          fun W1 hx => back1_seq 7 (by omega) _ lk.length cap (W.heap.size + 1) _ W1 (by have := (KB.out.ext hx).cell 0; simpa using this) hlc hmost
        refine wpIn_range_down rfl (by omega) (gf := 77) (lb := #[.pointer (some ⟨W.heap.size + 1, 0, none⟩)]) rfl trivial (enters_of Try.func77 (by kernel_rfl) rfl) lk.length hseq (fun _ _ => rfl)
          (fun k W2 => HalI w3 lk g cap W.heap.size k W2)
          (fun c k W => False)
          (fun k A B h z => h.kz z (by omega) (by omega))
          (fun c k A B h z => h)
          ?hIr ?h0
          (HalAx w3 lk g cap W.heap.size w.heap.size) ?hAx ?hassign ?hbody ?hdone ?hstop
        case hIr =>
          rintro j W2 hj ⟨lj, e1, e2, e3, e4, e5, e6, e7⟩
          exact ⟨lj.getD j 0, by have := (KB.out.fr e7 (by omega)).cell 0; simpa using this, _, _, _, _, rfl, by rw [Nat.zero_add]; exact e5.getD (by omega) rfl⟩
        case h0 =>
          refine ⟨lk, rfl, G1.out, rfl, ?_, KR.out, ?_, Fr.ext (Ext.refl _)⟩
          · rw [List.drop_length]; rfl
          · rw [List.drop_length]; exact KC.out
        case hAx =>
          rintro j y a1 A B ⟨h1, h2, h3, h4, h5⟩ z
          exact ⟨h1, h2.kz z (by omega) (by omega), h3, by have := z.size; omega, h5⟩
        case hassign =>
          rintro ll j y W2 K hj h1 ⟨_, b, off, n1, cap1, e, h2⟩ hlt hK
          injection e with e en ec
          injection e with e
          injection e with e3 e4
          subst e3; subst e4
          clear en ec
          obtain ⟨lj, e1, e2, e3, e4, e5, e6, e7⟩ := h1
          have h3 := e5.getD (i := j) (by omega) rfl
          rw [Nat.zero_add] at h2
          rw [h3] at h2
          injection h2 with h2
          injection h2 with _ h2
          have h4 : y = lk.getD j 0 := by rw [← h2]; exact getD_take e3
          have HI : Hid (HalI w3 lk g cap W.heap.size (j + 1) W2) := Lib.hid ⟨lj, e1, e2, e3, e4, e5, e6, e7⟩
          have H4 := Lib.hid h4
          clear e1 e2 e3 e4 e5 e6 e7 h2 h3 h4
          gi_wp2
          refine hK _ _ (Ext.refl W2) ⟨hj, HI.out, H4.out, hlt, _, _, _, _, _, _, _, _, _, _, _, _, _, _, _, _, _, _, _, _, _, _, _, _, _, _, _, _, _, _, _, _, _, rfl⟩
        case hbody =>
          rintro ll j y a1 W2 hj ⟨_, ⟨lj, e1, e2, e3, e4, e5, e6, e7⟩, hy, hlt, t0, t2, t3, t4, t8, t9, t10, t11, t12, t13, t14, t15, t16, t17, t18, t19, t20, t21, t22, t23, t24, t25, t26, t27, t28, t29, t30, t31, t32, t33, t34, t35, t36, rfl⟩ _
          have hyl := getD_lim G1.out j
          rw [← hy] at hyl
          have hnd := nv_drop_succ lk j hj
          rw [← hy] at hnd
          have hor := half_or y (nv (lk.drop (j + 1))) hyl
          have hca := half_carry y hyl
          obtain ⟨hs1, hs2, hs3⟩ := half_step y.toNat (nv (lk.drop (j + 1))) (by omega)
          rw [← hnd] at hs1 hs2
          obtain ⟨c, hc⟩ : ∃ c : Int, c = ((nv (lk.drop (j + 1)) % 2 * 2147483648 : Nat) : Int) := ⟨_, rfl⟩
          rw [← hc] at hor e6
          obtain ⟨z, hz⟩ : ∃ z : Int, z = ((y.toNat / 2 + 2147483648 * (nv (lk.drop (j + 1)) % 2) : Nat) : Int) := ⟨_, rfl⟩
          rw [← hz] at hor
          rw [← hs2] at hca
          obtain ⟨c2, hc2⟩ : ∃ c2 : Int, c2 = ((nv (lk.drop j) % 2 * 2147483648 : Nat) : Int) := ⟨_, rfl⟩
          rw [← hc2] at hca
          have hH : Blk W2 w.heap.size #[.slice (some ⟨g, 0, none⟩) lk.length cap] 23 := KH.out.fr e7 (by omega)
          have r1 := hH.cell 0; have r2 := e6.cell 0; have r3 := e6.free 0; have r4 := e6.lt; have r5 := hH.lt; have r6 := e5.free j; have r7 := e5.lt
          simp only [List.getElem?_toArray, List.getElem?_cons_zero] at r1 r2
          obtain ⟨z9, hz9⟩ : ∃ z9, z9 = lj.getD j 0 := ⟨_, rfl⟩
          have r8 := e5.getD (i := j) (by rw [e1]; exact hj) hz9
          clear hz9
          have q1 : (0 : Int) ≤ (j : Int) := by omega
          have q2 : (j : Int) < (lk.length : Int) := by omega
          have E1 := Lib.hid e1; have E2 := Lib.hid e2; have E3 := Lib.hid e3; have E4 := Lib.hid e4; have E5 := Lib.hid e5; have E6 := Lib.hid e6; have E7 := Lib.hid e7
          have S1 := Lib.hid hs1; have S3 := Lib.hid hs3; have HZ2 := Lib.hid hz; have HC2 := Lib.hid hc2; have HOR := Lib.hid hor; have HCA := Lib.hid hca
          clear e1 e2 e3 e4 e5 e6 e7 hs1 hs2 hs3 hz hc hc2 hor hca hH hnd hy
          gi_wp2_with fail
          rw [HOR.out, HCA.out]
          have hfr : Fr (fun i => i = g ∨ i = W.heap.size) W2 ((W2.setCell ⟨g, j, none⟩ (.int .u32 z)).setCell ⟨W.heap.size, 0, none⟩ (.int .u32 c2)) := ((Fr.ext (Ext.refl W2)).set (.inl rfl) _).set (.inr rfl) _
          have hz0 : 0 ≤ z ∧ z < 4294967296 := by have := S3.out; have := HZ2.out; omega
          refine ⟨Kd.of_fr hfr hlt (by omega) (by omega), lj.set j z, (List.length_set).trans E1.out, lim_set E2.out _ hz0.1 hz0.2, take_set_eq z E3.out, ?_, ?_, ?_, ((E7.out.set (.inl rfl) _).set (.inr rfl) _)⟩
          · rw [drop_set_nv z (by rw [E1.out]; exact hj), E4.out, S1.out, HZ2.out, Int.toNat_natCast]
          · exact (E5.out.set j z (by rw [E1.out]; exact hj)).setOther (by dsimp only; omega) _
          · have := (E6.out.setOther (a := ⟨g, j, none⟩) (by dsimp only; omega) (.int .u32 z)).set 0 (.int .u32 c2)
            rw [HC2.out] at this ⊢
            simpa using this
        case hdone =>
          rintro W2 ⟨lj, e1, e2, e3, e4, e5, e6, e7⟩ hD
          rw [List.drop_zero, List.drop_zero] at e4
          have hH : Blk W2 w.heap.size #[.slice (some ⟨g, 0, none⟩) lk.length cap] 23 := KH.out.fr e7 (by omega)
          have r1 := hH.cell 0; have r3 := hH.lt; have r5 := hH.free 0; have r7 := e5.lt
          simp only [List.getElem?_toArray, List.getElem?_cons_zero] at r1
          have hcall := trim_row g cap lj W2 e5 e2
          rw [e1, e4] at hcall
          have hgr : Gr (some g) w W2 := Fr.gr (p := fun i => i = g ∨ i = W.heap.size) (G8.out.trans (Gr.of_ext KX.out)) e7 (fun i h1 h2 => h2.elim (fun h => congrArg some h.symm) (fun h => by omega))
          have hmk : Marks w.heap.size ds W2 := G9.out.fr (fun i h1 h2 => (e7.block i (by omega) (by omega)).trans (KX.out.block i h1))
          have EH := Lib.hid hH; have E7 := Lib.hid e7; have EG := Lib.hid hgr; have EM := Lib.hid hmk; have ED := Lib.hid hD; have EC := Lib.hid hcall
          clear e1 e2 e3 e4 e5 e6 e7 hH hgr hmk hD hcall
          gi_wp2_with fail
          refine ⟨trivial, (callsIn_wide.2 EC.out).mono ?_⟩
          rintro e W3 ⟨rfl, hrow3, hx3⟩
          have hH3 := EH.out.ext hx3
          have s1 := hH3.cell 0; have s2 := hH3.free 0; have s3 := hH3.lt
          have F3 := Lib.hid hrow3; have X3 := Lib.hid hx3; have H3 := Lib.hid hH3
          clear hrow3 hx3 hH3 r1 r3 r5
          gi_wp2_with fail
          have hpos : nv lk ≠ 0 := fun e => by have := (nv_zero_iff G1.out G2.out).1 e; omega
          have hev : nv lk % 2 = 0 := by have := GP.out; have := hO.out; omega
          have hnl : nv l ≠ 0 := by rw [G4.out]; exact Nat.mul_ne_zero hpos (Nat.pos_iff_ne_zero.1 (Nat.pow_pos (by omega)))
          have hm2 : Marks w.heap.size ds (W3.setCell ⟨w.heap.size, 0, none⟩ (.slice (some ⟨g, 0, none⟩) (lim (nv lk / 2)).length cap)) :=
            EM.out.fr (fun i h1 h2 => (Below.heap_setCell _ _ _ _ (by dsimp only; omega)).trans (X3.out.block i h1))
          have hd2 : (W3.setCell ⟨w.heap.size, 0, none⟩ (.slice (some ⟨g, 0, none⟩) (lim (nv lk / 2)).length cap)).heap[w3.heap.size]? = some (.deferred (some [])) :=
            (Below.heap_setCell _ _ _ _ (by dsimp only; omega)).trans ((X3.out.block _ (Array.getElem?_eq_some_iff.1 ED.out).1).trans ED.out)
          rw [hs3] at hd2
          refine ⟨nv (lim (nv lk / 2)), by rw [nv_lim]; omega, k + 1, lim (nv lk / 2), _, rfl, lim_lim _, lim_noZ _, ?_, ?_, fun e => absurd e hnl, F3.out.setOther (by dsimp only; omega) _, ?_, ?_, hm2.cons G9.out (by omega) (by omega) hd2, _, _, _, _, _, _, _, _, _, _, _, _, _, _, _, _, _, _, _, _, _, _, _, _, _, _, _, _, _, _, _, _, _, _, _, rfl⟩
          · have h1 := nv_lt G1.out
            exact Nat.le_trans (lim_len_le.2 (Nat.lt_of_le_of_lt (Nat.div_le_self _ _) h1)) G3.out
          · rw [nv_lim, G4.out, Nat.pow_succ, Nat.mul_comm (2 ^ k) 2, ← Nat.mul_assoc]
            rw [show nv lk / 2 * 2 = nv lk by omega]
          · have := H3.out.set 0 (.slice (some ⟨g, 0, none⟩) (lim (nv lk / 2)).length cap); simpa using this
          · exact (EG.out.trans (Gr.of_ext X3.out)).setNew (by dsimp only; omega) _
        case hstop =>
          rintro c j W2 hj h _
          exact h.elim
    · have hn0 : lk = [] := List.eq_nil_of_length_eq_zero (by omega)
      subst hn0
      clear h1 h2 h3 h4 h5 h6 h7 h8 h9
      gi_wp2_with fail
      refine G9.out.leaves (fun W' hb => ?_)
      have h0 : nv l = 0 := by rw [G4.out]; simp [nv]
      refine ⟨.tuple #[.slice (some ⟨g, 0, none⟩) 0 cap, .int .i64 k], by simp only [results, Try.results42]; go_simp, ⟨k, 0, by rw [h0]; simp, G5.out, fun e => absurd h0 e, ?_, ?_⟩, ?_⟩
      · rfl
      · obtain ⟨cur, hbk, hs', ht⟩ := G6.out.blk
        exact ⟨⟨cur, (hb.block g (by omega)).trans hbk, hs', ht⟩, G6.out.le, G6.out.most⟩
      · exact ⟨hb.os.trans G8.out.os, hb.tape.trans G8.out.tape, hb.output.trans G8.out.output, Nat.le_trans G8.out.size hb.size, fun i hi hn => (hb.block i (by omega)).trans (G8.out.block i hi hn)⟩

end Go.Proofs.Ytoicjiiifffciaa
