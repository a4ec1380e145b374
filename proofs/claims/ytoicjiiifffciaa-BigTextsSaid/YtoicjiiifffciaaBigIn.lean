/- Walk of Int of layer 5. Conditions: a slice of limbs. -/
import Derived.Test.YtoicjiiifffciaaBigBi
namespace Go.Proofs.Ytoicjiiifffciaa
set_option linter.unusedSimpArgs false
set_option linter.unusedVariables false
open Go.RowKit Go.Shelf
attribute [local go_sem] Oper.semAt_some

/-- What Int returns. -/
def intS (l : List Int) : Int × Int := if chkE l = 0 then (if 2 < l.length then (0, 7) else ((nv l : Int), 0)) else (0, chkE l)

theorem shl_or64 (r : Nat) (x : Int) (hr : r < 4294967296) (hx : 0 ≤ x ∧ x < 4294967296) : bits .or .u64 ((r : Int) * 4294967296) x = ((x.toNat + 4294967296 * r : Nat) : Int) := by
  obtain ⟨a, rfl⟩ := Int.eq_ofNat_of_zero_le hx.1
  rw [Int.toNat_natCast, show ((r : Int) * 4294967296) = ((r * 4294967296 : Nat) : Int) by omega, (bits_u64 (r * 4294967296) a (by omega) (by omega)).2.1]
  rw [or_add (r * 4294967296) a 32 (by omega) (by omega)]
  omega

def IntAx (w3 : World) (l : List Int) (H k : Nat) (x : Int) (a1 : Act) (W : World) : Prop :=
  k < l.length ∧ Blk W H #[.int .u64 (nv (l.drop (k + 1)))] 37 ∧ Fr (· = H) w3 W ∧ x = l.getD k 0 ∧ w3.heap.size + 1 < W.heap.size ∧ ∃ t0 t1 t3 t4 t5 t7 t8 t9 t10 t11 t12 t13 t14 t15 t16 t17 t18 t19 t20 t21 t22 t23 t24 t25 t26 : Value,
    a1 = { tmps := #[t0, t1, .pointer (some ⟨H, 0, none⟩), t3, t4, t5, .int .u32 x, t7, t8, t9, t10, t11, t12, t13, t14, t15, t16, t17, t18, t19, t20, t21, t22, t23, t24, t25, t26], defers := [] }

set_option maxRecDepth 100000 in
set_option maxHeartbeats 2000000 in
theorem int_any (v : Value) (l : List Int) (w : World) (h : RdI .u32 w v l) (hl : Lim l) :
    Calls Try.prog 36 #[v] w fun e w' => e = .returned (.tuple #[.int .u64 (intS l).1, .int .i64 (intS l).2]) ∧ Ext w w' := by
  have HR := Lib.hid h; have HL := Lib.hid hl
  obtain ⟨a, ca, rfl, hca, hma, hra⟩ := rdU h
  have HA := Lib.hid hra
  clear h hl hra
  have hbx : Blk (w.alloc (.cells #[.int .u64 0] 37)) w.heap.size #[.int .u64 0] 37 := Blk.new w _ _
  have GB := Lib.hid hbx; clear hbx
  have HX0 : Hid (Ext w (w.alloc (.cells #[.int .u64 0] 37))) := Lib.hid ((Ext.refl w).alloc _)
  by_cases hc : chkE l = 0
  · have HC := Lib.hid hc
    by_cases h2 : 2 < l.length
    · have E1 := Lib.hid (show intS l = (0, 7) by unfold intS; rw [if_pos hc, if_pos h2])
      have q1 : (2 : Int) < (l.length : Int) := by omega
      clear hc
      refine (callsIn_wide (n := 8)).1 ?_
      refine callsIn_of_wp_marks Try.func36 rfl trivial ?_ rfl
      simp only [Try.ntmps36, List.size_toArray, List.length_cons, List.length_nil, Nat.reduceAdd, Nat.reduceSub, Array.replicate_succ, Array.replicate_zero, List.push_toArray, List.append_toArray, List.nil_append, List.cons_append]
      gi_wp2_with fail
      refine ⟨trivial, (callsIn_wide.2 (check1_any _ l _ (HR.out.ext HX0.out))).mono ?_⟩
      rintro e w1 ⟨rfl, hx1⟩
      rw [HC.out]
      have hb := GB.out.ext hx1
      have c1 := hb.cell; have c2 := hb.free; have c3 := hb.lt
      have X1 := Lib.hid (HX0.out.trans hx1)
      clear hx1 hb
      gi_wp2_with fail
      refine ⟨.tuple #[.int .u64 0, .int .i64 7], by simp only [results, Try.results36]; go_simp, by rw [E1.out], X1.out.set (by dsimp only; omega) _⟩
    · have E1 := Lib.hid (show intS l = ((nv l : Int), 0) by unfold intS; rw [if_pos hc, if_neg h2])
      have q1 : ¬ (2 : Int) < (l.length : Int) := by omega
      clear hc
      refine (callsIn_wide (n := 8)).1 ?_
      refine callsIn_of_wp_marks Try.func36 rfl trivial ?_ rfl
      simp only [Try.ntmps36, List.size_toArray, List.length_cons, List.length_nil, Nat.reduceAdd, Nat.reduceSub, Array.replicate_succ, Array.replicate_zero, List.push_toArray, List.append_toArray, List.nil_append, List.cons_append]
      gi_wp2_with fail
      refine ⟨trivial, (callsIn_wide.2 (check1_any _ l _ (HR.out.ext HX0.out))).mono ?_⟩
      rintro e w1 ⟨rfl, hx1⟩
      rw [HC.out]
      have B1 := Lib.hid (GB.out.ext hx1)
      have X1 := Lib.hid (HX0.out.trans hx1)
      have hb1 := B1.out.lt
      clear hx1
      gi_wp2_with fail
      refine ⟨trivial, (callsIn_wide.2 (backward_any a l.length ca w1)).mono ?_⟩
      rintro e w3 ⟨rfl, hw3⟩
      have hx3 : Ext w1 w3 := by rw [hw3]; exact (Ext.refl w1).alloc _
      have hm3 : w1.heap.size < w3.heap.size := by rw [hw3]; simp
      have hBx : Blk w3 w1.heap.size #[.slice a l.length ca] 23 := by rw [hw3]; exact Blk.new w1 _ _
      have GX3 := Lib.hid (X1.out.trans hx3); have GB3 := Lib.hid (B1.out.ext hx3); have GK := Lib.hid hBx
      have hw0 := X1.out.size
      clear hw3 hx3 hBx
      gi_wp2_with fail
      have hseq : ∀ W1, Ext w3 W1 → DownSeq Fence.wide 7 Try.prog 77 #[.pointer (some ⟨w1.heap.size, 0, none⟩)] l.length (fun k (x : Int) => #[.int .i64 k, .int .u32 x]) (RdBk w1.heap.size (.slice a l.length ca)) (w3.heap.size + 1) W1 :=
        fun W1 hx => back1_seq 7 (by omega) a l.length ca w1.heap.size _ W1 (by have := (GK.out.ext hx).cell 0; simpa using this) hca hma
      have hrd : ∀ k, k < l.length → ∀ W, Fr (· = w.heap.size) w3 W → RdBk w1.heap.size (.slice a l.length ca) k W (l.getD k 0) := by
        intro k hk W hx
        obtain ⟨b, off, rfl, hb, hc⟩ := HA.out k hk
        refine ⟨by have := (GK.out.fr hx (by omega)).cell 0; simpa using this, b, off, _, _, rfl, ?_⟩
        rw [← hc, ← GX3.out.cell (p := ⟨b, off + k, none⟩) hb]
        exact World.cell?_of_block (hx.block b (by have := GX3.out.size; omega) (by omega))
      have hrd2 : ∀ k, k < l.length → ∀ W x, Fr (· = w.heap.size) w3 W → RdBk w1.heap.size (.slice a l.length ca) k W x → x = l.getD k 0 := by
        rintro k hk W x hx ⟨_, b, off, n, cap, e, hc⟩
        obtain ⟨_, b2, off2, n2, cap2, e2, hc2⟩ := hrd k hk W hx
        rw [e] at e2
        injection e2 with e2 _ _
        injection e2 with e2
        injection e2 with e3 e4
        subst e3; subst e4
        rw [hc] at hc2
        injection hc2 with hc2
        injection hc2
      refine wpIn_range_down rfl (by omega) (gf := 77) (lb := #[.pointer (some ⟨w1.heap.size, 0, none⟩)]) rfl trivial (enters_of Try.func77 (by kernel_rfl) rfl) l.length hseq (fun _ _ => rfl)
        (fun k W => Blk W w.heap.size #[.int .u64 (nv (l.drop k))] 37 ∧ Fr (· = w.heap.size) w3 W)
        (fun c k W => False)
        (fun k A B h z => ⟨h.1.kz z (by omega), h.2.kz z (Nat.le_refl _)⟩)
        (fun c k A B h z => h)
        (fun k W hk h => ⟨_, hrd k hk W h.2⟩)
        ⟨by rw [List.drop_length]; exact GB3.out, Fr.ext (Ext.refl _)⟩
        (IntAx w3 l w.heap.size) ?hAx ?hassign ?hbody ?hdone ?hstop
      case hAx =>
        rintro j y a1 A B ⟨h1, h2, h3, h4, h5, h6⟩ z
        exact ⟨h1, h2.kz z (by omega), h3.kz z (Nat.le_refl _), h4, by have := z.size; omega, h6⟩
      case hassign =>
        rintro ll j y W2 K hj ⟨h1, h2⟩ h3 hlt hK
        have H4 := Lib.hid (hrd2 j hj W2 y h2 h3); have H1 := Lib.hid h1; have H2 := Lib.hid h2
        clear h1 h2 h3
        gi_wp2
        refine hK _ _ (Ext.refl W2) ⟨hj, H1.out, H2.out, H4.out, hlt, _, _, _, _, _, _, _, _, _, _, _, _, _, _, _, _, _, _, _, _, _, _, _, _, _, rfl⟩
      case hbody =>
        rintro ll j y a1 W2 hj ⟨_, h1, h2, hy, hlt, t0, t1, t3, t4, t5, t7, t8, t9, t10, t11, t12, t13, t14, t15, t16, t17, t18, t19, t20, t21, t22, t23, t24, t25, t26, rfl⟩ _
        have hyl := getD_lim HL.out j
        rw [← hy] at hyl
        have hnd := nv_drop_succ l j hj
        rw [← hy] at hnd
        have hr : nv (l.drop (j + 1)) < 4294967296 := by
          have e1 := nv_lt (lim_drop HL.out (j + 1))
          have e2 : (l.drop (j + 1)).length ≤ 1 := by rw [List.length_drop]; omega
          have e3 := pow_le e2
          rw [Nat.pow_one] at e3
          omega
        have hor := shl_or64 _ y hr hyl
        rw [← hnd] at hor
        obtain ⟨r, hrr⟩ : ∃ r : Int, r = ((nv (l.drop (j + 1)) : Nat) : Int) := ⟨_, rfl⟩
        rw [← hrr] at h1 hor
        have hr0 : 0 ≤ r ∧ r < 4294967296 := by omega
        have r1 := h1.cell 0; have r2 := h1.free 0; have r3 := h1.lt
        simp only [List.getElem?_toArray, List.getElem?_cons_zero] at r1
        have H1 := Lib.hid h1; have H2 := Lib.hid h2; have HOR := Lib.hid hor
        clear h1 h2 hor hrr hnd hy hr
        gi_wp2_with fail
        rw [HOR.out]
        have hfr : Fr (· = w.heap.size) W2 (W2.setCell ⟨w.heap.size, 0, none⟩ (.int .u64 (nv (l.drop j)))) := (Fr.ext (Ext.refl W2)).set (p := (· = w.heap.size)) rfl _
        refine ⟨Kd.of_fr hfr hlt (by omega) (by omega), ?_, H2.out.set (p := (· = w.heap.size)) rfl _⟩
        have := H1.out.set 0 (.int .u64 (nv (l.drop j))); simpa using this
      case hdone =>
        rintro W2 ⟨h1, h2⟩ hD
        rw [List.drop_zero] at h1
        have r1 := h1.cell 0; have r2 := h1.free 0; have r3 := h1.lt
        simp only [List.getElem?_toArray, List.getElem?_cons_zero] at r1
        have H1 := Lib.hid h1; have H2 := Lib.hid h2; have HD := Lib.hid hD
        clear h1 h2 hD
        gi_wp2_with fail
        have p1 : Blk (W2.setCell ⟨w.heap.size, 0, none⟩ (.int .u64 (nv l))) w.heap.size #[.int .u64 (nv l)] 37 := by have := H1.out.set 0 (.int .u64 (nv l)); simpa using this
        have p5 : (W2.setCell ⟨w.heap.size, 0, none⟩ (.int .u64 (nv l))).heap[w3.heap.size]? = some (.deferred (some [])) := (Below.heap_setCell _ _ _ _ (by dsimp only; omega)).trans HD.out
        have p6 : Ext w W2 := ⟨H2.out.zero.os.trans GX3.out.os, H2.out.zero.tape.trans GX3.out.tape, H2.out.zero.output.trans GX3.out.output, Nat.le_trans GX3.out.size H2.out.zero.size, fun i hi => (H2.out.block i (by have := GX3.out.size; omega) (by omega)).trans (GX3.out.block i hi)⟩
        have p7 := p6.set (p := ⟨w.heap.size, 0, none⟩) (Nat.le_refl _) (.int .u64 (nv l))
        generalize W2.setCell ⟨w.heap.size, 0, none⟩ (.int .u64 (nv l)) = W7 at *
        have v1 := (p1.kz (Kz.put0 (m := w3.heap.size) _ (.deferred none)) (by omega)).cell 0
        simp only [List.getElem?_toArray, List.getElem?_cons_zero] at v1
        refine ⟨by simp, .inl ⟨_, _, rfl, run_takeDeferred p5, ?_⟩⟩
        refine ⟨.tuple #[.int .u64 (nv l), .int .i64 0], by (simp only [results, Try.results36]; go_simp), by rw [E1.out], p7.kz (Kz.put0 _ _) (by omega)⟩
      case hstop =>
        rintro c k W hk h _
        exact h.elim
  · have e1 : intS l = (0, chkE l) := by unfold intS; rw [if_neg hc]
    have hk := fun W h => check1_any (.slice a l.length ca) l W h
    obtain ⟨c, hcc⟩ : ∃ c, c = chkE l := ⟨_, rfl⟩
    rw [← hcc] at hc e1 hk
    have hcb : (c != 0) = true := by simpa using hc
    have HK := Lib.hid hk; have E1 := Lib.hid e1
    clear hc hcc hk e1
    refine (callsIn_wide (n := 8)).1 ?_
    refine callsIn_of_wp_marks Try.func36 rfl trivial ?_ rfl
    simp only [Try.ntmps36, List.size_toArray, List.length_cons, List.length_nil, Nat.reduceAdd, Nat.reduceSub, Array.replicate_succ, Array.replicate_zero, List.push_toArray, List.append_toArray, List.nil_append, List.cons_append]
    gi_wp2_with fail
    refine ⟨trivial, (callsIn_wide.2 (HK.out _ (HR.out.ext HX0.out))).mono ?_⟩
    rintro e w1 ⟨rfl, hx1⟩
    have hb := GB.out.ext hx1
    have c1 := hb.cell; have c2 := hb.free; have c3 := hb.lt
    have X1 := Lib.hid (HX0.out.trans hx1)
    clear hx1 hb
    gi_wp2_with fail
    refine ⟨.tuple #[.int .u64 0, .int .i64 c], by simp only [results, Try.results36]; go_simp, by rw [E1.out], X1.out.set (by dsimp only; omega) _⟩

end Go.Proofs.Ytoicjiiifffciaa
