/- Walk of order of layer 5. Conditions: two numbers without leading zeros. -/
import Derived.Test.YtoicjiiifffciaaBack
import Derived.Test.YtoicjiiifffciaaBigF
import Derived.Test.YtoicjiiifffciaaBigO
namespace Go.Proofs.Ytoicjiiifffciaa
set_option linter.unusedSimpArgs false
set_option linter.unusedVariables false
open Go.RowKit Go.Shelf
attribute [local go_sem] Oper.semAt_some

theorem Ext.kz {w A B : World} (h : Ext w A) {m : Nat} (k : Kz m A B) (hm : w.heap.size ≤ m) : Ext w B :=
  ⟨k.zero.os.trans h.os, k.zero.tape.trans h.tape, k.zero.output.trans h.output, Nat.le_trans h.size k.size, fun i hi => (k.block i (Nat.lt_of_lt_of_le hi h.size) (.inl (by omega))).trans (h.block i hi)⟩
theorem Fr.kz {p : Nat → Prop} {w A B : World} (h : Fr p w A) {m : Nat} (k : Kz m A B) (hm : w.heap.size ≤ m) : Fr p w B :=
  ⟨h.zero.trans k.zero, fun i hi hn => (k.block i (Nat.lt_of_lt_of_le hi h.zero.size) (.inl (by omega))).trans (h.block i hi hn)⟩
theorem Ext.fr {p : Nat → Prop} {w A B : World} (h : Ext w A) (k : Fr p A B) (hp : ∀ i, i < w.heap.size → ¬ p i) : Ext w B :=
  ⟨k.zero.os.trans h.os, k.zero.tape.trans h.tape, k.zero.output.trans h.output, Nat.le_trans h.size k.zero.size, fun i hi => (k.block i (Nat.lt_of_lt_of_le hi h.size) (hp i hi)).trans (h.block i hi)⟩

/-- Before the body of a round of order. -/
def OrdAx (w3 : World) (H0 : Nat) (va : Value) (la lb : List Int) (Bx k : Nat) (x : Int) (a1 : Act) (W : World) : Prop :=
  k < la.length ∧ la.drop (k + 1) = lb.drop (k + 1) ∧ Ext w3 W ∧ RdBk Bx va k W x ∧ ∃ t0 t1 t2 t5 t8 t9 t10 t11 t12 t13 t14 t15 t16 t17 t18 t19 t20 t21 t22 t23 t24 t25 t26 t27 t28 t29 : Value,
    a1 = { tmps := #[t0, t1, t2, .pointer (some ⟨H0, 0, none⟩), .pointer (some ⟨H0 + 1, 0, none⟩), t5, .int .i64 k, .int .u32 x, t8, t9, t10, t11, t12, t13, t14, t15, t16, t17, t18, t19, t20, t21, t22, t23, t24, t25, t26, t27, t28, t29], defers := [] }

set_option maxRecDepth 100000 in
set_option maxHeartbeats 2000000 in
theorem order_any (va vb : Value) (la lb : List Int) (w : World) (ha : RdI .u32 w va la) (hb : RdI .u32 w vb lb) (hla : Lim la) (hlb : Lim lb) (za : NoZ la) (zb : NoZ lb) :
    Calls Try.prog 43 #[va, vb] w fun e w' => e = .returned (.int .i64 (cmpN (nv la) (nv lb))) ∧ Ext w w' := by
  obtain ⟨aa, ca, rfl, hca, hma, hra⟩ := rdU ha
  obtain ⟨ab, cb, rfl, hcb, hmb, hrb⟩ := rdU hb
  have HA := Lib.hid hra; have HB := Lib.hid hrb
  clear ha hb hra hrb
  have hbx : Blk ((w.alloc (.cells #[.slice ab lb.length cb] 23)).alloc (.cells #[.int .i64 0] 3)) w.heap.size #[.slice ab lb.length cb] 23 := (Blk.new w _ _).alloc _
  have hrs : Blk ((w.alloc (.cells #[.slice ab lb.length cb] 23)).alloc (.cells #[.int .i64 0] 3)) (w.heap.size + 1) #[.int .i64 0] 3 := by
    have := Blk.new (w.alloc (.cells #[.slice ab lb.length cb] 23)) #[.int .i64 0] 3
    rwa [World.size_alloc] at this
  have hx0 : Ext w ((w.alloc (.cells #[.slice ab lb.length cb] 23)).alloc (.cells #[.int .i64 0] 3)) := ((Ext.refl w).alloc _).alloc _
  have GX := Lib.hid hx0; have GB := Lib.hid hbx; have GR := Lib.hid hrs
  clear hx0 hbx hrs
  refine (callsIn_wide (n := 8)).1 ?_
  refine callsIn_of_wp_marks Try.func43 rfl trivial ?_ rfl
  simp only [Try.ntmps43, List.size_toArray, List.length_cons, List.length_nil, Nat.reduceAdd, Nat.reduceSub, Array.replicate_succ, Array.replicate_zero, List.push_toArray, List.append_toArray, List.nil_append, List.cons_append]
  gi_wp2_with fail
  refine ⟨trivial, (callsIn_wide.2 (cmpInt_any _ _ _)).mono ?_⟩
  rintro e w1 ⟨rfl, hx1⟩
  have GX1 := Lib.hid (GX.out.trans hx1); have GB1 := Lib.hid (GB.out.ext hx1); have GR1 := Lib.hid (GR.out.ext hx1)
  clear GX GB GR hx1
  rcases Int.lt_trichotomy (la.length : Int) (lb.length : Int) with hlt | heq | hgt
  · have e1 : sgn la.length lb.length = -1 := by unfold sgn; rw [if_pos hlt]
    have e2 := Lib.hid (cmpN_lt (can_lt_of_len hla hlb zb (by omega)))
    rw [e1]
    have c1 := GR1.out.cell; have f1 := GR1.out.free; have l1 := GR1.out.lt
    have HE := Lib.hid e1; clear e1
    gi_wp2_with fail
    refine ⟨.int .i64 (-1), ?_, by rw [e2.out], GX1.out.set (by dsimp only; omega) _⟩
    simp only [results, Try.results43]; go_simp
  · have heq' : la.length = lb.length := by omega
    have e1 : sgn la.length lb.length = 0 := by unfold sgn; rw [if_neg (by omega), if_neg (by omega)]
    rw [e1]
    have HQ := Lib.hid heq'
    clear e1 heq heq'
    gi_wp2_with fail
    refine ⟨trivial, (callsIn_wide.2 (backward_any aa la.length ca w1)).mono ?_⟩
    rintro e w3 ⟨rfl, hw3⟩
    have hx3 : Ext w1 w3 := by rw [hw3]; exact (Ext.refl w1).alloc _
    have hm3 : w1.heap.size < w3.heap.size := by rw [hw3]; simp
    have hBx : Blk w3 w1.heap.size #[.slice aa la.length ca] 23 := by rw [hw3]; exact Blk.new w1 _ _
    have GX3 := Lib.hid (GX1.out.trans hx3); have GB3 := Lib.hid (GB1.out.ext hx3); have GR3 := Lib.hid (GR1.out.ext hx3); have GK := Lib.hid hBx
    clear GX1 GB1 GR1 hw3 hx3 hBx
    have lR := GR3.out.lt; have lB := GB3.out.lt; have lx := GX3.out.size
    gi_wp2_with fail
    have hseq : ∀ W1, Ext w3 W1 → DownSeq Fence.wide 7 Try.prog 77 #[.pointer (some ⟨w1.heap.size, 0, none⟩)] la.length (fun k (x : Int) => #[.int .i64 k, .int .u32 x]) (RdBk w1.heap.size (.slice aa la.length ca)) (w3.heap.size + 1) W1 :=
      fun W1 hx => back1_seq 7 (by omega) aa la.length ca w1.heap.size _ W1 (by have := (GK.out.ext hx).cell 0; simpa using this) hca hma
    have hrd : ∀ k, k < la.length → ∀ W, Ext w3 W → RdBk w1.heap.size (.slice aa la.length ca) k W (la.getD k 0) := by
      intro k hk W hx
      obtain ⟨b, off, rfl, hb, hc⟩ := HA.out k hk
      exact ⟨by have := (GK.out.ext hx).cell 0; simpa using this, b, off, _, _, rfl, ((GX3.out.trans hx).cell (p := ⟨b, off + k, none⟩) hb).trans hc⟩
    have hrd2 : ∀ k, k < la.length → ∀ W x, Ext w3 W → RdBk w1.heap.size (.slice aa la.length ca) k W x → x = la.getD k 0 := by
      rintro k hk W x hx ⟨_, b, off, n, cap, e, hc⟩
      obtain ⟨_, b2, off2, n2, cap2, e2, hc2⟩ := hrd k hk W hx
      rw [e] at e2
      injection e2 with e2 _ _
      injection e2 with e2
      injection e2 with e3 e4
      subst e3; subst e4
      rw [hc] at hc2
      injection hc2 with hc2
      injection hc2
    refine wpIn_range_down rfl (by omega) (gf := 77) (lb := #[.pointer (some ⟨w1.heap.size, 0, none⟩)]) rfl trivial (enters_of Try.func77 (by kernel_rfl) rfl) la.length hseq (fun _ _ => rfl)
      (fun k W => la.drop k = lb.drop k ∧ Ext w3 W)
      (fun c k W => c = .ret ∧ cmpN (nv la) (nv lb) = sgn (la.getD k 0) (lb.getD k 0) ∧ Blk W (w.heap.size + 1) #[.int .i64 (sgn (la.getD k 0) (lb.getD k 0))] 3 ∧ Fr (· = w.heap.size + 1) w3 W)
      (fun k A B h z => ⟨h.1, h.2.kz z (Nat.le_refl _)⟩)
      (fun c k A B h z => ⟨h.1, h.2.1, h.2.2.1.kz z (by omega), h.2.2.2.kz z (Nat.le_refl _)⟩)
      (fun k W hk h => ⟨_, hrd k hk W h.2⟩)
      ⟨by rw [List.drop_length, List.drop_of_length_le (by have := HQ.out; omega)], Ext.refl _⟩
      (OrdAx w3 w.heap.size (.slice aa la.length ca) la lb w1.heap.size) ?hAx ?hassign ?hbody ?hdone ?hstop
    case hAx =>
      rintro k y a1 A B ⟨hkl, h1, h2, ⟨h3, b, off, n, cap, e, h4⟩, h5⟩ z
      have hk : w1.heap.size < w3.heap.size := by omega
      refine ⟨hkl, h1, h2.kz z (Nat.le_refl _), ?_, h5⟩
      injection e with e _ _
      subst e
      obtain ⟨b2, off2, e2, hb2, _⟩ := HA.out k hkl
      injection e2 with e2
      injection e2 with e3 e4
      subst e3; subst e4
      exact ⟨(z.cell (p := ⟨w1.heap.size, 0, none⟩) (by have := h2.size; dsimp only; omega) (.inl hk)).trans h3, _, _, _, _, rfl, (z.cell (p := ⟨b, off + k, none⟩) (by have := h2.size; dsimp only; omega) (.inl (by dsimp only; omega))).trans h4⟩
    case hassign =>
      rintro ll k y W K hk ⟨h1, h2⟩ h3 hlt hK
      gi_wp2
      refine hK _ _ (Ext.refl W) ⟨hk, h1, h2, h3, _, _, _, _, _, _, _, _, _, _, _, _, _, _, _, _, _, _, _, _, _, _, _, _, _, _, rfl⟩
    case hbody =>
      rintro ll k x a1 W hk ⟨_, h1, h2, h3, t0, t1, t2, t5, t8, t9, t10, t11, t12, t13, t14, t15, t16, t17, t18, t19, t20, t21, t22, t23, t24, t25, t26, t27, t28, t29, rfl⟩ hlt
      have hxx := hrd2 k hk W x h2 h3
      obtain ⟨b, off, rfl, hb, hcb1⟩ := HB.out k (by have := HQ.out; omega)
      have hcb2 := ((GX3.out.trans h2).cell (p := ⟨b, off + k, none⟩) hb).trans hcb1
      obtain ⟨y, hyy⟩ : ∃ y, y = lb.getD k 0 := ⟨_, rfl⟩
      rw [← hyy] at hcb2
      have cB := (GB3.out.ext h2).cell
      have q1 : (0 : Int) ≤ (k : Int) := by omega
      have q2 : (k : Int) < (lb.length : Int) := by have := HQ.out; omega
      have HD := Lib.hid h1; have H2 := Lib.hid h2; have HX := Lib.hid hxx; have HY := Lib.hid hyy
      clear h1 h2 h3 hxx hyy hcb1
      gi_wp2_with fail
      refine ⟨trivial, CallsIn.inRound ll ((callsIn_wide.2 (cmpU_any _ _ _)).mono ?_)⟩
      rintro e w4 ⟨rfl, hx4⟩
      have G2 := Lib.hid (H2.out.trans hx4)
      have R4 := GR3.out.ext G2.out
      have cR := R4.cell; have fR := R4.free; have lR4 := R4.lt
      have HR4 := Lib.hid R4
      have H4 := Lib.hid hx4
      clear R4 hx4
      rcases Int.lt_trichotomy x y with hc | hc | hc
      · have e : sgn x y = -1 := by unfold sgn; rw [if_pos hc]
        have ec := Lib.hid (cmpN_lt (nv_lt_of_drop hla hlb HQ.out hk HD.out (by rw [← HX.out, ← HY.out]; exact hc)))
        rw [e]
        have HE := Lib.hid e; clear e
        gi_wp2
        refine ⟨⟨by have := H4.out.size; simpa [World.setCell] using this, ?_, ?_⟩, rfl, ?_, ?_, Fr.set (p := (· = w.heap.size + 1)) (Fr.ext G2.out) (x := ⟨w.heap.size + 1, 0, none⟩) rfl _⟩
        · exact (Below.heap_setCell _ _ _ _ (by dsimp only; omega)).trans (H4.out.block _ (by omega))
        · exact (Below.heap_setCell _ _ _ _ (by dsimp only; omega)).trans (H4.out.block _ (by omega))
        · rw [ec.out, ← HX.out, ← HY.out, HE.out]
        · rw [← HX.out, ← HY.out, HE.out]; have := HR4.out.set 0 (.int .i64 (-1)); simpa using this
      · have e : sgn x y = 0 := by unfold sgn; rw [if_neg (by omega), if_neg (by omega)]
        have hdk := Lib.hid (drop_succ_eq HQ.out hk HD.out (by rw [← HX.out, ← HY.out]; exact hc))
        rw [e]
        clear hc e
        gi_wp2
        exact ⟨Kd.of_ext H4.out hlt, hdk.out, G2.out⟩
      · have e : sgn x y = 1 := by unfold sgn; rw [if_neg (by omega), if_pos hc]
        have ec := Lib.hid (cmpN_gt (nv_lt_of_drop hlb hla HQ.out.symm (by have := HQ.out; omega) HD.out.symm (by rw [← HX.out, ← HY.out]; exact hc)))
        rw [e]
        have HE := Lib.hid e; clear e
        gi_wp2
        refine ⟨⟨by have := H4.out.size; simpa [World.setCell] using this, ?_, ?_⟩, rfl, ?_, ?_, Fr.set (p := (· = w.heap.size + 1)) (Fr.ext G2.out) (x := ⟨w.heap.size + 1, 0, none⟩) rfl _⟩
        · exact (Below.heap_setCell _ _ _ _ (by dsimp only; omega)).trans (H4.out.block _ (by omega))
        · exact (Below.heap_setCell _ _ _ _ (by dsimp only; omega)).trans (H4.out.block _ (by omega))
        · rw [ec.out, ← HX.out, ← HY.out, HE.out]
        · rw [← HX.out, ← HY.out, HE.out]; have := HR4.out.set 0 (.int .i64 1); simpa using this
    case hdone =>
      rintro W ⟨h1, h2⟩ hD
      have R := GR3.out.ext h2
      have fR := R.free; have lW := R.lt; have cR := R.cell
      have HR := Lib.hid R; have H2 := Lib.hid h2
      have e2 := Lib.hid (show cmpN (nv la) (nv lb) = 0 by rw [List.drop_zero, List.drop_zero] at h1; rw [h1]; exact cmpN_eq _)
      have HD := Lib.hid hD
      clear R h1 h2 hD
      gi_wp2
      have hDW : (W.setCell ⟨w.heap.size + 1, 0, none⟩ (.int .i64 0)).heap[w3.heap.size]? = some (.deferred (some [])) := (Below.heap_setCell _ _ _ _ (by dsimp only; omega)).trans HD.out
      have hBW : Blk (W.setCell ⟨w.heap.size + 1, 0, none⟩ (.int .i64 0)) (w.heap.size + 1) #[.int .i64 0] 3 := by have := HR.out.set 0 (.int .i64 0); simpa using this
      have cV := (hBW.kz (Kz.put0 (m := w3.heap.size) _ (.deferred none)) (by omega)).cell
      refine ⟨by simp, .inl ⟨_, _, rfl, run_takeDeferred hDW, ?_⟩⟩
      refine ⟨.int .i64 0, by (simp only [results, Try.results43]; go_simp), by rw [e2.out], ?_⟩
      exact ((GX3.out.trans H2.out).set (by dsimp only; omega) _).kz (Kz.put0 _ _) (by omega)
    case hstop =>
      rintro c k W hk ⟨rfl, h1, h2, h3⟩ hD
      obtain ⟨z, hz⟩ : ∃ z, z = sgn (la.getD k 0) (lb.getD k 0) := ⟨_, rfl⟩
      rw [← hz] at h1 h2
      clear hz
      have cV := (h2.kz (Kz.put0 (m := w3.heap.size) _ (.deferred none)) (by omega)).cell
      have H1 := Lib.hid h1; have H3 := Lib.hid h3; have HD := Lib.hid hD
      clear h1 h2 h3 hD
      gi_wp2
      refine ⟨by simp, .inl ⟨_, _, rfl, run_takeDeferred HD.out, ?_⟩⟩
      refine ⟨.int .i64 z, by (simp only [results, Try.results43]; go_simp), by rw [H1.out], ?_⟩
      exact (GX3.out.fr H3.out (fun i hi e => by omega)).kz (Kz.put0 _ _) (by omega)
  · have e1 : sgn la.length lb.length = 1 := by unfold sgn; rw [if_neg (by omega), if_pos hgt]
    have e2 := Lib.hid (cmpN_gt (can_lt_of_len hlb hla za (by omega)))
    rw [e1]
    have c1 := GR1.out.cell; have f1 := GR1.out.free; have l1 := GR1.out.lt
    have HE := Lib.hid e1; clear e1
    gi_wp2_with fail
    refine ⟨.int .i64 1, ?_, by rw [e2.out], GX1.out.set (by dsimp only; omega) _⟩
    simp only [results, Try.results43]; go_simp

end Go.Proofs.Ytoicjiiifffciaa
