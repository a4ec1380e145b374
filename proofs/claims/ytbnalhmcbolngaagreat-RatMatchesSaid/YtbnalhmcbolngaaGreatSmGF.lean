/- Part of the proof of mat6_holds: what the row needs of GF. Conditions: as each theorem states. -/
import Derived.Test.YtbnalhmcbolngaaGreatSmGE
import Derived.Shelf.Strings.FuncGrows
namespace Go.Proofs.YtbnalhmcbolngaaGreat
set_option linter.unusedSimpArgs false
set_option linter.unusedVariables false
open Go.RowKit
theorem rdU_new (w : World) (l : List Int) (h : l.length ≤ 1000) : RdI .u32 (w.alloc (.cells (l.map (Value.int .u32)).toArray 134)) (.slice (some ⟨w.heap.size, 0, none⟩) l.length l.length) l :=
  (RowU.new w l (by omega)).rdI
theorem chk2_ok {l1 l2 : List Int} (h1 : l1.length ≤ 512) (z1 : NoZ l1) (h2 : l2.length ≤ 512) (z2 : NoZ l2) : chk2 l1 l2 = 0 := by
  unfold chk2 orE; rw [if_pos (chkE_ok h1 z1), chkE_ok h2 z2]
theorem lims (l : List Int) (h : l.all (fun x => decide (0 ≤ x) && decide (x < 4294967296)) = true) : Lim l := by
  intro x hx
  have := List.all_eq_true.1 h x hx
  simpa using this
end Go.Proofs.YtbnalhmcbolngaaGreat
namespace Go.Proofs.YtbnalhmcbolngaaGreat
set_option linter.unusedSimpArgs false
set_option linter.unusedVariables false
open Go.RowKit
end Go.Proofs.YtbnalhmcbolngaaGreat
namespace Go.Proofs.YtbnalhmcbolngaaGreat
set_option linter.unusedSimpArgs false
set_option linter.unusedVariables false
open Go.RowKit Go.Shelf
attribute [local go_sem] Oper.semAt_some
def intS (l : List Int) : Int × Int := if chkE l = 0 then (if 2 < l.length then (0, 7) else ((nv l : Int), 0)) else (0, chkE l)
theorem shl_or64 (r : Nat) (x : Int) (hr : r < 4294967296) (hx : 0 ≤ x ∧ x < 4294967296) : bits .or .u64 ((r : Int) * 4294967296) x = ((x.toNat + 4294967296 * r : Nat) : Int) := by
  obtain ⟨a, rfl⟩ := Int.eq_ofNat_of_zero_le hx.1
  rw [Int.toNat_natCast, show ((r : Int) * 4294967296) = ((r * 4294967296 : Nat) : Int) by omega, (bits_u64 (r * 4294967296) a (by omega) (by omega)).2.1]
  rw [or_add (r * 4294967296) a 32 (by omega) (by omega)]
  omega
def IntAx (w3 : World) (l : List Int) (H k : Nat) (x : Int) (a1 : Act) (W : World) : Prop :=
  k < l.length ∧ Blk W H #[.int .u64 (nv (l.drop (k + 1)))] 144 ∧ Fr (· = H) w3 W ∧ x = l.getD k 0 ∧ w3.heap.size + 1 < W.heap.size ∧ ∃ t0 t1 t3 t4 t5 t7 t8 t9 t10 t11 t12 t13 t14 t15 t16 t17 t18 t19 t20 t21 t22 t23 t24 t25 t26 : Value,
    a1 = { tmps := #[t0, t1, .pointer (some ⟨H, 0, none⟩), t3, t4, t5, .int .u32 x, t7, t8, t9, t10, t11, t12, t13, t14, t15, t16, t17, t18, t19, t20, t21, t22, t23, t24, t25, t26], defers := [] }
set_option maxRecDepth 100000 in
set_option maxHeartbeats 2000000 in
theorem int_any (v : Value) (l : List Int) (w : World) (h : RdI .u32 w v l) (hl : Lim l) :
    Calls Tryz.prog 133 #[v] w fun e w' => e = .returned (.tuple #[.int .u64 (intS l).1, .int .i64 (intS l).2]) ∧ Ext w w' := by
  have HR := Lib.hid h; have HL := Lib.hid hl
  obtain ⟨a, ca, rfl, hca, hma, hra⟩ := rdU h
  have HA := Lib.hid hra
  clear h hl hra
  have hbx : Blk (w.alloc (.cells #[.int .u64 0] 144)) w.heap.size #[.int .u64 0] 144 := Blk.new w _ _
  have GB := Lib.hid hbx; clear hbx
  have HX0 : Hid (Ext w (w.alloc (.cells #[.int .u64 0] 144))) := Lib.hid ((Ext.refl w).alloc _)
  by_cases hc : chkE l = 0
  · have HC := Lib.hid hc
    by_cases h2 : 2 < l.length
    · have E1 := Lib.hid (show intS l = (0, 7) by unfold intS; rw [if_pos hc, if_pos h2])
      have q1 : (2 : Int) < (l.length : Int) := by omega
      clear hc
      refine (callsIn_wide (n := 8)).1 ?_
      refine callsIn_of_wp_marks Tryz.func133 rfl trivial ?_ rfl
      simp only [Tryz.ntmps133, List.size_toArray, List.length_cons, List.length_nil, Nat.reduceAdd, Nat.reduceSub, Array.replicate_succ, Array.replicate_zero, List.push_toArray, List.append_toArray, List.nil_append, List.cons_append]
      gi_wp2_with fail
      refine ⟨trivial, (callsIn_wide.2 (check1_any _ l _ (HR.out.ext HX0.out))).mono ?_⟩
      rintro e w1 ⟨rfl, hx1⟩
      rw [HC.out]
      have hb := GB.out.ext hx1
      have c1 := hb.cell; have c2 := hb.free; have c3 := hb.lt
      have X1 := Lib.hid (HX0.out.trans hx1)
      clear hx1 hb
      gi_wp2_with fail
      refine ⟨.tuple #[.int .u64 0, .int .i64 7], by simp only [results, Tryz.results133]; go_simp, by rw [E1.out], X1.out.set (by dsimp only; omega) _⟩
    · have E1 := Lib.hid (show intS l = ((nv l : Int), 0) by unfold intS; rw [if_pos hc, if_neg h2])
      have q1 : ¬ (2 : Int) < (l.length : Int) := by omega
      clear hc
      refine (callsIn_wide (n := 8)).1 ?_
      refine callsIn_of_wp_marks Tryz.func133 rfl trivial ?_ rfl
      simp only [Tryz.ntmps133, List.size_toArray, List.length_cons, List.length_nil, Nat.reduceAdd, Nat.reduceSub, Array.replicate_succ, Array.replicate_zero, List.push_toArray, List.append_toArray, List.nil_append, List.cons_append]
      gi_wp2_with fail
      refine ⟨trivial, (callsIn_wide.2 (check1_any _ l _ (HR.out.ext HX0.out))).mono ?_⟩
      rintro e w1 ⟨rfl, hx1⟩
      rw [HC.out]
      have B1 := Lib.hid (GB.out.ext hx1)
      have X1 := Lib.hid (HX0.out.trans hx1)
      have hb1 := B1.out.lt
      clear hx1
      gi_wp2_with fail
      refine ⟨trivial, (callsIn_wide.2 (backward_any a l.length ca w1)).mono ?_⟩
      rintro e w3 ⟨rfl, hw3⟩
      have hx3 : Ext w1 w3 := by rw [hw3]; exact (Ext.refl w1).alloc _
      have hm3 : w1.heap.size < w3.heap.size := by rw [hw3]; simp
      have hBx : Blk w3 w1.heap.size #[.slice a l.length ca] 31 := by rw [hw3]; exact Blk.new w1 _ _
      have GX3 := Lib.hid (X1.out.trans hx3); have GB3 := Lib.hid (B1.out.ext hx3); have GK := Lib.hid hBx
      have hw0 := X1.out.size
      clear hw3 hx3 hBx
      gi_wp2_with fail
      have hseq : ∀ W1, Ext w3 W1 → DownSeq Fence.wide 7 Tryz.prog 189 #[.pointer (some ⟨w1.heap.size, 0, none⟩)] l.length (fun k (x : Int) => #[.int .i64 k, .int .u32 x]) (RdBk w1.heap.size (.slice a l.length ca)) (w3.heap.size + 1) W1 :=
        fun W1 hx => back1_seq 7 (by omega) a l.length ca w1.heap.size _ W1 (by have := (GK.out.ext hx).cell 0; simpa using this) hca hma
      have hrd : ∀ k, k < l.length → ∀ W, Fr (· = w.heap.size) w3 W → RdBk w1.heap.size (.slice a l.length ca) k W (l.getD k 0) := by
        intro k hk W hx
        obtain ⟨b, off, rfl, hb, hc⟩ := HA.out k hk
        refine ⟨by have := (GK.out.fr hx (by omega)).cell 0; simpa using this, b, off, _, _, rfl, ?_⟩
        rw [← hc, ← GX3.out.cell (p := ⟨b, off + k, none⟩) hb]
        exact World.cell?_of_block (hx.block b (by have := GX3.out.size; omega) (by omega))
      have hrd2 : ∀ k, k < l.length → ∀ W x, Fr (· = w.heap.size) w3 W → RdBk w1.heap.size (.slice a l.length ca) k W x → x = l.getD k 0 := by
        rintro k hk W x hx ⟨_, b, off, n, cap, e, hc⟩
        obtain ⟨_, b2, off2, n2, cap2, e2, hc2⟩ := hrd k hk W hx
        rw [e] at e2
        injection e2 with e2 _ _
        injection e2 with e2
        injection e2 with e3 e4
        subst e3; subst e4
        rw [hc] at hc2
        injection hc2 with hc2
        injection hc2
      refine wpIn_range_down rfl (by omega) (gf := 189) (lb := #[.pointer (some ⟨w1.heap.size, 0, none⟩)]) rfl trivial (enters_of Tryz.func189 (by kernel_rfl) rfl) l.length hseq (fun _ _ => rfl)
        (fun k W => Blk W w.heap.size #[.int .u64 (nv (l.drop k))] 144 ∧ Fr (· = w.heap.size) w3 W)
        (fun c k W => False)
        (fun k A B h z => ⟨h.1.kz z (by omega), h.2.kz z (Nat.le_refl _)⟩)
        (fun c k A B h z => h)
        (fun k W hk h => ⟨_, hrd k hk W h.2⟩)
        ⟨by rw [List.drop_length]; exact GB3.out, Fr.ext (Ext.refl _)⟩
        (IntAx w3 l w.heap.size) ?hAx ?hassign ?hbody ?hdone ?hstop
      case hAx =>
        rintro j y a1 A B ⟨h1, h2, h3, h4, h5, h6⟩ z
        exact ⟨h1, h2.kz z (by omega), h3.kz z (Nat.le_refl _), h4, by have := z.size; omega, h6⟩
      case hassign =>
        rintro ll j y W2 K hj ⟨h1, h2⟩ h3 hlt hK
        have H4 := Lib.hid (hrd2 j hj W2 y h2 h3); have H1 := Lib.hid h1; have H2 := Lib.hid h2
        clear h1 h2 h3
        gi_wp2
        refine hK _ _ (Ext.refl W2) ⟨hj, H1.out, H2.out, H4.out, hlt, _, _, _, _, _, _, _, _, _, _, _, _, _, _, _, _, _, _, _, _, _, _, _, _, _, rfl⟩
      case hbody =>
        rintro ll j y a1 W2 hj ⟨_, h1, h2, hy, hlt, t0, t1, t3, t4, t5, t7, t8, t9, t10, t11, t12, t13, t14, t15, t16, t17, t18, t19, t20, t21, t22, t23, t24, t25, t26, rfl⟩ _
        have hyl := getD_lim HL.out j
        rw [← hy] at hyl
        have hnd := nv_drop_succ l j hj
        rw [← hy] at hnd
        have hr : nv (l.drop (j + 1)) < 4294967296 := by
          have e1 := nv_lt (lim_drop HL.out (j + 1))
          have e2 : (l.drop (j + 1)).length ≤ 1 := by rw [List.length_drop]; omega
          have e3 := pow_le e2
          rw [Nat.pow_one] at e3
          omega
        have hor := shl_or64 _ y hr hyl
        rw [← hnd] at hor
        obtain ⟨r, hrr⟩ : ∃ r : Int, r = ((nv (l.drop (j + 1)) : Nat) : Int) := ⟨_, rfl⟩
        rw [← hrr] at h1 hor
        have hr0 : 0 ≤ r ∧ r < 4294967296 := by omega
        have r1 := h1.cell 0; have r2 := h1.free 0; have r3 := h1.lt
        simp only [List.getElem?_toArray, List.getElem?_cons_zero] at r1
        have H1 := Lib.hid h1; have H2 := Lib.hid h2; have HOR := Lib.hid hor
        clear h1 h2 hor hrr hnd hy hr
        gi_wp2_with fail
        rw [HOR.out]
        have hfr : Fr (· = w.heap.size) W2 (W2.setCell ⟨w.heap.size, 0, none⟩ (.int .u64 (nv (l.drop j)))) := (Fr.ext (Ext.refl W2)).set (p := (· = w.heap.size)) rfl _
        refine ⟨Kd.of_fr hfr hlt (by omega) (by omega), ?_, H2.out.set (p := (· = w.heap.size)) rfl _⟩
        have := H1.out.set 0 (.int .u64 (nv (l.drop j))); simpa using this
      case hdone =>
        rintro W2 ⟨h1, h2⟩ hD
        rw [List.drop_zero] at h1
        have r1 := h1.cell 0; have r2 := h1.free 0; have r3 := h1.lt
        simp only [List.getElem?_toArray, List.getElem?_cons_zero] at r1
        have H1 := Lib.hid h1; have H2 := Lib.hid h2; have HD := Lib.hid hD
        clear h1 h2 hD
        gi_wp2_with fail
        have p1 : Blk (W2.setCell ⟨w.heap.size, 0, none⟩ (.int .u64 (nv l))) w.heap.size #[.int .u64 (nv l)] 144 := by have := H1.out.set 0 (.int .u64 (nv l)); simpa using this
        have p5 : (W2.setCell ⟨w.heap.size, 0, none⟩ (.int .u64 (nv l))).heap[w3.heap.size]? = some (.deferred (some [])) := (Below.heap_setCell _ _ _ _ (by dsimp only; omega)).trans HD.out
        have p6 : Ext w W2 := ⟨H2.out.zero.os.trans GX3.out.os, H2.out.zero.tape.trans GX3.out.tape, H2.out.zero.output.trans GX3.out.output, Nat.le_trans GX3.out.size H2.out.zero.size, fun i hi => (H2.out.block i (by have := GX3.out.size; omega) (by omega)).trans (GX3.out.block i hi)⟩
        have p7 := p6.set (p := ⟨w.heap.size, 0, none⟩) (Nat.le_refl _) (.int .u64 (nv l))
        generalize W2.setCell ⟨w.heap.size, 0, none⟩ (.int .u64 (nv l)) = W7 at *
        have v1 := (p1.kz (Kz.put0 (m := w3.heap.size) _ (.deferred none)) (by omega)).cell 0
        simp only [List.getElem?_toArray, List.getElem?_cons_zero] at v1
        refine ⟨by simp, .inl ⟨_, _, rfl, run_takeDeferred p5, ?_⟩⟩
        refine ⟨.tuple #[.int .u64 (nv l), .int .i64 0], by (simp only [results, Tryz.results133]; go_simp), by rw [E1.out], p7.kz (Kz.put0 _ _) (by omega)⟩
      case hstop =>
        rintro c k W hk h _
        exact h.elim
  · have e1 : intS l = (0, chkE l) := by unfold intS; rw [if_neg hc]
    have hk := fun W h => check1_any (.slice a l.length ca) l W h
    obtain ⟨c, hcc⟩ : ∃ c, c = chkE l := ⟨_, rfl⟩
    rw [← hcc] at hc e1 hk
    have hcb : (c != 0) = true := by simpa using hc
    have HK := Lib.hid hk; have E1 := Lib.hid e1
    clear hc hcc hk e1
    refine (callsIn_wide (n := 8)).1 ?_
    refine callsIn_of_wp_marks Tryz.func133 rfl trivial ?_ rfl
    simp only [Tryz.ntmps133, List.size_toArray, List.length_cons, List.length_nil, Nat.reduceAdd, Nat.reduceSub, Array.replicate_succ, Array.replicate_zero, List.push_toArray, List.append_toArray, List.nil_append, List.cons_append]
    gi_wp2_with fail
    refine ⟨trivial, (callsIn_wide.2 (HK.out _ (HR.out.ext HX0.out))).mono ?_⟩
    rintro e w1 ⟨rfl, hx1⟩
    have hb := GB.out.ext hx1
    have c1 := hb.cell; have c2 := hb.free; have c3 := hb.lt
    have X1 := Lib.hid (HX0.out.trans hx1)
    clear hx1 hb
    gi_wp2_with fail
    refine ⟨.tuple #[.int .u64 0, .int .i64 c], by simp only [results, Tryz.results133]; go_simp, by rw [E1.out], X1.out.set (by dsimp only; omega) _⟩
end Go.Proofs.YtbnalhmcbolngaaGreat
namespace Go.Proofs.YtbnalhmcbolngaaGreat
set_option linter.unusedSimpArgs false
set_option linter.unusedVariables false
open Go.RowKit
def noDig (c : Int) : Bool := decide (c < 48) || decide (57 < c)
theorem parse1_any (c : Int) (w : World) : Calls Tryz.prog 183 #[.int .i32 c] w fun e w' => e = .returned (.bool (noDig c)) ∧ Ext w w' := by
  by_cases h : c < 48
  · have E := Lib.hid (show noDig c = true by unfold noDig; simp [h])
    go_enter Tryz.func183, Tryz.ntmps183
    go_wp2_with fail
    go_ret
    exact ⟨by rw [E.out]; rfl, Ext.refl w⟩
  · by_cases h2 : 57 < c
    · have E := Lib.hid (show noDig c = true by unfold noDig; simp [h2])
      go_enter Tryz.func183, Tryz.ntmps183
      go_wp2_with fail
      go_ret
      exact ⟨by rw [E.out]; rfl, Ext.refl w⟩
    · have E := Lib.hid (show noDig c = false by unfold noDig; simp [h, h2])
      go_enter Tryz.func183, Tryz.ntmps183
      go_wp2_with fail
      go_ret
      exact ⟨by rw [E.out]; rfl, Ext.refl w⟩
end Go.Proofs.YtbnalhmcbolngaaGreat
namespace Go.Proofs.YtbnalhmcbolngaaGreat
set_option linter.unusedSimpArgs false
set_option linter.unusedVariables false
def horR : List Nat → Nat
  | [] => 0
  | d :: l => d + 10 * horR l
theorem decR_lt : ∀ (n : Nat), ∀ d ∈ decR n, d < 10 := by
  intro n
  induction n using Nat.strongRecOn with
  | ind n ih =>
    by_cases h : n = 0
    · subst h; rw [decR_zero]; intro d hd; cases hd
    · rw [decR_pos h]
      intro d hd
      rcases List.mem_cons.1 hd with rfl | hd
      · omega
      · exact ih (n / 10) (by omega) d hd
theorem decR_horR : ∀ (l : List Nat), (∀ d ∈ l, d < 10) → l.getLast? ≠ some 0 → decR (horR l) = l := by
  intro l
  induction l with
  | nil => intro _ _; exact decR_zero
  | cons d l ih =>
    intro h1 h2
    have hd := h1 d (by simp)
    have hz : horR (d :: l) ≠ 0 := by
      show d + 10 * horR l ≠ 0
      cases l with
      | nil =>
        intro e
        apply h2
        have : d = 0 := by omega
        subst this; rfl
      | cons d2 l2 =>
        intro e
        have e2 : horR (d2 :: l2) = 0 := by omega
        have := ih (fun x hx => h1 x (List.mem_cons_of_mem _ hx)) (by simpa using h2)
        rw [e2, decR_zero] at this
        cases this
    rw [decR_pos hz, show horR (d :: l) % 10 = d by show (d + 10 * horR l) % 10 = d; omega, show horR (d :: l) / 10 = horR l by show (d + 10 * horR l) / 10 = horR l; omega]
    congr 1
    cases l with
    | nil => exact decR_zero
    | cons d2 l2 => exact ih (fun x hx => h1 x (List.mem_cons_of_mem _ hx)) (by simpa using h2)
theorem horR_foldl : ∀ (l : List Nat), l.reverse.foldl (fun n d => 10 * n + d) 0 = horR l := by
  intro l
  induction l with
  | nil => rfl
  | cons d l ih =>
    rw [List.reverse_cons, List.foldl_append, ih]
    show 10 * horR l + d = d + 10 * horR l
    omega
end Go.Proofs.YtbnalhmcbolngaaGreat
namespace Go.Proofs.YtbnalhmcbolngaaGreat
set_option linter.unusedSimpArgs false
set_option linter.unusedVariables false
open Go.RowKit Go.Shelf Go.Proofs
def nd (r : Nat) : Bool := noDig (r : Int)
theorem pred_nd (w : World) : PredGrows Tryz.prog 183 #[] nd w := fun W x _ _ => parse1_any (x : Int) W
set_option maxHeartbeats 2000000 in
set_option maxRecDepth 1000000 in
theorem indexFunc_any (s : ByteArray) (w : World) :
    Calls Tryz.prog 206 #[.string s, .func (.func 183) #[] #[], .bool true] w fun e w' => e = .returned (.int .i64 (Lib.idxFunc nd true s)) ∧ Ext w w' := by
  go_enter Tryz.func206, Tryz.ntmps206
  go_wp2
  go_loopg [] s.size (fun gf wx => ∃ pos : Nat, wx.heap[w.heap.size]? = some (.stringIter s pos) ∧ Below w.heap.size w wx ∧ Lib.idxFuncFrom nd true s gf pos = Lib.idxFunc nd true s ∧ s.size ≤ pos + gf)
  case atStart => exact ⟨0, World.iter_heap w s 0, (Below.refl _ w).alloc (Nat.le_refl _) _, rfl, by omega⟩
  case round =>
    obtain ⟨pos, hit, hbw, hleft, hfu⟩ := hrel
    by_cases hps : pos < s.size
    · obtain ⟨g', rfl⟩ : ∃ g', gk = g' + 1 := ⟨gk - 1, by omega⟩
      have hnx : ∀ ty, (Instr.next (.pointer (some ⟨w.heap.size, 0, none⟩)) true ty).run Tryz.prog wr = _ := fun ty => Lib.run_next_any_at wr w.heap.size s pos ty hit hps
      have hwd := Lib.width_pos s pos
      obtain ⟨R, hR⟩ : ∃ R, (Utf8.decode s pos).1 = R := ⟨_, rfl⟩
      obtain ⟨K, hK⟩ : ∃ K, (Utf8.decode s pos).2 = K := ⟨_, rfl⟩
      simp only [Lib.idxFuncFrom, hps, if_true, hR, hK] at hleft
      rw [hR, hK] at hnx
      rw [hK] at hwd
      have hit2 := Lib.iterAt_heap wr w.heap.size s pos (pos + K) hit
      have hbw2 := Lib.below_iterAt hbw (k := w.heap.size) (Nat.le_refl _) s (pos + K)
      obtain ⟨W, hWd⟩ : ∃ W, wr.iterAt w.heap.size s (pos + K) = W := ⟨_, rfl⟩
      rw [hWd] at hnx hit2 hbw2
      have hltW : w.heap.size < W.heap.size := (Array.getElem?_eq_some_iff.1 hit2).1
      have cS : Calls Tryz.prog 183 #[.int .i32 (R : Int)] W (fun e w' => e = .returned (.bool (nd R)) ∧ Below W.heap.size W w') := pred_nd w W R (by rw [← hR]; exact Lib.rune_le s pos) hbw2
      cases hsp : nd R <;> rw [hsp] at cS <;> simp only [hsp, if_true, Bool.false_eq_true, Bool.true_eq_false, if_false] at hleft
      · go_wp2_with fail
        refine cS.mono ?_
        rintro e W' ⟨rfl, hbc⟩
        go_wp2_with fail
        go_roundg g'
        case measure => omega
        case rel => exact ⟨pos + K, (hbc.block _ hltW).trans hit2, (hbw2.trans (hbc.mono hbw2.size)), hleft, by omega⟩
      · go_wp2_with fail
        refine cS.mono ?_
        rintro e W' ⟨rfl, hbc⟩
        go_wp2_with fail
        go_ret
        exact ⟨by rw [← hleft] <;> rfl, (hbw2.trans (hbc.mono hbw2.size))⟩
    · have hnx : ∀ ty, (Instr.next (.pointer (some ⟨w.heap.size, 0, none⟩)) true ty).run Tryz.prog wr = _ := fun ty => Lib.run_next_end_at wr w.heap.size s pos ty hit hps
      rw [Lib.idxFuncFrom_end nd true s gk pos hps] at hleft
      go_wp2
      go_ret
      exact ⟨by rw [← hleft] <;> rfl, hbw⟩
theorem indexFunc2_any (s : ByteArray) (w : World) :
    Calls Tryz.prog 195 #[.string s, .func (.func 183) #[] #[]] w fun e w' => e = .returned (.int .i64 (Lib.idxFunc nd true s)) ∧ Ext w w' := by
  have h := indexFunc_any s
  obtain ⟨I, hI⟩ : ∃ I, Lib.idxFunc nd true s = I := ⟨_, rfl⟩
  rw [hI] at h ⊢
  go_enter Tryz.func195, Tryz.ntmps195
  go_wp2_with fail
  refine (h _).mono ?_
  rintro e w1 ⟨rfl, hx1⟩
  go_wp2_with fail
  go_ret
  exact ⟨rfl, hx1⟩
theorem containsFunc_any (s : ByteArray) (w : World) :
    Calls Tryz.prog 182 #[.string s, .func (.func 183) #[] #[]] w fun e w' => e = .returned (.bool (decide (0 ≤ Lib.idxFunc nd true s))) ∧ Ext w w' := by
  have h := indexFunc2_any s
  obtain ⟨I, hI⟩ : ∃ I, Lib.idxFunc nd true s = I := ⟨_, rfl⟩
  rw [hI] at h ⊢
  go_enter Tryz.func182, Tryz.ntmps182
  go_wp2_with fail
  refine (h _).mono ?_
  rintro e w1 ⟨rfl, hx1⟩
  go_wp2_with fail
  go_ret
  exact ⟨rfl, hx1⟩
def byt (s : ByteArray) : List Nat := s.data.toList.map UInt8.toNat
theorem byt_len (s : ByteArray) : (byt s).length = s.size := by simp [byt]
theorem byt_get (s : ByteArray) (i : Nat) (h : i < s.size) : (byt s)[i]'(by rw [byt_len]; exact h) = (s[i]'h).toNat := by
  simp [byt]; rfl
def isDig (b : Nat) : Bool := decide (48 ≤ b) && decide (b ≤ 57)
theorem nd_of_dig {b : Nat} (h : isDig b = true) : nd b = false := by
  unfold isDig at h; unfold nd noDig
  simp at h ⊢
  omega
theorem nd_of_not {b : Nat} (h : isDig b = false) : nd b = true := by
  unfold isDig at h; unfold nd noDig
  simp at h ⊢
  omega
theorem idx_digits (s : ByteArray) : ∀ (f pos : Nat), s.size ≤ pos + f → (decide (0 ≤ Lib.idxFuncFrom nd true s f pos)) = !(((byt s).drop pos).all isDig) := by
  intro f
  induction f with
  | zero =>
    intro pos h
    rw [List.drop_of_length_le (by rw [byt_len]; omega)]
    rfl
  | succ f ih =>
    intro pos h
    by_cases hp : pos < s.size
    · have hd : (byt s).drop pos = (s[pos]'hp).toNat :: (byt s).drop (pos + 1) := by
        rw [List.drop_eq_getElem_cons (by rw [byt_len]; exact hp), byt_get s pos hp]
      unfold Lib.idxFuncFrom
      rw [if_pos hp, hd, List.all_cons]
      cases hb : isDig (s[pos]'hp).toNat with
      | true =>
        have hlt : (s[pos]'hp).toNat < 128 := by unfold isDig at hb; simp at hb; omega
        rw [decode_ascii s pos hp hlt]
        simp only [nd_of_dig hb, Bool.false_eq_true, if_false, Bool.true_and]
        exact ih (pos + 1) (by omega)
      | false =>
        have hn : nd (Utf8.decode s pos).1 = true := by
          rcases Nat.lt_or_ge (s[pos]'hp).toNat 128 with hlt | hge
          · rw [decode_ascii s pos hp hlt]; exact nd_of_not hb
          · have := (decode_high s pos hp hge).1
            exact nd_of_not (by unfold isDig; simp; omega)
        rw [hn, if_pos rfl]
        simp
    · rw [Lib.idxFuncFrom_end _ _ _ _ _ hp, List.drop_of_length_le (by rw [byt_len]; omega)]
      rfl
theorem idx_all (s : ByteArray) : decide (0 ≤ Lib.idxFunc nd true s) = !((byt s).all isDig) := by
  have := idx_digits s s.size 0 (by omega)
  rwa [List.drop_zero] at this
theorem containsDig_any (s : ByteArray) (w : World) :
    Calls Tryz.prog 182 #[.string s, .func (.func 183) #[] #[]] w fun e w' => e = .returned (.bool (!((byt s).all isDig))) ∧ Ext w w' := by
  have h := containsFunc_any s w
  rw [idx_all] at h
  exact h
def horF (l : List Nat) : Nat := l.foldl (fun n b => 10 * n + (b - 48)) 0
theorem horF_snoc (l : List Nat) (b : Nat) : horF (l ++ [b]) = 10 * horF l + (b - 48) := by unfold horF; rw [List.foldl_append]; rfl
theorem horF_le (l r : List Nat) : horF l ≤ horF (l ++ r) := by
  induction r generalizing l with
  | nil => rw [List.append_nil]; exact Nat.le_refl _
  | cons b r ih =>
    have h1 := ih (l ++ [b])
    rw [List.append_assoc] at h1
    rw [horF_snoc] at h1
    exact Nat.le_trans (by omega) h1
theorem horF_take_le (l : List Nat) (k : Nat) : horF (l.take k) ≤ horF l := by
  conv => rhs; rw [← List.take_append_drop k l]
  exact horF_le _ _
def badT (s : ByteArray) : Bool := decide (s.size = 0) || (decide ((byt s).head? = some 48) && decide (1 < s.size)) || !((byt s).all isDig)
def parseS (s : ByteArray) : List Int × Int := if 4096 < s.size then ([], 4) else if badT s = true then ([], 2) else fitL (horF (byt s))
end Go.Proofs.YtbnalhmcbolngaaGreat
namespace Go.Proofs.YtbnalhmcbolngaaGreat
set_option linter.unusedSimpArgs false
set_option linter.unusedVariables false
open Go.RowKit
theorem conv_bytes (s : ByteArray) (w : World) : ∃ cap w1, (convert 9 187 (.string s)).run Tryz.prog w = .ok (.slice (some ⟨w.heap.size, 0, none⟩) s.size cap) w1 ∧ Ext w w1 ∧ w1.heap.size = w.heap.size + 1 ∧
    ∀ i, i < s.size → w1.cell? ⟨w.heap.size, i, none⟩ = some (.int .u8 (((byt s).getD i 0 : Nat) : Int)) := by
  refine ⟨_, _, run_bytes_of_string w 9 187 5 s und9 und51 und5, ((Ext.refl w).drew).alloc _, by simp, fun i hi => ?_⟩
  have h1 := World.cell?_alloc_mark w.drew (bytesRow s (grownCap w s.size 0 5)) 5 ((bytesRow s (grownCap w s.size 0 5)).size, (bytesRow s (grownCap w s.size 0 5)).size + 1) i
  have h2 : w.drew.heap.size = w.heap.size := rfl
  rw [h2] at h1
  rw [h1, bytesRow_at s _ i hi]
  have h3 : (byt s).getD i 0 = (s.data[i]).toNat := by
    rw [List.getD_eq_getElem?_getD, List.getElem?_eq_getElem (by rw [byt_len]; exact hi)]
    simp [byt]
  rw [h3]
theorem ten_arith (P tk r q c x n m : Nat) (h : tk + P * c = 10 * m + n) (h4 : r + 4294967296 * q = c + 10 * x) : tk + P * r + P * (4294967296 * q) = 10 * (m + P * x) + n := by
  have h5 : P * r + P * (4294967296 * q) = P * (r + 4294967296 * q) := by rw [Nat.mul_add]
  rw [h4, Nat.mul_add] at h5
  have h6 : 10 * (P * x) = P * (10 * x) := by rw [Nat.mul_left_comm]
  rw [Nat.mul_add, h6]
  omega
theorem ten_div (c x : Int) (h0 : 0 ≤ c) (h1 : 0 ≤ x) : ((c + x * 10) % 4294967296).toNat + 4294967296 * ((c + x * 10) / 4294967296).toNat = c.toNat + 10 * x.toNat := by
  obtain ⟨a, rfl⟩ := Int.eq_ofNat_of_zero_le h0
  obtain ⟨b, rfl⟩ := Int.eq_ofNat_of_zero_le h1
  have e1 : ((a : Int) + b * 10) % 4294967296 = (((a + b * 10) % 4294967296 : Nat) : Int) := by omega
  have e2 : ((a : Int) + b * 10) / 4294967296 = (((a + b * 10) / 4294967296 : Nat) : Int) := by omega
  rw [e1, e2]
  simp only [Int.toNat_natCast]
  omega
theorem ten_step {lj l : List Int} {k : Nat} {c x : Int} {n : Nat} (hl : Lim l) (hlen : lj.length = l.length) (hk : k < l.length) (hx : x = l.getD k 0) (hc : 0 ≤ c ∧ c ≤ 9) (h : nv (lj.take k) + 4294967296 ^ k * c.toNat = 10 * nv (l.take k) + n) :
    nv ((lj.set k ((c + x * 10) % 4294967296)).take (k + 1)) + 4294967296 ^ (k + 1) * ((c + x * 10) / 4294967296).toNat = 10 * nv (l.take (k + 1)) + n := by
  have hxl := getD_lim hl k
  rw [← hx] at hxl
  have h4 := ten_div c x hc.1 hxl.1
  generalize ((c + x * 10) / 4294967296) = q at *
  generalize ((c + x * 10) % 4294967296) = r at *
  have h1 := nv_takeD (l := lj.set k r) (k := k) (by rw [List.length_set]; omega)
  have h2 : (lj.set k r).getD k 0 = r := by
    rw [List.getD_eq_getElem?_getD, List.getElem?_set_self (by omega), Option.getD_some]
  have h3 : (lj.set k r).take k = lj.take k := List.take_set_of_le (Nat.le_refl _)
  rw [h1, h2, h3, nv_takeD hk, ← hx, Nat.pow_succ, Nat.mul_assoc]
  exact ten_arith _ _ _ _ _ _ _ _ h h4
theorem noZ_ten {l lj : List Int} {d : Nat} (hl : Lim l) (hz : NoZ l) (hj : Lim lj) (hlen : lj.length = l.length) (h : nv lj = 10 * nv l + d) : NoZ lj := by
  by_cases h0 : l = []
  · subst h0
    rw [List.length_eq_zero_iff.1 hlen]; simp [NoZ]
  · refine noZ_of_ge hj ?_
    have := nv_ge hl hz h0
    rw [hlen]; omega
theorem good_text {s : ByteArray} (hb : badT s = false) : s.toList.isEmpty = false ∧ 0 < s.size ∧ (byt s).all isDig = true ∧ (∀ h : 0 < s.size, (s[0]'h).toNat = 48 → s.size ≤ 1) := by
  unfold badT at hb
  simp only [Bool.or_eq_false_iff, Bool.and_eq_false_iff, Bool.not_eq_false', decide_eq_false_iff_not] at hb
  obtain ⟨⟨h1, h2⟩, h3⟩ := hb
  have h0 : 0 < s.size := by omega
  refine ⟨?_, h0, h3, fun h e => ?_⟩
  · rw [ByteArray.toList_eq]
    have : s.data.toList.length = s.size := by simp
    cases hd : s.data.toList with
    | nil => rw [hd] at this; simp at this; omega
    | cons a t => rfl
  · rcases h2 with h2 | h2
    · exfalso; apply h2
      rw [List.head?_eq_getElem?, List.getElem?_eq_getElem (by rw [byt_len]; exact h0), byt_get s 0 h0, e]
    · omega
theorem OwB.row {w : World} {B : Nat} {a : Option Addr} {n c : Nat} {l : List Int} {j : Nat} (h : OwB w B (.slice a n c) l) (hj : j < l.length) : ∃ g, a = some ⟨g, 0, none⟩ ∧ n = l.length ∧ B ≤ g ∧ RowU w g c l := by
  obtain ⟨o, h1, h2⟩ := h
  rcases h1 with ⟨_, h0, a, ha, he⟩ | ⟨g, cap, ho, he, hr⟩
  · subst h0; simp at hj
  · injection he with e1 e2 e3
    subst e1; subst e2; subst e3
    exact ⟨g, rfl, rfl, h2 g ho, hr⟩
theorem dig_at {s : ByteArray} (h : (byt s).all isDig = true) {k : Nat} (hk : k < s.size) : ∃ d : Nat, d ≤ 9 ∧ (byt s).getD k 0 = 48 + d ∧ horF ((byt s).take (k + 1)) = 10 * horF ((byt s).take k) + d := by
  have hk' : k < (byt s).length := by rw [byt_len]; exact hk
  have h1 := List.all_eq_true.1 h _ (List.getElem_mem hk')
  unfold isDig at h1
  simp only [Bool.and_eq_true, decide_eq_true_eq] at h1
  refine ⟨(byt s)[k] - 48, by omega, ?_, ?_⟩
  · rw [List.getD_eq_getElem?_getD, List.getElem?_eq_getElem hk', Option.getD_some]; omega
  · rw [List.take_succ_eq_append_getElem hk', horF_snoc]
set_option maxHeartbeats 2000000 in
theorem parse_good (s : ByteArray) (w : World) (hsz : s.size ≤ 4096) (hb : badT s = false) :
    Calls Tryz.prog 159 #[.string s] w fun e w' => Res w w' e (fitL (horF (byt s))) ∧ Ext w w' := by
  obtain ⟨hs0, hp0, hall, h48⟩ := good_text hb
  have h48' := h48 hp0
  have hcall := containsDig_any s
  rw [hall] at hcall
  have HC := Lib.hid hcall; have HA := Lib.hid hall
  clear hcall hall hb h48
  by_cases hz : s[0].toNat = 48
  all_goals
    first
      | have hz1 := h48' hz
      | skip
    clear h48'
    go_enter Tryz.func159, Tryz.ntmps159
    go_wp2_with fail
    refine (HC.out _).mono ?_
    rintro e w1 ⟨rfl, hx1⟩
    obtain ⟨cap, w2, hcv, hx2, hs2, hcell⟩ := conv_bytes s w1
    have hX2 := hx1.trans hx2
    have X2 := Lib.hid hX2; have CE := Lib.hid hcell
    have hz12 := hX2.size
    have hs2' : w1.heap.size < w2.heap.size := by omega
    clear hs2
    clear hx1 hx2 hcell hX2
    go_wp2_with fail
    clear hcv
    go_loopw [2, 5, 6, 7, 8, 29] (fun v _ _ _ _ i wr => ∃ k : Nat, k ≤ s.size ∧ i = .int .i64 k ∧ (lim (horF ((byt s).take k))).length ≤ 512 ∧ OwB wr w2.heap.size v (lim (horF ((byt s).take k))) ∧ Below w2.heap.size w2 wr)
      (fun _ _ _ _ _ i _ => s.size - (intOf i).toNat)
    case atStart =>
      exact ⟨0, Nat.zero_le _, rfl, by simp [horF, lim_zero], by simpa [horF, lim_zero] using OwB.nil _ _, Below.refl _ _⟩
    case round =>
      obtain ⟨k, hk, rfl, hl5, how, hbw⟩ := hrel
      by_cases hlt : k < s.size
      · obtain ⟨d, hd9, hbk, hhor⟩ := dig_at HA.out hlt
        have hbyte := (hbw.cell (p := ⟨w1.heap.size, k, none⟩) (by dsimp only; omega)).trans (CE.out k hlt)
        rw [hbk] at hbyte
        have hbyte' : wr.cell? ⟨w1.heap.size, k, none⟩ = some (.int .u8 (48 + (d : Int))) := by rw [hbyte]; rfl
        have hLL : ∃ L, L = lim (horF ((byt s).take k)) := ⟨_, rfl⟩
        obtain ⟨L, hL⟩ := hLL
        have hLl : Lim L := by rw [hL]; exact lim_lim _
        have hLz : NoZ L := by rw [hL]; exact lim_noZ _
        have hLv : nv L = horF ((byt s).take k) := by rw [hL]; exact nv_lim _
        rw [← hL] at hl5 how
        rw [← hLv] at hhor
        obtain ⟨a, c0, rfl⟩ := how.shape
        have HO := Lib.hid how; have HB := Lib.hid hbw; have HH := Lib.hid hhor; have HL := Lib.hid hLl; have HZ := Lib.hid hLz
        have hszb := hbw.size
        clear how hbw hhor hLl hLz hLv hL hbyte hbk
        go_wp2_with fail
        go_loopw [6, 7, 8, 38] (fun cy _ _ i wq => ∃ (j : Nat) (c : Int) (lj : List Int), j ≤ L.length ∧ i = .int .i64 j ∧ cy = .int .u64 c ∧ 0 ≤ c ∧ c ≤ 9 ∧ lj.length = L.length ∧ Lim lj ∧ lj.drop j = L.drop j ∧
            nv (lj.take j) + 4294967296 ^ j * c.toNat = 10 * nv (L.take j) + d ∧ OwB wq w2.heap.size (.slice a L.length c0) lj ∧ Below w2.heap.size w2 wq)
          (fun _ _ _ i _ => L.length - (intOf i).toNat)
        case atStart =>
          exact ⟨0, (d : Int), L, Nat.zero_le _, rfl, by congr 1; omega, by omega, by omega, rfl, HL.out, rfl, by simp [nv], HO.out, HB.out⟩
        case round =>
          obtain ⟨j, c, lj, hj, rfl, rfl, cc0, cc9, e1, e2, ed, e3, e4, e5⟩ := hrel
          by_cases hjl : j < L.length
          · obtain ⟨g, rfl, hn, hBg, hrow⟩ := e4.row (j := j) (by omega)
            have hgk : lj.getD j 0 = L.getD j 0 := by
              have := congrArg (fun t => t.getD 0 0) ed
              simpa [List.getD_eq_getElem?_getD, List.getElem?_drop] using this
            have hxl := getD_lim HL.out j
            obtain ⟨y, hyy⟩ : ∃ y, y = L.getD j 0 := ⟨_, rfl⟩
            have hst := ten_step HL.out e1 hjl hyy ⟨cc0, cc9⟩ e3
            have hy' := hrow.getD (i := j) (by omega) (hyy.trans hgk.symm)
            rw [← hyy] at hxl
            have fy := hrow.free; have ly := hrow.lt
            have hdk : (lj.set j ((c + y * 10) % 4294967296)).drop (j + 1) = L.drop (j + 1) := by
              rw [List.drop_set_of_lt (by omega)]
              have := congrArg (List.drop 1) ed
              simpa [List.drop_drop, Nat.add_comm] using this
            obtain ⟨y0, y1⟩ := hxl
            have hq0 : 0 ≤ (c + y * 10) / 4294967296 := by omega
            have hq1 : (c + y * 10) / 4294967296 ≤ 9 := by omega
            have q1 : (0 : Int) ≤ (j : Int) := by omega
            have q2 : (j : Int) < (L.length : Int) := by omega
            have G1 := Lib.hid e1; have G2 := Lib.hid e2; have G5 := Lib.hid e5; have GS := Lib.hid hst; have GD := Lib.hid hdk; have GR := Lib.hid hrow
            clear e1 e2 e3 e4 e5 ed hst hyy hgk hdk hrow hn
            go_wp2_with fail
            go_roundw
            case rel =>
              refine ⟨j + 1, (c + y * 10) / 4294967296, lj.set j ((c + y * 10) % 4294967296), by omega, by go_num, rfl, hq0, hq1, (List.length_set).trans G1.out, lim_setMod G2.out _ _, GD.out, GS.out, ?_, ?_⟩
              · refine ⟨some g, ?_, fun g' h => by cases h; exact hBg⟩
                have := OwV.row (GR.out.set j ((c + y * 10) % 4294967296) (by have := G1.out; omega))
                rw [List.length_set, G1.out] at this
                exact this
              · exact G5.out.setCell (by dsimp only; omega) _
            case measure => simp [intOf]; omega
          · obtain rfl : j = L.length := by omega
            rw [List.take_length, ← e1, List.take_length, e1] at e3
            have hszq := e5.size
            by_cases hc0 : c = 0
            · subst hc0
              have ev : nv lj = 10 * nv L + d := by simpa using e3
              have ec := lim_nv e2 (noZ_ten HL.out HZ.out e2 e1 ev)
              rw [ev, ← HH.out] at ec
              have hll : lj.length ≤ 512 := by omega
              rw [← e1] at e4
              have G1 := Lib.hid e1; have G4 := Lib.hid e4; have GE := Lib.hid ec; have G5 := Lib.hid e5
              clear e1 e2 e3 e4 e5 ed ev ec
              go_wp2_with fail
              go_roundw
              case rel =>
                refine ⟨k + 1, by omega, by go_num, by rw [GE.out]; exact hll, ?_, G5.out⟩
                rw [GE.out, ← G1.out]; exact G4.out
              case measure => simp [intOf]; omega
            · have hcn : (c != 0) = true := by simpa using hc0
              have e2' : Lim (lj ++ [c]) := lim_snoc e2 (by omega) (by omega)
              have ev : nv (lj ++ [c]) = 10 * nv L + d := by rw [nv_snoc, e1]; exact e3
              have ec := lim_nv e2' (by simpa [NoZ] using hc0)
              rw [ev, ← HH.out] at ec
              have hown := e4.own
              rw [OwU, e1] at hown
              have hcm : c % 4294967296 = c := by omega
              have G1 := Lib.hid e1; have G4 := Lib.hid hown; have GE := Lib.hid ec; have G5 := Lib.hid e5
              clear e1 e2 e3 e4 e5 ed ev ec hown e2'
              go_wp2_with (at_builtin; (refine wpList_append_new wr rfl _ _ 31 rfl w2.heap.size 134 (.int .u32 0) 1 4 Tryz.underlying31 Tryz.infoU rfl (by decide) _ _ _ G4.out rfl [_] rfl (by simp [Value.oneCell']) rfl (by omega) (by omega) (by omega) ?_))
              intro g2 cap2 w5 hown5 hb5
              have O8 := Lib.hid hown5; have B8 := Lib.hid (G5.out.trans hb5); clear hown5 hb5
              by_cases h5 : (512 : Int) < (L.length : Int) + 1
              · have hbig : ¬ horF (byt s) < MAXN := fun h => by
                  have h1 := len_max.2 (Nat.lt_of_le_of_lt (horF_take_le (byt s) (k + 1)) h)
                  rw [GE.out, List.length_append, G1.out, List.length_singleton] at h1
                  omega
                have e1 := fitL_long hbig
                have E1 := Lib.hid e1; clear e1 hbig
                go_wp2_with fail
                go_ret2
                exact ⟨Res.mk (NewV.nil _ _) E1.out, X2.out.trans B8.out⟩
              · have h5' : (L.length : Int) + 1 ≤ 512 := by omega
                go_wp2_with fail
                go_roundw
                case rel =>
                  refine ⟨k + 1, by omega, by go_num, by rw [GE.out, List.length_append, G1.out, List.length_singleton]; omega, OwB.of ?_, B8.out⟩
                  have := O8.out
                  unfold OwU
                  rw [GE.out, List.length_append, G1.out, List.map_append]
                  exact this
                case measure => simp [intOf]; omega
      · obtain rfl : k = s.size := by omega
        rw [List.take_of_length_le (by rw [byt_len]; exact Nat.le_refl _)] at hl5 how
        have e1 := fitL_ok (len_max.1 hl5)
        have HO := Lib.hid how; have HB := Lib.hid hbw; have E1 := Lib.hid e1
        clear how hbw e1
        go_wp2_with fail
        go_ret2
        refine ⟨Res.mk ?_ E1.out, X2.out.trans HB.out⟩
        obtain ⟨o, h1, h2⟩ := HO.out
        exact ⟨o, h1, fun g hg => Nat.le_trans hz12 (h2 g hg)⟩
theorem parse_any (s : ByteArray) (w : World) :
    Calls Tryz.prog 159 #[.string s] w fun e w' => Res w w' e (parseS s) ∧ Ext w w' := by
  by_cases hsz : 4096 < s.size
  · have e1 : parseS s = ([], 4) := by unfold parseS; rw [if_pos hsz]
    have E1 := Lib.hid e1; clear e1
    go_enter Tryz.func159, Tryz.ntmps159
    go_wp2_with fail
    go_ret2
    exact ⟨Res.mk (NewV.nil _ _) E1.out, Ext.refl w⟩
  · cases hb : badT s with
    | false =>
      have e1 : parseS s = fitL (horF (byt s)) := by unfold parseS; rw [if_neg hsz, hb]; exact if_neg (by decide)
      rw [e1]
      exact parse_good s w (by omega) hb
    | true =>
      have e1 : parseS s = ([], 2) := by unfold parseS; rw [if_neg hsz, hb]; exact if_pos rfl
      have hcall := containsDig_any s
      have E1 := Lib.hid e1
      by_cases h0 : s.size = 0
      · have hs0 : s.toList.isEmpty = true := by
          rw [ByteArray.toList_eq]
          have : s.data.toList.length = s.size := by simp
          cases hd : s.data.toList with
          | nil => rfl
          | cons a t => rw [hd] at this; simp at this; omega
        clear hb e1 hcall
        go_enter Tryz.func159, Tryz.ntmps159
        go_wp2_with fail
        go_ret2
        exact ⟨Res.mk (NewV.nil _ _) E1.out, Ext.refl w⟩
      · have hs0 : s.toList.isEmpty = false := by
          rw [ByteArray.toList_eq]
          have : s.data.toList.length = s.size := by simp
          cases hd : s.data.toList with
          | nil => rw [hd] at this; simp at this; omega
          | cons a t => rfl
        have hp0 : 0 < s.size := by omega
        by_cases hq : s[0].toNat = 48 ∧ 1 < s.size
        · obtain ⟨hz, hz1⟩ := hq
          clear hb e1 hcall
          go_enter Tryz.func159, Tryz.ntmps159
          go_wp2_with fail
          go_ret2
          exact ⟨Res.mk (NewV.nil _ _) E1.out, Ext.refl w⟩
        · have hall : (byt s).all isDig = false := by
            unfold badT at hb
            simp only [Bool.or_eq_true, Bool.and_eq_true, Bool.not_eq_true', decide_eq_true_eq] at hb
            rcases hb with (h1 | ⟨h1, h2⟩) | h3
            · omega
            · exfalso
              rw [List.head?_eq_getElem?, List.getElem?_eq_getElem (by rw [byt_len]; exact hp0), byt_get s 0 hp0] at h1
              injection h1 with h1
              exact hq ⟨h1, h2⟩
            · exact h3
          rw [hall] at hcall
          have HC := Lib.hid hcall
          clear hb e1 hcall hall
          by_cases hz : s[0].toNat = 48
          all_goals
            first
              | have hz1 : ¬ 1 < s.size := fun h => hq ⟨hz, h⟩
              | skip
            clear hq
            go_enter Tryz.func159, Tryz.ntmps159
            go_wp2_with fail
            refine (HC.out _).mono ?_
            rintro e w1 ⟨rfl, hx1⟩
            have X1 := Lib.hid hx1; clear hx1
            go_wp2_with fail
            go_ret2
            exact ⟨Res.mk (NewV.nil _ _) E1.out, X1.out⟩
end Go.Proofs.YtbnalhmcbolngaaGreat
namespace Go.Proofs.YtbnalhmcbolngaaGreat
set_option linter.unusedSimpArgs false
set_option linter.unusedVariables false
theorem mulS_ok {l1 l2 : List Int} (h1 : l1.length ≤ 512) (z1 : NoZ l1) (h2 : l2.length ≤ 512) (z2 : NoZ l2) (hm : nv l1 * nv l2 < MAXN) : mulS l1 l2 = (lim (nv l1 * nv l2), 0) := by
  unfold mulS; rw [opS_ok (chk2_ok h1 z1 h2 z2), fitL_ok hm]
theorem addS_ok {l1 l2 : List Int} (h1 : l1.length ≤ 512) (z1 : NoZ l1) (h2 : l2.length ≤ 512) (z2 : NoZ l2) (hm : nv l1 + nv l2 < MAXN) : addS l1 l2 = (lim (nv l1 + nv l2), 0) := by
  unfold addS; rw [opS_ok (chk2_ok h1 z1 h2 z2), fitL_ok hm]
theorem divS_ok {l1 l2 : List Int} (h1 : l1.length ≤ 512) (z1 : NoZ l1) (h2 : l2.length ≤ 512) (z2 : NoZ l2) (h0 : nv l2 ≠ 0) : divS l1 l2 = (lim (nv l1 / nv l2), lim (nv l1 % nv l2), 0) := by
  unfold divS; rw [if_pos (chk2_ok h1 z1 h2 z2), if_neg h0]
theorem pow_max {n k : Nat} (h : n < 4294967296 ^ k) (hk : k ≤ 512) : n < MAXN := by unfold MAXN; exact Nat.lt_of_lt_of_le h (pow_le hk)
end Go.Proofs.YtbnalhmcbolngaaGreat
namespace Go.Proofs.YtbnalhmcbolngaaGreat
set_option linter.unusedSimpArgs false
set_option linter.unusedVariables false
theorem byt_inj {s t : ByteArray} (h : byt s = byt t) : s = t := by
  have h1 : s.data.toList = t.data.toList := by
    unfold byt at h
    exact (List.map_inj_right (fun x y => UInt8.toNat_inj.1)).1 h
  have h2 : s.data = t.data := by
    rw [← Array.toArray_toList (xs := s.data), h1, Array.toArray_toList]
  cases s; cases t; simp_all
theorem byt_strOf (L : List Nat) (h : ∀ d ∈ L, d < 10) : byt (strOfNums (L.map (fun d => ((48 + d : Nat) : Int)))) = L.map (fun d => 48 + d) := by
  unfold byt
  rw [strOfNums_data, List.map_map, List.map_map]
  apply List.map_congr_left
  intro d hd
  have := h d hd
  simp
  omega
theorem byt_decT {n : Nat} (h : n ≠ 0) : byt (decT n) = ((decR n).reverse).map (fun d => 48 + d) := by
  unfold decT
  rw [if_neg h, ← List.map_reverse, byt_strOf]
  intro d hd
  exact decR_lt n d (List.mem_reverse.1 hd)
theorem byt_dec0 : byt (decT 0) = [48] := rfl
theorem horF_map (L : List Nat) : horF (L.reverse.map (fun d => 48 + d)) = horR L := by
  unfold horF
  rw [List.foldl_map]
  have : (fun (x y : Nat) => 10 * x + (48 + y - 48)) = (fun n d => 10 * n + d) := by
    funext x y
    omega
  rw [this, horR_foldl]
theorem decT_size (n : Nat) : (decT n).size ≤ blen n + 1 := by
  rw [← byt_len]
  by_cases h : n = 0
  · subst h; rw [byt_dec0]; simp
  · rw [byt_decT h, List.length_map, List.length_reverse]
    have := decR_len n
    omega
theorem text_parse {s : ByteArray} (hb : badT s = false) : decT (horF (byt s)) = s := by
  unfold badT at hb
  simp only [Bool.or_eq_false_iff, Bool.and_eq_false_iff, Bool.not_eq_false', decide_eq_false_iff_not] at hb
  obtain ⟨⟨h1, h2⟩, h3⟩ := hb
  have hlen := byt_len s
  apply byt_inj
  have hd : ∀ b ∈ byt s, 48 ≤ b ∧ b ≤ 57 := by
    intro b hb
    have := List.all_eq_true.1 h3 b hb
    unfold isDig at this
    simpa using this
  obtain ⟨L, hL⟩ : ∃ L, L = ((byt s).map (fun b => b - 48)).reverse := ⟨_, rfl⟩
  have e1 : byt s = L.reverse.map (fun d => 48 + d) := by
    rw [hL, List.reverse_reverse, List.map_map]
    conv => lhs; rw [← List.map_id (byt s)]
    apply List.map_congr_left
    intro b hb
    have := hd b hb
    simp; omega
  have hLd : ∀ d ∈ L, d < 10 := by
    intro d hd'
    rw [hL] at hd'
    obtain ⟨b, hb, rfl⟩ := List.mem_map.1 (List.mem_reverse.1 hd')
    have := hd b hb
    omega
  have hLne : L ≠ [] := by
    intro e
    rw [e] at e1
    rw [e1] at hlen
    simp at hlen
    omega
  by_cases hz : L.getLast? = some 0
  · have hh : (byt s).head? = some 48 := by
      rw [e1, List.head?_map, List.head?_reverse, hz]; rfl
    have hs1 : s.size = 1 := by
      rcases h2 with h2 | h2
      · exact absurd hh h2
      · omega
    have hb1 : byt s = [48] := by
      match hq : byt s, hlen with
      | [], hl => rw [hs1] at hl; cases hl
      | [a], _ => rw [hq] at hh; simp at hh; rw [hh]
      | a :: b :: t, hl => rw [hs1] at hl; simp at hl
    rw [hb1]
    rfl
  · have h4 := decR_horR L hLd hz
    have h5 : horR L ≠ 0 := by
      intro e
      rw [e, decR_zero] at h4
      exact hLne h4.symm
    rw [e1, horF_map, byt_decT h5, h4]
theorem parse_cases (s : ByteArray) : (∃ n, n < MAXN ∧ parseS s = (lim n, 0) ∧ decT n = s) ∨ (∃ c, c ≠ 0 ∧ parseS s = ([], c)) := by
  unfold parseS
  by_cases h1 : 4096 < s.size
  · right; rw [if_pos h1]; exact ⟨4, by decide, rfl⟩
  · rw [if_neg h1]
    cases hb : badT s with
    | true => right; rw [if_pos rfl]; exact ⟨2, by decide, rfl⟩
    | false =>
      rw [if_neg (by decide)]
      by_cases h2 : horF (byt s) < MAXN
      · left; exact ⟨_, h2, fitL_ok h2, text_parse hb⟩
      · right; exact ⟨4, by decide, fitL_long h2⟩
end Go.Proofs.YtbnalhmcbolngaaGreat
