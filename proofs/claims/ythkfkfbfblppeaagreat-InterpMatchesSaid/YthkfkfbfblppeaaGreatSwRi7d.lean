/- Part of the proof of imatL_holds: what the row needs of Ri7d. Conditions: as each theorem states. -/
import Derived.Test.YthkfkfbfblppeaaGreatSwRi7b
import Derived.Test.YthkfkfbfblppeaaGreatSwRi7c
import Derived.Test.YthkfkfbfblppeaaGreatSwRi7p
import Derived.Test.YthkfkfbfblppeaaGreatSwAppB
namespace Go.Proofs.YthkfkfbfblppeaaGreat
set_option linter.unusedSimpArgs false
set_option linter.unusedVariables false
open Go.RowKit
def rwJ (gb go gn gc : Nat) (ai : Option Addr) (cl ci : Nat) (pa : Option Addr) (pb po : Nat) (xa : Option Addr) (xc xb xo m pm : Nat) (xm xc2 : Int) (s t u : RR) (wq : World) (j : Nat) (v : Value) (W : World) : Prop :=
  match j with
  | 0 => ∃ s1 s2 s3 s4, v = .agg #[.bool s.neg, .slice s1 s.num.length s2, .slice s3 s.den.length s4] ∧ RdR W (.agg #[.bool s.neg, .slice s1 s.num.length s2, .slice s3 s.den.length s4]) s
  | 1 => v = .slice (some ⟨gb, go, none⟩) gn gc
  | 2 => v = .int .i64 m
  | 3 => v = .pointer (some ⟨gb, go + m, none⟩)
  | 4 => v = .slice ai cl ci
  | 5 => v = .slice pa gn gn
  | 6 => v = .int .i64 m
  | 7 => v = .pointer (some ⟨pb, po + m, none⟩)
  | 8 => v = .int .i64 pm
  | 9 => v = .slice (some ⟨gb, go, none⟩) gn gc
  | 10 => v = .int .i64 m
  | 11 => v = .pointer (some ⟨gb, go + m, none⟩)
  | 12 => v = .slice ai cl ci
  | 13 => v = .slice xa gn xc
  | 14 => v = .int .i64 m
  | 15 => v = .pointer (some ⟨xb, xo + m, none⟩)
  | 16 => v = .int .i64 xm
  | 17 => v = .int .i64 xc2
  | 18 => ∃ v', v = v' ∧ RdR W v' t
  | 19 => ∃ s1 s2 s3 s4, v = .agg #[.bool u.neg, .slice s1 u.num.length s2, .slice s3 u.den.length s4] ∧ NewR wq W (.agg #[.bool u.neg, .slice s1 u.num.length s2, .slice s3 u.den.length s4]) u
  | _ => True
theorem rwJ_ext {gb go gn gc : Nat} {ai : Option Addr} {cl ci : Nat} {pa : Option Addr} {pb po : Nat} {xa : Option Addr} {xc xb xo m pm : Nat} {xm xc2 : Int} {s t u : RR} {wq : World} {j : Nat} {v : Value} {W W' : World} (h : rwJ gb go gn gc ai cl ci pa pb po xa xc xb xo m pm xm xc2 s t u wq j v W) (x : Ext W W') : rwJ gb go gn gc ai cl ci pa pb po xa xc xb xo m pm xm xc2 s t u wq j v W' := by
  match j, h with
  | 0, ⟨s1, s2, s3, s4, h1, h2⟩ => exact ⟨s1, s2, s3, s4, h1, h2.ext x⟩
  | 1, h => exact h
  | 2, h => exact h
  | 3, h => exact h
  | 4, h => exact h
  | 5, h => exact h
  | 6, h => exact h
  | 7, h => exact h
  | 8, h => exact h
  | 9, h => exact h
  | 10, h => exact h
  | 11, h => exact h
  | 12, h => exact h
  | 13, h => exact h
  | 14, h => exact h
  | 15, h => exact h
  | 16, h => exact h
  | 17, h => exact h
  | 18, ⟨v9, h1, h2⟩ => exact ⟨v9, h1, h2.ext x⟩
  | 19, ⟨s1, s2, s3, s4, h1, h2⟩ => exact ⟨s1, s2, s3, s4, h1, h2.ext x⟩
  | _ + 20, _ => trivial
set_option maxRecDepth 100000 in
set_option maxHeartbeats 8000000 in
theorem refWeights7_any (gv xv : Value) (g : List (List Int)) (x : List Int) (w : World) (h : RdG w gv g) (hx : RdI .i64 w xv x) :
    Calls Tryz.prog 16 #[gv, xv] w fun e w' => ResW w w' e (weightsS g x) ∧ Ext w w' := by
  have HG := Lib.hid h; have HXI := Lib.hid hx; have X := Lib.hid (Ext.refl w)
  have HCK := Lib.hid (fun W (x : Ext w W) => refCheck7_any gv g W (h.ext x))
  obtain ⟨a, cap, rfl, hgl⟩ := h.shape
  obtain ⟨ax, cx, rfl, hxc, hxm, _⟩ := hx.get
  have hxl : x.length ≤ 9223372036854775807 := by omega
  clear h hx hxc hxm
  go_enter Tryz.func16, Tryz.ntmps16
  go_wp2_with fail
  refine (HCK.out _ X.out).mono ?_
  rintro e w1 ⟨rfl, hx⟩
  have X := Lib.hid (X.out.trans hx)
  clear hx
  by_cases h0 : gridE g = 0
  rotate_left
  · have E := Lib.hid (show weightsS g x = ([], gridE g) from if_neg h0)
    obtain ⟨c, hc⟩ : ∃ c, c = gridE g := ⟨_, rfl⟩
    rw [← hc] at E h0 ⊢
    have q1 : (c != 0) = true := by simpa using h0
    clear h0 hc
    go_wp2_with fail
    go_ret2
    exact ⟨ResW.mk (B := w.heap.size) (Nat.le_refl _) (OwRow.nil _ _ _ _ _) E.out, X.out⟩
  rw [h0]
  by_cases hl : x.length = g.length
  rotate_left
  · have E := Lib.hid (show weightsS g x = ([], 16) from (if_pos h0).trans (if_neg hl))
    have q1 : ((x.length : Int) != (g.length : Int)) = true := bne_iff_ne.2 (by omega)
    clear h0 hl
    go_wp2_with fail
    go_ret2
    exact ⟨ResW.mk (B := w.heap.size) (Nat.le_refl _) (OwRow.nil _ _ _ _ _) E.out, X.out⟩
  have E := Lib.hid (show weightsS g x = (vtsL g x (gsize g), 0) from by rw [vtsL_all]; exact (if_pos h0).trans (if_pos hl))
  have OK := Lib.hid (gridE_ok h0)
  have hsz := OK.out.size
  have hg4 := OK.out.le
  have HL := Lib.hid hl
  rw [hl]
  have q1 : ((g.length : Int) != (g.length : Int)) = false := by simp
  clear h0 hl
  go_wp2_with fail
  clear q1
  go_loopw [7, 8] (fun s i wr => ∃ k : Nat, k ≤ gsize g ∧ i = .int .i64 k ∧ OwS 107 w.heap.size wr s (vtsL g x k) ∧ Ext w wr) (fun _ i _ => gsize g - (intOf i).toNat)
  case atStart => exact ⟨0, Nat.zero_le _, rfl, OwRow.nil _ _ _ _ _, X.out⟩
  case round =>
    clear X
    obtain ⟨wk, hwk⟩ : ∃ W, W = wr := ⟨_, rfl⟩
    subst hwk
    obtain ⟨k, hk, rfl, hown, hext⟩ := hrel
    have X := Lib.hid hext; have HO := Lib.hid hown
    clear hext
    obtain ⟨oa, oc, rfl⟩ := hown.shape
    clear hown
    go_wp2_with fail
    refine (refCount7_any _ g _ (HG.out.ext X.out) OK.out.shrt).mono ?_
    rintro e w21 ⟨rfl, hx⟩
    have HO := Lib.hid (OwS.ext' HO.out hx); have X := Lib.hid (X.out.trans hx)
    clear hx
    by_cases hlt : k < gsize g
    · have q1 : (k : Int) < (gsize g : Int) := by omega
      have q2 : (0 : Int) ≤ (k : Int) := by omega
      go_wp2_with fail
      refine (refPlace7_any _ g k _ (HG.out.ext X.out) OK.out hlt).mono ?_
      rintro e w22 ⟨⟨v, rfl, nn⟩, hx⟩
      have HO := Lib.hid (OwS.ext' HO.out hx); have X := Lib.hid (X.out.trans hx)
      obtain ⟨pa, rfl⟩ := nn.shape
      have PT := Lib.hid nn.rd
      clear nn hx
      rw [plK_len] at PT ⊢
      go_wp2_with fail
      refine (refFromR_any 1 _ (by decide) (by decide)).mono ?_
      rintro e w5 ⟨⟨v, rfl, nn⟩, hx⟩
      obtain ⟨s1, s2, s3, s4, rfl⟩ := nn.shape
      have NY := Lib.hid (nn.from X.out)
      have HO := Lib.hid (OwS.ext' HO.out hx); have PT := Lib.hid (PT.out.ext hx); have X := Lib.hid (X.out.trans hx)
      clear nn hx
      obtain ⟨r, hr⟩ : ∃ r, r = wK g x k 0 := ⟨_, rfl⟩
      rw [show rep ((1 : Int) : Rat) = r from hr.symm] at NY ⊢
      have HR0 := Lib.hid hr
      clear hr
      go_wp2_with fail
      have hb := Blk.new w5 #[.bool r.neg, .slice s1 r.num.length s2, .slice s3 r.den.length s4] 62
      have hx : Ext w5 (w5.alloc (.cells #[.bool r.neg, .slice s1 r.num.length s2, .slice s3 r.den.length s4] 62)) := (Ext.refl _).alloc _
      obtain ⟨wl, hwl⟩ : ∃ W, W = w5.alloc (.cells #[.bool r.neg, .slice s1 r.num.length s2, .slice s3 r.den.length s4] 62) := ⟨_, rfl⟩
      rw [← hwl] at hb hx ⊢
      obtain ⟨wn, hwn⟩ : ∃ n, n = w5.heap.size := ⟨_, rfl⟩
      rw [← hwn] at hb ⊢
      have HN : Hid (w.heap.size ≤ wn) := Lib.hid (by have := X.out.size; omega)
      have hny := NY.out.ext hx
      rw [HR0.out] at hny hb
      have HO := Lib.hid (OwS.ext' HO.out hx); have PT := Lib.hid (PT.out.ext hx); have X := Lib.hid (X.out.trans hx)
      have HB := Lib.hid hb; have NY := Lib.hid hny
      clear hb hny hx hwl hwn q1 q2
      go_loopw [11] (fun i wq => ∃ m : Nat, m ≤ g.length ∧ i = .int .i64 m ∧ (∃ s1 s2 s3 s4, Blk wq wn #[.bool (wK g x k m).neg, .slice s1 (wK g x k m).num.length s2, .slice s3 (wK g x k m).den.length s4] 62 ∧ NewR w wq (.agg #[.bool (wK g x k m).neg, .slice s1 (wK g x k m).num.length s2, .slice s3 (wK g x k m).den.length s4]) (wK g x k m)) ∧ OwS 107 w.heap.size wq (.slice oa (vtsL g x k).length oc) (vtsL g x k) ∧ RdI .i64 wq (.slice pa g.length g.length) (plK g k 0) ∧ Ext w wq) (fun i _ => g.length - (intOf i).toNat)
      case atStart => exact ⟨0, Nat.zero_le _, rfl, ⟨_, _, _, _, HB.out, NY.out⟩, HO.out, PT.out, X.out⟩
      case round =>
        clear HB NY HO PT X
        obtain ⟨wi, hwi⟩ : ∃ W, W = wr := ⟨_, rfl⟩
        subst hwi
        obtain ⟨m, hm, rfl, ⟨s1, s2, s3, s4, hb, hny⟩, hown, hpt, hext⟩ := hrel
        have X := Lib.hid hext; have HO := Lib.hid hown; have PT := Lib.hid hpt; have HB := Lib.hid hb; have NY := Lib.hid hny
        clear hext hown hpt hb hny
        by_cases hlm : m < g.length
        · obtain ⟨gb, go, ai, ci, rfl, gl, g0, grd⟩ := HG.out.at hlm
          obtain ⟨_, _, e1, -, -, hxt⟩ := (show RdI .i64 w _ x from HXI.out).get
          injection e1 with e0 e4 e5
          subst e0
          clear e4 e5
          obtain ⟨xb, xo, rfl, hxb, x0⟩ := hxt m (by have := HL.out; omega)
          obtain ⟨_, _, e1, -, -, hpl⟩ := (show RdI .i64 wi _ (plK g k 0) from PT.out).get
          injection e1 with e0 e4 e5
          subst e0
          clear e4 e5
          obtain ⟨pb, po, rfl, hpb, p0⟩ := hpl m (by rw [plK_len]; exact hlm)
          rw [show (plK g k 0).getD m 0 = (plc g k m : Int) from by simp [plK, hlm]] at p0
          have ha := OK.out.ax m hlm
          have hpc := plc_lt (pos_of OK.out) hlm k
          have hxs := xs_bd OK.out x hlm
          have hl1 := lenR_bd (wpr_bd OK.out x k m (by omega)) (by omega)
          have hl2 := lenR_bd (wt_bd ha.2.2.2 ha.2.2.1 hxs.1 hxs.2 hpc) (by omega)
          have HPR : Hid (∀ W v1 v2, RdR W v1 (wK g x k m) → RdR W v2 (wtK g x k m) → Calls Tryz.prog 67 #[v1, v2] W fun e w' => (∃ v, e = .returned v ∧ NewR W w' v (wK g x k (m + 1))) ∧ Ext W w') := Lib.hid fun W v1 v2 h1 h2 => refProduct6_any v1 v2 (wpr g (xsOf g x) (plc g k) m) (wt (g.getD m []) (xsOf g x m) (plc g k m)) W h1 h2 hl1 hl2
          have HWT : Hid (∀ W v, RdI .i64 W v (g.getD m []) → Calls Tryz.prog 68 #[v, .int .i64 (plc g k m : Nat), .int .i64 (xsOf g x m)] W fun e w' => (∃ v, e = .returned v ∧ NewR W w' v (wtK g x k m)) ∧ Ext W w') := Lib.hid fun W v h => refWeight7_any v (g.getD m []) (plc g k m) (xsOf g x m) W h hpc ha.2.1 ha.2.2.1 ha.2.2.2 hxs.1 hxs.2
          have HCL : Hid (∀ W v, RdI .i64 W v (g.getD m []) → Calls Tryz.prog 69 #[v, .int .i64 (x.getD m 0)] W fun e w' => e = .returned (.int .i64 (xsOf g x m)) ∧ Ext W w') := Lib.hid fun W v h => refClamp7_any v (g.getD m []) (x.getD m 0) W h ha.1 (by omega)
          obtain ⟨s, hs⟩ : ∃ s, s = wK g x k m := ⟨_, rfl⟩
          obtain ⟨u, hu⟩ : ∃ s, s = wK g x k (m + 1) := ⟨_, rfl⟩
          obtain ⟨t, ht⟩ : ∃ s, s = wtK g x k m := ⟨_, rfl⟩
          obtain ⟨c, hc⟩ : ∃ c, c = g.getD m [] := ⟨_, rfl⟩
          obtain ⟨xm, hxm⟩ : ∃ z, z = x.getD m 0 := ⟨_, rfl⟩
          obtain ⟨pm, hpm⟩ : ∃ z, z = plc g k m := ⟨_, rfl⟩
          obtain ⟨xc2, hxc2⟩ : ∃ z, z = xsOf g x m := ⟨_, rfl⟩
          rw [← hu, ← ht, ← hs] at HPR
          rw [← ht, ← hc, ← hpm, ← hxc2] at HWT
          rw [← hc, ← hxm, ← hxc2] at HCL
          rw [← hs] at HB NY
          rw [← hc] at g0 grd
          rw [← hxm] at x0
          rw [← hpm] at p0
          have HU := Lib.hid hu; have GRD := Lib.hid grd
          have ZG : Hid (gb < w.heap.size ∧ w.cell? ⟨gb, go + m, none⟩ = some (.slice ai c.length ci)) := Lib.hid ⟨gl, g0⟩
          have ZX : Hid (xb < w.heap.size ∧ w.cell? ⟨xb, xo + m, none⟩ = some (.int .i64 xm)) := Lib.hid ⟨hxb, x0⟩
          have ZP : Hid (pb < wi.heap.size ∧ wi.cell? ⟨pb, po + m, none⟩ = some (.int .i64 (pm : Nat))) := Lib.hid ⟨hpb, p0⟩
          clear gl g0 grd hxb x0 hpb p0 ha hpc hxs hl1 hl2 hs hu ht hc hxm hpm hxc2 hxt hpl
          have q1 : (m : Int) < (g.length : Int) := by omega
          have q2 : (0 : Int) ≤ (m : Int) := by omega
          go_wp2_with fail
          refine wp_region_each_tail 20 (rwJ gb go g.length cap ai c.length ci (some ⟨pb, po, none⟩) pb po (some ⟨xb, xo, none⟩) cx xb xo m pm xm xc2 s t u w) (by kernel_rfl) (by kernel_rfl) (by kernel_rfl) (fun _ _ _ _ h x => rwJ_ext h x) ?_ ?_
          · refine ⟨?_, ?_, ?_, ?_, ?_, ?_, ?_, ?_, ?_, ?_, ?_, ?_, ?_, ?_, ?_, ?_, ?_, ?_, ?_, ?_, trivial⟩
            · intro a W hW hB hD K hK
              have b10 := hB 10 rfl
              simp only [Array.getD_eq_getD_getElem?, List.getElem?_toArray, List.getElem?_cons_succ, List.getElem?_cons_zero, Option.getD_some] at b10
              have q9 := (HB.out.ext hW).cell; have l9 := (HB.out.ext hW).lt
              go_simp
              exact hK _ _ (Ext.refl _) ⟨_, _, _, _, rfl, NY.out.rd.ext hW⟩
            · intro a W hW hB hD K hK
              have b0 := hB 0 rfl
              simp only [Array.getD_eq_getD_getElem?, List.getElem?_toArray, List.getElem?_cons_succ, List.getElem?_cons_zero, Option.getD_some] at b0
              go_simp
              exact hK _ _ (Ext.refl _) rfl
            · intro a W hW hB hD K hK
              have b11 := hB 11 rfl
              simp only [Array.getD_eq_getD_getElem?, List.getElem?_toArray, List.getElem?_cons_succ, List.getElem?_cons_zero, Option.getD_some] at b11
              go_simp
              exact hK _ _ (Ext.refl _) rfl
            · intro a W hW hB hD K hK
              obtain ⟨v39, e39⟩ : ∃ x, a.tmps.getD 39 undef = x := ⟨_, rfl⟩
              have h39 := hD 1 _ 39 rfl rfl (by kernel_rfl)
              rw [e39] at h39
              simp only [Array.getD_eq_getD_getElem?] at e39
              obtain rfl := h39
              obtain ⟨v40, e40⟩ : ∃ x, a.tmps.getD 40 undef = x := ⟨_, rfl⟩
              have h40 := hD 2 _ 40 rfl rfl (by kernel_rfl)
              rw [e40] at h40
              simp only [Array.getD_eq_getD_getElem?] at e40
              obtain rfl := h40
              go_simp
              exact hK _ _ (Ext.refl _) rfl
            · intro a W hW hB hD K hK
              obtain ⟨v41, e41⟩ : ∃ x, a.tmps.getD 41 undef = x := ⟨_, rfl⟩
              have h41 := hD 3 _ 41 rfl rfl (by kernel_rfl)
              rw [e41] at h41
              simp only [Array.getD_eq_getD_getElem?] at e41
              obtain rfl := h41
              have m0 := ((X.out.trans hW).cell (p := ⟨gb, go + m, none⟩) ZG.out.1).trans ZG.out.2
              have ml := Nat.lt_of_lt_of_le ZG.out.1 (X.out.trans hW).size
              go_simp
              exact hK _ _ (Ext.refl _) rfl
            · intro a W hW hB hD K hK
              have b9 := hB 9 rfl
              simp only [Array.getD_eq_getD_getElem?, List.getElem?_toArray, List.getElem?_cons_succ, List.getElem?_cons_zero, Option.getD_some] at b9
              go_simp
              exact hK _ _ (Ext.refl _) rfl
            · intro a W hW hB hD K hK
              have b11 := hB 11 rfl
              simp only [Array.getD_eq_getD_getElem?, List.getElem?_toArray, List.getElem?_cons_succ, List.getElem?_cons_zero, Option.getD_some] at b11
              go_simp
              exact hK _ _ (Ext.refl _) rfl
            · intro a W hW hB hD K hK
              obtain ⟨v43, e43⟩ : ∃ x, a.tmps.getD 43 undef = x := ⟨_, rfl⟩
              have h43 := hD 5 _ 43 rfl rfl (by kernel_rfl)
              rw [e43] at h43
              simp only [Array.getD_eq_getD_getElem?] at e43
              obtain rfl := h43
              obtain ⟨v44, e44⟩ : ∃ x, a.tmps.getD 44 undef = x := ⟨_, rfl⟩
              have h44 := hD 6 _ 44 rfl rfl (by kernel_rfl)
              rw [e44] at h44
              simp only [Array.getD_eq_getD_getElem?] at e44
              obtain rfl := h44
              go_simp
              exact hK _ _ (Ext.refl _) rfl
            · intro a W hW hB hD K hK
              obtain ⟨v45, e45⟩ : ∃ x, a.tmps.getD 45 undef = x := ⟨_, rfl⟩
              have h45 := hD 7 _ 45 rfl rfl (by kernel_rfl)
              rw [e45] at h45
              simp only [Array.getD_eq_getD_getElem?] at e45
              obtain rfl := h45
              have m0 := (hW.cell (p := ⟨pb, po + m, none⟩) ZP.out.1).trans ZP.out.2
              have ml := Nat.lt_of_lt_of_le ZP.out.1 hW.size
              go_simp
              exact hK _ _ (Ext.refl _) rfl
            · intro a W hW hB hD K hK
              have b0 := hB 0 rfl
              simp only [Array.getD_eq_getD_getElem?, List.getElem?_toArray, List.getElem?_cons_succ, List.getElem?_cons_zero, Option.getD_some] at b0
              go_simp
              exact hK _ _ (Ext.refl _) rfl
            · intro a W hW hB hD K hK
              have b11 := hB 11 rfl
              simp only [Array.getD_eq_getD_getElem?, List.getElem?_toArray, List.getElem?_cons_succ, List.getElem?_cons_zero, Option.getD_some] at b11
              go_simp
              exact hK _ _ (Ext.refl _) rfl
            · intro a W hW hB hD K hK
              obtain ⟨v47, e47⟩ : ∃ x, a.tmps.getD 47 undef = x := ⟨_, rfl⟩
              have h47 := hD 9 _ 47 rfl rfl (by kernel_rfl)
              rw [e47] at h47
              simp only [Array.getD_eq_getD_getElem?] at e47
              obtain rfl := h47
              obtain ⟨v48, e48⟩ : ∃ x, a.tmps.getD 48 undef = x := ⟨_, rfl⟩
              have h48 := hD 10 _ 48 rfl rfl (by kernel_rfl)
              rw [e48] at h48
              simp only [Array.getD_eq_getD_getElem?] at e48
              obtain rfl := h48
              go_simp
              exact hK _ _ (Ext.refl _) rfl
            · intro a W hW hB hD K hK
              obtain ⟨v49, e49⟩ : ∃ x, a.tmps.getD 49 undef = x := ⟨_, rfl⟩
              have h49 := hD 11 _ 49 rfl rfl (by kernel_rfl)
              rw [e49] at h49
              simp only [Array.getD_eq_getD_getElem?] at e49
              obtain rfl := h49
              have m0 := ((X.out.trans hW).cell (p := ⟨gb, go + m, none⟩) ZG.out.1).trans ZG.out.2
              have ml := Nat.lt_of_lt_of_le ZG.out.1 (X.out.trans hW).size
              go_simp
              exact hK _ _ (Ext.refl _) rfl
            · intro a W hW hB hD K hK
              have b1 := hB 1 rfl
              simp only [Array.getD_eq_getD_getElem?, List.getElem?_toArray, List.getElem?_cons_succ, List.getElem?_cons_zero, Option.getD_some] at b1
              go_simp
              exact hK _ _ (Ext.refl _) rfl
            · intro a W hW hB hD K hK
              have b11 := hB 11 rfl
              simp only [Array.getD_eq_getD_getElem?, List.getElem?_toArray, List.getElem?_cons_succ, List.getElem?_cons_zero, Option.getD_some] at b11
              go_simp
              exact hK _ _ (Ext.refl _) rfl
            · intro a W hW hB hD K hK
              obtain ⟨v51, e51⟩ : ∃ x, a.tmps.getD 51 undef = x := ⟨_, rfl⟩
              have h51 := hD 13 _ 51 rfl rfl (by kernel_rfl)
              rw [e51] at h51
              simp only [Array.getD_eq_getD_getElem?] at e51
              obtain rfl := h51
              obtain ⟨v52, e52⟩ : ∃ x, a.tmps.getD 52 undef = x := ⟨_, rfl⟩
              have h52 := hD 14 _ 52 rfl rfl (by kernel_rfl)
              rw [e52] at h52
              simp only [Array.getD_eq_getD_getElem?] at e52
              obtain rfl := h52
              go_simp
              exact hK _ _ (Ext.refl _) rfl
            · intro a W hW hB hD K hK
              obtain ⟨v53, e53⟩ : ∃ x, a.tmps.getD 53 undef = x := ⟨_, rfl⟩
              have h53 := hD 15 _ 53 rfl rfl (by kernel_rfl)
              rw [e53] at h53
              simp only [Array.getD_eq_getD_getElem?] at e53
              obtain rfl := h53
              have m0 := ((X.out.trans hW).cell (p := ⟨xb, xo + m, none⟩) ZX.out.1).trans ZX.out.2
              have ml := Nat.lt_of_lt_of_le ZX.out.1 (X.out.trans hW).size
              go_simp
              exact hK _ _ (Ext.refl _) rfl
            · intro a W hW hB hD K hK
              obtain ⟨v50, e50⟩ : ∃ x, a.tmps.getD 50 undef = x := ⟨_, rfl⟩
              have h50 := hD 12 _ 50 rfl rfl (by kernel_rfl)
              rw [e50] at h50
              simp only [Array.getD_eq_getD_getElem?] at e50
              obtain rfl := h50
              obtain ⟨v54, e54⟩ : ∃ x, a.tmps.getD 54 undef = x := ⟨_, rfl⟩
              have h54 := hD 16 _ 54 rfl rfl (by kernel_rfl)
              rw [e54] at h54
              simp only [Array.getD_eq_getD_getElem?] at e54
              obtain rfl := h54
              go_simp
              refine (HCL.out _ _ (GRD.out.ext (X.out.trans hW))).mono ?_
              rintro e w9 ⟨rfl, hx⟩
              exact hK _ _ hx rfl
            · intro a W hW hB hD K hK
              obtain ⟨v42, e42⟩ : ∃ x, a.tmps.getD 42 undef = x := ⟨_, rfl⟩
              have h42 := hD 4 _ 42 rfl rfl (by kernel_rfl)
              rw [e42] at h42
              simp only [Array.getD_eq_getD_getElem?] at e42
              obtain rfl := h42
              obtain ⟨v46, e46⟩ : ∃ x, a.tmps.getD 46 undef = x := ⟨_, rfl⟩
              have h46 := hD 8 _ 46 rfl rfl (by kernel_rfl)
              rw [e46] at h46
              simp only [Array.getD_eq_getD_getElem?] at e46
              obtain rfl := h46
              obtain ⟨v55, e55⟩ : ∃ x, a.tmps.getD 55 undef = x := ⟨_, rfl⟩
              have h55 := hD 17 _ 55 rfl rfl (by kernel_rfl)
              rw [e55] at h55
              simp only [Array.getD_eq_getD_getElem?] at e55
              obtain rfl := h55
              go_simp
              refine (HWT.out _ _ (GRD.out.ext (X.out.trans hW))).mono ?_
              rintro e w9 ⟨⟨v, rfl, nn⟩, hx⟩
              exact hK _ _ hx ⟨_, rfl, nn.rd⟩
            · intro a W hW hB hD K hK
              obtain ⟨v38, e38⟩ : ∃ x, a.tmps.getD 38 undef = x := ⟨_, rfl⟩
              have h38 := hD 0 _ 38 rfl rfl (by kernel_rfl)
              rw [e38] at h38
              simp only [Array.getD_eq_getD_getElem?] at e38
              obtain ⟨d1, d2, d3, d4, rfl, dh⟩ := h38
              obtain ⟨v56, e56⟩ : ∃ x, a.tmps.getD 56 undef = x := ⟨_, rfl⟩
              have h56 := hD 18 _ 56 rfl rfl (by kernel_rfl)
              rw [e56] at h56
              simp only [Array.getD_eq_getD_getElem?] at e56
              obtain ⟨e1, rfl, eh⟩ := h56
              go_simp
              refine (HPR.out _ _ _ dh eh).mono ?_
              rintro e w9 ⟨⟨v, rfl, nn⟩, hx⟩
              obtain ⟨s1, s2, s3, s4, rfl⟩ := nn.shape
              exact hK _ _ hx ⟨_, _, _, _, rfl, nn.from (X.out.trans hW)⟩
          intro w7 hx
          simp only [Vals, List.take_succ_cons, List.take_zero, List.drop_succ_cons, List.drop_zero]
          rintro u0 - u1 - u2 - u3 - u4 - u5 - u6 - u7 - u8 - u9 - u10 - u11 - u12 - u13 - u14 - u15 - u16 - u17 - u18 - u19 h19
          obtain ⟨t1, t2, t3, t4, rfl, ht⟩ := h19
          simp only [Act.put, List.setIfInBounds_toArray, List.set_cons_zero, List.set_cons_succ]
          have HT := Lib.hid ht; have HO := Lib.hid (OwS.ext' HO.out hx); have PT := Lib.hid (PT.out.ext hx); have HB := Lib.hid (HB.out.ext hx); have X := Lib.hid (X.out.trans hx)
          clear ht hx NY HPR HWT HCL GRD ZG ZX ZP
          have qS := HB.out.cell; have fS := HB.out.free; have lS := HB.out.lt
          go_wp2_with fail
          clear qS fS lS
          have hp9 := Put3.of (q := u.neg) (a1 := t1) (n1 := u.num.length) (c1 := t2) (a2 := t3) (n2 := u.den.length) (c2 := t4) (o := 0) HB.out noU_3
          have hb : Blk (((w7.setCell ⟨wn, 0, none⟩ (.bool u.neg)).setCell ⟨wn, 1, none⟩ (.slice t1 u.num.length t2)).setCell ⟨wn, 2, none⟩ (.slice t3 u.den.length t4)) wn #[.bool u.neg, .slice t1 u.num.length t2, .slice t3 u.den.length t4] 62 := HB.out.all3 _ _ _
          have hn : NewR w (((w7.setCell ⟨wn, 0, none⟩ (.bool u.neg)).setCell ⟨wn, 1, none⟩ (.slice t1 u.num.length t2)).setCell ⟨wn, 2, none⟩ (.slice t3 u.den.length t4)) (.agg #[.bool u.neg, .slice t1 u.num.length t2, .slice t3 u.den.length t4]) u := HT.out.set3b HB.out (by decide) _ _ _
          have ho : OwS 107 w.heap.size (((w7.setCell ⟨wn, 0, none⟩ (.bool u.neg)).setCell ⟨wn, 1, none⟩ (.slice t1 u.num.length t2)).setCell ⟨wn, 2, none⟩ (.slice t3 u.den.length t4)) (.slice oa (vtsL g x k).length oc) (vtsL g x k) := OwS.setBlk (OwS.setBlk (OwS.setBlk HO.out HB.out HN.out (by decide) (by decide) 0 _) (HB.out.set _ _) HN.out (by decide) (by decide) 1 _) ((HB.out.set _ _).set _ _) HN.out (by decide) (by decide) 2 _
          have hpt : RdI .i64 (((w7.setCell ⟨wn, 0, none⟩ (.bool u.neg)).setCell ⟨wn, 1, none⟩ (.slice t1 u.num.length t2)).setCell ⟨wn, 2, none⟩ (.slice t3 u.den.length t4)) (.slice (some ⟨pb, po, none⟩) g.length g.length) (plK g k 0) := hp9.rdI PT.out
          have hx : Ext w (((w7.setCell ⟨wn, 0, none⟩ (.bool u.neg)).setCell ⟨wn, 1, none⟩ (.slice t1 u.num.length t2)).setCell ⟨wn, 2, none⟩ (.slice t3 u.den.length t4)) := ext_put3 (o := 0) X.out HN.out
          have H1 := Lib.hid hb; have H2 := Lib.hid hn; have H3 := Lib.hid ho; have H4 := Lib.hid hpt; have H5 := Lib.hid hx; clear hp9 hb hn ho hpt hx HT
          go_roundw
          case rel =>
            refine ⟨m + 1, by omega, by go_num, ?_, H3.out, H4.out, H5.out⟩
            rw [← HU.out]
            exact ⟨_, _, _, _, H1.out, H2.out⟩
          case measure => simp [intOf]; omega
        · obtain rfl : m = g.length := by omega
          have q1 : ¬ (g.length : Int) < (g.length : Int) := by omega
          have hst := vtsL_succ g x k
          have hlk := vtsL_len g x k
          have hnil : (wK g x k g.length).num = [] ↔ wpr g (xsOf g x) (plc g k) g.length = 0 := rep_num_nil
          obtain ⟨r, hr⟩ : ∃ r, r = wK g x k g.length := ⟨_, rfl⟩
          rw [← hr] at hst HB NY hnil
          have HST := Lib.hid hst
          have qS := HB.out.cell; have fS := HB.out.free; have lS := HB.out.lt
          clear hst hr
          by_cases hz : r.num.length = 0
          · have hz2 := hnil.1 (List.length_eq_zero_iff.1 hz)
            have HZ2 := Lib.hid hz2
            have q3 : ¬ (0 : Int) < (r.num.length : Int) := by omega
            clear hnil hz hz2
            go_wp2_with fail
            go_roundw
            case rel => exact ⟨k + 1, by omega, by go_num, by rw [HST.out, if_pos HZ2.out]; exact HO.out, X.out⟩
            case measure => simp [intOf]; omega
          · have hz2 : ¬ wpr g (xsOf g x) (plc g k) g.length = 0 := fun h => hz (by rw [hnil.2 h]; rfl)
            have HZ2 := Lib.hid hz2
            have q3 : (0 : Int) < (r.num.length : Int) := by omega
            have hnb : Blk (wi.alloc (.cells #[.int .i64 (k : Nat), .bool r.neg, .slice s1 r.num.length s2, .slice s3 r.den.length s4] 107)) wi.heap.size #[.int .i64 (k : Nat), .bool r.neg, .slice s1 r.num.length s2, .slice s3 r.den.length s4] 107 := Blk.new wi _ _
            have hx : Ext wi (wi.alloc (.cells #[.int .i64 (k : Nat), .bool r.neg, .slice s1 r.num.length s2, .slice s3 r.den.length s4] 107)) := (Ext.refl _).alloc _
            have HO1 := Lib.hid (OwS.ext' HO.out hx); have XR1 := Lib.hid (X.out.trans hx); have HE := Lib.hid (ElS.new (i := k) (B := w.heap.size) (NY.out.ext hx) (Nat.le_refl _)); have HBN := Lib.hid hnb
            have hz1 := Lib.hid XR1.out.size; have HLK := Lib.hid hlk
            clear hnil hz hz2 hnb hx HO NY hlk
            go_wp2_with (at_builtin; (refine wpList_append_rowB (wi.alloc (.cells #[.int .i64 (k : Nat), .bool r.neg, .slice s1 r.num.length s2, .slice s3 r.den.length s4] 107)) rfl _ _ 35 rfl w.heap.size 107 (.agg #[.int .i64 0, .bool false, .slice none 0 0, .slice none 0 0]) 4 64 Tryz.underlying35 Tryz.infoWe rfl (by decide) (ElS.keeps0 (by decide)) _ _ HO1.out rfl [.int .i64 (k : Nat), .bool r.neg, .slice s1 r.num.length s2, .slice s3 r.den.length s4] rfl (by simp [Value.oneCell']) (k, r) HE.out wi.heap.size HBN.out rfl (by have := HLK.out; omega) (by have := HLK.out; omega) hz1.out ?_))
            intro g9 cap2 w99 hown2 hk2
            clear qS fS lS
            have HO2 := Lib.hid hown2; have XR2 := Lib.hid (Below.trans XR1.out (hk2.below hz1.out))
            clear hown2 hk2 hz1
            go_wp2_with fail
            go_roundw
            case rel => exact ⟨k + 1, by omega, by go_num, by rw [HST.out, if_neg HZ2.out]; exact HO2.out, XR2.out⟩
            case measure => simp [intOf]; omega
    · obtain rfl : k = gsize g := by omega
      have q1 : ¬ (gsize g : Int) < (gsize g : Int) := by omega
      go_wp2_with fail
      go_ret2
      exact ⟨ResW.mk (Nat.le_refl _) HO.out E.out, X.out⟩
end Go.Proofs.YthkfkfbfblppeaaGreat
