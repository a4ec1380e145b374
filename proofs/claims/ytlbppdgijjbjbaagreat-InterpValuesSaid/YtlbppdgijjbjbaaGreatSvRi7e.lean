/- Part of the proof of ivalL_holds: what the row needs of Ri7e. Conditions: as each theorem states. -/
import Derived.Test.YtlbppdgijjbjbaaGreatSvRi7d
import Derived.Test.YtlbppdgijjbjbaaGreatSvGM
import Derived.Test.YtlbppdgijjbjbaaGreatSvRatDu
namespace Go.Proofs.YtlbppdgijjbjbaaGreat
set_option linter.unusedSimpArgs false
set_option linter.unusedVariables false
open Go.RowKit
theorem lc4 {w W : World} {b o : Nat} {c0 c1 c2 c3 : Value} (h : b < w.heap.size ∧ w.cell? ⟨b, o, none⟩ = some c0 ∧ w.cell? ⟨b, o + 1, none⟩ = some c1 ∧ w.cell? ⟨b, o + 2, none⟩ = some c2 ∧ w.cell? ⟨b, o + 3, none⟩ = some c3) (x : Ext w W) : W.cell? ⟨b, o, none⟩ = some c0 ∧ W.cell? ⟨b, o + 1, none⟩ = some c1 ∧ W.cell? ⟨b, o + 2, none⟩ = some c2 ∧ W.cell? ⟨b, o + 3, none⟩ = some c3 :=
  ⟨(x.cell (p := ⟨b, o, none⟩) h.1).trans h.2.1, (x.cell (p := ⟨b, o + 1, none⟩) h.1).trans h.2.2.1, (x.cell (p := ⟨b, o + 2, none⟩) h.1).trans h.2.2.2.1, (x.cell (p := ⟨b, o + 3, none⟩) h.1).trans h.2.2.2.2⟩
set_option maxRecDepth 100000 in
set_option maxHeartbeats 8000000 in
theorem refValue7_any (gv vv xv : Value) (g : List (List Int)) (vals : List RR) (x : List Int) (w : World) (h : RdG w gv g) (hv : RdRs w vv vals) (hlv : LimL vals) (hx : RdI .i64 w xv x) :
    Calls Tryz.prog 10 #[gv, vv, xv] w fun e w' => ResR w w' e (valueS g vals x) ∧ Ext w w' := by
  have HWT := Lib.hid (fun W (e : Ext w W) => refWeights7_any gv xv g x W (h.ext e) (hx.ext e))
  have HSZ := Lib.hid (fun W (e : Ext w W) => refCount7_any gv g W (h.ext e))
  have HG := Lib.hid h; have HV := Lib.hid hv; have HLV := Lib.hid hlv
  obtain ⟨a, cap, rfl, hgl⟩ := h.shape
  obtain ⟨av, cv, rfl, hvc, hvm, fv, hvf⟩ := hv.get
  obtain ⟨ax, cx, rfl, hcx, hmx, _⟩ := hx.get
  have hvl : vals.length ≤ 9223372036854775807 := by omega
  have HVF := Lib.hid hvf
  clear h hv hlv hx hvc hvm hcx hmx hvf
  have bb0 := (Blk.new w #[.bool false, .slice none 0 0, .slice none 0 0] 33)
  have x0 : Ext w (w.alloc (.cells #[.bool false, .slice none 0 0, .slice none 0 0] 33)) := ((Ext.refl w).alloc _)
  have A0 := Lib.hid bb0; have X := Lib.hid x0
  clear x0 bb0
  go_enter Tryz.func10, Tryz.ntmps10
  go_wp2_with fail
  obtain ⟨ws, hws⟩ : ∃ r, r = weightsS g x := ⟨_, rfl⟩
  have HWT2 := HWT.out _ X.out
  rw [← hws] at HWT2
  obtain ⟨WL, we⟩ := ws
  (try dsimp only at HWT2)
  refine (HWT2).mono ?_
  rintro e w1 ⟨⟨lv, B0, rfl, hB0, hown⟩, hx⟩
  have A0 := Lib.hid (A0.out.ext hx); have X := Lib.hid (X.out.trans hx)
  dsimp only at hown ⊢
  have OL := Lib.hid hown; clear hown hx
  by_cases h0 : we = 0
  rotate_left
  · have E := Lib.hid (show valueS g vals x = (zR, we) by unfold valueS; rw [← hws]; exact if_neg h0)
    have q1 : (we != 0) = true := by simpa using h0
    obtain ⟨la, lc, rfl⟩ := OL.out.shape
    clear hws h0
    have qA0 := A0.out.cell; have fA0 := A0.out.free; have lA0 := A0.out.lt
    go_wp2_with fail
    clear qA0 fA0 lA0
    have hb6 := A0.out.all3 (.bool false) (.slice none 0 0) (.slice none 0 0)
    have hx6 : Ext w (((w1.setCell ⟨w.heap.size, 0, none⟩ (.bool false)).setCell ⟨w.heap.size, 1, none⟩ (.slice none 0 0)).setCell ⟨w.heap.size, 2, none⟩ (.slice none 0 0)) := (((X.out.set (p := ⟨w.heap.size, 0, none⟩) (Nat.le_refl _) _).set (p := ⟨w.heap.size, 1, none⟩) (Nat.le_refl _) _).set (p := ⟨w.heap.size, 2, none⟩) (Nat.le_refl _) _)
    obtain ⟨W6, hW6⟩ : ∃ W, W = (((w1.setCell ⟨w.heap.size, 0, none⟩ (.bool false)).setCell ⟨w.heap.size, 1, none⟩ (.slice none 0 0)).setCell ⟨w.heap.size, 2, none⟩ (.slice none 0 0)) := ⟨_, rfl⟩
    rw [← hW6] at hb6 hx6 ⊢
    clear hW6
    have HX6 := Lib.hid hx6; clear hx6
    refine bodyPost_ret (v := .tuple #[.agg #[.bool false, .slice none 0 0, .slice none 0 0], .int .i64 we]) (by have k1 := hb6.cell; have k2 := hb6.free; have k3 := hb6.lt; clear hb6; simp only [results, Tryz.results10]; go_simp) rfl ⟨ResR.mk (l := zR) (NewR.zero _ _) E.out, HX6.out⟩
  subst h0
  have hw0 : (weightsS g x).2 = 0 := by rw [← hws]
  obtain ⟨g0, gl, gw⟩ := weightsS_0 hw0
  have ok := gridE_ok g0
  have hin := in_of ok x
  have hWL : WL = repL (wtsL g (xsOf g x) g.length) := by have := hws.trans gw; injection this
  have hVS : valueS g vals x = if vals.length = gsize g then dotR (WL.map (·.2)) (WL.map fun y => vals.getD y.1 zR) else (zR, 16) := by unfold valueS; rw [if_pos hw0, ← hws]
  have hlen : WL.length ≤ 16 := by
    rw [hWL]; unfold repL; rw [List.length_map]
    exact Nat.le_trans (wtsL_len hin _ (Nat.le_refl _)) (Nat.le_trans (Nat.pow_le_pow_right (by decide) ok.le) (by decide))
  have hmem : ∀ (i : Nat) (y : Nat × RR), WL[i]? = some y → y.1 < gsize g ∧ ∃ q : Rat, y.2 = rep q := by
    intro i y hy
    rw [hWL] at hy
    unfold repL at hy
    rw [List.getElem?_map] at hy
    obtain ⟨z, hz, rfl⟩ := Option.map_eq_some_iff.1 hy
    have := (wtsL_mem (Nat.le_refl _) (mem_of_at hz)).1
    rw [List.take_length] at this
    exact ⟨this, z.2, rfl⟩
  have HLEN := Lib.hid hlen; have HMEM := Lib.hid hmem; have HVS := Lib.hid hVS; have HS := Lib.hid (fun W (e : Ext w W) => HSZ.out W e ok.shrt)
  have hgs := ok.size
  obtain ⟨la, lc, rfl⟩ := OL.out.shape
  clear hlen hmem hVS hWL hws hw0 g0 gl gw ok hin HWT
  have qA0 := A0.out.cell; have fA0 := A0.out.free; have lA0 := A0.out.lt
  go_wp2_with fail
  clear qA0 fA0 lA0
  refine (HS.out _ X.out).mono ?_
  rintro e w2 ⟨rfl, hx⟩
  have A0 := Lib.hid (A0.out.ext hx); have X := Lib.hid (X.out.trans hx)
  have OL := Lib.hid (OL.out.ext' hx); clear hx
  by_cases hl : vals.length = gsize g
  rotate_left
  · have E := Lib.hid (HVS.out.trans (if_neg hl))
    have q1 : ((vals.length : Int) != (gsize g : Int)) = true := bne_iff_ne.2 (by omega)
    clear hl
    have qA0 := A0.out.cell; have fA0 := A0.out.free; have lA0 := A0.out.lt
    go_wp2_with fail
    clear qA0 fA0 lA0
    have hb6 := A0.out.all3 (.bool false) (.slice none 0 0) (.slice none 0 0)
    have hx6 : Ext w (((w2.setCell ⟨w.heap.size, 0, none⟩ (.bool false)).setCell ⟨w.heap.size, 1, none⟩ (.slice none 0 0)).setCell ⟨w.heap.size, 2, none⟩ (.slice none 0 0)) := (((X.out.set (p := ⟨w.heap.size, 0, none⟩) (Nat.le_refl _) _).set (p := ⟨w.heap.size, 1, none⟩) (Nat.le_refl _) _).set (p := ⟨w.heap.size, 2, none⟩) (Nat.le_refl _) _)
    obtain ⟨W6, hW6⟩ : ∃ W, W = (((w2.setCell ⟨w.heap.size, 0, none⟩ (.bool false)).setCell ⟨w.heap.size, 1, none⟩ (.slice none 0 0)).setCell ⟨w.heap.size, 2, none⟩ (.slice none 0 0)) := ⟨_, rfl⟩
    rw [← hW6] at hb6 hx6 ⊢
    clear hW6
    have HX6 := Lib.hid hx6; clear hx6
    refine bodyPost_ret (v := .tuple #[.agg #[.bool false, .slice none 0 0, .slice none 0 0], .int .i64 16]) (by have k1 := hb6.cell; have k2 := hb6.free; have k3 := hb6.lt; clear hb6; simp only [results, Tryz.results10]; go_simp) rfl ⟨ResR.mk (l := zR) (NewR.zero _ _) E.out, HX6.out⟩
  have E := Lib.hid (HVS.out.trans (if_pos hl))
  have q1 : ((vals.length : Int) != (gsize g : Int)) = false := by rw [hl]; simp
  have HL := Lib.hid hl
  clear hl
  have qA0 := A0.out.cell; have fA0 := A0.out.free; have lA0 := A0.out.lt
  go_wp2_with fail
  clear qA0 fA0 lA0
  obtain ⟨wl, hwl⟩ : ∃ W, W = w2 := ⟨_, rfl⟩
  subst hwl
  go_loopw [10, 11, 12] (fun va vb i wr => ∃ k : Nat, k ≤ WL.length ∧ i = .int .i64 k ∧ OwRs wl.heap.size wr va ((WL.map (·.2)).take k) ∧ OwRs wl.heap.size wr vb ((WL.map fun y => vals.getD y.1 zR).take k) ∧ (∀ q, va.ownBlock = some q → vb.ownBlock ≠ some q) ∧ Ext wl wr) (fun _ _ i _ => WL.length - (intOf i).toNat)
  case atStart => exact ⟨0, Nat.zero_le _, rfl, OwRow.nil _ _ _ _ _, OwRow.nil _ _ _ _ _, (fun q h => by cases h), Ext.refl _⟩
  case round =>
    obtain ⟨wq, hwq⟩ : ∃ W, W = wr := ⟨_, rfl⟩
    subst hwq
    obtain ⟨k, hk, rfl, hoa, hob, hdj, hx⟩ := hrel
    obtain ⟨aa, ac, rfl⟩ := OwRs.shape hoa
    obtain ⟨ba, bc, rfl⟩ := OwRs.shape hob
    have XK := Lib.hid hx; have OA := Lib.hid hoa; have OB := Lib.hid hob; have DJ := Lib.hid hdj
    have hlen := HLEN.out
    clear hx hoa hob hdj
    by_cases hlt : k < WL.length
    · obtain ⟨y, hy⟩ : ∃ y, WL[k]? = some y := ⟨_, List.getElem?_eq_getElem hlt⟩
      obtain ⟨bv, a1, c1, a2, c2, rfl, v0, v1, v2, v3, v4, v5⟩ := OL.out.at hy
      obtain ⟨m1, mq, m2⟩ := HMEM.out k y hy
      have hvl2 : y.1 < vals.length := by rw [HL.out]; exact m1
      obtain ⟨bw, ow, rfl, u0, u1, u2, u3, u4⟩ := HVF.out y.1 hvl2
      have htA : (WL.map (·.2)).take (k + 1) = (WL.map (·.2)).take k ++ [y.2] := take_snocE (by rw [List.getElem?_map, hy]; rfl)
      have htB : (WL.map fun y => vals.getD y.1 zR).take (k + 1) = (WL.map fun y => vals.getD y.1 zR).take k ++ [vals.getD y.1 zR] := take_snocE (by rw [List.getElem?_map, hy]; rfl)
      have hlA : ((WL.map (·.2)).take k).length = k := by rw [List.length_take, List.length_map]; omega
      have hlB : ((WL.map fun y => vals.getD y.1 zR).take k).length = k := by rw [List.length_take, List.length_map]; omega
      obtain ⟨yi, ry⟩ := y
      dsimp only at v1 v2 v3 v4 v5 m1 hvl2 u1 u2 u3 u4 htA htB
      obtain ⟨rz, hrz⟩ : ∃ r, r = vals.getD yi zR := ⟨_, rfl⟩
      rw [← hrz] at u1 u2 u3 u4 htB
      obtain ⟨fk, hfk⟩ : ∃ f, f = fv yi := ⟨_, rfl⟩
      rw [← hfk] at u2 u3 u4
      obtain ⟨⟨z1, z2⟩, ⟨z3, z4⟩⟩ := fk
      dsimp only at u2 u3 u4
      have eA := ElR.old v5 (Nat.le_refl _)
      have eB := ElR.old (u4.ext X.out) (Nat.le_refl _)
      have VC : Hid (RdAt wl bw (ow + yi * 3) rz z1 z2 z3 z4) := Lib.hid ⟨Nat.lt_of_lt_of_le u0 X.out.size, (X.out.cell (p := ⟨bw, ow + yi * 3, none⟩) u0).trans u1, (X.out.cell (p := ⟨bw, ow + yi * 3 + 1, none⟩) u0).trans u2, (X.out.cell (p := ⟨bw, ow + yi * 3 + 2, none⟩) u0).trans u3⟩
      have LC : Hid (bv < wl.heap.size ∧ wl.cell? ⟨bv, k * 4, none⟩ = some (.int .i64 (yi : Nat)) ∧ wl.cell? ⟨bv, k * 4 + 1, none⟩ = some (.bool ry.neg) ∧ wl.cell? ⟨bv, k * 4 + 2, none⟩ = some (.slice a1 ry.num.length c1) ∧ wl.cell? ⟨bv, k * 4 + 3, none⟩ = some (.slice a2 ry.den.length c2)) := Lib.hid ⟨v0, v1, v2, v3, v4⟩
      have EA := Lib.hid eA; have EB := Lib.hid eB; have TA := Lib.hid htA; have TB := Lib.hid htB; have LA := Lib.hid hlA; have LB := Lib.hid hlB
      have w0 := Nat.lt_of_lt_of_le v0 XK.out.size
      have w1 := (XK.out.cell (p := ⟨bv, k * 4, none⟩) v0).trans v1; have w2 := (XK.out.cell (p := ⟨bv, k * 4 + 1, none⟩) v0).trans v2; have w3 := (XK.out.cell (p := ⟨bv, k * 4 + 2, none⟩) v0).trans v3; have w4 := (XK.out.cell (p := ⟨bv, k * 4 + 3, none⟩) v0).trans v4
      have q2 : (0 : Int) ≤ (k : Int) := by omega
      have q3 : (k : Int) < (WL.length : Int) := by omega
      have q4 : (0 : Int) ≤ (yi : Int) := by omega
      have q5 : (yi : Int) < (vals.length : Int) := by omega
      rw [LA.out, LB.out]
      clear v0 v1 v2 v3 v4 v5 u0 u1 u2 u3 u4 eA eB htA htB hlA hlB hrz hfk m1 m2 hvl2 hy
      go_wp2_with fail
      obtain ⟨wb, hwb⟩ : ∃ W, W = wq := ⟨_, rfl⟩
      clear w0 w1 w2 w3 w4
      rw [← hwb] at XK OA OB ⊢
      clear hwb
      have XW := XK
      have EA := Lib.hid (EA.out.ext XW.out); have EB := Lib.hid (EB.out.ext XW.out)
      have KW : Hid (Keeps wl.heap.size 33 wb wb) := Lib.hid (Keeps.ext (Ext.refl _))
      refine wp_region_held_drew (S := (fun W => (W.cell? ⟨bv, k * 4, none⟩ = some (.int .i64 (yi : Nat)) ∧ W.cell? ⟨bv, k * 4 + 1, none⟩ = some (.bool ry.neg) ∧ W.cell? ⟨bv, k * 4 + 2, none⟩ = some (.slice a1 ry.num.length c1) ∧ W.cell? ⟨bv, k * 4 + 3, none⟩ = some (.slice a2 ry.den.length c2)) ∧ (W.cell? ⟨bw, ow + yi * 3, none⟩ = some (.bool rz.neg) ∧ W.cell? ⟨bw, ow + yi * 3 + 1, none⟩ = some (.slice z1 rz.num.length z2) ∧ W.cell? ⟨bw, ow + yi * 3 + 2, none⟩ = some (.slice z3 rz.den.length z4)))) (by kernel_rfl) ?_ (fun hHeld => ?_)
      · exact ⟨lc4 LC.out XW.out.drew, VC.out.c3 XW.out.drew⟩
      refine wpAnyH_take (i := 0) (v := ?_) rfl (by kernel_rfl) (by kernel_rfl) (by kernel_rfl) (fun _ _ _ h => h) (Or.inl ⟨by rfl, ?_⟩) (by assumption) ?_
      rotate_left
      · (intro w hSw; (try dsimp only at hSw); go_simp; first | done | with_reducible rfl)
      (try simp only [Act.put, List.getElem_toArray, List.getElem_cons_zero, List.getElem_cons_succ, List.setIfInBounds_toArray, List.set_cons_zero, List.set_cons_succ])
      refine wpAnyH_take (i := 1) (v := ?_) rfl (by kernel_rfl) (by kernel_rfl) (by kernel_rfl) (fun _ _ _ h => h) (Or.inl ⟨by rfl, ?_⟩) (by assumption) ?_
      rotate_left
      · (intro w hSw; (try dsimp only at hSw); go_simp; first | done | with_reducible rfl)
      (try simp only [Act.put, List.getElem_toArray, List.getElem_cons_zero, List.getElem_cons_succ, List.setIfInBounds_toArray, List.set_cons_zero, List.set_cons_succ])
      refine wpAnyH_take (i := 2) (v := ?_) rfl (by kernel_rfl) (by kernel_rfl) (by kernel_rfl) (fun _ _ _ h => h) (Or.inl ⟨by rfl, ?_⟩) (by assumption) ?_
      rotate_left
      · (intro w hSw; (try dsimp only at hSw); go_simp; first | done | with_reducible rfl)
      (try simp only [Act.put, List.getElem_toArray, List.getElem_cons_zero, List.getElem_cons_succ, List.setIfInBounds_toArray, List.set_cons_zero, List.set_cons_succ])
      refine wpAnyH_take (i := 3) (v := ?_) rfl (by kernel_rfl) (by kernel_rfl) (by kernel_rfl) (fun _ _ _ h => h) (Or.inl ⟨by rfl, ?_⟩) (by assumption) ?_
      rotate_left
      · (intro w hSw; (try dsimp only at hSw); go_simp; first | done | with_reducible rfl)
      (try simp only [Act.put, List.getElem_toArray, List.getElem_cons_zero, List.getElem_cons_succ, List.setIfInBounds_toArray, List.set_cons_zero, List.set_cons_succ])
      refine wpAnyH_take (i := 4) (v := ?_) rfl (by kernel_rfl) (by kernel_rfl) (by kernel_rfl) (fun _ _ _ h => h) (Or.inl ⟨by rfl, ?_⟩) (by assumption) ?_
      rotate_left
      · (intro w hSw; (try dsimp only at hSw); go_simp; first | done | with_reducible rfl)
      (try simp only [Act.put, List.getElem_toArray, List.getElem_cons_zero, List.getElem_cons_succ, List.setIfInBounds_toArray, List.set_cons_zero, List.set_cons_succ])
      refine wpAnyH_take (i := 5) (v := ?_) rfl (by kernel_rfl) (by kernel_rfl) (by kernel_rfl) (fun _ _ _ h => h) (Or.inl ⟨by rfl, ?_⟩) (by assumption) ?_
      rotate_left
      · (intro w hSw; (try dsimp only at hSw); go_simp; first | done | with_reducible rfl)
      (try simp only [Act.put, List.getElem_toArray, List.getElem_cons_zero, List.getElem_cons_succ, List.setIfInBounds_toArray, List.set_cons_zero, List.set_cons_succ])
      refine wpAnyH_take (i := 8) (v := ?_) rfl (by kernel_rfl) (by kernel_rfl) (by kernel_rfl) (fun _ _ _ h => h) (Or.inl ⟨by rfl, ?_⟩) (by assumption) ?_
      rotate_left
      · (intro w hSw; (try dsimp only at hSw); go_simp; first | done | with_reducible rfl)
      (try simp only [Act.put, List.getElem_toArray, List.getElem_cons_zero, List.getElem_cons_succ, List.setIfInBounds_toArray, List.set_cons_zero, List.set_cons_succ])
      refine wpAnyH_take (i := 9) (v := ?_) rfl (by kernel_rfl) (by kernel_rfl) (by kernel_rfl) (fun _ _ _ h => h) (Or.inl ⟨by rfl, ?_⟩) (by assumption) ?_
      rotate_left
      · (intro w hSw; (try dsimp only at hSw); go_simp; first | done | with_reducible rfl)
      (try simp only [Act.put, List.getElem_toArray, List.getElem_cons_zero, List.getElem_cons_succ, List.setIfInBounds_toArray, List.set_cons_zero, List.set_cons_succ])
      refine wpAnyH_take (i := 10) (v := ?_) rfl (by kernel_rfl) (by kernel_rfl) (by kernel_rfl) (fun _ _ _ h => h) (Or.inl ⟨by rfl, ?_⟩) (by assumption) ?_
      rotate_left
      · (intro w hSw; (try dsimp only at hSw); go_simp; first | done | with_reducible rfl)
      (try simp only [Act.put, List.getElem_toArray, List.getElem_cons_zero, List.getElem_cons_succ, List.setIfInBounds_toArray, List.set_cons_zero, List.set_cons_succ])
      refine wpAnyH_take (i := 11) (v := ?_) rfl (by kernel_rfl) (by kernel_rfl) (by kernel_rfl) (fun _ _ _ h => h) (Or.inl ⟨by rfl, ?_⟩) (by assumption) ?_
      rotate_left
      · (intro w hSw; (try dsimp only at hSw); go_simp; first | done | with_reducible rfl)
      (try simp only [Act.put, List.getElem_toArray, List.getElem_cons_zero, List.getElem_cons_succ, List.setIfInBounds_toArray, List.set_cons_zero, List.set_cons_succ])
      refine wpAnyH_take (i := 12) (v := ?_) rfl (by kernel_rfl) (by kernel_rfl) (by kernel_rfl) (fun _ _ _ h => h) (Or.inl ⟨by rfl, ?_⟩) (by assumption) ?_
      rotate_left
      · (intro w hSw; (try dsimp only at hSw); go_simp; first | done | with_reducible rfl)
      (try simp only [Act.put, List.getElem_toArray, List.getElem_cons_zero, List.getElem_cons_succ, List.setIfInBounds_toArray, List.set_cons_zero, List.set_cons_succ])
      refine wpAnyH_take (i := 13) (v := ?_) rfl (by kernel_rfl) (by kernel_rfl) (by kernel_rfl) (fun _ _ _ h => h) (Or.inl ⟨by rfl, ?_⟩) (by assumption) ?_
      rotate_left
      · (intro w hSw; (try dsimp only at hSw); go_simp; first | done | with_reducible rfl)
      (try simp only [Act.put, List.getElem_toArray, List.getElem_cons_zero, List.getElem_cons_succ, List.setIfInBounds_toArray, List.set_cons_zero, List.set_cons_succ])
      refine wpAnyH_take (i := 14) (v := ?_) rfl (by kernel_rfl) (by kernel_rfl) (by kernel_rfl) (fun _ _ _ h => h) (Or.inl ⟨by rfl, ?_⟩) (by assumption) ?_
      rotate_left
      · (intro w hSw; (try dsimp only at hSw); go_simp; first | done | with_reducible rfl)
      (try simp only [Act.put, List.getElem_toArray, List.getElem_cons_zero, List.getElem_cons_succ, List.setIfInBounds_toArray, List.set_cons_zero, List.set_cons_succ])
      refine wpAnyH_take (i := 15) (v := ?_) rfl (by kernel_rfl) (by kernel_rfl) (by kernel_rfl) (fun _ _ _ h => h) (Or.inl ⟨by rfl, ?_⟩) (by assumption) ?_
      rotate_left
      · (intro w hSw; (try dsimp only at hSw); go_simp; first | done | with_reducible rfl)
      (try simp only [Act.put, List.getElem_toArray, List.getElem_cons_zero, List.getElem_cons_succ, List.setIfInBounds_toArray, List.set_cons_zero, List.set_cons_succ])
      refine wpAnyH_take (i := 16) (v := ?_) rfl (by kernel_rfl) (by kernel_rfl) (by kernel_rfl) (fun _ _ _ h => h) (Or.inl ⟨by rfl, ?_⟩) (by assumption) ?_
      rotate_left
      · (intro w hSw; (try dsimp only at hSw); go_simp; first | done | with_reducible rfl)
      (try simp only [Act.put, List.getElem_toArray, List.getElem_cons_zero, List.getElem_cons_succ, List.setIfInBounds_toArray, List.set_cons_zero, List.set_cons_succ])
      obtain ⟨va, hva⟩ : ∃ v, v = Value.slice aa k ac := ⟨_, rfl⟩
      obtain ⟨vb, hvb⟩ : ∃ v, v = Value.slice ba k bc := ⟨_, rfl⟩
      rw [LA.out] at OA DJ; rw [LB.out] at OB DJ
      rw [← hva] at OA DJ ⊢
      rw [← hvb] at OB DJ ⊢
      clear hva hvb
      have ALT := Lib.hid (fun n (h : va.ownBlock = some n) => (OwRs.own_at OA.out h).2.2); have BLT := Lib.hid (fun n (h : vb.ownBlock = some n) => (OwRs.own_at OB.out h).2.2)
      have XB : Hid (wb.heap.size ≤ wb.heap.size) := Lib.hid (Nat.le_refl _)
      apply viaWVV (F := fun W x y => OwRs wl.heap.size W x (((WL.map (·.2)).take k) ++ [ry]) ∧ OwRs wl.heap.size W y (((WL.map fun y => vals.getD y.1 zR).take k) ++ [rz]) ∧ (∀ q, x.ownBlock = some q → y.ownBlock ≠ some q) ∧ Ext wl W ∧ (fun W => (W.cell? ⟨bv, k * 4, none⟩ = some (.int .i64 (yi : Nat)) ∧ W.cell? ⟨bv, k * 4 + 1, none⟩ = some (.bool ry.neg) ∧ W.cell? ⟨bv, k * 4 + 2, none⟩ = some (.slice a1 ry.num.length c1) ∧ W.cell? ⟨bv, k * 4 + 3, none⟩ = some (.slice a2 ry.den.length c2)) ∧ (W.cell? ⟨bw, ow + yi * 3, none⟩ = some (.bool rz.neg) ∧ W.cell? ⟨bw, ow + yi * 3 + 1, none⟩ = some (.slice z1 rz.num.length z2) ∧ W.cell? ⟨bw, ow + yi * 3 + 2, none⟩ = some (.slice z3 rz.den.length z4))) W)
      · intro HV
        refine wpAnyH_ready (rs := [6, 17]) (by kernel_rfl) (by simp) ?_
        refine AllReadyH.cons rfl (fun K hK => ?_) (AllReadyH.cons rfl (fun K hK => ?_) AllReadyH.nil)
        · go_simp
          have hx : Ext wb ((wb.alloc (.cells #[.bool ry.neg, .slice a1 ry.num.length c1, .slice a2 ry.den.length c2] 33)).drew) := ((Ext.refl _).alloc _).drew
          have bz : Blk ((wb.alloc (.cells #[.bool ry.neg, .slice a1 ry.num.length c1, .slice a2 ry.den.length c2] 33)).drew) wb.heap.size [.bool ry.neg, .slice a1 ry.num.length c1, .slice a2 ry.den.length c2].toArray 33 := (Blk.new wb #[.bool ry.neg, .slice a1 ry.num.length c1, .slice a2 ry.den.length c2] 33).drew
          obtain ⟨e3, hwe3⟩ : ∃ W, W = (wb.alloc (.cells #[.bool ry.neg, .slice a1 ry.num.length c1, .slice a2 ry.den.length c2] 33)).drew := ⟨_, rfl⟩
          rw [← hwe3] at hx bz ⊢
          obtain ⟨N1n, hN1n⟩ : ∃ n, n = wb.heap.size := ⟨_, rfl⟩
          rw [← hN1n] at bz ⊢
          have hnb : wb.heap.size ≤ N1n := by rw [hN1n]; exact XB.out
          have OA := Lib.hid (OwRs.ext' OA.out hx); have OB := Lib.hid (OwRs.ext' OB.out hx); have EA := Lib.hid (EA.out.ext hx); have EB := Lib.hid (EB.out.ext hx); have KW := Lib.hid (KW.out.trans (Keeps.ext hx)); have XW := Lib.hid (Ext.to XW.out hx XW.out.size)
          have LN1 := Lib.hid hnb; have XB : Hid (wb.heap.size ≤ e3.heap.size) := Lib.hid (Nat.le_trans hnb (Nat.le_of_lt bz.lt))
          have N1 := Lib.hid bz; clear hx bz hwe3 hN1n hnb
          first | refine hK.out _ _ ?_ (fun hHeld => ?_) | (go_wp2_with fail; refine hK.out _ _ ?_ (fun hHeld => ?_))
          · exact ⟨lc4 LC.out XW.out, VC.out.c3 XW.out⟩
          clear hK K
          (try simp only [Act.put, List.getElem_toArray, List.getElem_cons_zero, List.getElem_cons_succ, List.setIfInBounds_toArray, List.set_cons_zero, List.set_cons_succ])
          refine wpAnyH_ready (rs := [7, 17]) (by kernel_rfl) (by simp) ?_
          refine AllReadyH.cons rfl (fun K hK => ?_) (AllReadyH.cons rfl (fun K hK => ?_) AllReadyH.nil)
          · rw [if_pos (wanted_none rfl)]
            refine wp_append_rowF e3 _ _ _ rfl wl.heap.size 33 (.agg #[.bool false, .slice none 0 0, .slice none 0 0]) 3 56 Tryz.underlying24 Tryz.infoR rfl (by decide) (ElR.keeps (by decide)) _ _ OA.out rfl [.bool ry.neg, .slice a1 ry.num.length c1, .slice a2 ry.den.length c2] rfl (by simp [Value.oneCell']) ry EA.out N1n N1.out rfl (by rw [LA.out]; omega) (by rw [LA.out]; omega) XW.out.size ?_
            intro g4 cap4 e4 hrow hgr hfr
            have hk := OwRs.gKeeps OA.out hgr
            have hown : (Value.slice (some ⟨g4, 0, none⟩) (((WL.map (·.2)).take k).length + 1) cap4).ownBlock = some g4 := rfl
            obtain ⟨ua, hu⟩ : ∃ u, u = Value.slice (some ⟨g4, 0, none⟩) (((WL.map (·.2)).take k).length + 1) cap4 := ⟨_, rfl⟩
            rw [← hu] at hrow hown ⊢
            clear hu
            have hd := dj_step DJ.out BLT.out hown (hfr.imp id (Nat.le_trans XB.out))
            have OB := Lib.hid (OwRs.kept OB.out hgr (dj_ne DJ.out) (fun n hn => by obtain ⟨h1, h2, _⟩ := OwRs.own_at OA.out hn; exact ⟨h1.choose, h1.choose_spec, h2⟩))
            have EB := Lib.hid (ElR.keeps (by decide) _ _ _ _ EB.out hk)
            have DJ := Lib.hid hd; have OA := Lib.hid hrow; have ALT : Hid (∀ n, ua.ownBlock = some n → n < e4.heap.size) := Lib.hid (fun n (h : ua.ownBlock = some n) => (OwRs.own_at hrow h).2.2)
            have KW := Lib.hid (KW.out.trans hk); have XW := Lib.hid (Below.trans XW.out (hk.below XW.out.size)); have XB : Hid (wb.heap.size ≤ e4.heap.size) := Lib.hid (Nat.le_trans XB.out hgr.size)
            have EA9 := EA
            clear hrow hgr hfr hk hown hd EA9
            first | refine hK.out _ _ ?_ (fun hHeld => ?_) | (go_wp2_with fail; refine hK.out _ _ ?_ (fun hHeld => ?_))
            · exact ⟨lc4 LC.out XW.out, VC.out.c3 XW.out⟩
            clear hK K
            (try simp only [Act.put, List.getElem_toArray, List.getElem_cons_zero, List.getElem_cons_succ, List.setIfInBounds_toArray, List.set_cons_zero, List.set_cons_succ])
            refine wpAnyH_ready (rs := [17]) (by kernel_rfl) (by simp) ?_
            refine AllReadyH.cons rfl (fun K hK => ?_) ?_
            rotate_left
            · exact AllReadyH.nil
            go_simp
            have hx : Ext e4 ((e4.alloc (.cells #[.bool rz.neg, .slice z1 rz.num.length z2, .slice z3 rz.den.length z4] 33))) := (Ext.refl _).alloc _
            have bz : Blk ((e4.alloc (.cells #[.bool rz.neg, .slice z1 rz.num.length z2, .slice z3 rz.den.length z4] 33))) e4.heap.size [.bool rz.neg, .slice z1 rz.num.length z2, .slice z3 rz.den.length z4].toArray 33 := Blk.new e4 #[.bool rz.neg, .slice z1 rz.num.length z2, .slice z3 rz.den.length z4] 33
            obtain ⟨e5, hwe5⟩ : ∃ W, W = (e4.alloc (.cells #[.bool rz.neg, .slice z1 rz.num.length z2, .slice z3 rz.den.length z4] 33)) := ⟨_, rfl⟩
            rw [← hwe5] at hx bz ⊢
            obtain ⟨N2n, hN2n⟩ : ∃ n, n = e4.heap.size := ⟨_, rfl⟩
            rw [← hN2n] at bz ⊢
            have hnb : wb.heap.size ≤ N2n := by rw [hN2n]; exact XB.out
            have OA := Lib.hid (OwRs.ext' OA.out hx); have OB := Lib.hid (OwRs.ext' OB.out hx); have EB := Lib.hid (EB.out.ext hx); have KW := Lib.hid (KW.out.trans (Keeps.ext hx)); have XW := Lib.hid (Ext.to XW.out hx XW.out.size)
            have ALT : Hid (∀ n, ua.ownBlock = some n → n < e5.heap.size) := Lib.hid (fun n h => Nat.lt_of_lt_of_le (ALT.out n h) hx.size)
            have LN2 := Lib.hid hnb; have XB : Hid (wb.heap.size ≤ e5.heap.size) := Lib.hid (Nat.le_trans hnb (Nat.le_of_lt bz.lt))
            have N2 := Lib.hid bz; clear hx bz hwe5 hN2n hnb
            first | refine hK.out _ _ ?_ (fun hHeld => ?_) | (go_wp2_with fail; refine hK.out _ _ ?_ (fun hHeld => ?_))
            · exact ⟨lc4 LC.out XW.out, VC.out.c3 XW.out⟩
            clear hK K
            (try simp only [Act.put, List.getElem_toArray, List.getElem_cons_zero, List.getElem_cons_succ, List.setIfInBounds_toArray, List.set_cons_zero, List.set_cons_succ])
            refine wpAnyH_ready (rs := [18]) (by kernel_rfl) (by simp) ?_
            refine AllReadyH.cons rfl (fun K hK => ?_) ?_
            rotate_left
            · exact AllReadyH.nil
            rw [if_pos (wanted_none rfl)]
            refine wp_append_rowF e5 _ _ _ rfl wl.heap.size 33 (.agg #[.bool false, .slice none 0 0, .slice none 0 0]) 3 56 Tryz.underlying24 Tryz.infoR rfl (by decide) (ElR.keeps (by decide)) _ _ OB.out rfl [.bool rz.neg, .slice z1 rz.num.length z2, .slice z3 rz.den.length z4] rfl (by simp [Value.oneCell']) rz EB.out N2n N2.out rfl (by rw [LB.out]; omega) (by rw [LB.out]; omega) XW.out.size ?_
            intro g6 cap6 e6 hrow hgr hfr
            have hk := OwRs.gKeeps OB.out hgr
            have hown : (Value.slice (some ⟨g6, 0, none⟩) (((WL.map fun y => vals.getD y.1 zR).take k).length + 1) cap6).ownBlock = some g6 := rfl
            obtain ⟨ub, hu⟩ : ∃ u, u = Value.slice (some ⟨g6, 0, none⟩) (((WL.map fun y => vals.getD y.1 zR).take k).length + 1) cap6 := ⟨_, rfl⟩
            rw [← hu] at hrow hown ⊢
            clear hu
            have hd := dj_symm (dj_step (dj_symm DJ.out) ALT.out hown hfr)
            have OA := Lib.hid (OwRs.kept OA.out hgr (dj_ne (dj_symm DJ.out)) (fun n hn => by obtain ⟨h1, h2, _⟩ := OwRs.own_at OB.out hn; exact ⟨h1.choose, h1.choose_spec, h2⟩))
            have DJ := Lib.hid hd; have OB := Lib.hid hrow
            have KW := Lib.hid (KW.out.trans hk); have XW := Lib.hid (Below.trans XW.out (hk.below XW.out.size)); have XB : Hid (wb.heap.size ≤ e6.heap.size) := Lib.hid (Nat.le_trans XB.out hgr.size)
            clear hrow hgr hfr hk hown hd
            first | refine hK.out _ _ ?_ (fun hHeld => ?_) | (go_wp2_with fail; refine hK.out _ _ ?_ (fun hHeld => ?_))
            · exact ⟨lc4 LC.out XW.out, VC.out.c3 XW.out⟩
            clear hK K
            (try simp only [Act.put, List.getElem_toArray, List.getElem_cons_zero, List.getElem_cons_succ, List.setIfInBounds_toArray, List.set_cons_zero, List.set_cons_succ])
            exact HV e6 ua ub N1n N2n ⟨OA.out, OB.out, DJ.out, XW.out, ⟨lc4 LC.out XW.out, VC.out.c3 XW.out⟩⟩
          · go_simp
            have hx : Ext e3 ((e3.alloc (.cells #[.bool rz.neg, .slice z1 rz.num.length z2, .slice z3 rz.den.length z4] 33))) := (Ext.refl _).alloc _
            have bz : Blk ((e3.alloc (.cells #[.bool rz.neg, .slice z1 rz.num.length z2, .slice z3 rz.den.length z4] 33))) e3.heap.size [.bool rz.neg, .slice z1 rz.num.length z2, .slice z3 rz.den.length z4].toArray 33 := Blk.new e3 #[.bool rz.neg, .slice z1 rz.num.length z2, .slice z3 rz.den.length z4] 33
            obtain ⟨e4, hwe4⟩ : ∃ W, W = (e3.alloc (.cells #[.bool rz.neg, .slice z1 rz.num.length z2, .slice z3 rz.den.length z4] 33)) := ⟨_, rfl⟩
            rw [← hwe4] at hx bz ⊢
            obtain ⟨N2n, hN2n⟩ : ∃ n, n = e3.heap.size := ⟨_, rfl⟩
            rw [← hN2n] at bz ⊢
            have hnb : wb.heap.size ≤ N2n := by rw [hN2n]; exact XB.out
            have OA := Lib.hid (OwRs.ext' OA.out hx); have OB := Lib.hid (OwRs.ext' OB.out hx); have EA := Lib.hid (EA.out.ext hx); have EB := Lib.hid (EB.out.ext hx); have KW := Lib.hid (KW.out.trans (Keeps.ext hx)); have XW := Lib.hid (Ext.to XW.out hx XW.out.size)
            have N1 := Lib.hid (N1.out.ext hx)
            have LN2 := Lib.hid hnb; have XB : Hid (wb.heap.size ≤ e4.heap.size) := Lib.hid (Nat.le_trans hnb (Nat.le_of_lt bz.lt))
            have N2 := Lib.hid bz; clear hx bz hwe4 hN2n hnb
            first | refine hK.out _ _ ?_ (fun hHeld => ?_) | (go_wp2_with fail; refine hK.out _ _ ?_ (fun hHeld => ?_))
            · exact ⟨lc4 LC.out XW.out, VC.out.c3 XW.out⟩
            clear hK K
            (try simp only [Act.put, List.getElem_toArray, List.getElem_cons_zero, List.getElem_cons_succ, List.setIfInBounds_toArray, List.set_cons_zero, List.set_cons_succ])
            refine wpAnyH_ready (rs := [7]) (by kernel_rfl) (by simp) ?_
            refine AllReadyH.cons rfl (fun K hK => ?_) ?_
            rotate_left
            · exact AllReadyH.nil
            rw [if_pos (wanted_none rfl)]
            refine wp_append_rowF e4 _ _ _ rfl wl.heap.size 33 (.agg #[.bool false, .slice none 0 0, .slice none 0 0]) 3 56 Tryz.underlying24 Tryz.infoR rfl (by decide) (ElR.keeps (by decide)) _ _ OA.out rfl [.bool ry.neg, .slice a1 ry.num.length c1, .slice a2 ry.den.length c2] rfl (by simp [Value.oneCell']) ry EA.out N1n N1.out rfl (by rw [LA.out]; omega) (by rw [LA.out]; omega) XW.out.size ?_
            intro g5 cap5 e5 hrow hgr hfr
            have hk := OwRs.gKeeps OA.out hgr
            have hown : (Value.slice (some ⟨g5, 0, none⟩) (((WL.map (·.2)).take k).length + 1) cap5).ownBlock = some g5 := rfl
            obtain ⟨ua, hu⟩ : ∃ u, u = Value.slice (some ⟨g5, 0, none⟩) (((WL.map (·.2)).take k).length + 1) cap5 := ⟨_, rfl⟩
            rw [← hu] at hrow hown ⊢
            clear hu
            have hd := dj_step DJ.out BLT.out hown (hfr.imp id (Nat.le_trans XB.out))
            have OB := Lib.hid (OwRs.kept OB.out hgr (dj_ne DJ.out) (fun n hn => by obtain ⟨h1, h2, _⟩ := OwRs.own_at OA.out hn; exact ⟨h1.choose, h1.choose_spec, h2⟩))
            have EB := Lib.hid (ElR.keeps (by decide) _ _ _ _ EB.out hk)
            have N2 : Hid (Blk e5 N2n [.bool rz.neg, .slice z1 rz.num.length z2, .slice z3 rz.den.length z4].toArray 33) := Lib.hid ((hgr.block _ N2.out.lt (fun e => by have := ALT.out _ e.symm; have := LN2.out; omega)).trans N2.out)
            have DJ := Lib.hid hd; have OA := Lib.hid hrow; have ALT : Hid (∀ n, ua.ownBlock = some n → n < e5.heap.size) := Lib.hid (fun n (h : ua.ownBlock = some n) => (OwRs.own_at hrow h).2.2)
            have KW := Lib.hid (KW.out.trans hk); have XW := Lib.hid (Below.trans XW.out (hk.below XW.out.size)); have XB : Hid (wb.heap.size ≤ e5.heap.size) := Lib.hid (Nat.le_trans XB.out hgr.size)
            have EA9 := EA
            clear hrow hgr hfr hk hown hd EA9
            first | refine hK.out _ _ ?_ (fun hHeld => ?_) | (go_wp2_with fail; refine hK.out _ _ ?_ (fun hHeld => ?_))
            · exact ⟨lc4 LC.out XW.out, VC.out.c3 XW.out⟩
            clear hK K
            (try simp only [Act.put, List.getElem_toArray, List.getElem_cons_zero, List.getElem_cons_succ, List.setIfInBounds_toArray, List.set_cons_zero, List.set_cons_succ])
            refine wpAnyH_ready (rs := [18]) (by kernel_rfl) (by simp) ?_
            refine AllReadyH.cons rfl (fun K hK => ?_) ?_
            rotate_left
            · exact AllReadyH.nil
            rw [if_pos (wanted_none rfl)]
            refine wp_append_rowF e5 _ _ _ rfl wl.heap.size 33 (.agg #[.bool false, .slice none 0 0, .slice none 0 0]) 3 56 Tryz.underlying24 Tryz.infoR rfl (by decide) (ElR.keeps (by decide)) _ _ OB.out rfl [.bool rz.neg, .slice z1 rz.num.length z2, .slice z3 rz.den.length z4] rfl (by simp [Value.oneCell']) rz EB.out N2n N2.out rfl (by rw [LB.out]; omega) (by rw [LB.out]; omega) XW.out.size ?_
            intro g6 cap6 e6 hrow hgr hfr
            have hk := OwRs.gKeeps OB.out hgr
            have hown : (Value.slice (some ⟨g6, 0, none⟩) (((WL.map fun y => vals.getD y.1 zR).take k).length + 1) cap6).ownBlock = some g6 := rfl
            obtain ⟨ub, hu⟩ : ∃ u, u = Value.slice (some ⟨g6, 0, none⟩) (((WL.map fun y => vals.getD y.1 zR).take k).length + 1) cap6 := ⟨_, rfl⟩
            rw [← hu] at hrow hown ⊢
            clear hu
            have hd := dj_symm (dj_step (dj_symm DJ.out) ALT.out hown hfr)
            have OA := Lib.hid (OwRs.kept OA.out hgr (dj_ne (dj_symm DJ.out)) (fun n hn => by obtain ⟨h1, h2, _⟩ := OwRs.own_at OB.out hn; exact ⟨h1.choose, h1.choose_spec, h2⟩))
            have DJ := Lib.hid hd; have OB := Lib.hid hrow
            have KW := Lib.hid (KW.out.trans hk); have XW := Lib.hid (Below.trans XW.out (hk.below XW.out.size)); have XB : Hid (wb.heap.size ≤ e6.heap.size) := Lib.hid (Nat.le_trans XB.out hgr.size)
            clear hrow hgr hfr hk hown hd
            first | refine hK.out _ _ ?_ (fun hHeld => ?_) | (go_wp2_with fail; refine hK.out _ _ ?_ (fun hHeld => ?_))
            · exact ⟨lc4 LC.out XW.out, VC.out.c3 XW.out⟩
            clear hK K
            (try simp only [Act.put, List.getElem_toArray, List.getElem_cons_zero, List.getElem_cons_succ, List.setIfInBounds_toArray, List.set_cons_zero, List.set_cons_succ])
            exact HV e6 ua ub N1n N2n ⟨OA.out, OB.out, DJ.out, XW.out, ⟨lc4 LC.out XW.out, VC.out.c3 XW.out⟩⟩
        · go_simp
          have hx : Ext wb ((wb.alloc (.cells #[.bool rz.neg, .slice z1 rz.num.length z2, .slice z3 rz.den.length z4] 33)).drew) := ((Ext.refl _).alloc _).drew
          have bz : Blk ((wb.alloc (.cells #[.bool rz.neg, .slice z1 rz.num.length z2, .slice z3 rz.den.length z4] 33)).drew) wb.heap.size [.bool rz.neg, .slice z1 rz.num.length z2, .slice z3 rz.den.length z4].toArray 33 := (Blk.new wb #[.bool rz.neg, .slice z1 rz.num.length z2, .slice z3 rz.den.length z4] 33).drew
          obtain ⟨e3, hwe3⟩ : ∃ W, W = (wb.alloc (.cells #[.bool rz.neg, .slice z1 rz.num.length z2, .slice z3 rz.den.length z4] 33)).drew := ⟨_, rfl⟩
          rw [← hwe3] at hx bz ⊢
          obtain ⟨N2n, hN2n⟩ : ∃ n, n = wb.heap.size := ⟨_, rfl⟩
          rw [← hN2n] at bz ⊢
          have hnb : wb.heap.size ≤ N2n := by rw [hN2n]; exact XB.out
          have OA := Lib.hid (OwRs.ext' OA.out hx); have OB := Lib.hid (OwRs.ext' OB.out hx); have EA := Lib.hid (EA.out.ext hx); have EB := Lib.hid (EB.out.ext hx); have KW := Lib.hid (KW.out.trans (Keeps.ext hx)); have XW := Lib.hid (Ext.to XW.out hx XW.out.size)
          have LN2 := Lib.hid hnb; have XB : Hid (wb.heap.size ≤ e3.heap.size) := Lib.hid (Nat.le_trans hnb (Nat.le_of_lt bz.lt))
          have N2 := Lib.hid bz; clear hx bz hwe3 hN2n hnb
          first | refine hK.out _ _ ?_ (fun hHeld => ?_) | (go_wp2_with fail; refine hK.out _ _ ?_ (fun hHeld => ?_))
          · exact ⟨lc4 LC.out XW.out, VC.out.c3 XW.out⟩
          clear hK K
          (try simp only [Act.put, List.getElem_toArray, List.getElem_cons_zero, List.getElem_cons_succ, List.setIfInBounds_toArray, List.set_cons_zero, List.set_cons_succ])
          refine wpAnyH_ready (rs := [6]) (by kernel_rfl) (by simp) ?_
          refine AllReadyH.cons rfl (fun K hK => ?_) ?_
          rotate_left
          · exact AllReadyH.nil
          go_simp
          have hx : Ext e3 ((e3.alloc (.cells #[.bool ry.neg, .slice a1 ry.num.length c1, .slice a2 ry.den.length c2] 33))) := (Ext.refl _).alloc _
          have bz : Blk ((e3.alloc (.cells #[.bool ry.neg, .slice a1 ry.num.length c1, .slice a2 ry.den.length c2] 33))) e3.heap.size [.bool ry.neg, .slice a1 ry.num.length c1, .slice a2 ry.den.length c2].toArray 33 := Blk.new e3 #[.bool ry.neg, .slice a1 ry.num.length c1, .slice a2 ry.den.length c2] 33
          obtain ⟨e4, hwe4⟩ : ∃ W, W = (e3.alloc (.cells #[.bool ry.neg, .slice a1 ry.num.length c1, .slice a2 ry.den.length c2] 33)) := ⟨_, rfl⟩
          rw [← hwe4] at hx bz ⊢
          obtain ⟨N1n, hN1n⟩ : ∃ n, n = e3.heap.size := ⟨_, rfl⟩
          rw [← hN1n] at bz ⊢
          have hnb : wb.heap.size ≤ N1n := by rw [hN1n]; exact XB.out
          have OA := Lib.hid (OwRs.ext' OA.out hx); have OB := Lib.hid (OwRs.ext' OB.out hx); have EA := Lib.hid (EA.out.ext hx); have EB := Lib.hid (EB.out.ext hx); have KW := Lib.hid (KW.out.trans (Keeps.ext hx)); have XW := Lib.hid (Ext.to XW.out hx XW.out.size)
          have N2 := Lib.hid (N2.out.ext hx)
          have LN1 := Lib.hid hnb; have XB : Hid (wb.heap.size ≤ e4.heap.size) := Lib.hid (Nat.le_trans hnb (Nat.le_of_lt bz.lt))
          have N1 := Lib.hid bz; clear hx bz hwe4 hN1n hnb
          first | refine hK.out _ _ ?_ (fun hHeld => ?_) | (go_wp2_with fail; refine hK.out _ _ ?_ (fun hHeld => ?_))
          · exact ⟨lc4 LC.out XW.out, VC.out.c3 XW.out⟩
          clear hK K
          (try simp only [Act.put, List.getElem_toArray, List.getElem_cons_zero, List.getElem_cons_succ, List.setIfInBounds_toArray, List.set_cons_zero, List.set_cons_succ])
          refine wpAnyH_ready (rs := [7]) (by kernel_rfl) (by simp) ?_
          refine AllReadyH.cons rfl (fun K hK => ?_) ?_
          rotate_left
          · exact AllReadyH.nil
          rw [if_pos (wanted_none rfl)]
          refine wp_append_rowF e4 _ _ _ rfl wl.heap.size 33 (.agg #[.bool false, .slice none 0 0, .slice none 0 0]) 3 56 Tryz.underlying24 Tryz.infoR rfl (by decide) (ElR.keeps (by decide)) _ _ OA.out rfl [.bool ry.neg, .slice a1 ry.num.length c1, .slice a2 ry.den.length c2] rfl (by simp [Value.oneCell']) ry EA.out N1n N1.out rfl (by rw [LA.out]; omega) (by rw [LA.out]; omega) XW.out.size ?_
          intro g5 cap5 e5 hrow hgr hfr
          have hk := OwRs.gKeeps OA.out hgr
          have hown : (Value.slice (some ⟨g5, 0, none⟩) (((WL.map (·.2)).take k).length + 1) cap5).ownBlock = some g5 := rfl
          obtain ⟨ua, hu⟩ : ∃ u, u = Value.slice (some ⟨g5, 0, none⟩) (((WL.map (·.2)).take k).length + 1) cap5 := ⟨_, rfl⟩
          rw [← hu] at hrow hown ⊢
          clear hu
          have hd := dj_step DJ.out BLT.out hown (hfr.imp id (Nat.le_trans XB.out))
          have OB := Lib.hid (OwRs.kept OB.out hgr (dj_ne DJ.out) (fun n hn => by obtain ⟨h1, h2, _⟩ := OwRs.own_at OA.out hn; exact ⟨h1.choose, h1.choose_spec, h2⟩))
          have EB := Lib.hid (ElR.keeps (by decide) _ _ _ _ EB.out hk)
          have N2 : Hid (Blk e5 N2n [.bool rz.neg, .slice z1 rz.num.length z2, .slice z3 rz.den.length z4].toArray 33) := Lib.hid ((hgr.block _ N2.out.lt (fun e => by have := ALT.out _ e.symm; have := LN2.out; omega)).trans N2.out)
          have DJ := Lib.hid hd; have OA := Lib.hid hrow; have ALT : Hid (∀ n, ua.ownBlock = some n → n < e5.heap.size) := Lib.hid (fun n (h : ua.ownBlock = some n) => (OwRs.own_at hrow h).2.2)
          have KW := Lib.hid (KW.out.trans hk); have XW := Lib.hid (Below.trans XW.out (hk.below XW.out.size)); have XB : Hid (wb.heap.size ≤ e5.heap.size) := Lib.hid (Nat.le_trans XB.out hgr.size)
          have EA9 := EA
          clear hrow hgr hfr hk hown hd EA9
          first | refine hK.out _ _ ?_ (fun hHeld => ?_) | (go_wp2_with fail; refine hK.out _ _ ?_ (fun hHeld => ?_))
          · exact ⟨lc4 LC.out XW.out, VC.out.c3 XW.out⟩
          clear hK K
          (try simp only [Act.put, List.getElem_toArray, List.getElem_cons_zero, List.getElem_cons_succ, List.setIfInBounds_toArray, List.set_cons_zero, List.set_cons_succ])
          refine wpAnyH_ready (rs := [18]) (by kernel_rfl) (by simp) ?_
          refine AllReadyH.cons rfl (fun K hK => ?_) ?_
          rotate_left
          · exact AllReadyH.nil
          rw [if_pos (wanted_none rfl)]
          refine wp_append_rowF e5 _ _ _ rfl wl.heap.size 33 (.agg #[.bool false, .slice none 0 0, .slice none 0 0]) 3 56 Tryz.underlying24 Tryz.infoR rfl (by decide) (ElR.keeps (by decide)) _ _ OB.out rfl [.bool rz.neg, .slice z1 rz.num.length z2, .slice z3 rz.den.length z4] rfl (by simp [Value.oneCell']) rz EB.out N2n N2.out rfl (by rw [LB.out]; omega) (by rw [LB.out]; omega) XW.out.size ?_
          intro g6 cap6 e6 hrow hgr hfr
          have hk := OwRs.gKeeps OB.out hgr
          have hown : (Value.slice (some ⟨g6, 0, none⟩) (((WL.map fun y => vals.getD y.1 zR).take k).length + 1) cap6).ownBlock = some g6 := rfl
          obtain ⟨ub, hu⟩ : ∃ u, u = Value.slice (some ⟨g6, 0, none⟩) (((WL.map fun y => vals.getD y.1 zR).take k).length + 1) cap6 := ⟨_, rfl⟩
          rw [← hu] at hrow hown ⊢
          clear hu
          have hd := dj_symm (dj_step (dj_symm DJ.out) ALT.out hown hfr)
          have OA := Lib.hid (OwRs.kept OA.out hgr (dj_ne (dj_symm DJ.out)) (fun n hn => by obtain ⟨h1, h2, _⟩ := OwRs.own_at OB.out hn; exact ⟨h1.choose, h1.choose_spec, h2⟩))
          have DJ := Lib.hid hd; have OB := Lib.hid hrow
          have KW := Lib.hid (KW.out.trans hk); have XW := Lib.hid (Below.trans XW.out (hk.below XW.out.size)); have XB : Hid (wb.heap.size ≤ e6.heap.size) := Lib.hid (Nat.le_trans XB.out hgr.size)
          clear hrow hgr hfr hk hown hd
          first | refine hK.out _ _ ?_ (fun hHeld => ?_) | (go_wp2_with fail; refine hK.out _ _ ?_ (fun hHeld => ?_))
          · exact ⟨lc4 LC.out XW.out, VC.out.c3 XW.out⟩
          clear hK K
          (try simp only [Act.put, List.getElem_toArray, List.getElem_cons_zero, List.getElem_cons_succ, List.setIfInBounds_toArray, List.set_cons_zero, List.set_cons_succ])
          exact HV e6 ua ub N1n N2n ⟨OA.out, OB.out, DJ.out, XW.out, ⟨lc4 LC.out XW.out, VC.out.c3 XW.out⟩⟩
      · intro W xa yb n1 n2 hW
        obtain ⟨oa, ob, dj, xx, hSW⟩ := hW
        have O1 := Lib.hid oa; have O2 := Lib.hid ob; have D9 := Lib.hid dj; have X9 := Lib.hid xx
        clear oa ob dj xx
        refine wpAnyH_take (i := 19) (v := ?_) rfl (by kernel_rfl) (by kernel_rfl) (by kernel_rfl) (fun _ _ _ h => h) (Or.inl ⟨by rfl, ?_⟩) (by assumption) ?_
        rotate_left
        · (intro w hSw; (try dsimp only at hSw); go_simp; first | done | with_reducible rfl)
        (try simp only [Act.put, List.getElem_toArray, List.getElem_cons_zero, List.getElem_cons_succ, List.setIfInBounds_toArray, List.set_cons_zero, List.set_cons_succ])
        refine wpAnyH_take (i := 20) (v := ?_) rfl (by kernel_rfl) (by kernel_rfl) (by kernel_rfl) (fun _ _ _ h => h) (Or.inl ⟨by rfl, ?_⟩) (by assumption) ?_
        rotate_left
        · (intro w hSw; (try dsimp only at hSw); go_simp; first | done | with_reducible rfl)
        (try simp only [Act.put, List.getElem_toArray, List.getElem_cons_zero, List.getElem_cons_succ, List.setIfInBounds_toArray, List.set_cons_zero, List.set_cons_succ])
        refine wpAnyH_done (by kernel_rfl) ?_ _
        go_wp2_with fail
        go_roundw
        case rel => exact ⟨k + 1, by omega, by go_num, by rw [TA.out]; exact O1.out, by rw [TB.out]; exact O2.out, D9.out, X9.out⟩
        case measure => simp [intOf]; omega
    · obtain rfl : k = WL.length := by omega
      have tA : (WL.map (·.2)).take WL.length = WL.map (·.2) := List.take_of_length_le (by rw [List.length_map]; exact Nat.le_refl _)
      have tB : (WL.map fun y => vals.getD y.1 zR).take WL.length = WL.map fun y => vals.getD y.1 zR := List.take_of_length_le (by rw [List.length_map]; exact Nat.le_refl _)
      rw [tA] at OA ⊢
      rw [tB] at OB ⊢
      clear DJ tA tB
      have r1 := OA.out.rd
      have r2 := OB.out.rd
      rw [List.length_map] at r1 r2
      have l1 : LimL (WL.map (·.2)) := by
        intro i hi
        rw [List.length_map] at hi
        rw [List.getD_eq_getElem?_getD, List.getElem?_map, List.getElem?_eq_getElem hi]
        obtain ⟨_, p, hp⟩ := HMEM.out i _ (List.getElem?_eq_getElem hi)
        dsimp only [Option.map_some, Option.getD_some]
        rw [hp]
        exact limR_rep p
      have l2 : LimL (WL.map fun y => vals.getD y.1 zR) := by
        intro i hi
        rw [List.length_map] at hi
        rw [List.getD_eq_getElem?_getD, List.getElem?_map, List.getElem?_eq_getElem hi]
        have := (HMEM.out i _ (List.getElem?_eq_getElem hi)).1
        exact HLV.out _ (by rw [HL.out]; exact this)
      obtain ⟨LA, hLA⟩ : ∃ L, L = WL.map (·.2) := ⟨_, rfl⟩
      obtain ⟨LB, hLB⟩ : ∃ L, L = WL.map fun y => vals.getD y.1 zR := ⟨_, rfl⟩
      have n1 : LA.length = WL.length := by rw [hLA, List.length_map]
      have n2 : LB.length = WL.length := by rw [hLB, List.length_map]
      rw [← hLA] at r1 l1 E ⊢
      rw [← hLB] at r2 l2 E ⊢
      have hd := refDotR_any _ _ LA LB wq r1 r2 l1 l2
      rw [n1, n2]
      obtain ⟨⟨t, te⟩, ht⟩ : ∃ r, r = dotR LA LB := ⟨_, rfl⟩
      rw [← ht] at hd E
      have HD := Lib.hid hd
      have A0 := Lib.hid (A0.out.ext XK.out)
      have X := Lib.hid (X.out.trans XK.out); have X0 := X
      clear hd ht n1 n2 hLA hLB r1 r2 l1 l2 OA OB
      go_wp2_with fail
      refine (HD.out).mono ?_
      rintro e w3 ⟨⟨v, hv9, nn⟩, hx⟩
      have A0 := Lib.hid (A0.out.ext hx); have X := Lib.hid (X.out.trans hx)
      dsimp only at hv9 nn
      subst hv9
      obtain ⟨s1, s2, s3, s4, rfl⟩ := nn.shape
      have NS := Lib.hid (NewR.from nn X0.out); clear nn hx
      have qA0 := A0.out.cell; have fA0 := A0.out.free; have lA0 := A0.out.lt
      go_wp2_with fail
      clear qA0 fA0 lA0
      have hb2 := A0.out.all3 (.bool t.neg) (.slice s1 t.num.length s2) (.slice s3 t.den.length s4)
      have hn2 := NS.out.set3b A0.out (by decide) (.bool t.neg) (.slice s1 t.num.length s2) (.slice s3 t.den.length s4)
      have hx2 : Ext w _ := ((X.out.set (p := ⟨w.heap.size, 0, none⟩) (Nat.le_refl _) (.bool t.neg)).set (p := ⟨w.heap.size, 1, none⟩) (Nat.le_refl _) (.slice s1 t.num.length s2)).set (p := ⟨w.heap.size, 2, none⟩) (Nat.le_refl _) (.slice s3 t.den.length s4)
      have HN2 := Lib.hid hn2; have HX2 := Lib.hid hx2
      clear hn2 hx2
      refine bodyPost_ret (v := .tuple #[.agg #[.bool t.neg, .slice s1 t.num.length s2, .slice s3 t.den.length s4], .int .i64 te]) (by have k1 := hb2.cell; have k2 := hb2.free; have k3 := hb2.lt; clear hb2; simp only [results, Tryz.results10]; go_simp) rfl ⟨ResR.mk (l := t) HN2.out E.out, HX2.out⟩
end Go.Proofs.YtlbppdgijjbjbaaGreat
