/- Part of the proof of imatL_holds: what the row needs of Ri7c. Conditions: as each theorem states. -/
import Derived.Test.YthkfkfbfblppeaaGreatSwRi7
import Derived.Test.YthkfkfbfblppeaaGreatSwGL
import Derived.Test.YthkfkfbfblppeaaGreatSwGM
import Derived.Test.YthkfkfbfblppeaaGreatSwRatRb
import Derived.Test.YthkfkfbfblppeaaGreatSwEachF
import Derived.Test.YthkfkfbfblppeaaGreatSwRwR
namespace Go.Proofs.YthkfkfbfblppeaaGreat
set_option linter.unusedSimpArgs false
set_option linter.unusedVariables false
open Go.RowKit
def rw5J (b o n ca i i1 : Nat) (xx y0 y1 p q : Int) (r : RR) (e : Int) (wq : World) (j : Nat) (v : Value) (W : World) : Prop :=
  match j with
  | 0 => v = .slice (some ⟨b, o, none⟩) n ca
  | 1 => v = .int .i64 i
  | 2 => v = .int .i64 i1
  | 3 => v = .pointer (some ⟨b, o + i1, none⟩)
  | 4 => v = .int .i64 y1
  | 5 => v = .int .i64 xx
  | 6 => v = .int .i64 p
  | 7 => v = .slice (some ⟨b, o, none⟩) n ca
  | 8 => v = .int .i64 i
  | 9 => v = .int .i64 i1
  | 10 => v = .pointer (some ⟨b, o + i1, none⟩)
  | 11 => v = .int .i64 y1
  | 12 => v = .slice (some ⟨b, o, none⟩) n ca
  | 13 => v = .int .i64 i
  | 14 => v = .pointer (some ⟨b, o + i, none⟩)
  | 15 => v = .int .i64 y0
  | 16 => v = .int .i64 q
  | 17 => ∃ s1 s2 s3 s4, v = .tuple #[.agg #[.bool r.neg, .slice s1 r.num.length s2, .slice s3 r.den.length s4], .int .i64 e] ∧ NewR wq W (.agg #[.bool r.neg, .slice s1 r.num.length s2, .slice s3 r.den.length s4]) r
  | 18 => ∃ s1 s2 s3 s4, v = .tuple #[.agg #[.bool r.neg, .slice s1 r.num.length s2, .slice s3 r.den.length s4], .int .i64 e] ∧ NewR wq W (.agg #[.bool r.neg, .slice s1 r.num.length s2, .slice s3 r.den.length s4]) r
  | 19 => ∃ s1 s2 s3 s4, v = .agg #[.bool r.neg, .slice s1 r.num.length s2, .slice s3 r.den.length s4] ∧ NewR wq W (.agg #[.bool r.neg, .slice s1 r.num.length s2, .slice s3 r.den.length s4]) r
  | 20 => v = .int .i64 e
  | _ => True
theorem rw5J_ext {b o n ca i i1 : Nat} {xx y0 y1 p q : Int} {r : RR} {e : Int} {wq : World} {j : Nat} {v : Value} {W W' : World} (h : rw5J b o n ca i i1 xx y0 y1 p q r e wq j v W) (x : Ext W W') : rw5J b o n ca i i1 xx y0 y1 p q r e wq j v W' := by
  match j, h with
  | 0, h => exact h
  | 1, h => exact h
  | 2, h => exact h
  | 3, h => exact h
  | 4, h => exact h
  | 5, h => exact h
  | 6, h => exact h
  | 7, h => exact h
  | 8, h => exact h
  | 9, h => exact h
  | 10, h => exact h
  | 11, h => exact h
  | 12, h => exact h
  | 13, h => exact h
  | 14, h => exact h
  | 15, h => exact h
  | 16, h => exact h
  | 17, ⟨s1, s2, s3, s4, h1, h2⟩ => exact ⟨s1, s2, s3, s4, h1, h2.ext x⟩
  | 18, ⟨s1, s2, s3, s4, h1, h2⟩ => exact ⟨s1, s2, s3, s4, h1, h2.ext x⟩
  | 19, ⟨s1, s2, s3, s4, h1, h2⟩ => exact ⟨s1, s2, s3, s4, h1, h2.ext x⟩
  | 20, h => exact h
  | _ + 21, _ => trivial
def rw7J (b o n ca i i1 : Nat) (xx y0 y1 p q : Int) (r : RR) (e : Int) (wq : World) (j : Nat) (v : Value) (W : World) : Prop :=
  match j with
  | 0 => v = .int .i64 xx
  | 1 => v = .slice (some ⟨b, o, none⟩) n ca
  | 2 => v = .int .i64 i
  | 3 => v = .int .i64 i1
  | 4 => v = .pointer (some ⟨b, o + i1, none⟩)
  | 5 => v = .int .i64 y1
  | 6 => v = .int .i64 p
  | 7 => v = .slice (some ⟨b, o, none⟩) n ca
  | 8 => v = .int .i64 i
  | 9 => v = .pointer (some ⟨b, o + i, none⟩)
  | 10 => v = .int .i64 y0
  | 11 => v = .slice (some ⟨b, o, none⟩) n ca
  | 12 => v = .int .i64 i
  | 13 => v = .int .i64 i1
  | 14 => v = .pointer (some ⟨b, o + i1, none⟩)
  | 15 => v = .int .i64 y1
  | 16 => v = .int .i64 q
  | 17 => ∃ s1 s2 s3 s4, v = .tuple #[.agg #[.bool r.neg, .slice s1 r.num.length s2, .slice s3 r.den.length s4], .int .i64 e] ∧ NewR wq W (.agg #[.bool r.neg, .slice s1 r.num.length s2, .slice s3 r.den.length s4]) r
  | 18 => ∃ s1 s2 s3 s4, v = .tuple #[.agg #[.bool r.neg, .slice s1 r.num.length s2, .slice s3 r.den.length s4], .int .i64 e] ∧ NewR wq W (.agg #[.bool r.neg, .slice s1 r.num.length s2, .slice s3 r.den.length s4]) r
  | 19 => ∃ s1 s2 s3 s4, v = .agg #[.bool r.neg, .slice s1 r.num.length s2, .slice s3 r.den.length s4] ∧ NewR wq W (.agg #[.bool r.neg, .slice s1 r.num.length s2, .slice s3 r.den.length s4]) r
  | 20 => v = .int .i64 e
  | _ => True
theorem rw7J_ext {b o n ca i i1 : Nat} {xx y0 y1 p q : Int} {r : RR} {e : Int} {wq : World} {j : Nat} {v : Value} {W W' : World} (h : rw7J b o n ca i i1 xx y0 y1 p q r e wq j v W) (x : Ext W W') : rw7J b o n ca i i1 xx y0 y1 p q r e wq j v W' := by
  match j, h with
  | 0, h => exact h
  | 1, h => exact h
  | 2, h => exact h
  | 3, h => exact h
  | 4, h => exact h
  | 5, h => exact h
  | 6, h => exact h
  | 7, h => exact h
  | 8, h => exact h
  | 9, h => exact h
  | 10, h => exact h
  | 11, h => exact h
  | 12, h => exact h
  | 13, h => exact h
  | 14, h => exact h
  | 15, h => exact h
  | 16, h => exact h
  | 17, ⟨s1, s2, s3, s4, h1, h2⟩ => exact ⟨s1, s2, s3, s4, h1, h2.ext x⟩
  | 18, ⟨s1, s2, s3, s4, h1, h2⟩ => exact ⟨s1, s2, s3, s4, h1, h2.ext x⟩
  | 19, ⟨s1, s2, s3, s4, h1, h2⟩ => exact ⟨s1, s2, s3, s4, h1, h2.ext x⟩
  | 20, h => exact h
  | _ + 21, _ => trivial
set_option maxRecDepth 100000 in
set_option maxHeartbeats 8000000 in
theorem refWeight7_any (v : Value) (c : List Int) (i : Nat) (x : Int) (w : World) (h : RdI .i64 w v c) (hi : i < c.length) (hl : c.length ≤ 32) (hasc : Asc c) (hb : SmallC c) (hx0 : -1073741824 ≤ x) (hx1 : x ≤ 1073741824) :
    Calls Tryz.prog 68 #[v, .int .i64 i, .int .i64 x] w fun e w' => (∃ v, e = .returned v ∧ NewR w w' v (rep (wt c x i))) ∧ Ext w w' := by
  obtain ⟨a, ca, rfl, hcc, hcm, hr⟩ := h.get
  obtain ⟨b, o, rfl, hbw, k0⟩ := hr i hi
  have HR : Hid (∀ j, j < c.length → w.cell? ⟨b, o + j, none⟩ = some (.int .i64 (c.getD j 0))) := Lib.hid fun j hj => by
    obtain ⟨b2, o2, e, _, k⟩ := hr j hj
    injection e with e
    injection e with e1 e2
    subst e1; subst e2
    exact k
  have HB := Lib.hid hb; have HASC := Lib.hid hasc; have HBW := Lib.hid hbw
  have hw : wt c x i = wt c x i := rfl
  obtain ⟨y0, hy0⟩ : ∃ y, y = c.getD i 0 := ⟨_, rfl⟩
  rw [← hy0] at k0
  have by0 := hb i hi
  rw [← hy0] at by0
  have HY0 := Lib.hid hy0
  clear hy0
  clear h hcc hcm hr hw hb hasc
  have bb0 := ((Blk.new w #[.bool false, .slice none 0 0, .slice none 0 0] 62).alloc (.cells #[.bool false, .slice none 0 0, .slice none 0 0] 62))
  have bb1 := (Blk.new (w.alloc (.cells #[.bool false, .slice none 0 0, .slice none 0 0] 62)) #[.bool false, .slice none 0 0, .slice none 0 0] 62)
  rw [World.size_alloc] at bb1
  have x0 : Ext w ((w.alloc (.cells #[.bool false, .slice none 0 0, .slice none 0 0] 62)).alloc (.cells #[.bool false, .slice none 0 0, .slice none 0 0] 62)) := (((Ext.refl w).alloc _).alloc _)
  have A0 := Lib.hid bb0; have A1 := Lib.hid bb1; have X := Lib.hid x0
  clear x0 bb0 bb1
  have hn0 : w.heap.size < w.heap.size + 1 := by omega
  have c0 := (X.out.cell (p := ⟨b, o + i, none⟩) hbw).trans k0
  have lb := Nat.lt_of_lt_of_le hbw X.out.size
  go_enter Tryz.func68, Tryz.ntmps68
  by_cases e0 : x = y0
  · have hq : (x == y0) = true := by simp [e0]
    have E0 := Lib.hid e0
    clear e0
    have qA0 := A0.out.cell; have fA0 := A0.out.free; have lA0 := A0.out.lt; have qA1 := A1.out.cell; have fA1 := A1.out.free; have lA1 := A1.out.lt
    go_wp2_with fail
    clear qA0 fA0 lA0 qA1 fA1 lA1
    refine (refFromR_any 1 _ (by decide) (by decide)).mono ?_
    rintro e w1 ⟨⟨v, rfl, nn⟩, hx⟩
    obtain ⟨s1, s2, s3, s4, rfl⟩ := nn.shape
    have NY := Lib.hid (nn.from X.out)
    have A0 := Lib.hid (A0.out.ext hx); have X := Lib.hid (X.out.trans hx)
    clear nn hx c0 lb
    obtain ⟨r, hr⟩ : ∃ r, r = rep ((1 : Int) : Rat) := ⟨_, rfl⟩
    rw [← hr] at NY ⊢
    have HR1 := Lib.hid hr
    clear hr
    have qA0 := A0.out.cell; have fA0 := A0.out.free; have lA0 := A0.out.lt
    go_wp2_with fail
    clear qA0 fA0 lA0
    have hb6 := A0.out.all3 (.bool r.neg) (.slice s1 r.num.length s2) (.slice s3 r.den.length s4)
    have hx6 : Ext w (((w1.setCell ⟨w.heap.size, 0, none⟩ (.bool r.neg)).setCell ⟨w.heap.size, 1, none⟩ (.slice s1 r.num.length s2)).setCell ⟨w.heap.size, 2, none⟩ (.slice s3 r.den.length s4)) := ext_put3 (o := 0) X.out (Nat.le_refl _)
    have hn6 : NewR w (((w1.setCell ⟨w.heap.size, 0, none⟩ (.bool r.neg)).setCell ⟨w.heap.size, 1, none⟩ (.slice s1 r.num.length s2)).setCell ⟨w.heap.size, 2, none⟩ (.slice s3 r.den.length s4)) (.agg #[.bool r.neg, .slice s1 r.num.length s2, .slice s3 r.den.length s4]) r := NY.out.set3b A0.out (by decide) _ _ _
    obtain ⟨W6, hW6⟩ : ∃ W, W = (((w1.setCell ⟨w.heap.size, 0, none⟩ (.bool r.neg)).setCell ⟨w.heap.size, 1, none⟩ (.slice s1 r.num.length s2)).setCell ⟨w.heap.size, 2, none⟩ (.slice s3 r.den.length s4)) := ⟨_, rfl⟩
    rw [← hW6] at hb6 hx6 hn6 ⊢
    have HX6 := Lib.hid hx6; have HN6 := Lib.hid hn6
    have heq : r = rep (wt c x i) := by rw [HR1.out]; unfold wt; rw [← HY0.out, if_pos E0.out]; rfl
    have HEQ := Lib.hid heq
    clear hW6 hx6 hn6 heq
    refine bodyPost_ret (v := .agg #[.bool r.neg, .slice s1 r.num.length s2, .slice s3 r.den.length s4]) (by have k1 := hb6.cell; have k2 := hb6.free; have k3 := hb6.lt; clear hb6; simp only [results, Tryz.results68]; go_simp) rfl ⟨⟨_, rfl, by rw [← HEQ.out]; exact HN6.out⟩, HX6.out⟩
  have hq : (x == y0) = false := by simp [e0]
  by_cases hgt : y0 < x
  · by_cases p1 : i + 1 < c.length
    · obtain ⟨i1, hi1⟩ : ∃ j, j = i + 1 := ⟨_, rfl⟩
      have k1 := HR.out i1 (by omega)
      have by1 := HB.out i1 (by omega)
      obtain ⟨y1, hy1⟩ : ∃ y, y = c.getD i1 0 := ⟨_, rfl⟩
      rw [← hy1] at k1 by1
      have c1 := (X.out.cell (p := ⟨b, o + i1, none⟩) hbw).trans k1
      have HY1 := Lib.hid hy1; have HI1 := Lib.hid hi1
      have r1 : (i : Int) + 1 = (i1 : Int) := by omega
      have r2 : (i1 : Int) < (c.length : Int) := by omega
      have r3 : (0 : Int) ≤ (i1 : Int) := by omega
      have r4 : (i : Int) < (c.length : Int) := by omega
      clear hy1 hi1 k1
      by_cases hlt : x < y1
      · have hpw : IntKind.i64.wrap (y1 - x) = y1 - x := wrapL (by omega) (by omega)
        have hqw : IntKind.i64.wrap (y1 - y0) = y1 - y0 := wrapL (by omega) (by omega)
        have HPW := Lib.hid hpw; have HQW := Lib.hid hqw; have HW1 := Lib.hid (wrapL (x := (i1 : Int)) (by omega) (by omega))
        clear hpw hqw
        by_cases hi0 : 0 < i
        · have z1 : (0 : Int) < (i : Int) := by omega
          have z2 : ¬ x < y0 := by omega
          have hof := fun W => refOf_any (y1 - x) (y1 - y0) W (by omega) (by omega) (by omega) (by omega)
          obtain ⟨rr, hrr⟩ : ∃ r, r = ofR (y1 - x) (y1 - y0) := ⟨_, rfl⟩
          rw [← hrr] at hof
          obtain ⟨r, e⟩ := rr
          (try dsimp only at hof)
          have HOF := Lib.hid hof
          obtain ⟨pp, hpp⟩ : ∃ z, z = (y1 - x) := ⟨_, rfl⟩
          obtain ⟨qq, hqq⟩ : ∃ z, z = (y1 - y0) := ⟨_, rfl⟩
          rw [← hpp, ← hqq] at HOF
          have HRR := Lib.hid hrr; have HPP := Lib.hid hpp; have HQQ := Lib.hid hqq
          clear hof hrr hpp hqq
          have qA0 := A0.out.cell; have fA0 := A0.out.free; have lA0 := A0.out.lt; have qA1 := A1.out.cell; have fA1 := A1.out.free; have lA1 := A1.out.lt
          go_wp2_with fail
          clear qA0 fA0 lA0 qA1 fA1 lA1
          refine wp_region_each_float 21 20 (rw5J b o c.length ca i i1 x y0 y1 pp qq r e w) rfl (by kernel_rfl) (by kernel_rfl) (by kernel_rfl) (fun _ _ _ _ h x => rw5J_ext h x) (fun _ _ d _ _ h => by cases d <;> exact h) ?_ ?_ ?_
          · refine ⟨?_, ?_, ?_, ?_, ?_, ?_, ?_, ?_, ?_, ?_, ?_, ?_, ?_, ?_, ?_, ?_, ?_, ?_, ?_, ?_, ?_, trivial⟩
            · intro a W hW hB hD K hK
              have b0 := hB 0 rfl
              simp only [Array.getD_eq_getD_getElem?, List.getElem?_toArray, List.getElem?_cons_succ, List.getElem?_cons_zero, Option.getD_some] at b0
              go_simp
              exact hK _ _ (Ext.refl _) rfl
            · intro a W hW hB hD K hK
              have b1 := hB 1 rfl
              simp only [Array.getD_eq_getD_getElem?, List.getElem?_toArray, List.getElem?_cons_succ, List.getElem?_cons_zero, Option.getD_some] at b1
              go_simp
              exact hK _ _ (Ext.refl _) rfl
            · intro a W hW hB hD K hK
              obtain ⟨v40, e40⟩ : ∃ x, a.tmps.getD 40 undef = x := ⟨_, rfl⟩
              have h40 := hD 1 _ 40 rfl rfl (by kernel_rfl)
              rw [e40] at h40
              simp only [Array.getD_eq_getD_getElem?] at e40
              obtain rfl := h40
              go_simp
              first | exact hK _ _ (Ext.refl _) rfl | exact hK _ _ (Ext.refl _) (congrArg (Value.int IntKind.i64) HW1.out)
            · intro a W hW hB hD K hK
              obtain ⟨v39, e39⟩ : ∃ x, a.tmps.getD 39 undef = x := ⟨_, rfl⟩
              have h39 := hD 0 _ 39 rfl rfl (by kernel_rfl)
              rw [e39] at h39
              simp only [Array.getD_eq_getD_getElem?] at e39
              obtain rfl := h39
              obtain ⟨v41, e41⟩ : ∃ x, a.tmps.getD 41 undef = x := ⟨_, rfl⟩
              have h41 := hD 2 _ 41 rfl rfl (by kernel_rfl)
              rw [e41] at h41
              simp only [Array.getD_eq_getD_getElem?] at e41
              obtain rfl := h41
              go_simp
              exact hK _ _ (Ext.refl _) rfl
            · intro a W hW hB hD K hK
              obtain ⟨v42, e42⟩ : ∃ x, a.tmps.getD 42 undef = x := ⟨_, rfl⟩
              have h42 := hD 3 _ 42 rfl rfl (by kernel_rfl)
              rw [e42] at h42
              simp only [Array.getD_eq_getD_getElem?] at e42
              obtain rfl := h42
              have m0 := (hW.cell (p := ⟨b, o + i, none⟩) lb).trans c0
              have m1 := (hW.cell (p := ⟨b, o + i1, none⟩) lb).trans c1
              have ml := Nat.lt_of_lt_of_le lb hW.size
              go_simp
              exact hK _ _ (Ext.refl _) rfl
            · intro a W hW hB hD K hK
              have b2 := hB 2 rfl
              simp only [Array.getD_eq_getD_getElem?, List.getElem?_toArray, List.getElem?_cons_succ, List.getElem?_cons_zero, Option.getD_some] at b2
              go_simp
              exact hK _ _ (Ext.refl _) rfl
            · intro a W hW hB hD K hK
              obtain ⟨v43, e43⟩ : ∃ x, a.tmps.getD 43 undef = x := ⟨_, rfl⟩
              have h43 := hD 4 _ 43 rfl rfl (by kernel_rfl)
              rw [e43] at h43
              simp only [Array.getD_eq_getD_getElem?] at e43
              obtain rfl := h43
              obtain ⟨v44, e44⟩ : ∃ x, a.tmps.getD 44 undef = x := ⟨_, rfl⟩
              have h44 := hD 5 _ 44 rfl rfl (by kernel_rfl)
              rw [e44] at h44
              simp only [Array.getD_eq_getD_getElem?] at e44
              obtain rfl := h44
              go_simp
              exact hK _ _ (Ext.refl _) (congrArg (Value.int IntKind.i64) (HPW.out.trans HPP.out.symm))
            · intro a W hW hB hD K hK
              have b0 := hB 0 rfl
              simp only [Array.getD_eq_getD_getElem?, List.getElem?_toArray, List.getElem?_cons_succ, List.getElem?_cons_zero, Option.getD_some] at b0
              go_simp
              exact hK _ _ (Ext.refl _) rfl
            · intro a W hW hB hD K hK
              have b1 := hB 1 rfl
              simp only [Array.getD_eq_getD_getElem?, List.getElem?_toArray, List.getElem?_cons_succ, List.getElem?_cons_zero, Option.getD_some] at b1
              go_simp
              exact hK _ _ (Ext.refl _) rfl
            · intro a W hW hB hD K hK
              obtain ⟨v47, e47⟩ : ∃ x, a.tmps.getD 47 undef = x := ⟨_, rfl⟩
              have h47 := hD 8 _ 47 rfl rfl (by kernel_rfl)
              rw [e47] at h47
              simp only [Array.getD_eq_getD_getElem?] at e47
              obtain rfl := h47
              go_simp
              first | exact hK _ _ (Ext.refl _) rfl | exact hK _ _ (Ext.refl _) (congrArg (Value.int IntKind.i64) HW1.out)
            · intro a W hW hB hD K hK
              obtain ⟨v46, e46⟩ : ∃ x, a.tmps.getD 46 undef = x := ⟨_, rfl⟩
              have h46 := hD 7 _ 46 rfl rfl (by kernel_rfl)
              rw [e46] at h46
              simp only [Array.getD_eq_getD_getElem?] at e46
              obtain rfl := h46
              obtain ⟨v48, e48⟩ : ∃ x, a.tmps.getD 48 undef = x := ⟨_, rfl⟩
              have h48 := hD 9 _ 48 rfl rfl (by kernel_rfl)
              rw [e48] at h48
              simp only [Array.getD_eq_getD_getElem?] at e48
              obtain rfl := h48
              go_simp
              exact hK _ _ (Ext.refl _) rfl
            · intro a W hW hB hD K hK
              obtain ⟨v49, e49⟩ : ∃ x, a.tmps.getD 49 undef = x := ⟨_, rfl⟩
              have h49 := hD 10 _ 49 rfl rfl (by kernel_rfl)
              rw [e49] at h49
              simp only [Array.getD_eq_getD_getElem?] at e49
              obtain rfl := h49
              have m0 := (hW.cell (p := ⟨b, o + i, none⟩) lb).trans c0
              have m1 := (hW.cell (p := ⟨b, o + i1, none⟩) lb).trans c1
              have ml := Nat.lt_of_lt_of_le lb hW.size
              go_simp
              exact hK _ _ (Ext.refl _) rfl
            · intro a W hW hB hD K hK
              have b0 := hB 0 rfl
              simp only [Array.getD_eq_getD_getElem?, List.getElem?_toArray, List.getElem?_cons_succ, List.getElem?_cons_zero, Option.getD_some] at b0
              go_simp
              exact hK _ _ (Ext.refl _) rfl
            · intro a W hW hB hD K hK
              have b1 := hB 1 rfl
              simp only [Array.getD_eq_getD_getElem?, List.getElem?_toArray, List.getElem?_cons_succ, List.getElem?_cons_zero, Option.getD_some] at b1
              go_simp
              exact hK _ _ (Ext.refl _) rfl
            · intro a W hW hB hD K hK
              obtain ⟨v51, e51⟩ : ∃ x, a.tmps.getD 51 undef = x := ⟨_, rfl⟩
              have h51 := hD 12 _ 51 rfl rfl (by kernel_rfl)
              rw [e51] at h51
              simp only [Array.getD_eq_getD_getElem?] at e51
              obtain rfl := h51
              obtain ⟨v52, e52⟩ : ∃ x, a.tmps.getD 52 undef = x := ⟨_, rfl⟩
              have h52 := hD 13 _ 52 rfl rfl (by kernel_rfl)
              rw [e52] at h52
              simp only [Array.getD_eq_getD_getElem?] at e52
              obtain rfl := h52
              go_simp
              exact hK _ _ (Ext.refl _) rfl
            · intro a W hW hB hD K hK
              obtain ⟨v53, e53⟩ : ∃ x, a.tmps.getD 53 undef = x := ⟨_, rfl⟩
              have h53 := hD 14 _ 53 rfl rfl (by kernel_rfl)
              rw [e53] at h53
              simp only [Array.getD_eq_getD_getElem?] at e53
              obtain rfl := h53
              have m0 := (hW.cell (p := ⟨b, o + i, none⟩) lb).trans c0
              have m1 := (hW.cell (p := ⟨b, o + i1, none⟩) lb).trans c1
              have ml := Nat.lt_of_lt_of_le lb hW.size
              go_simp
              exact hK _ _ (Ext.refl _) rfl
            · intro a W hW hB hD K hK
              obtain ⟨v50, e50⟩ : ∃ x, a.tmps.getD 50 undef = x := ⟨_, rfl⟩
              have h50 := hD 11 _ 50 rfl rfl (by kernel_rfl)
              rw [e50] at h50
              simp only [Array.getD_eq_getD_getElem?] at e50
              obtain rfl := h50
              obtain ⟨v54, e54⟩ : ∃ x, a.tmps.getD 54 undef = x := ⟨_, rfl⟩
              have h54 := hD 15 _ 54 rfl rfl (by kernel_rfl)
              rw [e54] at h54
              simp only [Array.getD_eq_getD_getElem?] at e54
              obtain rfl := h54
              go_simp
              exact hK _ _ (Ext.refl _) (congrArg (Value.int IntKind.i64) (HQW.out.trans HQQ.out.symm))
            · intro a W hW hB hD K hK
              obtain ⟨v45, e45⟩ : ∃ x, a.tmps.getD 45 undef = x := ⟨_, rfl⟩
              have h45 := hD 6 _ 45 rfl rfl (by kernel_rfl)
              rw [e45] at h45
              simp only [Array.getD_eq_getD_getElem?] at e45
              obtain rfl := h45
              obtain ⟨v55, e55⟩ : ∃ x, a.tmps.getD 55 undef = x := ⟨_, rfl⟩
              have h55 := hD 16 _ 55 rfl rfl (by kernel_rfl)
              rw [e55] at h55
              simp only [Array.getD_eq_getD_getElem?] at e55
              obtain rfl := h55
              go_simp
              refine (HOF.out _).mono ?_
              rintro e9 w9 ⟨⟨v, rfl, nn⟩, hx⟩
              obtain ⟨s1, s2, s3, s4, rfl⟩ := nn.shape
              exact hK _ _ hx ⟨_, _, _, _, rfl, nn.from (X.out.trans hW)⟩
            · intro a W hW hB hD K hK
              obtain ⟨v56, e56⟩ : ∃ x, a.tmps.getD 56 undef = x := ⟨_, rfl⟩
              have h56 := hD 17 _ 56 rfl rfl (by kernel_rfl)
              rw [e56] at h56
              simp only [Array.getD_eq_getD_getElem?] at e56
              obtain ⟨d1, d2, d3, d4, rfl, dh⟩ := h56
              go_simp
              exact hK _ _ (Ext.refl _) ⟨_, _, _, _, rfl, dh⟩
            · intro a W hW hB hD K hK
              obtain ⟨v38, e38⟩ : ∃ x, a.tmps.getD 38 undef = x := ⟨_, rfl⟩
              have h38 := hD 18 _ 38 rfl rfl (by kernel_rfl)
              rw [e38] at h38
              simp only [Array.getD_eq_getD_getElem?] at e38
              obtain ⟨d1, d2, d3, d4, rfl, dh⟩ := h38
              go_simp
              exact hK _ _ (Ext.refl _) ⟨_, _, _, _, rfl, dh⟩
            · intro a W hW hB hD K hK
              obtain ⟨v38, e38⟩ : ∃ x, a.tmps.getD 38 undef = x := ⟨_, rfl⟩
              have h38 := hD 18 _ 38 rfl rfl (by kernel_rfl)
              rw [e38] at h38
              simp only [Array.getD_eq_getD_getElem?] at e38
              obtain ⟨d1, d2, d3, d4, rfl, dh⟩ := h38
              go_simp
              exact hK _ _ (Ext.refl _) rfl
          · intro a W hW hB hD
            have h38 := hD 18 _ 38 rfl rfl (by kernel_rfl)
            obtain ⟨v38, e38⟩ : ∃ x, a.tmps.getD 38 undef = x := ⟨_, rfl⟩
            rw [e38] at h38
            obtain ⟨d1, d2, d3, d4, rfl, dh⟩ := h38
            exact ⟨.int .i64 e, fun w9 => run_extract9 e38 rfl rfl w9, rfl⟩
          intro w7 hx
          simp only [Vals, List.take_succ_cons, List.take_zero, List.drop_succ_cons, List.drop_zero]
          rintro u0 - u1 - u2 - u3 - u4 - u5 - u6 - u7 - u8 - u9 - u10 - u11 - u12 - u13 - u14 - u15 - u16 - u17 - u18 - u19 h19 u20 h20
          obtain ⟨t1, t2, t3, t4, rfl, ht⟩ := h19
          obtain rfl : u20 = .int .i64 e := h20
          simp only [Act.put, List.setIfInBounds_toArray, List.set_cons_zero, List.set_cons_succ]
          have HT := Lib.hid ht
          have C0 := (hx.cell (p := ⟨b, o + i, none⟩) lb).trans c0
          have C1 := (hx.cell (p := ⟨b, o + i1, none⟩) lb).trans c1
          have LB := Lib.hid (Nat.lt_of_lt_of_le hbw (X.out.trans hx).size)
          have A0 := Lib.hid (A0.out.ext hx); have A1 := Lib.hid (A1.out.ext hx); have X := Lib.hid (X.out.trans hx)
          have lb := LB.out
          clear ht hx c0 c1
          have qA0 := A0.out.cell; have fA0 := A0.out.free; have lA0 := A0.out.lt; have qA1 := A1.out.cell; have fA1 := A1.out.free; have lA1 := A1.out.lt
          have hne : b ≠ w.heap.size := by omega
          have hne1 : b ≠ w.heap.size + 1 := by omega
          have hne2 : w.heap.size ≠ b := Ne.symm hne
          have hne3 : w.heap.size + 1 ≠ b := Ne.symm hne1
          go_wp2_with fail
          clear qA0 fA0 lA0 qA1 fA1 lA1
          clear C0 C1 hne hne1 hne2 hne3
          have hn1 : NewR w (((w7.setCell ⟨w.heap.size + 1, 0, none⟩ (.bool r.neg)).setCell ⟨w.heap.size + 1, 1, none⟩ (.slice t1 r.num.length t2)).setCell ⟨w.heap.size + 1, 2, none⟩ (.slice t3 r.den.length t4)) (.agg #[.bool r.neg, .slice t1 r.num.length t2, .slice t3 r.den.length t4]) r := HT.out.set3b A1.out (by decide) _ _ _
          have ha0 : Blk (((w7.setCell ⟨w.heap.size + 1, 0, none⟩ (.bool r.neg)).setCell ⟨w.heap.size + 1, 1, none⟩ (.slice t1 r.num.length t2)).setCell ⟨w.heap.size + 1, 2, none⟩ (.slice t3 r.den.length t4)) w.heap.size #[.bool false, .slice none 0 0, .slice none 0 0] 62 := Put3.blk (o := 0) A0.out (by omega)
          have hx1 : Ext w (((w7.setCell ⟨w.heap.size + 1, 0, none⟩ (.bool r.neg)).setCell ⟨w.heap.size + 1, 1, none⟩ (.slice t1 r.num.length t2)).setCell ⟨w.heap.size + 1, 2, none⟩ (.slice t3 r.den.length t4)) := ext_put3 (o := 0) X.out (by omega)
          obtain ⟨w8, hw8⟩ : ∃ W, W = (((w7.setCell ⟨w.heap.size + 1, 0, none⟩ (.bool r.neg)).setCell ⟨w.heap.size + 1, 1, none⟩ (.slice t1 r.num.length t2)).setCell ⟨w.heap.size + 1, 2, none⟩ (.slice t3 r.den.length t4)) := ⟨_, rfl⟩
          rw [← hw8] at hn1 ha0 hx1 ⊢
          have NY := Lib.hid hn1; have A0 := Lib.hid ha0; have X := Lib.hid hx1
          clear hn1 ha0 hx1 hw8
          have hb6 := A0.out.all3 (.bool r.neg) (.slice t1 r.num.length t2) (.slice t3 r.den.length t4)
          have hx6 : Ext w (((w8.setCell ⟨w.heap.size, 0, none⟩ (.bool r.neg)).setCell ⟨w.heap.size, 1, none⟩ (.slice t1 r.num.length t2)).setCell ⟨w.heap.size, 2, none⟩ (.slice t3 r.den.length t4)) := ext_put3 (o := 0) X.out (Nat.le_refl _)
          have hn6 : NewR w (((w8.setCell ⟨w.heap.size, 0, none⟩ (.bool r.neg)).setCell ⟨w.heap.size, 1, none⟩ (.slice t1 r.num.length t2)).setCell ⟨w.heap.size, 2, none⟩ (.slice t3 r.den.length t4)) (.agg #[.bool r.neg, .slice t1 r.num.length t2, .slice t3 r.den.length t4]) r := NY.out.set3b A0.out (by decide) _ _ _
          obtain ⟨W6, hW6⟩ : ∃ W, W = (((w8.setCell ⟨w.heap.size, 0, none⟩ (.bool r.neg)).setCell ⟨w.heap.size, 1, none⟩ (.slice t1 r.num.length t2)).setCell ⟨w.heap.size, 2, none⟩ (.slice t3 r.den.length t4)) := ⟨_, rfl⟩
          rw [← hW6] at hb6 hx6 hn6 ⊢
          have HX6 := Lib.hid hx6; have HN6 := Lib.hid hn6
          have heq : r = rep (wt c x i) := by have e9 := congrArg Prod.fst HRR.out; rw [of_ratio (by omega) (by omega)] at e9; rw [show r = _ from e9]; unfold wt; rw [← HY0.out, if_neg e0, ← HI1.out, ← HY1.out, if_pos ⟨by omega, hgt, hlt⟩]
          have HEQ := Lib.hid heq
          clear hW6 hx6 hn6 heq
          refine bodyPost_ret (v := .agg #[.bool r.neg, .slice t1 r.num.length t2, .slice t3 r.den.length t4]) (by have k1 := hb6.cell; have k2 := hb6.free; have k3 := hb6.lt; clear hb6; simp only [results, Tryz.results68]; go_simp) rfl ⟨⟨_, rfl, by rw [← HEQ.out]; exact HN6.out⟩, HX6.out⟩
        · have z1 : ¬ (0 : Int) < (i : Int) := by omega
          have hof := fun W => refOf_any (y1 - x) (y1 - y0) W (by omega) (by omega) (by omega) (by omega)
          obtain ⟨rr, hrr⟩ : ∃ r, r = ofR (y1 - x) (y1 - y0) := ⟨_, rfl⟩
          rw [← hrr] at hof
          obtain ⟨r, e⟩ := rr
          (try dsimp only at hof)
          have HOF := Lib.hid hof
          obtain ⟨pp, hpp⟩ : ∃ z, z = (y1 - x) := ⟨_, rfl⟩
          obtain ⟨qq, hqq⟩ : ∃ z, z = (y1 - y0) := ⟨_, rfl⟩
          rw [← hpp, ← hqq] at HOF
          have HRR := Lib.hid hrr; have HPP := Lib.hid hpp; have HQQ := Lib.hid hqq
          clear hof hrr hpp hqq
          have qA0 := A0.out.cell; have fA0 := A0.out.free; have lA0 := A0.out.lt; have qA1 := A1.out.cell; have fA1 := A1.out.free; have lA1 := A1.out.lt
          go_wp2_with fail
          clear qA0 fA0 lA0 qA1 fA1 lA1
          refine wp_region_each_float 21 20 (rw5J b o c.length ca i i1 x y0 y1 pp qq r e w) rfl (by kernel_rfl) (by kernel_rfl) (by kernel_rfl) (fun _ _ _ _ h x => rw5J_ext h x) (fun _ _ d _ _ h => by cases d <;> exact h) ?_ ?_ ?_
          · refine ⟨?_, ?_, ?_, ?_, ?_, ?_, ?_, ?_, ?_, ?_, ?_, ?_, ?_, ?_, ?_, ?_, ?_, ?_, ?_, ?_, ?_, trivial⟩
            · intro a W hW hB hD K hK
              have b0 := hB 0 rfl
              simp only [Array.getD_eq_getD_getElem?, List.getElem?_toArray, List.getElem?_cons_succ, List.getElem?_cons_zero, Option.getD_some] at b0
              go_simp
              exact hK _ _ (Ext.refl _) rfl
            · intro a W hW hB hD K hK
              have b1 := hB 1 rfl
              simp only [Array.getD_eq_getD_getElem?, List.getElem?_toArray, List.getElem?_cons_succ, List.getElem?_cons_zero, Option.getD_some] at b1
              go_simp
              exact hK _ _ (Ext.refl _) rfl
            · intro a W hW hB hD K hK
              obtain ⟨v40, e40⟩ : ∃ x, a.tmps.getD 40 undef = x := ⟨_, rfl⟩
              have h40 := hD 1 _ 40 rfl rfl (by kernel_rfl)
              rw [e40] at h40
              simp only [Array.getD_eq_getD_getElem?] at e40
              obtain rfl := h40
              go_simp
              first | exact hK _ _ (Ext.refl _) rfl | exact hK _ _ (Ext.refl _) (congrArg (Value.int IntKind.i64) HW1.out)
            · intro a W hW hB hD K hK
              obtain ⟨v39, e39⟩ : ∃ x, a.tmps.getD 39 undef = x := ⟨_, rfl⟩
              have h39 := hD 0 _ 39 rfl rfl (by kernel_rfl)
              rw [e39] at h39
              simp only [Array.getD_eq_getD_getElem?] at e39
              obtain rfl := h39
              obtain ⟨v41, e41⟩ : ∃ x, a.tmps.getD 41 undef = x := ⟨_, rfl⟩
              have h41 := hD 2 _ 41 rfl rfl (by kernel_rfl)
              rw [e41] at h41
              simp only [Array.getD_eq_getD_getElem?] at e41
              obtain rfl := h41
              go_simp
              exact hK _ _ (Ext.refl _) rfl
            · intro a W hW hB hD K hK
              obtain ⟨v42, e42⟩ : ∃ x, a.tmps.getD 42 undef = x := ⟨_, rfl⟩
              have h42 := hD 3 _ 42 rfl rfl (by kernel_rfl)
              rw [e42] at h42
              simp only [Array.getD_eq_getD_getElem?] at e42
              obtain rfl := h42
              have m0 := (hW.cell (p := ⟨b, o + i, none⟩) lb).trans c0
              have m1 := (hW.cell (p := ⟨b, o + i1, none⟩) lb).trans c1
              have ml := Nat.lt_of_lt_of_le lb hW.size
              go_simp
              exact hK _ _ (Ext.refl _) rfl
            · intro a W hW hB hD K hK
              have b2 := hB 2 rfl
              simp only [Array.getD_eq_getD_getElem?, List.getElem?_toArray, List.getElem?_cons_succ, List.getElem?_cons_zero, Option.getD_some] at b2
              go_simp
              exact hK _ _ (Ext.refl _) rfl
            · intro a W hW hB hD K hK
              obtain ⟨v43, e43⟩ : ∃ x, a.tmps.getD 43 undef = x := ⟨_, rfl⟩
              have h43 := hD 4 _ 43 rfl rfl (by kernel_rfl)
              rw [e43] at h43
              simp only [Array.getD_eq_getD_getElem?] at e43
              obtain rfl := h43
              obtain ⟨v44, e44⟩ : ∃ x, a.tmps.getD 44 undef = x := ⟨_, rfl⟩
              have h44 := hD 5 _ 44 rfl rfl (by kernel_rfl)
              rw [e44] at h44
              simp only [Array.getD_eq_getD_getElem?] at e44
              obtain rfl := h44
              go_simp
              exact hK _ _ (Ext.refl _) (congrArg (Value.int IntKind.i64) (HPW.out.trans HPP.out.symm))
            · intro a W hW hB hD K hK
              have b0 := hB 0 rfl
              simp only [Array.getD_eq_getD_getElem?, List.getElem?_toArray, List.getElem?_cons_succ, List.getElem?_cons_zero, Option.getD_some] at b0
              go_simp
              exact hK _ _ (Ext.refl _) rfl
            · intro a W hW hB hD K hK
              have b1 := hB 1 rfl
              simp only [Array.getD_eq_getD_getElem?, List.getElem?_toArray, List.getElem?_cons_succ, List.getElem?_cons_zero, Option.getD_some] at b1
              go_simp
              exact hK _ _ (Ext.refl _) rfl
            · intro a W hW hB hD K hK
              obtain ⟨v47, e47⟩ : ∃ x, a.tmps.getD 47 undef = x := ⟨_, rfl⟩
              have h47 := hD 8 _ 47 rfl rfl (by kernel_rfl)
              rw [e47] at h47
              simp only [Array.getD_eq_getD_getElem?] at e47
              obtain rfl := h47
              go_simp
              first | exact hK _ _ (Ext.refl _) rfl | exact hK _ _ (Ext.refl _) (congrArg (Value.int IntKind.i64) HW1.out)
            · intro a W hW hB hD K hK
              obtain ⟨v46, e46⟩ : ∃ x, a.tmps.getD 46 undef = x := ⟨_, rfl⟩
              have h46 := hD 7 _ 46 rfl rfl (by kernel_rfl)
              rw [e46] at h46
              simp only [Array.getD_eq_getD_getElem?] at e46
              obtain rfl := h46
              obtain ⟨v48, e48⟩ : ∃ x, a.tmps.getD 48 undef = x := ⟨_, rfl⟩
              have h48 := hD 9 _ 48 rfl rfl (by kernel_rfl)
              rw [e48] at h48
              simp only [Array.getD_eq_getD_getElem?] at e48
              obtain rfl := h48
              go_simp
              exact hK _ _ (Ext.refl _) rfl
            · intro a W hW hB hD K hK
              obtain ⟨v49, e49⟩ : ∃ x, a.tmps.getD 49 undef = x := ⟨_, rfl⟩
              have h49 := hD 10 _ 49 rfl rfl (by kernel_rfl)
              rw [e49] at h49
              simp only [Array.getD_eq_getD_getElem?] at e49
              obtain rfl := h49
              have m0 := (hW.cell (p := ⟨b, o + i, none⟩) lb).trans c0
              have m1 := (hW.cell (p := ⟨b, o + i1, none⟩) lb).trans c1
              have ml := Nat.lt_of_lt_of_le lb hW.size
              go_simp
              exact hK _ _ (Ext.refl _) rfl
            · intro a W hW hB hD K hK
              have b0 := hB 0 rfl
              simp only [Array.getD_eq_getD_getElem?, List.getElem?_toArray, List.getElem?_cons_succ, List.getElem?_cons_zero, Option.getD_some] at b0
              go_simp
              exact hK _ _ (Ext.refl _) rfl
            · intro a W hW hB hD K hK
              have b1 := hB 1 rfl
              simp only [Array.getD_eq_getD_getElem?, List.getElem?_toArray, List.getElem?_cons_succ, List.getElem?_cons_zero, Option.getD_some] at b1
              go_simp
              exact hK _ _ (Ext.refl _) rfl
            · intro a W hW hB hD K hK
              obtain ⟨v51, e51⟩ : ∃ x, a.tmps.getD 51 undef = x := ⟨_, rfl⟩
              have h51 := hD 12 _ 51 rfl rfl (by kernel_rfl)
              rw [e51] at h51
              simp only [Array.getD_eq_getD_getElem?] at e51
              obtain rfl := h51
              obtain ⟨v52, e52⟩ : ∃ x, a.tmps.getD 52 undef = x := ⟨_, rfl⟩
              have h52 := hD 13 _ 52 rfl rfl (by kernel_rfl)
              rw [e52] at h52
              simp only [Array.getD_eq_getD_getElem?] at e52
              obtain rfl := h52
              go_simp
              exact hK _ _ (Ext.refl _) rfl
            · intro a W hW hB hD K hK
              obtain ⟨v53, e53⟩ : ∃ x, a.tmps.getD 53 undef = x := ⟨_, rfl⟩
              have h53 := hD 14 _ 53 rfl rfl (by kernel_rfl)
              rw [e53] at h53
              simp only [Array.getD_eq_getD_getElem?] at e53
              obtain rfl := h53
              have m0 := (hW.cell (p := ⟨b, o + i, none⟩) lb).trans c0
              have m1 := (hW.cell (p := ⟨b, o + i1, none⟩) lb).trans c1
              have ml := Nat.lt_of_lt_of_le lb hW.size
              go_simp
              exact hK _ _ (Ext.refl _) rfl
            · intro a W hW hB hD K hK
              obtain ⟨v50, e50⟩ : ∃ x, a.tmps.getD 50 undef = x := ⟨_, rfl⟩
              have h50 := hD 11 _ 50 rfl rfl (by kernel_rfl)
              rw [e50] at h50
              simp only [Array.getD_eq_getD_getElem?] at e50
              obtain rfl := h50
              obtain ⟨v54, e54⟩ : ∃ x, a.tmps.getD 54 undef = x := ⟨_, rfl⟩
              have h54 := hD 15 _ 54 rfl rfl (by kernel_rfl)
              rw [e54] at h54
              simp only [Array.getD_eq_getD_getElem?] at e54
              obtain rfl := h54
              go_simp
              exact hK _ _ (Ext.refl _) (congrArg (Value.int IntKind.i64) (HQW.out.trans HQQ.out.symm))
            · intro a W hW hB hD K hK
              obtain ⟨v45, e45⟩ : ∃ x, a.tmps.getD 45 undef = x := ⟨_, rfl⟩
              have h45 := hD 6 _ 45 rfl rfl (by kernel_rfl)
              rw [e45] at h45
              simp only [Array.getD_eq_getD_getElem?] at e45
              obtain rfl := h45
              obtain ⟨v55, e55⟩ : ∃ x, a.tmps.getD 55 undef = x := ⟨_, rfl⟩
              have h55 := hD 16 _ 55 rfl rfl (by kernel_rfl)
              rw [e55] at h55
              simp only [Array.getD_eq_getD_getElem?] at e55
              obtain rfl := h55
              go_simp
              refine (HOF.out _).mono ?_
              rintro e9 w9 ⟨⟨v, rfl, nn⟩, hx⟩
              obtain ⟨s1, s2, s3, s4, rfl⟩ := nn.shape
              exact hK _ _ hx ⟨_, _, _, _, rfl, nn.from (X.out.trans hW)⟩
            · intro a W hW hB hD K hK
              obtain ⟨v56, e56⟩ : ∃ x, a.tmps.getD 56 undef = x := ⟨_, rfl⟩
              have h56 := hD 17 _ 56 rfl rfl (by kernel_rfl)
              rw [e56] at h56
              simp only [Array.getD_eq_getD_getElem?] at e56
              obtain ⟨d1, d2, d3, d4, rfl, dh⟩ := h56
              go_simp
              exact hK _ _ (Ext.refl _) ⟨_, _, _, _, rfl, dh⟩
            · intro a W hW hB hD K hK
              obtain ⟨v38, e38⟩ : ∃ x, a.tmps.getD 38 undef = x := ⟨_, rfl⟩
              have h38 := hD 18 _ 38 rfl rfl (by kernel_rfl)
              rw [e38] at h38
              simp only [Array.getD_eq_getD_getElem?] at e38
              obtain ⟨d1, d2, d3, d4, rfl, dh⟩ := h38
              go_simp
              exact hK _ _ (Ext.refl _) ⟨_, _, _, _, rfl, dh⟩
            · intro a W hW hB hD K hK
              obtain ⟨v38, e38⟩ : ∃ x, a.tmps.getD 38 undef = x := ⟨_, rfl⟩
              have h38 := hD 18 _ 38 rfl rfl (by kernel_rfl)
              rw [e38] at h38
              simp only [Array.getD_eq_getD_getElem?] at e38
              obtain ⟨d1, d2, d3, d4, rfl, dh⟩ := h38
              go_simp
              exact hK _ _ (Ext.refl _) rfl
          · intro a W hW hB hD
            have h38 := hD 18 _ 38 rfl rfl (by kernel_rfl)
            obtain ⟨v38, e38⟩ : ∃ x, a.tmps.getD 38 undef = x := ⟨_, rfl⟩
            rw [e38] at h38
            obtain ⟨d1, d2, d3, d4, rfl, dh⟩ := h38
            exact ⟨.int .i64 e, fun w9 => run_extract9 e38 rfl rfl w9, rfl⟩
          intro w7 hx
          simp only [Vals, List.take_succ_cons, List.take_zero, List.drop_succ_cons, List.drop_zero]
          rintro u0 - u1 - u2 - u3 - u4 - u5 - u6 - u7 - u8 - u9 - u10 - u11 - u12 - u13 - u14 - u15 - u16 - u17 - u18 - u19 h19 u20 h20
          obtain ⟨t1, t2, t3, t4, rfl, ht⟩ := h19
          obtain rfl : u20 = .int .i64 e := h20
          simp only [Act.put, List.setIfInBounds_toArray, List.set_cons_zero, List.set_cons_succ]
          have HT := Lib.hid ht
          have C0 := (hx.cell (p := ⟨b, o + i, none⟩) lb).trans c0
          have C1 := (hx.cell (p := ⟨b, o + i1, none⟩) lb).trans c1
          have LB := Lib.hid (Nat.lt_of_lt_of_le hbw (X.out.trans hx).size)
          have A0 := Lib.hid (A0.out.ext hx); have A1 := Lib.hid (A1.out.ext hx); have X := Lib.hid (X.out.trans hx)
          have lb := LB.out
          clear ht hx c0 c1
          have qA0 := A0.out.cell; have fA0 := A0.out.free; have lA0 := A0.out.lt; have qA1 := A1.out.cell; have fA1 := A1.out.free; have lA1 := A1.out.lt
          have hne : b ≠ w.heap.size := by omega
          have hne1 : b ≠ w.heap.size + 1 := by omega
          have hne2 : w.heap.size ≠ b := Ne.symm hne
          have hne3 : w.heap.size + 1 ≠ b := Ne.symm hne1
          go_wp2_with fail
          clear qA0 fA0 lA0 qA1 fA1 lA1
          clear C0 C1 hne hne1 hne2 hne3
          have hn1 : NewR w (((w7.setCell ⟨w.heap.size + 1, 0, none⟩ (.bool r.neg)).setCell ⟨w.heap.size + 1, 1, none⟩ (.slice t1 r.num.length t2)).setCell ⟨w.heap.size + 1, 2, none⟩ (.slice t3 r.den.length t4)) (.agg #[.bool r.neg, .slice t1 r.num.length t2, .slice t3 r.den.length t4]) r := HT.out.set3b A1.out (by decide) _ _ _
          have ha0 : Blk (((w7.setCell ⟨w.heap.size + 1, 0, none⟩ (.bool r.neg)).setCell ⟨w.heap.size + 1, 1, none⟩ (.slice t1 r.num.length t2)).setCell ⟨w.heap.size + 1, 2, none⟩ (.slice t3 r.den.length t4)) w.heap.size #[.bool false, .slice none 0 0, .slice none 0 0] 62 := Put3.blk (o := 0) A0.out (by omega)
          have hx1 : Ext w (((w7.setCell ⟨w.heap.size + 1, 0, none⟩ (.bool r.neg)).setCell ⟨w.heap.size + 1, 1, none⟩ (.slice t1 r.num.length t2)).setCell ⟨w.heap.size + 1, 2, none⟩ (.slice t3 r.den.length t4)) := ext_put3 (o := 0) X.out (by omega)
          obtain ⟨w8, hw8⟩ : ∃ W, W = (((w7.setCell ⟨w.heap.size + 1, 0, none⟩ (.bool r.neg)).setCell ⟨w.heap.size + 1, 1, none⟩ (.slice t1 r.num.length t2)).setCell ⟨w.heap.size + 1, 2, none⟩ (.slice t3 r.den.length t4)) := ⟨_, rfl⟩
          rw [← hw8] at hn1 ha0 hx1 ⊢
          have NY := Lib.hid hn1; have A0 := Lib.hid ha0; have X := Lib.hid hx1
          clear hn1 ha0 hx1 hw8
          have hb6 := A0.out.all3 (.bool r.neg) (.slice t1 r.num.length t2) (.slice t3 r.den.length t4)
          have hx6 : Ext w (((w8.setCell ⟨w.heap.size, 0, none⟩ (.bool r.neg)).setCell ⟨w.heap.size, 1, none⟩ (.slice t1 r.num.length t2)).setCell ⟨w.heap.size, 2, none⟩ (.slice t3 r.den.length t4)) := ext_put3 (o := 0) X.out (Nat.le_refl _)
          have hn6 : NewR w (((w8.setCell ⟨w.heap.size, 0, none⟩ (.bool r.neg)).setCell ⟨w.heap.size, 1, none⟩ (.slice t1 r.num.length t2)).setCell ⟨w.heap.size, 2, none⟩ (.slice t3 r.den.length t4)) (.agg #[.bool r.neg, .slice t1 r.num.length t2, .slice t3 r.den.length t4]) r := NY.out.set3b A0.out (by decide) _ _ _
          obtain ⟨W6, hW6⟩ : ∃ W, W = (((w8.setCell ⟨w.heap.size, 0, none⟩ (.bool r.neg)).setCell ⟨w.heap.size, 1, none⟩ (.slice t1 r.num.length t2)).setCell ⟨w.heap.size, 2, none⟩ (.slice t3 r.den.length t4)) := ⟨_, rfl⟩
          rw [← hW6] at hb6 hx6 hn6 ⊢
          have HX6 := Lib.hid hx6; have HN6 := Lib.hid hn6
          have heq : r = rep (wt c x i) := by have e9 := congrArg Prod.fst HRR.out; rw [of_ratio (by omega) (by omega)] at e9; rw [show r = _ from e9]; unfold wt; rw [← HY0.out, if_neg e0, ← HI1.out, ← HY1.out, if_pos ⟨by omega, hgt, hlt⟩]
          have HEQ := Lib.hid heq
          clear hW6 hx6 hn6 heq
          refine bodyPost_ret (v := .agg #[.bool r.neg, .slice t1 r.num.length t2, .slice t3 r.den.length t4]) (by have k1 := hb6.cell; have k2 := hb6.free; have k3 := hb6.lt; clear hb6; simp only [results, Tryz.results68]; go_simp) rfl ⟨⟨_, rfl, by rw [← HEQ.out]; exact HN6.out⟩, HX6.out⟩
      · by_cases hi0 : 0 < i
        · have z1 : (0 : Int) < (i : Int) := by omega
          have z2 : ¬ x < y0 := by omega
          have qA0 := A0.out.cell; have fA0 := A0.out.free; have lA0 := A0.out.lt; have qA1 := A1.out.cell; have fA1 := A1.out.free; have lA1 := A1.out.lt
          go_wp2_with fail
          clear qA0 fA0 lA0 qA1 fA1 lA1
          have hb6 := A0.out
          have hx6 := X.out
          have hn6 : NewR w ((w.alloc (.cells #[.bool false, .slice none 0 0, .slice none 0 0] 62)).alloc (.cells #[.bool false, .slice none 0 0, .slice none 0 0] 62)) (.agg #[.bool false, .slice none 0 0, .slice none 0 0]) zR := NewR.zero _ _
          obtain ⟨W6, hW6⟩ : ∃ W, W = ((w.alloc (.cells #[.bool false, .slice none 0 0, .slice none 0 0] 62)).alloc (.cells #[.bool false, .slice none 0 0, .slice none 0 0] 62)) := ⟨_, rfl⟩
          rw [← hW6] at hb6 hx6 hn6 ⊢
          have HX6 := Lib.hid hx6; have HN6 := Lib.hid hn6
          have heq : zR = rep (wt c x i) := by unfold wt; rw [← HY0.out, if_neg e0, if_neg (fun h => absurd (show x < y1 from by rw [HY1.out, HI1.out]; exact h.2.2) (by omega)), if_neg (fun h => absurd h.2.1 (by omega))]; rfl
          have HEQ := Lib.hid heq
          clear hW6 hx6 hn6 heq
          refine bodyPost_ret (v := .agg #[.bool false, .slice none 0 0, .slice none 0 0]) (by have k1 := hb6.cell; have k2 := hb6.free; have k3 := hb6.lt; clear hb6; simp only [results, Tryz.results68]; go_simp) rfl ⟨⟨_, rfl, by rw [← HEQ.out]; exact HN6.out⟩, HX6.out⟩
        · have z1 : ¬ (0 : Int) < (i : Int) := by omega
          have qA0 := A0.out.cell; have fA0 := A0.out.free; have lA0 := A0.out.lt; have qA1 := A1.out.cell; have fA1 := A1.out.free; have lA1 := A1.out.lt
          go_wp2_with fail
          clear qA0 fA0 lA0 qA1 fA1 lA1
          have hb6 := A0.out
          have hx6 := X.out
          have hn6 : NewR w ((w.alloc (.cells #[.bool false, .slice none 0 0, .slice none 0 0] 62)).alloc (.cells #[.bool false, .slice none 0 0, .slice none 0 0] 62)) (.agg #[.bool false, .slice none 0 0, .slice none 0 0]) zR := NewR.zero _ _
          obtain ⟨W6, hW6⟩ : ∃ W, W = ((w.alloc (.cells #[.bool false, .slice none 0 0, .slice none 0 0] 62)).alloc (.cells #[.bool false, .slice none 0 0, .slice none 0 0] 62)) := ⟨_, rfl⟩
          rw [← hW6] at hb6 hx6 hn6 ⊢
          have HX6 := Lib.hid hx6; have HN6 := Lib.hid hn6
          have heq : zR = rep (wt c x i) := by unfold wt; rw [← HY0.out, if_neg e0, if_neg (fun h => absurd (show x < y1 from by rw [HY1.out, HI1.out]; exact h.2.2) (by omega)), if_neg (fun h => absurd h.2.1 (by omega))]; rfl
          have HEQ := Lib.hid heq
          clear hW6 hx6 hn6 heq
          refine bodyPost_ret (v := .agg #[.bool false, .slice none 0 0, .slice none 0 0]) (by have k1 := hb6.cell; have k2 := hb6.free; have k3 := hb6.lt; clear hb6; simp only [results, Tryz.results68]; go_simp) rfl ⟨⟨_, rfl, by rw [← HEQ.out]; exact HN6.out⟩, HX6.out⟩
    · have r1 : ¬ (i : Int) + 1 < (c.length : Int) := by omega
      have r5 : wrap64 ((i : Int) + 1) = (i : Int) + 1 := by unfold wrap64; omega
      by_cases hi0 : 0 < i
      · have z1 : (0 : Int) < (i : Int) := by omega
        have z2 : ¬ x < y0 := by omega
        have qA0 := A0.out.cell; have fA0 := A0.out.free; have lA0 := A0.out.lt; have qA1 := A1.out.cell; have fA1 := A1.out.free; have lA1 := A1.out.lt
        go_wp2_with fail
        clear qA0 fA0 lA0 qA1 fA1 lA1
        have hb6 := A0.out
        have hx6 := X.out
        have hn6 : NewR w ((w.alloc (.cells #[.bool false, .slice none 0 0, .slice none 0 0] 62)).alloc (.cells #[.bool false, .slice none 0 0, .slice none 0 0] 62)) (.agg #[.bool false, .slice none 0 0, .slice none 0 0]) zR := NewR.zero _ _
        obtain ⟨W6, hW6⟩ : ∃ W, W = ((w.alloc (.cells #[.bool false, .slice none 0 0, .slice none 0 0] 62)).alloc (.cells #[.bool false, .slice none 0 0, .slice none 0 0] 62)) := ⟨_, rfl⟩
        rw [← hW6] at hb6 hx6 hn6 ⊢
        have HX6 := Lib.hid hx6; have HN6 := Lib.hid hn6
        have heq : zR = rep (wt c x i) := by unfold wt; rw [← HY0.out, if_neg e0, if_neg (fun h => p1 h.1), if_neg (fun h => absurd h.2.1 (by omega))]; rfl
        have HEQ := Lib.hid heq
        clear hW6 hx6 hn6 heq
        refine bodyPost_ret (v := .agg #[.bool false, .slice none 0 0, .slice none 0 0]) (by have k1 := hb6.cell; have k2 := hb6.free; have k3 := hb6.lt; clear hb6; simp only [results, Tryz.results68]; go_simp) rfl ⟨⟨_, rfl, by rw [← HEQ.out]; exact HN6.out⟩, HX6.out⟩
      · have z1 : ¬ (0 : Int) < (i : Int) := by omega
        have qA0 := A0.out.cell; have fA0 := A0.out.free; have lA0 := A0.out.lt; have qA1 := A1.out.cell; have fA1 := A1.out.free; have lA1 := A1.out.lt
        go_wp2_with fail
        clear qA0 fA0 lA0 qA1 fA1 lA1
        have hb6 := A0.out
        have hx6 := X.out
        have hn6 : NewR w ((w.alloc (.cells #[.bool false, .slice none 0 0, .slice none 0 0] 62)).alloc (.cells #[.bool false, .slice none 0 0, .slice none 0 0] 62)) (.agg #[.bool false, .slice none 0 0, .slice none 0 0]) zR := NewR.zero _ _
        obtain ⟨W6, hW6⟩ : ∃ W, W = ((w.alloc (.cells #[.bool false, .slice none 0 0, .slice none 0 0] 62)).alloc (.cells #[.bool false, .slice none 0 0, .slice none 0 0] 62)) := ⟨_, rfl⟩
        rw [← hW6] at hb6 hx6 hn6 ⊢
        have HX6 := Lib.hid hx6; have HN6 := Lib.hid hn6
        have heq : zR = rep (wt c x i) := by unfold wt; rw [← HY0.out, if_neg e0, if_neg (fun h => p1 h.1), if_neg (fun h => absurd h.2.1 (by omega))]; rfl
        have HEQ := Lib.hid heq
        clear hW6 hx6 hn6 heq
        refine bodyPost_ret (v := .agg #[.bool false, .slice none 0 0, .slice none 0 0]) (by have k1 := hb6.cell; have k2 := hb6.free; have k3 := hb6.lt; clear hb6; simp only [results, Tryz.results68]; go_simp) rfl ⟨⟨_, rfl, by rw [← HEQ.out]; exact HN6.out⟩, HX6.out⟩
  have hlt0 : x < y0 := by omega
  by_cases p1 : i + 1 < c.length
  · have r1 : (i : Int) + 1 < (c.length : Int) := by omega
    have r5 : wrap64 ((i : Int) + 1) = (i : Int) + 1 := by unfold wrap64; omega
    by_cases hi0 : 0 < i
    · obtain ⟨i1, hi1⟩ : ∃ j, j = i - 1 := ⟨_, rfl⟩
      have k1 := HR.out i1 (by omega)
      have by1 := HB.out i1 (by omega)
      have ha := HASC.out i1 i (by omega) hi
      obtain ⟨y1, hy1⟩ : ∃ y, y = c.getD i1 0 := ⟨_, rfl⟩
      rw [← hy1] at k1 by1 ha
      rw [← HY0.out] at ha
      have c1 := (X.out.cell (p := ⟨b, o + i1, none⟩) hbw).trans k1
      have HY1 := Lib.hid hy1; have HI1 := Lib.hid hi1
      have z1 : (0 : Int) < (i : Int) := by omega
      have s1 : (i : Int) - 1 = (i1 : Int) := by omega
      have s2 : (i1 : Int) < (c.length : Int) := by omega
      have s3 : (0 : Int) ≤ (i1 : Int) := by omega
      have r4 : (i : Int) < (c.length : Int) := by omega
      have HW1 := Lib.hid (wrapL (x := (i1 : Int)) (by omega) (by omega))
      have s4 := wrapL (x := (i1 : Int)) (by omega) (by omega)
      clear hy1 hi1 k1
      by_cases hlt : y1 < x
      · have hpw : IntKind.i64.wrap (x - y1) = x - y1 := wrapL (by omega) (by omega)
        have hqw : IntKind.i64.wrap (y0 - y1) = y0 - y1 := wrapL (by omega) (by omega)
        have HPW := Lib.hid hpw; have HQW := Lib.hid hqw
        clear hpw hqw
        have hof := fun W => refOf_any (x - y1) (y0 - y1) W (by omega) (by omega) (by omega) (by omega)
        obtain ⟨rr, hrr⟩ : ∃ r, r = ofR (x - y1) (y0 - y1) := ⟨_, rfl⟩
        rw [← hrr] at hof
        obtain ⟨r, e⟩ := rr
        (try dsimp only at hof)
        have HOF := Lib.hid hof
        obtain ⟨pp, hpp⟩ : ∃ z, z = (x - y1) := ⟨_, rfl⟩
        obtain ⟨qq, hqq⟩ : ∃ z, z = (y0 - y1) := ⟨_, rfl⟩
        rw [← hpp, ← hqq] at HOF
        have HRR := Lib.hid hrr; have HPP := Lib.hid hpp; have HQQ := Lib.hid hqq
        clear hof hrr hpp hqq
        have qA0 := A0.out.cell; have fA0 := A0.out.free; have lA0 := A0.out.lt; have qA1 := A1.out.cell; have fA1 := A1.out.free; have lA1 := A1.out.lt
        go_wp2_with fail
        clear qA0 fA0 lA0 qA1 fA1 lA1
        refine wp_region_each_float 21 20 (rw7J b o c.length ca i i1 x y0 y1 pp qq r e w) rfl (by kernel_rfl) (by kernel_rfl) (by kernel_rfl) (fun _ _ _ _ h x => rw7J_ext h x) (fun _ _ d _ _ h => by cases d <;> exact h) ?_ ?_ ?_
        · refine ⟨?_, ?_, ?_, ?_, ?_, ?_, ?_, ?_, ?_, ?_, ?_, ?_, ?_, ?_, ?_, ?_, ?_, ?_, ?_, ?_, ?_, trivial⟩
          · intro a W hW hB hD K hK
            have b2 := hB 2 rfl
            simp only [Array.getD_eq_getD_getElem?, List.getElem?_toArray, List.getElem?_cons_succ, List.getElem?_cons_zero, Option.getD_some] at b2
            go_simp
            exact hK _ _ (Ext.refl _) rfl
          · intro a W hW hB hD K hK
            have b0 := hB 0 rfl
            simp only [Array.getD_eq_getD_getElem?, List.getElem?_toArray, List.getElem?_cons_succ, List.getElem?_cons_zero, Option.getD_some] at b0
            go_simp
            exact hK _ _ (Ext.refl _) rfl
          · intro a W hW hB hD K hK
            have b1 := hB 1 rfl
            simp only [Array.getD_eq_getD_getElem?, List.getElem?_toArray, List.getElem?_cons_succ, List.getElem?_cons_zero, Option.getD_some] at b1
            go_simp
            exact hK _ _ (Ext.refl _) rfl
          · intro a W hW hB hD K hK
            obtain ⟨v81, e81⟩ : ∃ x, a.tmps.getD 81 undef = x := ⟨_, rfl⟩
            have h81 := hD 2 _ 81 rfl rfl (by kernel_rfl)
            rw [e81] at h81
            simp only [Array.getD_eq_getD_getElem?] at e81
            obtain rfl := h81
            go_simp
            first | exact hK _ _ (Ext.refl _) rfl | exact hK _ _ (Ext.refl _) (congrArg (Value.int IntKind.i64) HW1.out)
          · intro a W hW hB hD K hK
            obtain ⟨v80, e80⟩ : ∃ x, a.tmps.getD 80 undef = x := ⟨_, rfl⟩
            have h80 := hD 1 _ 80 rfl rfl (by kernel_rfl)
            rw [e80] at h80
            simp only [Array.getD_eq_getD_getElem?] at e80
            obtain rfl := h80
            obtain ⟨v82, e82⟩ : ∃ x, a.tmps.getD 82 undef = x := ⟨_, rfl⟩
            have h82 := hD 3 _ 82 rfl rfl (by kernel_rfl)
            rw [e82] at h82
            simp only [Array.getD_eq_getD_getElem?] at e82
            obtain rfl := h82
            go_simp
            exact hK _ _ (Ext.refl _) rfl
          · intro a W hW hB hD K hK
            obtain ⟨v83, e83⟩ : ∃ x, a.tmps.getD 83 undef = x := ⟨_, rfl⟩
            have h83 := hD 4 _ 83 rfl rfl (by kernel_rfl)
            rw [e83] at h83
            simp only [Array.getD_eq_getD_getElem?] at e83
            obtain rfl := h83
            have m0 := (hW.cell (p := ⟨b, o + i, none⟩) lb).trans c0
            have m1 := (hW.cell (p := ⟨b, o + i1, none⟩) lb).trans c1
            have ml := Nat.lt_of_lt_of_le lb hW.size
            go_simp
            exact hK _ _ (Ext.refl _) rfl
          · intro a W hW hB hD K hK
            obtain ⟨v79, e79⟩ : ∃ x, a.tmps.getD 79 undef = x := ⟨_, rfl⟩
            have h79 := hD 0 _ 79 rfl rfl (by kernel_rfl)
            rw [e79] at h79
            simp only [Array.getD_eq_getD_getElem?] at e79
            obtain rfl := h79
            obtain ⟨v84, e84⟩ : ∃ x, a.tmps.getD 84 undef = x := ⟨_, rfl⟩
            have h84 := hD 5 _ 84 rfl rfl (by kernel_rfl)
            rw [e84] at h84
            simp only [Array.getD_eq_getD_getElem?] at e84
            obtain rfl := h84
            go_simp
            exact hK _ _ (Ext.refl _) (congrArg (Value.int IntKind.i64) (HPW.out.trans HPP.out.symm))
          · intro a W hW hB hD K hK
            have b0 := hB 0 rfl
            simp only [Array.getD_eq_getD_getElem?, List.getElem?_toArray, List.getElem?_cons_succ, List.getElem?_cons_zero, Option.getD_some] at b0
            go_simp
            exact hK _ _ (Ext.refl _) rfl
          · intro a W hW hB hD K hK
            have b1 := hB 1 rfl
            simp only [Array.getD_eq_getD_getElem?, List.getElem?_toArray, List.getElem?_cons_succ, List.getElem?_cons_zero, Option.getD_some] at b1
            go_simp
            exact hK _ _ (Ext.refl _) rfl
          · intro a W hW hB hD K hK
            obtain ⟨v86, e86⟩ : ∃ x, a.tmps.getD 86 undef = x := ⟨_, rfl⟩
            have h86 := hD 7 _ 86 rfl rfl (by kernel_rfl)
            rw [e86] at h86
            simp only [Array.getD_eq_getD_getElem?] at e86
            obtain rfl := h86
            obtain ⟨v87, e87⟩ : ∃ x, a.tmps.getD 87 undef = x := ⟨_, rfl⟩
            have h87 := hD 8 _ 87 rfl rfl (by kernel_rfl)
            rw [e87] at h87
            simp only [Array.getD_eq_getD_getElem?] at e87
            obtain rfl := h87
            go_simp
            exact hK _ _ (Ext.refl _) rfl
          · intro a W hW hB hD K hK
            obtain ⟨v88, e88⟩ : ∃ x, a.tmps.getD 88 undef = x := ⟨_, rfl⟩
            have h88 := hD 9 _ 88 rfl rfl (by kernel_rfl)
            rw [e88] at h88
            simp only [Array.getD_eq_getD_getElem?] at e88
            obtain rfl := h88
            have m0 := (hW.cell (p := ⟨b, o + i, none⟩) lb).trans c0
            have m1 := (hW.cell (p := ⟨b, o + i1, none⟩) lb).trans c1
            have ml := Nat.lt_of_lt_of_le lb hW.size
            go_simp
            exact hK _ _ (Ext.refl _) rfl
          · intro a W hW hB hD K hK
            have b0 := hB 0 rfl
            simp only [Array.getD_eq_getD_getElem?, List.getElem?_toArray, List.getElem?_cons_succ, List.getElem?_cons_zero, Option.getD_some] at b0
            go_simp
            exact hK _ _ (Ext.refl _) rfl
          · intro a W hW hB hD K hK
            have b1 := hB 1 rfl
            simp only [Array.getD_eq_getD_getElem?, List.getElem?_toArray, List.getElem?_cons_succ, List.getElem?_cons_zero, Option.getD_some] at b1
            go_simp
            exact hK _ _ (Ext.refl _) rfl
          · intro a W hW hB hD K hK
            obtain ⟨v91, e91⟩ : ∃ x, a.tmps.getD 91 undef = x := ⟨_, rfl⟩
            have h91 := hD 12 _ 91 rfl rfl (by kernel_rfl)
            rw [e91] at h91
            simp only [Array.getD_eq_getD_getElem?] at e91
            obtain rfl := h91
            go_simp
            first | exact hK _ _ (Ext.refl _) rfl | exact hK _ _ (Ext.refl _) (congrArg (Value.int IntKind.i64) HW1.out)
          · intro a W hW hB hD K hK
            obtain ⟨v90, e90⟩ : ∃ x, a.tmps.getD 90 undef = x := ⟨_, rfl⟩
            have h90 := hD 11 _ 90 rfl rfl (by kernel_rfl)
            rw [e90] at h90
            simp only [Array.getD_eq_getD_getElem?] at e90
            obtain rfl := h90
            obtain ⟨v92, e92⟩ : ∃ x, a.tmps.getD 92 undef = x := ⟨_, rfl⟩
            have h92 := hD 13 _ 92 rfl rfl (by kernel_rfl)
            rw [e92] at h92
            simp only [Array.getD_eq_getD_getElem?] at e92
            obtain rfl := h92
            go_simp
            exact hK _ _ (Ext.refl _) rfl
          · intro a W hW hB hD K hK
            obtain ⟨v93, e93⟩ : ∃ x, a.tmps.getD 93 undef = x := ⟨_, rfl⟩
            have h93 := hD 14 _ 93 rfl rfl (by kernel_rfl)
            rw [e93] at h93
            simp only [Array.getD_eq_getD_getElem?] at e93
            obtain rfl := h93
            have m0 := (hW.cell (p := ⟨b, o + i, none⟩) lb).trans c0
            have m1 := (hW.cell (p := ⟨b, o + i1, none⟩) lb).trans c1
            have ml := Nat.lt_of_lt_of_le lb hW.size
            go_simp
            exact hK _ _ (Ext.refl _) rfl
          · intro a W hW hB hD K hK
            obtain ⟨v89, e89⟩ : ∃ x, a.tmps.getD 89 undef = x := ⟨_, rfl⟩
            have h89 := hD 10 _ 89 rfl rfl (by kernel_rfl)
            rw [e89] at h89
            simp only [Array.getD_eq_getD_getElem?] at e89
            obtain rfl := h89
            obtain ⟨v94, e94⟩ : ∃ x, a.tmps.getD 94 undef = x := ⟨_, rfl⟩
            have h94 := hD 15 _ 94 rfl rfl (by kernel_rfl)
            rw [e94] at h94
            simp only [Array.getD_eq_getD_getElem?] at e94
            obtain rfl := h94
            go_simp
            exact hK _ _ (Ext.refl _) (congrArg (Value.int IntKind.i64) (HQW.out.trans HQQ.out.symm))
          · intro a W hW hB hD K hK
            obtain ⟨v85, e85⟩ : ∃ x, a.tmps.getD 85 undef = x := ⟨_, rfl⟩
            have h85 := hD 6 _ 85 rfl rfl (by kernel_rfl)
            rw [e85] at h85
            simp only [Array.getD_eq_getD_getElem?] at e85
            obtain rfl := h85
            obtain ⟨v95, e95⟩ : ∃ x, a.tmps.getD 95 undef = x := ⟨_, rfl⟩
            have h95 := hD 16 _ 95 rfl rfl (by kernel_rfl)
            rw [e95] at h95
            simp only [Array.getD_eq_getD_getElem?] at e95
            obtain rfl := h95
            go_simp
            refine (HOF.out _).mono ?_
            rintro e9 w9 ⟨⟨v, rfl, nn⟩, hx⟩
            obtain ⟨s1, s2, s3, s4, rfl⟩ := nn.shape
            exact hK _ _ hx ⟨_, _, _, _, rfl, nn.from (X.out.trans hW)⟩
          · intro a W hW hB hD K hK
            obtain ⟨v96, e96⟩ : ∃ x, a.tmps.getD 96 undef = x := ⟨_, rfl⟩
            have h96 := hD 17 _ 96 rfl rfl (by kernel_rfl)
            rw [e96] at h96
            simp only [Array.getD_eq_getD_getElem?] at e96
            obtain ⟨d1, d2, d3, d4, rfl, dh⟩ := h96
            go_simp
            exact hK _ _ (Ext.refl _) ⟨_, _, _, _, rfl, dh⟩
          · intro a W hW hB hD K hK
            obtain ⟨v78, e78⟩ : ∃ x, a.tmps.getD 78 undef = x := ⟨_, rfl⟩
            have h78 := hD 18 _ 78 rfl rfl (by kernel_rfl)
            rw [e78] at h78
            simp only [Array.getD_eq_getD_getElem?] at e78
            obtain ⟨d1, d2, d3, d4, rfl, dh⟩ := h78
            go_simp
            exact hK _ _ (Ext.refl _) ⟨_, _, _, _, rfl, dh⟩
          · intro a W hW hB hD K hK
            obtain ⟨v78, e78⟩ : ∃ x, a.tmps.getD 78 undef = x := ⟨_, rfl⟩
            have h78 := hD 18 _ 78 rfl rfl (by kernel_rfl)
            rw [e78] at h78
            simp only [Array.getD_eq_getD_getElem?] at e78
            obtain ⟨d1, d2, d3, d4, rfl, dh⟩ := h78
            go_simp
            exact hK _ _ (Ext.refl _) rfl
        · intro a W hW hB hD
          have h78 := hD 18 _ 78 rfl rfl (by kernel_rfl)
          obtain ⟨v78, e78⟩ : ∃ x, a.tmps.getD 78 undef = x := ⟨_, rfl⟩
          rw [e78] at h78
          obtain ⟨d1, d2, d3, d4, rfl, dh⟩ := h78
          exact ⟨.int .i64 e, fun w9 => run_extract9 e78 rfl rfl w9, rfl⟩
        intro w7 hx
        simp only [Vals, List.take_succ_cons, List.take_zero, List.drop_succ_cons, List.drop_zero]
        rintro u0 - u1 - u2 - u3 - u4 - u5 - u6 - u7 - u8 - u9 - u10 - u11 - u12 - u13 - u14 - u15 - u16 - u17 - u18 - u19 h19 u20 h20
        obtain ⟨t1, t2, t3, t4, rfl, ht⟩ := h19
        obtain rfl : u20 = .int .i64 e := h20
        simp only [Act.put, List.setIfInBounds_toArray, List.set_cons_zero, List.set_cons_succ]
        have HT := Lib.hid ht
        have C0 := (hx.cell (p := ⟨b, o + i, none⟩) lb).trans c0
        have C1 := (hx.cell (p := ⟨b, o + i1, none⟩) lb).trans c1
        have LB := Lib.hid (Nat.lt_of_lt_of_le hbw (X.out.trans hx).size)
        have A0 := Lib.hid (A0.out.ext hx); have A1 := Lib.hid (A1.out.ext hx); have X := Lib.hid (X.out.trans hx)
        have lb := LB.out
        clear ht hx c0 c1
        have qA0 := A0.out.cell; have fA0 := A0.out.free; have lA0 := A0.out.lt; have qA1 := A1.out.cell; have fA1 := A1.out.free; have lA1 := A1.out.lt
        have hne : b ≠ w.heap.size := by omega
        have hne1 : b ≠ w.heap.size + 1 := by omega
        have hne2 : w.heap.size ≠ b := Ne.symm hne
        have hne3 : w.heap.size + 1 ≠ b := Ne.symm hne1
        go_wp2_with fail
        clear qA0 fA0 lA0 qA1 fA1 lA1
        clear C0 C1 hne hne1 hne2 hne3
        have hn1 : NewR w (((w7.setCell ⟨w.heap.size + 1, 0, none⟩ (.bool r.neg)).setCell ⟨w.heap.size + 1, 1, none⟩ (.slice t1 r.num.length t2)).setCell ⟨w.heap.size + 1, 2, none⟩ (.slice t3 r.den.length t4)) (.agg #[.bool r.neg, .slice t1 r.num.length t2, .slice t3 r.den.length t4]) r := HT.out.set3b A1.out (by decide) _ _ _
        have ha0 : Blk (((w7.setCell ⟨w.heap.size + 1, 0, none⟩ (.bool r.neg)).setCell ⟨w.heap.size + 1, 1, none⟩ (.slice t1 r.num.length t2)).setCell ⟨w.heap.size + 1, 2, none⟩ (.slice t3 r.den.length t4)) w.heap.size #[.bool false, .slice none 0 0, .slice none 0 0] 62 := Put3.blk (o := 0) A0.out (by omega)
        have hx1 : Ext w (((w7.setCell ⟨w.heap.size + 1, 0, none⟩ (.bool r.neg)).setCell ⟨w.heap.size + 1, 1, none⟩ (.slice t1 r.num.length t2)).setCell ⟨w.heap.size + 1, 2, none⟩ (.slice t3 r.den.length t4)) := ext_put3 (o := 0) X.out (by omega)
        obtain ⟨w8, hw8⟩ : ∃ W, W = (((w7.setCell ⟨w.heap.size + 1, 0, none⟩ (.bool r.neg)).setCell ⟨w.heap.size + 1, 1, none⟩ (.slice t1 r.num.length t2)).setCell ⟨w.heap.size + 1, 2, none⟩ (.slice t3 r.den.length t4)) := ⟨_, rfl⟩
        rw [← hw8] at hn1 ha0 hx1 ⊢
        have NY := Lib.hid hn1; have A0 := Lib.hid ha0; have X := Lib.hid hx1
        clear hn1 ha0 hx1 hw8
        have hb6 := A0.out.all3 (.bool r.neg) (.slice t1 r.num.length t2) (.slice t3 r.den.length t4)
        have hx6 : Ext w (((w8.setCell ⟨w.heap.size, 0, none⟩ (.bool r.neg)).setCell ⟨w.heap.size, 1, none⟩ (.slice t1 r.num.length t2)).setCell ⟨w.heap.size, 2, none⟩ (.slice t3 r.den.length t4)) := ext_put3 (o := 0) X.out (Nat.le_refl _)
        have hn6 : NewR w (((w8.setCell ⟨w.heap.size, 0, none⟩ (.bool r.neg)).setCell ⟨w.heap.size, 1, none⟩ (.slice t1 r.num.length t2)).setCell ⟨w.heap.size, 2, none⟩ (.slice t3 r.den.length t4)) (.agg #[.bool r.neg, .slice t1 r.num.length t2, .slice t3 r.den.length t4]) r := NY.out.set3b A0.out (by decide) _ _ _
        obtain ⟨W6, hW6⟩ : ∃ W, W = (((w8.setCell ⟨w.heap.size, 0, none⟩ (.bool r.neg)).setCell ⟨w.heap.size, 1, none⟩ (.slice t1 r.num.length t2)).setCell ⟨w.heap.size, 2, none⟩ (.slice t3 r.den.length t4)) := ⟨_, rfl⟩
        rw [← hW6] at hb6 hx6 hn6 ⊢
        have HX6 := Lib.hid hx6; have HN6 := Lib.hid hn6
        have heq : r = rep (wt c x i) := by have e9 := congrArg Prod.fst HRR.out; rw [of_ratio (by omega) (by omega)] at e9; rw [show r = _ from e9]; unfold wt; rw [← HY0.out, if_neg e0, if_neg (fun h => absurd h.2.1 (by omega)), ← HI1.out, ← HY1.out, if_pos ⟨by omega, by omega, by omega⟩]
        have HEQ := Lib.hid heq
        clear hW6 hx6 hn6 heq
        refine bodyPost_ret (v := .agg #[.bool r.neg, .slice t1 r.num.length t2, .slice t3 r.den.length t4]) (by have k1 := hb6.cell; have k2 := hb6.free; have k3 := hb6.lt; clear hb6; simp only [results, Tryz.results68]; go_simp) rfl ⟨⟨_, rfl, by rw [← HEQ.out]; exact HN6.out⟩, HX6.out⟩
      · have qA0 := A0.out.cell; have fA0 := A0.out.free; have lA0 := A0.out.lt; have qA1 := A1.out.cell; have fA1 := A1.out.free; have lA1 := A1.out.lt
        go_wp2_with fail
        clear qA0 fA0 lA0 qA1 fA1 lA1
        have hb6 := A0.out
        have hx6 := X.out
        have hn6 : NewR w ((w.alloc (.cells #[.bool false, .slice none 0 0, .slice none 0 0] 62)).alloc (.cells #[.bool false, .slice none 0 0, .slice none 0 0] 62)) (.agg #[.bool false, .slice none 0 0, .slice none 0 0]) zR := NewR.zero _ _
        obtain ⟨W6, hW6⟩ : ∃ W, W = ((w.alloc (.cells #[.bool false, .slice none 0 0, .slice none 0 0] 62)).alloc (.cells #[.bool false, .slice none 0 0, .slice none 0 0] 62)) := ⟨_, rfl⟩
        rw [← hW6] at hb6 hx6 hn6 ⊢
        have HX6 := Lib.hid hx6; have HN6 := Lib.hid hn6
        have heq : zR = rep (wt c x i) := by unfold wt; rw [← HY0.out, if_neg e0, if_neg (fun h => absurd h.2.1 (by omega)), if_neg (fun h => absurd (show y1 < x from by rw [HY1.out, HI1.out]; exact h.2.2) (by omega))]; rfl
        have HEQ := Lib.hid heq
        clear hW6 hx6 hn6 heq
        refine bodyPost_ret (v := .agg #[.bool false, .slice none 0 0, .slice none 0 0]) (by have k1 := hb6.cell; have k2 := hb6.free; have k3 := hb6.lt; clear hb6; simp only [results, Tryz.results68]; go_simp) rfl ⟨⟨_, rfl, by rw [← HEQ.out]; exact HN6.out⟩, HX6.out⟩
    · have z1 : ¬ (0 : Int) < (i : Int) := by omega
      have qA0 := A0.out.cell; have fA0 := A0.out.free; have lA0 := A0.out.lt; have qA1 := A1.out.cell; have fA1 := A1.out.free; have lA1 := A1.out.lt
      go_wp2_with fail
      clear qA0 fA0 lA0 qA1 fA1 lA1
      have hb6 := A0.out
      have hx6 := X.out
      have hn6 : NewR w ((w.alloc (.cells #[.bool false, .slice none 0 0, .slice none 0 0] 62)).alloc (.cells #[.bool false, .slice none 0 0, .slice none 0 0] 62)) (.agg #[.bool false, .slice none 0 0, .slice none 0 0]) zR := NewR.zero _ _
      obtain ⟨W6, hW6⟩ : ∃ W, W = ((w.alloc (.cells #[.bool false, .slice none 0 0, .slice none 0 0] 62)).alloc (.cells #[.bool false, .slice none 0 0, .slice none 0 0] 62)) := ⟨_, rfl⟩
      rw [← hW6] at hb6 hx6 hn6 ⊢
      have HX6 := Lib.hid hx6; have HN6 := Lib.hid hn6
      have heq : zR = rep (wt c x i) := by unfold wt; rw [← HY0.out, if_neg e0, if_neg (fun h => absurd h.2.1 (by omega)), if_neg (fun h => hi0 h.1)]; rfl
      have HEQ := Lib.hid heq
      clear hW6 hx6 hn6 heq
      refine bodyPost_ret (v := .agg #[.bool false, .slice none 0 0, .slice none 0 0]) (by have k1 := hb6.cell; have k2 := hb6.free; have k3 := hb6.lt; clear hb6; simp only [results, Tryz.results68]; go_simp) rfl ⟨⟨_, rfl, by rw [← HEQ.out]; exact HN6.out⟩, HX6.out⟩
  · have r1 : ¬ (i : Int) + 1 < (c.length : Int) := by omega
    have r5 : wrap64 ((i : Int) + 1) = (i : Int) + 1 := by unfold wrap64; omega
    by_cases hi0 : 0 < i
    · obtain ⟨i1, hi1⟩ : ∃ j, j = i - 1 := ⟨_, rfl⟩
      have k1 := HR.out i1 (by omega)
      have by1 := HB.out i1 (by omega)
      have ha := HASC.out i1 i (by omega) hi
      obtain ⟨y1, hy1⟩ : ∃ y, y = c.getD i1 0 := ⟨_, rfl⟩
      rw [← hy1] at k1 by1 ha
      rw [← HY0.out] at ha
      have c1 := (X.out.cell (p := ⟨b, o + i1, none⟩) hbw).trans k1
      have HY1 := Lib.hid hy1; have HI1 := Lib.hid hi1
      have z1 : (0 : Int) < (i : Int) := by omega
      have s1 : (i : Int) - 1 = (i1 : Int) := by omega
      have s2 : (i1 : Int) < (c.length : Int) := by omega
      have s3 : (0 : Int) ≤ (i1 : Int) := by omega
      have r4 : (i : Int) < (c.length : Int) := by omega
      have HW1 := Lib.hid (wrapL (x := (i1 : Int)) (by omega) (by omega))
      have s4 := wrapL (x := (i1 : Int)) (by omega) (by omega)
      clear hy1 hi1 k1
      by_cases hlt : y1 < x
      · have hpw : IntKind.i64.wrap (x - y1) = x - y1 := wrapL (by omega) (by omega)
        have hqw : IntKind.i64.wrap (y0 - y1) = y0 - y1 := wrapL (by omega) (by omega)
        have HPW := Lib.hid hpw; have HQW := Lib.hid hqw
        clear hpw hqw
        have hof := fun W => refOf_any (x - y1) (y0 - y1) W (by omega) (by omega) (by omega) (by omega)
        obtain ⟨rr, hrr⟩ : ∃ r, r = ofR (x - y1) (y0 - y1) := ⟨_, rfl⟩
        rw [← hrr] at hof
        obtain ⟨r, e⟩ := rr
        (try dsimp only at hof)
        have HOF := Lib.hid hof
        obtain ⟨pp, hpp⟩ : ∃ z, z = (x - y1) := ⟨_, rfl⟩
        obtain ⟨qq, hqq⟩ : ∃ z, z = (y0 - y1) := ⟨_, rfl⟩
        rw [← hpp, ← hqq] at HOF
        have HRR := Lib.hid hrr; have HPP := Lib.hid hpp; have HQQ := Lib.hid hqq
        clear hof hrr hpp hqq
        have qA0 := A0.out.cell; have fA0 := A0.out.free; have lA0 := A0.out.lt; have qA1 := A1.out.cell; have fA1 := A1.out.free; have lA1 := A1.out.lt
        go_wp2_with fail
        clear qA0 fA0 lA0 qA1 fA1 lA1
        refine wp_region_each_float 21 20 (rw7J b o c.length ca i i1 x y0 y1 pp qq r e w) rfl (by kernel_rfl) (by kernel_rfl) (by kernel_rfl) (fun _ _ _ _ h x => rw7J_ext h x) (fun _ _ d _ _ h => by cases d <;> exact h) ?_ ?_ ?_
        · refine ⟨?_, ?_, ?_, ?_, ?_, ?_, ?_, ?_, ?_, ?_, ?_, ?_, ?_, ?_, ?_, ?_, ?_, ?_, ?_, ?_, ?_, trivial⟩
          · intro a W hW hB hD K hK
            have b2 := hB 2 rfl
            simp only [Array.getD_eq_getD_getElem?, List.getElem?_toArray, List.getElem?_cons_succ, List.getElem?_cons_zero, Option.getD_some] at b2
            go_simp
            exact hK _ _ (Ext.refl _) rfl
          · intro a W hW hB hD K hK
            have b0 := hB 0 rfl
            simp only [Array.getD_eq_getD_getElem?, List.getElem?_toArray, List.getElem?_cons_succ, List.getElem?_cons_zero, Option.getD_some] at b0
            go_simp
            exact hK _ _ (Ext.refl _) rfl
          · intro a W hW hB hD K hK
            have b1 := hB 1 rfl
            simp only [Array.getD_eq_getD_getElem?, List.getElem?_toArray, List.getElem?_cons_succ, List.getElem?_cons_zero, Option.getD_some] at b1
            go_simp
            exact hK _ _ (Ext.refl _) rfl
          · intro a W hW hB hD K hK
            obtain ⟨v81, e81⟩ : ∃ x, a.tmps.getD 81 undef = x := ⟨_, rfl⟩
            have h81 := hD 2 _ 81 rfl rfl (by kernel_rfl)
            rw [e81] at h81
            simp only [Array.getD_eq_getD_getElem?] at e81
            obtain rfl := h81
            go_simp
            first | exact hK _ _ (Ext.refl _) rfl | exact hK _ _ (Ext.refl _) (congrArg (Value.int IntKind.i64) HW1.out)
          · intro a W hW hB hD K hK
            obtain ⟨v80, e80⟩ : ∃ x, a.tmps.getD 80 undef = x := ⟨_, rfl⟩
            have h80 := hD 1 _ 80 rfl rfl (by kernel_rfl)
            rw [e80] at h80
            simp only [Array.getD_eq_getD_getElem?] at e80
            obtain rfl := h80
            obtain ⟨v82, e82⟩ : ∃ x, a.tmps.getD 82 undef = x := ⟨_, rfl⟩
            have h82 := hD 3 _ 82 rfl rfl (by kernel_rfl)
            rw [e82] at h82
            simp only [Array.getD_eq_getD_getElem?] at e82
            obtain rfl := h82
            go_simp
            exact hK _ _ (Ext.refl _) rfl
          · intro a W hW hB hD K hK
            obtain ⟨v83, e83⟩ : ∃ x, a.tmps.getD 83 undef = x := ⟨_, rfl⟩
            have h83 := hD 4 _ 83 rfl rfl (by kernel_rfl)
            rw [e83] at h83
            simp only [Array.getD_eq_getD_getElem?] at e83
            obtain rfl := h83
            have m0 := (hW.cell (p := ⟨b, o + i, none⟩) lb).trans c0
            have m1 := (hW.cell (p := ⟨b, o + i1, none⟩) lb).trans c1
            have ml := Nat.lt_of_lt_of_le lb hW.size
            go_simp
            exact hK _ _ (Ext.refl _) rfl
          · intro a W hW hB hD K hK
            obtain ⟨v79, e79⟩ : ∃ x, a.tmps.getD 79 undef = x := ⟨_, rfl⟩
            have h79 := hD 0 _ 79 rfl rfl (by kernel_rfl)
            rw [e79] at h79
            simp only [Array.getD_eq_getD_getElem?] at e79
            obtain rfl := h79
            obtain ⟨v84, e84⟩ : ∃ x, a.tmps.getD 84 undef = x := ⟨_, rfl⟩
            have h84 := hD 5 _ 84 rfl rfl (by kernel_rfl)
            rw [e84] at h84
            simp only [Array.getD_eq_getD_getElem?] at e84
            obtain rfl := h84
            go_simp
            exact hK _ _ (Ext.refl _) (congrArg (Value.int IntKind.i64) (HPW.out.trans HPP.out.symm))
          · intro a W hW hB hD K hK
            have b0 := hB 0 rfl
            simp only [Array.getD_eq_getD_getElem?, List.getElem?_toArray, List.getElem?_cons_succ, List.getElem?_cons_zero, Option.getD_some] at b0
            go_simp
            exact hK _ _ (Ext.refl _) rfl
          · intro a W hW hB hD K hK
            have b1 := hB 1 rfl
            simp only [Array.getD_eq_getD_getElem?, List.getElem?_toArray, List.getElem?_cons_succ, List.getElem?_cons_zero, Option.getD_some] at b1
            go_simp
            exact hK _ _ (Ext.refl _) rfl
          · intro a W hW hB hD K hK
            obtain ⟨v86, e86⟩ : ∃ x, a.tmps.getD 86 undef = x := ⟨_, rfl⟩
            have h86 := hD 7 _ 86 rfl rfl (by kernel_rfl)
            rw [e86] at h86
            simp only [Array.getD_eq_getD_getElem?] at e86
            obtain rfl := h86
            obtain ⟨v87, e87⟩ : ∃ x, a.tmps.getD 87 undef = x := ⟨_, rfl⟩
            have h87 := hD 8 _ 87 rfl rfl (by kernel_rfl)
            rw [e87] at h87
            simp only [Array.getD_eq_getD_getElem?] at e87
            obtain rfl := h87
            go_simp
            exact hK _ _ (Ext.refl _) rfl
          · intro a W hW hB hD K hK
            obtain ⟨v88, e88⟩ : ∃ x, a.tmps.getD 88 undef = x := ⟨_, rfl⟩
            have h88 := hD 9 _ 88 rfl rfl (by kernel_rfl)
            rw [e88] at h88
            simp only [Array.getD_eq_getD_getElem?] at e88
            obtain rfl := h88
            have m0 := (hW.cell (p := ⟨b, o + i, none⟩) lb).trans c0
            have m1 := (hW.cell (p := ⟨b, o + i1, none⟩) lb).trans c1
            have ml := Nat.lt_of_lt_of_le lb hW.size
            go_simp
            exact hK _ _ (Ext.refl _) rfl
          · intro a W hW hB hD K hK
            have b0 := hB 0 rfl
            simp only [Array.getD_eq_getD_getElem?, List.getElem?_toArray, List.getElem?_cons_succ, List.getElem?_cons_zero, Option.getD_some] at b0
            go_simp
            exact hK _ _ (Ext.refl _) rfl
          · intro a W hW hB hD K hK
            have b1 := hB 1 rfl
            simp only [Array.getD_eq_getD_getElem?, List.getElem?_toArray, List.getElem?_cons_succ, List.getElem?_cons_zero, Option.getD_some] at b1
            go_simp
            exact hK _ _ (Ext.refl _) rfl
          · intro a W hW hB hD K hK
            obtain ⟨v91, e91⟩ : ∃ x, a.tmps.getD 91 undef = x := ⟨_, rfl⟩
            have h91 := hD 12 _ 91 rfl rfl (by kernel_rfl)
            rw [e91] at h91
            simp only [Array.getD_eq_getD_getElem?] at e91
            obtain rfl := h91
            go_simp
            first | exact hK _ _ (Ext.refl _) rfl | exact hK _ _ (Ext.refl _) (congrArg (Value.int IntKind.i64) HW1.out)
          · intro a W hW hB hD K hK
            obtain ⟨v90, e90⟩ : ∃ x, a.tmps.getD 90 undef = x := ⟨_, rfl⟩
            have h90 := hD 11 _ 90 rfl rfl (by kernel_rfl)
            rw [e90] at h90
            simp only [Array.getD_eq_getD_getElem?] at e90
            obtain rfl := h90
            obtain ⟨v92, e92⟩ : ∃ x, a.tmps.getD 92 undef = x := ⟨_, rfl⟩
            have h92 := hD 13 _ 92 rfl rfl (by kernel_rfl)
            rw [e92] at h92
            simp only [Array.getD_eq_getD_getElem?] at e92
            obtain rfl := h92
            go_simp
            exact hK _ _ (Ext.refl _) rfl
          · intro a W hW hB hD K hK
            obtain ⟨v93, e93⟩ : ∃ x, a.tmps.getD 93 undef = x := ⟨_, rfl⟩
            have h93 := hD 14 _ 93 rfl rfl (by kernel_rfl)
            rw [e93] at h93
            simp only [Array.getD_eq_getD_getElem?] at e93
            obtain rfl := h93
            have m0 := (hW.cell (p := ⟨b, o + i, none⟩) lb).trans c0
            have m1 := (hW.cell (p := ⟨b, o + i1, none⟩) lb).trans c1
            have ml := Nat.lt_of_lt_of_le lb hW.size
            go_simp
            exact hK _ _ (Ext.refl _) rfl
          · intro a W hW hB hD K hK
            obtain ⟨v89, e89⟩ : ∃ x, a.tmps.getD 89 undef = x := ⟨_, rfl⟩
            have h89 := hD 10 _ 89 rfl rfl (by kernel_rfl)
            rw [e89] at h89
            simp only [Array.getD_eq_getD_getElem?] at e89
            obtain rfl := h89
            obtain ⟨v94, e94⟩ : ∃ x, a.tmps.getD 94 undef = x := ⟨_, rfl⟩
            have h94 := hD 15 _ 94 rfl rfl (by kernel_rfl)
            rw [e94] at h94
            simp only [Array.getD_eq_getD_getElem?] at e94
            obtain rfl := h94
            go_simp
            exact hK _ _ (Ext.refl _) (congrArg (Value.int IntKind.i64) (HQW.out.trans HQQ.out.symm))
          · intro a W hW hB hD K hK
            obtain ⟨v85, e85⟩ : ∃ x, a.tmps.getD 85 undef = x := ⟨_, rfl⟩
            have h85 := hD 6 _ 85 rfl rfl (by kernel_rfl)
            rw [e85] at h85
            simp only [Array.getD_eq_getD_getElem?] at e85
            obtain rfl := h85
            obtain ⟨v95, e95⟩ : ∃ x, a.tmps.getD 95 undef = x := ⟨_, rfl⟩
            have h95 := hD 16 _ 95 rfl rfl (by kernel_rfl)
            rw [e95] at h95
            simp only [Array.getD_eq_getD_getElem?] at e95
            obtain rfl := h95
            go_simp
            refine (HOF.out _).mono ?_
            rintro e9 w9 ⟨⟨v, rfl, nn⟩, hx⟩
            obtain ⟨s1, s2, s3, s4, rfl⟩ := nn.shape
            exact hK _ _ hx ⟨_, _, _, _, rfl, nn.from (X.out.trans hW)⟩
          · intro a W hW hB hD K hK
            obtain ⟨v96, e96⟩ : ∃ x, a.tmps.getD 96 undef = x := ⟨_, rfl⟩
            have h96 := hD 17 _ 96 rfl rfl (by kernel_rfl)
            rw [e96] at h96
            simp only [Array.getD_eq_getD_getElem?] at e96
            obtain ⟨d1, d2, d3, d4, rfl, dh⟩ := h96
            go_simp
            exact hK _ _ (Ext.refl _) ⟨_, _, _, _, rfl, dh⟩
          · intro a W hW hB hD K hK
            obtain ⟨v78, e78⟩ : ∃ x, a.tmps.getD 78 undef = x := ⟨_, rfl⟩
            have h78 := hD 18 _ 78 rfl rfl (by kernel_rfl)
            rw [e78] at h78
            simp only [Array.getD_eq_getD_getElem?] at e78
            obtain ⟨d1, d2, d3, d4, rfl, dh⟩ := h78
            go_simp
            exact hK _ _ (Ext.refl _) ⟨_, _, _, _, rfl, dh⟩
          · intro a W hW hB hD K hK
            obtain ⟨v78, e78⟩ : ∃ x, a.tmps.getD 78 undef = x := ⟨_, rfl⟩
            have h78 := hD 18 _ 78 rfl rfl (by kernel_rfl)
            rw [e78] at h78
            simp only [Array.getD_eq_getD_getElem?] at e78
            obtain ⟨d1, d2, d3, d4, rfl, dh⟩ := h78
            go_simp
            exact hK _ _ (Ext.refl _) rfl
        · intro a W hW hB hD
          have h78 := hD 18 _ 78 rfl rfl (by kernel_rfl)
          obtain ⟨v78, e78⟩ : ∃ x, a.tmps.getD 78 undef = x := ⟨_, rfl⟩
          rw [e78] at h78
          obtain ⟨d1, d2, d3, d4, rfl, dh⟩ := h78
          exact ⟨.int .i64 e, fun w9 => run_extract9 e78 rfl rfl w9, rfl⟩
        intro w7 hx
        simp only [Vals, List.take_succ_cons, List.take_zero, List.drop_succ_cons, List.drop_zero]
        rintro u0 - u1 - u2 - u3 - u4 - u5 - u6 - u7 - u8 - u9 - u10 - u11 - u12 - u13 - u14 - u15 - u16 - u17 - u18 - u19 h19 u20 h20
        obtain ⟨t1, t2, t3, t4, rfl, ht⟩ := h19
        obtain rfl : u20 = .int .i64 e := h20
        simp only [Act.put, List.setIfInBounds_toArray, List.set_cons_zero, List.set_cons_succ]
        have HT := Lib.hid ht
        have C0 := (hx.cell (p := ⟨b, o + i, none⟩) lb).trans c0
        have C1 := (hx.cell (p := ⟨b, o + i1, none⟩) lb).trans c1
        have LB := Lib.hid (Nat.lt_of_lt_of_le hbw (X.out.trans hx).size)
        have A0 := Lib.hid (A0.out.ext hx); have A1 := Lib.hid (A1.out.ext hx); have X := Lib.hid (X.out.trans hx)
        have lb := LB.out
        clear ht hx c0 c1
        have qA0 := A0.out.cell; have fA0 := A0.out.free; have lA0 := A0.out.lt; have qA1 := A1.out.cell; have fA1 := A1.out.free; have lA1 := A1.out.lt
        have hne : b ≠ w.heap.size := by omega
        have hne1 : b ≠ w.heap.size + 1 := by omega
        have hne2 : w.heap.size ≠ b := Ne.symm hne
        have hne3 : w.heap.size + 1 ≠ b := Ne.symm hne1
        go_wp2_with fail
        clear qA0 fA0 lA0 qA1 fA1 lA1
        clear C0 C1 hne hne1 hne2 hne3
        have hn1 : NewR w (((w7.setCell ⟨w.heap.size + 1, 0, none⟩ (.bool r.neg)).setCell ⟨w.heap.size + 1, 1, none⟩ (.slice t1 r.num.length t2)).setCell ⟨w.heap.size + 1, 2, none⟩ (.slice t3 r.den.length t4)) (.agg #[.bool r.neg, .slice t1 r.num.length t2, .slice t3 r.den.length t4]) r := HT.out.set3b A1.out (by decide) _ _ _
        have ha0 : Blk (((w7.setCell ⟨w.heap.size + 1, 0, none⟩ (.bool r.neg)).setCell ⟨w.heap.size + 1, 1, none⟩ (.slice t1 r.num.length t2)).setCell ⟨w.heap.size + 1, 2, none⟩ (.slice t3 r.den.length t4)) w.heap.size #[.bool false, .slice none 0 0, .slice none 0 0] 62 := Put3.blk (o := 0) A0.out (by omega)
        have hx1 : Ext w (((w7.setCell ⟨w.heap.size + 1, 0, none⟩ (.bool r.neg)).setCell ⟨w.heap.size + 1, 1, none⟩ (.slice t1 r.num.length t2)).setCell ⟨w.heap.size + 1, 2, none⟩ (.slice t3 r.den.length t4)) := ext_put3 (o := 0) X.out (by omega)
        obtain ⟨w8, hw8⟩ : ∃ W, W = (((w7.setCell ⟨w.heap.size + 1, 0, none⟩ (.bool r.neg)).setCell ⟨w.heap.size + 1, 1, none⟩ (.slice t1 r.num.length t2)).setCell ⟨w.heap.size + 1, 2, none⟩ (.slice t3 r.den.length t4)) := ⟨_, rfl⟩
        rw [← hw8] at hn1 ha0 hx1 ⊢
        have NY := Lib.hid hn1; have A0 := Lib.hid ha0; have X := Lib.hid hx1
        clear hn1 ha0 hx1 hw8
        have hb6 := A0.out.all3 (.bool r.neg) (.slice t1 r.num.length t2) (.slice t3 r.den.length t4)
        have hx6 : Ext w (((w8.setCell ⟨w.heap.size, 0, none⟩ (.bool r.neg)).setCell ⟨w.heap.size, 1, none⟩ (.slice t1 r.num.length t2)).setCell ⟨w.heap.size, 2, none⟩ (.slice t3 r.den.length t4)) := ext_put3 (o := 0) X.out (Nat.le_refl _)
        have hn6 : NewR w (((w8.setCell ⟨w.heap.size, 0, none⟩ (.bool r.neg)).setCell ⟨w.heap.size, 1, none⟩ (.slice t1 r.num.length t2)).setCell ⟨w.heap.size, 2, none⟩ (.slice t3 r.den.length t4)) (.agg #[.bool r.neg, .slice t1 r.num.length t2, .slice t3 r.den.length t4]) r := NY.out.set3b A0.out (by decide) _ _ _
        obtain ⟨W6, hW6⟩ : ∃ W, W = (((w8.setCell ⟨w.heap.size, 0, none⟩ (.bool r.neg)).setCell ⟨w.heap.size, 1, none⟩ (.slice t1 r.num.length t2)).setCell ⟨w.heap.size, 2, none⟩ (.slice t3 r.den.length t4)) := ⟨_, rfl⟩
        rw [← hW6] at hb6 hx6 hn6 ⊢
        have HX6 := Lib.hid hx6; have HN6 := Lib.hid hn6
        have heq : r = rep (wt c x i) := by have e9 := congrArg Prod.fst HRR.out; rw [of_ratio (by omega) (by omega)] at e9; rw [show r = _ from e9]; unfold wt; rw [← HY0.out, if_neg e0, if_neg (fun h => absurd h.2.1 (by omega)), ← HI1.out, ← HY1.out, if_pos ⟨by omega, by omega, by omega⟩]
        have HEQ := Lib.hid heq
        clear hW6 hx6 hn6 heq
        refine bodyPost_ret (v := .agg #[.bool r.neg, .slice t1 r.num.length t2, .slice t3 r.den.length t4]) (by have k1 := hb6.cell; have k2 := hb6.free; have k3 := hb6.lt; clear hb6; simp only [results, Tryz.results68]; go_simp) rfl ⟨⟨_, rfl, by rw [← HEQ.out]; exact HN6.out⟩, HX6.out⟩
      · have qA0 := A0.out.cell; have fA0 := A0.out.free; have lA0 := A0.out.lt; have qA1 := A1.out.cell; have fA1 := A1.out.free; have lA1 := A1.out.lt
        go_wp2_with fail
        clear qA0 fA0 lA0 qA1 fA1 lA1
        have hb6 := A0.out
        have hx6 := X.out
        have hn6 : NewR w ((w.alloc (.cells #[.bool false, .slice none 0 0, .slice none 0 0] 62)).alloc (.cells #[.bool false, .slice none 0 0, .slice none 0 0] 62)) (.agg #[.bool false, .slice none 0 0, .slice none 0 0]) zR := NewR.zero _ _
        obtain ⟨W6, hW6⟩ : ∃ W, W = ((w.alloc (.cells #[.bool false, .slice none 0 0, .slice none 0 0] 62)).alloc (.cells #[.bool false, .slice none 0 0, .slice none 0 0] 62)) := ⟨_, rfl⟩
        rw [← hW6] at hb6 hx6 hn6 ⊢
        have HX6 := Lib.hid hx6; have HN6 := Lib.hid hn6
        have heq : zR = rep (wt c x i) := by unfold wt; rw [← HY0.out, if_neg e0, if_neg (fun h => absurd h.2.1 (by omega)), if_neg (fun h => absurd (show y1 < x from by rw [HY1.out, HI1.out]; exact h.2.2) (by omega))]; rfl
        have HEQ := Lib.hid heq
        clear hW6 hx6 hn6 heq
        refine bodyPost_ret (v := .agg #[.bool false, .slice none 0 0, .slice none 0 0]) (by have k1 := hb6.cell; have k2 := hb6.free; have k3 := hb6.lt; clear hb6; simp only [results, Tryz.results68]; go_simp) rfl ⟨⟨_, rfl, by rw [← HEQ.out]; exact HN6.out⟩, HX6.out⟩
    · have z1 : ¬ (0 : Int) < (i : Int) := by omega
      have qA0 := A0.out.cell; have fA0 := A0.out.free; have lA0 := A0.out.lt; have qA1 := A1.out.cell; have fA1 := A1.out.free; have lA1 := A1.out.lt
      go_wp2_with fail
      clear qA0 fA0 lA0 qA1 fA1 lA1
      have hb6 := A0.out
      have hx6 := X.out
      have hn6 : NewR w ((w.alloc (.cells #[.bool false, .slice none 0 0, .slice none 0 0] 62)).alloc (.cells #[.bool false, .slice none 0 0, .slice none 0 0] 62)) (.agg #[.bool false, .slice none 0 0, .slice none 0 0]) zR := NewR.zero _ _
      obtain ⟨W6, hW6⟩ : ∃ W, W = ((w.alloc (.cells #[.bool false, .slice none 0 0, .slice none 0 0] 62)).alloc (.cells #[.bool false, .slice none 0 0, .slice none 0 0] 62)) := ⟨_, rfl⟩
      rw [← hW6] at hb6 hx6 hn6 ⊢
      have HX6 := Lib.hid hx6; have HN6 := Lib.hid hn6
      have heq : zR = rep (wt c x i) := by unfold wt; rw [← HY0.out, if_neg e0, if_neg (fun h => absurd h.2.1 (by omega)), if_neg (fun h => hi0 h.1)]; rfl
      have HEQ := Lib.hid heq
      clear hW6 hx6 hn6 heq
      refine bodyPost_ret (v := .agg #[.bool false, .slice none 0 0, .slice none 0 0]) (by have k1 := hb6.cell; have k2 := hb6.free; have k3 := hb6.lt; clear hb6; simp only [results, Tryz.results68]; go_simp) rfl ⟨⟨_, rfl, by rw [← HEQ.out]; exact HN6.out⟩, HX6.out⟩
end Go.Proofs.YthkfkfbfblppeaaGreat
