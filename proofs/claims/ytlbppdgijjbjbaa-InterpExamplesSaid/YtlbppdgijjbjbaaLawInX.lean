/- Walk of the law InterpExamples: it returns true (written by mkxin.py). Conditions: none. -/
import Derived.Test.YtlbppdgijjbjbaaInK
import Derived.Test.YtlbppdgijjbjbaaEachF
import Derived.Test.YtlbppdgijjbjbaaRatRb
import Derived.Test.YtlbppdgijjbjbaaInU
namespace Go.Proofs.Ytlbppdgijjbjbaa
set_option linter.unusedSimpArgs false
set_option linter.unusedVariables false
open Go.RowKit

/-- The first n numbers. -/
def axn (n : Nat) : List Int := (List.range n).map fun (i : Nat) => (i : Int)
/-- The axis as far as it is filled. -/
def axf (k : Nat) : List Int := (List.range 33).map fun (i : Nat) => if i < k then (i : Int) else 0
theorem axf_set {k : Nat} (hk : k < 33) : (((axf k).map (Value.int .i64)).toArray).setIfInBounds k (.int .i64 k) = ((axf (k + 1)).map (Value.int .i64)).toArray := by
  apply Array.ext
  · simp [axf]
  · intro i h1 h2
    simp only [axf, List.map_map, List.size_toArray, List.length_map, List.length_range] at h2
    rw [Array.getElem_setIfInBounds]
    · by_cases e : k = i
      · subst e; simp [axf]
      · have : (i < k + 1) ↔ i < k := by omega
        simp [axf, e, this]
    · simp [axf]; exact h2
theorem axf_all : axf 33 = axn 33 := by kernel_rfl
theorem infoInt7 : (Try.prog.info? 3).map (fun i => (i.zero, i.size, i.bytes)) = some (some (.int .i64 0), 1, 8) := by kernel_rfl
theorem wpList_make_i {w : World} {ops : Array Oper} {rest : List Oper} {o : Oper} {a : Act} {Q : Exit → Act → World → Prop} {t e : TypeId} {z : Value} {k bytes : Nat}
    (hg : o.guard = none) (l c : Operand) (hop : o.op = Op.makeSlice t l c) (n : Nat) (hl : a.eval l = .int .i64 (n : Int)) (hc : a.eval c = .int .i64 (n : Int)) (ht : Try.prog.underlying t = some (.slice e)) (hinfo : (Try.prog.info? e).map (fun i => (i.zero, i.size, i.bytes)) = some (some z, k, bytes)) (hn : bytes * n ≤ 1000000000000) (hn2 : n ≤ 1000000000)
    (C : Array Value) (hC : madeCells z.cells (n * k) = C) (hK : wpList Try.prog ops Q rest (a.put o.dst (.slice (some ⟨w.heap.size, 0, none⟩) n n)) (w.alloc (.cells C e))) : wpList Try.prog ops Q (o :: rest) a w := by
  have hr := make_run w n ht hinfo hn hn2
  rw [hC] at hr
  refine wpList_plain hg fun K hK' => ?_
  unfold Oper.wp
  simp only [execOp, hop, hl, hc]
  simp [hr, Result.andThen]
  exact hK' _ _ hK
theorem axcut {W : World} {an : Nat} (h : RdI .i64 W (.slice (some ⟨an, 0, none⟩) 33 33) (axn 33)) (k : Nat) (hk : k ≤ 33) : RdI .i64 W (.slice (some ⟨an, 0, none⟩) (axn k).length 33) (axn k) := by
  obtain ⟨_, _, e, _, _, hr⟩ := h.get
  injection e with e1 _ _
  subst e1
  refine ⟨_, _, by rw [List.length_map], by simp [axn]; exact hk, by decide, fun i hi => ?_⟩
  have hik : i < k := by simpa [axn] using hi
  obtain ⟨b, off, e2, e3, e4⟩ := hr i (by simp [axn]; omega)
  refine ⟨b, off, e2, e3, ?_⟩
  rw [e4]
  simp [axn, hik, show i < 33 by omega]
theorem nilI_rd (W : World) : RdI .i64 W (.slice none ([] : List Int).length 0) [] := ⟨none, 0, rfl, Nat.le_refl _, by decide, fun i hi => (by cases hi)⟩
theorem nilRs_rd {W : World} : RdRs W (.slice none 0 0) [] := ⟨none, 0, rfl, Nat.le_refl _, by decide, fun i hi => (by cases hi)⟩
theorem nilLimL : LimL [] := fun i hi => (by cases hi)
theorem nilG_rd (W : World) : RdG W (.slice none 0 0) [] := ⟨none, 0, rfl, Nat.le_refl _, by decide, fun i hi => (by cases hi)⟩
theorem rdG_blk {W : World} {b : Nat} {cs : Array Value} {t : TypeId} (g : List (List Int)) (n : Nat) (h : Blk W b cs t) (hn : g.length = n) (hs : n ≤ 1000) (hr : ∀ i, i < n → ∃ ai ci, cs[i]? = some (.slice ai (g.getD i []).length ci) ∧ RdI .i64 W (.slice ai (g.getD i []).length ci) (g.getD i [])) : RdG W (.slice (some ⟨b, 0, none⟩) n n) g := by
  subst hn
  refine ⟨_, _, rfl, Nat.le_refl _, by omega, fun i hi => ?_⟩
  obtain ⟨ai, ci, e1, e2⟩ := hr i hi
  exact ⟨b, 0, ai, ci, rfl, h.lt, by rw [h.cell, Nat.zero_add]; exact e1, e2⟩
/-- The table of grids, and their errors. -/
def tabG : List (List (List Int)) := [[], [[1], [1], [1], [1], []], [[], axn 33], [axn 33, []], [[1, 1]], [[2, 1], []], [[1073741825]], [[-1073741824, 1073741824]], [axn 32, axn 8], [axn 32, axn 8, axn 2], [[5], [5], [5], [5]]]
def tabE : List Int := [3, 4, 3, 4, 1, 1, 1, 0, 0, 10, 0]
def TabR (W : World) (b : Nat) : Prop := b < W.heap.size ∧ ∀ i, i < 11 → ∃ a n c, W.cell? ⟨b, i * 2, none⟩ = some (.slice a n c) ∧ W.cell? ⟨b, i * 2 + 1, none⟩ = some (.int .i64 (tabE.getD i 0)) ∧ RdG W (.slice a n c) (tabG.getD i [])
theorem TabR.ext {W W' : World} {b : Nat} (h : TabR W b) (x : Ext W W') : TabR W' b := ⟨Nat.lt_of_lt_of_le h.1 x.size, fun i hi => by
  obtain ⟨a, n, c, h1, h2, h3⟩ := h.2 i hi
  exact ⟨a, n, c, (x.cell (p := ⟨b, i * 2, none⟩) h.1).trans h1, (x.cell (p := ⟨b, i * 2 + 1, none⟩) h.1).trans h2, h3.ext x⟩⟩
theorem tab_err : ∀ i, i < 11 → gridE (tabG.getD i []) = tabE.getD i 0 := by
  have : ((List.range 11).all fun i => decide (gridE (tabG.getD i []) = tabE.getD i 0)) = true := by kernel_rfl
  intro i hi
  exact of_decide_eq_true (List.all_eq_true.1 this i (List.mem_range.2 hi))
theorem tab_wts : ∀ i, i < 11 → weightsS (tabG.getD i []) [] = ([], if tabE.getD i 0 = 0 then 16 else tabE.getD i 0) := by
  have : ((List.range 11).all fun i => decide (gridE (tabG.getD i []) = 0 → (tabG.getD i []).length ≠ 0)) = true := by kernel_rfl
  intro i hi
  have h1 := of_decide_eq_true (List.all_eq_true.1 this i (List.mem_range.2 hi))
  have h2 := tab_err i hi
  unfold weightsS
  by_cases h0 : gridE (tabG.getD i []) = 0
  · rw [if_pos h0, if_neg (fun e => h1 h0 e.symm), if_pos (by rw [← h2]; exact h0)]
  · rw [if_neg h0, if_neg (by rw [← h2]; exact h0), h2]
def gW : List (List Int) := [[-1073741824, 1073741824]]
theorem x7_v1 : vertexS g7 [1] = (0, 16) := by kernel_rfl
theorem x7_v2 : vertexS g7 [1, 3] = (0, 8) := by kernel_rfl
theorem x7_v3 : vertexS g7 [-1, 0, 0] = (0, 16) := by kernel_rfl
theorem x7_p1 : placeS g7 6 = ([], 8) := by kernel_rfl
theorem x7_p2 : pointS g7 (-1) = ([], 8) := by kernel_rfl
theorem x7_y1 : valueS g7 [] [] = (zR, 16) := by kernel_rfl
theorem x7_y2 : valueS g7 [] [1, 1] = (zR, 16) := by kernel_rfl
theorem x7_w1 : weightsS gW [1073741823] = ([(0, s7 1 2147483648), (1, s7 2147483647 2147483648)], 0) := by kernel_rfl
theorem x7_w2 : weightsS gW [-9223372036854775808] = ([(0, r7 1)], 0) := by kernel_rfl
theorem x7_of : ofR 1 2147483648 = (s7 1 2147483648, 0) := by kernel_rfl

def xinJ (an : Nat) (j : Nat) (v : Value) (W : World) : Prop :=
  match j with
  | 0 => v = .agg #[.slice none 0 0, .int .i64 3]
  | 1 => ∃ b, v = .slice (some ⟨b, 0, none⟩) 1 1 ∧ RdI .i64 W (.slice (some ⟨b, 0, none⟩) 1 1) [1]
  | 2 => ∃ b, v = .slice (some ⟨b, 0, none⟩) 1 1 ∧ RdI .i64 W (.slice (some ⟨b, 0, none⟩) 1 1) [1]
  | 3 => ∃ b, v = .slice (some ⟨b, 0, none⟩) 1 1 ∧ RdI .i64 W (.slice (some ⟨b, 0, none⟩) 1 1) [1]
  | 4 => ∃ b, v = .slice (some ⟨b, 0, none⟩) 1 1 ∧ RdI .i64 W (.slice (some ⟨b, 0, none⟩) 1 1) [1]
  | 5 => ∃ b, v = .slice (some ⟨b, 0, none⟩) 5 5 ∧ RdG W (.slice (some ⟨b, 0, none⟩) 5 5) ([[1], [1], [1], [1], []])
  | 6 => ∃ b, v = .agg #[.slice (some ⟨b, 0, none⟩) 5 5, .int .i64 4] ∧ RdG W (.slice (some ⟨b, 0, none⟩) 5 5) ([[1], [1], [1], [1], []])
  | 7 => v = .slice (some ⟨an, 0, none⟩) 33 33
  | 8 => ∃ b, v = .slice (some ⟨b, 0, none⟩) 2 2 ∧ RdG W (.slice (some ⟨b, 0, none⟩) 2 2) ([[], axn 33])
  | 9 => ∃ b, v = .agg #[.slice (some ⟨b, 0, none⟩) 2 2, .int .i64 3] ∧ RdG W (.slice (some ⟨b, 0, none⟩) 2 2) ([[], axn 33])
  | 10 => v = .slice (some ⟨an, 0, none⟩) 33 33
  | 11 => ∃ b, v = .slice (some ⟨b, 0, none⟩) 2 2 ∧ RdG W (.slice (some ⟨b, 0, none⟩) 2 2) ([axn 33, []])
  | 12 => ∃ b, v = .agg #[.slice (some ⟨b, 0, none⟩) 2 2, .int .i64 4] ∧ RdG W (.slice (some ⟨b, 0, none⟩) 2 2) ([axn 33, []])
  | 13 => ∃ b, v = .slice (some ⟨b, 0, none⟩) 2 2 ∧ RdI .i64 W (.slice (some ⟨b, 0, none⟩) 2 2) [1, 1]
  | 14 => ∃ b, v = .slice (some ⟨b, 0, none⟩) 1 1 ∧ RdG W (.slice (some ⟨b, 0, none⟩) 1 1) ([[1, 1]])
  | 15 => ∃ b, v = .agg #[.slice (some ⟨b, 0, none⟩) 1 1, .int .i64 1] ∧ RdG W (.slice (some ⟨b, 0, none⟩) 1 1) ([[1, 1]])
  | 16 => ∃ b, v = .slice (some ⟨b, 0, none⟩) 2 2 ∧ RdI .i64 W (.slice (some ⟨b, 0, none⟩) 2 2) [2, 1]
  | 17 => ∃ b, v = .slice (some ⟨b, 0, none⟩) 2 2 ∧ RdG W (.slice (some ⟨b, 0, none⟩) 2 2) ([[2, 1], []])
  | 18 => ∃ b, v = .agg #[.slice (some ⟨b, 0, none⟩) 2 2, .int .i64 1] ∧ RdG W (.slice (some ⟨b, 0, none⟩) 2 2) ([[2, 1], []])
  | 19 => ∃ b, v = .slice (some ⟨b, 0, none⟩) 1 1 ∧ RdI .i64 W (.slice (some ⟨b, 0, none⟩) 1 1) [1073741825]
  | 20 => ∃ b, v = .slice (some ⟨b, 0, none⟩) 1 1 ∧ RdG W (.slice (some ⟨b, 0, none⟩) 1 1) ([[1073741825]])
  | 21 => ∃ b, v = .agg #[.slice (some ⟨b, 0, none⟩) 1 1, .int .i64 1] ∧ RdG W (.slice (some ⟨b, 0, none⟩) 1 1) ([[1073741825]])
  | 22 => ∃ b, v = .slice (some ⟨b, 0, none⟩) 2 2 ∧ RdI .i64 W (.slice (some ⟨b, 0, none⟩) 2 2) [-1073741824, 1073741824]
  | 23 => ∃ b, v = .slice (some ⟨b, 0, none⟩) 1 1 ∧ RdG W (.slice (some ⟨b, 0, none⟩) 1 1) ([[-1073741824, 1073741824]])
  | 24 => ∃ b, v = .agg #[.slice (some ⟨b, 0, none⟩) 1 1, .int .i64 0] ∧ RdG W (.slice (some ⟨b, 0, none⟩) 1 1) ([[-1073741824, 1073741824]])
  | 25 => v = .slice (some ⟨an, 0, none⟩) 33 33
  | 26 => v = .slice (some ⟨an, 0, none⟩) 32 33
  | 27 => v = .slice (some ⟨an, 0, none⟩) 33 33
  | 28 => v = .slice (some ⟨an, 0, none⟩) 8 33
  | 29 => ∃ b, v = .slice (some ⟨b, 0, none⟩) 2 2 ∧ RdG W (.slice (some ⟨b, 0, none⟩) 2 2) ([axn 32, axn 8])
  | 30 => ∃ b, v = .agg #[.slice (some ⟨b, 0, none⟩) 2 2, .int .i64 0] ∧ RdG W (.slice (some ⟨b, 0, none⟩) 2 2) ([axn 32, axn 8])
  | 31 => v = .slice (some ⟨an, 0, none⟩) 33 33
  | 32 => v = .slice (some ⟨an, 0, none⟩) 32 33
  | 33 => v = .slice (some ⟨an, 0, none⟩) 33 33
  | 34 => v = .slice (some ⟨an, 0, none⟩) 8 33
  | 35 => v = .slice (some ⟨an, 0, none⟩) 33 33
  | 36 => v = .slice (some ⟨an, 0, none⟩) 2 33
  | 37 => ∃ b, v = .slice (some ⟨b, 0, none⟩) 3 3 ∧ RdG W (.slice (some ⟨b, 0, none⟩) 3 3) ([axn 32, axn 8, axn 2])
  | 38 => ∃ b, v = .agg #[.slice (some ⟨b, 0, none⟩) 3 3, .int .i64 10] ∧ RdG W (.slice (some ⟨b, 0, none⟩) 3 3) ([axn 32, axn 8, axn 2])
  | 39 => ∃ b, v = .slice (some ⟨b, 0, none⟩) 1 1 ∧ RdI .i64 W (.slice (some ⟨b, 0, none⟩) 1 1) [5]
  | 40 => ∃ b, v = .slice (some ⟨b, 0, none⟩) 1 1 ∧ RdI .i64 W (.slice (some ⟨b, 0, none⟩) 1 1) [5]
  | 41 => ∃ b, v = .slice (some ⟨b, 0, none⟩) 1 1 ∧ RdI .i64 W (.slice (some ⟨b, 0, none⟩) 1 1) [5]
  | 42 => ∃ b, v = .slice (some ⟨b, 0, none⟩) 1 1 ∧ RdI .i64 W (.slice (some ⟨b, 0, none⟩) 1 1) [5]
  | 43 => ∃ b, v = .slice (some ⟨b, 0, none⟩) 4 4 ∧ RdG W (.slice (some ⟨b, 0, none⟩) 4 4) ([[5], [5], [5], [5]])
  | 44 => ∃ b, v = .agg #[.slice (some ⟨b, 0, none⟩) 4 4, .int .i64 0] ∧ RdG W (.slice (some ⟨b, 0, none⟩) 4 4) ([[5], [5], [5], [5]])
  | 45 => ∃ b, v = .slice (some ⟨b, 0, none⟩) 11 11 ∧ TabR W b
  | 46 => v = .int .i64 11
  | 47 => v = .int .i64 0
  | _ => True
theorem xinJ_ext {an : Nat} {j : Nat} {v : Value} {W W' : World} (h : xinJ an j v W) (x : Ext W W') : xinJ an j v W' := by
  match j, h with
  | 0, h => exact h
  | 1, ⟨b, h1, h2⟩ => exact ⟨b, h1, h2.ext x⟩
  | 2, ⟨b, h1, h2⟩ => exact ⟨b, h1, h2.ext x⟩
  | 3, ⟨b, h1, h2⟩ => exact ⟨b, h1, h2.ext x⟩
  | 4, ⟨b, h1, h2⟩ => exact ⟨b, h1, h2.ext x⟩
  | 5, ⟨b, h1, h2⟩ => exact ⟨b, h1, h2.ext x⟩
  | 6, ⟨b, h1, h2⟩ => exact ⟨b, h1, h2.ext x⟩
  | 7, h => exact h
  | 8, ⟨b, h1, h2⟩ => exact ⟨b, h1, h2.ext x⟩
  | 9, ⟨b, h1, h2⟩ => exact ⟨b, h1, h2.ext x⟩
  | 10, h => exact h
  | 11, ⟨b, h1, h2⟩ => exact ⟨b, h1, h2.ext x⟩
  | 12, ⟨b, h1, h2⟩ => exact ⟨b, h1, h2.ext x⟩
  | 13, ⟨b, h1, h2⟩ => exact ⟨b, h1, h2.ext x⟩
  | 14, ⟨b, h1, h2⟩ => exact ⟨b, h1, h2.ext x⟩
  | 15, ⟨b, h1, h2⟩ => exact ⟨b, h1, h2.ext x⟩
  | 16, ⟨b, h1, h2⟩ => exact ⟨b, h1, h2.ext x⟩
  | 17, ⟨b, h1, h2⟩ => exact ⟨b, h1, h2.ext x⟩
  | 18, ⟨b, h1, h2⟩ => exact ⟨b, h1, h2.ext x⟩
  | 19, ⟨b, h1, h2⟩ => exact ⟨b, h1, h2.ext x⟩
  | 20, ⟨b, h1, h2⟩ => exact ⟨b, h1, h2.ext x⟩
  | 21, ⟨b, h1, h2⟩ => exact ⟨b, h1, h2.ext x⟩
  | 22, ⟨b, h1, h2⟩ => exact ⟨b, h1, h2.ext x⟩
  | 23, ⟨b, h1, h2⟩ => exact ⟨b, h1, h2.ext x⟩
  | 24, ⟨b, h1, h2⟩ => exact ⟨b, h1, h2.ext x⟩
  | 25, h => exact h
  | 26, h => exact h
  | 27, h => exact h
  | 28, h => exact h
  | 29, ⟨b, h1, h2⟩ => exact ⟨b, h1, h2.ext x⟩
  | 30, ⟨b, h1, h2⟩ => exact ⟨b, h1, h2.ext x⟩
  | 31, h => exact h
  | 32, h => exact h
  | 33, h => exact h
  | 34, h => exact h
  | 35, h => exact h
  | 36, h => exact h
  | 37, ⟨b, h1, h2⟩ => exact ⟨b, h1, h2.ext x⟩
  | 38, ⟨b, h1, h2⟩ => exact ⟨b, h1, h2.ext x⟩
  | 39, ⟨b, h1, h2⟩ => exact ⟨b, h1, h2.ext x⟩
  | 40, ⟨b, h1, h2⟩ => exact ⟨b, h1, h2.ext x⟩
  | 41, ⟨b, h1, h2⟩ => exact ⟨b, h1, h2.ext x⟩
  | 42, ⟨b, h1, h2⟩ => exact ⟨b, h1, h2.ext x⟩
  | 43, ⟨b, h1, h2⟩ => exact ⟨b, h1, h2.ext x⟩
  | 44, ⟨b, h1, h2⟩ => exact ⟨b, h1, h2.ext x⟩
  | 45, ⟨b, h1, h2⟩ => exact ⟨b, h1, h2.ext x⟩
  | 46, h => exact h
  | 47, h => exact h
  | _ + 48, _ => trivial

set_option maxRecDepth 100000 in
set_option maxHeartbeats 8000000 in
theorem inx_any (w : World) : Calls Try.prog 5 #[] w fun en w' => en = .returned (.bool true) ∧ Ext w w' := by
  have X := Lib.hid (Ext.refl w)
  go_enter Try.func5, Try.ntmps5
  go_wp2_with fail
  refine (awake7_any _).mono ?_
  rintro e w1 ⟨rfl, hx⟩
  have X := Lib.hid (X.out.trans hx)
  clear hx
  go_wp2_with (with_reducible refine wpList_make_i rfl _ _ rfl 33 rfl rfl Try.underlying24 infoInt7 (by decide) (by decide) ((axf 0).map (Value.int .i64)).toArray (by kernel_rfl) ?_)
  have hb := Blk.new w1 ((axf 0).map (Value.int .i64)).toArray 3
  have hx : Ext w1 (w1.alloc (.cells ((axf 0).map (Value.int .i64)).toArray 3)) := (Ext.refl _).alloc _
  obtain ⟨wl, hwl⟩ : ∃ W, W = (w1.alloc (.cells ((axf 0).map (Value.int .i64)).toArray 3)) := ⟨_, rfl⟩
  rw [← hwl] at hb hx ⊢
  obtain ⟨an, han⟩ : ∃ n, n = w1.heap.size := ⟨_, rfl⟩
  rw [← han] at hb ⊢
  have HA : Hid (w1.heap.size ≤ an) := Lib.hid (by omega)
  have HB := Lib.hid hb; have HX := Lib.hid hx
  clear hb hx hwl han
  go_loopw [2] (fun i wr => ∃ k : Nat, k ≤ 33 ∧ i = .int .i64 k ∧ Ext w1 wr ∧ Blk wr an ((axf k).map (Value.int .i64)).toArray 3) (fun i _ => 33 - (intOf i).toNat)
  case atStart => exact ⟨0, by decide, rfl, HX.out, HB.out⟩
  case round =>
    clear HB HX
    obtain ⟨k, hk, rfl, hext, hblk⟩ := hrel
    have X1 := Lib.hid hext; have AB := Lib.hid hblk
    clear hext hblk
    by_cases hlt : k < 33
    · have q1 : (k : Int) < 33 := by omega
      have q2 : (0 : Int) ≤ (k : Int) := by omega
      have hc : ∃ y, wr.cell? ⟨an, k, none⟩ = some y := ⟨_, by rw [AB.out.cell]; exact Array.getElem?_eq_getElem (by simp [axf]; exact hlt)⟩
      obtain ⟨y0, hc0⟩ := hc
      have fA := AB.out.free; have lA := AB.out.lt
      go_wp2_with fail
      clear hc0 fA lA
      have hb := AB.out.set k (.int .i64 (k : Nat))
      rw [axf_set hlt] at hb
      have hx : Ext w1 (wr.setCell ⟨an, k, none⟩ (.int .i64 (k : Nat))) := X1.out.set (p := ⟨an, k, none⟩) HA.out _
      have HB := Lib.hid hb; have HX := Lib.hid hx
      clear hb hx
      go_roundw
      case rel => exact ⟨k + 1, by omega, by go_num, HX.out, HB.out⟩
      case measure => simp [intOf]; omega
    · obtain rfl : k = 33 := by omega
      have hr := rdI_blk (axf 33) 33 AB.out (by kernel_rfl) (by decide)
      rw [axf_all] at hr
      have AXR := Lib.hid hr; have X := Lib.hid (X.out.trans X1.out)
      clear hr hlt hk AB X1 HA
      rw [show ((33 : Nat) : Int) = 33 from rfl]
      go_wp2_with fail
      refine wp_region_each (xinJ an) (by kernel_rfl) (by kernel_rfl) (by kernel_rfl) (fun _ _ _ _ h x => xinJ_ext h x) ?_ ?_
      · refine ⟨?_, ?_, ?_, ?_, ?_, ?_, ?_, ?_, ?_, ?_, ?_, ?_, ?_, ?_, ?_, ?_, ?_, ?_, ?_, ?_, ?_, ?_, ?_, ?_, ?_, ?_, ?_, ?_, ?_, ?_, ?_, ?_, ?_, ?_, ?_, ?_, ?_, ?_, ?_, ?_, ?_, ?_, ?_, ?_, ?_, ?_, ?_, ?_, trivial⟩
        · intro a W hW hB hD K hK
          go_simp
          exact hK _ _ (Ext.refl _) rfl
        · intro a W hW hB hD K hK
          go_simp
          exact hK _ _ ((Ext.refl _).alloc _) ⟨_, rfl, rdI_blk [1] 1 (Blk.new _ _ _) rfl (by decide)⟩
        · intro a W hW hB hD K hK
          go_simp
          exact hK _ _ ((Ext.refl _).alloc _) ⟨_, rfl, rdI_blk [1] 1 (Blk.new _ _ _) rfl (by decide)⟩
        · intro a W hW hB hD K hK
          go_simp
          exact hK _ _ ((Ext.refl _).alloc _) ⟨_, rfl, rdI_blk [1] 1 (Blk.new _ _ _) rfl (by decide)⟩
        · intro a W hW hB hD K hK
          go_simp
          exact hK _ _ ((Ext.refl _).alloc _) ⟨_, rfl, rdI_blk [1] 1 (Blk.new _ _ _) rfl (by decide)⟩
        · intro a W hW hB hD K hK
          obtain ⟨v47, e47⟩ : ∃ x, a.tmps.getD 47 undef = x := ⟨_, rfl⟩
          have h47 := hD 1 _ 47 rfl rfl (by kernel_rfl)
          rw [e47] at h47
          simp only [Array.getD_eq_getD_getElem?] at e47
          obtain ⟨b0, rfl, r0⟩ := h47
          obtain ⟨v48, e48⟩ : ∃ x, a.tmps.getD 48 undef = x := ⟨_, rfl⟩
          have h48 := hD 2 _ 48 rfl rfl (by kernel_rfl)
          rw [e48] at h48
          simp only [Array.getD_eq_getD_getElem?] at e48
          obtain ⟨b1, rfl, r1⟩ := h48
          obtain ⟨v49, e49⟩ : ∃ x, a.tmps.getD 49 undef = x := ⟨_, rfl⟩
          have h49 := hD 3 _ 49 rfl rfl (by kernel_rfl)
          rw [e49] at h49
          simp only [Array.getD_eq_getD_getElem?] at e49
          obtain ⟨b2, rfl, r2⟩ := h49
          obtain ⟨v50, e50⟩ : ∃ x, a.tmps.getD 50 undef = x := ⟨_, rfl⟩
          have h50 := hD 4 _ 50 rfl rfl (by kernel_rfl)
          rw [e50] at h50
          simp only [Array.getD_eq_getD_getElem?] at e50
          obtain ⟨b3, rfl, r3⟩ := h50
          go_simp
          refine hK _ _ ((Ext.refl _).alloc _) ⟨_, rfl, rdG_blk [[1], [1], [1], [1], []] 5 (Blk.new _ _ _) rfl (by decide) ?_⟩
          intro i hi
          match i, hi with
          | 0, _ => exact ⟨_, _, rfl, r0.ext ((Ext.refl _).alloc _)⟩
          | 1, _ => exact ⟨_, _, rfl, r1.ext ((Ext.refl _).alloc _)⟩
          | 2, _ => exact ⟨_, _, rfl, r2.ext ((Ext.refl _).alloc _)⟩
          | 3, _ => exact ⟨_, _, rfl, r3.ext ((Ext.refl _).alloc _)⟩
          | 4, _ => exact ⟨_, _, rfl, nilI_rd _⟩
        · intro a W hW hB hD K hK
          obtain ⟨v51, e51⟩ : ∃ x, a.tmps.getD 51 undef = x := ⟨_, rfl⟩
          have h51 := hD 5 _ 51 rfl rfl (by kernel_rfl)
          rw [e51] at h51
          simp only [Array.getD_eq_getD_getElem?] at e51
          obtain ⟨gb, rfl, gh⟩ := h51
          go_simp
          exact hK _ _ (Ext.refl _) ⟨_, rfl, gh⟩
        · intro a W hW hB hD K hK
          have b1 := hB 1 rfl
          simp only [Array.getD_eq_getD_getElem?, List.getElem?_toArray, List.getElem?_cons_succ, List.getElem?_cons_zero, Option.getD_some] at b1
          go_simp
          exact hK _ _ (Ext.refl _) rfl
        · intro a W hW hB hD K hK
          obtain ⟨v53, e53⟩ : ∃ x, a.tmps.getD 53 undef = x := ⟨_, rfl⟩
          have h53 := hD 7 _ 53 rfl rfl (by kernel_rfl)
          rw [e53] at h53
          simp only [Array.getD_eq_getD_getElem?] at e53
          obtain rfl := h53
          go_simp
          refine hK _ _ ((Ext.refl _).alloc _) ⟨_, rfl, rdG_blk [[], axn 33] 2 (Blk.new _ _ _) rfl (by decide) ?_⟩
          intro i hi
          match i, hi with
          | 0, _ => exact ⟨_, _, rfl, nilI_rd _⟩
          | 1, _ => exact ⟨_, _, rfl, (axcut AXR.out 33 (by decide)).ext (hW.alloc _)⟩
        · intro a W hW hB hD K hK
          obtain ⟨v54, e54⟩ : ∃ x, a.tmps.getD 54 undef = x := ⟨_, rfl⟩
          have h54 := hD 8 _ 54 rfl rfl (by kernel_rfl)
          rw [e54] at h54
          simp only [Array.getD_eq_getD_getElem?] at e54
          obtain ⟨gb, rfl, gh⟩ := h54
          go_simp
          exact hK _ _ (Ext.refl _) ⟨_, rfl, gh⟩
        · intro a W hW hB hD K hK
          have b1 := hB 1 rfl
          simp only [Array.getD_eq_getD_getElem?, List.getElem?_toArray, List.getElem?_cons_succ, List.getElem?_cons_zero, Option.getD_some] at b1
          go_simp
          exact hK _ _ (Ext.refl _) rfl
        · intro a W hW hB hD K hK
          obtain ⟨v56, e56⟩ : ∃ x, a.tmps.getD 56 undef = x := ⟨_, rfl⟩
          have h56 := hD 10 _ 56 rfl rfl (by kernel_rfl)
          rw [e56] at h56
          simp only [Array.getD_eq_getD_getElem?] at e56
          obtain rfl := h56
          go_simp
          refine hK _ _ ((Ext.refl _).alloc _) ⟨_, rfl, rdG_blk [axn 33, []] 2 (Blk.new _ _ _) rfl (by decide) ?_⟩
          intro i hi
          match i, hi with
          | 0, _ => exact ⟨_, _, rfl, (axcut AXR.out 33 (by decide)).ext (hW.alloc _)⟩
          | 1, _ => exact ⟨_, _, rfl, nilI_rd _⟩
        · intro a W hW hB hD K hK
          obtain ⟨v57, e57⟩ : ∃ x, a.tmps.getD 57 undef = x := ⟨_, rfl⟩
          have h57 := hD 11 _ 57 rfl rfl (by kernel_rfl)
          rw [e57] at h57
          simp only [Array.getD_eq_getD_getElem?] at e57
          obtain ⟨gb, rfl, gh⟩ := h57
          go_simp
          exact hK _ _ (Ext.refl _) ⟨_, rfl, gh⟩
        · intro a W hW hB hD K hK
          go_simp
          exact hK _ _ ((Ext.refl _).alloc _) ⟨_, rfl, rdI_blk [1, 1] 2 (Blk.new _ _ _) rfl (by decide)⟩
        · intro a W hW hB hD K hK
          obtain ⟨v59, e59⟩ : ∃ x, a.tmps.getD 59 undef = x := ⟨_, rfl⟩
          have h59 := hD 13 _ 59 rfl rfl (by kernel_rfl)
          rw [e59] at h59
          simp only [Array.getD_eq_getD_getElem?] at e59
          obtain ⟨b0, rfl, r0⟩ := h59
          go_simp
          refine hK _ _ ((Ext.refl _).alloc _) ⟨_, rfl, rdG_blk [[1, 1]] 1 (Blk.new _ _ _) rfl (by decide) ?_⟩
          intro i hi
          match i, hi with
          | 0, _ => exact ⟨_, _, rfl, r0.ext ((Ext.refl _).alloc _)⟩
        · intro a W hW hB hD K hK
          obtain ⟨v60, e60⟩ : ∃ x, a.tmps.getD 60 undef = x := ⟨_, rfl⟩
          have h60 := hD 14 _ 60 rfl rfl (by kernel_rfl)
          rw [e60] at h60
          simp only [Array.getD_eq_getD_getElem?] at e60
          obtain ⟨gb, rfl, gh⟩ := h60
          go_simp
          exact hK _ _ (Ext.refl _) ⟨_, rfl, gh⟩
        · intro a W hW hB hD K hK
          go_simp
          exact hK _ _ ((Ext.refl _).alloc _) ⟨_, rfl, rdI_blk [2, 1] 2 (Blk.new _ _ _) rfl (by decide)⟩
        · intro a W hW hB hD K hK
          obtain ⟨v62, e62⟩ : ∃ x, a.tmps.getD 62 undef = x := ⟨_, rfl⟩
          have h62 := hD 16 _ 62 rfl rfl (by kernel_rfl)
          rw [e62] at h62
          simp only [Array.getD_eq_getD_getElem?] at e62
          obtain ⟨b0, rfl, r0⟩ := h62
          go_simp
          refine hK _ _ ((Ext.refl _).alloc _) ⟨_, rfl, rdG_blk [[2, 1], []] 2 (Blk.new _ _ _) rfl (by decide) ?_⟩
          intro i hi
          match i, hi with
          | 0, _ => exact ⟨_, _, rfl, r0.ext ((Ext.refl _).alloc _)⟩
          | 1, _ => exact ⟨_, _, rfl, nilI_rd _⟩
        · intro a W hW hB hD K hK
          obtain ⟨v63, e63⟩ : ∃ x, a.tmps.getD 63 undef = x := ⟨_, rfl⟩
          have h63 := hD 17 _ 63 rfl rfl (by kernel_rfl)
          rw [e63] at h63
          simp only [Array.getD_eq_getD_getElem?] at e63
          obtain ⟨gb, rfl, gh⟩ := h63
          go_simp
          exact hK _ _ (Ext.refl _) ⟨_, rfl, gh⟩
        · intro a W hW hB hD K hK
          go_simp
          exact hK _ _ ((Ext.refl _).alloc _) ⟨_, rfl, rdI_blk [1073741825] 1 (Blk.new _ _ _) rfl (by decide)⟩
        · intro a W hW hB hD K hK
          obtain ⟨v65, e65⟩ : ∃ x, a.tmps.getD 65 undef = x := ⟨_, rfl⟩
          have h65 := hD 19 _ 65 rfl rfl (by kernel_rfl)
          rw [e65] at h65
          simp only [Array.getD_eq_getD_getElem?] at e65
          obtain ⟨b0, rfl, r0⟩ := h65
          go_simp
          refine hK _ _ ((Ext.refl _).alloc _) ⟨_, rfl, rdG_blk [[1073741825]] 1 (Blk.new _ _ _) rfl (by decide) ?_⟩
          intro i hi
          match i, hi with
          | 0, _ => exact ⟨_, _, rfl, r0.ext ((Ext.refl _).alloc _)⟩
        · intro a W hW hB hD K hK
          obtain ⟨v66, e66⟩ : ∃ x, a.tmps.getD 66 undef = x := ⟨_, rfl⟩
          have h66 := hD 20 _ 66 rfl rfl (by kernel_rfl)
          rw [e66] at h66
          simp only [Array.getD_eq_getD_getElem?] at e66
          obtain ⟨gb, rfl, gh⟩ := h66
          go_simp
          exact hK _ _ (Ext.refl _) ⟨_, rfl, gh⟩
        · intro a W hW hB hD K hK
          go_simp
          exact hK _ _ ((Ext.refl _).alloc _) ⟨_, rfl, rdI_blk [-1073741824, 1073741824] 2 (Blk.new _ _ _) rfl (by decide)⟩
        · intro a W hW hB hD K hK
          obtain ⟨v68, e68⟩ : ∃ x, a.tmps.getD 68 undef = x := ⟨_, rfl⟩
          have h68 := hD 22 _ 68 rfl rfl (by kernel_rfl)
          rw [e68] at h68
          simp only [Array.getD_eq_getD_getElem?] at e68
          obtain ⟨b0, rfl, r0⟩ := h68
          go_simp
          refine hK _ _ ((Ext.refl _).alloc _) ⟨_, rfl, rdG_blk [[-1073741824, 1073741824]] 1 (Blk.new _ _ _) rfl (by decide) ?_⟩
          intro i hi
          match i, hi with
          | 0, _ => exact ⟨_, _, rfl, r0.ext ((Ext.refl _).alloc _)⟩
        · intro a W hW hB hD K hK
          obtain ⟨v69, e69⟩ : ∃ x, a.tmps.getD 69 undef = x := ⟨_, rfl⟩
          have h69 := hD 23 _ 69 rfl rfl (by kernel_rfl)
          rw [e69] at h69
          simp only [Array.getD_eq_getD_getElem?] at e69
          obtain ⟨gb, rfl, gh⟩ := h69
          go_simp
          exact hK _ _ (Ext.refl _) ⟨_, rfl, gh⟩
        · intro a W hW hB hD K hK
          have b1 := hB 1 rfl
          simp only [Array.getD_eq_getD_getElem?, List.getElem?_toArray, List.getElem?_cons_succ, List.getElem?_cons_zero, Option.getD_some] at b1
          go_simp
          exact hK _ _ (Ext.refl _) rfl
        · intro a W hW hB hD K hK
          obtain ⟨v71, e71⟩ : ∃ x, a.tmps.getD 71 undef = x := ⟨_, rfl⟩
          have h71 := hD 25 _ 71 rfl rfl (by kernel_rfl)
          rw [e71] at h71
          simp only [Array.getD_eq_getD_getElem?] at e71
          obtain rfl := h71
          go_simp
          exact hK _ _ (Ext.refl _) rfl
        · intro a W hW hB hD K hK
          have b1 := hB 1 rfl
          simp only [Array.getD_eq_getD_getElem?, List.getElem?_toArray, List.getElem?_cons_succ, List.getElem?_cons_zero, Option.getD_some] at b1
          go_simp
          exact hK _ _ (Ext.refl _) rfl
        · intro a W hW hB hD K hK
          obtain ⟨v73, e73⟩ : ∃ x, a.tmps.getD 73 undef = x := ⟨_, rfl⟩
          have h73 := hD 27 _ 73 rfl rfl (by kernel_rfl)
          rw [e73] at h73
          simp only [Array.getD_eq_getD_getElem?] at e73
          obtain rfl := h73
          go_simp
          exact hK _ _ (Ext.refl _) rfl
        · intro a W hW hB hD K hK
          obtain ⟨v72, e72⟩ : ∃ x, a.tmps.getD 72 undef = x := ⟨_, rfl⟩
          have h72 := hD 26 _ 72 rfl rfl (by kernel_rfl)
          rw [e72] at h72
          simp only [Array.getD_eq_getD_getElem?] at e72
          obtain rfl := h72
          obtain ⟨v74, e74⟩ : ∃ x, a.tmps.getD 74 undef = x := ⟨_, rfl⟩
          have h74 := hD 28 _ 74 rfl rfl (by kernel_rfl)
          rw [e74] at h74
          simp only [Array.getD_eq_getD_getElem?] at e74
          obtain rfl := h74
          go_simp
          refine hK _ _ ((Ext.refl _).alloc _) ⟨_, rfl, rdG_blk [axn 32, axn 8] 2 (Blk.new _ _ _) rfl (by decide) ?_⟩
          intro i hi
          match i, hi with
          | 0, _ => exact ⟨_, _, rfl, (axcut AXR.out 32 (by decide)).ext (hW.alloc _)⟩
          | 1, _ => exact ⟨_, _, rfl, (axcut AXR.out 8 (by decide)).ext (hW.alloc _)⟩
        · intro a W hW hB hD K hK
          obtain ⟨v75, e75⟩ : ∃ x, a.tmps.getD 75 undef = x := ⟨_, rfl⟩
          have h75 := hD 29 _ 75 rfl rfl (by kernel_rfl)
          rw [e75] at h75
          simp only [Array.getD_eq_getD_getElem?] at e75
          obtain ⟨gb, rfl, gh⟩ := h75
          go_simp
          exact hK _ _ (Ext.refl _) ⟨_, rfl, gh⟩
        · intro a W hW hB hD K hK
          have b1 := hB 1 rfl
          simp only [Array.getD_eq_getD_getElem?, List.getElem?_toArray, List.getElem?_cons_succ, List.getElem?_cons_zero, Option.getD_some] at b1
          go_simp
          exact hK _ _ (Ext.refl _) rfl
        · intro a W hW hB hD K hK
          obtain ⟨v77, e77⟩ : ∃ x, a.tmps.getD 77 undef = x := ⟨_, rfl⟩
          have h77 := hD 31 _ 77 rfl rfl (by kernel_rfl)
          rw [e77] at h77
          simp only [Array.getD_eq_getD_getElem?] at e77
          obtain rfl := h77
          go_simp
          exact hK _ _ (Ext.refl _) rfl
        · intro a W hW hB hD K hK
          have b1 := hB 1 rfl
          simp only [Array.getD_eq_getD_getElem?, List.getElem?_toArray, List.getElem?_cons_succ, List.getElem?_cons_zero, Option.getD_some] at b1
          go_simp
          exact hK _ _ (Ext.refl _) rfl
        · intro a W hW hB hD K hK
          obtain ⟨v79, e79⟩ : ∃ x, a.tmps.getD 79 undef = x := ⟨_, rfl⟩
          have h79 := hD 33 _ 79 rfl rfl (by kernel_rfl)
          rw [e79] at h79
          simp only [Array.getD_eq_getD_getElem?] at e79
          obtain rfl := h79
          go_simp
          exact hK _ _ (Ext.refl _) rfl
        · intro a W hW hB hD K hK
          have b1 := hB 1 rfl
          simp only [Array.getD_eq_getD_getElem?, List.getElem?_toArray, List.getElem?_cons_succ, List.getElem?_cons_zero, Option.getD_some] at b1
          go_simp
          exact hK _ _ (Ext.refl _) rfl
        · intro a W hW hB hD K hK
          obtain ⟨v81, e81⟩ : ∃ x, a.tmps.getD 81 undef = x := ⟨_, rfl⟩
          have h81 := hD 35 _ 81 rfl rfl (by kernel_rfl)
          rw [e81] at h81
          simp only [Array.getD_eq_getD_getElem?] at e81
          obtain rfl := h81
          go_simp
          exact hK _ _ (Ext.refl _) rfl
        · intro a W hW hB hD K hK
          obtain ⟨v78, e78⟩ : ∃ x, a.tmps.getD 78 undef = x := ⟨_, rfl⟩
          have h78 := hD 32 _ 78 rfl rfl (by kernel_rfl)
          rw [e78] at h78
          simp only [Array.getD_eq_getD_getElem?] at e78
          obtain rfl := h78
          obtain ⟨v80, e80⟩ : ∃ x, a.tmps.getD 80 undef = x := ⟨_, rfl⟩
          have h80 := hD 34 _ 80 rfl rfl (by kernel_rfl)
          rw [e80] at h80
          simp only [Array.getD_eq_getD_getElem?] at e80
          obtain rfl := h80
          obtain ⟨v82, e82⟩ : ∃ x, a.tmps.getD 82 undef = x := ⟨_, rfl⟩
          have h82 := hD 36 _ 82 rfl rfl (by kernel_rfl)
          rw [e82] at h82
          simp only [Array.getD_eq_getD_getElem?] at e82
          obtain rfl := h82
          go_simp
          refine hK _ _ ((Ext.refl _).alloc _) ⟨_, rfl, rdG_blk [axn 32, axn 8, axn 2] 3 (Blk.new _ _ _) rfl (by decide) ?_⟩
          intro i hi
          match i, hi with
          | 0, _ => exact ⟨_, _, rfl, (axcut AXR.out 32 (by decide)).ext (hW.alloc _)⟩
          | 1, _ => exact ⟨_, _, rfl, (axcut AXR.out 8 (by decide)).ext (hW.alloc _)⟩
          | 2, _ => exact ⟨_, _, rfl, (axcut AXR.out 2 (by decide)).ext (hW.alloc _)⟩
        · intro a W hW hB hD K hK
          obtain ⟨v83, e83⟩ : ∃ x, a.tmps.getD 83 undef = x := ⟨_, rfl⟩
          have h83 := hD 37 _ 83 rfl rfl (by kernel_rfl)
          rw [e83] at h83
          simp only [Array.getD_eq_getD_getElem?] at e83
          obtain ⟨gb, rfl, gh⟩ := h83
          go_simp
          exact hK _ _ (Ext.refl _) ⟨_, rfl, gh⟩
        · intro a W hW hB hD K hK
          go_simp
          exact hK _ _ ((Ext.refl _).alloc _) ⟨_, rfl, rdI_blk [5] 1 (Blk.new _ _ _) rfl (by decide)⟩
        · intro a W hW hB hD K hK
          go_simp
          exact hK _ _ ((Ext.refl _).alloc _) ⟨_, rfl, rdI_blk [5] 1 (Blk.new _ _ _) rfl (by decide)⟩
        · intro a W hW hB hD K hK
          go_simp
          exact hK _ _ ((Ext.refl _).alloc _) ⟨_, rfl, rdI_blk [5] 1 (Blk.new _ _ _) rfl (by decide)⟩
        · intro a W hW hB hD K hK
          go_simp
          exact hK _ _ ((Ext.refl _).alloc _) ⟨_, rfl, rdI_blk [5] 1 (Blk.new _ _ _) rfl (by decide)⟩
        · intro a W hW hB hD K hK
          obtain ⟨v85, e85⟩ : ∃ x, a.tmps.getD 85 undef = x := ⟨_, rfl⟩
          have h85 := hD 39 _ 85 rfl rfl (by kernel_rfl)
          rw [e85] at h85
          simp only [Array.getD_eq_getD_getElem?] at e85
          obtain ⟨b0, rfl, r0⟩ := h85
          obtain ⟨v86, e86⟩ : ∃ x, a.tmps.getD 86 undef = x := ⟨_, rfl⟩
          have h86 := hD 40 _ 86 rfl rfl (by kernel_rfl)
          rw [e86] at h86
          simp only [Array.getD_eq_getD_getElem?] at e86
          obtain ⟨b1, rfl, r1⟩ := h86
          obtain ⟨v87, e87⟩ : ∃ x, a.tmps.getD 87 undef = x := ⟨_, rfl⟩
          have h87 := hD 41 _ 87 rfl rfl (by kernel_rfl)
          rw [e87] at h87
          simp only [Array.getD_eq_getD_getElem?] at e87
          obtain ⟨b2, rfl, r2⟩ := h87
          obtain ⟨v88, e88⟩ : ∃ x, a.tmps.getD 88 undef = x := ⟨_, rfl⟩
          have h88 := hD 42 _ 88 rfl rfl (by kernel_rfl)
          rw [e88] at h88
          simp only [Array.getD_eq_getD_getElem?] at e88
          obtain ⟨b3, rfl, r3⟩ := h88
          go_simp
          refine hK _ _ ((Ext.refl _).alloc _) ⟨_, rfl, rdG_blk [[5], [5], [5], [5]] 4 (Blk.new _ _ _) rfl (by decide) ?_⟩
          intro i hi
          match i, hi with
          | 0, _ => exact ⟨_, _, rfl, r0.ext ((Ext.refl _).alloc _)⟩
          | 1, _ => exact ⟨_, _, rfl, r1.ext ((Ext.refl _).alloc _)⟩
          | 2, _ => exact ⟨_, _, rfl, r2.ext ((Ext.refl _).alloc _)⟩
          | 3, _ => exact ⟨_, _, rfl, r3.ext ((Ext.refl _).alloc _)⟩
        · intro a W hW hB hD K hK
          obtain ⟨v89, e89⟩ : ∃ x, a.tmps.getD 89 undef = x := ⟨_, rfl⟩
          have h89 := hD 43 _ 89 rfl rfl (by kernel_rfl)
          rw [e89] at h89
          simp only [Array.getD_eq_getD_getElem?] at e89
          obtain ⟨gb, rfl, gh⟩ := h89
          go_simp
          exact hK _ _ (Ext.refl _) ⟨_, rfl, gh⟩
        · intro a W hW hB hD K hK
          obtain ⟨v46, e46⟩ : ∃ x, a.tmps.getD 46 undef = x := ⟨_, rfl⟩
          have h46 := hD 0 _ 46 rfl rfl (by kernel_rfl)
          rw [e46] at h46
          simp only [Array.getD_eq_getD_getElem?] at e46
          obtain rfl := h46
          obtain ⟨v52, e52⟩ : ∃ x, a.tmps.getD 52 undef = x := ⟨_, rfl⟩
          have h52 := hD 6 _ 52 rfl rfl (by kernel_rfl)
          rw [e52] at h52
          simp only [Array.getD_eq_getD_getElem?] at e52
          obtain ⟨a1, rfl, g1⟩ := h52
          obtain ⟨v55, e55⟩ : ∃ x, a.tmps.getD 55 undef = x := ⟨_, rfl⟩
          have h55 := hD 9 _ 55 rfl rfl (by kernel_rfl)
          rw [e55] at h55
          simp only [Array.getD_eq_getD_getElem?] at e55
          obtain ⟨a2, rfl, g2⟩ := h55
          obtain ⟨v58, e58⟩ : ∃ x, a.tmps.getD 58 undef = x := ⟨_, rfl⟩
          have h58 := hD 12 _ 58 rfl rfl (by kernel_rfl)
          rw [e58] at h58
          simp only [Array.getD_eq_getD_getElem?] at e58
          obtain ⟨a3, rfl, g3⟩ := h58
          obtain ⟨v61, e61⟩ : ∃ x, a.tmps.getD 61 undef = x := ⟨_, rfl⟩
          have h61 := hD 15 _ 61 rfl rfl (by kernel_rfl)
          rw [e61] at h61
          simp only [Array.getD_eq_getD_getElem?] at e61
          obtain ⟨a4, rfl, g4⟩ := h61
          obtain ⟨v64, e64⟩ : ∃ x, a.tmps.getD 64 undef = x := ⟨_, rfl⟩
          have h64 := hD 18 _ 64 rfl rfl (by kernel_rfl)
          rw [e64] at h64
          simp only [Array.getD_eq_getD_getElem?] at e64
          obtain ⟨a5, rfl, g5⟩ := h64
          obtain ⟨v67, e67⟩ : ∃ x, a.tmps.getD 67 undef = x := ⟨_, rfl⟩
          have h67 := hD 21 _ 67 rfl rfl (by kernel_rfl)
          rw [e67] at h67
          simp only [Array.getD_eq_getD_getElem?] at e67
          obtain ⟨a6, rfl, g6⟩ := h67
          obtain ⟨v70, e70⟩ : ∃ x, a.tmps.getD 70 undef = x := ⟨_, rfl⟩
          have h70 := hD 24 _ 70 rfl rfl (by kernel_rfl)
          rw [e70] at h70
          simp only [Array.getD_eq_getD_getElem?] at e70
          obtain ⟨a7, rfl, g7⟩ := h70
          obtain ⟨v76, e76⟩ : ∃ x, a.tmps.getD 76 undef = x := ⟨_, rfl⟩
          have h76 := hD 30 _ 76 rfl rfl (by kernel_rfl)
          rw [e76] at h76
          simp only [Array.getD_eq_getD_getElem?] at e76
          obtain ⟨a8, rfl, g8⟩ := h76
          obtain ⟨v84, e84⟩ : ∃ x, a.tmps.getD 84 undef = x := ⟨_, rfl⟩
          have h84 := hD 38 _ 84 rfl rfl (by kernel_rfl)
          rw [e84] at h84
          simp only [Array.getD_eq_getD_getElem?] at e84
          obtain ⟨a9, rfl, g9⟩ := h84
          obtain ⟨v90, e90⟩ : ∃ x, a.tmps.getD 90 undef = x := ⟨_, rfl⟩
          have h90 := hD 44 _ 90 rfl rfl (by kernel_rfl)
          rw [e90] at h90
          simp only [Array.getD_eq_getD_getElem?] at e90
          obtain ⟨a10, rfl, g10⟩ := h90
          have bl := Blk.new W #[.slice none 0 0, .int .i64 3, .slice (some ⟨a1, 0, none⟩) 5 5, .int .i64 4, .slice (some ⟨a2, 0, none⟩) 2 2, .int .i64 3, .slice (some ⟨a3, 0, none⟩) 2 2, .int .i64 4, .slice (some ⟨a4, 0, none⟩) 1 1, .int .i64 1, .slice (some ⟨a5, 0, none⟩) 2 2, .int .i64 1, .slice (some ⟨a6, 0, none⟩) 1 1, .int .i64 1, .slice (some ⟨a7, 0, none⟩) 1 1, .int .i64 0, .slice (some ⟨a8, 0, none⟩) 2 2, .int .i64 0, .slice (some ⟨a9, 0, none⟩) 3 3, .int .i64 10, .slice (some ⟨a10, 0, none⟩) 4 4, .int .i64 0] 51
          go_simp
          refine hK _ _ ((Ext.refl _).alloc _) ⟨_, rfl, bl.lt, ?_⟩
          intro i hi
          match i, hi with
          | 0, _ => exact ⟨_, _, _, bl.cell 0, bl.cell 1, nilG_rd _⟩
          | 1, _ => exact ⟨_, _, _, bl.cell 2, bl.cell 3, g1.ext ((Ext.refl _).alloc _)⟩
          | 2, _ => exact ⟨_, _, _, bl.cell 4, bl.cell 5, g2.ext ((Ext.refl _).alloc _)⟩
          | 3, _ => exact ⟨_, _, _, bl.cell 6, bl.cell 7, g3.ext ((Ext.refl _).alloc _)⟩
          | 4, _ => exact ⟨_, _, _, bl.cell 8, bl.cell 9, g4.ext ((Ext.refl _).alloc _)⟩
          | 5, _ => exact ⟨_, _, _, bl.cell 10, bl.cell 11, g5.ext ((Ext.refl _).alloc _)⟩
          | 6, _ => exact ⟨_, _, _, bl.cell 12, bl.cell 13, g6.ext ((Ext.refl _).alloc _)⟩
          | 7, _ => exact ⟨_, _, _, bl.cell 14, bl.cell 15, g7.ext ((Ext.refl _).alloc _)⟩
          | 8, _ => exact ⟨_, _, _, bl.cell 16, bl.cell 17, g8.ext ((Ext.refl _).alloc _)⟩
          | 9, _ => exact ⟨_, _, _, bl.cell 18, bl.cell 19, g9.ext ((Ext.refl _).alloc _)⟩
          | 10, _ => exact ⟨_, _, _, bl.cell 20, bl.cell 21, g10.ext ((Ext.refl _).alloc _)⟩
        · intro a W hW hB hD K hK
          obtain ⟨v91, e91⟩ : ∃ x, a.tmps.getD 91 undef = x := ⟨_, rfl⟩
          have h91 := hD 45 _ 91 rfl rfl (by kernel_rfl)
          rw [e91] at h91
          simp only [Array.getD_eq_getD_getElem?] at e91
          obtain ⟨tb, rfl, -⟩ := h91
          go_simp
          exact hK _ _ (Ext.refl _) rfl
        · intro a W hW hB hD K hK
          go_simp
          exact hK _ _ (Ext.refl _) rfl
      intro w9 hx
      simp only [Vals]
      rintro u0 - u1 - u2 - u3 - u4 - u5 - u6 - u7 - u8 - u9 - u10 - u11 - u12 - u13 - u14 - u15 - u16 - u17 - u18 - u19 - u20 - u21 - u22 - u23 - u24 - u25 - u26 - u27 - u28 - u29 - u30 - u31 - u32 - u33 - u34 - u35 - u36 - u37 - u38 - u39 - u40 - u41 - u42 - u43 - u44 - u45 h45 u46 h46 u47 h47
      obtain ⟨tb, rfl, ht⟩ := h45
      obtain rfl : u46 = .int .i64 11 := h46
      obtain rfl : u47 = .int .i64 0 := h47
      simp only [Act.put, List.setIfInBounds_toArray, List.set_cons_zero, List.set_cons_succ]
      have TB := Lib.hid ht; clear ht
      have AXR := Lib.hid (AXR.out.ext hx); have X := Lib.hid (X.out.trans hx)
      clear hx
      go_wp2_with fail
      go_loopw [93] (fun i wr => ∃ k : Nat, k ≤ 11 ∧ i = .int .i64 k ∧ Ext w9 wr) (fun i _ => 11 - (intOf i).toNat)
      case atStart => exact ⟨0, by omega, rfl, Ext.refl _⟩
      case round =>
        obtain ⟨k, hk, rfl, hext⟩ := hrel
        have XL := Lib.hid hext
        clear hext
        by_cases hlt : k < 11
        · obtain ⟨lt, ht⟩ := TB.out
          obtain ⟨ga, gn, gc, x0, x1, rr⟩ := ht k hlt
          have hte := tab_err k hlt
          have htw := tab_wts k hlt
          obtain ⟨e, he⟩ : ∃ e, e = tabE.getD k 0 := ⟨_, rfl⟩
          obtain ⟨gg, hgg⟩ : ∃ g, g = tabG.getD k [] := ⟨_, rfl⟩
          rw [← he] at x1 hte htw
          rw [← hgg] at rr hte htw
          have c0 := (XL.out.cell (p := ⟨tb, k * 2, none⟩) lt).trans x0
          have c1 := (XL.out.cell (p := ⟨tb, k * 2 + 1, none⟩) lt).trans x1
          have lt2 : tb < wr.heap.size := Nat.lt_of_lt_of_le lt XL.out.size
          have RG := Lib.hid (rr.ext XL.out)
          have hkc := fun W h => check7_any (.slice ga gn gc) gg W h
          rw [hte] at hkc
          have hkw := fun W h => weights7_any (.slice ga gn gc) (.slice none 0 0) gg [] W h (nilI_rd _) (fun i h => (by cases h))
          rw [htw] at hkw
          have HKC := Lib.hid hkc; have HKW := Lib.hid hkw
          have X := XL
          have q1 : (0 : Int) ≤ (k : Int) := by omega
          have q2 : (k : Int) < 11 := by omega
          clear lt ht x0 x1 rr hte htw he hgg hkc hkw
          go_wp2_with fail
          clear c0 c1 lt2
          have bb0 := (Blk.new wr #[.slice ga gn gc, .int .i64 e] 51)
          have hx : Ext wr (wr.alloc (.cells #[.slice ga gn gc, .int .i64 e] 51)) := ((Ext.refl wr).alloc _)
          obtain ⟨w161, hw161⟩ : ∃ W, W = (wr.alloc (.cells #[.slice ga gn gc, .int .i64 e] 51)) := ⟨_, rfl⟩
          rw [← hw161] at hx bb0 ⊢; clear hw161
          obtain ⟨XBn, hXBn⟩ : ∃ n, n = wr.heap.size := ⟨_, rfl⟩
          rw [← hXBn] at bb0 ⊢; clear hXBn
          have RG := Lib.hid (RG.out.ext hx); have X := Lib.hid (X.out.trans hx)
          clear hx
          have XB := Lib.hid bb0; clear bb0
          have qXB := XB.out.cell; have fXB := XB.out.free; have lXB := XB.out.lt
          go_wp2_with fail
          refine (HKW.out _ RG.out).mono ?_
          rintro e w62 ⟨⟨v, B, rfl, hB, hown⟩, hx⟩
          clear qXB fXB lXB
          have RG := Lib.hid (RG.out.ext hx); have XB := Lib.hid (XB.out.ext hx); have X := Lib.hid (X.out.trans hx)
          obtain ⟨pa9, pc9, rfl⟩ := hown.rdWs.shape
          clear hown hB hx
          dsimp only
          by_cases e0 : e = 0
          · subst e0
            have qXB := XB.out.cell; have fXB := XB.out.free; have lXB := XB.out.lt
            go_wp2_with fail
            (refine wp_region_quietE (by kernel_rfl) (by kernel_rfl) ?_; (repeat (go_big_quiet_step ((go_at_call 18; exact quietE (HKC.out _ (RG.out.ext (Later.ext _))))))); refine wpQuiet_nil ?_; rintro w1 ⟨⟨_, hx1⟩, rfl⟩; (try dsimp only))
            clear qXB fXB lXB
            have X := Lib.hid (X.out.trans hx1)
            go_wp2_with fail
            go_roundw
            case rel => exact ⟨k + 1, by omega, by go_num, X.out⟩
            case measure => simp [intOf]; omega
          · rw [if_neg e0]
            have q3 : (e != 0) = true := bne_iff_ne.2 e0
            have q4 : (e != e) = false := by simp
            have q5 : (e == 0) = false := beq_eq_false_iff_ne.2 e0
            have qXB := XB.out.cell; have fXB := XB.out.free; have lXB := XB.out.lt
            go_wp2_with fail
            (refine wp_region_quietE (by kernel_rfl) (by kernel_rfl) ?_; (repeat (go_big_quiet_step ((go_at_call 18; exact quietE (HKC.out _ (RG.out.ext (Later.ext _))))))); refine wpQuiet_nil ?_; rintro w1 ⟨⟨_, hx1⟩, rfl⟩; (try dsimp only))
            clear qXB fXB lXB
            have X := Lib.hid (X.out.trans hx1)
            go_wp2_with fail
            go_roundw
            case rel => exact ⟨k + 1, by omega, by go_num, X.out⟩
            case measure => simp [intOf]; omega
        · obtain rfl : k = 11 := by omega
          have hx := XL.out
          clear hlt hk TB AXR XL
          rw [show ((11 : Nat) : Int) = 11 from rfl]
          have X := Lib.hid (X.out.trans hx)
          clear hx
          go_wp2_with fail
          have bb0 := ((((Blk.new wr #[.int .i64 0, .int .i64 10] 3).alloc (.cells #[.int .i64 5, .int .i64 6, .int .i64 8] 3)).alloc (.cells #[.slice (some ⟨wr.heap.size, 0, none⟩) 2 2, .slice (some ⟨wr.heap.size + 1, 0, none⟩) 3 3] 24)).alloc (.cells #[.int .i64 1] 3))
          have bb1 := (((Blk.new (wr.alloc (.cells #[.int .i64 0, .int .i64 10] 3)) #[.int .i64 5, .int .i64 6, .int .i64 8] 3).alloc (.cells #[.slice (some ⟨wr.heap.size, 0, none⟩) 2 2, .slice (some ⟨wr.heap.size + 1, 0, none⟩) 3 3] 24)).alloc (.cells #[.int .i64 1] 3))
          rw [World.size_alloc] at bb1
          have bb2 := ((Blk.new ((wr.alloc (.cells #[.int .i64 0, .int .i64 10] 3)).alloc (.cells #[.int .i64 5, .int .i64 6, .int .i64 8] 3)) #[.slice (some ⟨wr.heap.size, 0, none⟩) 2 2, .slice (some ⟨wr.heap.size + 1, 0, none⟩) 3 3] 24).alloc (.cells #[.int .i64 1] 3))
          rw [World.size_alloc, World.size_alloc] at bb2
          have bb3 := (Blk.new (((wr.alloc (.cells #[.int .i64 0, .int .i64 10] 3)).alloc (.cells #[.int .i64 5, .int .i64 6, .int .i64 8] 3)).alloc (.cells #[.slice (some ⟨wr.heap.size, 0, none⟩) 2 2, .slice (some ⟨wr.heap.size + 1, 0, none⟩) 3 3] 24)) #[.int .i64 1] 3)
          rw [World.size_alloc, World.size_alloc, World.size_alloc] at bb3
          have hx : Ext wr ((((wr.alloc (.cells #[.int .i64 0, .int .i64 10] 3)).alloc (.cells #[.int .i64 5, .int .i64 6, .int .i64 8] 3)).alloc (.cells #[.slice (some ⟨wr.heap.size, 0, none⟩) 2 2, .slice (some ⟨wr.heap.size + 1, 0, none⟩) 3 3] 24)).alloc (.cells #[.int .i64 1] 3)) := (((((Ext.refl wr).alloc _).alloc _).alloc _).alloc _)
          obtain ⟨w301, hw301⟩ : ∃ W, W = ((((wr.alloc (.cells #[.int .i64 0, .int .i64 10] 3)).alloc (.cells #[.int .i64 5, .int .i64 6, .int .i64 8] 3)).alloc (.cells #[.slice (some ⟨wr.heap.size, 0, none⟩) 2 2, .slice (some ⟨wr.heap.size + 1, 0, none⟩) 3 3] 24)).alloc (.cells #[.int .i64 1] 3)) := ⟨_, rfl⟩
          rw [← hw301] at hx bb0 bb1 bb2 bb3 ⊢; clear hw301
          obtain ⟨L1n, hL1n⟩ : ∃ n, n = wr.heap.size + 1 + 1 + 1 := ⟨_, rfl⟩
          rw [← hL1n] at bb3 ⊢; clear hL1n
          obtain ⟨GBn, hGBn⟩ : ∃ n, n = wr.heap.size + 1 + 1 := ⟨_, rfl⟩
          rw [← hGBn] at bb2 ⊢; clear hGBn
          obtain ⟨Bn, hBn⟩ : ∃ n, n = wr.heap.size + 1 := ⟨_, rfl⟩
          rw [← hBn] at bb1 ⊢; (try rw [← hBn] at bb2); clear hBn
          obtain ⟨An, hAn⟩ : ∃ n, n = wr.heap.size := ⟨_, rfl⟩
          rw [← hAn] at bb0 ⊢; (try rw [← hAn] at bb2); clear hAn
          have X := Lib.hid (X.out.trans hx)
          clear hx
          have A := Lib.hid bb0; clear bb0
          have B := Lib.hid bb1; clear bb1
          have GB := Lib.hid bb2; clear bb2
          have L1 := Lib.hid bb3; clear bb3
          have hg := rdG_two [0, 10] [5, 6, 8] 2 3 A.out B.out GB.out rfl rfl (by decide) (by decide)
          have hl := rdI_blk [1] 1 L1.out rfl (by decide)
          have RG := Lib.hid hg; have R1 := Lib.hid hl
          clear hg hl A B GB L1
          have hc := vertex7_any _ _ g7 [1] _ RG.out R1.out
          rw [x7_v1] at hc
          dsimp only at hc
          refine (hc).mono ?_
          rintro e w202 ⟨rfl, hx⟩
          have RG := Lib.hid (RG.out.ext hx); have R1 := Lib.hid (R1.out.ext hx); have X := Lib.hid (X.out.trans hx)
          clear hx hc R1
          go_wp2_with fail
          have bb0 := (Blk.new w202 #[.int .i64 1, .int .i64 3] 3)
          have hx : Ext w202 (w202.alloc (.cells #[.int .i64 1, .int .i64 3] 3)) := ((Ext.refl w202).alloc _)
          obtain ⟨w303, hw303⟩ : ∃ W, W = (w202.alloc (.cells #[.int .i64 1, .int .i64 3] 3)) := ⟨_, rfl⟩
          rw [← hw303] at hx bb0 ⊢; clear hw303
          obtain ⟨L2n, hL2n⟩ : ∃ n, n = w202.heap.size := ⟨_, rfl⟩
          rw [← hL2n] at bb0 ⊢; clear hL2n
          have RG := Lib.hid (RG.out.ext hx); have X := Lib.hid (X.out.trans hx)
          clear hx
          have L2 := Lib.hid bb0; clear bb0
          have hl := rdI_blk [1, 3] 2 L2.out rfl (by decide)
          have hc := vertex7_any _ _ g7 [1, 3] _ RG.out hl
          rw [x7_v2] at hc
          dsimp only at hc
          refine (hc).mono ?_
          rintro e w204 ⟨rfl, hx⟩
          have RG := Lib.hid (RG.out.ext hx); have L2 := Lib.hid (L2.out.ext hx); have X := Lib.hid (X.out.trans hx)
          clear hx hc hl L2
          go_wp2_with fail
          have bb0 := (Blk.new w204 #[.int .i64 (-1), .int .i64 0, .int .i64 0] 3)
          have hx : Ext w204 (w204.alloc (.cells #[.int .i64 (-1), .int .i64 0, .int .i64 0] 3)) := ((Ext.refl w204).alloc _)
          obtain ⟨w305, hw305⟩ : ∃ W, W = (w204.alloc (.cells #[.int .i64 (-1), .int .i64 0, .int .i64 0] 3)) := ⟨_, rfl⟩
          rw [← hw305] at hx bb0 ⊢; clear hw305
          obtain ⟨L3n, hL3n⟩ : ∃ n, n = w204.heap.size := ⟨_, rfl⟩
          rw [← hL3n] at bb0 ⊢; clear hL3n
          have RG := Lib.hid (RG.out.ext hx); have X := Lib.hid (X.out.trans hx)
          clear hx
          have L3 := Lib.hid bb0; clear bb0
          have hl := rdI_blk [-1, 0, 0] 3 L3.out rfl (by decide)
          have hc := vertex7_any _ _ g7 [-1, 0, 0] _ RG.out hl
          rw [x7_v3] at hc
          dsimp only at hc
          refine (hc).mono ?_
          rintro e w206 ⟨rfl, hx⟩
          have RG := Lib.hid (RG.out.ext hx); have L3 := Lib.hid (L3.out.ext hx); have X := Lib.hid (X.out.trans hx)
          clear hx hc hl L3
          go_wp2_with fail
          have hc := place7_any _ g7 6 _ RG.out
          rw [x7_p1] at hc
          refine (hc).mono ?_
          rintro e w207 ⟨⟨v, rfl, nn⟩, hx⟩
          have RG := Lib.hid (RG.out.ext hx); have X := Lib.hid (X.out.trans hx)
          obtain ⟨pz, rfl⟩ := nn.shape
          clear nn hx hc
          dsimp only
          go_wp2_with fail
          have hc := point7_any _ g7 (-1) _ RG.out
          rw [x7_p2] at hc
          refine (hc).mono ?_
          rintro e w208 ⟨⟨v, rfl, nn⟩, hx⟩
          have RG := Lib.hid (RG.out.ext hx); have X := Lib.hid (X.out.trans hx)
          obtain ⟨pz, rfl⟩ := nn.shape
          clear nn hx hc
          dsimp only
          go_wp2_with fail
          have hc := value7_any _ _ _ g7 [] [] _ RG.out nilRs_rd nilLimL (nilI_rd _) (fun i h => (by cases h))
          rw [x7_y1] at hc
          refine (hc).mono ?_
          rintro e w209 ⟨⟨v, rfl, nn⟩, hx⟩
          have RG := Lib.hid (RG.out.ext hx); have X := Lib.hid (X.out.trans hx)
          obtain ⟨y1, y2, y3, y4, rfl⟩ := nn.shape
          clear nn hx hc
          dsimp only
          go_wp2_with fail
          have bb1 := (Blk.new (w209.alloc (.cells #[.bool zR.neg, .slice y1 zR.num.length y2, .slice y3 zR.den.length y4] 35)) #[.int .i64 1, .int .i64 1] 3)
          rw [World.size_alloc] at bb1
          have hx : Ext w209 ((w209.alloc (.cells #[.bool zR.neg, .slice y1 zR.num.length y2, .slice y3 zR.den.length y4] 35)).alloc (.cells #[.int .i64 1, .int .i64 1] 3)) := (((Ext.refl w209).alloc _).alloc _)
          obtain ⟨w310, hw310⟩ : ∃ W, W = ((w209.alloc (.cells #[.bool zR.neg, .slice y1 zR.num.length y2, .slice y3 zR.den.length y4] 35)).alloc (.cells #[.int .i64 1, .int .i64 1] 3)) := ⟨_, rfl⟩
          rw [← hw310] at hx bb1 ⊢; clear hw310
          obtain ⟨L4n, hL4n⟩ : ∃ n, n = w209.heap.size + 1 := ⟨_, rfl⟩
          rw [← hL4n] at bb1 ⊢; clear hL4n
          have RG := Lib.hid (RG.out.ext hx); have X := Lib.hid (X.out.trans hx)
          clear hx
          have L4 := Lib.hid bb1; clear bb1
          have hl := rdI_blk [1, 1] 2 L4.out rfl (by decide)
          have hc := value7_any _ _ _ g7 [] [1, 1] _ RG.out nilRs_rd nilLimL hl (bd7 _ (by decide))
          rw [x7_y2] at hc
          refine (hc).mono ?_
          rintro e w211 ⟨⟨v, rfl, nn⟩, hx⟩
          have RG := Lib.hid (RG.out.ext hx); have L4 := Lib.hid (L4.out.ext hx); have X := Lib.hid (X.out.trans hx)
          obtain ⟨z1, z2, z3, z4, rfl⟩ := nn.shape
          clear nn hx hc hl L4
          dsimp only
          go_wp2_with fail
          have bb1 := (((Blk.new (w211.alloc (.cells #[.bool zR.neg, .slice z1 zR.num.length z2, .slice z3 zR.den.length z4] 35)) #[.int .i64 (-1073741824), .int .i64 1073741824] 3).alloc (.cells #[.slice (some ⟨w211.heap.size + 1, 0, none⟩) 2 2] 24)).alloc (.cells #[.int .i64 1073741823] 3))
          rw [World.size_alloc] at bb1
          have bb2 := ((Blk.new ((w211.alloc (.cells #[.bool zR.neg, .slice z1 zR.num.length z2, .slice z3 zR.den.length z4] 35)).alloc (.cells #[.int .i64 (-1073741824), .int .i64 1073741824] 3)) #[.slice (some ⟨w211.heap.size + 1, 0, none⟩) 2 2] 24).alloc (.cells #[.int .i64 1073741823] 3))
          rw [World.size_alloc, World.size_alloc] at bb2
          have bb3 := (Blk.new (((w211.alloc (.cells #[.bool zR.neg, .slice z1 zR.num.length z2, .slice z3 zR.den.length z4] 35)).alloc (.cells #[.int .i64 (-1073741824), .int .i64 1073741824] 3)).alloc (.cells #[.slice (some ⟨w211.heap.size + 1, 0, none⟩) 2 2] 24)) #[.int .i64 1073741823] 3)
          rw [World.size_alloc, World.size_alloc, World.size_alloc] at bb3
          have hx : Ext w211 ((((w211.alloc (.cells #[.bool zR.neg, .slice z1 zR.num.length z2, .slice z3 zR.den.length z4] 35)).alloc (.cells #[.int .i64 (-1073741824), .int .i64 1073741824] 3)).alloc (.cells #[.slice (some ⟨w211.heap.size + 1, 0, none⟩) 2 2] 24)).alloc (.cells #[.int .i64 1073741823] 3)) := (((((Ext.refl w211).alloc _).alloc _).alloc _).alloc _)
          obtain ⟨w312, hw312⟩ : ∃ W, W = ((((w211.alloc (.cells #[.bool zR.neg, .slice z1 zR.num.length z2, .slice z3 zR.den.length z4] 35)).alloc (.cells #[.int .i64 (-1073741824), .int .i64 1073741824] 3)).alloc (.cells #[.slice (some ⟨w211.heap.size + 1, 0, none⟩) 2 2] 24)).alloc (.cells #[.int .i64 1073741823] 3)) := ⟨_, rfl⟩
          rw [← hw312] at hx bb1 bb2 bb3 ⊢; clear hw312
          obtain ⟨L5n, hL5n⟩ : ∃ n, n = w211.heap.size + 1 + 1 + 1 := ⟨_, rfl⟩
          rw [← hL5n] at bb3 ⊢; clear hL5n
          obtain ⟨GBn, hGBn⟩ : ∃ n, n = w211.heap.size + 1 + 1 := ⟨_, rfl⟩
          rw [← hGBn] at bb2 ⊢; clear hGBn
          obtain ⟨An, hAn⟩ : ∃ n, n = w211.heap.size + 1 := ⟨_, rfl⟩
          rw [← hAn] at bb1 ⊢; (try rw [← hAn] at bb2); clear hAn
          have RG := Lib.hid (RG.out.ext hx); have X := Lib.hid (X.out.trans hx)
          clear hx
          have A := Lib.hid bb1; clear bb1
          have GB := Lib.hid bb2; clear bb2
          have L5 := Lib.hid bb3; clear bb3
          have hg := rdG_blk gW 1 GB.out rfl (by decide) (fun i hi => match i, hi with | 0, _ => ⟨_, _, rfl, rdI_blk [-1073741824, 1073741824] 2 A.out rfl (by decide)⟩)
          have hl := rdI_blk [1073741823] 1 L5.out rfl (by decide)
          have RW := Lib.hid hg
          have hc := weights7_any _ _ gW [1073741823] _ hg hl (bd7 _ (by decide))
          rw [x7_w1] at hc
          clear hg
          refine (hc).mono ?_
          rintro e w213 ⟨⟨v, B, rfl, hB, hown⟩, hx⟩
          have RW := Lib.hid (RW.out.ext hx); have X := Lib.hid (X.out.trans hx)
          have W1 := Lib.hid hown.rdWs
          obtain ⟨la, lc, rfl⟩ := hown.rdWs.shape
          clear hown hB hx hc hl L5 A GB RG
          dsimp only [List.length_cons, List.length_nil] at W1 ⊢
          go_wp2_with fail
          have bb0 := (Blk.new w213 #[.int .i64 (-9223372036854775808)] 3)
          have hx : Ext w213 (w213.alloc (.cells #[.int .i64 (-9223372036854775808)] 3)) := ((Ext.refl w213).alloc _)
          obtain ⟨w314, hw314⟩ : ∃ W, W = (w213.alloc (.cells #[.int .i64 (-9223372036854775808)] 3)) := ⟨_, rfl⟩
          rw [← hw314] at hx bb0 ⊢; clear hw314
          obtain ⟨L6n, hL6n⟩ : ∃ n, n = w213.heap.size := ⟨_, rfl⟩
          rw [← hL6n] at bb0 ⊢; clear hL6n
          have RW := Lib.hid (RW.out.ext hx); have W1 := Lib.hid (W1.out.ext hx); have X := Lib.hid (X.out.trans hx)
          clear hx
          have L6 := Lib.hid bb0; clear bb0
          have hl := rdI_blk [-9223372036854775808] 1 L6.out rfl (by decide)
          have hc := weights7_any _ _ gW [-9223372036854775808] _ RW.out hl (bd7 _ (by decide))
          rw [x7_w2] at hc
          refine (hc).mono ?_
          rintro e w215 ⟨⟨v, B, rfl, hB, hown⟩, hx⟩
          have RW := Lib.hid (RW.out.ext hx); have W1 := Lib.hid (W1.out.ext hx); have L6 := Lib.hid (L6.out.ext hx); have X := Lib.hid (X.out.trans hx)
          have W2 := Lib.hid hown.rdWs
          obtain ⟨ma, mc, rfl⟩ := hown.rdWs.shape
          clear hown hB hx hc hl L6 RW
          dsimp only [List.length_cons, List.length_nil] at W2 ⊢
          go_wp2_with fail
          have hc := refOf_any 1 2147483648 w215 (by decide) (by decide) (by decide) (by decide)
          rw [x7_of] at hc
          refine (hc).mono ?_
          rintro e w216 ⟨⟨v, rfl, nn⟩, hx⟩
          have W1 := Lib.hid (W1.out.ext hx); have W2 := Lib.hid (W2.out.ext hx); have X := Lib.hid (X.out.trans hx)
          obtain ⟨y1, y2, y3, y4, rfl⟩ := nn.shape
          have NY := Lib.hid nn.rd
          clear nn hx hc
          dsimp only
          repeat (first | go_values | go_skip | go_guarded | go_step | go_upon)
          have bb0 := (Blk.new w216 #[.bool (s7 1 2147483648).neg, .slice y1 (s7 1 2147483648).num.length y2, .slice y3 (s7 1 2147483648).den.length y4] 35)
          have hx : Ext w216 (w216.alloc (.cells #[.bool (s7 1 2147483648).neg, .slice y1 (s7 1 2147483648).num.length y2, .slice y3 (s7 1 2147483648).den.length y4] 35)) := ((Ext.refl w216).alloc _)
          obtain ⟨w317, hw317⟩ : ∃ W, W = (w216.alloc (.cells #[.bool (s7 1 2147483648).neg, .slice y1 (s7 1 2147483648).num.length y2, .slice y3 (s7 1 2147483648).den.length y4] 35)) := ⟨_, rfl⟩
          rw [← hw317] at hx bb0 ⊢; clear hw317
          obtain ⟨CBn, hCBn⟩ : ∃ n, n = w216.heap.size := ⟨_, rfl⟩
          rw [← hCBn] at bb0 ⊢; clear hCBn
          have W1 := Lib.hid (W1.out.ext hx); have W2 := Lib.hid (W2.out.ext hx); have NY := Lib.hid (NY.out.ext hx); have X := Lib.hid (X.out.trans hx)
          clear hx
          have CB := Lib.hid bb0; clear bb0
          obtain ⟨_, _, e1, -, -, hw1⟩ := W1.out
          injection e1 with e1 e2 e3
          subst e1; clear e2 e3
          obtain ⟨b1, o1, a1, c1, a2, c2, rfl, hb1, m0, m1, m2, m3, hr1⟩ := hw1 0 _ rfl
          dsimp only at m0 m1 m2 m3 hr1
          obtain ⟨_, _, e1, -, -, hw2⟩ := W2.out
          injection e1 with e1 e2 e3
          subst e1; clear e2 e3
          obtain ⟨b2, o2, a3, c3, a4, c4, rfl, hb2, n0, -, -, -, -⟩ := hw2 0 _ rfl
          obtain ⟨rs, hrs⟩ : ∃ r, r = s7 1 2147483648 := ⟨_, rfl⟩
          rw [← hrs] at m1 m2 m3 hr1 NY CB
          have hq := fun W (e : Ext w317 W) => equalRat_any _ _ rs rs W (hr1.ext e) (NY.out.ext e)
          rw [decide_eq_true (show rs = rs from rfl)] at hq
          have HQ := Lib.hid hq
          have p0 : w317.cell? ⟨b1, o1, none⟩ = some (.int .i64 0) := by have := m0; rwa [Nat.zero_mul, Nat.add_zero] at this
          have p1 : w317.cell? ⟨b1, o1 + 1, none⟩ = some (.bool rs.neg) := by have := m1; rwa [Nat.zero_mul, Nat.add_zero] at this
          have p2 : w317.cell? ⟨b1, o1 + 2, none⟩ = some (.slice a1 rs.num.length c1) := by have := m2; rwa [Nat.zero_mul, Nat.add_zero] at this
          have p3 : w317.cell? ⟨b1, o1 + 3, none⟩ = some (.slice a2 rs.den.length c2) := by have := m3; rwa [Nat.zero_mul, Nat.add_zero] at this
          have n9 : w317.cell? ⟨b2, o2, none⟩ = some (.int .i64 0) := by have := n0; rwa [Nat.zero_mul, Nat.add_zero] at this
          have hsz := X.out.size
          clear hw1 hw2 m0 m1 m2 m3 hr1 n0 hrs hq
          have qCB := CB.out.cell; have fCB := CB.out.free; have lCB := CB.out.lt
          try simp only [List.append_eq, List.cons_append, List.nil_append]
          (refine wp_region_quietE (by kernel_rfl) (by kernel_rfl) ?_; (repeat (go_big_quiet_step ((go_at_call 15; exact quietE (HQ.out _ (Later.ext _)))))); refine wpQuiet_nil ?_; rintro w1 ⟨⟨_, hx1⟩, rfl⟩; (try dsimp only))
          have X := Lib.hid (X.out.trans hx1)
          clear qCB fCB lCB
          clear p0 p1 p2 p3 n9 hsz hb1 hb2
          repeat (first | go_values | go_skip | go_guarded | go_step | go_upon)
          go_ret
          exact ⟨rfl, X.out⟩

end Go.Proofs.Ytlbppdgijjbjbaa
