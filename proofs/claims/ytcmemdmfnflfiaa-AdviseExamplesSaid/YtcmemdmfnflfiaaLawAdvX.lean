/- Walk of the law AdviseExamples: it returns true (written by mkadvx.py). Conditions: none. -/
import Derived.Test.YtcmemdmfnflfiaaAdvAw
import Derived.Test.YtcmemdmfnflfiaaAdvP
import Derived.Test.YtcmemdmfnflfiaaRatLs
import Derived.Test.YtcmemdmfnflfiaaEach
import Derived.ArgAppend
import Derived.Deep.AppendLies
namespace Go.Proofs.Ytcmemdmfnflfiaa
set_option linter.unusedSimpArgs false
set_option linter.unusedVariables false
open Go.RowKit

theorem infoBnd : (Try.prog.info? 41).map (fun i => (i.zero, i.size, i.bytes)) = some (some (.agg #[.int .u8 0, .int .i64 0, .int .i64 0]), 3, 24) := by kernel_rfl
theorem bndsX_rd {W : World} {b : Nat} {c : Array Value} (l : List Bnd) (n : Nat) (h : Blk W b c 41) (hl : l.length = n) (hc : c.toList = (l.map fun x => [Value.int .u8 x.1, .int .i64 x.2.1, .int .i64 x.2.2]).flatten) (hn : c.size = n * 3) (hs : n ≤ 1000000) : RdBnd W (.slice (some ⟨b, 0, none⟩) n n) l :=
  rdN_blk h 3 n _ (by rw [List.length_map, hl]) (fun y hy => by obtain ⟨x, _, rfl⟩ := List.mem_map.1 hy; rfl) hc hn hs
theorem nilB_rd (W : World) : RdBnd W (.slice none 0 0) [] := ⟨none, 0, rfl, Nat.le_refl _, by simp, fun i hi => by simp at hi⟩
/-- 'make([]T, n)', its cells by name. -/
theorem wpList_make_x {w : World} {ops : Array Oper} {rest : List Oper} {o : Oper} {a : Act} {Q : Exit → Act → World → Prop} {t e : TypeId} {z : Value} {k bytes : Nat}
    (hg : o.guard = none) (l c : Operand) (hop : o.op = Op.makeSlice t l c) (n : Nat) (hl : a.eval l = .int .i64 (n : Int)) (hc : a.eval c = .int .i64 (n : Int)) (ht : Try.prog.underlying t = some (.slice e)) (hinfo : (Try.prog.info? e).map (fun i => (i.zero, i.size, i.bytes)) = some (some z, k, bytes)) (hn : bytes * n ≤ 1000000000000) (hn2 : n ≤ 1000000000)
    (C : Array Value) (hC : madeCells z.cells (n * k) = C) (hK : wpList Try.prog ops Q rest (a.put o.dst (.slice (some ⟨w.heap.size, 0, none⟩) n n)) (w.alloc (.cells C e))) : wpList Try.prog ops Q (o :: rest) a w := by
  have hr := make_run w n ht hinfo hn hn2
  rw [hC] at hr
  refine wpList_plain hg fun K hK' => ?_
  unfold Oper.wp
  simp only [execOp, hop, hl, hc]
  simp [hr, Result.andThen]
  exact hK' _ _ hK
theorem rdRs_of_rdN {W : World} {v : Value} (l : List Bool) (h : RdN 3 W v (l.map fun b => [.bool b, .slice none 0 0, .slice none 0 0])) : RdRs W v (l.map fun b => ⟨b, [], []⟩) := by
  obtain ⟨a, cap, hv, hc, hm, hr⟩ := h
  simp only [List.length_map] at hv hc hr
  refine ⟨a, cap, by rw [List.length_map]; exact hv, by rw [List.length_map]; exact hc, hm, fun i hi => ?_⟩
  rw [List.length_map] at hi
  obtain ⟨b, off, ha, hb, hx⟩ := hr i hi
  have e1 : (l.map fun b => [Value.bool b, .slice none 0 0, .slice none 0 0]).getD i [] = [.bool l[i], .slice none 0 0, .slice none 0 0] := by simp [hi]
  have e2 : (l.map fun b => (⟨b, [], []⟩ : RR)).getD i zR = ⟨l[i], [], []⟩ := by simp [hi]
  rw [e1] at hx
  rw [e2]
  exact ⟨b, off, none, 0, none, 0, ha, hb, hx 0 (by omega), hx 1 (by omega), hx 2 (by omega), ⟨none, 0, rfl, Nat.le_refl _, by simp, fun i hi => by simp at hi⟩, ⟨none, 0, rfl, Nat.le_refl _, by simp, fun i hi => by simp at hi⟩⟩
theorem RdRs.cut {W : World} {a : Option Addr} {n m c : Nat} {l k : List RR} (h : RdRs W (.slice a n c) (l ++ k)) (hl : l.length = m := by rfl) : RdRs W (.slice a m c) l := by
  obtain ⟨a', cap, hv, hc, hm, hr⟩ := h
  injection hv with e1 e2 e3
  subst e1; subst e3
  rw [List.length_append] at hc hr
  refine ⟨a, c, by rw [hl], by omega, hm, fun i hi => ?_⟩
  have := hr i (by omega)
  rwa [List.getD_eq_getElem?_getD, List.getElem?_append_left hi, ← List.getD_eq_getElem?_getD] at this
theorem Rd.cut {W : World} {a : Option Addr} {n m c : Nat} {l k : List Value} (h : Rd W (.slice a n c) (l ++ k)) (hl : l.length = m := by rfl) : Rd W (.slice a m c) l := by
  obtain ⟨a', cap, hv, hc, hm, hr⟩ := h
  injection hv with e1 e2 e3
  subst e1; subst e3
  rw [List.length_append] at hc hr
  refine ⟨a, c, by rw [hl], by omega, hm, fun i hi => ?_⟩
  have := hr i (by omega)
  rwa [List.getElem?_append_left hi] at this
theorem nilRd (W : World) : Rd W (.slice none 0 0) ([].map Value.bool) := ⟨none, 0, rfl, Nat.le_refl _, by simp, fun i hi => by simp at hi⟩
theorem limZ (l : List RR) (h : l.all (fun r => r.num.isEmpty && r.den.isEmpty) = true) : LimRs l := fun i hi => by
  have h1 := List.all_eq_true.1 h _ (List.getElem_mem hi)
  simp only [Bool.and_eq_true, List.isEmpty_iff] at h1
  rw [List.getD_eq_getElem?_getD, List.getElem?_eq_getElem hi]
  show LimR l[i]
  unfold LimR
  rw [h1.1, h1.2]
  exact ⟨fun x h => (by cases h), fun x h => (by cases h)⟩
theorem kind_err (l : List Bnd) : (kindS l 0 0).2 = achk l := by
  by_cases h : achk l = 0
  · have h0 : 0 < l.length := by
      unfold achk at h
      split at h
      · cases h
      · omega
    have h1 : 0 ≤ (0 : Int) ∧ (0 : Int) < (l.length : Int) := by omega
    have hc : cn2 l 0 0 = 0 := by unfold cn2; rw [if_neg (by simp [h]), if_pos ⟨h1, h1⟩]
    unfold kindS
    rw [if_neg (by simp [hc])]
    exact h.symm
  · have hc : cn2 l 0 0 = achk l := if_pos h
    unfold kindS
    rw [if_pos (by rw [hc]; exact h), hc]
theorem allow_err (l : List Bnd) : (allowS l 0 0 0 0 0).2 = achk l := by
  by_cases h : achk l = 0
  · have h0 : 0 < l.length := by
      unfold achk at h
      split at h
      · cases h
      · omega
    have h1 : 0 ≤ (0 : Int) ∧ (0 : Int) < (l.length : Int) := by omega
    have hc : cn1 l 0 = 0 := by unfold cn1; rw [if_neg (by simp [h]), if_pos h1]
    unfold allowS
    rw [if_neg (by simp [hc]), if_neg (by decide), if_neg (by decide)]
    exact h.symm
  · have hc : cn1 l 0 = achk l := if_pos h
    unfold allowS
    rw [if_pos (by rw [hc]; exact h), hc]

def advJ  (j : Nat) (v : Value) (W : World) : Prop :=
  match j with
  | 0 => v = .agg #[.slice none 0 0, .int .i64 3]
  | 1 => ∃ b, v = .slice (some ⟨b, 0, none⟩) 7 7 ∧ Blk W b [.int .u8 0, .int .i64 0, .int .i64 0, .int .u8 0, .int .i64 0, .int .i64 0, .int .u8 0, .int .i64 0, .int .i64 0, .int .u8 0, .int .i64 0, .int .i64 0, .int .u8 0, .int .i64 0, .int .i64 0, .int .u8 0, .int .i64 0, .int .i64 0, .int .u8 0, .int .i64 0, .int .i64 0].toArray 41
  | 2 => ∃ b, v = .agg #[.slice (some ⟨b, 0, none⟩) 7 7, .int .i64 4] ∧ Blk W b [.int .u8 0, .int .i64 0, .int .i64 0, .int .u8 0, .int .i64 0, .int .i64 0, .int .u8 0, .int .i64 0, .int .i64 0, .int .u8 0, .int .i64 0, .int .i64 0, .int .u8 0, .int .i64 0, .int .i64 0, .int .u8 0, .int .i64 0, .int .i64 0, .int .u8 0, .int .i64 0, .int .i64 0].toArray 41
  | 3 => ∃ b, v = .slice (some ⟨b, 0, none⟩) 2 2 ∧ Blk W b [.int .u8 0, .int .i64 0, .int .i64 0, .int .u8 0, .int .i64 0, .int .i64 0].toArray 41
  | 4 => ∃ b, v = .agg #[.slice (some ⟨b, 0, none⟩) 2 2, .int .i64 6] ∧ Blk W b [.int .u8 0, .int .i64 0, .int .i64 0, .int .u8 0, .int .i64 0, .int .i64 0].toArray 41
  | 5 => v = .agg #[.int .u8 9, .int .i64 5, .int .i64 0]
  | 6 => ∃ b, v = .slice (some ⟨b, 0, none⟩) 1 1 ∧ Blk W b [.int .u8 9, .int .i64 5, .int .i64 0].toArray 41
  | 7 => ∃ b, v = .agg #[.slice (some ⟨b, 0, none⟩) 1 1, .int .i64 0] ∧ Blk W b [.int .u8 9, .int .i64 5, .int .i64 0].toArray 41
  | 8 => v = .agg #[.int .u8 0, .int .i64 0, .int .i64 0]
  | 9 => v = .agg #[.int .u8 3, .int .i64 0, .int .i64 0]
  | 10 => ∃ b, v = .slice (some ⟨b, 0, none⟩) 2 2 ∧ Blk W b [.int .u8 0, .int .i64 0, .int .i64 0, .int .u8 3, .int .i64 0, .int .i64 0].toArray 41
  | 11 => ∃ b, v = .agg #[.slice (some ⟨b, 0, none⟩) 2 2, .int .i64 6] ∧ Blk W b [.int .u8 0, .int .i64 0, .int .i64 0, .int .u8 3, .int .i64 0, .int .i64 0].toArray 41
  | 12 => v = .agg #[.int .u8 0, .int .i64 0, .int .i64 0]
  | 13 => v = .agg #[.int .u8 1, .int .i64 1, .int .i64 0]
  | 14 => ∃ b, v = .slice (some ⟨b, 0, none⟩) 2 2 ∧ Blk W b [.int .u8 0, .int .i64 0, .int .i64 0, .int .u8 1, .int .i64 1, .int .i64 0].toArray 41
  | 15 => ∃ b, v = .agg #[.slice (some ⟨b, 0, none⟩) 2 2, .int .i64 1] ∧ Blk W b [.int .u8 0, .int .i64 0, .int .i64 0, .int .u8 1, .int .i64 1, .int .i64 0].toArray 41
  | 16 => v = .agg #[.int .u8 0, .int .i64 0, .int .i64 0]
  | 17 => v = .agg #[.int .u8 2, .int .i64 (-101), .int .i64 0]
  | 18 => ∃ b, v = .slice (some ⟨b, 0, none⟩) 2 2 ∧ Blk W b [.int .u8 0, .int .i64 0, .int .i64 0, .int .u8 2, .int .i64 (-101), .int .i64 0].toArray 41
  | 19 => ∃ b, v = .agg #[.slice (some ⟨b, 0, none⟩) 2 2, .int .i64 1] ∧ Blk W b [.int .u8 0, .int .i64 0, .int .i64 0, .int .u8 2, .int .i64 (-101), .int .i64 0].toArray 41
  | 20 => v = .agg #[.int .u8 0, .int .i64 0, .int .i64 0]
  | 21 => v = .agg #[.int .u8 1, .int .i64 0, .int .i64 101]
  | 22 => ∃ b, v = .slice (some ⟨b, 0, none⟩) 2 2 ∧ Blk W b [.int .u8 0, .int .i64 0, .int .i64 0, .int .u8 1, .int .i64 0, .int .i64 101].toArray 41
  | 23 => ∃ b, v = .agg #[.slice (some ⟨b, 0, none⟩) 2 2, .int .i64 1] ∧ Blk W b [.int .u8 0, .int .i64 0, .int .i64 0, .int .u8 1, .int .i64 0, .int .i64 101].toArray 41
  | 24 => v = .agg #[.int .u8 0, .int .i64 0, .int .i64 0]
  | 25 => v = .agg #[.int .u8 1, .int .i64 2, .int .i64 1]
  | 26 => v = .agg #[.int .u8 0, .int .i64 0, .int .i64 0]
  | 27 => ∃ b, v = .slice (some ⟨b, 0, none⟩) 3 3 ∧ Blk W b [.int .u8 0, .int .i64 0, .int .i64 0, .int .u8 1, .int .i64 2, .int .i64 1, .int .u8 0, .int .i64 0, .int .i64 0].toArray 41
  | 28 => ∃ b, v = .agg #[.slice (some ⟨b, 0, none⟩) 3 3, .int .i64 1] ∧ Blk W b [.int .u8 0, .int .i64 0, .int .i64 0, .int .u8 1, .int .i64 2, .int .i64 1, .int .u8 0, .int .i64 0, .int .i64 0].toArray 41
  | 29 => v = .agg #[.int .u8 0, .int .i64 0, .int .i64 0]
  | 30 => v = .agg #[.int .u8 2, .int .i64 (-100), .int .i64 100]
  | 31 => ∃ b, v = .slice (some ⟨b, 0, none⟩) 2 2 ∧ Blk W b [.int .u8 0, .int .i64 0, .int .i64 0, .int .u8 2, .int .i64 (-100), .int .i64 100].toArray 41
  | 32 => ∃ b, v = .agg #[.slice (some ⟨b, 0, none⟩) 2 2, .int .i64 0] ∧ Blk W b [.int .u8 0, .int .i64 0, .int .i64 0, .int .u8 2, .int .i64 (-100), .int .i64 100].toArray 41
  | 33 => ∃ g b1 b2 b3 b4 b5 b6 b7 b8 b9, v = .slice (some ⟨g, 0, none⟩) 10 10 ∧ Blk W g [.slice none 0 0, .int .i64 3, .slice (some ⟨b1, 0, none⟩) 7 7, .int .i64 4, .slice (some ⟨b2, 0, none⟩) 2 2, .int .i64 6, .slice (some ⟨b3, 0, none⟩) 1 1, .int .i64 0, .slice (some ⟨b4, 0, none⟩) 2 2, .int .i64 6, .slice (some ⟨b5, 0, none⟩) 2 2, .int .i64 1, .slice (some ⟨b6, 0, none⟩) 2 2, .int .i64 1, .slice (some ⟨b7, 0, none⟩) 2 2, .int .i64 1, .slice (some ⟨b8, 0, none⟩) 3 3, .int .i64 1, .slice (some ⟨b9, 0, none⟩) 2 2, .int .i64 0].toArray 55 ∧ Blk W b1 [.int .u8 0, .int .i64 0, .int .i64 0, .int .u8 0, .int .i64 0, .int .i64 0, .int .u8 0, .int .i64 0, .int .i64 0, .int .u8 0, .int .i64 0, .int .i64 0, .int .u8 0, .int .i64 0, .int .i64 0, .int .u8 0, .int .i64 0, .int .i64 0, .int .u8 0, .int .i64 0, .int .i64 0].toArray 41 ∧ Blk W b2 [.int .u8 0, .int .i64 0, .int .i64 0, .int .u8 0, .int .i64 0, .int .i64 0].toArray 41 ∧ Blk W b3 [.int .u8 9, .int .i64 5, .int .i64 0].toArray 41 ∧ Blk W b4 [.int .u8 0, .int .i64 0, .int .i64 0, .int .u8 3, .int .i64 0, .int .i64 0].toArray 41 ∧ Blk W b5 [.int .u8 0, .int .i64 0, .int .i64 0, .int .u8 1, .int .i64 1, .int .i64 0].toArray 41 ∧ Blk W b6 [.int .u8 0, .int .i64 0, .int .i64 0, .int .u8 2, .int .i64 (-101), .int .i64 0].toArray 41 ∧ Blk W b7 [.int .u8 0, .int .i64 0, .int .i64 0, .int .u8 1, .int .i64 0, .int .i64 101].toArray 41 ∧ Blk W b8 [.int .u8 0, .int .i64 0, .int .i64 0, .int .u8 1, .int .i64 2, .int .i64 1, .int .u8 0, .int .i64 0, .int .i64 0].toArray 41 ∧ Blk W b9 [.int .u8 0, .int .i64 0, .int .i64 0, .int .u8 2, .int .i64 (-100), .int .i64 100].toArray 41
  | 34 => v = .int .i64 10
  | 35 => v = .int .i64 0
  | _ => True
theorem advJ_ext  {j : Nat} {v : Value} {W W' : World} (h : advJ  j v W) (x : Ext W W') : advJ  j v W' := by
  match j, h with
  | 0, h => exact h
  | 1, ⟨q0, h0, h1⟩ => exact ⟨q0, h0, h1.ext x⟩
  | 2, ⟨q0, h0, h1⟩ => exact ⟨q0, h0, h1.ext x⟩
  | 3, ⟨q0, h0, h1⟩ => exact ⟨q0, h0, h1.ext x⟩
  | 4, ⟨q0, h0, h1⟩ => exact ⟨q0, h0, h1.ext x⟩
  | 5, h => exact h
  | 6, ⟨q0, h0, h1⟩ => exact ⟨q0, h0, h1.ext x⟩
  | 7, ⟨q0, h0, h1⟩ => exact ⟨q0, h0, h1.ext x⟩
  | 8, h => exact h
  | 9, h => exact h
  | 10, ⟨q0, h0, h1⟩ => exact ⟨q0, h0, h1.ext x⟩
  | 11, ⟨q0, h0, h1⟩ => exact ⟨q0, h0, h1.ext x⟩
  | 12, h => exact h
  | 13, h => exact h
  | 14, ⟨q0, h0, h1⟩ => exact ⟨q0, h0, h1.ext x⟩
  | 15, ⟨q0, h0, h1⟩ => exact ⟨q0, h0, h1.ext x⟩
  | 16, h => exact h
  | 17, h => exact h
  | 18, ⟨q0, h0, h1⟩ => exact ⟨q0, h0, h1.ext x⟩
  | 19, ⟨q0, h0, h1⟩ => exact ⟨q0, h0, h1.ext x⟩
  | 20, h => exact h
  | 21, h => exact h
  | 22, ⟨q0, h0, h1⟩ => exact ⟨q0, h0, h1.ext x⟩
  | 23, ⟨q0, h0, h1⟩ => exact ⟨q0, h0, h1.ext x⟩
  | 24, h => exact h
  | 25, h => exact h
  | 26, h => exact h
  | 27, ⟨q0, h0, h1⟩ => exact ⟨q0, h0, h1.ext x⟩
  | 28, ⟨q0, h0, h1⟩ => exact ⟨q0, h0, h1.ext x⟩
  | 29, h => exact h
  | 30, h => exact h
  | 31, ⟨q0, h0, h1⟩ => exact ⟨q0, h0, h1.ext x⟩
  | 32, ⟨q0, h0, h1⟩ => exact ⟨q0, h0, h1.ext x⟩
  | 33, ⟨q0, q1, q2, q3, q4, q5, q6, q7, q8, q9, h0, h1, h2, h3, h4, h5, h6, h7, h8, h9, h10⟩ => exact ⟨q0, q1, q2, q3, q4, q5, q6, q7, q8, q9, h0, h1.ext x, h2.ext x, h3.ext x, h4.ext x, h5.ext x, h6.ext x, h7.ext x, h8.ext x, h9.ext x, h10.ext x⟩
  | 34, h => exact h
  | 35, h => exact h
  | _ + 36, _ => trivial
def advJ2  (j : Nat) (v : Value) (W : World) : Prop :=
  match j with
  | 0 => ∃ b, v = .slice (some ⟨b, 0, none⟩) 4 4 ∧ RdBnd W (.slice (some ⟨b, 0, none⟩) 4 4) fourL
  | 1 => ∃ b, v = .slice (some ⟨b, 0, none⟩) 4 4 ∧ Blk W b [.bool false, .slice none 0 0, .slice none 0 0, .bool false, .slice none 0 0, .slice none 0 0, .bool false, .slice none 0 0, .slice none 0 0, .bool false, .slice none 0 0, .slice none 0 0].toArray 70
  | 2 => ∃ b, v = .slice (some ⟨b, 0, none⟩) 4 4 ∧ RdBnd W (.slice (some ⟨b, 0, none⟩) 4 4) fourL
  | 3 => ∃ b, v = .slice (some ⟨b, 0, none⟩) 4 4 ∧ Blk W b [.bool false, .slice none 0 0, .slice none 0 0, .bool false, .slice none 0 0, .slice none 0 0, .bool false, .slice none 0 0, .slice none 0 0, .bool false, .slice none 0 0, .slice none 0 0].toArray 70
  | _ => True
theorem advJ2_ext  {j : Nat} {v : Value} {W W' : World} (h : advJ2  j v W) (x : Ext W W') : advJ2  j v W' := by
  match j, h with
  | 0, ⟨q0, h0, h1⟩ => exact ⟨q0, h0, h1.ext x⟩
  | 1, ⟨q0, h0, h1⟩ => exact ⟨q0, h0, h1.ext x⟩
  | 2, ⟨q0, h0, h1⟩ => exact ⟨q0, h0, h1.ext x⟩
  | 3, ⟨q0, h0, h1⟩ => exact ⟨q0, h0, h1.ext x⟩
  | _ + 4, _ => trivial
def advJ3 (fb : Nat) (zn : Nat) (gb : Nat) (an : Nat) (cb : Nat) (j : Nat) (v : Value) (W : World) : Prop :=
  match j with
  | 0 => v = .slice (some ⟨fb, 0, none⟩) 4 4
  | 1 => v = .agg #[.int .i64 4, .int .i64 (-1), .int .i64 0]
  | 2 => v = .agg #[.slice (some ⟨fb, 0, none⟩) 4 4, .int .i64 4, .int .i64 (-1), .int .i64 0, .slice none 0 0, .slice none 0 0, .int .i64 0, .int .i64 0]
  | 3 => v = .agg #[.slice (some ⟨fb, 0, none⟩) 4 4, .int .i64 4, .int .i64 (-1), .int .i64 0, .slice none 0 0, .slice none 0 0, .int .i64 0, .int .i64 0, .int .i64 8]
  | 4 => v = .slice (some ⟨fb, 0, none⟩) 4 4
  | 5 => v = .agg #[.int .i64 (-1), .int .i64 0, .int .i64 0]
  | 6 => v = .agg #[.slice (some ⟨fb, 0, none⟩) 4 4, .int .i64 (-1), .int .i64 0, .int .i64 0, .slice none 0 0, .slice none 0 0, .int .i64 0, .int .i64 0]
  | 7 => v = .agg #[.slice (some ⟨fb, 0, none⟩) 4 4, .int .i64 (-1), .int .i64 0, .int .i64 0, .slice none 0 0, .slice none 0 0, .int .i64 0, .int .i64 0, .int .i64 8]
  | 8 => v = .slice (some ⟨fb, 0, none⟩) 4 4
  | 9 => v = .agg #[.int .i64 0, .int .i64 1001, .int .i64 0]
  | 10 => v = .agg #[.slice (some ⟨fb, 0, none⟩) 4 4, .int .i64 0, .int .i64 1001, .int .i64 0, .slice none 0 0, .slice none 0 0, .int .i64 0, .int .i64 0]
  | 11 => v = .agg #[.slice (some ⟨fb, 0, none⟩) 4 4, .int .i64 0, .int .i64 1001, .int .i64 0, .slice none 0 0, .slice none 0 0, .int .i64 0, .int .i64 0, .int .i64 1]
  | 12 => v = .slice (some ⟨fb, 0, none⟩) 4 4
  | 13 => v = .agg #[.int .i64 0, .int .i64 0, .int .i64 (-1)]
  | 14 => v = .agg #[.slice (some ⟨fb, 0, none⟩) 4 4, .int .i64 0, .int .i64 0, .int .i64 (-1), .slice none 0 0, .slice none 0 0, .int .i64 0, .int .i64 0]
  | 15 => v = .agg #[.slice (some ⟨fb, 0, none⟩) 4 4, .int .i64 0, .int .i64 0, .int .i64 (-1), .slice none 0 0, .slice none 0 0, .int .i64 0, .int .i64 0, .int .i64 1]
  | 16 => v = .slice (some ⟨fb, 0, none⟩) 4 4
  | 17 => v = .agg #[.int .i64 0, .int .i64 1001]
  | 18 => v = .agg #[.slice (some ⟨fb, 0, none⟩) 4 4, .int .i64 0, .int .i64 0, .int .i64 0, .slice none 0 0, .slice none 0 0, .int .i64 0, .int .i64 1001]
  | 19 => v = .agg #[.slice (some ⟨fb, 0, none⟩) 4 4, .int .i64 0, .int .i64 0, .int .i64 0, .slice none 0 0, .slice none 0 0, .int .i64 0, .int .i64 1001, .int .i64 1]
  | 20 => v = .slice (some ⟨fb, 0, none⟩) 4 4
  | 21 => v = .agg #[.int .i64 101, .int .i64 0]
  | 22 => v = .agg #[.slice (some ⟨fb, 0, none⟩) 4 4, .int .i64 0, .int .i64 0, .int .i64 0, .slice none 0 0, .slice none 0 0, .int .i64 101, .int .i64 0]
  | 23 => v = .agg #[.slice (some ⟨fb, 0, none⟩) 4 4, .int .i64 0, .int .i64 0, .int .i64 0, .slice none 0 0, .slice none 0 0, .int .i64 101, .int .i64 0, .int .i64 1]
  | 24 => v = .slice (some ⟨fb, 0, none⟩) 4 4
  | 25 => v = .slice (some ⟨gb, 0, none⟩) 4 cb
  | 26 => v = .slice (some ⟨an, 0, none⟩) 4 4
  | 27 => v = .slice (some ⟨an, 0, none⟩) 3 4
  | 28 => v = .agg #[.slice (some ⟨fb, 0, none⟩) 4 4, .int .i64 0, .int .i64 0, .int .i64 0, .slice (some ⟨gb, 0, none⟩) 4 cb, .slice (some ⟨an, 0, none⟩) 3 4, .int .i64 0, .int .i64 0]
  | 29 => v = .agg #[.slice (some ⟨fb, 0, none⟩) 4 4, .int .i64 0, .int .i64 0, .int .i64 0, .slice (some ⟨gb, 0, none⟩) 4 cb, .slice (some ⟨an, 0, none⟩) 3 4, .int .i64 0, .int .i64 0, .int .i64 16]
  | 30 => v = .slice (some ⟨fb, 0, none⟩) 4 4
  | 31 => v = .slice (some ⟨zn, 0, none⟩) 4 4
  | 32 => v = .slice (some ⟨zn, 0, none⟩) 3 4
  | 33 => v = .slice (some ⟨an, 0, none⟩) 4 4
  | 34 => v = .agg #[.slice (some ⟨fb, 0, none⟩) 4 4, .int .i64 0, .int .i64 0, .int .i64 0, .slice (some ⟨zn, 0, none⟩) 3 4, .slice (some ⟨an, 0, none⟩) 4 4, .int .i64 0, .int .i64 0]
  | 35 => v = .agg #[.slice (some ⟨fb, 0, none⟩) 4 4, .int .i64 0, .int .i64 0, .int .i64 0, .slice (some ⟨zn, 0, none⟩) 3 4, .slice (some ⟨an, 0, none⟩) 4 4, .int .i64 0, .int .i64 0, .int .i64 16]
  | 36 => v = .slice (some ⟨fb, 0, none⟩) 4 4
  | 37 => v = .slice (some ⟨gb, 0, none⟩) 4 cb
  | 38 => ∃ b, v = .slice (some ⟨b, 0, none⟩) 4 4 ∧ Blk W b [.bool false, .bool false, .bool false, .bool false].toArray 4
  | 39 => ∃ b, v = .agg #[.slice (some ⟨fb, 0, none⟩) 4 4, .int .i64 0, .int .i64 0, .int .i64 0, .slice (some ⟨gb, 0, none⟩) 4 cb, .slice (some ⟨b, 0, none⟩) 4 4, .int .i64 0, .int .i64 0] ∧ Blk W b [.bool false, .bool false, .bool false, .bool false].toArray 4
  | 40 => ∃ b, v = .agg #[.slice (some ⟨fb, 0, none⟩) 4 4, .int .i64 0, .int .i64 0, .int .i64 0, .slice (some ⟨gb, 0, none⟩) 4 cb, .slice (some ⟨b, 0, none⟩) 4 4, .int .i64 0, .int .i64 0, .int .i64 2] ∧ Blk W b [.bool false, .bool false, .bool false, .bool false].toArray 4
  | 41 => v = .slice (some ⟨fb, 0, none⟩) 4 4
  | 42 => v = .slice (some ⟨zn, 0, none⟩) 4 4
  | 43 => ∃ b, v = .slice (some ⟨b, 0, none⟩) 4 4 ∧ Blk W b [.bool false, .bool false, .bool false, .bool false].toArray 4
  | 44 => ∃ b, v = .agg #[.slice (some ⟨fb, 0, none⟩) 4 4, .int .i64 0, .int .i64 0, .int .i64 0, .slice (some ⟨zn, 0, none⟩) 4 4, .slice (some ⟨b, 0, none⟩) 4 4, .int .i64 0, .int .i64 0] ∧ Blk W b [.bool false, .bool false, .bool false, .bool false].toArray 4
  | 45 => ∃ b, v = .agg #[.slice (some ⟨fb, 0, none⟩) 4 4, .int .i64 0, .int .i64 0, .int .i64 0, .slice (some ⟨zn, 0, none⟩) 4 4, .slice (some ⟨b, 0, none⟩) 4 4, .int .i64 0, .int .i64 0, .int .i64 9] ∧ Blk W b [.bool false, .bool false, .bool false, .bool false].toArray 4
  | 46 => v = .slice (some ⟨fb, 0, none⟩) 4 4
  | 47 => v = .slice (some ⟨zn, 0, none⟩) 4 4
  | 48 => v = .slice (some ⟨an, 0, none⟩) 4 4
  | 49 => v = .agg #[.slice (some ⟨fb, 0, none⟩) 4 4, .int .i64 0, .int .i64 0, .int .i64 0, .slice (some ⟨zn, 0, none⟩) 4 4, .slice (some ⟨an, 0, none⟩) 4 4, .int .i64 0, .int .i64 0]
  | 50 => v = .agg #[.slice (some ⟨fb, 0, none⟩) 4 4, .int .i64 0, .int .i64 0, .int .i64 0, .slice (some ⟨zn, 0, none⟩) 4 4, .slice (some ⟨an, 0, none⟩) 4 4, .int .i64 0, .int .i64 0, .int .i64 0]
  | 51 => ∃ g p1 p2, v = .slice (some ⟨g, 0, none⟩) 11 11 ∧ Blk W g [.slice (some ⟨fb, 0, none⟩) 4 4, .int .i64 4, .int .i64 (-1), .int .i64 0, .slice none 0 0, .slice none 0 0, .int .i64 0, .int .i64 0, .int .i64 8, .slice (some ⟨fb, 0, none⟩) 4 4, .int .i64 (-1), .int .i64 0, .int .i64 0, .slice none 0 0, .slice none 0 0, .int .i64 0, .int .i64 0, .int .i64 8, .slice (some ⟨fb, 0, none⟩) 4 4, .int .i64 0, .int .i64 1001, .int .i64 0, .slice none 0 0, .slice none 0 0, .int .i64 0, .int .i64 0, .int .i64 1, .slice (some ⟨fb, 0, none⟩) 4 4, .int .i64 0, .int .i64 0, .int .i64 (-1), .slice none 0 0, .slice none 0 0, .int .i64 0, .int .i64 0, .int .i64 1, .slice (some ⟨fb, 0, none⟩) 4 4, .int .i64 0, .int .i64 0, .int .i64 0, .slice none 0 0, .slice none 0 0, .int .i64 0, .int .i64 1001, .int .i64 1, .slice (some ⟨fb, 0, none⟩) 4 4, .int .i64 0, .int .i64 0, .int .i64 0, .slice none 0 0, .slice none 0 0, .int .i64 101, .int .i64 0, .int .i64 1, .slice (some ⟨fb, 0, none⟩) 4 4, .int .i64 0, .int .i64 0, .int .i64 0, .slice (some ⟨gb, 0, none⟩) 4 cb, .slice (some ⟨an, 0, none⟩) 3 4, .int .i64 0, .int .i64 0, .int .i64 16, .slice (some ⟨fb, 0, none⟩) 4 4, .int .i64 0, .int .i64 0, .int .i64 0, .slice (some ⟨zn, 0, none⟩) 3 4, .slice (some ⟨an, 0, none⟩) 4 4, .int .i64 0, .int .i64 0, .int .i64 16, .slice (some ⟨fb, 0, none⟩) 4 4, .int .i64 0, .int .i64 0, .int .i64 0, .slice (some ⟨gb, 0, none⟩) 4 cb, .slice (some ⟨p1, 0, none⟩) 4 4, .int .i64 0, .int .i64 0, .int .i64 2, .slice (some ⟨fb, 0, none⟩) 4 4, .int .i64 0, .int .i64 0, .int .i64 0, .slice (some ⟨zn, 0, none⟩) 4 4, .slice (some ⟨p2, 0, none⟩) 4 4, .int .i64 0, .int .i64 0, .int .i64 9, .slice (some ⟨fb, 0, none⟩) 4 4, .int .i64 0, .int .i64 0, .int .i64 0, .slice (some ⟨zn, 0, none⟩) 4 4, .slice (some ⟨an, 0, none⟩) 4 4, .int .i64 0, .int .i64 0, .int .i64 0].toArray 73 ∧ Blk W p1 [.bool false, .bool false, .bool false, .bool false].toArray 4 ∧ Blk W p2 [.bool false, .bool false, .bool false, .bool false].toArray 4
  | 52 => v = .int .i64 11
  | 53 => v = .int .i64 0
  | _ => True
theorem advJ3_ext {fb : Nat} {zn : Nat} {gb : Nat} {an : Nat} {cb : Nat} {j : Nat} {v : Value} {W W' : World} (h : advJ3 fb zn gb an cb j v W) (x : Ext W W') : advJ3 fb zn gb an cb j v W' := by
  match j, h with
  | 0, h => exact h
  | 1, h => exact h
  | 2, h => exact h
  | 3, h => exact h
  | 4, h => exact h
  | 5, h => exact h
  | 6, h => exact h
  | 7, h => exact h
  | 8, h => exact h
  | 9, h => exact h
  | 10, h => exact h
  | 11, h => exact h
  | 12, h => exact h
  | 13, h => exact h
  | 14, h => exact h
  | 15, h => exact h
  | 16, h => exact h
  | 17, h => exact h
  | 18, h => exact h
  | 19, h => exact h
  | 20, h => exact h
  | 21, h => exact h
  | 22, h => exact h
  | 23, h => exact h
  | 24, h => exact h
  | 25, h => exact h
  | 26, h => exact h
  | 27, h => exact h
  | 28, h => exact h
  | 29, h => exact h
  | 30, h => exact h
  | 31, h => exact h
  | 32, h => exact h
  | 33, h => exact h
  | 34, h => exact h
  | 35, h => exact h
  | 36, h => exact h
  | 37, h => exact h
  | 38, ⟨q0, h0, h1⟩ => exact ⟨q0, h0, h1.ext x⟩
  | 39, ⟨q0, h0, h1⟩ => exact ⟨q0, h0, h1.ext x⟩
  | 40, ⟨q0, h0, h1⟩ => exact ⟨q0, h0, h1.ext x⟩
  | 41, h => exact h
  | 42, h => exact h
  | 43, ⟨q0, h0, h1⟩ => exact ⟨q0, h0, h1.ext x⟩
  | 44, ⟨q0, h0, h1⟩ => exact ⟨q0, h0, h1.ext x⟩
  | 45, ⟨q0, h0, h1⟩ => exact ⟨q0, h0, h1.ext x⟩
  | 46, h => exact h
  | 47, h => exact h
  | 48, h => exact h
  | 49, h => exact h
  | 50, h => exact h
  | 51, ⟨q0, q1, q2, h0, h1, h2, h3⟩ => exact ⟨q0, q1, q2, h0, h1.ext x, h2.ext x, h3.ext x⟩
  | 52, h => exact h
  | 53, h => exact h
  | _ + 54, _ => trivial

set_option maxRecDepth 100000 in
set_option maxHeartbeats 8000000 in
theorem advx_any (w : World) : Calls Try.prog 5 #[] w fun en w' => en = .returned (.bool true) ∧ Ext w w' := by
  go_enter Try.func5, Try.ntmps5
  have X := Lib.hid (Ext.refl w)
  go_wp2_with fail
  refine (awake28_any _).mono ?_
  rintro e w1 ⟨rfl, hx⟩
  have X := Lib.hid (X.out.trans hx)
  clear hx
  go_wp2_with fail
  refine wp_region_each (advJ) (by kernel_rfl) (by kernel_rfl) (by kernel_rfl) (fun _ _ _ _ => advJ_ext) ?_ ?_
  · refine ⟨?_, ?_, ?_, ?_, ?_, ?_, ?_, ?_, ?_, ?_, ?_, ?_, ?_, ?_, ?_, ?_, ?_, ?_, ?_, ?_, ?_, ?_, ?_, ?_, ?_, ?_, ?_, ?_, ?_, ?_, ?_, ?_, ?_, ?_, ?_, ?_, trivial⟩
    · intro a W hW hB hD K hK
      go_simp
      exact hK _ _ (Ext.refl _) rfl
    · intro a W hW hB hD K hK
      have hr := make_run W 7 Try.underlying42 infoBnd (by decide) (by decide)
      rw [show madeCells (Value.agg #[.int .u8 0, .int .i64 0, .int .i64 0]).cells (7 * 3) = [.int .u8 0, .int .i64 0, .int .i64 0, .int .u8 0, .int .i64 0, .int .i64 0, .int .u8 0, .int .i64 0, .int .i64 0, .int .u8 0, .int .i64 0, .int .i64 0, .int .u8 0, .int .i64 0, .int .i64 0, .int .u8 0, .int .i64 0, .int .i64 0, .int .u8 0, .int .i64 0, .int .i64 0].toArray from by kernel_rfl] at hr
      go_simp
      rw [show (Instr.makeSlice 42 (.int .i64 7) (.int .i64 7)).run Try.prog W = _ from hr]
      exact hK _ _ ((Ext.refl _).alloc _) ⟨_, rfl, Blk.new _ _ _⟩
    · intro a W hW hB hD K hK
      obtain ⟨v60, e60⟩ : ∃ x, a.tmps.getD 60 undef = x := ⟨_, rfl⟩
      have h60 := hD 1 _ 60 rfl rfl (by kernel_rfl)
      rw [e60] at h60
      simp only [Array.getD_eq_getD_getElem?] at e60
      obtain ⟨b1, rfl, k1⟩ := h60
      go_simp
      exact hK _ _ (Ext.refl _) ⟨_, rfl, k1⟩
    · intro a W hW hB hD K hK
      have hr := make_run W 2 Try.underlying42 infoBnd (by decide) (by decide)
      rw [show madeCells (Value.agg #[.int .u8 0, .int .i64 0, .int .i64 0]).cells (2 * 3) = [.int .u8 0, .int .i64 0, .int .i64 0, .int .u8 0, .int .i64 0, .int .i64 0].toArray from by kernel_rfl] at hr
      go_simp
      rw [show (Instr.makeSlice 42 (.int .i64 2) (.int .i64 2)).run Try.prog W = _ from hr]
      exact hK _ _ ((Ext.refl _).alloc _) ⟨_, rfl, Blk.new _ _ _⟩
    · intro a W hW hB hD K hK
      obtain ⟨v62, e62⟩ : ∃ x, a.tmps.getD 62 undef = x := ⟨_, rfl⟩
      have h62 := hD 3 _ 62 rfl rfl (by kernel_rfl)
      rw [e62] at h62
      simp only [Array.getD_eq_getD_getElem?] at e62
      obtain ⟨b1, rfl, k1⟩ := h62
      go_simp
      exact hK _ _ (Ext.refl _) ⟨_, rfl, k1⟩
    · intro a W hW hB hD K hK
      go_simp
      exact hK _ _ (Ext.refl _) rfl
    · intro a W hW hB hD K hK
      obtain ⟨v64, e64⟩ : ∃ x, a.tmps.getD 64 undef = x := ⟨_, rfl⟩
      have h64 := hD 5 _ 64 rfl rfl (by kernel_rfl)
      rw [e64] at h64
      simp only [Array.getD_eq_getD_getElem?] at e64
      obtain rfl := h64
      go_simp
      exact hK _ _ ((Ext.refl _).alloc _) ⟨_, rfl, Blk.new _ _ _⟩
    · intro a W hW hB hD K hK
      obtain ⟨v65, e65⟩ : ∃ x, a.tmps.getD 65 undef = x := ⟨_, rfl⟩
      have h65 := hD 6 _ 65 rfl rfl (by kernel_rfl)
      rw [e65] at h65
      simp only [Array.getD_eq_getD_getElem?] at e65
      obtain ⟨b1, rfl, k1⟩ := h65
      go_simp
      exact hK _ _ (Ext.refl _) ⟨_, rfl, k1⟩
    · intro a W hW hB hD K hK
      go_simp
      exact hK _ _ (Ext.refl _) rfl
    · intro a W hW hB hD K hK
      go_simp
      exact hK _ _ (Ext.refl _) rfl
    · intro a W hW hB hD K hK
      obtain ⟨v67, e67⟩ : ∃ x, a.tmps.getD 67 undef = x := ⟨_, rfl⟩
      have h67 := hD 8 _ 67 rfl rfl (by kernel_rfl)
      rw [e67] at h67
      simp only [Array.getD_eq_getD_getElem?] at e67
      obtain rfl := h67
      obtain ⟨v68, e68⟩ : ∃ x, a.tmps.getD 68 undef = x := ⟨_, rfl⟩
      have h68 := hD 9 _ 68 rfl rfl (by kernel_rfl)
      rw [e68] at h68
      simp only [Array.getD_eq_getD_getElem?] at e68
      obtain rfl := h68
      go_simp
      exact hK _ _ ((Ext.refl _).alloc _) ⟨_, rfl, Blk.new _ _ _⟩
    · intro a W hW hB hD K hK
      obtain ⟨v69, e69⟩ : ∃ x, a.tmps.getD 69 undef = x := ⟨_, rfl⟩
      have h69 := hD 10 _ 69 rfl rfl (by kernel_rfl)
      rw [e69] at h69
      simp only [Array.getD_eq_getD_getElem?] at e69
      obtain ⟨b1, rfl, k1⟩ := h69
      go_simp
      exact hK _ _ (Ext.refl _) ⟨_, rfl, k1⟩
    · intro a W hW hB hD K hK
      go_simp
      exact hK _ _ (Ext.refl _) rfl
    · intro a W hW hB hD K hK
      go_simp
      exact hK _ _ (Ext.refl _) rfl
    · intro a W hW hB hD K hK
      obtain ⟨v71, e71⟩ : ∃ x, a.tmps.getD 71 undef = x := ⟨_, rfl⟩
      have h71 := hD 12 _ 71 rfl rfl (by kernel_rfl)
      rw [e71] at h71
      simp only [Array.getD_eq_getD_getElem?] at e71
      obtain rfl := h71
      obtain ⟨v72, e72⟩ : ∃ x, a.tmps.getD 72 undef = x := ⟨_, rfl⟩
      have h72 := hD 13 _ 72 rfl rfl (by kernel_rfl)
      rw [e72] at h72
      simp only [Array.getD_eq_getD_getElem?] at e72
      obtain rfl := h72
      go_simp
      exact hK _ _ ((Ext.refl _).alloc _) ⟨_, rfl, Blk.new _ _ _⟩
    · intro a W hW hB hD K hK
      obtain ⟨v73, e73⟩ : ∃ x, a.tmps.getD 73 undef = x := ⟨_, rfl⟩
      have h73 := hD 14 _ 73 rfl rfl (by kernel_rfl)
      rw [e73] at h73
      simp only [Array.getD_eq_getD_getElem?] at e73
      obtain ⟨b1, rfl, k1⟩ := h73
      go_simp
      exact hK _ _ (Ext.refl _) ⟨_, rfl, k1⟩
    · intro a W hW hB hD K hK
      go_simp
      exact hK _ _ (Ext.refl _) rfl
    · intro a W hW hB hD K hK
      go_simp
      exact hK _ _ (Ext.refl _) rfl
    · intro a W hW hB hD K hK
      obtain ⟨v75, e75⟩ : ∃ x, a.tmps.getD 75 undef = x := ⟨_, rfl⟩
      have h75 := hD 16 _ 75 rfl rfl (by kernel_rfl)
      rw [e75] at h75
      simp only [Array.getD_eq_getD_getElem?] at e75
      obtain rfl := h75
      obtain ⟨v76, e76⟩ : ∃ x, a.tmps.getD 76 undef = x := ⟨_, rfl⟩
      have h76 := hD 17 _ 76 rfl rfl (by kernel_rfl)
      rw [e76] at h76
      simp only [Array.getD_eq_getD_getElem?] at e76
      obtain rfl := h76
      go_simp
      exact hK _ _ ((Ext.refl _).alloc _) ⟨_, rfl, Blk.new _ _ _⟩
    · intro a W hW hB hD K hK
      obtain ⟨v77, e77⟩ : ∃ x, a.tmps.getD 77 undef = x := ⟨_, rfl⟩
      have h77 := hD 18 _ 77 rfl rfl (by kernel_rfl)
      rw [e77] at h77
      simp only [Array.getD_eq_getD_getElem?] at e77
      obtain ⟨b1, rfl, k1⟩ := h77
      go_simp
      exact hK _ _ (Ext.refl _) ⟨_, rfl, k1⟩
    · intro a W hW hB hD K hK
      go_simp
      exact hK _ _ (Ext.refl _) rfl
    · intro a W hW hB hD K hK
      go_simp
      exact hK _ _ (Ext.refl _) rfl
    · intro a W hW hB hD K hK
      obtain ⟨v79, e79⟩ : ∃ x, a.tmps.getD 79 undef = x := ⟨_, rfl⟩
      have h79 := hD 20 _ 79 rfl rfl (by kernel_rfl)
      rw [e79] at h79
      simp only [Array.getD_eq_getD_getElem?] at e79
      obtain rfl := h79
      obtain ⟨v80, e80⟩ : ∃ x, a.tmps.getD 80 undef = x := ⟨_, rfl⟩
      have h80 := hD 21 _ 80 rfl rfl (by kernel_rfl)
      rw [e80] at h80
      simp only [Array.getD_eq_getD_getElem?] at e80
      obtain rfl := h80
      go_simp
      exact hK _ _ ((Ext.refl _).alloc _) ⟨_, rfl, Blk.new _ _ _⟩
    · intro a W hW hB hD K hK
      obtain ⟨v81, e81⟩ : ∃ x, a.tmps.getD 81 undef = x := ⟨_, rfl⟩
      have h81 := hD 22 _ 81 rfl rfl (by kernel_rfl)
      rw [e81] at h81
      simp only [Array.getD_eq_getD_getElem?] at e81
      obtain ⟨b1, rfl, k1⟩ := h81
      go_simp
      exact hK _ _ (Ext.refl _) ⟨_, rfl, k1⟩
    · intro a W hW hB hD K hK
      go_simp
      exact hK _ _ (Ext.refl _) rfl
    · intro a W hW hB hD K hK
      go_simp
      exact hK _ _ (Ext.refl _) rfl
    · intro a W hW hB hD K hK
      go_simp
      exact hK _ _ (Ext.refl _) rfl
    · intro a W hW hB hD K hK
      obtain ⟨v83, e83⟩ : ∃ x, a.tmps.getD 83 undef = x := ⟨_, rfl⟩
      have h83 := hD 24 _ 83 rfl rfl (by kernel_rfl)
      rw [e83] at h83
      simp only [Array.getD_eq_getD_getElem?] at e83
      obtain rfl := h83
      obtain ⟨v84, e84⟩ : ∃ x, a.tmps.getD 84 undef = x := ⟨_, rfl⟩
      have h84 := hD 25 _ 84 rfl rfl (by kernel_rfl)
      rw [e84] at h84
      simp only [Array.getD_eq_getD_getElem?] at e84
      obtain rfl := h84
      obtain ⟨v85, e85⟩ : ∃ x, a.tmps.getD 85 undef = x := ⟨_, rfl⟩
      have h85 := hD 26 _ 85 rfl rfl (by kernel_rfl)
      rw [e85] at h85
      simp only [Array.getD_eq_getD_getElem?] at e85
      obtain rfl := h85
      go_simp
      exact hK _ _ ((Ext.refl _).alloc _) ⟨_, rfl, Blk.new _ _ _⟩
    · intro a W hW hB hD K hK
      obtain ⟨v86, e86⟩ : ∃ x, a.tmps.getD 86 undef = x := ⟨_, rfl⟩
      have h86 := hD 27 _ 86 rfl rfl (by kernel_rfl)
      rw [e86] at h86
      simp only [Array.getD_eq_getD_getElem?] at e86
      obtain ⟨b1, rfl, k1⟩ := h86
      go_simp
      exact hK _ _ (Ext.refl _) ⟨_, rfl, k1⟩
    · intro a W hW hB hD K hK
      go_simp
      exact hK _ _ (Ext.refl _) rfl
    · intro a W hW hB hD K hK
      go_simp
      exact hK _ _ (Ext.refl _) rfl
    · intro a W hW hB hD K hK
      obtain ⟨v88, e88⟩ : ∃ x, a.tmps.getD 88 undef = x := ⟨_, rfl⟩
      have h88 := hD 29 _ 88 rfl rfl (by kernel_rfl)
      rw [e88] at h88
      simp only [Array.getD_eq_getD_getElem?] at e88
      obtain rfl := h88
      obtain ⟨v89, e89⟩ : ∃ x, a.tmps.getD 89 undef = x := ⟨_, rfl⟩
      have h89 := hD 30 _ 89 rfl rfl (by kernel_rfl)
      rw [e89] at h89
      simp only [Array.getD_eq_getD_getElem?] at e89
      obtain rfl := h89
      go_simp
      exact hK _ _ ((Ext.refl _).alloc _) ⟨_, rfl, Blk.new _ _ _⟩
    · intro a W hW hB hD K hK
      obtain ⟨v90, e90⟩ : ∃ x, a.tmps.getD 90 undef = x := ⟨_, rfl⟩
      have h90 := hD 31 _ 90 rfl rfl (by kernel_rfl)
      rw [e90] at h90
      simp only [Array.getD_eq_getD_getElem?] at e90
      obtain ⟨b1, rfl, k1⟩ := h90
      go_simp
      exact hK _ _ (Ext.refl _) ⟨_, rfl, k1⟩
    · intro a W hW hB hD K hK
      obtain ⟨v59, e59⟩ : ∃ x, a.tmps.getD 59 undef = x := ⟨_, rfl⟩
      have h59 := hD 0 _ 59 rfl rfl (by kernel_rfl)
      rw [e59] at h59
      simp only [Array.getD_eq_getD_getElem?] at e59
      obtain rfl := h59
      obtain ⟨v61, e61⟩ : ∃ x, a.tmps.getD 61 undef = x := ⟨_, rfl⟩
      have h61 := hD 2 _ 61 rfl rfl (by kernel_rfl)
      rw [e61] at h61
      simp only [Array.getD_eq_getD_getElem?] at e61
      obtain ⟨b1, rfl, k1⟩ := h61
      obtain ⟨v63, e63⟩ : ∃ x, a.tmps.getD 63 undef = x := ⟨_, rfl⟩
      have h63 := hD 4 _ 63 rfl rfl (by kernel_rfl)
      rw [e63] at h63
      simp only [Array.getD_eq_getD_getElem?] at e63
      obtain ⟨b2, rfl, k2⟩ := h63
      obtain ⟨v66, e66⟩ : ∃ x, a.tmps.getD 66 undef = x := ⟨_, rfl⟩
      have h66 := hD 7 _ 66 rfl rfl (by kernel_rfl)
      rw [e66] at h66
      simp only [Array.getD_eq_getD_getElem?] at e66
      obtain ⟨b3, rfl, k3⟩ := h66
      obtain ⟨v70, e70⟩ : ∃ x, a.tmps.getD 70 undef = x := ⟨_, rfl⟩
      have h70 := hD 11 _ 70 rfl rfl (by kernel_rfl)
      rw [e70] at h70
      simp only [Array.getD_eq_getD_getElem?] at e70
      obtain ⟨b4, rfl, k4⟩ := h70
      obtain ⟨v74, e74⟩ : ∃ x, a.tmps.getD 74 undef = x := ⟨_, rfl⟩
      have h74 := hD 15 _ 74 rfl rfl (by kernel_rfl)
      rw [e74] at h74
      simp only [Array.getD_eq_getD_getElem?] at e74
      obtain ⟨b5, rfl, k5⟩ := h74
      obtain ⟨v78, e78⟩ : ∃ x, a.tmps.getD 78 undef = x := ⟨_, rfl⟩
      have h78 := hD 19 _ 78 rfl rfl (by kernel_rfl)
      rw [e78] at h78
      simp only [Array.getD_eq_getD_getElem?] at e78
      obtain ⟨b6, rfl, k6⟩ := h78
      obtain ⟨v82, e82⟩ : ∃ x, a.tmps.getD 82 undef = x := ⟨_, rfl⟩
      have h82 := hD 23 _ 82 rfl rfl (by kernel_rfl)
      rw [e82] at h82
      simp only [Array.getD_eq_getD_getElem?] at e82
      obtain ⟨b7, rfl, k7⟩ := h82
      obtain ⟨v87, e87⟩ : ∃ x, a.tmps.getD 87 undef = x := ⟨_, rfl⟩
      have h87 := hD 28 _ 87 rfl rfl (by kernel_rfl)
      rw [e87] at h87
      simp only [Array.getD_eq_getD_getElem?] at e87
      obtain ⟨b8, rfl, k8⟩ := h87
      obtain ⟨v91, e91⟩ : ∃ x, a.tmps.getD 91 undef = x := ⟨_, rfl⟩
      have h91 := hD 32 _ 91 rfl rfl (by kernel_rfl)
      rw [e91] at h91
      simp only [Array.getD_eq_getD_getElem?] at e91
      obtain ⟨b9, rfl, k9⟩ := h91
      go_simp
      exact hK _ _ ((Ext.refl _).alloc _) ⟨_, _, _, _, _, _, _, _, _, _, rfl, Blk.new _ _ _, k1.ext ((Ext.refl _).alloc _), k2.ext ((Ext.refl _).alloc _), k3.ext ((Ext.refl _).alloc _), k4.ext ((Ext.refl _).alloc _), k5.ext ((Ext.refl _).alloc _), k6.ext ((Ext.refl _).alloc _), k7.ext ((Ext.refl _).alloc _), k8.ext ((Ext.refl _).alloc _), k9.ext ((Ext.refl _).alloc _)⟩
    · intro a W hW hB hD K hK
      obtain ⟨v92, e92⟩ : ∃ x, a.tmps.getD 92 undef = x := ⟨_, rfl⟩
      have h92 := hD 33 _ 92 rfl rfl (by kernel_rfl)
      rw [e92] at h92
      simp only [Array.getD_eq_getD_getElem?] at e92
      obtain ⟨g, b1, b2, b3, b4, b5, b6, b7, b8, b9, rfl, -⟩ := h92
      go_simp
      exact hK _ _ (Ext.refl _) rfl
    · intro a W hW hB hD K hK
      go_simp
      exact hK _ _ (Ext.refl _) rfl
  intro w9 hx
  simp only [Vals]
  intro v0 _ v1 _ v2 _ v3 _ v4 _ v5 _ v6 _ v7 _ v8 _ v9 _ v10 _ v11 _ v12 _ v13 _ v14 _ v15 _ v16 _ v17 _ v18 _ v19 _ v20 _ v21 _ v22 _ v23 _ v24 _ v25 _ v26 _ v27 _ v28 _ v29 _ v30 _ v31 _ v32 _ v33 h33 v34 h34 v35 h35
  obtain ⟨gn, b1, b2, b3, b4, b5, b6, b7, b8, b9, rfl, bG, k1, k2, k3, k4, k5, k6, k7, k8, k9⟩ := h33
  obtain rfl : v34 = .int .i64 10 := h34
  obtain rfl : v35 = .int .i64 0 := h35
  simp only [Act.put, List.setIfInBounds_toArray, List.set_cons_zero, List.set_cons_succ]
  have X := Lib.hid (X.out.trans hx)
  clear hx
  have hrow : ∀ k, k < 10 → ∃ (a : Option Addr) (n c : Nat) (l : List Bnd) (e : Int), w9.cell? ⟨gn, k * 2, none⟩ = some (.slice a n c) ∧ w9.cell? ⟨gn, k * 2 + 1, none⟩ = some (.int .i64 e) ∧ RdBnd w9 (.slice a n c) l ∧ achk l = e := by
    intro k hk
    match k, hk with
    | 0, _ => exact ⟨_, _, _, [], 3, bG.cell 0, bG.cell 1, nilB_rd _, by decide⟩
    | 1, _ => exact ⟨_, _, _, [(0, 0, 0), (0, 0, 0), (0, 0, 0), (0, 0, 0), (0, 0, 0), (0, 0, 0), (0, 0, 0)], 4, bG.cell 2, bG.cell 3, bndsX_rd [(0, 0, 0), (0, 0, 0), (0, 0, 0), (0, 0, 0), (0, 0, 0), (0, 0, 0), (0, 0, 0)] 7 k1 rfl rfl rfl (by decide), by decide⟩
    | 2, _ => exact ⟨_, _, _, [(0, 0, 0), (0, 0, 0)], 6, bG.cell 4, bG.cell 5, bndsX_rd [(0, 0, 0), (0, 0, 0)] 2 k2 rfl rfl rfl (by decide), by decide⟩
    | 3, _ => exact ⟨_, _, _, [(9, 5, 0)], 0, bG.cell 6, bG.cell 7, bndsX_rd [(9, 5, 0)] 1 k3 rfl rfl rfl (by decide), by decide⟩
    | 4, _ => exact ⟨_, _, _, [(0, 0, 0), (3, 0, 0)], 6, bG.cell 8, bG.cell 9, bndsX_rd [(0, 0, 0), (3, 0, 0)] 2 k4 rfl rfl rfl (by decide), by decide⟩
    | 5, _ => exact ⟨_, _, _, [(0, 0, 0), (1, 1, 0)], 1, bG.cell 10, bG.cell 11, bndsX_rd [(0, 0, 0), (1, 1, 0)] 2 k5 rfl rfl rfl (by decide), by decide⟩
    | 6, _ => exact ⟨_, _, _, [(0, 0, 0), (2, -101, 0)], 1, bG.cell 12, bG.cell 13, bndsX_rd [(0, 0, 0), (2, -101, 0)] 2 k6 rfl rfl rfl (by decide), by decide⟩
    | 7, _ => exact ⟨_, _, _, [(0, 0, 0), (1, 0, 101)], 1, bG.cell 14, bG.cell 15, bndsX_rd [(0, 0, 0), (1, 0, 101)] 2 k7 rfl rfl rfl (by decide), by decide⟩
    | 8, _ => exact ⟨_, _, _, [(0, 0, 0), (1, 2, 1), (0, 0, 0)], 1, bG.cell 16, bG.cell 17, bndsX_rd [(0, 0, 0), (1, 2, 1), (0, 0, 0)] 3 k8 rfl rfl rfl (by decide), by decide⟩
    | 9, _ => exact ⟨_, _, _, [(0, 0, 0), (2, -100, 100)], 0, bG.cell 18, bG.cell 19, bndsX_rd [(0, 0, 0), (2, -100, 100)] 2 k9 rfl rfl rfl (by decide), by decide⟩
  go_wp2_with fail
  have ROW := Lib.hid hrow; have lG := bG.lt; clear hrow bG k1 k2 k3 k4 k5 k6 k7 k8 k9
  go_loopw [94] (fun i wr => ∃ k : Nat, k ≤ 10 ∧ i = .int .i64 k ∧ Ext w9 wr) (fun i _ => 10 - (intOf i).toNat)
  case atStart => exact ⟨0, by omega, rfl, Ext.refl _⟩
  case round =>
    obtain ⟨k, hk, rfl, hext⟩ := hrel
    have XL := Lib.hid hext
    clear hext
    by_cases hlt : k < 10
    · obtain ⟨a1, n1, c1, l, e, x0, x1, rr, hck⟩ := ROW.out k hlt
      have c0 := (XL.out.cell (p := ⟨gn, k * 2, none⟩) lG).trans x0
      have cc1 := (XL.out.cell (p := ⟨gn, k * 2 + 1, none⟩) lG).trans x1
      have lG2 : gn < wr.heap.size := Nat.lt_of_lt_of_le lG XL.out.size
      have RB := Lib.hid (rr.ext XL.out)
      have X := XL
      have q1 : (0 : Int) ≤ (k : Int) := by omega
      have q2 : (k : Int) < 10 := by omega
      have ka := fun W v h => kind_any v l 0 0 W h
      rw [kind_err, hck] at ka
      have kb := fun W v h => allowed_any v l 0 0 0 0 0 W h
      rw [allow_err, hck] at kb
      have kc := fun W v h => achk_any v l W h
      rw [hck] at kc
      generalize (kindS l 0 0).1 = kk at ka
      generalize (allowS l 0 0 0 0 0).1 = al at kb
      have KA := Lib.hid ka; have KB := Lib.hid kb; have KC := Lib.hid kc
      clear x0 x1 rr hck ka kb kc
      go_wp2_with fail
      clear c0 cc1 lG2
      have bb0 := (Blk.new wr #[.slice a1 n1 c1, .int .i64 e] 55)
      have hx : Ext wr (wr.alloc (.cells #[.slice a1 n1 c1, .int .i64 e] 55)) := ((Ext.refl wr).alloc _)
      obtain ⟨w102, hw102⟩ : ∃ W, W = (wr.alloc (.cells #[.slice a1 n1 c1, .int .i64 e] 55)) := ⟨_, rfl⟩
      rw [← hw102] at hx bb0 ⊢; clear hw102
      obtain ⟨XBn, hXBn⟩ : ∃ n, n = wr.heap.size := ⟨_, rfl⟩
      rw [← hXBn] at bb0 ⊢; clear hXBn
      have RB := Lib.hid (RB.out.ext hx); have X := Lib.hid (X.out.trans hx)
      clear hx
      have XB := Lib.hid bb0; clear bb0
      have qXB := XB.out.cell; have fXB := XB.out.free; have lXB := XB.out.lt
      go_wp2_with fail
      refine (KA.out _ _ RB.out).mono ?_
      rintro e w3 ⟨rfl, hx⟩
      clear qXB fXB lXB
      have RB := Lib.hid (RB.out.ext hx); have XB := Lib.hid (XB.out.ext hx); have X := Lib.hid (X.out.trans hx)
      clear hx
      have qXB := XB.out.cell; have fXB := XB.out.free; have lXB := XB.out.lt
      go_wp2_with fail
      refine (KB.out _ _ RB.out).mono ?_
      rintro e w4 ⟨⟨vv, rfl, -⟩, hx⟩
      clear qXB fXB lXB
      have RB := Lib.hid (RB.out.ext hx); have XB := Lib.hid (XB.out.ext hx); have X := Lib.hid (X.out.trans hx)
      clear hx
      have qXB := XB.out.cell; have fXB := XB.out.free; have lXB := XB.out.lt
      go_wp2_with fail
      (refine wp_region_quietE (by kernel_rfl) (by kernel_rfl) ?_; (repeat (go_big_quiet_step ((go_at_call 21; exact quietE (KC.out _ _ (RB.out.ext (Later.ext _))))))); refine wpQuiet_nil ?_; rintro w1 ⟨⟨_, hx1⟩, rfl⟩; (try dsimp only))
      clear qXB fXB lXB
      have X := Lib.hid (X.out.trans hx1)
      go_wp2_with fail
      go_roundw
      case rel => exact ⟨k + 1, by omega, by go_num, X.out⟩
      case measure => simp [intOf]; omega
    · obtain rfl : k = 10 := by omega
      have hx := XL.out; clear hlt hk
      have X := Lib.hid (X.out.trans hx)
      clear hx ROW lG XL
      go_wp2_with fail
      refine wp_region_each (advJ2) (by kernel_rfl) (by kernel_rfl) (by kernel_rfl) (fun _ _ _ _ => advJ2_ext) ?_ ?_
      · refine ⟨?_, ?_, ?_, ?_, trivial⟩
        · intro a W hW hB hD K hK
          go_simp
          refine (four_any _).mono ?_
          rintro e w9 ⟨⟨b, rfl, hr⟩, hx⟩
          exact hK _ _ hx ⟨_, rfl, hr⟩
        · intro a W hW hB hD K hK
          have hr := make_run W 4 Try.underlying66 Try.infoR (by decide) (by decide)
          rw [show madeCells (Value.agg #[.bool false, .slice none 0 0, .slice none 0 0]).cells (4 * 3) = [.bool false, .slice none 0 0, .slice none 0 0, .bool false, .slice none 0 0, .slice none 0 0, .bool false, .slice none 0 0, .slice none 0 0, .bool false, .slice none 0 0, .slice none 0 0].toArray from by kernel_rfl] at hr
          go_simp
          rw [show (Instr.makeSlice 66 (.int .i64 4) (.int .i64 4)).run Try.prog W = _ from hr]
          exact hK _ _ ((Ext.refl _).alloc _) ⟨_, rfl, Blk.new _ _ _⟩
        · intro a W hW hB hD K hK
          obtain ⟨v131, e131⟩ : ∃ x, a.tmps.getD 131 undef = x := ⟨_, rfl⟩
          have h131 := hD 0 _ 131 rfl rfl (by kernel_rfl)
          rw [e131] at h131
          simp only [Array.getD_eq_getD_getElem?] at e131
          obtain ⟨b1, rfl, k1⟩ := h131
          go_simp
          exact hK _ _ (Ext.refl _) ⟨_, rfl, k1⟩
        · intro a W hW hB hD K hK
          obtain ⟨v132, e132⟩ : ∃ x, a.tmps.getD 132 undef = x := ⟨_, rfl⟩
          have h132 := hD 1 _ 132 rfl rfl (by kernel_rfl)
          rw [e132] at h132
          simp only [Array.getD_eq_getD_getElem?] at e132
          obtain ⟨b1, rfl, k1⟩ := h132
          go_simp
          exact hK _ _ (Ext.refl _) ⟨_, rfl, k1⟩
      intro w8 hx
      simp only [Vals]
      intro v0 _ v1 _ v2 h2 v3 h3
      obtain ⟨fb, rfl, hF⟩ := h2
      obtain ⟨zn, rfl, hZ⟩ := h3
      simp only [Act.put, List.setIfInBounds_toArray, List.set_cons_zero, List.set_cons_succ]
      have X := Lib.hid (X.out.trans hx)
      clear hx; have FB := Lib.hid hF; have ZB := Lib.hid hZ; clear hF hZ
      have s1 : ∀ (j : Nat) (u : Value), ([.bool false, .slice none 0 0, .slice none 0 0, .bool false, .slice none 0 0, .slice none 0 0, .bool false, .slice none 0 0, .slice none 0 0] : List Value)[j]? = some u → ((w8.alloc (.cells [.bool false, .slice none 0 0, .slice none 0 0, .bool false, .slice none 0 0, .slice none 0 0, .bool false, .slice none 0 0, .slice none 0 0].toArray 70)).alloc (.cells #[.bool true, .slice none 0 0, .slice none 0 0] 70)).cell? ⟨w8.heap.size, 0 + j, none⟩ = some u := fun j u hj => by
        have := ((Blk.new w8 [.bool false, .slice none 0 0, .slice none 0 0, .bool false, .slice none 0 0, .slice none 0 0, .bool false, .slice none 0 0, .slice none 0 0].toArray 70).alloc (.cells #[.bool true, .slice none 0 0, .slice none 0 0] 70)).cell j
        rw [Nat.zero_add, this]
        simpa using hj
      have s2 : ∀ (j : Nat) (u : Value), ([.bool true, .slice none 0 0, .slice none 0 0] : List Value)[j]? = some u → ((w8.alloc (.cells [.bool false, .slice none 0 0, .slice none 0 0, .bool false, .slice none 0 0, .slice none 0 0, .bool false, .slice none 0 0, .slice none 0 0].toArray 70)).alloc (.cells #[.bool true, .slice none 0 0, .slice none 0 0] 70)).cell? ((⟨w8.heap.size + 1, 0, none⟩ : Addr).add j) = some u := fun j u hj => by
        have := (Blk.new (w8.alloc (.cells [.bool false, .slice none 0 0, .slice none 0 0, .bool false, .slice none 0 0, .slice none 0 0, .bool false, .slice none 0 0, .slice none 0 0].toArray 70)) [.bool true, .slice none 0 0, .slice none 0 0].toArray 70)
        rw [World.size_alloc] at this
        exact World.news_of_block this j u hj
      have SA := Lib.hid s1; have SB := Lib.hid s2; clear s1 s2
      obtain ⟨i0, hi, hz0, hz1, hz2⟩ := info_parts Try.infoR
      have HI := Lib.hid hi; have HZ0 := Lib.hid hz0; have HZ1 := Lib.hid hz1; have HZ2 := Lib.hid hz2
      clear hi hz0 hz1 hz2
      go_wp2_with (first | (with_reducible refine wpList_make_x rfl _ _ rfl 3 rfl rfl Try.underlying66 Try.infoR (by decide) (by decide) [.bool false, .slice none 0 0, .slice none 0 0, .bool false, .slice none 0 0, .slice none 0 0, .bool false, .slice none 0 0, .slice none 0 0].toArray (by kernel_rfl) ?_) | (at_builtin; (refine wpList_append_arg _ rfl _ _ 66 rfl 70 i0 (.agg #[.bool false, .slice none 0 0, .slice none 0 0]) 3 56 Try.underlying66 HI.out HZ0.out HZ1.out HZ2.out rfl (by decide) w8.heap.size 0 3 3 [.bool false, .slice none 0 0, .slice none 0 0, .bool false, .slice none 0 0, .slice none 0 0, .bool false, .slice none 0 0, .slice none 0 0] rfl rfl SA.out ⟨w8.heap.size + 1, 0, none⟩ 1 1 [.bool true, .slice none 0 0, .slice none 0 0] rfl rfl SB.out (by decide) (fun h => absurd h (by decide)) (by unfold maxLen; omega) (by decide) (fun h => absurd h (by decide)) ?_)))
      intro v9 w7 hown hgrow
      obtain ⟨gb, cb, rfl, -, -⟩ := hown.form (by decide)
      have hx : Ext w8 w7 := (((Ext.refl w8).alloc _).alloc _).trans (Below.grown (Below.refl _ _) hgrow (Nat.le_refl _) (fun k h => by cases h))
      have hb4 : RdRs w7 (.slice (some ⟨gb, 0, none⟩) 4 cb) [⟨false, [], []⟩, ⟨false, [], []⟩, ⟨false, [], []⟩, ⟨true, [], []⟩] := rdRs_of_rdN [false, false, false, true] (own_rdN (m := 3) (l := [[.bool false, .slice none 0 0, .slice none 0 0], [.bool false, .slice none 0 0, .slice none 0 0], [.bool false, .slice none 0 0, .slice none 0 0], [.bool true, .slice none 0 0, .slice none 0 0]]) hown (by decide))
      have RB := Lib.hid hb4
      clear hown hgrow hb4
      have FB := Lib.hid (FB.out.ext hx); have ZB := Lib.hid (ZB.out.ext hx); have X := Lib.hid (X.out.trans hx)
      clear hx
      go_wp2_with fail
      have bb0 := (Blk.new w7 [.bool true, .bool true, .bool true, .bool true].toArray 4)
      have hx : Ext w7 (w7.alloc (.cells [.bool true, .bool true, .bool true, .bool true].toArray 4)) := ((Ext.refl w7).alloc _)
      obtain ⟨w102, hw102⟩ : ∃ W, W = (w7.alloc (.cells [.bool true, .bool true, .bool true, .bool true].toArray 4)) := ⟨_, rfl⟩
      rw [← hw102] at hx bb0 ⊢; clear hw102
      obtain ⟨ANn, hANn⟩ : ∃ n, n = w7.heap.size := ⟨_, rfl⟩
      rw [← hANn] at bb0 ⊢; clear hANn
      have FB := Lib.hid (FB.out.ext hx); have ZB := Lib.hid (ZB.out.ext hx); have RB := Lib.hid (RB.out.ext hx); have X := Lib.hid (X.out.trans hx)
      clear hx
      have AN := Lib.hid bb0; clear bb0
      obtain ⟨an, han⟩ : ∃ n, n = ANn := ⟨_, rfl⟩
      rw [← han] at AN ⊢; clear han
      refine wp_region_each (advJ3 fb zn gb an cb) (by kernel_rfl) (by kernel_rfl) (by kernel_rfl) (fun _ _ _ _ => advJ3_ext) ?_ ?_
      · refine ⟨?_, ?_, ?_, ?_, ?_, ?_, ?_, ?_, ?_, ?_, ?_, ?_, ?_, ?_, ?_, ?_, ?_, ?_, ?_, ?_, ?_, ?_, ?_, ?_, ?_, ?_, ?_, ?_, ?_, ?_, ?_, ?_, ?_, ?_, ?_, ?_, ?_, ?_, ?_, ?_, ?_, ?_, ?_, ?_, ?_, ?_, ?_, ?_, ?_, ?_, ?_, ?_, ?_, ?_, trivial⟩
        · intro a W hW hB hD K hK
          have b7 := hB 7 rfl
          simp only [Array.getD_eq_getD_getElem?, List.getElem?_toArray, List.getElem?_cons_succ, List.getElem?_cons_zero, Option.getD_some] at b7
          go_simp
          exact hK _ _ (Ext.refl _) rfl
        · intro a W hW hB hD K hK
          go_simp
          exact hK _ _ (Ext.refl _) rfl
        · intro a W hW hB hD K hK
          obtain ⟨v138, e138⟩ : ∃ x, a.tmps.getD 138 undef = x := ⟨_, rfl⟩
          have h138 := hD 0 _ 138 rfl rfl (by kernel_rfl)
          rw [e138] at h138
          simp only [Array.getD_eq_getD_getElem?] at e138
          obtain rfl := h138
          obtain ⟨v139, e139⟩ : ∃ x, a.tmps.getD 139 undef = x := ⟨_, rfl⟩
          have h139 := hD 1 _ 139 rfl rfl (by kernel_rfl)
          rw [e139] at h139
          simp only [Array.getD_eq_getD_getElem?] at e139
          obtain rfl := h139
          go_simp
          exact hK _ _ (Ext.refl _) rfl
        · intro a W hW hB hD K hK
          obtain ⟨v140, e140⟩ : ∃ x, a.tmps.getD 140 undef = x := ⟨_, rfl⟩
          have h140 := hD 2 _ 140 rfl rfl (by kernel_rfl)
          rw [e140] at h140
          simp only [Array.getD_eq_getD_getElem?] at e140
          obtain rfl := h140
          go_simp
          exact hK _ _ (Ext.refl _) rfl
        · intro a W hW hB hD K hK
          have b7 := hB 7 rfl
          simp only [Array.getD_eq_getD_getElem?, List.getElem?_toArray, List.getElem?_cons_succ, List.getElem?_cons_zero, Option.getD_some] at b7
          go_simp
          exact hK _ _ (Ext.refl _) rfl
        · intro a W hW hB hD K hK
          go_simp
          exact hK _ _ (Ext.refl _) rfl
        · intro a W hW hB hD K hK
          obtain ⟨v142, e142⟩ : ∃ x, a.tmps.getD 142 undef = x := ⟨_, rfl⟩
          have h142 := hD 4 _ 142 rfl rfl (by kernel_rfl)
          rw [e142] at h142
          simp only [Array.getD_eq_getD_getElem?] at e142
          obtain rfl := h142
          obtain ⟨v143, e143⟩ : ∃ x, a.tmps.getD 143 undef = x := ⟨_, rfl⟩
          have h143 := hD 5 _ 143 rfl rfl (by kernel_rfl)
          rw [e143] at h143
          simp only [Array.getD_eq_getD_getElem?] at e143
          obtain rfl := h143
          go_simp
          exact hK _ _ (Ext.refl _) rfl
        · intro a W hW hB hD K hK
          obtain ⟨v144, e144⟩ : ∃ x, a.tmps.getD 144 undef = x := ⟨_, rfl⟩
          have h144 := hD 6 _ 144 rfl rfl (by kernel_rfl)
          rw [e144] at h144
          simp only [Array.getD_eq_getD_getElem?] at e144
          obtain rfl := h144
          go_simp
          exact hK _ _ (Ext.refl _) rfl
        · intro a W hW hB hD K hK
          have b7 := hB 7 rfl
          simp only [Array.getD_eq_getD_getElem?, List.getElem?_toArray, List.getElem?_cons_succ, List.getElem?_cons_zero, Option.getD_some] at b7
          go_simp
          exact hK _ _ (Ext.refl _) rfl
        · intro a W hW hB hD K hK
          go_simp
          exact hK _ _ (Ext.refl _) rfl
        · intro a W hW hB hD K hK
          obtain ⟨v146, e146⟩ : ∃ x, a.tmps.getD 146 undef = x := ⟨_, rfl⟩
          have h146 := hD 8 _ 146 rfl rfl (by kernel_rfl)
          rw [e146] at h146
          simp only [Array.getD_eq_getD_getElem?] at e146
          obtain rfl := h146
          obtain ⟨v147, e147⟩ : ∃ x, a.tmps.getD 147 undef = x := ⟨_, rfl⟩
          have h147 := hD 9 _ 147 rfl rfl (by kernel_rfl)
          rw [e147] at h147
          simp only [Array.getD_eq_getD_getElem?] at e147
          obtain rfl := h147
          go_simp
          exact hK _ _ (Ext.refl _) rfl
        · intro a W hW hB hD K hK
          obtain ⟨v148, e148⟩ : ∃ x, a.tmps.getD 148 undef = x := ⟨_, rfl⟩
          have h148 := hD 10 _ 148 rfl rfl (by kernel_rfl)
          rw [e148] at h148
          simp only [Array.getD_eq_getD_getElem?] at e148
          obtain rfl := h148
          go_simp
          exact hK _ _ (Ext.refl _) rfl
        · intro a W hW hB hD K hK
          have b7 := hB 7 rfl
          simp only [Array.getD_eq_getD_getElem?, List.getElem?_toArray, List.getElem?_cons_succ, List.getElem?_cons_zero, Option.getD_some] at b7
          go_simp
          exact hK _ _ (Ext.refl _) rfl
        · intro a W hW hB hD K hK
          go_simp
          exact hK _ _ (Ext.refl _) rfl
        · intro a W hW hB hD K hK
          obtain ⟨v150, e150⟩ : ∃ x, a.tmps.getD 150 undef = x := ⟨_, rfl⟩
          have h150 := hD 12 _ 150 rfl rfl (by kernel_rfl)
          rw [e150] at h150
          simp only [Array.getD_eq_getD_getElem?] at e150
          obtain rfl := h150
          obtain ⟨v151, e151⟩ : ∃ x, a.tmps.getD 151 undef = x := ⟨_, rfl⟩
          have h151 := hD 13 _ 151 rfl rfl (by kernel_rfl)
          rw [e151] at h151
          simp only [Array.getD_eq_getD_getElem?] at e151
          obtain rfl := h151
          go_simp
          exact hK _ _ (Ext.refl _) rfl
        · intro a W hW hB hD K hK
          obtain ⟨v152, e152⟩ : ∃ x, a.tmps.getD 152 undef = x := ⟨_, rfl⟩
          have h152 := hD 14 _ 152 rfl rfl (by kernel_rfl)
          rw [e152] at h152
          simp only [Array.getD_eq_getD_getElem?] at e152
          obtain rfl := h152
          go_simp
          exact hK _ _ (Ext.refl _) rfl
        · intro a W hW hB hD K hK
          have b7 := hB 7 rfl
          simp only [Array.getD_eq_getD_getElem?, List.getElem?_toArray, List.getElem?_cons_succ, List.getElem?_cons_zero, Option.getD_some] at b7
          go_simp
          exact hK _ _ (Ext.refl _) rfl
        · intro a W hW hB hD K hK
          go_simp
          exact hK _ _ (Ext.refl _) rfl
        · intro a W hW hB hD K hK
          obtain ⟨v154, e154⟩ : ∃ x, a.tmps.getD 154 undef = x := ⟨_, rfl⟩
          have h154 := hD 16 _ 154 rfl rfl (by kernel_rfl)
          rw [e154] at h154
          simp only [Array.getD_eq_getD_getElem?] at e154
          obtain rfl := h154
          obtain ⟨v155, e155⟩ : ∃ x, a.tmps.getD 155 undef = x := ⟨_, rfl⟩
          have h155 := hD 17 _ 155 rfl rfl (by kernel_rfl)
          rw [e155] at h155
          simp only [Array.getD_eq_getD_getElem?] at e155
          obtain rfl := h155
          go_simp
          exact hK _ _ (Ext.refl _) rfl
        · intro a W hW hB hD K hK
          obtain ⟨v156, e156⟩ : ∃ x, a.tmps.getD 156 undef = x := ⟨_, rfl⟩
          have h156 := hD 18 _ 156 rfl rfl (by kernel_rfl)
          rw [e156] at h156
          simp only [Array.getD_eq_getD_getElem?] at e156
          obtain rfl := h156
          go_simp
          exact hK _ _ (Ext.refl _) rfl
        · intro a W hW hB hD K hK
          have b7 := hB 7 rfl
          simp only [Array.getD_eq_getD_getElem?, List.getElem?_toArray, List.getElem?_cons_succ, List.getElem?_cons_zero, Option.getD_some] at b7
          go_simp
          exact hK _ _ (Ext.refl _) rfl
        · intro a W hW hB hD K hK
          go_simp
          exact hK _ _ (Ext.refl _) rfl
        · intro a W hW hB hD K hK
          obtain ⟨v158, e158⟩ : ∃ x, a.tmps.getD 158 undef = x := ⟨_, rfl⟩
          have h158 := hD 20 _ 158 rfl rfl (by kernel_rfl)
          rw [e158] at h158
          simp only [Array.getD_eq_getD_getElem?] at e158
          obtain rfl := h158
          obtain ⟨v159, e159⟩ : ∃ x, a.tmps.getD 159 undef = x := ⟨_, rfl⟩
          have h159 := hD 21 _ 159 rfl rfl (by kernel_rfl)
          rw [e159] at h159
          simp only [Array.getD_eq_getD_getElem?] at e159
          obtain rfl := h159
          go_simp
          exact hK _ _ (Ext.refl _) rfl
        · intro a W hW hB hD K hK
          obtain ⟨v160, e160⟩ : ∃ x, a.tmps.getD 160 undef = x := ⟨_, rfl⟩
          have h160 := hD 22 _ 160 rfl rfl (by kernel_rfl)
          rw [e160] at h160
          simp only [Array.getD_eq_getD_getElem?] at e160
          obtain rfl := h160
          go_simp
          exact hK _ _ (Ext.refl _) rfl
        · intro a W hW hB hD K hK
          have b7 := hB 7 rfl
          simp only [Array.getD_eq_getD_getElem?, List.getElem?_toArray, List.getElem?_cons_succ, List.getElem?_cons_zero, Option.getD_some] at b7
          go_simp
          exact hK _ _ (Ext.refl _) rfl
        · intro a W hW hB hD K hK
          have b9 := hB 9 rfl
          simp only [Array.getD_eq_getD_getElem?, List.getElem?_toArray, List.getElem?_cons_succ, List.getElem?_cons_zero, Option.getD_some] at b9
          go_simp
          exact hK _ _ (Ext.refl _) rfl
        · intro a W hW hB hD K hK
          have b10 := hB 10 rfl
          simp only [Array.getD_eq_getD_getElem?, List.getElem?_toArray, List.getElem?_cons_succ, List.getElem?_cons_zero, Option.getD_some] at b10
          go_simp
          exact hK _ _ (Ext.refl _) rfl
        · intro a W hW hB hD K hK
          obtain ⟨v164, e164⟩ : ∃ x, a.tmps.getD 164 undef = x := ⟨_, rfl⟩
          have h164 := hD 26 _ 164 rfl rfl (by kernel_rfl)
          rw [e164] at h164
          simp only [Array.getD_eq_getD_getElem?] at e164
          obtain rfl := h164
          go_simp
          exact hK _ _ (Ext.refl _) rfl
        · intro a W hW hB hD K hK
          obtain ⟨v162, e162⟩ : ∃ x, a.tmps.getD 162 undef = x := ⟨_, rfl⟩
          have h162 := hD 24 _ 162 rfl rfl (by kernel_rfl)
          rw [e162] at h162
          simp only [Array.getD_eq_getD_getElem?] at e162
          obtain rfl := h162
          obtain ⟨v163, e163⟩ : ∃ x, a.tmps.getD 163 undef = x := ⟨_, rfl⟩
          have h163 := hD 25 _ 163 rfl rfl (by kernel_rfl)
          rw [e163] at h163
          simp only [Array.getD_eq_getD_getElem?] at e163
          obtain rfl := h163
          obtain ⟨v165, e165⟩ : ∃ x, a.tmps.getD 165 undef = x := ⟨_, rfl⟩
          have h165 := hD 27 _ 165 rfl rfl (by kernel_rfl)
          rw [e165] at h165
          simp only [Array.getD_eq_getD_getElem?] at e165
          obtain rfl := h165
          go_simp
          exact hK _ _ (Ext.refl _) rfl
        · intro a W hW hB hD K hK
          obtain ⟨v166, e166⟩ : ∃ x, a.tmps.getD 166 undef = x := ⟨_, rfl⟩
          have h166 := hD 28 _ 166 rfl rfl (by kernel_rfl)
          rw [e166] at h166
          simp only [Array.getD_eq_getD_getElem?] at e166
          obtain rfl := h166
          go_simp
          exact hK _ _ (Ext.refl _) rfl
        · intro a W hW hB hD K hK
          have b7 := hB 7 rfl
          simp only [Array.getD_eq_getD_getElem?, List.getElem?_toArray, List.getElem?_cons_succ, List.getElem?_cons_zero, Option.getD_some] at b7
          go_simp
          exact hK _ _ (Ext.refl _) rfl
        · intro a W hW hB hD K hK
          have b8 := hB 8 rfl
          simp only [Array.getD_eq_getD_getElem?, List.getElem?_toArray, List.getElem?_cons_succ, List.getElem?_cons_zero, Option.getD_some] at b8
          go_simp
          exact hK _ _ (Ext.refl _) rfl
        · intro a W hW hB hD K hK
          obtain ⟨v169, e169⟩ : ∃ x, a.tmps.getD 169 undef = x := ⟨_, rfl⟩
          have h169 := hD 31 _ 169 rfl rfl (by kernel_rfl)
          rw [e169] at h169
          simp only [Array.getD_eq_getD_getElem?] at e169
          obtain rfl := h169
          go_simp
          exact hK _ _ (Ext.refl _) rfl
        · intro a W hW hB hD K hK
          have b10 := hB 10 rfl
          simp only [Array.getD_eq_getD_getElem?, List.getElem?_toArray, List.getElem?_cons_succ, List.getElem?_cons_zero, Option.getD_some] at b10
          go_simp
          exact hK _ _ (Ext.refl _) rfl
        · intro a W hW hB hD K hK
          obtain ⟨v168, e168⟩ : ∃ x, a.tmps.getD 168 undef = x := ⟨_, rfl⟩
          have h168 := hD 30 _ 168 rfl rfl (by kernel_rfl)
          rw [e168] at h168
          simp only [Array.getD_eq_getD_getElem?] at e168
          obtain rfl := h168
          obtain ⟨v170, e170⟩ : ∃ x, a.tmps.getD 170 undef = x := ⟨_, rfl⟩
          have h170 := hD 32 _ 170 rfl rfl (by kernel_rfl)
          rw [e170] at h170
          simp only [Array.getD_eq_getD_getElem?] at e170
          obtain rfl := h170
          obtain ⟨v171, e171⟩ : ∃ x, a.tmps.getD 171 undef = x := ⟨_, rfl⟩
          have h171 := hD 33 _ 171 rfl rfl (by kernel_rfl)
          rw [e171] at h171
          simp only [Array.getD_eq_getD_getElem?] at e171
          obtain rfl := h171
          go_simp
          exact hK _ _ (Ext.refl _) rfl
        · intro a W hW hB hD K hK
          obtain ⟨v172, e172⟩ : ∃ x, a.tmps.getD 172 undef = x := ⟨_, rfl⟩
          have h172 := hD 34 _ 172 rfl rfl (by kernel_rfl)
          rw [e172] at h172
          simp only [Array.getD_eq_getD_getElem?] at e172
          obtain rfl := h172
          go_simp
          exact hK _ _ (Ext.refl _) rfl
        · intro a W hW hB hD K hK
          have b7 := hB 7 rfl
          simp only [Array.getD_eq_getD_getElem?, List.getElem?_toArray, List.getElem?_cons_succ, List.getElem?_cons_zero, Option.getD_some] at b7
          go_simp
          exact hK _ _ (Ext.refl _) rfl
        · intro a W hW hB hD K hK
          have b9 := hB 9 rfl
          simp only [Array.getD_eq_getD_getElem?, List.getElem?_toArray, List.getElem?_cons_succ, List.getElem?_cons_zero, Option.getD_some] at b9
          go_simp
          exact hK _ _ (Ext.refl _) rfl
        · intro a W hW hB hD K hK
          have hr := make_run W 4 Try.underlying37 Try.infoBo (by decide) (by decide)
          rw [show madeCells (Value.bool false).cells (4 * 1) = [.bool false, .bool false, .bool false, .bool false].toArray from by kernel_rfl] at hr
          go_simp
          rw [show (Instr.makeSlice 37 (.int .i64 4) (.int .i64 4)).run Try.prog W = _ from hr]
          exact hK _ _ ((Ext.refl _).alloc _) ⟨_, rfl, Blk.new _ _ _⟩
        · intro a W hW hB hD K hK
          obtain ⟨v174, e174⟩ : ∃ x, a.tmps.getD 174 undef = x := ⟨_, rfl⟩
          have h174 := hD 36 _ 174 rfl rfl (by kernel_rfl)
          rw [e174] at h174
          simp only [Array.getD_eq_getD_getElem?] at e174
          obtain rfl := h174
          obtain ⟨v175, e175⟩ : ∃ x, a.tmps.getD 175 undef = x := ⟨_, rfl⟩
          have h175 := hD 37 _ 175 rfl rfl (by kernel_rfl)
          rw [e175] at h175
          simp only [Array.getD_eq_getD_getElem?] at e175
          obtain rfl := h175
          obtain ⟨v176, e176⟩ : ∃ x, a.tmps.getD 176 undef = x := ⟨_, rfl⟩
          have h176 := hD 38 _ 176 rfl rfl (by kernel_rfl)
          rw [e176] at h176
          simp only [Array.getD_eq_getD_getElem?] at e176
          obtain ⟨b1, rfl, k1⟩ := h176
          go_simp
          exact hK _ _ (Ext.refl _) ⟨_, rfl, k1⟩
        · intro a W hW hB hD K hK
          obtain ⟨v177, e177⟩ : ∃ x, a.tmps.getD 177 undef = x := ⟨_, rfl⟩
          have h177 := hD 39 _ 177 rfl rfl (by kernel_rfl)
          rw [e177] at h177
          simp only [Array.getD_eq_getD_getElem?] at e177
          obtain ⟨b1, rfl, k1⟩ := h177
          go_simp
          exact hK _ _ (Ext.refl _) ⟨_, rfl, k1⟩
        · intro a W hW hB hD K hK
          have b7 := hB 7 rfl
          simp only [Array.getD_eq_getD_getElem?, List.getElem?_toArray, List.getElem?_cons_succ, List.getElem?_cons_zero, Option.getD_some] at b7
          go_simp
          exact hK _ _ (Ext.refl _) rfl
        · intro a W hW hB hD K hK
          have b8 := hB 8 rfl
          simp only [Array.getD_eq_getD_getElem?, List.getElem?_toArray, List.getElem?_cons_succ, List.getElem?_cons_zero, Option.getD_some] at b8
          go_simp
          exact hK _ _ (Ext.refl _) rfl
        · intro a W hW hB hD K hK
          have hr := make_run W 4 Try.underlying37 Try.infoBo (by decide) (by decide)
          rw [show madeCells (Value.bool false).cells (4 * 1) = [.bool false, .bool false, .bool false, .bool false].toArray from by kernel_rfl] at hr
          go_simp
          rw [show (Instr.makeSlice 37 (.int .i64 4) (.int .i64 4)).run Try.prog W = _ from hr]
          exact hK _ _ ((Ext.refl _).alloc _) ⟨_, rfl, Blk.new _ _ _⟩
        · intro a W hW hB hD K hK
          obtain ⟨v179, e179⟩ : ∃ x, a.tmps.getD 179 undef = x := ⟨_, rfl⟩
          have h179 := hD 41 _ 179 rfl rfl (by kernel_rfl)
          rw [e179] at h179
          simp only [Array.getD_eq_getD_getElem?] at e179
          obtain rfl := h179
          obtain ⟨v180, e180⟩ : ∃ x, a.tmps.getD 180 undef = x := ⟨_, rfl⟩
          have h180 := hD 42 _ 180 rfl rfl (by kernel_rfl)
          rw [e180] at h180
          simp only [Array.getD_eq_getD_getElem?] at e180
          obtain rfl := h180
          obtain ⟨v181, e181⟩ : ∃ x, a.tmps.getD 181 undef = x := ⟨_, rfl⟩
          have h181 := hD 43 _ 181 rfl rfl (by kernel_rfl)
          rw [e181] at h181
          simp only [Array.getD_eq_getD_getElem?] at e181
          obtain ⟨b1, rfl, k1⟩ := h181
          go_simp
          exact hK _ _ (Ext.refl _) ⟨_, rfl, k1⟩
        · intro a W hW hB hD K hK
          obtain ⟨v182, e182⟩ : ∃ x, a.tmps.getD 182 undef = x := ⟨_, rfl⟩
          have h182 := hD 44 _ 182 rfl rfl (by kernel_rfl)
          rw [e182] at h182
          simp only [Array.getD_eq_getD_getElem?] at e182
          obtain ⟨b1, rfl, k1⟩ := h182
          go_simp
          exact hK _ _ (Ext.refl _) ⟨_, rfl, k1⟩
        · intro a W hW hB hD K hK
          have b7 := hB 7 rfl
          simp only [Array.getD_eq_getD_getElem?, List.getElem?_toArray, List.getElem?_cons_succ, List.getElem?_cons_zero, Option.getD_some] at b7
          go_simp
          exact hK _ _ (Ext.refl _) rfl
        · intro a W hW hB hD K hK
          have b8 := hB 8 rfl
          simp only [Array.getD_eq_getD_getElem?, List.getElem?_toArray, List.getElem?_cons_succ, List.getElem?_cons_zero, Option.getD_some] at b8
          go_simp
          exact hK _ _ (Ext.refl _) rfl
        · intro a W hW hB hD K hK
          have b10 := hB 10 rfl
          simp only [Array.getD_eq_getD_getElem?, List.getElem?_toArray, List.getElem?_cons_succ, List.getElem?_cons_zero, Option.getD_some] at b10
          go_simp
          exact hK _ _ (Ext.refl _) rfl
        · intro a W hW hB hD K hK
          obtain ⟨v184, e184⟩ : ∃ x, a.tmps.getD 184 undef = x := ⟨_, rfl⟩
          have h184 := hD 46 _ 184 rfl rfl (by kernel_rfl)
          rw [e184] at h184
          simp only [Array.getD_eq_getD_getElem?] at e184
          obtain rfl := h184
          obtain ⟨v185, e185⟩ : ∃ x, a.tmps.getD 185 undef = x := ⟨_, rfl⟩
          have h185 := hD 47 _ 185 rfl rfl (by kernel_rfl)
          rw [e185] at h185
          simp only [Array.getD_eq_getD_getElem?] at e185
          obtain rfl := h185
          obtain ⟨v186, e186⟩ : ∃ x, a.tmps.getD 186 undef = x := ⟨_, rfl⟩
          have h186 := hD 48 _ 186 rfl rfl (by kernel_rfl)
          rw [e186] at h186
          simp only [Array.getD_eq_getD_getElem?] at e186
          obtain rfl := h186
          go_simp
          exact hK _ _ (Ext.refl _) rfl
        · intro a W hW hB hD K hK
          obtain ⟨v187, e187⟩ : ∃ x, a.tmps.getD 187 undef = x := ⟨_, rfl⟩
          have h187 := hD 49 _ 187 rfl rfl (by kernel_rfl)
          rw [e187] at h187
          simp only [Array.getD_eq_getD_getElem?] at e187
          obtain rfl := h187
          go_simp
          exact hK _ _ (Ext.refl _) rfl
        · intro a W hW hB hD K hK
          obtain ⟨v141, e141⟩ : ∃ x, a.tmps.getD 141 undef = x := ⟨_, rfl⟩
          have h141 := hD 3 _ 141 rfl rfl (by kernel_rfl)
          rw [e141] at h141
          simp only [Array.getD_eq_getD_getElem?] at e141
          obtain rfl := h141
          obtain ⟨v145, e145⟩ : ∃ x, a.tmps.getD 145 undef = x := ⟨_, rfl⟩
          have h145 := hD 7 _ 145 rfl rfl (by kernel_rfl)
          rw [e145] at h145
          simp only [Array.getD_eq_getD_getElem?] at e145
          obtain rfl := h145
          obtain ⟨v149, e149⟩ : ∃ x, a.tmps.getD 149 undef = x := ⟨_, rfl⟩
          have h149 := hD 11 _ 149 rfl rfl (by kernel_rfl)
          rw [e149] at h149
          simp only [Array.getD_eq_getD_getElem?] at e149
          obtain rfl := h149
          obtain ⟨v153, e153⟩ : ∃ x, a.tmps.getD 153 undef = x := ⟨_, rfl⟩
          have h153 := hD 15 _ 153 rfl rfl (by kernel_rfl)
          rw [e153] at h153
          simp only [Array.getD_eq_getD_getElem?] at e153
          obtain rfl := h153
          obtain ⟨v157, e157⟩ : ∃ x, a.tmps.getD 157 undef = x := ⟨_, rfl⟩
          have h157 := hD 19 _ 157 rfl rfl (by kernel_rfl)
          rw [e157] at h157
          simp only [Array.getD_eq_getD_getElem?] at e157
          obtain rfl := h157
          obtain ⟨v161, e161⟩ : ∃ x, a.tmps.getD 161 undef = x := ⟨_, rfl⟩
          have h161 := hD 23 _ 161 rfl rfl (by kernel_rfl)
          rw [e161] at h161
          simp only [Array.getD_eq_getD_getElem?] at e161
          obtain rfl := h161
          obtain ⟨v167, e167⟩ : ∃ x, a.tmps.getD 167 undef = x := ⟨_, rfl⟩
          have h167 := hD 29 _ 167 rfl rfl (by kernel_rfl)
          rw [e167] at h167
          simp only [Array.getD_eq_getD_getElem?] at e167
          obtain rfl := h167
          obtain ⟨v173, e173⟩ : ∃ x, a.tmps.getD 173 undef = x := ⟨_, rfl⟩
          have h173 := hD 35 _ 173 rfl rfl (by kernel_rfl)
          rw [e173] at h173
          simp only [Array.getD_eq_getD_getElem?] at e173
          obtain rfl := h173
          obtain ⟨v178, e178⟩ : ∃ x, a.tmps.getD 178 undef = x := ⟨_, rfl⟩
          have h178 := hD 40 _ 178 rfl rfl (by kernel_rfl)
          rw [e178] at h178
          simp only [Array.getD_eq_getD_getElem?] at e178
          obtain ⟨p1, rfl, k1⟩ := h178
          obtain ⟨v183, e183⟩ : ∃ x, a.tmps.getD 183 undef = x := ⟨_, rfl⟩
          have h183 := hD 45 _ 183 rfl rfl (by kernel_rfl)
          rw [e183] at h183
          simp only [Array.getD_eq_getD_getElem?] at e183
          obtain ⟨p2, rfl, k2⟩ := h183
          obtain ⟨v188, e188⟩ : ∃ x, a.tmps.getD 188 undef = x := ⟨_, rfl⟩
          have h188 := hD 50 _ 188 rfl rfl (by kernel_rfl)
          rw [e188] at h188
          simp only [Array.getD_eq_getD_getElem?] at e188
          obtain rfl := h188
          go_simp
          exact hK _ _ ((Ext.refl _).alloc _) ⟨_, _, _, rfl, Blk.new _ _ _, k1.ext ((Ext.refl _).alloc _), k2.ext ((Ext.refl _).alloc _)⟩
        · intro a W hW hB hD K hK
          obtain ⟨v189, e189⟩ : ∃ x, a.tmps.getD 189 undef = x := ⟨_, rfl⟩
          have h189 := hD 51 _ 189 rfl rfl (by kernel_rfl)
          rw [e189] at h189
          simp only [Array.getD_eq_getD_getElem?] at e189
          obtain ⟨g, p1, p2, rfl, -⟩ := h189
          go_simp
          exact hK _ _ (Ext.refl _) rfl
        · intro a W hW hB hD K hK
          go_simp
          exact hK _ _ (Ext.refl _) rfl
      intro w6 hx
      simp only [Vals]
      intro v0 _ v1 _ v2 _ v3 _ v4 _ v5 _ v6 _ v7 _ v8 _ v9 _ v10 _ v11 _ v12 _ v13 _ v14 _ v15 _ v16 _ v17 _ v18 _ v19 _ v20 _ v21 _ v22 _ v23 _ v24 _ v25 _ v26 _ v27 _ v28 _ v29 _ v30 _ v31 _ v32 _ v33 _ v34 _ v35 _ v36 _ v37 _ v38 _ v39 _ v40 _ v41 _ v42 _ v43 _ v44 _ v45 _ v46 _ v47 _ v48 _ v49 _ v50 _ v51 h51 v52 h52 v53 h53
      obtain ⟨gn2, p1, p2, rfl, bG, bp1, bp2⟩ := h51
      obtain rfl : v52 = .int .i64 11 := h52
      obtain rfl : v53 = .int .i64 0 := h53
      simp only [Act.put, List.setIfInBounds_toArray, List.set_cons_zero, List.set_cons_succ]
      have FB := Lib.hid (FB.out.ext hx); have ZB := Lib.hid (ZB.out.ext hx); have RB := Lib.hid (RB.out.ext hx); have AN := Lib.hid (AN.out.ext hx); have X := Lib.hid (X.out.trans hx)
      clear hx
      go_wp2_with fail
      have hz4 : RdRs w6 (.slice (some ⟨zn, 0, none⟩) 4 4) [⟨false, [], []⟩, ⟨false, [], []⟩, ⟨false, [], []⟩, ⟨false, [], []⟩] := rdRs_of_rdN [false, false, false, false] (rdN_blk ZB.out 3 4 _ rfl (by decide) rfl rfl (by decide))
      have hz3 : RdRs w6 (.slice (some ⟨zn, 0, none⟩) 3 4) [⟨false, [], []⟩, ⟨false, [], []⟩, ⟨false, [], []⟩] := RdRs.cut hz4
      have ha4 : Rd w6 (.slice (some ⟨an, 0, none⟩) 4 4) ([true, true, true, true].map Value.bool) := rdB_blk [true, true, true, true] AN.out (by simp)
      have ha3 : Rd w6 (.slice (some ⟨an, 0, none⟩) 3 4) ([true, true, true].map Value.bool) := Rd.cut ha4
      have RZ := Lib.hid hz4; have RZ3 := Lib.hid hz3; have RA := Lib.hid ha4; have RA3 := Lib.hid ha3
      have RP1 := Lib.hid (show Rd w6 (.slice (some ⟨p1, 0, none⟩) 4 4) ([false, false, false, false].map Value.bool) from rdB_blk [false, false, false, false] bp1 (by simp))
      have RP2 := Lib.hid (show Rd w6 (.slice (some ⟨p2, 0, none⟩) 4 4) ([false, false, false, false].map Value.bool) from rdB_blk [false, false, false, false] bp2 (by simp))
      clear hz4 hz3 ha4 ha3 bp1 bp2
      have hrow : ∀ k, k < 11 → ∃ (m0 m1 m2 l0 l1 e : Int) (a1 : Option Addr) (n1 c1 : Nat) (a2 : Option Addr) (n2 c2 : Nat) (cs : List RR) (ms : List Bool), w6.cell? ⟨gn2, k * 9, none⟩ = some (.slice (some ⟨fb, 0, none⟩) 4 4) ∧ w6.cell? ⟨gn2, k * 9 + 1, none⟩ = some (.int .i64 m0) ∧ w6.cell? ⟨gn2, k * 9 + 2, none⟩ = some (.int .i64 m1) ∧ w6.cell? ⟨gn2, k * 9 + 3, none⟩ = some (.int .i64 m2) ∧
          w6.cell? ⟨gn2, k * 9 + 4, none⟩ = some (.slice a1 n1 c1) ∧ w6.cell? ⟨gn2, k * 9 + 5, none⟩ = some (.slice a2 n2 c2) ∧ w6.cell? ⟨gn2, k * 9 + 6, none⟩ = some (.int .i64 l0) ∧ w6.cell? ⟨gn2, k * 9 + 7, none⟩ = some (.int .i64 l1) ∧ w6.cell? ⟨gn2, k * 9 + 8, none⟩ = some (.int .i64 e) ∧
          RdRs w6 (.slice a1 n1 c1) cs ∧ Rd w6 (.slice a2 n2 c2) (ms.map Value.bool) ∧ LimRs cs ∧ (chooseS fourL m0 m1 m2 cs ms l0 l1).2.2 = e ∧ -9223372036854775808 ≤ m1 ∧ -9223372036854775808 ≤ m2 := by
        intro k hk
        match k, hk with
        | 0, _ => exact ⟨4, (-1), 0, 0, 0, 8, _, _, _, _, _, _, [], [], bG.cell 0, bG.cell 1, bG.cell 2, bG.cell 3, bG.cell 4, bG.cell 5, bG.cell 6, bG.cell 7, bG.cell 8, (RdRs.nil _ none), (nilRd _), limZ _ (by decide), by kernel_rfl, by decide, by decide⟩
        | 1, _ => exact ⟨(-1), 0, 0, 0, 0, 8, _, _, _, _, _, _, [], [], bG.cell 9, bG.cell 10, bG.cell 11, bG.cell 12, bG.cell 13, bG.cell 14, bG.cell 15, bG.cell 16, bG.cell 17, (RdRs.nil _ none), (nilRd _), limZ _ (by decide), by kernel_rfl, by decide, by decide⟩
        | 2, _ => exact ⟨0, 1001, 0, 0, 0, 1, _, _, _, _, _, _, [], [], bG.cell 18, bG.cell 19, bG.cell 20, bG.cell 21, bG.cell 22, bG.cell 23, bG.cell 24, bG.cell 25, bG.cell 26, (RdRs.nil _ none), (nilRd _), limZ _ (by decide), by kernel_rfl, by decide, by decide⟩
        | 3, _ => exact ⟨0, 0, (-1), 0, 0, 1, _, _, _, _, _, _, [], [], bG.cell 27, bG.cell 28, bG.cell 29, bG.cell 30, bG.cell 31, bG.cell 32, bG.cell 33, bG.cell 34, bG.cell 35, (RdRs.nil _ none), (nilRd _), limZ _ (by decide), by kernel_rfl, by decide, by decide⟩
        | 4, _ => exact ⟨0, 0, 0, 0, 1001, 1, _, _, _, _, _, _, [], [], bG.cell 36, bG.cell 37, bG.cell 38, bG.cell 39, bG.cell 40, bG.cell 41, bG.cell 42, bG.cell 43, bG.cell 44, (RdRs.nil _ none), (nilRd _), limZ _ (by decide), by kernel_rfl, by decide, by decide⟩
        | 5, _ => exact ⟨0, 0, 0, 101, 0, 1, _, _, _, _, _, _, [], [], bG.cell 45, bG.cell 46, bG.cell 47, bG.cell 48, bG.cell 49, bG.cell 50, bG.cell 51, bG.cell 52, bG.cell 53, (RdRs.nil _ none), (nilRd _), limZ _ (by decide), by kernel_rfl, by decide, by decide⟩
        | 6, _ => exact ⟨0, 0, 0, 0, 0, 16, _, _, _, _, _, _, [⟨false, [], []⟩, ⟨false, [], []⟩, ⟨false, [], []⟩, ⟨true, [], []⟩], [true, true, true], bG.cell 54, bG.cell 55, bG.cell 56, bG.cell 57, bG.cell 58, bG.cell 59, bG.cell 60, bG.cell 61, bG.cell 62, RB.out, RA3.out, limZ _ (by decide), by kernel_rfl, by decide, by decide⟩
        | 7, _ => exact ⟨0, 0, 0, 0, 0, 16, _, _, _, _, _, _, [⟨false, [], []⟩, ⟨false, [], []⟩, ⟨false, [], []⟩], [true, true, true, true], bG.cell 63, bG.cell 64, bG.cell 65, bG.cell 66, bG.cell 67, bG.cell 68, bG.cell 69, bG.cell 70, bG.cell 71, RZ3.out, RA.out, limZ _ (by decide), by kernel_rfl, by decide, by decide⟩
        | 8, _ => exact ⟨0, 0, 0, 0, 0, 2, _, _, _, _, _, _, [⟨false, [], []⟩, ⟨false, [], []⟩, ⟨false, [], []⟩, ⟨true, [], []⟩], [false, false, false, false], bG.cell 72, bG.cell 73, bG.cell 74, bG.cell 75, bG.cell 76, bG.cell 77, bG.cell 78, bG.cell 79, bG.cell 80, RB.out, RP1.out, limZ _ (by decide), by kernel_rfl, by decide, by decide⟩
        | 9, _ => exact ⟨0, 0, 0, 0, 0, 9, _, _, _, _, _, _, [⟨false, [], []⟩, ⟨false, [], []⟩, ⟨false, [], []⟩, ⟨false, [], []⟩], [false, false, false, false], bG.cell 81, bG.cell 82, bG.cell 83, bG.cell 84, bG.cell 85, bG.cell 86, bG.cell 87, bG.cell 88, bG.cell 89, RZ.out, RP2.out, limZ _ (by decide), by kernel_rfl, by decide, by decide⟩
        | 10, _ => exact ⟨0, 0, 0, 0, 0, 0, _, _, _, _, _, _, [⟨false, [], []⟩, ⟨false, [], []⟩, ⟨false, [], []⟩, ⟨false, [], []⟩], [true, true, true, true], bG.cell 90, bG.cell 91, bG.cell 92, bG.cell 93, bG.cell 94, bG.cell 95, bG.cell 96, bG.cell 97, bG.cell 98, RZ.out, RA.out, limZ _ (by decide), by kernel_rfl, by decide, by decide⟩
      have ROW := Lib.hid hrow; have lG := bG.lt; clear hrow bG RP1 RP2
      go_loopw [191] (fun i wr => ∃ k : Nat, k ≤ 11 ∧ i = .int .i64 k ∧ Ext w6 wr) (fun i _ => 11 - (intOf i).toNat)
      case atStart => exact ⟨0, by omega, rfl, Ext.refl _⟩
      case round =>
        obtain ⟨k, hk, rfl, hext⟩ := hrel
        have XL := Lib.hid hext
        clear hext
        by_cases hlt : k < 11
        · obtain ⟨m0, m1, m2, l0, l1, e, a1, n1, c1, a2, n2, c2, cs, ms, x0, x1, x2, x3, x4, x5, x6, x7, x8, rc, rm, lc, hck, g1, g2⟩ := ROW.out k hlt
          have c90 := (XL.out.cell (p := ⟨gn2, k * 9, none⟩) lG).trans x0
          have c91 := (XL.out.cell (p := ⟨gn2, k * 9 + 1, none⟩) lG).trans x1
          have c92 := (XL.out.cell (p := ⟨gn2, k * 9 + 2, none⟩) lG).trans x2
          have c93 := (XL.out.cell (p := ⟨gn2, k * 9 + 3, none⟩) lG).trans x3
          have c94 := (XL.out.cell (p := ⟨gn2, k * 9 + 4, none⟩) lG).trans x4
          have c95 := (XL.out.cell (p := ⟨gn2, k * 9 + 5, none⟩) lG).trans x5
          have c96 := (XL.out.cell (p := ⟨gn2, k * 9 + 6, none⟩) lG).trans x6
          have c97 := (XL.out.cell (p := ⟨gn2, k * 9 + 7, none⟩) lG).trans x7
          have c98 := (XL.out.cell (p := ⟨gn2, k * 9 + 8, none⟩) lG).trans x8
          have lG2 : gn2 < wr.heap.size := Nat.lt_of_lt_of_le lG XL.out.size
          have FB := Lib.hid (FB.out.ext XL.out); have RC := Lib.hid (rc.ext XL.out); have RM := Lib.hid (rm.ext XL.out)
          have X := XL
          have q1 : (0 : Int) ≤ (k : Int) := by omega
          have q2 : (k : Int) < 11 := by omega
          have ka := fun W vl vc vm hl hc hm => choose_any vl vc vm fourL m0 m1 m2 cs ms l0 l1 W hl hc hm lc g1 g2
          generalize chooseS fourL m0 m1 m2 cs ms l0 l1 = R at ka hck
          obtain ⟨⟨R1, R2, R3⟩, ⟨R4, R5, R6⟩, R7⟩ := R
          dsimp only at hck
          subst hck
          have KA := Lib.hid ka
          clear x0 x1 x2 x3 x4 x5 x6 x7 x8 rc rm lc ka g1 g2
          go_wp2_with fail
          clear c90 c91 c92 c93 c94 c95 c96 c97 c98 lG2
          have bb0 := (Blk.new wr #[.slice (some ⟨fb, 0, none⟩) 4 4, .int .i64 m0, .int .i64 m1, .int .i64 m2, .slice a1 n1 c1, .slice a2 n2 c2, .int .i64 l0, .int .i64 l1, .int .i64 R7] 73)
          have hx : Ext wr (wr.alloc (.cells #[.slice (some ⟨fb, 0, none⟩) 4 4, .int .i64 m0, .int .i64 m1, .int .i64 m2, .slice a1 n1 c1, .slice a2 n2 c2, .int .i64 l0, .int .i64 l1, .int .i64 R7] 73)) := ((Ext.refl wr).alloc _)
          obtain ⟨w103, hw103⟩ : ∃ W, W = (wr.alloc (.cells #[.slice (some ⟨fb, 0, none⟩) 4 4, .int .i64 m0, .int .i64 m1, .int .i64 m2, .slice a1 n1 c1, .slice a2 n2 c2, .int .i64 l0, .int .i64 l1, .int .i64 R7] 73)) := ⟨_, rfl⟩
          rw [← hw103] at hx bb0 ⊢; clear hw103
          obtain ⟨XBn, hXBn⟩ : ∃ n, n = wr.heap.size := ⟨_, rfl⟩
          rw [← hXBn] at bb0 ⊢; clear hXBn
          have FB := Lib.hid (FB.out.ext hx); have RC := Lib.hid (RC.out.ext hx); have RM := Lib.hid (RM.out.ext hx); have X := Lib.hid (X.out.trans hx)
          clear hx
          have XB := Lib.hid bb0; clear bb0
          have qXB := XB.out.cell; have fXB := XB.out.free; have lXB := XB.out.lt
          go_wp2_with fail
          refine (KA.out _ _ _ _ FB.out RC.out RM.out).mono ?_
          rintro e w4 ⟨⟨vn, vd, rfl, nn1, nn2⟩, hx⟩
          clear qXB fXB lXB
          have FB := Lib.hid (FB.out.ext hx); have RC := Lib.hid (RC.out.ext hx); have RM := Lib.hid (RM.out.ext hx); have XB := Lib.hid (XB.out.ext hx); have X := Lib.hid (X.out.trans hx)
          obtain ⟨s1, s2, rfl⟩ := nn1.shape; obtain ⟨s3, s4, rfl⟩ := nn2.shape
          clear nn1 nn2 hx
          have qXB := XB.out.cell; have fXB := XB.out.free; have lXB := XB.out.lt
          go_wp2_with fail
          go_roundw
          case rel => exact ⟨k + 1, by omega, by go_num, by have := X.out; (repeat (first | (with_reducible exact Ext.refl _) | (with_reducible assumption) | (with_reducible refine Ext.alloc ?_ _) | ((with_reducible refine Ext.setp ?_ ?_); focus (dsimp only; omega)) | (with_reducible refine Ext.drew ?_) | (with_reducible refine Ext.drewN ?_ _) | (with_reducible refine Ext.trans ?_ (by assumption))))⟩
          case measure => simp [intOf]; omega
        · obtain rfl : k = 11 := by omega
          have hx := XL.out; clear hlt hk ROW lG
          have FB := Lib.hid (FB.out.ext hx); have ZB := Lib.hid (ZB.out.ext hx); have RB := Lib.hid (RB.out.ext hx); have AN := Lib.hid (AN.out.ext hx); have RZ := Lib.hid (RZ.out.ext hx); have RZ3 := Lib.hid (RZ3.out.ext hx); have RA := Lib.hid (RA.out.ext hx); have RA3 := Lib.hid (RA3.out.ext hx); have X := Lib.hid (X.out.trans hx)
          clear hx XL
          have ka := fun W vc va hc ha => least_any vc va [] [true, true, true, true] W hc ha (limZ _ (by decide))
          rw [show leastS [] [true, true, true, true] = (0, 3) from by kernel_rfl] at ka
          have Ka := Lib.hid ka; clear ka
          have kb := fun W vc va hc ha => least_any vc va [⟨false, [], []⟩, ⟨false, [], []⟩, ⟨false, [], []⟩, ⟨true, [], []⟩] [true, true, true] W hc ha (limZ _ (by decide))
          rw [show leastS [⟨false, [], []⟩, ⟨false, [], []⟩, ⟨false, [], []⟩, ⟨true, [], []⟩] [true, true, true] = (0, 16) from by kernel_rfl] at kb
          have Kb := Lib.hid kb; clear kb
          have kc := fun W vc va hc ha => least_any vc va [⟨false, [], []⟩, ⟨false, [], []⟩, ⟨false, [], []⟩, ⟨true, [], []⟩] [false, false, false, false] W hc ha (limZ _ (by decide))
          rw [show leastS [⟨false, [], []⟩, ⟨false, [], []⟩, ⟨false, [], []⟩, ⟨true, [], []⟩] [false, false, false, false] = (0, 2) from by kernel_rfl] at kc
          have Kc := Lib.hid kc; clear kc
          have kd := fun W vc va hc ha => least_any vc va [⟨false, [], []⟩, ⟨false, [], []⟩, ⟨false, [], []⟩, ⟨false, [], []⟩] [false, false, false, false] W hc ha (limZ _ (by decide))
          rw [show leastS [⟨false, [], []⟩, ⟨false, [], []⟩, ⟨false, [], []⟩, ⟨false, [], []⟩] [false, false, false, false] = (0, 9) from by kernel_rfl] at kd
          have Kd := Lib.hid kd; clear kd
          have ke := fun W vl hl => next_any vl fourL 0 0 0 4 W hl (by decide) (by decide)
          rw [show nextS fourL 0 0 0 4 = ((0, 0, 0), 8) from by kernel_rfl] at ke
          dsimp only [memW] at ke
          have Ke := Lib.hid ke; clear ke
          have kf := fun W vl hl => next_any vl fourL 0 (-1) 0 0 W hl (by decide) (by decide)
          rw [show nextS fourL 0 (-1) 0 0 = ((0, 0, 0), 1) from by kernel_rfl] at kf
          dsimp only [memW] at kf
          have Kf := Lib.hid kf; clear kf
          have kg := fun W vl hl => next_any vl fourL 1 1000 100 1 W hl (by decide) (by decide)
          rw [show nextS fourL 1 1000 100 1 = ((1, 1000, 100), 0) from by kernel_rfl] at kg
          dsimp only [memW] at kg
          have Kg := Lib.hid kg; clear kg
          have kh := fun W vl hl => next_any vl fourL 1 1000 100 3 W hl (by decide) (by decide)
          rw [show nextS fourL 1 1000 100 3 = ((3, 0, 100), 0) from by kernel_rfl] at kh
          dsimp only [memW] at kh
          have Kh := Lib.hid kh; clear kh
          have ki := fun W vl hl => next_any vl fourL 1 0 7 0 W hl (by decide) (by decide)
          rw [show nextS fourL 1 0 7 0 = ((0, 0, 0), 0) from by kernel_rfl] at ki
          dsimp only [memW] at ki
          have Ki := Lib.hid ki; clear ki
          have kj := fun W vl hl => next_any vl fourL 0 0 7 2 W hl (by decide) (by decide)
          rw [show nextS fourL 0 0 7 2 = ((2, 0, 0), 0) from by kernel_rfl] at kj
          dsimp only [memW] at kj
          have Kj := Lib.hid kj; clear kj
          have kk := fun W vl vc vm hl hc hm => choose_any vl vc vm fourL 1 0 2 [⟨false, [], []⟩, ⟨false, [], []⟩, ⟨false, [], []⟩, ⟨false, [], []⟩] [false, false, false, true] 2 0 W hl hc hm (limZ _ (by decide)) (by decide) (by decide)
          rw [show chooseS fourL 1 0 2 [⟨false, [], []⟩, ⟨false, [], []⟩, ⟨false, [], []⟩, ⟨false, [], []⟩] [false, false, false, true] 2 0 = ((3, 4, zR), (3, 0, 3), 0) from by kernel_rfl] at kk
          unfold ResC at kk
          dsimp only at kk
          have KK := Lib.hid kk; clear kk
          go_wp2_with fail
          refine (Ka.out _ _ _ (RdRs.nil _ none) RA.out).mono ?_
          rintro e w3 ⟨rfl, hx⟩
          have FB := Lib.hid (FB.out.ext hx); have ZB := Lib.hid (ZB.out.ext hx); have RB := Lib.hid (RB.out.ext hx); have AN := Lib.hid (AN.out.ext hx); have RZ := Lib.hid (RZ.out.ext hx); have RZ3 := Lib.hid (RZ3.out.ext hx); have RA := Lib.hid (RA.out.ext hx); have RA3 := Lib.hid (RA3.out.ext hx); have X := Lib.hid (X.out.trans hx)
          clear hx
          go_wp2_with fail
          refine (Kb.out _ _ _ RB.out RA3.out).mono ?_
          rintro e w4 ⟨rfl, hx⟩
          have FB := Lib.hid (FB.out.ext hx); have ZB := Lib.hid (ZB.out.ext hx); have RB := Lib.hid (RB.out.ext hx); have AN := Lib.hid (AN.out.ext hx); have RZ := Lib.hid (RZ.out.ext hx); have RZ3 := Lib.hid (RZ3.out.ext hx); have RA := Lib.hid (RA.out.ext hx); have RA3 := Lib.hid (RA3.out.ext hx); have X := Lib.hid (X.out.trans hx)
          clear hx
          go_wp2_with (with_reducible refine wpList_make_x rfl _ _ rfl 4 rfl rfl Try.underlying37 Try.infoBo (by decide) (by decide) [.bool false, .bool false, .bool false, .bool false].toArray (by kernel_rfl) ?_)
          refine (Kc.out _ _ _ (RB.out.ext (show Ext w4 _ from by (repeat (first | (with_reducible exact Ext.refl _) | (with_reducible assumption) | (with_reducible refine Ext.alloc ?_ _) | ((with_reducible refine Ext.setp ?_ ?_); focus (dsimp only; omega)) | (with_reducible refine Ext.drew ?_) | (with_reducible refine Ext.drewN ?_ _) | (with_reducible refine Ext.trans ?_ (by assumption)))))) (rdB_blk [false, false, false, false] (Blk.new w4 [.bool false, .bool false, .bool false, .bool false].toArray 4) (by simp))).mono ?_
          rintro e w5 ⟨rfl, hx⟩
          have hx := Ext.trans (show Ext w4 _ from by (repeat (first | (with_reducible exact Ext.refl _) | (with_reducible assumption) | (with_reducible refine Ext.alloc ?_ _) | ((with_reducible refine Ext.setp ?_ ?_); focus (dsimp only; omega)) | (with_reducible refine Ext.drew ?_) | (with_reducible refine Ext.drewN ?_ _) | (with_reducible refine Ext.trans ?_ (by assumption))))) hx
          have FB := Lib.hid (FB.out.ext hx); have ZB := Lib.hid (ZB.out.ext hx); have RB := Lib.hid (RB.out.ext hx); have AN := Lib.hid (AN.out.ext hx); have RZ := Lib.hid (RZ.out.ext hx); have RZ3 := Lib.hid (RZ3.out.ext hx); have RA := Lib.hid (RA.out.ext hx); have RA3 := Lib.hid (RA3.out.ext hx); have X := Lib.hid (X.out.trans hx)
          clear hx
          go_wp2_with (with_reducible refine wpList_make_x rfl _ _ rfl 4 rfl rfl Try.underlying37 Try.infoBo (by decide) (by decide) [.bool false, .bool false, .bool false, .bool false].toArray (by kernel_rfl) ?_)
          refine (Kd.out _ _ _ (RZ.out.ext (show Ext w5 _ from by (repeat (first | (with_reducible exact Ext.refl _) | (with_reducible assumption) | (with_reducible refine Ext.alloc ?_ _) | ((with_reducible refine Ext.setp ?_ ?_); focus (dsimp only; omega)) | (with_reducible refine Ext.drew ?_) | (with_reducible refine Ext.drewN ?_ _) | (with_reducible refine Ext.trans ?_ (by assumption)))))) (rdB_blk [false, false, false, false] (Blk.new w5 [.bool false, .bool false, .bool false, .bool false].toArray 4) (by simp))).mono ?_
          rintro e w6 ⟨rfl, hx⟩
          have hx := Ext.trans (show Ext w5 _ from by (repeat (first | (with_reducible exact Ext.refl _) | (with_reducible assumption) | (with_reducible refine Ext.alloc ?_ _) | ((with_reducible refine Ext.setp ?_ ?_); focus (dsimp only; omega)) | (with_reducible refine Ext.drew ?_) | (with_reducible refine Ext.drewN ?_ _) | (with_reducible refine Ext.trans ?_ (by assumption))))) hx
          have FB := Lib.hid (FB.out.ext hx); have ZB := Lib.hid (ZB.out.ext hx); have RB := Lib.hid (RB.out.ext hx); have AN := Lib.hid (AN.out.ext hx); have RZ := Lib.hid (RZ.out.ext hx); have RZ3 := Lib.hid (RZ3.out.ext hx); have RA := Lib.hid (RA.out.ext hx); have RA3 := Lib.hid (RA3.out.ext hx); have X := Lib.hid (X.out.trans hx)
          clear hx
          go_wp2_with fail
          refine (Ke.out _ _ FB.out).mono ?_
          rintro e w7 ⟨rfl, hx⟩
          have FB := Lib.hid (FB.out.ext hx); have ZB := Lib.hid (ZB.out.ext hx); have RB := Lib.hid (RB.out.ext hx); have AN := Lib.hid (AN.out.ext hx); have RZ := Lib.hid (RZ.out.ext hx); have RZ3 := Lib.hid (RZ3.out.ext hx); have RA := Lib.hid (RA.out.ext hx); have RA3 := Lib.hid (RA3.out.ext hx); have X := Lib.hid (X.out.trans hx)
          clear hx
          go_wp2_with fail
          refine (Kf.out _ _ (FB.out.ext (show Ext w7 _ from by (repeat (first | (with_reducible exact Ext.refl _) | (with_reducible assumption) | (with_reducible refine Ext.alloc ?_ _) | ((with_reducible refine Ext.setp ?_ ?_); focus (dsimp only; omega)) | (with_reducible refine Ext.drew ?_) | (with_reducible refine Ext.drewN ?_ _) | (with_reducible refine Ext.trans ?_ (by assumption))))))).mono ?_
          rintro e w8 ⟨rfl, hx⟩
          have hx := Ext.trans (show Ext w7 _ from by (repeat (first | (with_reducible exact Ext.refl _) | (with_reducible assumption) | (with_reducible refine Ext.alloc ?_ _) | ((with_reducible refine Ext.setp ?_ ?_); focus (dsimp only; omega)) | (with_reducible refine Ext.drew ?_) | (with_reducible refine Ext.drewN ?_ _) | (with_reducible refine Ext.trans ?_ (by assumption))))) hx
          have FB := Lib.hid (FB.out.ext hx); have ZB := Lib.hid (ZB.out.ext hx); have RB := Lib.hid (RB.out.ext hx); have AN := Lib.hid (AN.out.ext hx); have RZ := Lib.hid (RZ.out.ext hx); have RZ3 := Lib.hid (RZ3.out.ext hx); have RA := Lib.hid (RA.out.ext hx); have RA3 := Lib.hid (RA3.out.ext hx); have X := Lib.hid (X.out.trans hx)
          clear hx
          go_wp2_with fail
          refine (Kg.out _ _ (FB.out.ext (show Ext w8 _ from by (repeat (first | (with_reducible exact Ext.refl _) | (with_reducible assumption) | (with_reducible refine Ext.alloc ?_ _) | ((with_reducible refine Ext.setp ?_ ?_); focus (dsimp only; omega)) | (with_reducible refine Ext.drew ?_) | (with_reducible refine Ext.drewN ?_ _) | (with_reducible refine Ext.trans ?_ (by assumption))))))).mono ?_
          rintro e w9 ⟨rfl, hx⟩
          have hx := Ext.trans (show Ext w8 _ from by (repeat (first | (with_reducible exact Ext.refl _) | (with_reducible assumption) | (with_reducible refine Ext.alloc ?_ _) | ((with_reducible refine Ext.setp ?_ ?_); focus (dsimp only; omega)) | (with_reducible refine Ext.drew ?_) | (with_reducible refine Ext.drewN ?_ _) | (with_reducible refine Ext.trans ?_ (by assumption))))) hx
          have FB := Lib.hid (FB.out.ext hx); have ZB := Lib.hid (ZB.out.ext hx); have RB := Lib.hid (RB.out.ext hx); have AN := Lib.hid (AN.out.ext hx); have RZ := Lib.hid (RZ.out.ext hx); have RZ3 := Lib.hid (RZ3.out.ext hx); have RA := Lib.hid (RA.out.ext hx); have RA3 := Lib.hid (RA3.out.ext hx); have X := Lib.hid (X.out.trans hx)
          clear hx
          go_wp2_with fail
          have bb0 := (Blk.new w9 #[.int .i64 1, .int .i64 1000, .int .i64 100] 61)
          have hx : Ext w9 (w9.alloc (.cells #[.int .i64 1, .int .i64 1000, .int .i64 100] 61)) := ((Ext.refl w9).alloc _)
          obtain ⟨w110, hw110⟩ : ∃ W, W = (w9.alloc (.cells #[.int .i64 1, .int .i64 1000, .int .i64 100] 61)) := ⟨_, rfl⟩
          rw [← hw110] at hx bb0 ⊢; clear hw110
          obtain ⟨Mgn, hMgn⟩ : ∃ n, n = w9.heap.size := ⟨_, rfl⟩
          rw [← hMgn] at bb0 ⊢; clear hMgn
          have FB := Lib.hid (FB.out.ext hx); have ZB := Lib.hid (ZB.out.ext hx); have RB := Lib.hid (RB.out.ext hx); have AN := Lib.hid (AN.out.ext hx); have RZ := Lib.hid (RZ.out.ext hx); have RZ3 := Lib.hid (RZ3.out.ext hx); have RA := Lib.hid (RA.out.ext hx); have RA3 := Lib.hid (RA3.out.ext hx); have X := Lib.hid (X.out.trans hx)
          clear hx
          have Mg := Lib.hid bb0; clear bb0
          refine (Kh.out _ _ FB.out).mono ?_
          rintro e w11 ⟨rfl, hx⟩
          have FB := Lib.hid (FB.out.ext hx); have ZB := Lib.hid (ZB.out.ext hx); have RB := Lib.hid (RB.out.ext hx); have AN := Lib.hid (AN.out.ext hx); have RZ := Lib.hid (RZ.out.ext hx); have RZ3 := Lib.hid (RZ3.out.ext hx); have RA := Lib.hid (RA.out.ext hx); have RA3 := Lib.hid (RA3.out.ext hx); have Mg := Lib.hid (Mg.out.ext hx); have X := Lib.hid (X.out.trans hx)
          clear hx
          go_wp2_with fail
          have bb0 := (Blk.new w11 #[.int .i64 3, .int .i64 0, .int .i64 100] 61)
          have hx : Ext w11 (w11.alloc (.cells #[.int .i64 3, .int .i64 0, .int .i64 100] 61)) := ((Ext.refl w11).alloc _)
          obtain ⟨w112, hw112⟩ : ∃ W, W = (w11.alloc (.cells #[.int .i64 3, .int .i64 0, .int .i64 100] 61)) := ⟨_, rfl⟩
          rw [← hw112] at hx bb0 ⊢; clear hw112
          obtain ⟨Mhn, hMhn⟩ : ∃ n, n = w11.heap.size := ⟨_, rfl⟩
          rw [← hMhn] at bb0 ⊢; clear hMhn
          have FB := Lib.hid (FB.out.ext hx); have ZB := Lib.hid (ZB.out.ext hx); have RB := Lib.hid (RB.out.ext hx); have AN := Lib.hid (AN.out.ext hx); have RZ := Lib.hid (RZ.out.ext hx); have RZ3 := Lib.hid (RZ3.out.ext hx); have RA := Lib.hid (RA.out.ext hx); have RA3 := Lib.hid (RA3.out.ext hx); have Mg := Lib.hid (Mg.out.ext hx); have X := Lib.hid (X.out.trans hx)
          clear hx
          have Mh := Lib.hid bb0; clear bb0
          refine (Ki.out _ _ FB.out).mono ?_
          rintro e w13 ⟨rfl, hx⟩
          have FB := Lib.hid (FB.out.ext hx); have ZB := Lib.hid (ZB.out.ext hx); have RB := Lib.hid (RB.out.ext hx); have AN := Lib.hid (AN.out.ext hx); have RZ := Lib.hid (RZ.out.ext hx); have RZ3 := Lib.hid (RZ3.out.ext hx); have RA := Lib.hid (RA.out.ext hx); have RA3 := Lib.hid (RA3.out.ext hx); have Mg := Lib.hid (Mg.out.ext hx); have Mh := Lib.hid (Mh.out.ext hx); have X := Lib.hid (X.out.trans hx)
          clear hx
          go_wp2_with fail
          have bb0 := (Blk.new w13 #[.int .i64 0, .int .i64 0, .int .i64 0] 61)
          have hx : Ext w13 (w13.alloc (.cells #[.int .i64 0, .int .i64 0, .int .i64 0] 61)) := ((Ext.refl w13).alloc _)
          obtain ⟨w114, hw114⟩ : ∃ W, W = (w13.alloc (.cells #[.int .i64 0, .int .i64 0, .int .i64 0] 61)) := ⟨_, rfl⟩
          rw [← hw114] at hx bb0 ⊢; clear hw114
          obtain ⟨Min, hMin⟩ : ∃ n, n = w13.heap.size := ⟨_, rfl⟩
          rw [← hMin] at bb0 ⊢; clear hMin
          have FB := Lib.hid (FB.out.ext hx); have ZB := Lib.hid (ZB.out.ext hx); have RB := Lib.hid (RB.out.ext hx); have AN := Lib.hid (AN.out.ext hx); have RZ := Lib.hid (RZ.out.ext hx); have RZ3 := Lib.hid (RZ3.out.ext hx); have RA := Lib.hid (RA.out.ext hx); have RA3 := Lib.hid (RA3.out.ext hx); have Mg := Lib.hid (Mg.out.ext hx); have Mh := Lib.hid (Mh.out.ext hx); have X := Lib.hid (X.out.trans hx)
          clear hx
          have Mi := Lib.hid bb0; clear bb0
          refine (Kj.out _ _ FB.out).mono ?_
          rintro e w15 ⟨rfl, hx⟩
          have FB := Lib.hid (FB.out.ext hx); have ZB := Lib.hid (ZB.out.ext hx); have RB := Lib.hid (RB.out.ext hx); have AN := Lib.hid (AN.out.ext hx); have RZ := Lib.hid (RZ.out.ext hx); have RZ3 := Lib.hid (RZ3.out.ext hx); have RA := Lib.hid (RA.out.ext hx); have RA3 := Lib.hid (RA3.out.ext hx); have Mg := Lib.hid (Mg.out.ext hx); have Mh := Lib.hid (Mh.out.ext hx); have Mi := Lib.hid (Mi.out.ext hx); have X := Lib.hid (X.out.trans hx)
          clear hx
          go_wp2_with fail
          have bb0 := ((Blk.new w15 #[.int .i64 2, .int .i64 0, .int .i64 0] 61).alloc (.cells #[.bool false, .bool false, .bool false, .bool true] 4))
          have bb1 := (Blk.new (w15.alloc (.cells #[.int .i64 2, .int .i64 0, .int .i64 0] 61)) #[.bool false, .bool false, .bool false, .bool true] 4)
          rw [World.size_alloc] at bb1
          have hx : Ext w15 ((w15.alloc (.cells #[.int .i64 2, .int .i64 0, .int .i64 0] 61)).alloc (.cells #[.bool false, .bool false, .bool false, .bool true] 4)) := (((Ext.refl w15).alloc _).alloc _)
          obtain ⟨w116, hw116⟩ : ∃ W, W = ((w15.alloc (.cells #[.int .i64 2, .int .i64 0, .int .i64 0] 61)).alloc (.cells #[.bool false, .bool false, .bool false, .bool true] 4)) := ⟨_, rfl⟩
          rw [← hw116] at hx bb0 bb1 ⊢; clear hw116
          obtain ⟨CMn, hCMn⟩ : ∃ n, n = w15.heap.size + 1 := ⟨_, rfl⟩
          rw [← hCMn] at bb1 ⊢; clear hCMn
          obtain ⟨Mjn, hMjn⟩ : ∃ n, n = w15.heap.size := ⟨_, rfl⟩
          rw [← hMjn] at bb0 ⊢; clear hMjn
          have FB := Lib.hid (FB.out.ext hx); have ZB := Lib.hid (ZB.out.ext hx); have RB := Lib.hid (RB.out.ext hx); have AN := Lib.hid (AN.out.ext hx); have RZ := Lib.hid (RZ.out.ext hx); have RZ3 := Lib.hid (RZ3.out.ext hx); have RA := Lib.hid (RA.out.ext hx); have RA3 := Lib.hid (RA3.out.ext hx); have Mg := Lib.hid (Mg.out.ext hx); have Mh := Lib.hid (Mh.out.ext hx); have Mi := Lib.hid (Mi.out.ext hx); have X := Lib.hid (X.out.trans hx)
          clear hx
          have Mj := Lib.hid bb0; clear bb0
          have CM := Lib.hid bb1; clear bb1
          refine (KK.out _ _ _ _ FB.out RZ.out (rdB_blk [false, false, false, true] CM.out (by simp))).mono ?_
          rintro e w17 ⟨⟨vn, vd, rfl, nn1, nn2⟩, hx⟩
          have FB := Lib.hid (FB.out.ext hx); have ZB := Lib.hid (ZB.out.ext hx); have RB := Lib.hid (RB.out.ext hx); have AN := Lib.hid (AN.out.ext hx); have RZ := Lib.hid (RZ.out.ext hx); have RZ3 := Lib.hid (RZ3.out.ext hx); have RA := Lib.hid (RA.out.ext hx); have RA3 := Lib.hid (RA3.out.ext hx); have Mg := Lib.hid (Mg.out.ext hx); have Mh := Lib.hid (Mh.out.ext hx); have Mi := Lib.hid (Mi.out.ext hx); have Mj := Lib.hid (Mj.out.ext hx); have CM := Lib.hid (CM.out.ext hx); have X := Lib.hid (X.out.trans hx)
          obtain ⟨s1, s2, rfl⟩ := nn1.shape; obtain ⟨s3, s4, rfl⟩ := nn2.shape
          clear nn1 nn2 hx
          have hNg : ∀ W, (binOp .eql 61 (.agg #[.int .i64 1, .int .i64 1000, .int .i64 100]) (.agg #[.int .i64 1, .int .i64 1000, .int .i64 100])).run Try.prog W = .ok (.bool true) W := fun W => by go_simp
          have hNh : ∀ W, (binOp .eql 61 (.agg #[.int .i64 3, .int .i64 0, .int .i64 100]) (.agg #[.int .i64 3, .int .i64 0, .int .i64 100])).run Try.prog W = .ok (.bool true) W := fun W => by go_simp
          have hNi : ∀ W, (binOp .eql 61 (.agg #[.int .i64 0, .int .i64 0, .int .i64 0]) (.agg #[.int .i64 0, .int .i64 0, .int .i64 0])).run Try.prog W = .ok (.bool true) W := fun W => by go_simp
          have hNj : ∀ W, (binOp .eql 61 (.agg #[.int .i64 2, .int .i64 0, .int .i64 0]) (.agg #[.int .i64 2, .int .i64 0, .int .i64 0])).run Try.prog W = .ok (.bool true) W := fun W => by go_simp
          have hNk : ∀ W, (binOp .eql 61 (.agg #[.int .i64 3, .int .i64 0, .int .i64 3]) (.agg #[.int .i64 3, .int .i64 0, .int .i64 3])).run Try.prog W = .ok (.bool true) W := fun W => by go_simp
          have qMg := Mg.out.cell; have fMg := Mg.out.free; have lMg := Mg.out.lt; have qMh := Mh.out.cell; have fMh := Mh.out.free; have lMh := Mh.out.lt; have qMi := Mi.out.cell; have fMi := Mi.out.free; have lMi := Mi.out.lt; have qMj := Mj.out.cell; have fMj := Mj.out.free; have lMj := Mj.out.lt
          go_wp2_with fail
          go_ret
          exact ⟨rfl, by have := X.out; (repeat (first | (with_reducible exact Ext.refl _) | (with_reducible assumption) | (with_reducible refine Ext.alloc ?_ _) | ((with_reducible refine Ext.setp ?_ ?_); focus (dsimp only; omega)) | (with_reducible refine Ext.drew ?_) | (with_reducible refine Ext.drewN ?_ _) | (with_reducible refine Ext.trans ?_ (by assumption))))⟩

end Go.Proofs.Ytcmemdmfnflfiaa
