/- Laws on make, copy and append for rows of limbs; slices.Clone. Conditions: lengths that fit. -/
import Derived.Test.YtoicjiiifffciaaBigK
import Derived.Laws.CopyOwn
import Derived.Laws.AppendOwnNone
namespace Go.Proofs.Ytoicjiiifffciaa
set_option linter.unusedSimpArgs false
set_option linter.unusedVariables false
open Go.RowKit

theorem RowU.of_own {w : World} {B g cap n : Nat} {l : List Int} (h : w.ownsRow B 50 1 (.slice (some ⟨g, 0, none⟩) n cap) n (l.map (Value.int .u32))) (hl : l.length = n) : RowU w g cap l := by
  rcases h.2 with ⟨h1, _⟩ | ⟨g', cap', cur, he, hb, hg, hn, hm, hs, ht⟩
  · cases h1
  · injection he with e1 _ e3
    injection e1 with e1
    injection e1 with e1
    subst e1; subst e3
    exact ⟨⟨cur, hg, by omega, by rw [hl]; rw [Nat.mul_one] at ht; exact ht⟩, by omega, by unfold maxLen at hm; omega⟩

theorem map_zeros (n : Nat) : (List.replicate n (0 : Int)).map (Value.int .u32) = List.replicate n (.int .u32 0) := by rw [List.map_replicate]
theorem made_zeros (n : Nat) : (madeCells (Value.int .u32 0).cells (n * 1)).toList = (List.replicate n (0 : Int)).map (Value.int .u32) := by
  rw [map_zeros, Nat.mul_one]
  apply List.ext_getElem
  · simp [madeCells]
  · intro i h1 h2
    simp [madeCells, Value.cells, Nat.mod_one]

/-- 'make(api.Nat, n)'. -/
theorem wpList_make_u {w : World} {ops : Array Oper} {rest : List Oper} {o : Oper} {a : Act} {Q : Exit → Act → World → Prop}
    (hg : o.guard = none) (l c : Operand) (hop : o.op = Op.makeSlice 23 l c) (L C : Int) (n : Nat) (hl : a.eval l = .int .i64 L) (hc : a.eval c = .int .i64 C) (hL : L = (n : Int)) (hC : C = (n : Int)) (hn : n ≤ 1000000000)
    (hK : ∀ w', RowU w' w.heap.size n (List.replicate n 0) → Ext w w' → w'.heap.size = w.heap.size + 1 → wpList Try.prog ops Q rest (a.put o.dst (.slice (some ⟨w.heap.size, 0, none⟩) n n)) w') :
    wpList Try.prog ops Q (o :: rest) a w := by
  obtain ⟨i0, hi, hz0, hz1, hz2⟩ := info_parts Try.infoU
  have h63' : (n : Int) ≤ 9223372036854775807 := by omega
  have hr := run_make (P := Try.prog) w 23 50 i0 (.int .u32 0) Try.underlying23 hi hz0 .i64 .i64 n n (by omega) (Int.le_refl _) (by rw [hz2]; omega) h63'
  simp only [Int.toNat_natCast, hz1] at hr
  refine wpList_plain hg fun K hK' => ?_
  subst hL
  subst hC
  unfold Oper.wp
  simp only [execOp, hop, hl, hc]
  have hr2 := hr
  simp [hr2, Result.andThen]
  refine hK' _ _ (hK _ ?_ ((Ext.refl w).alloc _) (by simp))
  refine ⟨⟨_, Blk.new w _ _, ?_, ?_⟩, by simp, by omega⟩
  · have := size_madeCells (Value.int .u32 0).cells (n * 1); simpa using this
  · have e := made_zeros n
    rw [List.length_replicate]
    rw [← e, Nat.mul_one]
    apply List.take_of_length_le
    rw [Array.length_toList, size_madeCells]; exact Nat.le_refl _

theorem splice0 {α : Type} (L cs : List α) : splice L 0 cs = cs ++ L.drop cs.length := by simp [splice]

/-- 'copy(d, s)' into a whole new row: the newest block. -/
theorem wpList_copy_u {w : World} {ops : Array Oper} {rest : List Oper} {o : Oper} {a : Act} {Q : Exit → Act → World → Prop} (hgd : o.guard = none) (d s : Operand)
    (ho : o.op = .call { callee := .builtin .copy, args := #[d, s], argTypes := #[23, 23] }) (g cap : Nat) (l ls : List Int) (vs : Value)
    (hd : a.eval d = .slice (some ⟨g, 0, none⟩) l.length cap) (hs : a.eval s = vs) (hrow : RowU w g cap l) (hrd : RdI .u32 w vs ls) (hle : ls.length ≤ l.length) (hlast : w.heap.size = g + 1)
    (h : ∀ w', RowU w' g cap (ls ++ l.drop ls.length) → Gr (some g) w w' → wpList Try.prog ops Q rest (a.put o.dst (goInt ls.length)) w') :
    wpList Try.prog ops Q (o :: rest) a w := by
  obtain ⟨aS, cs, rfl, hc2, hm2, hr⟩ := rdU hrd
  obtain ⟨cur, hb, hsz, ht⟩ := hrow.blk
  have hlec := hrow.le
  have hcl : cur.toList.length = cap := hsz
  refine wpList_copy_splice hgd d s 23 23 ho 50 Try.underlying23 (by kernel_rfl) (some ⟨g, 0, none⟩) aS l.length cap ls.length cs hd hs g 0 cur.toList 50 (by rw [Array.toArray_toList]; exact hb) (ls.map (Value.int .u32)) (by rw [List.length_map]; exact (Nat.min_eq_left hle).symm)
    (fun h0 => ?_) (by rw [List.length_map, hcl]; omega) (fun v hv => by obtain ⟨x, _, rfl⟩ := List.mem_map.1 hv; rfl) g w (Below.refl _ _) (Nat.le_refl _) ?_
  · rw [List.length_map] at h0
    obtain ⟨b, off, rfl, hb0, _⟩ := hr 0 h0
    refine ⟨rfl, ⟨b, off, none⟩, rfl, fun j v hj => ?_⟩
    have hjl : j < ls.length := by have := (List.getElem?_eq_some_iff.1 hj).1; simpa using this
    obtain ⟨b2, off2, e, _, hx⟩ := hr j hjl
    injection e with e
    injection e with e1 e2
    subst e1; subst e2
    rw [Go.WideShapes.add_plain, hx]
    rw [List.getElem?_map, List.getElem?_eq_getElem hjl] at hj
    rw [List.getD_eq_getElem?_getD, List.getElem?_eq_getElem hjl]
    exact hj
  · intro w' hh hbel
    rw [List.length_map]
    refine h w' ⟨⟨_, hh.out, ?_, ?_⟩, by simp; omega, hrow.most⟩ ⟨hbel.os, hbel.tape, hbel.output, hbel.size, fun k hk hn => hbel.block k (by have : k ≠ g := fun e => hn (by rw [e]); omega)⟩
    · rw [List.size_toArray, length_splice _ _ _ (by rw [List.length_map, hcl]; omega)]; exact hcl
    · rw [splice0, List.length_append, List.length_drop, List.map_append, List.map_drop, ← ht, List.drop_take, List.length_map]
      show List.take _ (_ ++ _) = _
      rw [List.take_append, List.length_map, List.take_of_length_le (by rw [List.length_map]; omega), show ls.length + (l.length - ls.length) - ls.length = l.length - ls.length by omega]

theorem cloneNil_any (n c : Nat) (w : World) :
    Calls Try.prog 41 #[.slice none n c] w fun e w' => e = .returned (.slice none 0 0) ∧ Ext w w' := by
  have hq := fun W => Lib.run_eql_slice_nil (P := Try.prog) W 23 50 none n c 0 0 Try.underlying23
  go_enter Try.func41, Try.ntmps41
  go_wp2
  go_ret
  exact ⟨rfl, by (repeat (first | (with_reducible exact Ext.refl _) | (with_reducible assumption) | (with_reducible refine Ext.alloc ?_ _) | ((with_reducible refine Ext.setp ?_ ?_); focus (dsimp only; omega)) | (with_reducible refine Ext.drew ?_) | (with_reducible refine Ext.drewN ?_ _) | (with_reducible refine Ext.trans ?_ (by assumption))))⟩

theorem empty_row (w : World) : w.ownsRow 0 50 1 (.slice none 0 0) 0 [] := World.ownsRow_nil _ _ _ _

set_option maxHeartbeats 400000 in
theorem cloneSome_any (p : Addr) (c : Nat) (l : List Int) (w : World) (h : RdI .u32 w (.slice (some p) l.length c) l) (hs : l.length ≤ 1000000000) :
    Calls Try.prog 41 #[.slice (some p) l.length c] w fun e w' => (∃ v, e = .returned v ∧ NewV w w' v l) ∧ Ext w w' := by
  obtain ⟨a1, c1, he, hc1, hm1, hr⟩ := rdU h
  injection he with he _ hce
  subst hce
  have hq := fun W => Lib.run_eql_slice_nil (P := Try.prog) W 23 50 (some p) l.length c 0 0 Try.underlying23
  have H := Lib.hid hr; have HP := Lib.hid he
  clear h hr he
  go_enter Try.func41, Try.ntmps41
  obtain ⟨i0, hi, hz0, hz1, hz2⟩ := info_parts Try.infoU
  go_wp2_with (at_builtin; (refine wpList_append_own _ rfl _ _ 23 rfl w.heap.size 50 i0 (.int .u32 0) 1 4 Try.underlying23 hi hz0 hz1 hz2 rfl (by decide) _ _ _ rfl (World.ownsRow_made (base := w.heap.size) (e := 50) (size := 1) w #[] 0 (Nat.le_refl _) (by decide) rfl) p l.length c (l.map (Value.int .u32)) rfl (by simp) ?c1 ?c2 ?c3 ?c4 ?c5 ?_))
  case c1 =>
    intro j u hj
    have hjl : j < l.length := (List.getElem?_eq_some_iff.1 hj).1
    obtain ⟨b, off, e, hb, hx⟩ := H.out j hjl
    have hp := HP.out
    rw [e] at hp
    injection hp with hp
    subst hp
    rw [Go.WideShapes.add_plain]
    have : (w.alloc (.cells #[] 50)).cell? ⟨b, off + j, none⟩ = w.cell? ⟨b, off + j, none⟩ := ((Ext.refl w).alloc _).cell (p := ⟨b, off + j, none⟩) hb
    rw [this, hx, List.getD_eq_getElem?_getD, hj]; rfl
  case c2 => intro u hu; rfl
  case c3 => unfold maxLen; omega
  case c4 => omega
  intro v' w1 hown hgr _
  have hx : Ext w w1 := by
    have h1 : Gr none w (w.alloc (.cells #[] 50)) := (Gr.refl _ w).alloc _
    exact (h1.fresh hgr (fun g hg => by right; simp [Value.ownBlock] at hg; omega)).ext
  have HO := Lib.hid (NewV.of_own hown); have HX := Lib.hid hx
  clear hown hgr hx
  go_wp2
  go_ret
  exact ⟨⟨_, rfl, HO.out⟩, HX.out⟩

/-- slices.Clone. -/
theorem clone_any (v : Value) (l : List Int) (w : World) (h : RdI .u32 w v l) (hs : l.length ≤ 1000000000) :
    Calls Try.prog 41 #[v] w fun e w' => (∃ v, e = .returned v ∧ NewV w w' v l) ∧ Ext w w' := by
  obtain ⟨a, c, rfl, hc, hm, hr⟩ := rdU h
  cases a with
  | none =>
    have e : l = [] := by
      cases l with
      | nil => rfl
      | cons x xs => obtain ⟨b, off, e, _⟩ := hr 0 (by simp); cases e
    subst e
    exact (cloneNil_any _ _ w).mono fun e w' ⟨he, hx⟩ => ⟨⟨_, he, NewV.nil _ _⟩, hx⟩
  | some p => exact cloneSome_any p c l w h hs

end Go.Proofs.Ytoicjiiifffciaa
