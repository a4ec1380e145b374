/- Part of the proof of imatL_holds: what the row needs of AppB. Conditions: as each theorem states. -/
import Derived.Test.YthkfkfbfblppeaaGreatSwOwRows
namespace Go.Proofs.YthkfkfbfblppeaaGreat
set_option linter.unusedSimpArgs false
set_option linter.unusedVariables false
open Go.RowKit
theorem wpList_append_rowB {P : Program} (W : World) {ops : Array Oper} {rest : List Oper} {o : Oper} {a : Act} {Q : Exit → Act → World → Prop} (hgd : o.guard = none) (s x : Operand) (t : TypeId)
    (ho : o.op = .call { callee := .builtin .append, args := #[s, x], argTypes := #[t, t] })
    (B : Nat) (e : TypeId) (z : Value) (size bytes : Nat) (ht : P.underlying t = some (.slice e)) (hinfo : (P.info? e).map (fun i => (i.zero, i.size, i.bytes)) = some (some z, size, bytes))
    (hzs : z.cells.size = size) (hsz : 0 < size) {α : Type} {El : World → List Value → α → Prop} (hEl : ∀ w w' h y, El w h y → Keeps B e w w' → El w' h y) (v : Value) (l : List α) (hown : OwRow e size El B W v l) (hs : a.eval s = v)
    (cs : List Value) (hcs : cs.length = size) (h1c : ∀ u ∈ cs, u.oneCell' = true) (y : α) (hy : El W cs y) (bn : Nat) (hbn : Blk W bn cs.toArray e) (hx : a.eval x = .slice (some ⟨bn, 0, none⟩) 1 1)
    (h63 : l.length + 1 ≤ 9223372036854775807) (hbytes : (l.length + 1) * bytes ≤ 140737488355328) (hB : B ≤ W.heap.size)
    (h : ∀ g cap w', OwRow e size El B w' (.slice (some ⟨g, 0, none⟩) (l.length + 1) cap) (l ++ [y]) → Keeps B e W w' → wpList P ops Q rest (a.put o.dst (.slice (some ⟨g, 0, none⟩) (l.length + 1) cap)) w') :
    wpList P ops Q (o :: rest) a W := by
  obtain ⟨i0, hi, hz0, hz1, hz2⟩ := info_parts hinfo
  obtain ⟨hs0, h1, h2, h3, h4⟩ := hown
  refine wpList_append_own _ hgd s x t ho B e i0 z size bytes ht hi hz0 hz1 hz2 hzs hsz v l.length hs0.flatten hs h1 ⟨bn, 0, none⟩ 1 1 cs hx (by simp [hcs]) ?_ h1c (by unfold maxLen; omega) hbytes hB ?_
  · intro j u hj
    have hlt : j < cs.length := (List.getElem?_eq_some_iff.1 hj).1
    have hadd : (⟨bn, 0, none⟩ : Addr).add j = ⟨bn, j, none⟩ := by unfold Addr.add; split <;> simp_all
    rw [hadd, hbn.cell]
    simpa using hj
  · intro v' w' hown' hgrow _
    have hk : Keeps B e W w' := by
      refine ⟨⟨hgrow.os, hgrow.tape, hgrow.output, hgrow.size, fun i hi => by omega⟩, fun i hi ho => hgrow.block i hi ?_⟩
      intro heq
      rcases h1.2 with ⟨rfl, _⟩ | ⟨g, cap, cur, rfl, hb, hg, _⟩
      · simp [Value.ownBlock] at heq
      · simp [Value.ownBlock] at heq
        subst heq
        have hg2 : Blk W i cur e := hg
        rcases ho with ho | ⟨c2, u, h5, h6⟩
        · omega
        · unfold Blk at hg2 h5
          rw [hg2] at h5
          injection h5 with h5
          injection h5 with _ h7
          exact h6 h7.symm
    have hrow : OwRow e size El B w' v' (l ++ [y]) := by
      refine ⟨hs0 ++ [cs], ?_, by simp [h2], ?_, ?_⟩
      · rw [List.flatten_append, List.length_append]; simpa using hown'
      · intro q hq
        rcases List.mem_append.1 hq with hq | hq
        · exact h3 q hq
        · rw [List.mem_singleton.1 hq]; exact hcs
      · intro i x0 hi0
        by_cases hlt : i < l.length
        · rw [List.getElem?_append_left hlt] at hi0
          obtain ⟨q, e1, e2⟩ := h4 i x0 hi0
          exact ⟨q, by rw [List.getElem?_append_left (by omega)]; exact e1, hEl _ _ _ _ e2 hk⟩
        · have hil : i = l.length := by
            have := (List.getElem?_eq_some_iff.1 hi0).1
            simp at this; omega
          subst hil
          rw [List.getElem?_append_right (Nat.le_refl _)] at hi0
          simp at hi0
          subst hi0
          exact ⟨cs, by rw [List.getElem?_append_right (by omega), h2]; simp, hEl _ _ _ _ hy hk⟩
    have h5 := hown'.2
    rcases h5 with ⟨_, h0⟩ | ⟨g, cap, cur, rfl, _⟩
    · omega
    · exact h g cap w' hrow hk
end Go.Proofs.YthkfkfbfblppeaaGreat
