/- More words on memory: an owned row in a later world. Conditions: none. -/
import Derived.Test.YtoicjiiifffciaaBase
import Derived.Test.YtoicjiiifffciaaReg
namespace Go.Proofs.Ytoicjiiifffciaa
set_option linter.unusedSimpArgs false
set_option linter.unusedVariables false
open Go.RowKit

theorem own_ext {w w' : World} {B : Nat} {e : TypeId} {size : Nat} {v : Value} {n : Nat} {xs : List Value} (h : w.ownsRow B e size v n xs) (x : Ext w w') : w'.ownsRow B e size v n xs := by
  refine ⟨h.1, ?_⟩
  rcases h.2 with hn | ⟨g, cap, cur, rfl, hb, hg, rest⟩
  · exact .inl hn
  · exact .inr ⟨g, cap, cur, rfl, hb, (x.block g (Array.getElem?_eq_some_iff.1 hg).1).trans hg, rest⟩

/-- .. a row that is owned from B on is owned from every smaller number on. -/
theorem own_mono {w : World} {B B' : Nat} {e : TypeId} {size : Nat} {v : Value} {n : Nat} {xs : List Value} (h : w.ownsRow B e size v n xs) (hB : B' ≤ B) : w.ownsRow B' e size v n xs := by
  refine ⟨h.1, ?_⟩
  rcases h.2 with hn | ⟨g, cap, cur, rfl, hb, hg, rest⟩
  · exact .inl hn
  · exact .inr ⟨g, cap, cur, rfl, Nat.le_trans hB hb, hg, rest⟩

theorem own_setBelow {w : World} {B : Nat} {e : TypeId} {size : Nat} {v : Value} {n : Nat} {xs : List Value} (h : w.ownsRow B e size v n xs) {a : Addr} (ha : a.block < B) (u : Value) : (w.setCell a u).ownsRow B e size v n xs := ownsRow_setCell_below h ha u

/-- 'append(s, x)' of one element: x lies in the newest block, whose number is g0. -/
theorem wpList_append_at {P : Program} (W : World) (g0 : Nat) (hg0 : W.heap.size = g0) {ops : Array Oper} {rest : List Oper} {o : Oper} {a : Act} {Q : Exit → Act → World → Prop} (hgd : o.guard = none) (s x : Operand) (t : TypeId)
    (ho : o.op = .call { callee := .builtin .append, args := #[s, x], argTypes := #[t, t] })
    (B : Nat) (e : TypeId) (z : Value) (size bytes : Nat) (ht : P.underlying t = some (.slice e)) (hinfo : (P.info? e).map (fun i => (i.zero, i.size, i.bytes)) = some (some z, size, bytes))
    (hzs : z.cells.size = size) (hsz : 0 < size) (v : Value) (n : Nat) (xs : List Value) (hown : W.ownsRow B e size v n xs) (hs : a.eval s = v)
    (cs : List Value) (hcs : cs.length = size) (h1c : ∀ u ∈ cs, u.oneCell' = true) (hx : a.eval x = .slice (some ⟨g0, 0, none⟩) 1 1)
    (h63 : n + 1 ≤ 9223372036854775807) (hbytes : (n + 1) * bytes ≤ 140737488355328) (hB : B ≤ g0)
    (h : ∀ g cap w', w'.ownsRow B e size (.slice (some ⟨g, 0, none⟩) (n + 1) cap) (n + 1) (xs ++ cs) → Below B W w' → wpList P ops Q rest (a.put o.dst (.slice (some ⟨g, 0, none⟩) (n + 1) cap)) w') :
    wpList P ops Q (o :: rest) a (W.alloc (.cells cs.toArray e)) := by
  subst hg0
  exact wpList_append_new W hgd s x t ho B e z size bytes ht hinfo hzs hsz v n xs hown hs cs hcs h1c hx h63 hbytes hB h

/-- An owned row of one-cell elements reads as a slice. -/
theorem own_rd {w : World} {B : Nat} {e : TypeId} {v : Value} {l : List Value} (h : w.ownsRow B e 1 v l.length l) : Rd w v l := by
  rcases h.2 with ⟨rfl, h0⟩ | ⟨g, cap, cur, rfl, hb, hg, hn, hm, hs, ht⟩
  · exact ⟨none, 0, by rw [h0], by omega, by omega, fun i hi => by omega⟩
  · refine ⟨_, cap, rfl, hn, by unfold maxLen at hm; omega, fun i hi => ⟨g, 0, rfl, (Array.getElem?_eq_some_iff.1 hg).1, ?_⟩⟩
    rw [Nat.zero_add]
    have hc : w.cell? ⟨g, i, none⟩ = cur[i]? := by simp [World.cell?, hg]
    rw [hc]
    have hi' : i < (cur.toList.take (l.length * 1)).length := by rw [ht]; exact hi
    have e1 : (cur.toList.take (l.length * 1))[i]? = l[i]? := by rw [ht]
    rw [← e1, List.getElem?_take_of_lt (by omega), Array.getElem?_toList]

/-- .. of n-cell elements. -/
theorem own_rdN {w : World} {B : Nat} {e : TypeId} {m : Nat} {v : Value} {l : List (List Value)} (h : w.ownsRow B e m v l.length l.flatten) (hl : ∀ x ∈ l, x.length = m) : RdN m w v l := by
  rcases h.2 with ⟨rfl, h0⟩ | ⟨g, cap, cur, rfl, hb, hg, hn, hm, hs, ht⟩
  · exact ⟨none, 0, by rw [h0], by omega, by omega, fun i hi => by omega⟩
  · refine ⟨_, cap, rfl, hn, by unfold maxLen at hm; omega, fun i hi => ⟨g, 0, rfl, (Array.getElem?_eq_some_iff.1 hg).1, fun j hj => ?_⟩⟩
    rw [Nat.zero_add]
    have hc : w.cell? ⟨g, i * m + j, none⟩ = cur[i * m + j]? := by simp [World.cell?, hg]
    rw [hc]
    have hlt : i * m + j < l.length * m := by
      have : (i + 1) * m ≤ l.length * m := Nat.mul_le_mul_right _ hi
      rw [Nat.add_mul, Nat.one_mul] at this
      omega
    have e1 : (cur.toList.take (l.length * m))[i * m + j]? = l.flatten[i * m + j]? := by rw [ht]
    rw [List.getElem?_take_of_lt hlt, Array.getElem?_toList] at e1
    rw [e1]
    clear e1 hc ht hs hg hn hm hlt h
    induction l generalizing i with
    | nil => simp at hi
    | cons x r ih =>
      have hx : x.length = m := hl x (by simp)
      cases i with
      | zero =>
        rw [List.flatten_cons, Nat.zero_mul, Nat.zero_add, List.getElem?_append_left (by omega)]
        simp
      | succ i =>
        rw [List.flatten_cons, Nat.add_mul, Nat.one_mul, List.getElem?_append_right (by omega), hx,
          show i * m + m + j - m = i * m + j by omega]
        have := ih (fun y hy => hl y (by simp [hy])) i (by simpa using hi)
        simpa using this

end Go.Proofs.Ytoicjiiifffciaa
