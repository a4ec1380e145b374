/- Overwriting of rows of booleans: what is kept. Conditions: a row of the call's own. -/
import Derived.Test.YthkfkfbfblppeaaGreatBoolS
import Derived.Test.YthkfkfbfblppeaaGreatOvU
namespace Go.Proofs.YthkfkfbfblppeaaGreat
set_option linter.unusedSimpArgs false
set_option linter.unusedVariables false
open Go.RowKit

theorem WrU.keeps {A C : Nat} {t : TypeId} {W W' : World} {v : Value} {n : Nat} (h : WrU W A v n) (k : Keeps C t W W') (ht : 206 ≠ t) : WrU W' A v n := by
  rcases h with h | ⟨g, c, h1, ⟨cur, h2, h3⟩, h4⟩
  · exact .inl h
  · exact .inr ⟨g, c, h1, ⟨cur, h2.keeps k ht, h3⟩, h4⟩

set_option maxHeartbeats 1000000 in
theorem overBools_any (v : Value) (l : List Bool) (B : Nat) (w : World) (h : OwBo w B v l) :
    Calls Tryz.prog 41 #[v] w fun e w' => e = .returned (.tuple #[]) ∧ Keeps B 4 w w' := by
  have hr := OwBo.rd h
  rcases h.2 with ⟨rfl, h0⟩ | ⟨g, cap, cur, rfl, hA, hg, hn, hm, hs, ht⟩
  · go_enter Tryz.func41, Tryz.ntmps41
    go_wp2_with fail
    go_loopw [2] (fun i wr => i = .int .i64 0 ∧ wr = w) (fun _ _ => 0)
    case atStart => exact ⟨rfl, rfl⟩
    case round =>
      obtain ⟨rfl, rfl⟩ := hrel
      go_wp2
      go_end0
      exact ⟨rfl, Keeps.ext (Ext.refl _)⟩
  · have HB := Lib.hid (show Blk w g cur 4 from hg)
    have hat : ∀ i, i < l.length → cur[i]? = some (.bool (l.getD i false)) := fun i hi => by
      obtain ⟨a9, c9, e9, _, _, h9⟩ := rdB_get hr
      injection e9 with e1 _ _
      subst e1
      obtain ⟨b9, o9, e1, e2, e3⟩ := h9 i hi
      injection e1 with e1
      injection e1 with e1 e4
      subst e1; subst e4
      rw [Nat.zero_add, HB.out.cell] at e3
      exact e3
    have HAT := Lib.hid hat
    have hll : l.length ≤ 9223372036854775807 := by unfold maxLen at hm; omega
    clear hg hn hm hs ht hr hat h
    go_enter Tryz.func41, Tryz.ntmps41
    go_wp2_with fail
    go_loopw [2] (fun i wr => ∃ (k : Nat) (ck : Array Value), k ≤ l.length ∧ i = .int .i64 k ∧ Gr (some g) w wr ∧ Blk wr g ck 4 ∧ ∀ j, j < l.length → ∃ b, ck[j]? = some (.bool b)) (fun i _ => l.length - (intOf i).toNat)
    case atStart => exact ⟨0, cur, by omega, rfl, Gr.refl _ _, HB.out, fun j hj => ⟨_, HAT.out j hj⟩⟩
    case round =>
      obtain ⟨k, ck, hk, rfl, hgr, hbk, hck⟩ := hrel
      have HG := Lib.hid hgr
      by_cases hlt : k < l.length
      · obtain ⟨y, hy⟩ := hck k hlt
        have c1 : wr.cell? ⟨g, k, none⟩ = some (.bool y) := by rw [hbk.cell k, hy]
        have f1 := hbk.free k; have l1 := hbk.lt
        have q1 : (0 : Int) ≤ (k : Int) := by omega
        have q2 : (k : Int) < (l.length : Int) := by omega
        have HR := Lib.hid hbk; have HK := Lib.hid hck
        clear hgr hbk hck hy
        go_wp2_with fail
        go_roundw
        case rel =>
          refine ⟨k + 1, ck.setIfInBounds k (.bool !y), by omega, by go_num, HG.out.set _ _, HR.out.set k _, fun j hj => ?_⟩
          rw [Array.getElem?_setIfInBounds]
          by_cases e : k = j
          · subst e
            obtain ⟨y2, hy2⟩ := HK.out k hj
            rw [if_pos rfl, if_pos (Array.getElem?_eq_some_iff.1 hy2).1]
            exact ⟨_, rfl⟩
          · rw [if_neg e]; exact HK.out j hj
        case measure => simp [intOf]; omega
      · clear hgr hbk hck
        go_wp2
        go_end0
        refine ⟨rfl, ⟨HG.out.os, HG.out.tape, HG.out.output, HG.out.size, fun i hi => by omega⟩, fun i hi ho => HG.out.block i hi (fun e => ?_)⟩
        cases e
        rcases ho with ho | ⟨c2, u, h5, h6⟩
        · omega
        · have hg2 := HB.out
          unfold Blk at hg2 h5
          rw [hg2] at h5
          injection h5 with h5
          injection h5 with _ h7
          exact h6 h7.symm

end Go.Proofs.YthkfkfbfblppeaaGreat
