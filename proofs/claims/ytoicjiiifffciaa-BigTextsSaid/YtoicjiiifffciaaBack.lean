/- slices.Backward: the contract of its iterator. Conditions: the slice lies in a box. -/
import Derived.Test.YtoicjiiifffciaaDown
namespace Go.Proofs.Ytoicjiiifffciaa
set_option linter.unusedSimpArgs false
set_option linter.unusedVariables false
open Go.RowKit Go.Shelf
attribute [local go_sem] Oper.semAt_some

theorem backward_any (a : Option Addr) (n c : Nat) (w : World) :
    Calls Try.prog 65 #[.slice a n c] w fun e w' => e = .returned (.func (.func 77) #[] #[.pointer (some ⟨w.heap.size, 0, none⟩)]) ∧ w' = w.alloc (.cells #[.slice a n c] 23) := by
  go_enter Try.func65, Try.ntmps65
  go_wp2
  go_ret
  exact ⟨rfl, rfl⟩

/-- What the iterator reads. -/
def RdBk (Bx : Nat) (v : Value) (k : Nat) (W : World) (x : Int) : Prop :=
  W.cell? ⟨Bx, 0, none⟩ = some v ∧ ∃ b off n cap, v = .slice (some ⟨b, off, none⟩) n cap ∧ W.cell? ⟨b, off + k, none⟩ = some (.int .u32 x)

set_option maxHeartbeats 1000000 in
theorem back1_seq (n : Nat) (hn : 1 ≤ n) (a : Option Addr) (N cap Bx lb : Nat) (W1 : World) (hb : W1.cell? ⟨Bx, 0, none⟩ = some (.slice a N cap)) (hc : N ≤ cap) (hm : cap ≤ 9223372036854775807) :
    DownSeq Fence.wide n Try.prog 77 #[.pointer (some ⟨Bx, 0, none⟩)] N (fun k (x : Int) => #[.int .i64 k, .int .u32 x]) (RdBk Bx (.slice a N cap)) lb W1 := by
  intro J Jx hJ hJr hY h0
  refine callsIn_of_wp Try.func77 rfl trivial ?_ rfl
  simp only [Try.ntmps77, List.size_toArray, List.length_cons, List.length_nil, Nat.reduceAdd, Nat.reduceSub, Array.replicate_succ, Array.replicate_zero, List.push_toArray, List.append_toArray, List.nil_append, List.cons_append]
  gi_wp2_with fail
  gi_loopw [3] (fun i wr => (i = .int .i64 (-1) ∧ J 0 wr) ∨ ∃ j : Nat, j < N ∧ i = .int .i64 j ∧ J (j + 1) wr) (fun i _ => (intOf i + 1).toNat)
  case atStart =>
    rcases Nat.eq_zero_or_pos N with h | h
    · subst h; exact .inl ⟨rfl, h0⟩
    · exact .inr ⟨N - 1, by omega, by go_num, by rw [show N - 1 + 1 = N by omega]; exact h0⟩
  case round =>
    rcases hrel with ⟨rfl, hj⟩ | ⟨j, hj, rfl, hJj⟩
    · have HJ := Lib.hid hj; clear hj
      gi_wp2
      go_end0
      exact ⟨⟨_, rfl⟩, .inl HJ.out⟩
    · obtain ⟨x, hbx, b, off, n1, cap1, ha, hcx⟩ := hJr j wr hj hJj
      obtain ⟨fn, tmps, assign, body, hy, hR⟩ := hY j wr x hj hJj ⟨hbx, b, off, n1, cap1, ha, hcx⟩
      injection ha with ha hn1 hcap1
      subst ha
      have q1 : (0 : Int) ≤ (j : Int) := by omega
      have q2 : (j : Int) < (N : Int) := by omega
      have HJ := Lib.hid hJj; clear hJj hn1 hcap1
      gi_wp2
      refine hR.mono ?_
      rintro e W3 (⟨rfl, hJ3⟩ | ⟨rfl, hJ3⟩)
      · have HJ3 := Lib.hid hJ3; clear hJ3
        gi_wp2
        go_roundw
        case rel =>
          rcases Nat.eq_zero_or_pos j with h | h
          · subst h; exact .inl ⟨rfl, HJ3.out⟩
          · exact .inr ⟨j - 1, by omega, by go_num, by rw [show j - 1 + 1 = j by omega]; exact HJ3.out⟩
        case measure => simp [intOf] <;> omega
      · have HJ3 := Lib.hid hJ3; clear hJ3
        gi_wp2
        refine bodyPost_ret (v := .tuple #[]) ?_ rfl ⟨⟨_, rfl⟩, .inr ⟨j, hj, HJ3.out⟩⟩
        first | rfl | (simp only [results, Try.results77]; go_simp)

end Go.Proofs.Ytoicjiiifffciaa
