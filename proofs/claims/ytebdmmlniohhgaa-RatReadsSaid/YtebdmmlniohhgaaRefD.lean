/- Walks of the reference's From of layer 5. Conditions: slices of limbs. -/
import Derived.Test.YtebdmmlniohhgaaGF
import Derived.Test.YtebdmmlniohhgaaGC
namespace Go.Proofs.Ytebdmmlniohhgaa
set_option linter.unusedSimpArgs false
set_option linter.unusedVariables false
open Go.RowKit

set_option maxHeartbeats 1000000 in
theorem refFrom_any (n : Nat) (w : World) (hn : n < 18446744073709551616) :
    Calls Try.prog 38 #[.int .u64 n] w fun e w' => (∃ v, e = .returned v ∧ NewV w w' v (lim n)) ∧ Ext w w' := by
  have h0 : (0 : Int) ≤ (n : Int) := by omega
  have h1 : (n : Int) < 18446744073709551616 := by omega
  have hl : Lim [(n : Int) % 4294967296, (n : Int) / 4294967296] := by
    intro x hx
    rcases List.mem_cons.1 hx with rfl | hx
    · omega
    · rw [List.mem_singleton.1 hx]; omega
  have hv : nv [(n : Int) % 4294967296, (n : Int) / 4294967296] = n := by simp only [nv]; omega
  have hr : RowU (w.alloc (.cells #[.int .u32 ((n : Int) % 4294967296), .int .u32 ((n : Int) / 4294967296)] 46)) w.heap.size 2 [(n : Int) % 4294967296, (n : Int) / 4294967296] := RowU.new w [(n : Int) % 4294967296, (n : Int) / 4294967296] (by simp)
  have ho := OwV.row hr
  have HL := Lib.hid hl; have HV := Lib.hid hv; have HO := Lib.hid ho
  clear hl hv hr ho
  go_enter Try.func38, Try.ntmps38
  go_wp2_with fail
  refine (cut_any (some w.heap.size) _ [(n : Int) % 4294967296, (n : Int) / 4294967296] _ HO.out HL.out).mono ?_
  rintro e w1 ⟨v', rfl, h1, h2⟩
  have P1 := Lib.hid h1; have P2 := Lib.hid h2; clear h1 h2
  go_wp2_with fail
  go_ret
  refine ⟨⟨_, rfl, some w.heap.size, ?_, fun g hg => by cases hg; exact Nat.le_refl _⟩, ((Ext.refl w).alloc _).trans P2.out⟩
  have := P1.out
  rw [HV.out] at this
  exact this

end Go.Proofs.Ytebdmmlniohhgaa
