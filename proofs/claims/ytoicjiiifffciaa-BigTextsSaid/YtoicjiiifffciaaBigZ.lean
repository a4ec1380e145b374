/- Bytes of layer 5: their reversal in place, and the text of them. Conditions: a row of bytes of the call's own. -/
import Derived.Test.YtoicjiiifffciaaBigY
import Derived.Shelf.RegionOpenPlain
import Derived.Sort.WalkB12
import Derived.Lib.SlicesMore
import Derived.Lib.OwnBridge
import Derived.Laws.BytesArg
namespace Go.Proofs.Ytoicjiiifffciaa
set_option linter.unusedSimpArgs false
set_option linter.unusedVariables false
open Go.RowKit Go.Shelf Go.Sort

/-- Bytes of the call's own. -/
abbrev OwY (w : World) (B : Nat) (v : Value) (l : List Int) : Prop := w.ownsRow B 5 1 v l.length (l.map (Value.int .u8))

abbrev encY : Int → Value := fun x => Value.int .u8 x

set_option maxRecDepth 100000 in
set_option maxHeartbeats 1600000 in
theorem reverse_arr (blk cap : Nat) (d : Array Int) (w : World) (hH : Holds encY w blk 0 d) (hsz : d.size ≤ 9223372036854775807) :
    Calls Try.prog 67 #[.slice (some ⟨blk, 0, none⟩) d.size cap] w fun e w' => e = .returned (.tuple #[]) ∧ ∃ n, w' = putRow encY (Sort.ahead w n) blk 0 d.reverse := by
  have mixed : Try.prog.follows .mixedOrders = true := by kernel_rfl
  go_enter Try.func67, Try.ntmps67
  go_wp2
  go_loopg [2, 3] d.size (fun k s2 s3 wr => ∃ (i jn : Nat) (jz : Int) (dk : Array Int) (n : Nat), s2 = .int .i64 i ∧ s3 = .int .i64 jz ∧ ((i : Int) < jz → jz = jn ∧ jn < d.size) ∧ (¬ (i : Int) < jz → ¬ i < jn) ∧ jn - i ≤ k ∧
    dk.size = d.size ∧ wr = putRow encY (Sort.ahead w n) blk 0 dk ∧ reverseLoop i jn dk = reverseLoop 0 (d.size - 1) d)
  case atStart => exact ⟨0, d.size - 1, (d.size : Int) - 1, d, 0, rfl, rfl, fun h => ⟨by omega, by omega⟩, fun h => by omega, by omega, rfl, (putRow_self encY w blk 0 d hH).symm, rfl⟩
  case round =>
    obtain ⟨i, jn, jz, dk, n, rfl, rfl, h1, h2, hk, hds, hwr, heq⟩ := hrel
    by_cases hlt : (i : Int) < jz
    · obtain ⟨rfl, hjn⟩ := h1 hlt
      have hij : i < jn := by omega
      have hHk : Holds encY wr blk 0 dk := by rw [hwr]; exact holds_putRow encY _ blk 0 d dk (holds_ahead encY w n blk 0 d hH) hds
      obtain ⟨ci, fi⟩ := hHk i (by omega)
      obtain ⟨cj, fj⟩ := hHk jn (by omega)
      rw [Nat.zero_add] at ci fi cj fj
      have A : Aside (wr = putRow encY (Sort.ahead w n) blk 0 dk) := hwr
      clear hwr hHk hH h1 h2
      go_wp2_with fail
      go_region_o
      go_wp2
      go_roundg (jn - 1 - (i + 1))
      case measure => omega
      case rel =>
        rw [reverseLoop, if_pos hij] at heq
        have hsw := swap_world encY (i := i) (j := jn) (by omega) (by omega) A.out (x := .int .u8 dk[jn]!) (y := .int .u8 dk[i]!) rfl rfl
        rw [Nat.zero_add, Nat.zero_add] at hsw
        refine ⟨i + 1, jn - 1, (jn : Int) - 1, swp dk i jn, n + 1, by simp, rfl, fun h => ⟨by omega, by omega⟩, fun h => by omega, Nat.le_refl _, by rw [size_swp]; exact hds, ?_, heq⟩
        rw [getElem!_pos dk jn (by omega)] at hsw
        exact hsw
    · have hnot := h2 hlt
      go_wp2
      go_end0
      refine ⟨rfl, n, ?_⟩
      rw [reverseLoop, if_neg hnot] at heq
      rw [← Lib.reverseLoop_reverse, ← heq]

theorem reverse_any (B : Nat) (v : Value) (l : List Int) (w : World) (h : OwY w B v l) (h0 : l ≠ []) :
    Calls Try.prog 67 #[v] w fun e w' => e = .returned (.tuple #[]) ∧ OwY w' B v l.reverse ∧ Below B w w' ∧ Gr v.ownBlock w w' := by
  have hv : v ≠ .slice none 0 0 := by
    rintro rfl
    rcases h.2 with ⟨_, h1⟩ | ⟨g, cap, cur, e, _⟩
    · exact h0 (List.length_eq_zero_iff.1 h1)
    · cases e
  obtain ⟨g, cap, rfl, hg, hgl, hn, hm, hl, hH⟩ := Lib.holds_of_ownsRow (enc := encY) h hv
  have := reverse_arr g cap l.toArray w hH (by simp; unfold maxLen at hm; omega)
  simp only [List.size_toArray] at this
  refine this.mono ?_
  rintro e w' ⟨rfl, n, rfl⟩
  have hb := Lib.below_putRow (enc := encY) (q := n) (d := l.toArray.reverse) (Below.refl B w) hg
  refine ⟨rfl, ?_, hb, ⟨hb.os, hb.tape, hb.output, hb.size, fun i hi hn => ?_⟩⟩
  case refine_2 =>
    have hne : g ≠ i := fun e => hn (by simp [Value.ownBlock, e])
    simp [putRow, mapBlock, Sort.ahead, Array.getElem?_modify, hne]
  have hx := Lib.ownsRow_putRow (enc := encY) (q := n) (ys := l.reverse) h (by simp) (Nat.le_refl _)
  rw [List.take_of_length_le (by simp)] at hx
  rw [show l.toArray.reverse = l.reverse.toArray by simp]
  rw [OwY, List.length_reverse]
  exact hx

theorem infoY : (Try.prog.info? 5).map (fun i => (i.zero, i.size, i.bytes)) = some (some (.int .u8 0), 1, 1) := by kernel_rfl
theorem und51 : Try.prog.underlying 51 = some (.slice 5) := by kernel_rfl
theorem und5 : Try.prog.underlying 5 = some (.int .u8) := by kernel_rfl
theorem und9 : Try.prog.underlying 9 = some .string := by kernel_rfl

/-- string(b). -/
theorem textOf (w : World) (B : Nat) (v : Value) (l : List Int) (h : OwY w B v l) (h0 : l ≠ []) : (convert 51 9 v).run Try.prog w = .ok (.string (strOfNums l)) w := by
  rcases h.2 with ⟨_, h1⟩ | ⟨g, cap, cur, rfl, hg, hh, hn, hm, hs, ht⟩
  · exact absurd (List.length_eq_zero_iff.1 h1) h0
  · refine run_convert_bytes_arg w 51 5 und51 und5 g 0 l.length cap l rfl (fun i hi => ?_) _ und9
    have := h.cellAt i (by simpa using hi)
    rw [Nat.zero_add, this]
    simp [List.getD, List.getElem?_eq_getElem hi]

/-- The decimal digits, the last one first. -/
def decR (n : Nat) : List Nat := if h : n = 0 then [] else n % 10 :: decR (n / 10)
termination_by n
decreasing_by omega
theorem decR_zero : decR 0 = [] := by rw [decR, dif_pos rfl]
theorem decR_pos {n : Nat} (h : n ≠ 0) : decR n = n % 10 :: decR (n / 10) := by rw [decR, dif_neg h]

/-- The text of a number. -/
def decT (n : Nat) : ByteArray := if n = 0 then ⟨#[48]⟩ else strOfNums ((decR n).map (fun d => ((48 + d : Nat) : Int))).reverse

/-- What Text returns. -/
def textS (l : List Int) : ByteArray × Int := if chkE l = 0 then (decT (nv l), 0) else (⟨#[]⟩, chkE l)

theorem dec_step (x h : Nat) : (x + 4294967296 * h) / 10 = (x + 4294967296 * (h % 10)) / 10 + 4294967296 * (h / 10) ∧ (x + 4294967296 * h) % 10 = (x + 4294967296 * (h % 10)) % 10 ∧ (x < 4294967296 → (x + 4294967296 * (h % 10)) / 10 < 4294967296) := by omega

end Go.Proofs.Ytoicjiiifffciaa
