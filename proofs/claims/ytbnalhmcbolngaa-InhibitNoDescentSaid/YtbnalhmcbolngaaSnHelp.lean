/- Part of the proof of nodL_holds: what the row needs of Help. Conditions: as each theorem states. -/
import Derived.Test.YtbnalhmcbolngaaSnKit
import Derived.Test.YtbnalhmcbolngaaSnRunR
import Derived.Test.YtbnalhmcbolngaaSnEq
namespace Go.Proofs.Ytbnalhmcbolngaa
set_option linter.unusedSimpArgs false
set_option linter.unusedVariables false
open Go.RowKit
set_option maxHeartbeats 1000000 in
theorem heights_any (w : World) :
    Calls Try.prog 51 #[] w fun en w' => en = .returned (.agg #[.int .i64 1000, .int .i64 1200, .int .i64 1500, .int .i64 1700, .int .i64 300, .int .i64 400, .int .i64 25]) ∧ Ext w w' := by
  go_enter Try.func51, Try.ntmps51
  go_wp2
  refine bodyPost_ret ?_ rfl ⟨rfl, ?_⟩
  · (simp only [results, Try.results51]; go_simp)
  · (repeat (first | (with_reducible exact Ext.refl _) | (with_reducible assumption) | (with_reducible refine Ext.alloc ?_ _) | ((with_reducible refine Ext.setp ?_ ?_); focus (dsimp only; omega)) | (with_reducible refine Ext.drew ?_) | (with_reducible refine Ext.drewN ?_ _) | (with_reducible refine Ext.trans ?_ (by assumption))))
set_option maxRecDepth 100000 in
set_option maxHeartbeats 1000000 in
theorem flags_any (x y z : UInt8) (w : World) :
    Calls Try.prog 52 #[.string ⟨#[x, y, z]⟩] w fun en w' => en = .returned (.agg #[.bool ((x.toNat : Int) == 49), .bool ((y.toNat : Int) == 49), .bool ((z.toNat : Int) == 49)]) ∧ Ext w w' := by
  have i0 : ∀ w, (Instr.index 9 (.string ⟨#[x, y, z]⟩) (.int .i64 0)).run Try.prog w = .ok (.int .u8 x.toNat) w := fun _ => by rfl
  have i1 : ∀ w, (Instr.index 9 (.string ⟨#[x, y, z]⟩) (.int .i64 1)).run Try.prog w = .ok (.int .u8 y.toNat) w := fun _ => by rfl
  have i2 : ∀ w, (Instr.index 9 (.string ⟨#[x, y, z]⟩) (.int .i64 2)).run Try.prog w = .ok (.int .u8 z.toNat) w := fun _ => by rfl
  go_enter Try.func52, Try.ntmps52
  go_wp2_with fail
  (refine wp_region_quietE_tail 10 (by kernel_rfl) (by kernel_rfl) ?_; simp only [List.take_succ_cons, List.take_zero, List.drop_succ_cons, List.drop_zero]; (repeat (go_big_quiet_step ((fail)))); refine wpQuiet_nil ?_; rintro w1 ⟨⟨_, hx1⟩, rfl⟩; (try dsimp only); have hz1 := hx1.size; (try simp only [World.size_alloc, World.size_setCell, World.size_drew, size_drewN] at hz1); obtain ⟨hc1, hf1⟩ := hx1.old (B := w.heap.size) (by (try simp only [World.size_alloc, World.size_setCell, World.size_drew, size_drewN]); omega); have hs0 : w.heap.size < w1.heap.size := (by omega); have hl0 : w.heap.size ≤ w1.heap.size := (by omega); have hm0 : w.heap.size ≤ w1.heap.size + 1 := (by omega); obtain ⟨hcb0, hfb0⟩ := hx1.block_at (b := w.heap.size) (by (try simp only [World.size_alloc, World.size_setCell, World.size_drew, size_drewN]); omega))
  go_wp2
  refine bodyPost_ret ?_ rfl ⟨rfl, ?_⟩
  · (simp only [results, Try.results52]; go_simp)
  · (repeat (first | (with_reducible exact Ext.refl _) | (with_reducible assumption) | (with_reducible refine Ext.alloc ?_ _) | ((with_reducible refine Ext.setp ?_ ?_); focus (dsimp only; omega)) | (with_reducible refine Ext.drew ?_) | (with_reducible refine Ext.drewN ?_ _) | (with_reducible refine Ext.trans ?_ (by assumption))))
abbrev RdBlk (w : World) (v : Value) (l : List BlkD) : Prop := RdN 3 w v (l.map blkCells)
theorem own_rdBlk {w : World} {B : Nat} {v : Value} {l : List BlkD} (h : OwBk w B v l) : RdBlk w v l := by
  refine own_rdN (B := B) (e := 78) ?_ (fun x hx => by obtain ⟨y, _, rfl⟩ := List.mem_map.1 hx; rfl)
  rw [List.length_map, ← List.flatMap_def]; exact h
theorem RdBlk.get {w : World} {v : Value} {l : List BlkD} (h : RdBlk w v l) : ∃ a cap, v = .slice a l.length cap ∧ l.length ≤ cap ∧ cap ≤ 9223372036854775807 ∧
    ∀ i x, l[i]? = some x → ∃ b off, a = some ⟨b, off, none⟩ ∧ b < w.heap.size ∧ w.cell? ⟨b, off + i * 3, none⟩ = some (.bool x.1) ∧ w.cell? ⟨b, off + i * 3 + 1, none⟩ = some (.bool x.2.1) ∧ w.cell? ⟨b, off + i * 3 + 2, none⟩ = some (.bool x.2.2) := by
  obtain ⟨a, cap, hv, hc, hm, hr⟩ := h
  simp only [List.length_map] at hv hc hr
  refine ⟨a, cap, hv, hc, hm, fun i x hx => ?_⟩
  have hi : i < l.length := (List.getElem?_eq_some_iff.1 hx).1
  obtain ⟨b, off, ha, hb, hy⟩ := hr i hi
  have e : (l.map blkCells).getD i [] = blkCells x := by simp [List.getD, hx]
  rw [e] at hy
  exact ⟨b, off, ha, hb, by simpa [blkCells] using hy 0 (by omega), by simpa [blkCells] using hy 1 (by omega), by simpa [blkCells] using hy 2 (by omega)⟩
set_option maxHeartbeats 1000000 in
theorem same30_any (v1 v2 : Value) (l1 l2 : List BlkD) (w : World) (h1 : RdBlk w v1 l1) (h2 : RdBlk w v2 l2) :
    Calls Try.prog 54 #[v1, v2] w fun e w' => e = .returned (.bool (decide (l1 = l2))) ∧ Ext w w' := by
  obtain ⟨a1, c1, rfl, hc1, hm1, hr1⟩ := h1.get
  obtain ⟨a2, c2, rfl, hc2, hm2, hr2⟩ := h2.get
  clear h1 h2
  by_cases hlen : l1.length = l2.length
  · have H1 := Lib.hid hr1; clear hr1
    have H2 := Lib.hid hr2; clear hr2
    rw [← hlen]
    rw [← hlen] at hc2
    have HL := Lib.hid hlen; clear hlen
    go_enter Try.func54, Try.ntmps54
    go_wp2
    go_loopw [5] (fun i wr => ∃ k : Nat, k ≤ l1.length ∧ i = .int .i64 k ∧ l1.take k = l2.take k ∧ ∃ n, wr = w.drewN n)
      (fun i _ => l1.length - (intOf i).toNat)
    case atStart => exact ⟨0, Nat.zero_le _, rfl, rfl, 0, rfl⟩
    case round =>
      obtain ⟨k, hk, rfl, htake, n, rfl⟩ := hrel
      have HT := Lib.hid htake; clear htake
      by_cases hlt : k < l1.length
      · have hlt2 : k < l2.length := HL.out ▸ hlt
        obtain ⟨⟨x1, y1, z1⟩, hx⟩ : ∃ x, l1[k]? = some x := ⟨l1[k], List.getElem?_eq_getElem hlt⟩
        obtain ⟨⟨x2, y2, z2⟩, hx'⟩ : ∃ x, l2[k]? = some x := ⟨l2[k], List.getElem?_eq_getElem hlt2⟩
        obtain ⟨b1, o1, rfl, hb1, p1, p2, p3⟩ := H1.out k _ hx
        obtain ⟨b2, o2, rfl, hb2, q1, q2, q3⟩ := H2.out k _ hx'
        have HX := Lib.hid hx; have HX' := Lib.hid hx'; clear hx hx'
        dsimp only at p1 p2 p3 q1 q2 q3
        have hne := neqBlk x1 y1 z1 x2 y2 z2
        rcases hb : beqD (x1, y1, z1) (x2, y2, z2) with _ | _
        · rw [hb] at hne
          have HB := Lib.hid hb; clear hb
          go_wp2_with fail
          go_quiet (fail)
          go_wp2
          go_ret
          refine ⟨ret_bool ?_, ((Ext.refl w).drewN _).drewN _⟩
          rw [eq_comm, decide_eq_false_iff_not]
          rintro rfl
          have := HX.out.symm.trans HX'.out
          exact beqD_false HB.out (Option.some.inj this)
        · rw [hb] at hne
          have HB := Lib.hid hb; clear hb
          go_wp2_with fail
          go_quiet (fail)
          go_wp2
          go_roundw
          case rel =>
            refine ⟨k + 1, by omega, by go_num, take_succ_eq HT.out hlt hlt2 ?_, _, rfl⟩
            have e1 := HX.out; have e2 := HX'.out
            rw [List.getElem?_eq_getElem hlt] at e1
            rw [List.getElem?_eq_getElem hlt2] at e2
            rw [Option.some.inj e1, Option.some.inj e2, beqD_true HB.out]
          case measure => simp [intOf]; omega
      · go_wp2
        go_ret
        refine ⟨ret_bool ?_, (Ext.refl w).drewN _⟩
        have := HT.out
        rw [List.take_of_length_le (by omega), List.take_of_length_le (by have := HL.out; omega)] at this
        simp [this]
  · have hb : (l1.length != l2.length) = true := by simpa using hlen
    go_enter Try.func54, Try.ntmps54
    go_wp2
    go_ret
    refine ⟨ret_bool ?_, Ext.refl w⟩
    rw [eq_comm, decide_eq_false_iff_not]
    rintro rfl
    exact hlen rfl
end Go.Proofs.Ytbnalhmcbolngaa
