/- Part of the proof of nodL_holds: what the row needs of Tame. Conditions: as each theorem states. -/
import Derived.Test.YtbnalhmcbolngaaSnKit
import Derived.Test.YtbnalhmcbolngaaSnGA
import Derived.Test.YtbnalhmcbolngaaSnReg5
import Derived.Test.YtbnalhmcbolngaaSnInhC
import Derived.Test.YtbnalhmcbolngaaSnSpecR
namespace Go.Proofs.Ytbnalhmcbolngaa
set_option linter.unusedSimpArgs false
set_option linter.unusedVariables false
open Go.RowKit
def umod (x k : Int) : Int := wrap64 ((IntKind.u64.wrap x).tmod k)
theorem umod_bd (x : Int) {k : Int} (h : 0 < k) (h2 : k ≤ 3000) : 0 ≤ umod x k ∧ umod x k < k := by
  have hw : 0 ≤ IntKind.u64.wrap x := by simp [IntKind.wrap, IntKind.bits, IntKind.signed]; omega
  have h1 := Int.tmod_nonneg k hw
  have h3 := Int.tmod_lt_of_pos (IntKind.u64.wrap x) h
  generalize hy : (IntKind.u64.wrap x).tmod k = y at h1 h3
  have : wrap64 y = y := by unfold wrap64; omega
  unfold umod
  rw [hy, this]
  exact ⟨h1, h3⟩
set_option maxHeartbeats 1000000 in
theorem tame1_any (e l : Int) (w : World) :
    Calls Try.prog 56 #[.agg #[.int .i64 e, .int .i64 l]] w fun en w' => en = .returned (.agg #[.int .i64 (umod e 2000), .int .i64 (umod e 2000 + umod l 500)]) ∧ Ext w w' := by
  have hs : wrap64 (umod e 2000 + umod l 500) = umod e 2000 + umod l 500 := by
    have h1 := umod_bd e (k := 2000) (by omega) (by omega)
    have h2 := umod_bd l (k := 500) (by omega) (by omega)
    unfold wrap64; omega
  rw [← hs]
  unfold umod
  clear hs
  go_enter Try.func56, Try.ntmps56
  go_wp2_with fail
  refine bodyPost_ret ?_ rfl ⟨rfl, ?_⟩
  · (simp only [results, Try.results56]; go_simp)
  · (repeat (first | (with_reducible exact Ext.refl _) | (with_reducible assumption) | (with_reducible refine Ext.alloc ?_ _) | ((with_reducible refine Ext.setp ?_ ?_); focus (dsimp only; omega)) | (with_reducible refine Ext.drew ?_) | (with_reducible refine Ext.drewN ?_ _) | (with_reducible refine Ext.trans ?_ (by assumption))))
theorem tame_any (de dl se sl ae al r : Int) (w : World) :
    Calls Try.prog 26 #[.agg #[.int .i64 de, .int .i64 dl, .int .i64 se, .int .i64 sl, .int .i64 ae, .int .i64 al, .int .i64 r]] w fun en w' =>
      en = .returned (.agg #[.int .i64 (umod de 2000), .int .i64 (umod de 2000 + umod dl 500), .int .i64 (umod se 2000), .int .i64 (umod se 2000 + umod sl 500), .int .i64 (umod ae 2000), .int .i64 (umod ae 2000 + umod al 500), .int .i64 (umod r 101)]) ∧ Ext w w' := by
  rw [show umod r 101 = wrap64 ((IntKind.u64.wrap r).tmod 101) from rfl]
  go_enter Try.func26, Try.ntmps26
  go_wp2_with fail
  (refine wp_region_quietE_tail 18 (by kernel_rfl) (by kernel_rfl) ?_; simp only [List.take_succ_cons, List.take_zero, List.drop_succ_cons, List.drop_zero]; (repeat (go_big_quiet_step ((go_at_call 56; exact quietE (tame1_any _ _ _))))); refine wpQuiet_nil ?_; rintro w1 ⟨⟨_, hx1⟩, rfl⟩; (try dsimp only); have hz1 := hx1.size; (try simp only [World.size_alloc, World.size_setCell, World.size_drew, size_drewN] at hz1); obtain ⟨hc1, hf1⟩ := hx1.old (B := w.heap.size) (by (try simp only [World.size_alloc, World.size_setCell, World.size_drew, size_drewN]); omega); have hs0 : w.heap.size < w1.heap.size := (by omega); have hl0 : w.heap.size ≤ w1.heap.size := (by omega); have hm0 : w.heap.size ≤ w1.heap.size + 1 := (by omega); obtain ⟨hcb0, hfb0⟩ := hx1.block_at (b := w.heap.size) (by (try simp only [World.size_alloc, World.size_setCell, World.size_drew, size_drewN]); omega); have hs1 : w.heap.size + 1 < w1.heap.size := (by omega); have hl1 : w.heap.size + 1 ≤ w1.heap.size := (by omega); have hm1 : w.heap.size + 1 ≤ w1.heap.size + 1 := (by omega); obtain ⟨hcb1, hfb1⟩ := hx1.block_at (b := w.heap.size + 1) (by (try simp only [World.size_alloc, World.size_setCell, World.size_drew, size_drewN]); omega))
  go_wp2
  refine bodyPost_ret ?_ rfl ⟨rfl, ?_⟩
  · (simp only [results, Try.results26]; go_simp)
  · (repeat (first | (with_reducible exact Ext.refl _) | (with_reducible assumption) | (with_reducible refine Ext.alloc ?_ _) | ((with_reducible refine Ext.setp ?_ ?_); focus (dsimp only; omega)) | (with_reducible refine Ext.drew ?_) | (with_reducible refine Ext.drewN ?_ _) | (with_reducible refine Ext.trans ?_ (by assumption))))
def cutL (l : List Int) : List Int := (l.take 60).map fun x => umod x 3000 - 200
theorem cutL_len (l : List Int) : (cutL l).length = min 60 l.length := by simp [cutL]
set_option maxHeartbeats 1000000 in
theorem cut30_any (v : Value) (l : List Int) (w : World) (h : RdI .i64 w v l) :
    Calls Try.prog 27 #[v] w fun en w' => ∃ u, en = .returned u ∧ OwI w' w.heap.size u (cutL l) ∧ Ext w w' := by
  obtain ⟨a, cap, rfl, hc, hm, hr⟩ := h.get
  clear h
  have HR := Lib.hid hr; clear hr
  go_enter Try.func27, Try.ntmps27
  go_wp2_with fail
  go_loopw [3, 4] (fun u i wr => ∃ k : Nat, k ≤ l.length ∧ k ≤ 60 ∧ i = .int .i64 k ∧ OwI wr w.heap.size u ((l.take k).map fun x => umod x 3000 - 200) ∧ Ext w wr) (fun _ i _ => l.length - (intOf i).toNat)
  case atStart => exact ⟨0, by omega, by omega, rfl, World.ownsRow_nil _ _ _ _, Ext.refl w⟩
  case round =>
    obtain ⟨k, hk, hk6, rfl, hown, hext⟩ := hrel
    by_cases hlt : k < l.length
    · by_cases h60 : k < 60
      · obtain ⟨b, off, rfl, hb, hy⟩ := HR.out k hlt
        have hy2 := (hext.cell (p := ⟨b, off + k, none⟩) hb).trans hy
        obtain ⟨zk, hzk⟩ : ∃ zk, zk = l.getD k 0 := ⟨_, rfl⟩
        rw [← hzk] at hy2
        have hz := hext.size
        have hs : wrap64 (umod zk 3000 - 200) = umod zk 3000 - 200 := by
          have h1 := umod_bd zk (k := 3000) (by omega) (by omega)
          unfold wrap64; omega
        unfold OwI at hown
        rw [List.length_map, List.length_take_of_le (by omega)] at hown
        have HO := Lib.hid hown; have HE := Lib.hid hext; have HZ := Lib.hid hzk; have HS := Lib.hid hs
        have q1 : (0 : Int) ≤ (k : Int) := by omega
        have q2 : (k : Int) < (l.length : Int) := by omega
        clear hown hext hy hzk hs
        go_wp2_with (at_builtin; refine wpList_append_at wr wr.heap.size rfl rfl _ _ 24 rfl w.heap.size 3 (.int .i64 0) 1 8 Try.underlying24 Try.infoInt rfl (by decide) _ _ _ HO.out rfl [_] rfl (by simp [Value.oneCell']) rfl (by omega) (by omega) (by omega) ?_)
        intro g cap' w1 hown1 hb1
        have HO1 := Lib.hid hown1; have HB1 := Lib.hid hb1
        clear hown1 hb1
        go_wp2
        go_roundw
        case rel =>
          refine ⟨k + 1, by omega, by omega, by go_num, ?_, Below.trans HE.out HB1.out⟩
          have h2 := HO1.out
          have e : l[k] = zk := by rw [HZ.out]; simp [hlt]
          unfold OwI
          rw [List.length_map, List.length_take_of_le (by omega), map_take_succ _ _ _ hlt, List.map_append, e, ← HS.out, List.map_map, List.map_take]
          exact h2
        case measure => simp [intOf]; omega
      · go_wp2_with fail
        go_ret
        have e : k = 60 := by omega
        subst e
        exact ⟨_, rfl, hown, hext⟩
    · go_wp2_with fail
      go_ret
      refine ⟨_, rfl, ?_, hext⟩
      have e : l.take k = l.take 60 := by rw [List.take_of_length_le (by omega), List.take_of_length_le (by omega)]
      rw [e] at hown
      exact hown
end Go.Proofs.Ytbnalhmcbolngaa
