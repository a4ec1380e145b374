/- Walks of advise.Check and of its reference. Conditions: the argument reads as a slice of advisories. -/
import Derived.Test.YtdbhneoaibbofaaBase
import Derived.Test.YtdbhneoaibbofaaReg
import Derived.Test.YtdbhneoaibbofaaSpec
namespace Go.Proofs.Ytdbhneoaibbofaa
set_option linter.unusedSimpArgs false
set_option linter.unusedVariables false
open Go.RowKit

/-- v reads as the advisories l. -/
abbrev RdBnd (w : World) (v : Value) (l : List Bnd) : Prop := RdN 3 w v (l.map fun x => [.int .u8 x.1, .int .i64 x.2.1, .int .i64 x.2.2])

theorem RdBnd.get {w : World} {v : Value} {l : List Bnd} (h : RdBnd w v l) : ∃ a cap, v = .slice a l.length cap ∧ l.length ≤ cap ∧ cap ≤ 9223372036854775807 ∧
    ∀ i x, l[i]? = some x → ∃ b off, a = some ⟨b, off, none⟩ ∧ b < w.heap.size ∧ w.cell? ⟨b, off + i * 3, none⟩ = some (.int .u8 x.1) ∧ w.cell? ⟨b, off + i * 3 + 1, none⟩ = some (.int .i64 x.2.1) ∧ w.cell? ⟨b, off + i * 3 + 2, none⟩ = some (.int .i64 x.2.2) := by
  obtain ⟨a, cap, hv, hc, hm, hr⟩ := h
  simp only [List.length_map] at hv hc hr
  refine ⟨a, cap, hv, hc, hm, fun i x hx => ?_⟩
  have hi := (List.getElem?_eq_some_iff.1 hx).1
  obtain ⟨b, off, ha, hb, hy⟩ := hr i hi
  have e : (l.map fun x : Bnd => [Value.int .u8 x.1, .int .i64 x.2.1, .int .i64 x.2.2]).getD i [] = [.int .u8 x.1, .int .i64 x.2.1, .int .i64 x.2.2] := by simp [hx]
  rw [e] at hy
  exact ⟨b, off, ha, hb, hy 0 (by omega), hy 1 (by omega), hy 2 (by omega)⟩

set_option maxHeartbeats 1000000 in
theorem achk_any (v : Value) (l : List Bnd) (w : World) (h : RdBnd w v l) :
    Calls Try.prog 30 #[v] w fun en w' => en = .returned (.int .i64 (achk l)) ∧ Ext w w' := by
  obtain ⟨a, cap, rfl, hc, hm, hr⟩ := h.get
  clear h
  have HR := Lib.hid hr; clear hr
  by_cases h0 : l.length = 0
  · have h0' : ((l.length : Int) == 0) = true := by simp [h0]
    have hA : achk l = 3 := by simp [achk, h0]
    go_enter Try.func30, Try.ntmps30
    go_wp2
    go_ret
    exact ⟨ret_int hA.symm, Ext.refl _⟩
  · have h0' : ((l.length : Int) == 0) = false := by simp; intro h; simp [h] at h0
    have h0n : 0 < l.length := by omega
    by_cases h6 : 6 < l.length
    · have hA : achk l = 4 := by unfold achk; rw [if_neg h0, if_pos h6]
      have HA := Lib.hid hA; clear hA
      go_enter Try.func30, Try.ntmps30
      go_wp2
      go_ret
      exact ⟨ret_int HA.out.symm, Ext.refl _⟩
    · have H0 := Lib.hid h0; clear h0
      have h6' : decide (6 < (l.length : Int)) = false := by simp; omega
      by_cases h1 : l.length = 1
      · have hA : achk l = 0 := achk_ok h0n (by omega) (by intro j hj; omega)
        have HA := Lib.hid hA; clear hA
        rw [h1] at *
        have hL : ((1 : Nat) : Int) = 1 := rfl
        by_cases hcap : cap = 1
        all_goals
          go_enter Try.func30, Try.ntmps30
          go_wp2
          refine wp_loop_rounds 1 ?_
          rw [rounds_succ]
          go_wp2
          go_ret
          exact ⟨ret_int HA.out.symm, Ext.refl _⟩
      · obtain ⟨b, off, rfl, hb, -⟩ := HR.out 0 l[0] (by simp)
        have hcap : ¬ cap = 1 := by omega
        have hl1 : 1 < l.length := by omega
        clear h1
        go_enter Try.func30, Try.ntmps30
        go_wp2
        go_loopw [16] (fun i wr => ∃ k : Nat, k ≤ l.length - 1 ∧ i = .int .i64 k ∧ okTo l k ∧ Ext w wr) (fun i _ => l.length - 1 - (intOf i).toNat)
        case atStart => exact ⟨0, by omega, rfl, (fun j hj => by omega), Ext.refl w⟩
        case round =>
          obtain ⟨k, hk, rfl, hok, hext⟩ := hrel
          have HK := Lib.hid hok; clear hok
          by_cases hlt : k < l.length - 1
          · obtain ⟨x, hx⟩ : ∃ x, l[k + 1]? = some x := ⟨l[k + 1], by rw [List.getElem?_eq_getElem]⟩
            obtain ⟨b', off', hbo, -, hx1, hx2, hx3⟩ := HR.out (k + 1) x hx
            simp only [Option.some.injEq, Addr.mk.injEq, and_true] at hbo
            obtain ⟨rfl, rfl⟩ := hbo
            have HX := Lib.hid hx; clear hx
            have hy1 := (hext.cell (p := ⟨b, off + (k + 1) * 3, none⟩) hb).trans hx1
            have hy2 := (hext.cell (p := ⟨b, off + (k + 1) * 3 + 1, none⟩) hb).trans hx2
            have hy3 := (hext.cell (p := ⟨b, off + (k + 1) * 3 + 2, none⟩) hb).trans hx3
            clear hx1 hx2 hx3
            rw [show off + (k + 1) * 3 = off + 3 + k * 3 by omega] at hy1 hy2 hy3
            have HE := Lib.hid hext; clear hext
            obtain ⟨s, lo, hi⟩ := x
            dsimp only at hy1 hy2 hy3
            by_cases hs1 : s = 1
            · subst hs1
              go_wp2
              all_goals first
              | (go_ret
                 have e := bnd1_arg (x := (1, lo, hi)) (by dsimp only; omega) (by dsimp only; omega)
                 refine ⟨ret_int ?_, HE.out.alloc _⟩
                 rw [achk_hit (by omega) HX.out HK.out (by rw [e]; decide), e])
              | (go_roundw
                 case rel => exact ⟨k + 1, by omega, by go_num, okTo_succ HK.out HX.out (bnd1_ok (by dsimp only; omega) (by dsimp only; omega)), HE.out.alloc _⟩
                 case measure => simp [intOf]; omega)
            by_cases hs2 : s = 2
            · subst hs2
              go_wp2
              all_goals first
              | (go_ret
                 have e := bnd1_arg (x := (2, lo, hi)) (by dsimp only; omega) (by dsimp only; omega)
                 refine ⟨ret_int ?_, HE.out.alloc _⟩
                 rw [achk_hit (by omega) HX.out HK.out (by rw [e]; decide), e])
              | (go_roundw
                 case rel => exact ⟨k + 1, by omega, by go_num, okTo_succ HK.out HX.out (bnd1_ok (by dsimp only; omega) (by dsimp only; omega)), HE.out.alloc _⟩
                 case measure => simp [intOf]; omega)
            have t1 : (s != 1) = true := by simpa using hs1
            have t2 : (s != 2) = true := by simpa using hs2
            have S1 := Lib.hid hs1; have S2 := Lib.hid hs2
            clear hs1 hs2
            go_wp2
            go_ret
            refine ⟨ret_int ?_, HE.out.alloc _⟩
            have e := bnd1_kind (x := (s, lo, hi)) S1.out S2.out
            rw [achk_hit (by omega) HX.out HK.out (by rw [e]; decide), e]
          · go_wp2
            go_ret
            exact ⟨ret_int (achk_ok h0n (by omega) (by rwa [show l.length - 1 = k by omega])).symm, hext⟩

end Go.Proofs.Ytdbhneoaibbofaa
