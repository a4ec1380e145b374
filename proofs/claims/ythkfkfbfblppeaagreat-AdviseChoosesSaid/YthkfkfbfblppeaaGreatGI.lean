/- Texts of this claim, laid together: Spec Adv AdvR AdvA. Conditions: as each states. -/
import Derived.Test.YthkfkfbfblppeaaGreatGA
/- Plain functions on the data of layer 30 and small facts on them; no program in sight. Conditions: none. -/
namespace Go.Proofs.YthkfkfbfblppeaaGreat
set_option linter.unusedSimpArgs false
set_option linter.unusedVariables false

/-- a gap is valid -/
def gapB (e l : Int) : Bool := decide (0 ≤ e) && (decide (e ≤ l) && decide (l ≤ 50000))
/-- heights are valid: OK (0) or ErrArg (1) -/
def chk (de dl se sl ae al r : Int) : Int := if gapB de dl && gapB se sl && gapB ae al && decide (0 ≤ r) && decide (r ≤ 100) then 0 else 1
/-- a flag after a cycle -/
def flg (e l : Int) (was : Bool) (z : Int) : Bool := if z < e then true else if l ≤ z then false else was

theorem gapB_iff (e l : Int) : gapB e l = true ↔ 0 ≤ e ∧ e ≤ l ∧ l ≤ 50000 := by simp [gapB]

theorem flg_lo {e l : Int} {b : Bool} {z : Int} (h : z < e) : flg e l b z = true := by simp [flg, h]
theorem flg_hi {e l : Int} {b : Bool} {z : Int} (h : e ≤ z) (k : l ≤ z) : flg e l b z = false := by simp [flg, k]; omega
theorem flg_mid {e l : Int} {b : Bool} {z : Int} (h : e ≤ z) (k : z < l) : flg e l b z = b := by unfold flg; rw [if_neg (by omega), if_neg (by omega)]

section
variable {de dl se sl ae al r : Int}
theorem chk_1 (h : ¬ gapB de dl = true) : chk de dl se sl ae al r = 1 := by simp [chk, h]
theorem chk_2 (h : ¬ gapB se sl = true) : chk de dl se sl ae al r = 1 := by simp [chk, h]
theorem chk_3 (h : ¬ gapB ae al = true) : chk de dl se sl ae al r = 1 := by simp [chk, h]
theorem chk_4 (h : r < 0) : chk de dl se sl ae al r = 1 := by
  have : ¬ 0 ≤ r := by omega
  simp [chk, this]
theorem chk_5 (h : 100 < r) : chk de dl se sl ae al r = 1 := by
  have : ¬ r ≤ 100 := by omega
  simp [chk, this]
theorem chk_0 (h1 : gapB de dl = true) (h2 : gapB se sl = true) (h3 : gapB ae al = true) (h4 : 0 ≤ r) (h5 : r ≤ 100) : chk de dl se sl ae al r = 0 := by simp [chk, *]
theorem chk_01 : chk de dl se sl ae al r = 0 ∨ chk de dl se sl ae al r = 1 := by unfold chk; split <;> simp
theorem chk_ok (h : chk de dl se sl ae al r = 0) : gapB de dl = true ∧ gapB se sl = true ∧ gapB ae al = true ∧ 0 ≤ r ∧ r ≤ 100 := by
  unfold chk at h
  split at h
  · rename_i h'; simp at h'; exact ⟨h'.1.1.1.1, h'.1.1.1.2, h'.1.1.2, h'.1.2, h'.2⟩
  · simp at h
end

/-- Update: the three flags and the error -/
def upd (de dl se sl ae al r : Int) (bd bs ba : Bool) (z : Int) : Bool × Bool × Bool × Int :=
  if chk de dl se sl ae al r ≠ 0 then (false, false, false, chk de dl se sl ae al r)
  else if z < -2000 ∨ 60000 < z then (false, false, false, 1) else (flg de dl bd z, flg se sl bs z, flg ae al ba z, 0)
section
variable {de dl se sl ae al r : Int} {bd bs ba : Bool} {z : Int}
theorem upd_1 (h : chk de dl se sl ae al r = 1) : upd de dl se sl ae al r bd bs ba z = (false, false, false, 1) := by simp [upd, h]
theorem upd_2 (h : chk de dl se sl ae al r = 0) (hz : z < -2000 ∨ 60000 < z) : upd de dl se sl ae al r bd bs ba z = (false, false, false, 1) := by simp [upd, h, hz]
theorem upd_0 (h : chk de dl se sl ae al r = 0) (h1 : -2000 ≤ z) (h2 : z ≤ 60000) : upd de dl se sl ae al r bd bs ba z = (flg de dl bd z, flg se sl bs z, flg ae al ba z, 0) := by
  unfold upd; rw [if_neg (by simp [h]), if_neg (by omega)]
end

/-- one advisory: sense, least rate, greatest rate -/
abbrev Bnd := Int × Int × Int
/-- its error -/
def bnd1 (x : Bnd) : Int := if x.1 ≠ 1 ∧ x.1 ≠ 2 then 6 else if x.2.2 < x.2.1 ∨ x.2.1 < -100 ∨ 100 < x.2.2 then 1 else 0
def firstErr : List Bnd → Int
  | [] => 0
  | x :: r => if bnd1 x ≠ 0 then bnd1 x else firstErr r
/-- the error of a list of advisories -/
def achk (l : List Bnd) : Int := if l.length = 0 then 3 else if 6 < l.length then 4 else firstErr (l.drop 1)

theorem bnd1_kind {x : Bnd} (h1 : x.1 ≠ 1) (h2 : x.1 ≠ 2) : bnd1 x = 6 := by simp [bnd1, h1, h2]
theorem bnd1_arg {x : Bnd} (h : x.1 = 1 ∨ x.1 = 2) (k : x.2.2 < x.2.1 ∨ x.2.1 < -100 ∨ 100 < x.2.2) : bnd1 x = 1 := by
  unfold bnd1; rw [if_neg (by omega), if_pos k]
theorem bnd1_ok {x : Bnd} (h : x.1 = 1 ∨ x.1 = 2) (k : x.2.1 ≤ x.2.2 ∧ -100 ≤ x.2.1 ∧ x.2.2 ≤ 100) : bnd1 x = 0 := by
  unfold bnd1; rw [if_neg (by omega), if_neg (by omega)]
theorem firstErr_hit : ∀ (l : List Bnd) (k : Nat) (h : k < l.length), firstErr (l.take k) = 0 → (∀ j, j < k → ∀ x, l[j]? = some x → bnd1 x = 0) → bnd1 l[k] ≠ 0 → firstErr l = bnd1 l[k]
  | [], k, h, _, _, _ => absurd h (by simp)
  | x :: r, 0, h, _, _, he => by simp only [List.getElem_cons_zero] at he ⊢; simp [firstErr, he]
  | x :: r, k + 1, h, h0, ha, he => by
    have hx : bnd1 x = 0 := ha 0 (by omega) x rfl
    simp only [List.getElem_cons_succ] at he ⊢
    simp only [firstErr, hx, ne_eq, not_true_eq_false, if_false]
    refine firstErr_hit r k (by simpa using h) ?_ (fun j hj y hy => ha (j + 1) (by omega) y (by simpa using hy)) he
    simpa [firstErr, hx] using h0
theorem firstErr_none : ∀ (l : List Bnd), (∀ (j : Nat) (x : Bnd), l[j]? = some x → bnd1 x = 0) → firstErr l = 0
  | [], _ => rfl
  | x :: r, h => by
    have hx : bnd1 x = 0 := h 0 x rfl
    simp only [firstErr, hx, ne_eq, not_true_eq_false, if_false]
    exact firstErr_none r fun j y hy => h (j + 1) y (by simpa using hy)
/-- all advisories but the first up to number k are in order -/
def okTo (l : List Bnd) (k : Nat) : Prop := ∀ j, j < k → ∀ x, l[j + 1]? = some x → bnd1 x = 0
theorem okTo_succ {l : List Bnd} {k : Nat} (h : okTo l k) {x : Bnd} (hx : l[k + 1]? = some x) (e : bnd1 x = 0) : okTo l (k + 1) := by
  intro j hj y hy
  by_cases hjk : j = k
  · subst hjk; rw [hx] at hy; cases hy; exact e
  · exact h j (by omega) y hy
theorem firstErr_take0 (l : List Bnd) (h : ∀ (j : Nat) (x : Bnd), l[j]? = some x → bnd1 x = 0) (k : Nat) : firstErr (l.take k) = 0 := by
  refine firstErr_none _ fun j x hx => ?_
  rw [List.getElem?_take] at hx
  split at hx
  · exact h j x hx
  · cases hx
theorem achk_hit {l : List Bnd} {k : Nat} (h1 : l.length ≤ 6) {x : Bnd} (hx : l[k + 1]? = some x) (h : okTo l k) (he : bnd1 x ≠ 0) : achk l = bnd1 x := by
  have hlt : k + 1 < l.length := (List.getElem?_eq_some_iff.1 hx).1
  have hk : k < (l.drop 1).length := by simp; omega
  have hd : ∀ j, (l.drop 1)[j]? = l[j + 1]? := fun j => by rw [List.getElem?_drop, Nat.add_comm]
  have hxk : (l.drop 1)[k] = x := by
    have := hd k
    rw [hx, List.getElem?_eq_getElem hk] at this
    exact Option.some.inj this
  unfold achk
  rw [if_neg (by omega), if_neg (by omega), ← hxk]
  refine firstErr_hit _ k hk ?_ (fun j hj y hy => h j hj y (by rw [← hd]; exact hy)) (by rw [hxk]; exact he)
  refine firstErr_none _ fun j y hy => ?_
  rw [List.getElem?_take] at hy
  split at hy
  · exact h j ‹_› y (by rw [← hd]; exact hy)
  · cases hy
theorem achk_ok {l : List Bnd} (h0 : 0 < l.length) (h1 : l.length ≤ 6) (h : okTo l (l.length - 1)) : achk l = 0 := by
  unfold achk
  rw [if_neg (by omega), if_neg (by omega)]
  refine firstErr_none _ fun j y hy => ?_
  have hd : (l.drop 1)[j]? = l[j + 1]? := by rw [List.getElem?_drop, Nat.add_comm]
  rw [hd] at hy
  have := (List.getElem?_eq_some_iff.1 hy).1
  exact h j (by omega) y hy

/-- Weaken: sense, rate, keep, error -/
def weak (c r : Int) (bd bs ba : Bool) (s rt : Int) (kp : Bool) : Int × Int × Bool × Int :=
  if c ≠ 0 then (0, 0, false, c) else if 2 < s then (0, 0, false, 6) else if rt < -100 ∨ 100 < rt then (0, 0, false, 1)
  else if ba then (0, 0, false, 0) else if s ≠ 2 ∨ rt ≤ 0 then (s, rt, kp, 0) else if bd then (2, 0, true, 0)
  else if bs ∧ r < rt then (2, r, kp || (r == 0), 0) else (s, rt, kp, 0)

section
variable {c r : Int} {bd bs ba : Bool} {s rt : Int} {kp : Bool}
theorem weak_c (h : c = 1) : weak c r bd bs ba s rt kp = (0, 0, false, 1) := by simp [weak, h]
theorem weak_k (h : c = 0) (h1 : 2 < s) : weak c r bd bs ba s rt kp = (0, 0, false, 6) := by simp [weak, h, h1]
theorem weak_r (h : c = 0) (h1 : s ≤ 2) (h2 : rt < -100 ∨ 100 < rt) : weak c r bd bs ba s rt kp = (0, 0, false, 1) := by
  unfold weak; rw [if_neg (by simp [h]), if_neg (by omega), if_pos h2]
theorem weak_a (h : c = 0) (h1 : s ≤ 2) (h2 : -100 ≤ rt ∧ rt ≤ 100) (h3 : ba = true) : weak c r bd bs ba s rt kp = (0, 0, false, 0) := by
  unfold weak; rw [if_neg (by simp [h]), if_neg (by omega), if_neg (by omega), if_pos h3]
theorem weak_s (h : c = 0) (h1 : s ≤ 2) (h2 : -100 ≤ rt ∧ rt ≤ 100) (h3 : ba = false) (h4 : s ≠ 2 ∨ rt ≤ 0) : weak c r bd bs ba s rt kp = (s, rt, kp, 0) := by
  unfold weak; rw [if_neg (by simp [h]), if_neg (by omega), if_neg (by omega), if_neg (by simp [h3]), if_pos h4]
theorem weak_d (h : c = 0) (h1 : s = 2) (h2 : 0 < rt ∧ rt ≤ 100) (h3 : ba = false) (h4 : bd = true) : weak c r bd bs ba s rt kp = (2, 0, true, 0) := by
  unfold weak; rw [if_neg (by simp [h]), if_neg (by omega), if_neg (by omega), if_neg (by simp [h3]), if_neg (by omega), if_pos h4]
theorem weak_f (h : c = 0) (h1 : s = 2) (h2 : 0 < rt ∧ rt ≤ 100) (h3 : ba = false) (h4 : bd = false) (h5 : bs = true) (h6 : r < rt) : weak c r bd bs ba s rt kp = (2, r, kp || (r == 0), 0) := by
  unfold weak; rw [if_neg (by simp [h]), if_neg (by omega), if_neg (by omega), if_neg (by simp [h3]), if_neg (by omega), if_neg (by simp [h4]), if_pos ⟨h5, h6⟩]
theorem weak_g (h : c = 0) (h1 : s = 2) (h2 : 0 < rt ∧ rt ≤ 100) (h3 : ba = false) (h4 : bd = false) (h5 : bs = false ∨ rt ≤ r) : weak c r bd bs ba s rt kp = (2, rt, kp, 0) := by
  unfold weak; rw [if_neg (by simp [h]), if_neg (by omega), if_neg (by omega), if_neg (by simp [h3]), if_neg (by omega), if_neg (by simp [h4]), if_neg (by rcases h5 with h5 | h5 <;> simp [h5] <;> omega), h1]
end

end Go.Proofs.YthkfkfbfblppeaaGreat

/- Walks of advise.Check and of its reference. Conditions: the argument reads as a slice of advisories. -/
namespace Go.Proofs.YthkfkfbfblppeaaGreat
set_option linter.unusedSimpArgs false
set_option linter.unusedVariables false
open Go.RowKit

/-- v reads as the advisories l. -/
abbrev RdBnd (w : World) (v : Value) (l : List Bnd) : Prop := RdN 3 w v (l.map fun x => [.int .u8 x.1, .int .i64 x.2.1, .int .i64 x.2.2])

theorem RdBnd.get {w : World} {v : Value} {l : List Bnd} (h : RdBnd w v l) : ∃ a cap, v = .slice a l.length cap ∧ l.length ≤ cap ∧ cap ≤ 9223372036854775807 ∧
    ∀ i x, l[i]? = some x → ∃ b off, a = some ⟨b, off, none⟩ ∧ b < w.heap.size ∧ w.cell? ⟨b, off + i * 3, none⟩ = some (.int .u8 x.1) ∧ w.cell? ⟨b, off + i * 3 + 1, none⟩ = some (.int .i64 x.2.1) ∧ w.cell? ⟨b, off + i * 3 + 2, none⟩ = some (.int .i64 x.2.2) := by
  obtain ⟨a, cap, hv, hc, hm, hr⟩ := h
  simp only [List.length_map] at hv hc hr
  refine ⟨a, cap, hv, hc, hm, fun i x hx => ?_⟩
  have hi := (List.getElem?_eq_some_iff.1 hx).1
  obtain ⟨b, off, ha, hb, hy⟩ := hr i hi
  have e : (l.map fun x : Bnd => [Value.int .u8 x.1, .int .i64 x.2.1, .int .i64 x.2.2]).getD i [] = [.int .u8 x.1, .int .i64 x.2.1, .int .i64 x.2.2] := by simp [hx]
  rw [e] at hy
  exact ⟨b, off, ha, hb, hy 0 (by omega), hy 1 (by omega), hy 2 (by omega)⟩

set_option maxHeartbeats 1000000 in
theorem achk_any (v : Value) (l : List Bnd) (w : World) (h : RdBnd w v l) :
    Calls Tryz.prog 152 #[v] w fun en w' => en = .returned (.int .i64 (achk l)) ∧ Ext w w' := by
  obtain ⟨a, cap, rfl, hc, hm, hr⟩ := h.get
  clear h
  have HR := Lib.hid hr; clear hr
  by_cases h0 : l.length = 0
  · have h0' : ((l.length : Int) == 0) = true := by simp [h0]
    have hA : achk l = 3 := by simp [achk, h0]
    go_enter Tryz.func152, Tryz.ntmps152
    go_wp2
    go_ret
    exact ⟨ret_int hA.symm, Ext.refl _⟩
  · have h0' : ((l.length : Int) == 0) = false := by simp; intro h; simp [h] at h0
    have h0n : 0 < l.length := by omega
    by_cases h6 : 6 < l.length
    · have hA : achk l = 4 := by unfold achk; rw [if_neg h0, if_pos h6]
      have HA := Lib.hid hA; clear hA
      go_enter Tryz.func152, Tryz.ntmps152
      go_wp2
      go_ret
      exact ⟨ret_int HA.out.symm, Ext.refl _⟩
    · have H0 := Lib.hid h0; clear h0
      have h6' : decide (6 < (l.length : Int)) = false := by simp; omega
      by_cases h1 : l.length = 1
      · have hA : achk l = 0 := achk_ok h0n (by omega) (by intro j hj; omega)
        have HA := Lib.hid hA; clear hA
        rw [h1] at *
        have hL : ((1 : Nat) : Int) = 1 := rfl
        by_cases hcap : cap = 1
        all_goals
          go_enter Tryz.func152, Tryz.ntmps152
          go_wp2
          refine wp_loop_rounds 1 ?_
          rw [rounds_succ]
          go_wp2
          go_ret
          exact ⟨ret_int HA.out.symm, Ext.refl _⟩
      · obtain ⟨b, off, rfl, hb, -⟩ := HR.out 0 l[0] (by simp)
        have hcap : ¬ cap = 1 := by omega
        have hl1 : 1 < l.length := by omega
        clear h1
        go_enter Tryz.func152, Tryz.ntmps152
        go_wp2
        go_loopw [16] (fun i wr => ∃ k : Nat, k ≤ l.length - 1 ∧ i = .int .i64 k ∧ okTo l k ∧ Ext w wr) (fun i _ => l.length - 1 - (intOf i).toNat)
        case atStart => exact ⟨0, by omega, rfl, (fun j hj => by omega), Ext.refl w⟩
        case round =>
          obtain ⟨k, hk, rfl, hok, hext⟩ := hrel
          have HK := Lib.hid hok; clear hok
          by_cases hlt : k < l.length - 1
          · obtain ⟨x, hx⟩ : ∃ x, l[k + 1]? = some x := ⟨l[k + 1], by rw [List.getElem?_eq_getElem]⟩
            obtain ⟨b', off', hbo, -, hx1, hx2, hx3⟩ := HR.out (k + 1) x hx
            simp only [Option.some.injEq, Addr.mk.injEq, and_true] at hbo
            obtain ⟨rfl, rfl⟩ := hbo
            have HX := Lib.hid hx; clear hx
            have hy1 := (hext.cell (p := ⟨b, off + (k + 1) * 3, none⟩) hb).trans hx1
            have hy2 := (hext.cell (p := ⟨b, off + (k + 1) * 3 + 1, none⟩) hb).trans hx2
            have hy3 := (hext.cell (p := ⟨b, off + (k + 1) * 3 + 2, none⟩) hb).trans hx3
            clear hx1 hx2 hx3
            rw [show off + (k + 1) * 3 = off + 3 + k * 3 by omega] at hy1 hy2 hy3
            have HE := Lib.hid hext; clear hext
            obtain ⟨s, lo, hi⟩ := x
            dsimp only at hy1 hy2 hy3
            by_cases hs1 : s = 1
            · subst hs1
              go_wp2
              all_goals first
              | (go_ret
                 have e := bnd1_arg (x := (1, lo, hi)) (by dsimp only; omega) (by dsimp only; omega)
                 refine ⟨ret_int ?_, HE.out.alloc _⟩
                 rw [achk_hit (by omega) HX.out HK.out (by rw [e]; decide), e])
              | (go_roundw
                 case rel => exact ⟨k + 1, by omega, by go_num, okTo_succ HK.out HX.out (bnd1_ok (by dsimp only; omega) (by dsimp only; omega)), HE.out.alloc _⟩
                 case measure => simp [intOf]; omega)
            by_cases hs2 : s = 2
            · subst hs2
              go_wp2
              all_goals first
              | (go_ret
                 have e := bnd1_arg (x := (2, lo, hi)) (by dsimp only; omega) (by dsimp only; omega)
                 refine ⟨ret_int ?_, HE.out.alloc _⟩
                 rw [achk_hit (by omega) HX.out HK.out (by rw [e]; decide), e])
              | (go_roundw
                 case rel => exact ⟨k + 1, by omega, by go_num, okTo_succ HK.out HX.out (bnd1_ok (by dsimp only; omega) (by dsimp only; omega)), HE.out.alloc _⟩
                 case measure => simp [intOf]; omega)
            have t1 : (s != 1) = true := by simpa using hs1
            have t2 : (s != 2) = true := by simpa using hs2
            have S1 := Lib.hid hs1; have S2 := Lib.hid hs2
            clear hs1 hs2
            go_wp2
            go_ret
            refine ⟨ret_int ?_, HE.out.alloc _⟩
            have e := bnd1_kind (x := (s, lo, hi)) S1.out S2.out
            rw [achk_hit (by omega) HX.out HK.out (by rw [e]; decide), e]
          · go_wp2
            go_ret
            exact ⟨ret_int (achk_ok h0n (by omega) (by rwa [show l.length - 1 = k by omega])).symm, hext⟩

end Go.Proofs.YthkfkfbfblppeaaGreat

/- Walk of the reference's Check of advisories. Conditions: the argument reads as a slice of advisories. -/
namespace Go.Proofs.YthkfkfbfblppeaaGreat
set_option linter.unusedSimpArgs false
set_option linter.unusedVariables false
open Go.RowKit

set_option maxHeartbeats 2000000 in
theorem refAchk_any (v : Value) (l : List Bnd) (w : World) (h : RdBnd w v l) :
    Calls Tryz.prog 147 #[v] w fun en w' => en = .returned (.int .i64 (achk l)) ∧ Ext w w' := by
  obtain ⟨a, cap, rfl, hc, hm, hr⟩ := h.get
  clear h
  have HR := Lib.hid hr; clear hr
  by_cases h0 : l.length = 0
  · have h0' : ((l.length : Int) == 0) = true := by simp [h0]
    have hA : achk l = 3 := by simp [achk, h0]
    go_enter Tryz.func147, Tryz.ntmps147
    go_wp2
    go_ret
    exact ⟨ret_int hA.symm, Ext.refl _⟩
  · have h0' : ((l.length : Int) == 0) = false := by simp; intro h; simp [h] at h0
    have h0n : 0 < l.length := by omega
    by_cases h6 : 6 < l.length
    · have hA : achk l = 4 := by unfold achk; rw [if_neg h0, if_pos h6]
      have HA := Lib.hid hA; clear hA
      go_enter Tryz.func147, Tryz.ntmps147
      go_wp2
      go_ret
      exact ⟨ret_int HA.out.symm, Ext.refl _⟩
    · have H0 := Lib.hid h0; clear h0
      have h6' : decide (6 < (l.length : Int)) = false := by simp; omega
      go_enter Tryz.func147, Tryz.ntmps147
      go_wp2
      go_loopw [3] (fun i wr => ∃ k : Nat, k + 1 ≤ l.length ∧ i = .int .i64 (k + 1 : Nat) ∧ okTo l k ∧ Ext w wr) (fun i _ => l.length - (intOf i).toNat)
      case atStart => exact ⟨0, by omega, rfl, (fun j hj => by omega), Ext.refl w⟩
      case round =>
        obtain ⟨k, hk, rfl, hok, hext⟩ := hrel
        have HK := Lib.hid hok; clear hok
        by_cases hlt : k + 1 < l.length
        · obtain ⟨x, hx⟩ : ∃ x, l[k + 1]? = some x := ⟨l[k + 1], by rw [List.getElem?_eq_getElem]⟩
          obtain ⟨b, off, rfl, hb, hx1, hx2, hx3⟩ := HR.out (k + 1) x hx
          have HX := Lib.hid hx; clear hx
          have hy1 := (hext.cell (p := ⟨b, off + (k + 1) * 3, none⟩) hb).trans hx1
          have hy2 := (hext.cell (p := ⟨b, off + (k + 1) * 3 + 1, none⟩) hb).trans hx2
          have hy3 := (hext.cell (p := ⟨b, off + (k + 1) * 3 + 2, none⟩) hb).trans hx3
          clear hx1 hx2 hx3
          have hz := hext.size
          have hbr : b < wr.heap.size := by omega
          have HE := Lib.hid hext; clear hext
          have q1 : (0 : Int) ≤ (k : Int) + 1 := by omega
          have q2 : (k : Int) + 1 < (l.length : Int) := by omega
          obtain ⟨s, lo, hi⟩ := x
          dsimp only at hy1 hy2 hy3
          by_cases hs1 : s = 1
          · subst hs1
            go_wp2_with fail
            (refine wp_region_quietE (by kernel_rfl) (by kernel_rfl) ?_; (repeat (any_goals (first | go_big_quiet_step ((fail)) | (refine wpQuiet_step (fun K hK => ?_); go_simp; refine hK _ ?_; clear hK K) | (refine wpQuiet_step (fun K hK => ?_); go_simp; split <;> first | (exfalso; omega) | (refine hK _ ?_; clear hK K))))); all_goals (refine wpQuiet_nil ?_; rintro w1 ⟨⟨_, hx1⟩, rfl⟩; (try dsimp only); have hz1 := hx1.size; (try simp only [World.size_alloc, World.size_setCell, World.size_drew, size_drewN] at hz1); obtain ⟨hc1, hf1⟩ := hx1.old (B := w.heap.size) (by (try simp only [World.size_alloc, World.size_setCell, World.size_drew, size_drewN]); omega)))
            all_goals go_wp2
            all_goals first
              | (go_ret
                 have e := bnd1_arg (x := (1, lo, hi)) (by dsimp only; omega) (by dsimp only; omega)
                 refine ⟨ret_int ?_, by have hE := HE.out; (repeat (first | (with_reducible exact Ext.refl _) | (with_reducible assumption) | (with_reducible refine Ext.alloc ?_ _) | ((with_reducible refine Ext.setp ?_ ?_); focus (dsimp only; omega)) | (with_reducible refine Ext.drew ?_) | (with_reducible refine Ext.drewN ?_ _) | (with_reducible refine Ext.trans ?_ (by assumption))))⟩
                 rw [achk_hit (by omega) HX.out HK.out (by rw [e]; decide), e])
              | (go_roundw
                 case rel => exact ⟨k + 1, by omega, by go_num, okTo_succ HK.out HX.out (bnd1_ok (by dsimp only; omega) (by dsimp only; omega)), by have hE := HE.out; (repeat (first | (with_reducible exact Ext.refl _) | (with_reducible assumption) | (with_reducible refine Ext.alloc ?_ _) | ((with_reducible refine Ext.setp ?_ ?_); focus (dsimp only; omega)) | (with_reducible refine Ext.drew ?_) | (with_reducible refine Ext.drewN ?_ _) | (with_reducible refine Ext.trans ?_ (by assumption))))⟩
                 case measure => simp [intOf]; omega)
          by_cases hs2 : s = 2
          · subst hs2
            go_wp2_with fail
            (refine wp_region_quietE (by kernel_rfl) (by kernel_rfl) ?_; (repeat (any_goals (first | go_big_quiet_step ((fail)) | (refine wpQuiet_step (fun K hK => ?_); go_simp; refine hK _ ?_; clear hK K) | (refine wpQuiet_step (fun K hK => ?_); go_simp; split <;> first | (exfalso; omega) | (refine hK _ ?_; clear hK K))))); all_goals (refine wpQuiet_nil ?_; rintro w1 ⟨⟨_, hx1⟩, rfl⟩; (try dsimp only); have hz1 := hx1.size; (try simp only [World.size_alloc, World.size_setCell, World.size_drew, size_drewN] at hz1); obtain ⟨hc1, hf1⟩ := hx1.old (B := w.heap.size) (by (try simp only [World.size_alloc, World.size_setCell, World.size_drew, size_drewN]); omega)))
            all_goals go_wp2
            all_goals first
              | (go_ret
                 have e := bnd1_arg (x := (2, lo, hi)) (by dsimp only; omega) (by dsimp only; omega)
                 refine ⟨ret_int ?_, by have hE := HE.out; (repeat (first | (with_reducible exact Ext.refl _) | (with_reducible assumption) | (with_reducible refine Ext.alloc ?_ _) | ((with_reducible refine Ext.setp ?_ ?_); focus (dsimp only; omega)) | (with_reducible refine Ext.drew ?_) | (with_reducible refine Ext.drewN ?_ _) | (with_reducible refine Ext.trans ?_ (by assumption))))⟩
                 rw [achk_hit (by omega) HX.out HK.out (by rw [e]; decide), e])
              | (go_roundw
                 case rel => exact ⟨k + 1, by omega, by go_num, okTo_succ HK.out HX.out (bnd1_ok (by dsimp only; omega) (by dsimp only; omega)), by have hE := HE.out; (repeat (first | (with_reducible exact Ext.refl _) | (with_reducible assumption) | (with_reducible refine Ext.alloc ?_ _) | ((with_reducible refine Ext.setp ?_ ?_); focus (dsimp only; omega)) | (with_reducible refine Ext.drew ?_) | (with_reducible refine Ext.drewN ?_ _) | (with_reducible refine Ext.trans ?_ (by assumption))))⟩
                 case measure => simp [intOf]; omega)
          have t1 : (s != 1) = true := by simpa using hs1
          have t2 : (s != 2) = true := by simpa using hs2
          have S1 := Lib.hid hs1; have S2 := Lib.hid hs2
          clear hs1 hs2
          go_wp2
          go_ret
          refine ⟨ret_int ?_, HE.out⟩
          have e := bnd1_kind (x := (s, lo, hi)) S1.out S2.out
          rw [achk_hit (by omega) HX.out HK.out (by rw [e]; decide), e]
        · go_wp2
          go_ret
          exact ⟨ret_int (achk_ok h0n (by omega) (by rwa [show l.length - 1 = k by omega])).symm, hext⟩

end Go.Proofs.YthkfkfbfblppeaaGreat

/- Walks of the small functions of advise and of its reference (written by mkadva.py). Conditions: the advisories read as a slice. -/
namespace Go.Proofs.YthkfkfbfblppeaaGreat
set_option linter.unusedSimpArgs false
set_option linter.unusedVariables false
open Go.RowKit

/-- The bounds of a lie inside those of b. -/
def ins (a b : Bnd) : Bool := decide (b.2.1 ≤ a.2.1) && decide (a.2.2 ≤ b.2.2)
/-- Advisory number i. -/
def bAt (l : List Bnd) (i : Nat) : Bnd := l.getD i (0, 0, 0)
/-- The kind of a change. -/
def chg (l : List Bnd) (a b : Nat) : Int :=
  if a = b then 1 else if b = 0 then 2 else if a = 0 then 3
  else if (bAt l a).1 ≠ (bAt l b).1 then 4
  else if ins (bAt l b) (bAt l a) = ins (bAt l a) (bAt l b) then 7
  else if ins (bAt l b) (bAt l a) = true then 5 else 6
theorem bAt_some {l : List Bnd} {i : Nat} (h : i < l.length) : l[i]? = some (bAt l i) := by
  unfold bAt; rw [List.getD_eq_getElem?_getD, List.getElem?_eq_getElem h]; rfl
/-- The error of a number. -/
def cn1 (l : List Bnd) (n : Int) : Int := if achk l ≠ 0 then achk l else if 0 ≤ n ∧ n < l.length then 0 else 8
/-- The error of two numbers. -/
def cn2 (l : List Bnd) (n m : Int) : Int := if achk l ≠ 0 then achk l else if (0 ≤ n ∧ n < l.length) ∧ 0 ≤ m ∧ m < l.length then 0 else 8

theorem inside_any (s1 a1 b1 s2 a2 b2 : Int) (w : World) :
    Calls Tryz.prog 153 #[.agg #[.int .u8 s1, .int .i64 a1, .int .i64 b1], .agg #[.int .u8 s2, .int .i64 a2, .int .i64 b2]] w fun e w' => e = .returned (.bool (ins (s1, a1, b1) (s2, a2, b2))) ∧ Ext w w' := by
  by_cases h1 : a2 ≤ a1
  · by_cases h2 : b1 ≤ b2
    · have e : ins (s1, a1, b1) (s2, a2, b2) = true := by simp [ins, h1, h2]
      rw [e]
      go_enter Tryz.func153, Tryz.ntmps153
      go_wp2_with fail
      go_ret
      exact ⟨rfl, by (repeat (first | (with_reducible exact Ext.refl _) | (with_reducible assumption) | (with_reducible refine Ext.alloc ?_ _) | ((with_reducible refine Ext.setp ?_ ?_); focus (dsimp only; omega)) | (with_reducible refine Ext.drew ?_) | (with_reducible refine Ext.drewN ?_ _) | (with_reducible refine Ext.trans ?_ (by assumption))))⟩
    · have e : ins (s1, a1, b1) (s2, a2, b2) = false := by simp [ins, h2]
      rw [e]
      have h3 : b2 < b1 := by omega
      go_enter Tryz.func153, Tryz.ntmps153
      go_wp2_with fail
      go_ret
      exact ⟨rfl, by (repeat (first | (with_reducible exact Ext.refl _) | (with_reducible assumption) | (with_reducible refine Ext.alloc ?_ _) | ((with_reducible refine Ext.setp ?_ ?_); focus (dsimp only; omega)) | (with_reducible refine Ext.drew ?_) | (with_reducible refine Ext.drewN ?_ _) | (with_reducible refine Ext.trans ?_ (by assumption))))⟩
  · have e : ins (s1, a1, b1) (s2, a2, b2) = false := by simp [ins, h1]
    rw [e]
    go_enter Tryz.func153, Tryz.ntmps153
    go_wp2_with fail
    go_ret
    exact ⟨rfl, by (repeat (first | (with_reducible exact Ext.refl _) | (with_reducible assumption) | (with_reducible refine Ext.alloc ?_ _) | ((with_reducible refine Ext.setp ?_ ?_); focus (dsimp only; omega)) | (with_reducible refine Ext.drew ?_) | (with_reducible refine Ext.drewN ?_ _) | (with_reducible refine Ext.trans ?_ (by assumption))))⟩

theorem refInside_any (s1 a1 b1 s2 a2 b2 : Int) (w : World) :
    Calls Tryz.prog 149 #[.agg #[.int .u8 s1, .int .i64 a1, .int .i64 b1], .agg #[.int .u8 s2, .int .i64 a2, .int .i64 b2]] w fun e w' => e = .returned (.bool (ins (s1, a1, b1) (s2, a2, b2))) ∧ Ext w w' := by
  by_cases h1 : a2 ≤ a1
  · by_cases h2 : b1 ≤ b2
    · have e : ins (s1, a1, b1) (s2, a2, b2) = true := by simp [ins, h1, h2]
      rw [e]
      go_enter Tryz.func149, Tryz.ntmps149
      go_wp2_with fail
      go_ret
      exact ⟨rfl, by (repeat (first | (with_reducible exact Ext.refl _) | (with_reducible assumption) | (with_reducible refine Ext.alloc ?_ _) | ((with_reducible refine Ext.setp ?_ ?_); focus (dsimp only; omega)) | (with_reducible refine Ext.drew ?_) | (with_reducible refine Ext.drewN ?_ _) | (with_reducible refine Ext.trans ?_ (by assumption))))⟩
    · have e : ins (s1, a1, b1) (s2, a2, b2) = false := by simp [ins, h2]
      rw [e]
      have h3 : b2 < b1 := by omega
      go_enter Tryz.func149, Tryz.ntmps149
      go_wp2_with fail
      go_ret
      exact ⟨rfl, by (repeat (first | (with_reducible exact Ext.refl _) | (with_reducible assumption) | (with_reducible refine Ext.alloc ?_ _) | ((with_reducible refine Ext.setp ?_ ?_); focus (dsimp only; omega)) | (with_reducible refine Ext.drew ?_) | (with_reducible refine Ext.drewN ?_ _) | (with_reducible refine Ext.trans ?_ (by assumption))))⟩
  · have e : ins (s1, a1, b1) (s2, a2, b2) = false := by simp [ins, h1]
    rw [e]
    go_enter Tryz.func149, Tryz.ntmps149
    go_wp2_with fail
    go_ret
    exact ⟨rfl, by (repeat (first | (with_reducible exact Ext.refl _) | (with_reducible assumption) | (with_reducible refine Ext.alloc ?_ _) | ((with_reducible refine Ext.setp ?_ ?_); focus (dsimp only; omega)) | (with_reducible refine Ext.drew ?_) | (with_reducible refine Ext.drewN ?_ _) | (with_reducible refine Ext.trans ?_ (by assumption))))⟩

theorem inside_b (s1 a1 b1 s2 a2 b2 : Int) (w : World) (b : Bool) (h : ins (s1, a1, b1) (s2, a2, b2) = b) :
    Calls Tryz.prog 153 #[.agg #[.int .u8 s1, .int .i64 a1, .int .i64 b1], .agg #[.int .u8 s2, .int .i64 a2, .int .i64 b2]] w fun e w' => e = .returned (.bool b) ∧ Ext w w' := by
  subst h; exact inside_any _ _ _ _ _ _ _

theorem refInside_b (s1 a1 b1 s2 a2 b2 : Int) (w : World) (b : Bool) (h : ins (s1, a1, b1) (s2, a2, b2) = b) :
    Calls Tryz.prog 149 #[.agg #[.int .u8 s1, .int .i64 a1, .int .i64 b1], .agg #[.int .u8 s2, .int .i64 a2, .int .i64 b2]] w fun e w' => e = .returned (.bool b) ∧ Ext w w' := by
  subst h; exact refInside_any _ _ _ _ _ _ _

theorem outside_any (n m : Int) (w : World) :
    Calls Tryz.prog 93 #[.int .i64 n, .int .i64 m] w fun e w' => e = .returned (.bool (decide (n < 0 ∨ m < n))) ∧ w' = w := by
  by_cases h1 : n < 0
  · rw [decide_eq_true (Or.inl h1)]
    have q : ¬ (0 : Int) ≤ n := by omega
    go_enter Tryz.func93, Tryz.ntmps93
    go_wp2_with fail
    go_ret
    exact ⟨rfl, rfl⟩
  · have q : (0 : Int) ≤ n := by omega
    by_cases h2 : m < n
    · rw [decide_eq_true (Or.inr h2)]
      have q2 : ¬ n ≤ m := by omega
      go_enter Tryz.func93, Tryz.ntmps93
      go_wp2_with fail
      go_ret
      exact ⟨rfl, rfl⟩
    · rw [decide_eq_false (by omega)]
      have q2 : n ≤ m := by omega
      go_enter Tryz.func93, Tryz.ntmps93
      go_wp2_with fail
      go_ret
      exact ⟨rfl, rfl⟩

theorem within_any (n m : Int) (w : World) :
    Calls Tryz.prog 85 #[.int .i64 n, .int .i64 m] w fun e w' => e = .returned (.bool (decide (0 ≤ n ∧ n ≤ m))) ∧ w' = w := by
  by_cases h1 : n < 0
  · rw [decide_eq_false (by omega)]
    have q : ¬ (0 : Int) ≤ n := by omega
    go_enter Tryz.func85, Tryz.ntmps85
    go_wp2_with fail
    go_ret
    exact ⟨rfl, rfl⟩
  · have q : (0 : Int) ≤ n := by omega
    by_cases h2 : m < n
    · rw [decide_eq_false (by omega)]
      have q2 : ¬ n ≤ m := by omega
      go_enter Tryz.func85, Tryz.ntmps85
      go_wp2_with fail
      go_ret
      exact ⟨rfl, rfl⟩
    · rw [decide_eq_true (by omega)]
      have q2 : n ≤ m := by omega
      go_enter Tryz.func85, Tryz.ntmps85
      go_wp2_with fail
      go_ret
      exact ⟨rfl, rfl⟩

theorem is_any (a : Option Addr) (k c : Nat) (n : Int) (w : World) :
    Calls Tryz.prog 148 #[.slice a k c, .int .i64 n] w fun e w' => e = .returned (.bool (decide (0 ≤ n ∧ n < k))) ∧ w' = w := by
  by_cases h1 : 0 ≤ n
  · by_cases h2 : n < k
    · rw [decide_eq_true ⟨h1, h2⟩]
      go_enter Tryz.func148, Tryz.ntmps148
      go_wp2_with fail
      go_ret
      exact ⟨rfl, rfl⟩
    · rw [decide_eq_false (by omega)]
      go_enter Tryz.func148, Tryz.ntmps148
      go_wp2_with fail
      go_ret
      exact ⟨rfl, rfl⟩
  · rw [decide_eq_false (by omega)]
    go_enter Tryz.func148, Tryz.ntmps148
    go_wp2_with fail
    go_ret
    exact ⟨rfl, rfl⟩

theorem checkNumbers1_any (v : Value) (l : List Bnd) (n : Int) (g : Nat) (w : World) (h : RdBnd w v l) (hg : Blk w g #[.int .i64 n] 3) :
    Calls Tryz.prog 91 #[v, .slice (some ⟨g, 0, none⟩) 1 1] w fun en w' => en = .returned (.int .i64 (cn1 l n)) ∧ Ext w w' := by
  have h0 := h
  obtain ⟨a, cap, rfl, hc, hm, _⟩ := h.get
  have H := Lib.hid h0; have HG := Lib.hid hg
  clear h h0 hg
  obtain ⟨ac, hac⟩ : ∃ x, x = achk l := ⟨_, rfl⟩
  have hak := fun W h => achk_any (.slice a l.length cap) l W h
  have hcn : cn1 l n = if ac ≠ 0 then ac else if 0 ≤ n ∧ n < l.length then 0 else 8 := by rw [hac]; rfl
  rw [← hac] at hak
  have HK := Lib.hid hak; have HC := Lib.hid hcn
  clear hak hac hcn
  by_cases ha : ac = 0
  · subst ha
    go_enter Tryz.func91, Tryz.ntmps91
    go_wp2_with fail
    refine (HK.out _ H.out).mono ?_
    rintro e w1 ⟨rfl, hx1⟩
    have hG := HG.out.ext hx1
    have c0 := hG.cell
    have HX := Lib.hid hx1
    clear hx1 hG
    go_wp2_with fail
    go_loopw [15] (fun j wr => ∃ k : Nat, k ≤ 1 ∧ j = .int .i64 k ∧ wr = w1 ∧ (0 < k → 0 ≤ n ∧ n < l.length)) (fun j _ => 1 - (intOf j).toNat)
    case atStart => exact ⟨0, by omega, rfl, rfl, by omega⟩
    case round =>
      obtain ⟨k, hk, rfl, rfl, hok⟩ := hrel
      match k, hk with
      | 0, _ =>
        clear hok
        by_cases q1 : 0 ≤ n
        · by_cases q2 : n < (l.length : Int)
          · go_wp2_with fail
            go_roundw
            case rel => exact ⟨1, by omega, by go_num, by simp, fun _ => ⟨q1, q2⟩⟩
            case measure => simp [intOf]
          · go_wp2_with fail
            go_ret
            exact ⟨by rw [HC.out, if_neg (by decide), if_neg (by omega)]; try rfl, HX.out⟩
        · go_wp2_with fail
          go_ret
          exact ⟨by rw [HC.out, if_neg (by decide), if_neg (by omega)]; try rfl, HX.out⟩
      | 1, _ =>
        have hok := hok (by omega)
        have HO := Lib.hid hok
        clear hok
        go_wp2_with fail
        go_ret
        exact ⟨by rw [HC.out, if_neg (by decide), if_pos HO.out]; try rfl, HX.out⟩
      | k + 2, hk => omega
  · have hb : (ac != 0) = true := by simpa using ha
    have HA := Lib.hid ha
    clear ha
    go_enter Tryz.func91, Tryz.ntmps91
    go_wp2_with fail
    refine (HK.out _ H.out).mono ?_
    rintro e w1 ⟨rfl, hx1⟩
    have HX := Lib.hid hx1
    clear hx1
    go_wp2_with fail
    go_ret
    exact ⟨by rw [HC.out, if_pos HA.out]; try rfl, HX.out⟩

theorem checkNumbers2_any (v : Value) (l : List Bnd) (n m : Int) (g : Nat) (w : World) (h : RdBnd w v l) (hg : Blk w g #[.int .i64 n, .int .i64 m] 3) :
    Calls Tryz.prog 91 #[v, .slice (some ⟨g, 0, none⟩) 2 2] w fun en w' => en = .returned (.int .i64 (cn2 l n m)) ∧ Ext w w' := by
  have h0 := h
  obtain ⟨a, cap, rfl, hc, hm, _⟩ := h.get
  have H := Lib.hid h0; have HG := Lib.hid hg
  clear h h0 hg
  obtain ⟨ac, hac⟩ : ∃ x, x = achk l := ⟨_, rfl⟩
  have hak := fun W h => achk_any (.slice a l.length cap) l W h
  have hcn : cn2 l n m = if ac ≠ 0 then ac else if (0 ≤ n ∧ n < l.length) ∧ 0 ≤ m ∧ m < l.length then 0 else 8 := by rw [hac]; rfl
  rw [← hac] at hak
  have HK := Lib.hid hak; have HC := Lib.hid hcn
  clear hak hac hcn
  by_cases ha : ac = 0
  · subst ha
    go_enter Tryz.func91, Tryz.ntmps91
    go_wp2_with fail
    refine (HK.out _ H.out).mono ?_
    rintro e w1 ⟨rfl, hx1⟩
    have hG := HG.out.ext hx1
    have c0 := hG.cell
    have HX := Lib.hid hx1
    clear hx1 hG
    go_wp2_with fail
    go_loopw [15] (fun j wr => ∃ k : Nat, k ≤ 2 ∧ j = .int .i64 k ∧ wr = w1 ∧ (0 < k → 0 ≤ n ∧ n < l.length) ∧ (1 < k → 0 ≤ m ∧ m < l.length)) (fun j _ => 2 - (intOf j).toNat)
    case atStart => exact ⟨0, by omega, rfl, rfl, by omega, by omega⟩
    case round =>
      obtain ⟨k, hk, rfl, rfl, hok, hok2⟩ := hrel
      match k, hk with
      | 0, _ =>
        clear hok hok2
        by_cases q1 : 0 ≤ n
        · by_cases q2 : n < (l.length : Int)
          · go_wp2_with fail
            go_roundw
            case rel => exact ⟨1, by omega, by go_num, by simp, fun _ => ⟨q1, q2⟩, by omega⟩
            case measure => simp [intOf]
          · go_wp2_with fail
            go_ret
            exact ⟨by rw [HC.out, if_neg (by decide), if_neg (by omega)]; try rfl, HX.out⟩
        · go_wp2_with fail
          go_ret
          exact ⟨by rw [HC.out, if_neg (by decide), if_neg (by omega)]; try rfl, HX.out⟩
      | 1, _ =>
        have hok := hok (by omega)
        have HO := Lib.hid hok
        clear hok hok2
        by_cases q1 : 0 ≤ m
        · by_cases q2 : m < (l.length : Int)
          · go_wp2_with fail
            go_roundw
            case rel => exact ⟨2, by omega, by go_num, by simp, fun _ => HO.out, fun _ => ⟨q1, q2⟩⟩
            case measure => simp [intOf]
          · go_wp2_with fail
            go_ret
            exact ⟨by rw [HC.out, if_neg (by decide), if_neg (by omega)]; try rfl, HX.out⟩
        · go_wp2_with fail
          go_ret
          exact ⟨by rw [HC.out, if_neg (by decide), if_neg (by omega)]; try rfl, HX.out⟩
      | 2, _ =>
        have hok := hok (by omega)
        have hok2 := hok2 (by omega)
        have HO := Lib.hid hok; have HO2 := Lib.hid hok2
        clear hok hok2
        go_wp2_with fail
        go_ret
        exact ⟨by rw [HC.out, if_neg (by decide), if_pos ⟨HO.out, HO2.out⟩]; try rfl, HX.out⟩
      | k + 3, hk => omega
  · have hb : (ac != 0) = true := by simpa using ha
    have HA := Lib.hid ha
    clear ha
    go_enter Tryz.func91, Tryz.ntmps91
    go_wp2_with fail
    refine (HK.out _ H.out).mono ?_
    rintro e w1 ⟨rfl, hx1⟩
    have HX := Lib.hid hx1
    clear hx1
    go_wp2_with fail
    go_ret
    exact ⟨by rw [HC.out, if_pos HA.out]; try rfl, HX.out⟩

set_option maxHeartbeats 2000000 in
theorem change_any (v : Value) (l : List Bnd) (i j : Nat) (w : World) (h : RdBnd w v l) (hi : i < l.length) (hj : j < l.length) :
    Calls Tryz.prog 94 #[v, .int .i64 i, .int .i64 j] w fun en w' => en = .returned (.int .u8 (chg l i j)) ∧ Ext w w' := by
  obtain ⟨a, cap, rfl, hc, hm, hr⟩ := h.get
  obtain ⟨b, off, rfl, hbl, p1, p2, p3⟩ := hr i _ (bAt_some hi)
  obtain ⟨b', off', he, _, r1, r2, r3⟩ := hr j _ (bAt_some hj)
  obtain ⟨rfl, rfl⟩ : b = b' ∧ off = off' := by simpa using he
  clear h hr he
  have hch : chg l i j = if i = j then 1 else if j = 0 then 2 else if i = 0 then 3 else if (bAt l i).1 ≠ (bAt l j).1 then 4 else if ins (bAt l j) (bAt l i) = ins (bAt l i) (bAt l j) then 7 else if ins (bAt l j) (bAt l i) = true then 5 else 6 := rfl
  obtain ⟨x, hx⟩ : ∃ x, x = bAt l i := ⟨_, rfl⟩
  obtain ⟨y, hy⟩ : ∃ y, y = bAt l j := ⟨_, rfl⟩
  rw [← hx] at hch p1 p2 p3
  rw [← hy] at hch r1 r2 r3
  clear hx hy
  obtain ⟨s1, a1, b1⟩ := x
  obtain ⟨s2, a2, b2⟩ := y
  dsimp only at p1 p2 p3 r1 r2 r3
  dsimp only at hch
  have HC := Lib.hid hch
  clear hch
  have t1 : (0 : Int) ≤ (i : Int) := by omega
  have t2 : (i : Int) < (l.length : Int) := by omega
  have t3 : (0 : Int) ≤ (j : Int) := by omega
  have t4 : (j : Int) < (l.length : Int) := by omega
  by_cases e1 : i = j
  · have q : ((i : Int) == (j : Int)) = true := by simp [e1]
    have E1 := Lib.hid e1
    clear e1
    go_enter Tryz.func94, Tryz.ntmps94
    go_wp2_with fail
    go_ret
    exact ⟨by rw [HC.out, if_pos E1.out]; try rfl, Ext.refl _⟩
  have q1 : ((i : Int) == (j : Int)) = false := by simp only [beq_eq_false_iff_ne]; omega
  have E1 := Lib.hid e1
  clear e1
  by_cases e2 : j = 0
  · have q2 : ((j : Int) == 0) = true := by simp [e2]
    have E2 := Lib.hid e2
    clear e2
    go_enter Tryz.func94, Tryz.ntmps94
    go_wp2_with fail
    go_ret
    exact ⟨by rw [HC.out, if_neg E1.out, if_pos E2.out]; try rfl, Ext.refl _⟩
  have q2 : ((j : Int) == 0) = false := by simp only [beq_eq_false_iff_ne]; omega
  have E2 := Lib.hid e2
  clear e2
  by_cases e3 : i = 0
  · have q3 : ((i : Int) == 0) = true := by simp [e3]
    have E3 := Lib.hid e3
    clear e3
    go_enter Tryz.func94, Tryz.ntmps94
    go_wp2_with fail
    go_ret
    exact ⟨by rw [HC.out, if_neg E1.out, if_neg E2.out, if_pos E3.out]; try rfl, Ext.refl _⟩
  have q3 : ((i : Int) == 0) = false := by simp only [beq_eq_false_iff_ne]; omega
  have E3 := Lib.hid e3
  clear e3
  by_cases e4 : s1 = s2
  · have q4 : (s1 != s2) = false := by simp [e4]
    have E4 := Lib.hid e4
    clear e4
    cases h1 : ins (s2, a2, b2) (s1, a1, b1) <;> cases h2 : ins (s1, a1, b1) (s2, a2, b2)
    all_goals
      have HC2 := Lib.hid (HC.out.trans (by rw [if_neg E1.out, if_neg E2.out, if_neg E3.out, if_neg (fun e => e E4.out), h1, h2]))
      clear HC
      go_enter Tryz.func94, Tryz.ntmps94
      go_wp2_with fail
      (refine wp_region_quietE (by kernel_rfl) (by kernel_rfl) ?_; (repeat (go_big_quiet_step ((fail)))); refine wpQuiet_nil ?_; rintro w1 ⟨⟨_, hx1⟩, rfl⟩; (try dsimp only); have hz1 := hx1.size; (try simp only [World.size_alloc, World.size_setCell, World.size_drew, size_drewN] at hz1); obtain ⟨hc1, hf1⟩ := hx1.old (B := w.heap.size) (by (try simp only [World.size_alloc, World.size_setCell, World.size_drew, size_drewN]); omega))
      have p1' := (hx1.cell (p := ⟨b, off + i * 3, none⟩) hbl).trans p1
      have p2' := (hx1.cell (p := ⟨b, off + i * 3 + 1, none⟩) hbl).trans p2
      have p3' := (hx1.cell (p := ⟨b, off + i * 3 + 2, none⟩) hbl).trans p3
      have r1' := (hx1.cell (p := ⟨b, off + j * 3, none⟩) hbl).trans r1
      have r2' := (hx1.cell (p := ⟨b, off + j * 3 + 1, none⟩) hbl).trans r2
      have r3' := (hx1.cell (p := ⟨b, off + j * 3 + 2, none⟩) hbl).trans r3
      have hbl' : b < w1.heap.size := Nat.lt_of_lt_of_le hbl hx1.size
      have X1 := Lib.hid hx1
      clear hx1
      go_wp2_with fail
      (refine wp_region_quietE (by kernel_rfl) (by kernel_rfl) ?_; (repeat (go_big_quiet_step ((go_at_call 153; exact quietE (inside_b _ _ _ _ _ _ _ _ (by assumption)))))); refine wpQuiet_nil ?_; rintro w1 ⟨⟨_, hx1⟩, rfl⟩; (try dsimp only); have hz1 := hx1.size; (try simp only [World.size_alloc, World.size_setCell, World.size_drew, size_drewN] at hz1); obtain ⟨hc1, hf1⟩ := hx1.old (B := w.heap.size) (by (try simp only [World.size_alloc, World.size_setCell, World.size_drew, size_drewN]); omega))
      have X2 := Lib.hid (X1.out.trans hx1)
      skip
      clear hx1
      (try rw [h1])
      (try rw [h2])
      go_wp2_with fail
      all_goals
        go_ret
        exact ⟨by rw [HC2.out]; rfl, X2.out⟩
  · have q4 : (s1 != s2) = true := by simpa using e4
    have E4 := Lib.hid e4
    clear e4
    go_enter Tryz.func94, Tryz.ntmps94
    go_wp2_with fail
    (refine wp_region_quietE (by kernel_rfl) (by kernel_rfl) ?_; (repeat (go_big_quiet_step ((fail)))); refine wpQuiet_nil ?_; rintro w1 ⟨⟨_, hx1⟩, rfl⟩; (try dsimp only); have hz1 := hx1.size; (try simp only [World.size_alloc, World.size_setCell, World.size_drew, size_drewN] at hz1); obtain ⟨hc1, hf1⟩ := hx1.old (B := w.heap.size) (by (try simp only [World.size_alloc, World.size_setCell, World.size_drew, size_drewN]); omega))
    have X1 := Lib.hid hx1
    clear hx1
    go_wp2_with fail
    go_ret
    exact ⟨by rw [HC.out, if_neg E1.out, if_neg E2.out, if_neg E3.out, if_pos E4.out]; try rfl, X1.out⟩

set_option maxHeartbeats 2000000 in
theorem refChange_any (v : Value) (l : List Bnd) (i j : Nat) (w : World) (h : RdBnd w v l) (hi : i < l.length) (hj : j < l.length) :
    Calls Tryz.prog 86 #[v, .int .i64 i, .int .i64 j] w fun en w' => en = .returned (.int .u8 (chg l i j)) ∧ Ext w w' := by
  obtain ⟨a, cap, rfl, hc, hm, hr⟩ := h.get
  obtain ⟨b, off, rfl, hbl, p1, p2, p3⟩ := hr i _ (bAt_some hi)
  obtain ⟨b', off', he, _, r1, r2, r3⟩ := hr j _ (bAt_some hj)
  obtain ⟨rfl, rfl⟩ : b = b' ∧ off = off' := by simpa using he
  clear h hr he
  have hch : chg l i j = if i = j then 1 else if j = 0 then 2 else if i = 0 then 3 else if (bAt l i).1 ≠ (bAt l j).1 then 4 else if ins (bAt l j) (bAt l i) = ins (bAt l i) (bAt l j) then 7 else if ins (bAt l j) (bAt l i) = true then 5 else 6 := rfl
  obtain ⟨x, hx⟩ : ∃ x, x = bAt l i := ⟨_, rfl⟩
  obtain ⟨y, hy⟩ : ∃ y, y = bAt l j := ⟨_, rfl⟩
  rw [← hx] at hch p1 p2 p3
  rw [← hy] at hch r1 r2 r3
  clear hx hy
  obtain ⟨s1, a1, b1⟩ := x
  obtain ⟨s2, a2, b2⟩ := y
  dsimp only at p1 p2 p3 r1 r2 r3
  dsimp only at hch
  have HC := Lib.hid hch
  clear hch
  have t1 : (0 : Int) ≤ (i : Int) := by omega
  have t2 : (i : Int) < (l.length : Int) := by omega
  have t3 : (0 : Int) ≤ (j : Int) := by omega
  have t4 : (j : Int) < (l.length : Int) := by omega
  by_cases e1 : i = j
  · have q : ((i : Int) == (j : Int)) = true := by simp [e1]
    have E1 := Lib.hid e1
    clear e1
    go_enter Tryz.func86, Tryz.ntmps86
    go_wp2_with fail
    go_ret
    exact ⟨by rw [HC.out, if_pos E1.out]; try rfl, Ext.refl _⟩
  have q1 : ((i : Int) == (j : Int)) = false := by simp only [beq_eq_false_iff_ne]; omega
  have E1 := Lib.hid e1
  clear e1
  by_cases e2 : j = 0
  · have q2 : ((j : Int) == 0) = true := by simp [e2]
    have E2 := Lib.hid e2
    clear e2
    go_enter Tryz.func86, Tryz.ntmps86
    go_wp2_with fail
    go_ret
    exact ⟨by rw [HC.out, if_neg E1.out, if_pos E2.out]; try rfl, Ext.refl _⟩
  have q2 : ((j : Int) == 0) = false := by simp only [beq_eq_false_iff_ne]; omega
  have E2 := Lib.hid e2
  clear e2
  by_cases e3 : i = 0
  · have q3 : ((i : Int) == 0) = true := by simp [e3]
    have E3 := Lib.hid e3
    clear e3
    go_enter Tryz.func86, Tryz.ntmps86
    go_wp2_with fail
    go_ret
    exact ⟨by rw [HC.out, if_neg E1.out, if_neg E2.out, if_pos E3.out]; try rfl, Ext.refl _⟩
  have q3 : ((i : Int) == 0) = false := by simp only [beq_eq_false_iff_ne]; omega
  have E3 := Lib.hid e3
  clear e3
  by_cases e4 : s1 = s2
  · have q4 : (s1 != s2) = false := by simp [e4]
    have E4 := Lib.hid e4
    clear e4
    cases h1 : ins (s2, a2, b2) (s1, a1, b1) <;> cases h2 : ins (s1, a1, b1) (s2, a2, b2)
    all_goals
      have HC2 := Lib.hid (HC.out.trans (by rw [if_neg E1.out, if_neg E2.out, if_neg E3.out, if_neg (fun e => e E4.out), h1, h2]))
      clear HC
      go_enter Tryz.func86, Tryz.ntmps86
      go_wp2_with fail
      (refine wp_region_quietE (by kernel_rfl) (by kernel_rfl) ?_; (repeat (go_big_quiet_step ((fail)))); refine wpQuiet_nil ?_; rintro w1 ⟨⟨_, hx1⟩, rfl⟩; (try dsimp only); have hz1 := hx1.size; (try simp only [World.size_alloc, World.size_setCell, World.size_drew, size_drewN] at hz1); obtain ⟨hc1, hf1⟩ := hx1.old (B := w.heap.size) (by (try simp only [World.size_alloc, World.size_setCell, World.size_drew, size_drewN]); omega))
      have p1' := (hx1.cell (p := ⟨b, off + i * 3, none⟩) hbl).trans p1
      have p2' := (hx1.cell (p := ⟨b, off + i * 3 + 1, none⟩) hbl).trans p2
      have p3' := (hx1.cell (p := ⟨b, off + i * 3 + 2, none⟩) hbl).trans p3
      have r1' := (hx1.cell (p := ⟨b, off + j * 3, none⟩) hbl).trans r1
      have r2' := (hx1.cell (p := ⟨b, off + j * 3 + 1, none⟩) hbl).trans r2
      have r3' := (hx1.cell (p := ⟨b, off + j * 3 + 2, none⟩) hbl).trans r3
      have hbl' : b < w1.heap.size := Nat.lt_of_lt_of_le hbl hx1.size
      have X1 := Lib.hid hx1
      clear hx1
      go_wp2_with fail
      (refine wp_region_quietE (by kernel_rfl) (by kernel_rfl) ?_; (repeat (go_big_quiet_step ((go_at_call 149; exact quietE (refInside_b _ _ _ _ _ _ _ _ (by assumption)))))); refine wpQuiet_nil ?_; rintro w1 ⟨⟨_, hx1⟩, rfl⟩; (try dsimp only); have hz1 := hx1.size; (try simp only [World.size_alloc, World.size_setCell, World.size_drew, size_drewN] at hz1); obtain ⟨hc1, hf1⟩ := hx1.old (B := w.heap.size) (by (try simp only [World.size_alloc, World.size_setCell, World.size_drew, size_drewN]); omega))
      have X2 := Lib.hid (X1.out.trans hx1)
      have p1 := (X2.out.cell (p := ⟨b, off + i * 3, none⟩) hbl).trans p1
      have p2 := (X2.out.cell (p := ⟨b, off + i * 3 + 1, none⟩) hbl).trans p2
      have p3 := (X2.out.cell (p := ⟨b, off + i * 3 + 2, none⟩) hbl).trans p3
      have r1 := (X2.out.cell (p := ⟨b, off + j * 3, none⟩) hbl).trans r1
      have r2 := (X2.out.cell (p := ⟨b, off + j * 3 + 1, none⟩) hbl).trans r2
      have r3 := (X2.out.cell (p := ⟨b, off + j * 3 + 2, none⟩) hbl).trans r3
      have hbl2 : b < w1.heap.size := Nat.lt_of_lt_of_le hbl X2.out.size
      clear hx1
      (try rw [h1])
      (try rw [h2])
      go_wp2_with fail
      all_goals
        first
        | (go_ret; exact ⟨by rw [HC2.out]; rfl, X2.out⟩)
        | ((refine wp_region_quietE (by kernel_rfl) (by kernel_rfl) ?_; (repeat (go_big_quiet_step ((go_at_call 149; exact quietE (refInside_b _ _ _ _ _ _ _ _ (by assumption)))))); refine wpQuiet_nil ?_; rintro w1 ⟨⟨_, hx1⟩, rfl⟩; (try dsimp only); have hz1 := hx1.size; (try simp only [World.size_alloc, World.size_setCell, World.size_drew, size_drewN] at hz1); obtain ⟨hc1, hf1⟩ := hx1.old (B := w.heap.size) (by (try simp only [World.size_alloc, World.size_setCell, World.size_drew, size_drewN]); omega))
           have X3 := Lib.hid (X2.out.trans hx1)
           clear hx1
           go_wp2_with fail
           all_goals
             go_ret
             exact ⟨by rw [HC2.out]; rfl, X3.out⟩)
  · have q4 : (s1 != s2) = true := by simpa using e4
    have E4 := Lib.hid e4
    clear e4
    go_enter Tryz.func86, Tryz.ntmps86
    go_wp2_with fail
    (refine wp_region_quietE (by kernel_rfl) (by kernel_rfl) ?_; (repeat (go_big_quiet_step ((fail)))); refine wpQuiet_nil ?_; rintro w1 ⟨⟨_, hx1⟩, rfl⟩; (try dsimp only); have hz1 := hx1.size; (try simp only [World.size_alloc, World.size_setCell, World.size_drew, size_drewN] at hz1); obtain ⟨hc1, hf1⟩ := hx1.old (B := w.heap.size) (by (try simp only [World.size_alloc, World.size_setCell, World.size_drew, size_drewN]); omega))
    have X1 := Lib.hid hx1
    clear hx1
    go_wp2_with fail
    go_ret
    exact ⟨by rw [HC.out, if_neg E1.out, if_neg E2.out, if_neg E3.out, if_pos E4.out]; try rfl, X1.out⟩

end Go.Proofs.YthkfkfbfblppeaaGreat
