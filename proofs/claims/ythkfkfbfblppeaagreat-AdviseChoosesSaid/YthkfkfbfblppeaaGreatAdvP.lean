/- Walk of Choose of advise (written by mkchoose.py). Conditions: the arguments read as slices. -/
import Derived.Test.YthkfkfbfblppeaaGreatAdvM
import Derived.Test.YthkfkfbfblppeaaGreatAdvN
namespace Go.Proofs.YthkfkfbfblppeaaGreat
set_option linter.unusedSimpArgs false
set_option linter.unusedVariables false
open Go.RowKit

/-- The number that Choose chooses. -/
def bestC (costs : List RR) (mask may : List Bool) : Option Nat :=
  if (bestF costs (pickL [mask, may] costs.length)).isSome = true then bestF costs (pickL [mask, may] costs.length) else bestF costs (pickL [mask] costs.length)
/-- What Choose returns: number, kind, cost; the memory; the error. -/
def chooseS (l : List Bnd) (now age rev : Int) (costs : List RR) (mask : List Bool) (lr lh : Int) : (Int × Int × RR) × (Int × Int × Int) × Int :=
  if (allowS l now age rev lr lh).2 ≠ 0 then ((0, 0, zR), (0, 0, 0), (allowS l now age rev lr lh).2)
  else if costs.length ≠ l.length ∨ mask.length ≠ l.length then ((0, 0, zR), (0, 0, 0), 16)
  else if chkRs costs ≠ 0 then ((0, 0, zR), (0, 0, 0), chkRs costs)
  else match bestC costs mask (allowS l now age rev lr lh).1 with
    | none => ((0, 0, zR), (0, 0, 0), 9)
    | some b => ((((b : Nat) : Int), chg l now.toNat b, costs.getD b zR), nextV (chg l now.toNat b) age rev (b : Nat), 0)
/-- The value of a decision. -/
def decW (x : Int × Int × RR) (vn vd : Value) : Value := .agg #[.int .i64 x.1, .int .u8 x.2.1, .bool x.2.2.neg, vn, vd]
/-- The results of Choose. -/
def ResC (w w' : World) (e : Ending) (r : (Int × Int × RR) × (Int × Int × Int) × Int) : Prop :=
  ∃ vn vd, e = .returned (.tuple #[.agg #[.int .i64 r.1.1, .int .u8 r.1.2.1, .bool r.1.2.2.neg, vn, vd], .agg #[.int .i64 r.2.1.1, .int .i64 r.2.1.2.1, .int .i64 r.2.1.2.2], .int .i64 r.2.2]) ∧ NewV w w' vn r.1.2.2.num ∧ NewV w w' vd r.1.2.2.den
theorem ResC.zero {w w' : World} {x : Int} {r : (Int × Int × RR) × (Int × Int × Int) × Int} (e : r = ((0, 0, zR), (0, 0, 0), x)) : ResC w w' (.returned (.tuple #[.agg #[.int .i64 0, .int .u8 0, .bool false, .slice none 0 0, .slice none 0 0], .agg #[.int .i64 0, .int .i64 0, .int .i64 0], .int .i64 x])) r := by
  subst e; exact ⟨_, _, rfl, NewV.nil _ _, NewV.nil _ _⟩

theorem NewV.setBlk {w A : World} {v : Value} {l : List Int} (h : NewV w A v l) {bx : Nat} {c : Array Value} {t : TypeId} (hb : Blk A bx c t) (ht : t ≠ 206) (o : Nat) (u : Value) : NewV w (A.setCell ⟨bx, o, none⟩ u) v l := OwB.setBlk h hb ht o u

theorem NewR.set5 {w A : World} {v : Value} {r : RR} (h : NewR w A v r) {bx : Nat} {c : Array Value} {t : TypeId} (hb : Blk A bx c t) (ht : t ≠ 206) (x y z p q : Value) :
    NewR w (((((A.setCell ⟨bx, 0, none⟩ x).setCell ⟨bx, 1, none⟩ y).setCell ⟨bx, 2, none⟩ z).setCell ⟨bx, 3, none⟩ p).setCell ⟨bx, 4, none⟩ q) v r := by
  obtain ⟨vn, vd, rfl, h1, h2⟩ := NewR.set3 h hb ht x y z
  have b3 := ((hb.set 0 x).set 1 y).set 2 z
  exact ⟨_, _, rfl, (h1.setBlk b3 ht 3 p).setBlk (b3.set 3 p) ht 4 q, (h2.setBlk b3 ht 3 p).setBlk (b3.set 3 p) ht 4 q⟩
theorem Blk.off5 {A : World} {b : Nat} {c : Array Value} {t : TypeId} (h : Blk A b c t) {bx : Nat} (hn : b ≠ bx) (x y z p q : Value) :
    Blk (((((A.setCell ⟨bx, 0, none⟩ x).setCell ⟨bx, 1, none⟩ y).setCell ⟨bx, 2, none⟩ z).setCell ⟨bx, 3, none⟩ p).setCell ⟨bx, 4, none⟩ q) b c t :=
  ((((h.setOther (a := ⟨bx, 0, none⟩) hn x).setOther (a := ⟨bx, 1, none⟩) hn y).setOther (a := ⟨bx, 2, none⟩) hn z).setOther (a := ⟨bx, 3, none⟩) hn p).setOther (a := ⟨bx, 4, none⟩) hn q
theorem Blk.off3 {A : World} {b : Nat} {c : Array Value} {t : TypeId} (h : Blk A b c t) {bx : Nat} (hn : b ≠ bx) (x y z : Value) :
    Blk (((A.setCell ⟨bx, 0, none⟩ x).setCell ⟨bx, 1, none⟩ y).setCell ⟨bx, 2, none⟩ z) b c t :=
  ((h.setOther (a := ⟨bx, 0, none⟩) hn x).setOther (a := ⟨bx, 1, none⟩) hn y).setOther (a := ⟨bx, 2, none⟩) hn z
theorem ResC.mk {w W : World} {vn vd : Value} {r : RR} {n K m1 m2 m3 : Int} {R : (Int × Int × RR) × (Int × Int × Int) × Int} (h : NewR w W (.agg #[.bool r.neg, vn, vd]) r) (e : R = ((n, K, r), (m1, m2, m3), 0)) : ResC w W (.returned (.tuple #[.agg #[.int .i64 n, .int .u8 K, .bool r.neg, vn, vd], .agg #[.int .i64 m1, .int .i64 m2, .int .i64 m3], .int .i64 0])) R := by
  subst e
  obtain ⟨vn', vd', he, h1, h2⟩ := h
  injection he with he
  injection he with he
  injection he with _ he
  injection he with e1 he
  injection he with e2 _
  subst e1; subst e2
  exact ⟨_, _, rfl, h1, h2⟩

theorem chooseFail_any (x : Int) (w : World) : Calls Tryz.prog 95 #[.int .i64 x] w fun e w' => e = .returned (.tuple #[.agg #[.int .i64 0, .int .u8 0, .bool false, .slice none 0 0, .slice none 0 0], .agg #[.int .i64 0, .int .i64 0, .int .i64 0], .int .i64 x]) ∧ Ext w w' := by
  go_enter Tryz.func95, Tryz.ntmps95
  go_wp2_with fail
  exact bodyPost_ret (v := .tuple #[.agg #[.int .i64 0, .int .u8 0, .bool false, .slice none 0 0, .slice none 0 0], .agg #[.int .i64 0, .int .i64 0, .int .i64 0], .int .i64 x]) (by simp only [results, Tryz.results95]; go_simp) rfl ⟨rfl, by (repeat (first | (with_reducible exact Ext.refl _) | (with_reducible assumption) | (with_reducible refine Ext.alloc ?_ _) | ((with_reducible refine Ext.setp ?_ ?_); focus (dsimp only; omega)) | (with_reducible refine Ext.drew ?_) | (with_reducible refine Ext.drewN ?_ _) | (with_reducible refine Ext.trans ?_ (by assumption))))⟩

theorem addR_zero {r : RR} (hl : LimR r) (h : chkR r = 0) : addR r zR = (r, 0) := by
  have hz : chkR zR = 0 := rfl
  have hq : qv zR = 0 := rfl
  unfold addR opR
  rw [if_pos (chkR2_ok h hz), hq, Rat.add_zero, fitR_ok (valid_small hl h), (valid_rep hl h).2.2]

theorem okAt {l : List RR} (h : chkRs l = 0) {i : Nat} (hi : i < l.length) : chkR (l.getD i zR) = 0 := chkRs_0 h i hi
theorem bestF_lt (costs : List RR) (ms : Nat → Nat → Bool) (M n : Nat) (j : Nat) (h : bestF costs (pick ms M n) = some j) : j < n := by
  have key : ∀ (xs : List Nat) (b : Option Nat), (∀ x ∈ xs, x < n) → (∀ i, b = some i → i < n) → ∀ i, xs.foldl (stepB costs) b = some i → i < n := by
    intro xs
    induction xs with
    | nil => intro b _ h2 i hi; exact h2 i hi
    | cons x xs ih =>
      intro b h1 h2 i hi
      refine ih (stepB costs b x) (fun y hy => h1 y (by simp [hy])) (fun k hk => ?_) i hi
      unfold stepB at hk
      cases b with
      | none => injection hk with hk; subst hk; exact h1 x (by simp)
      | some q =>
        dsimp only at hk
        split at hk
        · injection hk with hk; subst hk; exact h1 x (by simp)
        · injection hk with hk; subst hk; exact h2 q rfl
  exact key _ none (fun x hx => by unfold pick at hx; exact List.mem_range.1 (List.mem_filter.1 hx).1) (fun i hi => by cases hi) j h
theorem bestC_lt {costs : List RR} {mask may : List Bool} {j : Nat} (h : bestC costs mask may = some j) : j < costs.length := by
  unfold bestC at h
  split at h
  · exact bestF_lt _ _ _ _ _ h
  · exact bestF_lt _ _ _ _ _ h

/-- Masks in a row of two headers. -/
theorem rdMs_two {w : World} {a1 a2 : Option Addr} {c1 c2 : Nat} {m1 m2 : List Bool} {b : Nat} (h1 : Rd w (.slice a1 m1.length c1) (m1.map Value.bool)) (h2 : Rd w (.slice a2 m2.length c2) (m2.map Value.bool)) (hb : Blk w b #[.slice a1 m1.length c1, .slice a2 m2.length c2] 49) {N : Nat} (hN1 : N ≤ m1.length) (hN2 : N ≤ m2.length) : RdMs w.heap.size w (some ⟨b, 0, none⟩) 2 N (mskF [m1, m2]) := by
  intro j hj
  have hj' : j = 0 ∨ j = 1 := by omega
  rcases hj' with rfl | rfl
  · obtain ⟨a, cap, hv, hc, hm, hr⟩ := rdB_get h1
    injection hv with e1 _ e3
    subst e1; subst e3
    refine ⟨b, 0, a1, m1.length, c1, rfl, hb.lt, by have := hb.cell 0; simpa using this, hN1, by omega, fun i hi => ?_⟩
    obtain ⟨b2, o2, e1, e2, e3⟩ := hr i (by omega)
    exact ⟨b2, o2, e1, e2, e3⟩
  · obtain ⟨a, cap, hv, hc, hm, hr⟩ := rdB_get h2
    injection hv with e1 _ e3
    subst e1; subst e3
    refine ⟨b, 0, a2, m2.length, c2, rfl, hb.lt, by have := hb.cell 1; simpa using this, hN2, by omega, fun i hi => ?_⟩
    obtain ⟨b2, o2, e1, e2, e3⟩ := hr i (by omega)
    exact ⟨b2, o2, e1, e2, e3⟩

theorem chooseS_1 {l : List Bnd} {now age rev : Int} {costs : List RR} {mask : List Bool} {lr lh : Int} (h : (allowS l now age rev lr lh).2 ≠ 0) : chooseS l now age rev costs mask lr lh = ((0, 0, zR), (0, 0, 0), (allowS l now age rev lr lh).2) := if_pos h
theorem chooseS_2 {l : List Bnd} {now age rev : Int} {costs : List RR} {mask : List Bool} {lr lh : Int} (h : (allowS l now age rev lr lh).2 = 0) (h2 : costs.length ≠ l.length ∨ mask.length ≠ l.length) : chooseS l now age rev costs mask lr lh = ((0, 0, zR), (0, 0, 0), 16) := by
  unfold chooseS; rw [if_neg (by simpa using h), if_pos h2]
theorem chooseS_3 {l : List Bnd} {now age rev : Int} {costs : List RR} {mask : List Bool} {lr lh : Int} (h : (allowS l now age rev lr lh).2 = 0) (h2 : costs.length = l.length) (h3 : mask.length = l.length) (h4 : chkRs costs ≠ 0) : chooseS l now age rev costs mask lr lh = ((0, 0, zR), (0, 0, 0), chkRs costs) := by
  unfold chooseS; rw [if_neg (by simpa using h), if_neg (by omega), if_pos h4]
theorem chooseS_4 {l : List Bnd} {now age rev : Int} {costs : List RR} {mask : List Bool} {lr lh : Int} (h : (allowS l now age rev lr lh).2 = 0) (h2 : costs.length = l.length) (h3 : mask.length = l.length) (h4 : chkRs costs = 0) (h5 : bestC costs mask (allowS l now age rev lr lh).1 = none) : chooseS l now age rev costs mask lr lh = ((0, 0, zR), (0, 0, 0), 9) := by
  unfold chooseS; rw [if_neg (by simpa using h), if_neg (by omega), if_neg (by simpa using h4), h5]
theorem chooseS_5 {l : List Bnd} {now age rev : Int} {costs : List RR} {mask : List Bool} {lr lh : Int} (h : (allowS l now age rev lr lh).2 = 0) (h2 : costs.length = l.length) (h3 : mask.length = l.length) (h4 : chkRs costs = 0) {b : Nat} (h5 : bestC costs mask (allowS l now age rev lr lh).1 = some b) : chooseS l now age rev costs mask lr lh = ((((b : Nat) : Int), chg l now.toNat b, costs.getD b zR), nextV (chg l now.toNat b) age rev (b : Nat), 0) := by
  unfold chooseS; rw [if_neg (by simpa using h), if_neg (by omega), if_neg (by simpa using h4), h5]
theorem allowS_0 {l : List Bnd} {now age rev lr lh : Int} (h : (allowS l now age rev lr lh).2 = 0) : achk l = 0 ∧ (∃ i : Nat, now = i ∧ i < l.length) ∧ memE age rev = 0 ∧ limE lr lh = 0 ∧ (allowS l now age rev lr lh).1 = allowL l now.toNat age rev lr lh := by
  unfold allowS at h ⊢
  by_cases h1 : cn1 l now = 0
  · rw [if_neg (by simpa using h1)] at h ⊢
    by_cases h2 : memE age rev = 0
    · rw [if_neg (by simpa using h2)] at h ⊢
      by_cases h3 : limE lr lh = 0
      · rw [if_neg (by simpa using h3)]
        exact ⟨(cn1_0 h1).1, (cn1_0 h1).2, h2, h3, rfl⟩
      · rw [if_pos h3] at h; exact absurd h h3
    · rw [if_pos h2] at h; exact absurd h h2
  · rw [if_pos h1] at h; exact absurd h h1
theorem allowL_len (l : List Bnd) (i : Nat) (age rev lr lh : Int) : (allowL l i age rev lr lh).length = l.length := by unfold allowL; simp

set_option maxRecDepth 100000 in
set_option maxHeartbeats 8000000 in
theorem choose_any (vl vc vm : Value) (l : List Bnd) (now age rev : Int) (costs : List RR) (mask : List Bool) (lr lh : Int) (w : World) (hl : RdBnd w vl l) (hc : RdRs w vc costs) (hm : Rd w vm (mask.map Value.bool)) (hlm : LimRs costs) (ga : -9223372036854775808 ≤ age) (gr : -9223372036854775808 ≤ rev) :
    Calls Tryz.prog 37 #[vl, .agg #[.int .i64 now, .int .i64 age, .int .i64 rev], vc, vm, .agg #[.int .i64 lr, .int .i64 lh]] w fun e w' => ResC w w' e (chooseS l now age rev costs mask lr lh) ∧ Ext w w' := by
  have HL := Lib.hid hl; have HC := Lib.hid hc; have HM := Lib.hid hm; have HLM := Lib.hid hlm
  obtain ⟨al, cl, rfl, hlc, hlm1, -⟩ := hl.get
  have hal := fun W h => allowed_any (.slice al l.length cl) l now age rev lr lh W h
  have hck := fun W (x : Ext w W) => checkCosts_any vc costs W (hc.ext x) hlm
  obtain ⟨ac, cc, rfl, hcc, hcm, f, hr⟩ := hc.get
  obtain ⟨am, cm, rfl, hmc, hmm, -⟩ := rdB_get hm
  clear hl hc hm hlm
  have bb0 := ((((Blk.new w #[.int .i64 now, .int .i64 age, .int .i64 rev] 47).alloc (.cells #[.int .i64 lr, .int .i64 lh] 51)).alloc (.cells #[.int .i64 0, .int .u8 0, .bool false, .slice none 0 0, .slice none 0 0] 64)).alloc (.cells #[.int .i64 0, .int .i64 0, .int .i64 0] 47))
  have bb1 := (((Blk.new (w.alloc (.cells #[.int .i64 now, .int .i64 age, .int .i64 rev] 47)) #[.int .i64 lr, .int .i64 lh] 51).alloc (.cells #[.int .i64 0, .int .u8 0, .bool false, .slice none 0 0, .slice none 0 0] 64)).alloc (.cells #[.int .i64 0, .int .i64 0, .int .i64 0] 47))
  have bb2 := ((Blk.new ((w.alloc (.cells #[.int .i64 now, .int .i64 age, .int .i64 rev] 47)).alloc (.cells #[.int .i64 lr, .int .i64 lh] 51)) #[.int .i64 0, .int .u8 0, .bool false, .slice none 0 0, .slice none 0 0] 64).alloc (.cells #[.int .i64 0, .int .i64 0, .int .i64 0] 47))
  have bb3 := (Blk.new (((w.alloc (.cells #[.int .i64 now, .int .i64 age, .int .i64 rev] 47)).alloc (.cells #[.int .i64 lr, .int .i64 lh] 51)).alloc (.cells #[.int .i64 0, .int .u8 0, .bool false, .slice none 0 0, .slice none 0 0] 64)) #[.int .i64 0, .int .i64 0, .int .i64 0] 47)
  rw [World.size_alloc] at bb1
  rw [World.size_alloc, World.size_alloc] at bb2
  rw [World.size_alloc, World.size_alloc, World.size_alloc] at bb3
  have x0 : Ext w ((((w.alloc (.cells #[.int .i64 now, .int .i64 age, .int .i64 rev] 47)).alloc (.cells #[.int .i64 lr, .int .i64 lh] 51)).alloc (.cells #[.int .i64 0, .int .u8 0, .bool false, .slice none 0 0, .slice none 0 0] 64)).alloc (.cells #[.int .i64 0, .int .i64 0, .int .i64 0] 47)) := (((((Ext.refl w).alloc _).alloc _).alloc _).alloc _)
  have A0 := Lib.hid bb0; have A1 := Lib.hid bb1; have A2 := Lib.hid bb2; have A3 := Lib.hid bb3; have X := Lib.hid x0
  clear x0 bb0 bb1 bb2 bb3
  have HL := Lib.hid (HL.out.ext X.out); have HM := Lib.hid (HM.out.ext X.out)
  obtain ⟨S, hS⟩ : ∃ S, S = allowS l now age rev lr lh := ⟨_, rfl⟩
  rw [← hS] at hal
  by_cases h1 : S.2 = 0
  · have hS0 := allowS_0 (l := l) (now := now) (age := age) (rev := rev) (lr := lr) (lh := lh) (by rw [← hS]; exact h1)
    obtain ⟨hac, ⟨ni, rfl, hni⟩, hme, -, hal1⟩ := hS0
    rw [h1] at hal
    rw [← hS, Int.toNat_natCast] at hal1
    have HAL := Lib.hid hal
    by_cases h2 : costs.length = l.length
    · have q2 : ((costs.length : Int) != (l.length : Int)) = false := by simp [h2]
      by_cases h3 : mask.length = l.length
      · have q3 : ((mask.length : Int) != (l.length : Int)) = false := by simp [h3]
        by_cases h4 : chkRs costs = 0
        · rw [h4] at hck
          have HCK := Lib.hid hck; have H4 := Lib.hid h4; have H2 := Lib.hid h2; have H3 := Lib.hid h3
          have hfi2 := fun W ma H hH hb0 hb1 (x : Ext w W) hms => firstC_any ac costs cc f ma 2 2 (mskF [mask, S.1]) H W hH hcc hcm (Nat.le_refl _) (by decide) hb0 hb1 HLM.out (fun i hi => by
            obtain ⟨b, off, e1, e2, e3, e4, e5, e6⟩ := hr i hi
            exact ⟨b, off, e1, Nat.lt_of_lt_of_le e2 x.size, (x.cell (p := ⟨b, off + i * 3, none⟩) e2).trans e3, (x.cell (p := ⟨b, off + i * 3 + 1, none⟩) e2).trans e4, (x.cell (p := ⟨b, off + i * 3 + 2, none⟩) e2).trans e5, e6.ext x⟩) hms
          have hfi1 := fun W ma H hH hb0 hb1 (x : Ext w W) hms => firstC_any ac costs cc f ma 1 1 (mskF [mask]) H W hH hcc hcm (Nat.le_refl _) (by decide) hb0 hb1 HLM.out (fun i hi => by
            obtain ⟨b, off, e1, e2, e3, e4, e5, e6⟩ := hr i hi
            exact ⟨b, off, e1, Nat.lt_of_lt_of_le e2 x.size, (x.cell (p := ⟨b, off + i * 3, none⟩) e2).trans e3, (x.cell (p := ⟨b, off + i * 3 + 1, none⟩) e2).trans e4, (x.cell (p := ⟨b, off + i * 3 + 2, none⟩) e2).trans e5, e6.ext x⟩) hms
          obtain ⟨b2, hb2⟩ : ∃ b, b = bestF costs (pickL [mask, S.1] costs.length) := ⟨_, rfl⟩
          obtain ⟨b1, hb1⟩ : ∃ b, b = bestF costs (pickL [mask] costs.length) := ⟨_, rfl⟩
          have hbc : bestC costs mask S.1 = if b2.isSome = true then b2 else b1 := by unfold bestC; rw [← hb2, ← hb1]
          unfold pickL at hb2 hb1
          rw [show [mask, S.1].length = 2 from rfl] at hb2
          rw [show [mask].length = 1 from rfl] at hb1
          rw [← hb2] at hfi2
          rw [← hb1] at hfi1
          have hE4 : bestC costs mask S.1 = none → chooseS l ni age rev costs mask lr lh = ((0, 0, zR), (0, 0, 0), 9) := fun h => chooseS_4 (by rw [← hS]; exact h1) h2 h3 h4 (by rw [← hS]; exact h)
          have hE5 : ∀ b : Nat, bestC costs mask S.1 = some b → b < costs.length ∧ chooseS l ni age rev costs mask lr lh = ((((b : Nat) : Int), chg l ni b, costs.getD b zR), nextV (chg l ni b) age rev (b : Nat), 0) := fun b h => ⟨bestC_lt h, chooseS_5 (by rw [← hS]; exact h1) h2 h3 h4 (by rw [← hS]; exact h)⟩
          rw [hbc] at hE4 hE5
          have hS1l : S.1.length = l.length := by rw [hal1, allowL_len]
          obtain ⟨sv, hsv⟩ : ∃ sv, sv = S.1 := ⟨_, rfl⟩
          rw [← hsv] at hfi2 hS1l HAL
          have HSV := Lib.hid hS1l
          have hnx := fun W (b : Nat) h (hb : b < l.length) => next_any (.slice al l.length cl) l ni age rev b W h ga gr
          have HNX := Lib.hid hnx; have HFI2 := Lib.hid hfi2; have HFI1 := Lib.hid hfi1; have HE4 := Lib.hid hE4; have HE5 := Lib.hid hE5; have HR := Lib.hid hr
          have HME := Lib.hid hme; have HAC := Lib.hid hac; have HNI := Lib.hid hni
          clear hfi2 hfi1 hE4 hE5 hbc hb2 hb1 hS1l hsv hnx hr hck hal hal1 hS h1 h2 h3 h4 hme hac hni
          go_enter Tryz.func37, Tryz.ntmps37
          have qA0 := A0.out.cell; have fA0 := A0.out.free; have lA0 := A0.out.lt; have qA1 := A1.out.cell; have fA1 := A1.out.free; have lA1 := A1.out.lt
          go_wp2_with fail
          refine (HAL.out _ HL.out).mono ?_
          rintro e w1 ⟨⟨vmay, rfl, hown⟩, hx⟩
          clear qA0 fA0 lA0 qA1 fA1 lA1
          have HL := Lib.hid (HL.out.ext hx); have HM := Lib.hid (HM.out.ext hx); have A0 := Lib.hid (A0.out.ext hx); have A1 := Lib.hid (A1.out.ext hx); have A2 := Lib.hid (A2.out.ext hx); have A3 := Lib.hid (A3.out.ext hx); have X := Lib.hid (X.out.trans hx)
          have RB := Lib.hid (OwBo.rd hown)
          obtain ⟨ab, cb, rfl, hbc1, hbc2, -⟩ := rdB_get RB.out
          clear hown hx
          go_wp2_with fail
          refine (HCK.out _ X.out).mono ?_
          rintro e w2 ⟨rfl, hx⟩
          have HL := Lib.hid (HL.out.ext hx); have HM := Lib.hid (HM.out.ext hx); have A0 := Lib.hid (A0.out.ext hx); have A1 := Lib.hid (A1.out.ext hx); have A2 := Lib.hid (A2.out.ext hx); have A3 := Lib.hid (A3.out.ext hx); have RB := Lib.hid (RB.out.ext hx); have X := Lib.hid (X.out.trans hx)
          clear hx
          go_wp2_with fail
          refine (candidates_any ac costs.length cc (some ⟨w2.heap.size, 0, none⟩) 2 2 _).mono ?_
          rintro e w3 ⟨rfl, hw2⟩
          have hx : Ext w2 w3 := by rw [hw2]; exact (((Ext.refl w2).alloc _).alloc _).alloc _
          have hbm : Blk w3 w2.heap.size #[.slice am mask.length cm, .slice ab sv.length cb] 49 := by rw [hw2]; exact ((Blk.new w2 _ _).alloc _).alloc _
          have hb0 : Blk w3 (w2.heap.size + 1) #[.slice ac costs.length cc] 48 := by
            rw [hw2]; have hh := (Blk.new (w2.alloc (.cells #[.slice am mask.length cm, .slice ab sv.length cb] 49)) #[.slice ac costs.length cc] 48).alloc (.cells #[.slice (some ⟨w2.heap.size, 0, none⟩) 2 2] 193)
            rwa [World.size_alloc] at hh
          have hb1 : Blk w3 (w2.heap.size + 1 + 1) #[.slice (some ⟨w2.heap.size, 0, none⟩) 2 2] 193 := by
            rw [hw2]; have hh := Blk.new ((w2.alloc (.cells #[.slice am mask.length cm, .slice ab sv.length cb] 49)).alloc (.cells #[.slice ac costs.length cc] 48)) #[.slice (some ⟨w2.heap.size, 0, none⟩) 2 2] 193
            rwa [World.size_alloc, World.size_alloc] at hh
          have BM := Lib.hid hbm; have B0 := Lib.hid hb0; have B1 := Lib.hid hb1
          clear hw2 hbm hb0 hb1
          have HL := Lib.hid (HL.out.ext hx); have HM := Lib.hid (HM.out.ext hx); have A0 := Lib.hid (A0.out.ext hx); have A1 := Lib.hid (A1.out.ext hx); have A2 := Lib.hid (A2.out.ext hx); have A3 := Lib.hid (A3.out.ext hx); have RB := Lib.hid (RB.out.ext hx); have X := Lib.hid (X.out.trans hx)
          clear hx
          go_wp2_with fail
          refine (HFI2.out _ (some ⟨w2.heap.size, 0, none⟩) (w2.heap.size + 1) B1.out.lt B0.out B1.out X.out (rdMs_two HM.out RB.out BM.out (by have := H2.out; have := H3.out; omega) (by have := H2.out; have := HSV.out; omega))).mono ?_
          rintro e w4 ⟨rfl, hx⟩
          have HL := Lib.hid (HL.out.ext hx); have HM := Lib.hid (HM.out.ext hx); have A0 := Lib.hid (A0.out.ext hx); have A1 := Lib.hid (A1.out.ext hx); have A2 := Lib.hid (A2.out.ext hx); have A3 := Lib.hid (A3.out.ext hx); have RB := Lib.hid (RB.out.ext hx); have X := Lib.hid (X.out.trans hx)
          clear hx
          cases b2 with
          | some b =>
            have e1 : keyB (some b) = (b : Int) := rfl
            rw [e1]
            have qA0 := A0.out.cell; have fA0 := A0.out.free; have lA0 := A0.out.lt
            go_wp2_with fail
            obtain ⟨hbl, hE⟩ := HE5.out b (rfl)
            obtain ⟨hn1, hn2⟩ := And.intro hbl hE
            have hbl2 : b < l.length := by have := H2.out; omega
            have hnv := nextS_0 (age := age) (rev := rev) HAC.out HNI.out hbl2 HME.out
            have hnx := fun W h => HNX.out W b h hbl2
            rw [hnv] at hnx
            obtain ⟨bb, off, rfl, hbb, x0, x1, x2, hrd⟩ := HR.out b hbl
            have hlr := HLM.out b hbl
            have hck := okAt H4.out hbl
            have hadd := fun W (x : Ext w W) => addR_any _ _ _ _ W (hrd.ext x) (NewR.zero W W).rd hlr (show LimR zR from ⟨fun y hy => (by cases hy), fun y hy => (by cases hy)⟩)
            have hch := fun W h => change_any (.slice al l.length cl) l ni b W h HNI.out hbl2
            obtain ⟨r, hrr⟩ : ∃ r, r = costs.getD b zR := ⟨_, rfl⟩
            obtain ⟨fb, hfb⟩ : ∃ y, y = f b := ⟨_, rfl⟩
            rw [← hrr] at x0 x1 x2 hlr hck hadd hE
            rw [← hfb] at x1 x2 hadd
            rw [addR_zero hlr hck] at hadd
            obtain ⟨K, hK⟩ : ∃ K, K = chg l ni b := ⟨_, rfl⟩
            rw [← hK] at hch hE hnx
            obtain ⟨nv, hnv2⟩ : ∃ x, x = nextV K age rev (b : Nat) := ⟨_, rfl⟩
            rw [← hnv2] at hE hnx
            obtain ⟨m1, m2, m3⟩ := nv
            unfold memW at hnx
            dsimp only at hnx hE
            have hyy0 := (X.out.cell (p := ⟨bb, off + b * 3, none⟩) hbb).trans x0
            have HY := Lib.hid (And.intro hbb (And.intro x0 (And.intro x1 x2)))
            have HNXB := Lib.hid hnx; have HADD := Lib.hid hadd; have HCH := Lib.hid hch; have EE := Lib.hid hE
            have q5 : (0 : Int) ≤ (b : Int) := by omega
            have q6 : (b : Int) < (costs.length : Int) := by omega
            clear hyy0 hnx hadd hch hE hK hnv2 hrr hfb hlr hck x0 x1 x2 hrd hbb hn1 hn2 hnv hbl hbl2
            refine (HNXB.out _ HL.out).mono ?_
            rintro e w5 ⟨rfl, hx⟩
            clear qA0 fA0 lA0
            have HL := Lib.hid (HL.out.ext hx); have HM := Lib.hid (HM.out.ext hx); have A0 := Lib.hid (A0.out.ext hx); have A1 := Lib.hid (A1.out.ext hx); have A2 := Lib.hid (A2.out.ext hx); have A3 := Lib.hid (A3.out.ext hx); have RB := Lib.hid (RB.out.ext hx); have X := Lib.hid (X.out.trans hx)
            clear hx
            have bz := Blk.new w5 #[.int .i64 m1, .int .i64 m2, .int .i64 m3] 47
            have hx := (Ext.refl w5).alloc (.cells #[.int .i64 m1, .int .i64 m2, .int .i64 m3] 47)
            have g1 : w.heap.size + 1 + 1 + 1 < w5.heap.size := A3.out.lt
            have HL := Lib.hid (HL.out.ext hx); have HM := Lib.hid (HM.out.ext hx); have A0 := Lib.hid (A0.out.ext hx); have A1 := Lib.hid (A1.out.ext hx); have A2 := Lib.hid (A2.out.ext hx); have A3 := Lib.hid (A3.out.ext hx); have RB := Lib.hid (RB.out.ext hx); have X := Lib.hid (X.out.trans hx)
            have BN := Lib.hid bz; clear bz hx
            obtain ⟨nN, hnN⟩ : ∃ n, n = w5.heap.size := ⟨_, rfl⟩
            rw [← hnN] at BN g1
            obtain ⟨hbb, x0, x1, x2⟩ := HY.out
            have y0 := (X.out.cell (p := ⟨bb, off + b * 3, none⟩) hbb).trans x0
            have y1 := (X.out.cell (p := ⟨bb, off + b * 3 + 1, none⟩) hbb).trans x1
            have y2 := (X.out.cell (p := ⟨bb, off + b * 3 + 2, none⟩) hbb).trans x2
            clear hbb x0 x1 x2
            go_wp2_with fail
            rw [← hnN]; clear hnN
            have xo := X.out
            refine (HADD.out _ X.out).mono ?_
            rintro e w6 ⟨⟨v, rfl, nn⟩, hx⟩
            have HL := Lib.hid (HL.out.ext hx); have HM := Lib.hid (HM.out.ext hx); have A0 := Lib.hid (A0.out.ext hx); have A1 := Lib.hid (A1.out.ext hx); have A2 := Lib.hid (A2.out.ext hx); have A3 := Lib.hid (A3.out.ext hx); have RB := Lib.hid (RB.out.ext hx); have BN := Lib.hid (BN.out.ext hx); have X := Lib.hid (X.out.trans hx)
            obtain ⟨o1, o2, o3, o4, rfl⟩ := nn.shape
            have No := Lib.hid nn.rd
            have Oo := Lib.hid (nn.from xo)
            clear xo
            clear nn hx
            go_wp2_with fail
            have bz := Blk.new w6 #[.bool r.neg, .slice o1 r.num.length o2, .slice o3 r.den.length o4] 62
            have hx : Ext w6 (w6.alloc (.cells #[.bool r.neg, .slice o1 r.num.length o2, .slice o3 r.den.length o4] 62)) := (Ext.refl _).alloc _
            obtain ⟨BRn, hBR⟩ : ∃ n, n = w6.heap.size := ⟨_, rfl⟩
            have gBR : w.heap.size + 1 + 1 + 1 < BRn := by rw [hBR]; exact A3.out.lt
            obtain ⟨w7, hw7⟩ : ∃ W, W = w6.alloc (.cells #[.bool r.neg, .slice o1 r.num.length o2, .slice o3 r.den.length o4] 62) := ⟨_, rfl⟩
            rw [← hw7] at bz hx ⊢; rw [← hBR] at bz ⊢; clear hw7 hBR
            have HL := Lib.hid (HL.out.ext hx); have HM := Lib.hid (HM.out.ext hx); have A0 := Lib.hid (A0.out.ext hx); have A1 := Lib.hid (A1.out.ext hx); have A2 := Lib.hid (A2.out.ext hx); have A3 := Lib.hid (A3.out.ext hx); have RB := Lib.hid (RB.out.ext hx); have BN := Lib.hid (BN.out.ext hx); have No := Lib.hid (No.out.ext hx); have Oo := Lib.hid (Oo.out.ext hx); have X := Lib.hid (X.out.trans hx)
            have BR := Lib.hid bz; clear hx bz
            refine wp_region_held_drew (S := (fun W => (Blk W w.heap.size #[.int .i64 ni, .int .i64 age, .int .i64 rev] 47 ∧ W.cell? ⟨w.heap.size, 0, none⟩ = some (.int .i64 ni) ∧ W.cell? ⟨w.heap.size, 1, none⟩ = some (.int .i64 age) ∧ W.cell? ⟨w.heap.size, 2, none⟩ = some (.int .i64 rev)) ∧ (Blk W BRn #[.bool r.neg, .slice o1 r.num.length o2, .slice o3 r.den.length o4] 62 ∧ W.cell? ⟨BRn, 0, none⟩ = some (.bool r.neg) ∧ W.cell? ⟨BRn, 1, none⟩ = some (.slice o1 r.num.length o2) ∧ W.cell? ⟨BRn, 2, none⟩ = some (.slice o3 r.den.length o4)) ∧ (Blk W nN #[.int .i64 m1, .int .i64 m2, .int .i64 m3] 47 ∧ W.cell? ⟨nN, 0, none⟩ = some (.int .i64 m1) ∧ W.cell? ⟨nN, 1, none⟩ = some (.int .i64 m2) ∧ W.cell? ⟨nN, 2, none⟩ = some (.int .i64 m3)))) (by kernel_rfl) ?_ (fun hHeld => ?_)
            · exact ⟨Blk.s3 A0.out.drew, Blk.s3 BR.out.drew, Blk.s3 BN.out.drew⟩
            refine wpAnyH_take (i := 0) (v := ?_) rfl (by kernel_rfl) (by kernel_rfl) (by kernel_rfl) (fun _ _ _ h => h) (Or.inl ⟨by rfl, ?_⟩) (by assumption) ?_
            rotate_left
            · (intro w hSw; (try dsimp only at hSw); go_simp; first | done | with_reducible rfl)
            (try simp only [Act.put, List.getElem_toArray, List.getElem_cons_zero, List.getElem_cons_succ, List.setIfInBounds_toArray, List.set_cons_zero, List.set_cons_succ])
            refine wpAnyH_take (i := 1) (v := ?_) rfl (by kernel_rfl) (by kernel_rfl) (by kernel_rfl) (fun _ _ _ h => h) (Or.inl ⟨by rfl, ?_⟩) (by assumption) ?_
            rotate_left
            · (intro w hSw; (try dsimp only at hSw); go_simp; first | done | with_reducible rfl)
            (try simp only [Act.put, List.getElem_toArray, List.getElem_cons_zero, List.getElem_cons_succ, List.setIfInBounds_toArray, List.set_cons_zero, List.set_cons_succ])
            refine wpAnyH_take (i := 2) (v := ?_) rfl (by kernel_rfl) (by kernel_rfl) (by kernel_rfl) (fun _ _ _ h => h) (Or.inl ⟨by rfl, ?_⟩) (by assumption) ?_
            rotate_left
            · (intro w hSw; (try dsimp only at hSw); go_simp; first | done | with_reducible rfl)
            (try simp only [Act.put, List.getElem_toArray, List.getElem_cons_zero, List.getElem_cons_succ, List.setIfInBounds_toArray, List.set_cons_zero, List.set_cons_succ])
            refine wpAnyH_take (i := 3) (v := ?_) rfl (by kernel_rfl) (by kernel_rfl) (by kernel_rfl) (fun _ _ _ h => h) (Or.inl ⟨by rfl, ?_⟩) (by assumption) ?_
            rotate_left
            · (intro w hSw; (try dsimp only at hSw); go_simp; first | done | with_reducible rfl)
            (try simp only [Act.put, List.getElem_toArray, List.getElem_cons_zero, List.getElem_cons_succ, List.setIfInBounds_toArray, List.set_cons_zero, List.set_cons_succ])
            refine wpAnyH_take (i := 4) (v := ?_) rfl (by kernel_rfl) (by kernel_rfl) (by kernel_rfl) (fun _ _ _ h => h) (Or.inl ⟨by rfl, ?_⟩) (by assumption) ?_
            rotate_left
            · (intro w hSw; (try dsimp only at hSw); go_simp; first | done | with_reducible rfl)
            (try simp only [Act.put, List.getElem_toArray, List.getElem_cons_zero, List.getElem_cons_succ, List.setIfInBounds_toArray, List.set_cons_zero, List.set_cons_succ])
            refine wpAnyH_take (i := 6) (v := ?_) rfl (by kernel_rfl) (by kernel_rfl) (by kernel_rfl) (fun _ _ _ h => h) (Or.inl ⟨by rfl, ?_⟩) (by assumption) ?_
            rotate_left
            · (intro w hSw; (try dsimp only at hSw); go_simp; first | done | with_reducible rfl)
            (try simp only [Act.put, List.getElem_toArray, List.getElem_cons_zero, List.getElem_cons_succ, List.setIfInBounds_toArray, List.set_cons_zero, List.set_cons_succ])
            refine wpAnyH_take (i := 8) (v := ?_) rfl (by kernel_rfl) (by kernel_rfl) (by kernel_rfl) (fun _ _ _ h => h) (Or.inl ⟨by rfl, ?_⟩) (by assumption) ?_
            rotate_left
            · (intro w hSw; (try dsimp only at hSw); go_simp; first | done | with_reducible rfl)
            (try simp only [Act.put, List.getElem_toArray, List.getElem_cons_zero, List.getElem_cons_succ, List.setIfInBounds_toArray, List.set_cons_zero, List.set_cons_succ])
            refine wpAnyH_ready (rs := [5]) (by kernel_rfl) (by simp) ?_
            refine AllReadyH.cons rfl (fun K hK => ?_) ?_
            rotate_left
            · exact AllReadyH.nil
            go_simp
            refine (HCH.out _ (HL.out.ext (by first | exact Ext.refl _ | exact (Ext.refl _).drew))).mono ?_
            rintro e w8 ⟨rfl, hx⟩
            have hx := Ext.trans (show Ext w7 _ from by first | exact Ext.refl _ | exact (Ext.refl _).drew) hx
            have HL := Lib.hid (HL.out.ext hx); have HM := Lib.hid (HM.out.ext hx); have A0 := Lib.hid (A0.out.ext hx); have A1 := Lib.hid (A1.out.ext hx); have A2 := Lib.hid (A2.out.ext hx); have A3 := Lib.hid (A3.out.ext hx); have RB := Lib.hid (RB.out.ext hx); have BN := Lib.hid (BN.out.ext hx); have No := Lib.hid (No.out.ext hx); have Oo := Lib.hid (Oo.out.ext hx); have BR := Lib.hid (BR.out.ext hx); have X := Lib.hid (X.out.trans hx)
            clear hx
            first | refine hK.out _ _ ?_ (fun hHeld => ?_) | (go_wp2_with fail; refine hK.out _ _ ?_ (fun hHeld => ?_))
            · exact ⟨Blk.s3 A0.out, Blk.s3 BR.out, Blk.s3 BN.out⟩
            clear hK K
            (try simp only [Act.put, List.getElem_toArray, List.getElem_cons_zero, List.getElem_cons_succ, List.setIfInBounds_toArray, List.set_cons_zero, List.set_cons_succ])
            refine wpAnyH_take (i := 7) (v := ?_) rfl (by kernel_rfl) (by kernel_rfl) (by kernel_rfl) (fun _ _ _ h => h) (Or.inl ⟨by rfl, ?_⟩) (by assumption) ?_
            rotate_left
            · (intro w hSw; (try dsimp only at hSw); go_simp; first | done | with_reducible rfl)
            (try simp only [Act.put, List.getElem_toArray, List.getElem_cons_zero, List.getElem_cons_succ, List.setIfInBounds_toArray, List.set_cons_zero, List.set_cons_succ])
            have qA2 := A2.out.cell; have fA2 := A2.out.free; have lA2 := A2.out.lt; have qA3 := A3.out.cell; have fA3 := A3.out.free; have lA3 := A3.out.lt
            refine wpAnyH_ready (rs := [9]) (by kernel_rfl) (by simp) ?_
            refine AllReadyH.cons rfl (fun K hK => ?_) ?_
            rotate_left
            · exact AllReadyH.nil
            go_simp
            first | refine hK.out _ _ ?_ (fun hHeld => ?_) | (go_wp2_with fail; refine hK.out _ _ ?_ (fun hHeld => ?_))
            · exact ⟨Blk.s3 (Blk.off5 A0.out (by omega) _ _ _ _ _), Blk.s3 (Blk.off5 BR.out (by omega) _ _ _ _ _), Blk.s3 (Blk.off5 BN.out (by omega) _ _ _ _ _)⟩
            clear hK K
            (try simp only [Act.put, List.getElem_toArray, List.getElem_cons_zero, List.getElem_cons_succ, List.setIfInBounds_toArray, List.set_cons_zero, List.set_cons_succ])
            refine wpAnyH_ready (rs := [10]) (by kernel_rfl) (by simp) ?_
            refine AllReadyH.cons rfl (fun K hK => ?_) ?_
            rotate_left
            · exact AllReadyH.nil
            go_simp
            first | refine hK.out _ _ ?_ (fun hHeld => ?_) | (go_wp2_with fail; refine hK.out _ _ ?_ (fun hHeld => ?_))
            · exact ⟨Blk.s3 (Blk.off3 (Blk.off5 A0.out (by omega) _ _ _ _ _) (by omega) _ _ _), Blk.s3 (Blk.off3 (Blk.off5 BR.out (by omega) _ _ _ _ _) (by omega) _ _ _), Blk.s3 (Blk.off3 (Blk.off5 BN.out (by omega) _ _ _ _ _) (by omega) _ _ _)⟩
            clear hK K
            (try simp only [Act.put, List.getElem_toArray, List.getElem_cons_zero, List.getElem_cons_succ, List.setIfInBounds_toArray, List.set_cons_zero, List.set_cons_succ])
            refine wpAnyH_ready (rs := [11]) (by kernel_rfl) (by simp) ?_
            refine AllReadyH.cons rfl (fun K hK => ?_) ?_
            rotate_left
            · exact AllReadyH.nil
            go_simp
            first | refine hK.out _ _ ?_ (fun hHeld => ?_) | (go_wp2_with fail; refine hK.out _ _ ?_ (fun hHeld => ?_))
            · exact ⟨Blk.s3 (Blk.off3 (Blk.off5 A0.out (by omega) _ _ _ _ _) (by omega) _ _ _), Blk.s3 (Blk.off3 (Blk.off5 BR.out (by omega) _ _ _ _ _) (by omega) _ _ _), Blk.s3 (Blk.off3 (Blk.off5 BN.out (by omega) _ _ _ _ _) (by omega) _ _ _)⟩
            clear hK K
            (try simp only [Act.put, List.getElem_toArray, List.getElem_cons_zero, List.getElem_cons_succ, List.setIfInBounds_toArray, List.set_cons_zero, List.set_cons_succ])
            refine wpAnyH_done (by kernel_rfl) ?_ _
            go_wp2_with fail
            refine bodyPost_ret (v := .tuple #[.agg #[.int .i64 b, .int .u8 K, .bool r.neg, .slice o1 r.num.length o2, .slice o3 r.den.length o4], .agg #[.int .i64 m1, .int .i64 m2, .int .i64 m3], .int .i64 0]) (by simp only [results, Tryz.results37]; go_simp) rfl ⟨ResC.mk (NewR.set3 (NewR.set5 Oo.out A2.out (by decide) _ _ _ _ _) (Blk.off5 A3.out (by omega) _ _ _ _ _) (by decide) _ _ _) EE.out, ?_⟩
            have := X.out; (repeat (first | (with_reducible exact Ext.refl _) | (with_reducible assumption) | (with_reducible refine Ext.alloc ?_ _) | ((with_reducible refine Ext.setp ?_ ?_); focus (dsimp only; omega)) | (with_reducible refine Ext.drew ?_) | (with_reducible refine Ext.drewN ?_ _) | (with_reducible refine Ext.trans ?_ (by assumption))))
          | none =>
            have e1 : keyB none = 0 := rfl
            rw [e1]
            go_wp2_with fail
            refine (candidates_any ac costs.length cc (some ⟨w4.heap.size, 0, none⟩) 1 1 _).mono ?_
            rintro e w5 ⟨rfl, hw2⟩
            have hx : Ext w4 w5 := by rw [hw2]; exact (((Ext.refl w4).alloc _).alloc _).alloc _
            have hbm : Blk w5 w4.heap.size #[.slice am mask.length cm] 49 := by rw [hw2]; exact ((Blk.new w4 _ _).alloc _).alloc _
            have hb0 : Blk w5 (w4.heap.size + 1) #[.slice ac costs.length cc] 48 := by
              rw [hw2]; have hh := (Blk.new (w4.alloc (.cells #[.slice am mask.length cm] 49)) #[.slice ac costs.length cc] 48).alloc (.cells #[.slice (some ⟨w4.heap.size, 0, none⟩) 1 1] 193)
              rwa [World.size_alloc] at hh
            have hb1 : Blk w5 (w4.heap.size + 1 + 1) #[.slice (some ⟨w4.heap.size, 0, none⟩) 1 1] 193 := by
              rw [hw2]; have hh := Blk.new ((w4.alloc (.cells #[.slice am mask.length cm] 49)).alloc (.cells #[.slice ac costs.length cc] 48)) #[.slice (some ⟨w4.heap.size, 0, none⟩) 1 1] 193
              rwa [World.size_alloc, World.size_alloc] at hh
            have BM := Lib.hid hbm; have B0 := Lib.hid hb0; have B1 := Lib.hid hb1
            clear hw2 hbm hb0 hb1
            have HL := Lib.hid (HL.out.ext hx); have HM := Lib.hid (HM.out.ext hx); have A0 := Lib.hid (A0.out.ext hx); have A1 := Lib.hid (A1.out.ext hx); have A2 := Lib.hid (A2.out.ext hx); have A3 := Lib.hid (A3.out.ext hx); have RB := Lib.hid (RB.out.ext hx); have X := Lib.hid (X.out.trans hx)
            clear hx
            go_wp2_with fail
            refine (HFI1.out _ (some ⟨w4.heap.size, 0, none⟩) (w4.heap.size + 1) B1.out.lt B0.out B1.out X.out (rdMs_one HM.out BM.out (by have := H2.out; have := H3.out; omega))).mono ?_
            rintro e w6 ⟨rfl, hx⟩
            have HL := Lib.hid (HL.out.ext hx); have HM := Lib.hid (HM.out.ext hx); have A0 := Lib.hid (A0.out.ext hx); have A1 := Lib.hid (A1.out.ext hx); have A2 := Lib.hid (A2.out.ext hx); have A3 := Lib.hid (A3.out.ext hx); have RB := Lib.hid (RB.out.ext hx); have X := Lib.hid (X.out.trans hx)
            clear hx
            cases b1 with
            | some b =>
              have e1 : keyB (some b) = (b : Int) := rfl
              rw [e1]
              have qA0 := A0.out.cell; have fA0 := A0.out.free; have lA0 := A0.out.lt
              go_wp2_with fail
              obtain ⟨hbl, hE⟩ := HE5.out b (rfl)
              obtain ⟨hn1, hn2⟩ := And.intro hbl hE
              have hbl2 : b < l.length := by have := H2.out; omega
              have hnv := nextS_0 (age := age) (rev := rev) HAC.out HNI.out hbl2 HME.out
              have hnx := fun W h => HNX.out W b h hbl2
              rw [hnv] at hnx
              obtain ⟨bb, off, rfl, hbb, x0, x1, x2, hrd⟩ := HR.out b hbl
              have hlr := HLM.out b hbl
              have hck := okAt H4.out hbl
              have hadd := fun W (x : Ext w W) => addR_any _ _ _ _ W (hrd.ext x) (NewR.zero W W).rd hlr (show LimR zR from ⟨fun y hy => (by cases hy), fun y hy => (by cases hy)⟩)
              have hch := fun W h => change_any (.slice al l.length cl) l ni b W h HNI.out hbl2
              obtain ⟨r, hrr⟩ : ∃ r, r = costs.getD b zR := ⟨_, rfl⟩
              obtain ⟨fb, hfb⟩ : ∃ y, y = f b := ⟨_, rfl⟩
              rw [← hrr] at x0 x1 x2 hlr hck hadd hE
              rw [← hfb] at x1 x2 hadd
              rw [addR_zero hlr hck] at hadd
              obtain ⟨K, hK⟩ : ∃ K, K = chg l ni b := ⟨_, rfl⟩
              rw [← hK] at hch hE hnx
              obtain ⟨nv, hnv2⟩ : ∃ x, x = nextV K age rev (b : Nat) := ⟨_, rfl⟩
              rw [← hnv2] at hE hnx
              obtain ⟨m1, m2, m3⟩ := nv
              unfold memW at hnx
              dsimp only at hnx hE
              have hyy0 := (X.out.cell (p := ⟨bb, off + b * 3, none⟩) hbb).trans x0
              have HY := Lib.hid (And.intro hbb (And.intro x0 (And.intro x1 x2)))
              have HNXB := Lib.hid hnx; have HADD := Lib.hid hadd; have HCH := Lib.hid hch; have EE := Lib.hid hE
              have q5 : (0 : Int) ≤ (b : Int) := by omega
              have q6 : (b : Int) < (costs.length : Int) := by omega
              clear hyy0 hnx hadd hch hE hK hnv2 hrr hfb hlr hck x0 x1 x2 hrd hbb hn1 hn2 hnv hbl hbl2
              refine (HNXB.out _ HL.out).mono ?_
              rintro e w7 ⟨rfl, hx⟩
              clear qA0 fA0 lA0
              have HL := Lib.hid (HL.out.ext hx); have HM := Lib.hid (HM.out.ext hx); have A0 := Lib.hid (A0.out.ext hx); have A1 := Lib.hid (A1.out.ext hx); have A2 := Lib.hid (A2.out.ext hx); have A3 := Lib.hid (A3.out.ext hx); have RB := Lib.hid (RB.out.ext hx); have X := Lib.hid (X.out.trans hx)
              clear hx
              have bz := Blk.new w7 #[.int .i64 m1, .int .i64 m2, .int .i64 m3] 47
              have hx := (Ext.refl w7).alloc (.cells #[.int .i64 m1, .int .i64 m2, .int .i64 m3] 47)
              have g1 : w.heap.size + 1 + 1 + 1 < w7.heap.size := A3.out.lt
              have HL := Lib.hid (HL.out.ext hx); have HM := Lib.hid (HM.out.ext hx); have A0 := Lib.hid (A0.out.ext hx); have A1 := Lib.hid (A1.out.ext hx); have A2 := Lib.hid (A2.out.ext hx); have A3 := Lib.hid (A3.out.ext hx); have RB := Lib.hid (RB.out.ext hx); have X := Lib.hid (X.out.trans hx)
              have BN := Lib.hid bz; clear bz hx
              obtain ⟨nN, hnN⟩ : ∃ n, n = w7.heap.size := ⟨_, rfl⟩
              rw [← hnN] at BN g1
              obtain ⟨hbb, x0, x1, x2⟩ := HY.out
              have y0 := (X.out.cell (p := ⟨bb, off + b * 3, none⟩) hbb).trans x0
              have y1 := (X.out.cell (p := ⟨bb, off + b * 3 + 1, none⟩) hbb).trans x1
              have y2 := (X.out.cell (p := ⟨bb, off + b * 3 + 2, none⟩) hbb).trans x2
              clear hbb x0 x1 x2
              go_wp2_with fail
              rw [← hnN]; clear hnN
              have xo := X.out
              refine (HADD.out _ X.out).mono ?_
              rintro e w8 ⟨⟨v, rfl, nn⟩, hx⟩
              have HL := Lib.hid (HL.out.ext hx); have HM := Lib.hid (HM.out.ext hx); have A0 := Lib.hid (A0.out.ext hx); have A1 := Lib.hid (A1.out.ext hx); have A2 := Lib.hid (A2.out.ext hx); have A3 := Lib.hid (A3.out.ext hx); have RB := Lib.hid (RB.out.ext hx); have BN := Lib.hid (BN.out.ext hx); have X := Lib.hid (X.out.trans hx)
              obtain ⟨o1, o2, o3, o4, rfl⟩ := nn.shape
              have No := Lib.hid nn.rd
              have Oo := Lib.hid (nn.from xo)
              clear xo
              clear nn hx
              go_wp2_with fail
              have bz := Blk.new w8 #[.bool r.neg, .slice o1 r.num.length o2, .slice o3 r.den.length o4] 62
              have hx : Ext w8 (w8.alloc (.cells #[.bool r.neg, .slice o1 r.num.length o2, .slice o3 r.den.length o4] 62)) := (Ext.refl _).alloc _
              obtain ⟨BRn, hBR⟩ : ∃ n, n = w8.heap.size := ⟨_, rfl⟩
              have gBR : w.heap.size + 1 + 1 + 1 < BRn := by rw [hBR]; exact A3.out.lt
              obtain ⟨w9, hw9⟩ : ∃ W, W = w8.alloc (.cells #[.bool r.neg, .slice o1 r.num.length o2, .slice o3 r.den.length o4] 62) := ⟨_, rfl⟩
              rw [← hw9] at bz hx ⊢; rw [← hBR] at bz ⊢; clear hw9 hBR
              have HL := Lib.hid (HL.out.ext hx); have HM := Lib.hid (HM.out.ext hx); have A0 := Lib.hid (A0.out.ext hx); have A1 := Lib.hid (A1.out.ext hx); have A2 := Lib.hid (A2.out.ext hx); have A3 := Lib.hid (A3.out.ext hx); have RB := Lib.hid (RB.out.ext hx); have BN := Lib.hid (BN.out.ext hx); have No := Lib.hid (No.out.ext hx); have Oo := Lib.hid (Oo.out.ext hx); have X := Lib.hid (X.out.trans hx)
              have BR := Lib.hid bz; clear hx bz
              refine wp_region_held_drew (S := (fun W => (Blk W w.heap.size #[.int .i64 ni, .int .i64 age, .int .i64 rev] 47 ∧ W.cell? ⟨w.heap.size, 0, none⟩ = some (.int .i64 ni) ∧ W.cell? ⟨w.heap.size, 1, none⟩ = some (.int .i64 age) ∧ W.cell? ⟨w.heap.size, 2, none⟩ = some (.int .i64 rev)) ∧ (Blk W BRn #[.bool r.neg, .slice o1 r.num.length o2, .slice o3 r.den.length o4] 62 ∧ W.cell? ⟨BRn, 0, none⟩ = some (.bool r.neg) ∧ W.cell? ⟨BRn, 1, none⟩ = some (.slice o1 r.num.length o2) ∧ W.cell? ⟨BRn, 2, none⟩ = some (.slice o3 r.den.length o4)) ∧ (Blk W nN #[.int .i64 m1, .int .i64 m2, .int .i64 m3] 47 ∧ W.cell? ⟨nN, 0, none⟩ = some (.int .i64 m1) ∧ W.cell? ⟨nN, 1, none⟩ = some (.int .i64 m2) ∧ W.cell? ⟨nN, 2, none⟩ = some (.int .i64 m3)))) (by kernel_rfl) ?_ (fun hHeld => ?_)
              · exact ⟨Blk.s3 A0.out.drew, Blk.s3 BR.out.drew, Blk.s3 BN.out.drew⟩
              refine wpAnyH_take (i := 0) (v := ?_) rfl (by kernel_rfl) (by kernel_rfl) (by kernel_rfl) (fun _ _ _ h => h) (Or.inl ⟨by rfl, ?_⟩) (by assumption) ?_
              rotate_left
              · (intro w hSw; (try dsimp only at hSw); go_simp; first | done | with_reducible rfl)
              (try simp only [Act.put, List.getElem_toArray, List.getElem_cons_zero, List.getElem_cons_succ, List.setIfInBounds_toArray, List.set_cons_zero, List.set_cons_succ])
              refine wpAnyH_take (i := 1) (v := ?_) rfl (by kernel_rfl) (by kernel_rfl) (by kernel_rfl) (fun _ _ _ h => h) (Or.inl ⟨by rfl, ?_⟩) (by assumption) ?_
              rotate_left
              · (intro w hSw; (try dsimp only at hSw); go_simp; first | done | with_reducible rfl)
              (try simp only [Act.put, List.getElem_toArray, List.getElem_cons_zero, List.getElem_cons_succ, List.setIfInBounds_toArray, List.set_cons_zero, List.set_cons_succ])
              refine wpAnyH_take (i := 2) (v := ?_) rfl (by kernel_rfl) (by kernel_rfl) (by kernel_rfl) (fun _ _ _ h => h) (Or.inl ⟨by rfl, ?_⟩) (by assumption) ?_
              rotate_left
              · (intro w hSw; (try dsimp only at hSw); go_simp; first | done | with_reducible rfl)
              (try simp only [Act.put, List.getElem_toArray, List.getElem_cons_zero, List.getElem_cons_succ, List.setIfInBounds_toArray, List.set_cons_zero, List.set_cons_succ])
              refine wpAnyH_take (i := 3) (v := ?_) rfl (by kernel_rfl) (by kernel_rfl) (by kernel_rfl) (fun _ _ _ h => h) (Or.inl ⟨by rfl, ?_⟩) (by assumption) ?_
              rotate_left
              · (intro w hSw; (try dsimp only at hSw); go_simp; first | done | with_reducible rfl)
              (try simp only [Act.put, List.getElem_toArray, List.getElem_cons_zero, List.getElem_cons_succ, List.setIfInBounds_toArray, List.set_cons_zero, List.set_cons_succ])
              refine wpAnyH_take (i := 4) (v := ?_) rfl (by kernel_rfl) (by kernel_rfl) (by kernel_rfl) (fun _ _ _ h => h) (Or.inl ⟨by rfl, ?_⟩) (by assumption) ?_
              rotate_left
              · (intro w hSw; (try dsimp only at hSw); go_simp; first | done | with_reducible rfl)
              (try simp only [Act.put, List.getElem_toArray, List.getElem_cons_zero, List.getElem_cons_succ, List.setIfInBounds_toArray, List.set_cons_zero, List.set_cons_succ])
              refine wpAnyH_take (i := 6) (v := ?_) rfl (by kernel_rfl) (by kernel_rfl) (by kernel_rfl) (fun _ _ _ h => h) (Or.inl ⟨by rfl, ?_⟩) (by assumption) ?_
              rotate_left
              · (intro w hSw; (try dsimp only at hSw); go_simp; first | done | with_reducible rfl)
              (try simp only [Act.put, List.getElem_toArray, List.getElem_cons_zero, List.getElem_cons_succ, List.setIfInBounds_toArray, List.set_cons_zero, List.set_cons_succ])
              refine wpAnyH_take (i := 8) (v := ?_) rfl (by kernel_rfl) (by kernel_rfl) (by kernel_rfl) (fun _ _ _ h => h) (Or.inl ⟨by rfl, ?_⟩) (by assumption) ?_
              rotate_left
              · (intro w hSw; (try dsimp only at hSw); go_simp; first | done | with_reducible rfl)
              (try simp only [Act.put, List.getElem_toArray, List.getElem_cons_zero, List.getElem_cons_succ, List.setIfInBounds_toArray, List.set_cons_zero, List.set_cons_succ])
              refine wpAnyH_ready (rs := [5]) (by kernel_rfl) (by simp) ?_
              refine AllReadyH.cons rfl (fun K hK => ?_) ?_
              rotate_left
              · exact AllReadyH.nil
              go_simp
              refine (HCH.out _ (HL.out.ext (by first | exact Ext.refl _ | exact (Ext.refl _).drew))).mono ?_
              rintro e w10 ⟨rfl, hx⟩
              have hx := Ext.trans (show Ext w9 _ from by first | exact Ext.refl _ | exact (Ext.refl _).drew) hx
              have HL := Lib.hid (HL.out.ext hx); have HM := Lib.hid (HM.out.ext hx); have A0 := Lib.hid (A0.out.ext hx); have A1 := Lib.hid (A1.out.ext hx); have A2 := Lib.hid (A2.out.ext hx); have A3 := Lib.hid (A3.out.ext hx); have RB := Lib.hid (RB.out.ext hx); have BN := Lib.hid (BN.out.ext hx); have No := Lib.hid (No.out.ext hx); have Oo := Lib.hid (Oo.out.ext hx); have BR := Lib.hid (BR.out.ext hx); have X := Lib.hid (X.out.trans hx)
              clear hx
              first | refine hK.out _ _ ?_ (fun hHeld => ?_) | (go_wp2_with fail; refine hK.out _ _ ?_ (fun hHeld => ?_))
              · exact ⟨Blk.s3 A0.out, Blk.s3 BR.out, Blk.s3 BN.out⟩
              clear hK K
              (try simp only [Act.put, List.getElem_toArray, List.getElem_cons_zero, List.getElem_cons_succ, List.setIfInBounds_toArray, List.set_cons_zero, List.set_cons_succ])
              refine wpAnyH_take (i := 7) (v := ?_) rfl (by kernel_rfl) (by kernel_rfl) (by kernel_rfl) (fun _ _ _ h => h) (Or.inl ⟨by rfl, ?_⟩) (by assumption) ?_
              rotate_left
              · (intro w hSw; (try dsimp only at hSw); go_simp; first | done | with_reducible rfl)
              (try simp only [Act.put, List.getElem_toArray, List.getElem_cons_zero, List.getElem_cons_succ, List.setIfInBounds_toArray, List.set_cons_zero, List.set_cons_succ])
              have qA2 := A2.out.cell; have fA2 := A2.out.free; have lA2 := A2.out.lt; have qA3 := A3.out.cell; have fA3 := A3.out.free; have lA3 := A3.out.lt
              refine wpAnyH_ready (rs := [9]) (by kernel_rfl) (by simp) ?_
              refine AllReadyH.cons rfl (fun K hK => ?_) ?_
              rotate_left
              · exact AllReadyH.nil
              go_simp
              first | refine hK.out _ _ ?_ (fun hHeld => ?_) | (go_wp2_with fail; refine hK.out _ _ ?_ (fun hHeld => ?_))
              · exact ⟨Blk.s3 (Blk.off5 A0.out (by omega) _ _ _ _ _), Blk.s3 (Blk.off5 BR.out (by omega) _ _ _ _ _), Blk.s3 (Blk.off5 BN.out (by omega) _ _ _ _ _)⟩
              clear hK K
              (try simp only [Act.put, List.getElem_toArray, List.getElem_cons_zero, List.getElem_cons_succ, List.setIfInBounds_toArray, List.set_cons_zero, List.set_cons_succ])
              refine wpAnyH_ready (rs := [10]) (by kernel_rfl) (by simp) ?_
              refine AllReadyH.cons rfl (fun K hK => ?_) ?_
              rotate_left
              · exact AllReadyH.nil
              go_simp
              first | refine hK.out _ _ ?_ (fun hHeld => ?_) | (go_wp2_with fail; refine hK.out _ _ ?_ (fun hHeld => ?_))
              · exact ⟨Blk.s3 (Blk.off3 (Blk.off5 A0.out (by omega) _ _ _ _ _) (by omega) _ _ _), Blk.s3 (Blk.off3 (Blk.off5 BR.out (by omega) _ _ _ _ _) (by omega) _ _ _), Blk.s3 (Blk.off3 (Blk.off5 BN.out (by omega) _ _ _ _ _) (by omega) _ _ _)⟩
              clear hK K
              (try simp only [Act.put, List.getElem_toArray, List.getElem_cons_zero, List.getElem_cons_succ, List.setIfInBounds_toArray, List.set_cons_zero, List.set_cons_succ])
              refine wpAnyH_ready (rs := [11]) (by kernel_rfl) (by simp) ?_
              refine AllReadyH.cons rfl (fun K hK => ?_) ?_
              rotate_left
              · exact AllReadyH.nil
              go_simp
              first | refine hK.out _ _ ?_ (fun hHeld => ?_) | (go_wp2_with fail; refine hK.out _ _ ?_ (fun hHeld => ?_))
              · exact ⟨Blk.s3 (Blk.off3 (Blk.off5 A0.out (by omega) _ _ _ _ _) (by omega) _ _ _), Blk.s3 (Blk.off3 (Blk.off5 BR.out (by omega) _ _ _ _ _) (by omega) _ _ _), Blk.s3 (Blk.off3 (Blk.off5 BN.out (by omega) _ _ _ _ _) (by omega) _ _ _)⟩
              clear hK K
              (try simp only [Act.put, List.getElem_toArray, List.getElem_cons_zero, List.getElem_cons_succ, List.setIfInBounds_toArray, List.set_cons_zero, List.set_cons_succ])
              refine wpAnyH_done (by kernel_rfl) ?_ _
              go_wp2_with fail
              refine bodyPost_ret (v := .tuple #[.agg #[.int .i64 b, .int .u8 K, .bool r.neg, .slice o1 r.num.length o2, .slice o3 r.den.length o4], .agg #[.int .i64 m1, .int .i64 m2, .int .i64 m3], .int .i64 0]) (by simp only [results, Tryz.results37]; go_simp) rfl ⟨ResC.mk (NewR.set3 (NewR.set5 Oo.out A2.out (by decide) _ _ _ _ _) (Blk.off5 A3.out (by omega) _ _ _ _ _) (by decide) _ _ _) EE.out, ?_⟩
              have := X.out; (repeat (first | (with_reducible exact Ext.refl _) | (with_reducible assumption) | (with_reducible refine Ext.alloc ?_ _) | ((with_reducible refine Ext.setp ?_ ?_); focus (dsimp only; omega)) | (with_reducible refine Ext.drew ?_) | (with_reducible refine Ext.drewN ?_ _) | (with_reducible refine Ext.trans ?_ (by assumption))))
            | none =>
              have e1 : keyB none = 0 := rfl
              rw [e1]
              have EF := Lib.hid (HE4.out rfl)
              go_wp2_with fail
              refine (chooseFail_any _ _).mono ?_
              rintro e w7 ⟨rfl, hx⟩
              have HL := Lib.hid (HL.out.ext hx); have HM := Lib.hid (HM.out.ext hx); have A0 := Lib.hid (A0.out.ext hx); have A1 := Lib.hid (A1.out.ext hx); have A2 := Lib.hid (A2.out.ext hx); have A3 := Lib.hid (A3.out.ext hx); have RB := Lib.hid (RB.out.ext hx); have X := Lib.hid (X.out.trans hx)
              clear hx
              have qA2 := A2.out.cell; have fA2 := A2.out.free; have lA2 := A2.out.lt; have qA3 := A3.out.cell; have fA3 := A3.out.free; have lA3 := A3.out.lt
              go_wp2_with fail
              refine bodyPost_ret (v := .tuple #[.agg #[.int .i64 0, .int .u8 0, .bool false, .slice none 0 0, .slice none 0 0], .agg #[.int .i64 0, .int .i64 0, .int .i64 0], .int .i64 9]) (by simp only [results, Tryz.results37]; go_simp) rfl ⟨ResC.zero EF.out, ?_⟩
              have := X.out; (repeat (first | (with_reducible exact Ext.refl _) | (with_reducible assumption) | (with_reducible refine Ext.alloc ?_ _) | ((with_reducible refine Ext.setp ?_ ?_); focus (dsimp only; omega)) | (with_reducible refine Ext.drew ?_) | (with_reducible refine Ext.drewN ?_ _) | (with_reducible refine Ext.trans ?_ (by assumption))))
        · have EF := Lib.hid (chooseS_3 (now := ni) (age := age) (rev := rev) (lr := lr) (lh := lh) (by rw [← hS]; exact h1) h2 h3 h4)
          obtain ⟨c, hc⟩ : ∃ c, c = chkRs costs := ⟨_, rfl⟩
          rw [← hc] at h4 hck EF
          have HCK := Lib.hid hck
          obtain ⟨sv, hsv⟩ : ∃ sv, sv = S.1 := ⟨_, rfl⟩
          rw [← hsv] at HAL
          clear hck hc hr hal hal1 hS h1 h2 h3 hme hac hni hsv
          go_enter Tryz.func37, Tryz.ntmps37
          have qA0 := A0.out.cell; have fA0 := A0.out.free; have lA0 := A0.out.lt; have qA1 := A1.out.cell; have fA1 := A1.out.free; have lA1 := A1.out.lt
          go_wp2_with fail
          refine (HAL.out _ HL.out).mono ?_
          rintro e w1 ⟨⟨vmay, rfl, hown⟩, hx⟩
          clear qA0 fA0 lA0 qA1 fA1 lA1
          have HL := Lib.hid (HL.out.ext hx); have HM := Lib.hid (HM.out.ext hx); have A0 := Lib.hid (A0.out.ext hx); have A1 := Lib.hid (A1.out.ext hx); have A2 := Lib.hid (A2.out.ext hx); have A3 := Lib.hid (A3.out.ext hx); have X := Lib.hid (X.out.trans hx)
          have RB := Lib.hid (OwBo.rd hown)
          obtain ⟨ab, cb, rfl, hbc1, hbc2, -⟩ := rdB_get RB.out
          clear hown hx
          go_wp2_with fail
          refine (HCK.out _ X.out).mono ?_
          rintro e w2 ⟨rfl, hx⟩
          have HL := Lib.hid (HL.out.ext hx); have HM := Lib.hid (HM.out.ext hx); have A0 := Lib.hid (A0.out.ext hx); have A1 := Lib.hid (A1.out.ext hx); have A2 := Lib.hid (A2.out.ext hx); have A3 := Lib.hid (A3.out.ext hx); have RB := Lib.hid (RB.out.ext hx); have X := Lib.hid (X.out.trans hx)
          clear hx
          go_wp2_with fail
          refine (chooseFail_any _ _).mono ?_
          rintro e w3 ⟨rfl, hx⟩
          have HL := Lib.hid (HL.out.ext hx); have HM := Lib.hid (HM.out.ext hx); have A0 := Lib.hid (A0.out.ext hx); have A1 := Lib.hid (A1.out.ext hx); have A2 := Lib.hid (A2.out.ext hx); have A3 := Lib.hid (A3.out.ext hx); have RB := Lib.hid (RB.out.ext hx); have X := Lib.hid (X.out.trans hx)
          clear hx
          have qA2 := A2.out.cell; have fA2 := A2.out.free; have lA2 := A2.out.lt; have qA3 := A3.out.cell; have fA3 := A3.out.free; have lA3 := A3.out.lt
          go_wp2_with fail
          refine bodyPost_ret (v := .tuple #[.agg #[.int .i64 0, .int .u8 0, .bool false, .slice none 0 0, .slice none 0 0], .agg #[.int .i64 0, .int .i64 0, .int .i64 0], .int .i64 c]) (by simp only [results, Tryz.results37]; go_simp) rfl ⟨ResC.zero EF.out, ?_⟩
          have := X.out; (repeat (first | (with_reducible exact Ext.refl _) | (with_reducible assumption) | (with_reducible refine Ext.alloc ?_ _) | ((with_reducible refine Ext.setp ?_ ?_); focus (dsimp only; omega)) | (with_reducible refine Ext.drew ?_) | (with_reducible refine Ext.drewN ?_ _) | (with_reducible refine Ext.trans ?_ (by assumption))))
      · have q3 : ((mask.length : Int) != (l.length : Int)) = true := bne_iff_ne.2 (by omega)
        have EF := Lib.hid (chooseS_2 (now := ni) (age := age) (rev := rev) (costs := costs) (lr := lr) (lh := lh) (by rw [← hS]; exact h1) (.inr h3))
        obtain ⟨sv, hsv⟩ : ∃ sv, sv = S.1 := ⟨_, rfl⟩
        rw [← hsv] at HAL
        clear hck hr hal hal1 hS h1 h2 h3 hme hac hni hsv
        go_enter Tryz.func37, Tryz.ntmps37
        have qA0 := A0.out.cell; have fA0 := A0.out.free; have lA0 := A0.out.lt; have qA1 := A1.out.cell; have fA1 := A1.out.free; have lA1 := A1.out.lt
        go_wp2_with fail
        refine (HAL.out _ HL.out).mono ?_
        rintro e w1 ⟨⟨vmay, rfl, hown⟩, hx⟩
        clear qA0 fA0 lA0 qA1 fA1 lA1
        have HL := Lib.hid (HL.out.ext hx); have HM := Lib.hid (HM.out.ext hx); have A0 := Lib.hid (A0.out.ext hx); have A1 := Lib.hid (A1.out.ext hx); have A2 := Lib.hid (A2.out.ext hx); have A3 := Lib.hid (A3.out.ext hx); have X := Lib.hid (X.out.trans hx)
        have RB := Lib.hid (OwBo.rd hown)
        obtain ⟨ab, cb, rfl, hbc1, hbc2, -⟩ := rdB_get RB.out
        clear hown hx
        go_wp2_with fail
        refine (chooseFail_any _ _).mono ?_
        rintro e w2 ⟨rfl, hx⟩
        have HL := Lib.hid (HL.out.ext hx); have HM := Lib.hid (HM.out.ext hx); have A0 := Lib.hid (A0.out.ext hx); have A1 := Lib.hid (A1.out.ext hx); have A2 := Lib.hid (A2.out.ext hx); have A3 := Lib.hid (A3.out.ext hx); have RB := Lib.hid (RB.out.ext hx); have X := Lib.hid (X.out.trans hx)
        clear hx
        have qA2 := A2.out.cell; have fA2 := A2.out.free; have lA2 := A2.out.lt; have qA3 := A3.out.cell; have fA3 := A3.out.free; have lA3 := A3.out.lt
        go_wp2_with fail
        refine bodyPost_ret (v := .tuple #[.agg #[.int .i64 0, .int .u8 0, .bool false, .slice none 0 0, .slice none 0 0], .agg #[.int .i64 0, .int .i64 0, .int .i64 0], .int .i64 16]) (by simp only [results, Tryz.results37]; go_simp) rfl ⟨ResC.zero EF.out, ?_⟩
        have := X.out; (repeat (first | (with_reducible exact Ext.refl _) | (with_reducible assumption) | (with_reducible refine Ext.alloc ?_ _) | ((with_reducible refine Ext.setp ?_ ?_); focus (dsimp only; omega)) | (with_reducible refine Ext.drew ?_) | (with_reducible refine Ext.drewN ?_ _) | (with_reducible refine Ext.trans ?_ (by assumption))))
    · have q2 : ((costs.length : Int) != (l.length : Int)) = true := bne_iff_ne.2 (by omega)
      have EF := Lib.hid (chooseS_2 (now := ni) (age := age) (rev := rev) (mask := mask) (lr := lr) (lh := lh) (by rw [← hS]; exact h1) (.inl h2))
      obtain ⟨sv, hsv⟩ : ∃ sv, sv = S.1 := ⟨_, rfl⟩
      rw [← hsv] at HAL
      clear hck hr hal hal1 hS h1 h2 hme hac hni hsv
      go_enter Tryz.func37, Tryz.ntmps37
      have qA0 := A0.out.cell; have fA0 := A0.out.free; have lA0 := A0.out.lt; have qA1 := A1.out.cell; have fA1 := A1.out.free; have lA1 := A1.out.lt
      go_wp2_with fail
      refine (HAL.out _ HL.out).mono ?_
      rintro e w1 ⟨⟨vmay, rfl, hown⟩, hx⟩
      clear qA0 fA0 lA0 qA1 fA1 lA1
      have HL := Lib.hid (HL.out.ext hx); have HM := Lib.hid (HM.out.ext hx); have A0 := Lib.hid (A0.out.ext hx); have A1 := Lib.hid (A1.out.ext hx); have A2 := Lib.hid (A2.out.ext hx); have A3 := Lib.hid (A3.out.ext hx); have X := Lib.hid (X.out.trans hx)
      have RB := Lib.hid (OwBo.rd hown)
      obtain ⟨ab, cb, rfl, hbc1, hbc2, -⟩ := rdB_get RB.out
      clear hown hx
      go_wp2_with fail
      refine (chooseFail_any _ _).mono ?_
      rintro e w2 ⟨rfl, hx⟩
      have HL := Lib.hid (HL.out.ext hx); have HM := Lib.hid (HM.out.ext hx); have A0 := Lib.hid (A0.out.ext hx); have A1 := Lib.hid (A1.out.ext hx); have A2 := Lib.hid (A2.out.ext hx); have A3 := Lib.hid (A3.out.ext hx); have RB := Lib.hid (RB.out.ext hx); have X := Lib.hid (X.out.trans hx)
      clear hx
      have qA2 := A2.out.cell; have fA2 := A2.out.free; have lA2 := A2.out.lt; have qA3 := A3.out.cell; have fA3 := A3.out.free; have lA3 := A3.out.lt
      go_wp2_with fail
      refine bodyPost_ret (v := .tuple #[.agg #[.int .i64 0, .int .u8 0, .bool false, .slice none 0 0, .slice none 0 0], .agg #[.int .i64 0, .int .i64 0, .int .i64 0], .int .i64 16]) (by simp only [results, Tryz.results37]; go_simp) rfl ⟨ResC.zero EF.out, ?_⟩
      have := X.out; (repeat (first | (with_reducible exact Ext.refl _) | (with_reducible assumption) | (with_reducible refine Ext.alloc ?_ _) | ((with_reducible refine Ext.setp ?_ ?_); focus (dsimp only; omega)) | (with_reducible refine Ext.drew ?_) | (with_reducible refine Ext.drewN ?_ _) | (with_reducible refine Ext.trans ?_ (by assumption))))
  · have EF := Lib.hid (chooseS_1 (costs := costs) (mask := mask) (l := l) (now := now) (age := age) (rev := rev) (lr := lr) (lh := lh) (by rw [← hS]; exact h1))
    rw [← hS] at EF
    obtain ⟨sv, se⟩ := S
    dsimp only at hal h1 EF
    have HAL := Lib.hid hal
    clear hck hr hal hS
    go_enter Tryz.func37, Tryz.ntmps37
    have qA0 := A0.out.cell; have fA0 := A0.out.free; have lA0 := A0.out.lt; have qA1 := A1.out.cell; have fA1 := A1.out.free; have lA1 := A1.out.lt
    go_wp2_with fail
    refine (HAL.out _ HL.out).mono ?_
    rintro e w1 ⟨⟨vmay, rfl, hown⟩, hx⟩
    clear qA0 fA0 lA0 qA1 fA1 lA1
    have HL := Lib.hid (HL.out.ext hx); have HM := Lib.hid (HM.out.ext hx); have A0 := Lib.hid (A0.out.ext hx); have A1 := Lib.hid (A1.out.ext hx); have A2 := Lib.hid (A2.out.ext hx); have A3 := Lib.hid (A3.out.ext hx); have X := Lib.hid (X.out.trans hx)
    have RB := Lib.hid (OwBo.rd hown)
    obtain ⟨ab, cb, rfl, hbc1, hbc2, -⟩ := rdB_get RB.out
    clear hown hx
    go_wp2_with fail
    refine (chooseFail_any _ _).mono ?_
    rintro e w2 ⟨rfl, hx⟩
    have HL := Lib.hid (HL.out.ext hx); have HM := Lib.hid (HM.out.ext hx); have A0 := Lib.hid (A0.out.ext hx); have A1 := Lib.hid (A1.out.ext hx); have A2 := Lib.hid (A2.out.ext hx); have A3 := Lib.hid (A3.out.ext hx); have RB := Lib.hid (RB.out.ext hx); have X := Lib.hid (X.out.trans hx)
    clear hx
    have qA2 := A2.out.cell; have fA2 := A2.out.free; have lA2 := A2.out.lt; have qA3 := A3.out.cell; have fA3 := A3.out.free; have lA3 := A3.out.lt
    go_wp2_with fail
    refine bodyPost_ret (v := .tuple #[.agg #[.int .i64 0, .int .u8 0, .bool false, .slice none 0 0, .slice none 0 0], .agg #[.int .i64 0, .int .i64 0, .int .i64 0], .int .i64 se]) (by simp only [results, Tryz.results37]; go_simp) rfl ⟨ResC.zero EF.out, ?_⟩
    have := X.out; (repeat (first | (with_reducible exact Ext.refl _) | (with_reducible assumption) | (with_reducible refine Ext.alloc ?_ _) | ((with_reducible refine Ext.setp ?_ ?_); focus (dsimp only; omega)) | (with_reducible refine Ext.drew ?_) | (with_reducible refine Ext.drewN ?_ _) | (with_reducible refine Ext.trans ?_ (by assumption))))

end Go.Proofs.YthkfkfbfblppeaaGreat
