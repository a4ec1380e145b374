/- Walk of the reference of layer 28: Allowed (written by mkrall.py). Conditions: bounds that read as such. -/
import Derived.Test.YthkfkfbfblppeaaGreatAdvN
namespace Go.Proofs.YthkfkfbfblppeaaGreat
set_option linter.unusedSimpArgs false
set_option linter.unusedVariables false
open Go.RowKit

theorem owBo_mono {w : World} {B C : Nat} {v : Value} {l : List Bool} (h : OwBo w C v l) (hB : B ≤ C) : OwBo w B v l := by
  obtain ⟨h1, h2 | ⟨g9, cap9, cur9, e9, hb9, rest⟩⟩ := h
  · exact ⟨h1, .inl h2⟩
  · exact ⟨h1, .inr ⟨g9, cap9, cur9, e9, Nat.le_trans hB hb9, rest⟩⟩

set_option maxRecDepth 100000 in
set_option maxHeartbeats 8000000 in
theorem refAllowed28_any (v : Value) (l : List Bnd) (now age rev lr lh : Int) (w : World) (h : RdBnd w v l) :
    Calls Tryz.prog 33 #[v, .agg #[.int .i64 now, .int .i64 age, .int .i64 rev], .agg #[.int .i64 lr, .int .i64 lh]] w fun e w' =>
      (∃ v', e = .returned (.tuple #[v', .int .i64 (allowS l now age rev lr lh).2]) ∧ OwBo w' w.heap.size v' (allowS l now age rev lr lh).1) ∧ Ext w w' := by
  have h0 := h
  obtain ⟨a, cap, rfl, hc, hm, _⟩ := h.get
  have HL0 := Lib.hid h0
  clear h h0 hc hm
  have bb0 := ((Blk.new w #[.int .i64 now, .int .i64 age, .int .i64 rev] 47).alloc (.cells #[.int .i64 lr, .int .i64 lh] 51))
  have bb1 := (Blk.new (w.alloc (.cells #[.int .i64 now, .int .i64 age, .int .i64 rev] 47)) #[.int .i64 lr, .int .i64 lh] 51)
  rw [World.size_alloc] at bb1
  have x0 : Ext w ((w.alloc (.cells #[.int .i64 now, .int .i64 age, .int .i64 rev] 47)).alloc (.cells #[.int .i64 lr, .int .i64 lh] 51)) := (((Ext.refl w).alloc _).alloc _)
  have A0 := Lib.hid bb0; have A1 := Lib.hid bb1; have X := Lib.hid x0
  clear x0 bb0 bb1
  go_enter Tryz.func33, Tryz.ntmps33
  have qA0 := A0.out.cell; have fA0 := A0.out.free; have lA0 := A0.out.lt; have qA1 := A1.out.cell; have fA1 := A1.out.free; have lA1 := A1.out.lt
  go_wp2_with fail
  refine (memory_any _ l now age rev _ (HL0.out.ext X.out)).mono ?_
  rintro e w1 ⟨rfl, hx⟩
  clear qA0 fA0 lA0 qA1 fA1 lA1
  have A0 := Lib.hid (A0.out.ext hx); have A1 := Lib.hid (A1.out.ext hx); have X := Lib.hid (X.out.trans hx)
  clear hx
  by_cases h0 : cn1 l now = 0
  rotate_left
  · have E := Lib.hid (show allowS l now age rev lr lh = ([], cn1 l now) by unfold allowS; rw [if_pos h0])
    obtain ⟨c, hc⟩ : ∃ c, c = cn1 l now := ⟨_, rfl⟩
    rw [← hc] at E h0 ⊢
    have q1 : (c != 0) = true := by simpa using h0
    have q2 : (c == 0) = false := by simpa using h0
    clear h0 hc
    have qA0 := A0.out.cell; have fA0 := A0.out.free; have lA0 := A0.out.lt; have qA1 := A1.out.cell; have fA1 := A1.out.free; have lA1 := A1.out.lt
    go_wp2_with fail
    go_ret2
    exact ⟨⟨_, by rw [E.out]; rfl, by rw [E.out]; exact World.ownsRow_nil _ _ _ _⟩, X.out⟩
  rw [h0]
  obtain ⟨hac, i, rfl, hi⟩ := cn1_0 h0
  obtain ⟨hl6, hl0⟩ := achk_len hac
  have qA0 := A0.out.cell; have fA0 := A0.out.free; have lA0 := A0.out.lt
  go_wp2_with fail
  refine (within_any age 1000 _).mono ?_
  rintro e w30 ⟨rfl, hw9⟩
  subst hw9
  by_cases hb0 : 0 ≤ age ∧ age ≤ 1000
  rotate_left
  · have hE : allowS l i age rev lr lh = ([], 1) := by
      unfold allowS
      rw [if_neg (by simpa using h0)]
      have e1 : memE age rev = 1 := by unfold memE; rw [if_pos (by omega)]
      rw [e1]
      rw [if_pos (by decide)]
  
    rw [decide_eq_false hb0]
    have E := Lib.hid hE
    clear hE h0 hac hi hl6 hl0 hb0
    go_wp2_with fail
    go_ret2
    exact ⟨⟨_, by rw [E.out]; rfl, by rw [E.out]; exact World.ownsRow_nil _ _ _ _⟩, X.out⟩
  rw [decide_eq_true hb0]
  clear qA0 fA0 lA0
  have qA0 := A0.out.cell; have fA0 := A0.out.free; have lA0 := A0.out.lt
  go_wp2_with fail
  refine (within_any rev 100 _).mono ?_
  rintro e w31 ⟨rfl, hw9⟩
  subst hw9
  by_cases hb1 : 0 ≤ rev ∧ rev ≤ 100
  rotate_left
  · have hE : allowS l i age rev lr lh = ([], 1) := by
      unfold allowS
      rw [if_neg (by simpa using h0)]
      have e1 : memE age rev = 1 := by unfold memE; rw [if_pos (by omega)]
      rw [e1]
      rw [if_pos (by decide)]
  
    rw [decide_eq_false hb1]
    have E := Lib.hid hE
    clear hE h0 hac hi hl6 hl0 hb0 hb1
    go_wp2_with fail
    go_ret2
    exact ⟨⟨_, by rw [E.out]; rfl, by rw [E.out]; exact World.ownsRow_nil _ _ _ _⟩, X.out⟩
  rw [decide_eq_true hb1]
  clear qA0 fA0 lA0
  have qA1 := A1.out.cell; have fA1 := A1.out.free; have lA1 := A1.out.lt
  go_wp2_with fail
  refine (within_any lr 100 _).mono ?_
  rintro e w32 ⟨rfl, hw9⟩
  subst hw9
  by_cases hb2 : 0 ≤ lr ∧ lr ≤ 100
  rotate_left
  · have hE : allowS l i age rev lr lh = ([], 1) := by
      unfold allowS
      rw [if_neg (by simpa using h0)]
      have e1 : memE age rev = 0 := by unfold memE; rw [if_neg (by omega)]
      rw [e1]
      have e2 : limE lr lh = 1 := by unfold limE; rw [if_pos (by omega)]
      rw [if_neg (by decide), e2, if_pos (by decide)]
    rw [decide_eq_false hb2]
    have E := Lib.hid hE
    clear hE h0 hac hi hl6 hl0 hb0 hb1 hb2
    go_wp2_with fail
    go_ret2
    exact ⟨⟨_, by rw [E.out]; rfl, by rw [E.out]; exact World.ownsRow_nil _ _ _ _⟩, X.out⟩
  rw [decide_eq_true hb2]
  clear qA1 fA1 lA1
  have qA1 := A1.out.cell; have fA1 := A1.out.free; have lA1 := A1.out.lt
  go_wp2_with fail
  refine (within_any lh 1000 _).mono ?_
  rintro e w33 ⟨rfl, hw9⟩
  subst hw9
  by_cases hb3 : 0 ≤ lh ∧ lh ≤ 1000
  rotate_left
  · have hE : allowS l i age rev lr lh = ([], 1) := by
      unfold allowS
      rw [if_neg (by simpa using h0)]
      have e1 : memE age rev = 0 := by unfold memE; rw [if_neg (by omega)]
      rw [e1]
      have e2 : limE lr lh = 1 := by unfold limE; rw [if_pos (by omega)]
      rw [if_neg (by decide), e2, if_pos (by decide)]
    rw [decide_eq_false hb3]
    have E := Lib.hid hE
    clear hE h0 hac hi hl6 hl0 hb0 hb1 hb2 hb3
    go_wp2_with fail
    go_ret2
    exact ⟨⟨_, by rw [E.out]; rfl, by rw [E.out]; exact World.ownsRow_nil _ _ _ _⟩, X.out⟩
  rw [decide_eq_true hb3]
  have hE : allowS l i age rev lr lh = (allowL l i age rev lr lh, 0) := by
    unfold allowS
    rw [if_neg (by simpa using h0)]
    have e1 : memE age rev = 0 := by unfold memE; rw [if_neg (by omega)]
    have e2 : limE lr lh = 0 := by unfold limE; rw [if_neg (by omega)]
    rw [e1, if_neg (by decide), e2, if_neg (by decide), Int.toNat_natCast]
  have E := Lib.hid hE
  have HI := Lib.hid hi
  clear hE h0 hac hi hl0
  clear qA1 fA1 lA1
  have qA0 := A0.out.cell; have fA0 := A0.out.free; have lA0 := A0.out.lt; have qA1 := A1.out.cell; have fA1 := A1.out.free; have lA1 := A1.out.lt
  go_wp2_with fail
  clear qA0 fA0 lA0 qA1 fA1 lA1 hb0 hb1 hb2 hb3
  obtain ⟨wl, hwl⟩ : ∃ W, W = w33 := ⟨_, rfl⟩
  rw [← hwl] at X A0 A1 ⊢
  clear hwl
  have XA := X
  go_loopw [9, 10] (fun s x wr => ∃ k : Nat, k ≤ l.length ∧ x = .int .i64 k ∧ OwBo wr wl.heap.size s ((allowL l i age rev lr lh).take k) ∧ Ext wl wr) (fun _ x _ => l.length - (intOf x).toNat)
  case atStart => exact ⟨0, Nat.zero_le _, rfl, World.ownsRow_nil _ _ _ _, Ext.refl _⟩
  case round =>
    obtain ⟨k, hk, rfl, hown, hext⟩ := hrel
    have XL := Lib.hid hext
    have hal : (allowL l i age rev lr lh).length = l.length := by unfold allowL; simp
    by_cases hlt : k < l.length
    · have hlk := List.length_take_of_le (l := allowL l i age rev lr lh) (i := k) (by rw [hal]; exact hk)
      have hst : (allowL l i age rev lr lh).take (k + 1) = (allowL l i age rev lr lh).take k ++ [okK age rev lr lh (chg l i k)] := by
        rw [List.take_succ_eq_append_getElem (by rw [hal]; exact hlt)]
        simp [allowL]
      rw [OwBo, hlk] at hown
      have HO := Lib.hid hown; have HLK := Lib.hid hlk; have HST := Lib.hid hst
      have A0 := Lib.hid (A0.out.ext XL.out); have A1 := Lib.hid (A1.out.ext XL.out); have X := Lib.hid (X.out.trans XL.out)
      have q1 : (k : Int) < (l.length : Int) := by omega
      have q2 : (0 : Int) ≤ (k : Int) := by omega
      clear hown hext hlk hst hal
      have qA0 := A0.out.cell; have fA0 := A0.out.free; have lA0 := A0.out.lt
      go_wp2_with fail
      clear qA0 fA0 lA0
      refine (refChange_any _ l i k _ (HL0.out.ext X.out) HI.out hlt).mono ?_
      rintro e w5 ⟨rfl, hx⟩
      have A0 := Lib.hid (A0.out.ext hx); have A1 := Lib.hid (A1.out.ext hx); have X := Lib.hid (X.out.trans hx); have XL := Lib.hid (XL.out.trans hx)
      obtain ⟨K, hK⟩ : ∃ x, x = chg l i k := ⟨_, rfl⟩
      rw [← hK] at HST ⊢
      have HX5 := Lib.hid hx
      clear hx hK
      have qA0 := A0.out.cell; have fA0 := A0.out.free; have lA0 := A0.out.lt; have qA1 := A1.out.cell; have fA1 := A1.out.free; have lA1 := A1.out.lt
      have OW := Lib.hid (own_ext HO.out HX5.out)
      have hz := XL.out.size
      clear HO
      rw [show okK age rev lr lh K = if K = 4 then decide (rev < lr) else if K = 2 then decide (lh ≤ age) else true from rfl] at HST
      by_cases k4 : K = 4
      · subst k4
        rw [if_pos rfl] at HST
        by_cases hr : rev < lr
        · rw [decide_eq_true hr] at HST
          have q3 : ¬ lr ≤ rev := by omega
          go_wp2_with (at_builtin; (refine wpList_append_new w5 rfl _ _ 49 rfl wl.heap.size 4 (.bool false) 1 1 Tryz.underlying49 Tryz.infoBo rfl (by decide) _ _ _ OW.out rfl [_] rfl (by simp [Value.oneCell']) rfl (by omega) (by omega) hz ?_))
          intro g9 cap9 w9 hown9 hb9
          have HO9 := Lib.hid hown9; have XL9 := Lib.hid (Below.trans XL.out hb9)
          clear hown9 hb9 hz qA0 fA0 lA0 qA1 fA1 lA1
          go_wp2_with fail
          go_roundw
          case rel =>
            refine ⟨k + 1, by omega, by go_num, ?_, XL9.out⟩
            have h9 := HO9.out
            (try rw [show (!decide (lr ≤ rev)) = true from by rw [decide_eq_false (by omega)]; rfl] at h9)
            (try rw [show (!decide (age < lh)) = true from by rw [decide_eq_false (by omega)]; rfl] at h9)
            rw [OwBo, HST.out, List.length_append, HLK.out, List.map_append, List.map_take]
            exact h9
          case measure => simp [intOf]; omega
        · rw [decide_eq_false hr] at HST
          have q3 :  lr ≤ rev := by omega
          go_wp2_with (at_builtin; (refine wpList_append_new w5 rfl _ _ 49 rfl wl.heap.size 4 (.bool false) 1 1 Tryz.underlying49 Tryz.infoBo rfl (by decide) _ _ _ OW.out rfl [_] rfl (by simp [Value.oneCell']) rfl (by omega) (by omega) hz ?_))
          intro g9 cap9 w9 hown9 hb9
          have HO9 := Lib.hid hown9; have XL9 := Lib.hid (Below.trans XL.out hb9)
          clear hown9 hb9 hz qA0 fA0 lA0 qA1 fA1 lA1
          go_wp2_with fail
          go_roundw
          case rel =>
            refine ⟨k + 1, by omega, by go_num, ?_, XL9.out⟩
            have h9 := HO9.out
            (try rw [show (!decide (lr ≤ rev)) = true from by rw [decide_eq_false (by omega)]; rfl] at h9)
            (try rw [show (!decide (age < lh)) = true from by rw [decide_eq_false (by omega)]; rfl] at h9)
            rw [OwBo, HST.out, List.length_append, HLK.out, List.map_append, List.map_take]
            exact h9
          case measure => simp [intOf]; omega
      rw [if_neg k4] at HST
      have q4 : (K == 4) = false := beq_eq_false_iff_ne.2 k4
      by_cases k2 : K = 2
      · subst k2
        rw [if_pos rfl] at HST
        by_cases hr : lh ≤ age
        · rw [decide_eq_true hr] at HST
          have q3 : ¬ age < lh := by omega
          go_wp2_with (at_builtin; (refine wpList_append_new w5 rfl _ _ 49 rfl wl.heap.size 4 (.bool false) 1 1 Tryz.underlying49 Tryz.infoBo rfl (by decide) _ _ _ OW.out rfl [_] rfl (by simp [Value.oneCell']) rfl (by omega) (by omega) hz ?_))
          intro g9 cap9 w9 hown9 hb9
          have HO9 := Lib.hid hown9; have XL9 := Lib.hid (Below.trans XL.out hb9)
          clear hown9 hb9 hz qA0 fA0 lA0 qA1 fA1 lA1
          go_wp2_with fail
          go_roundw
          case rel =>
            refine ⟨k + 1, by omega, by go_num, ?_, XL9.out⟩
            have h9 := HO9.out
            (try rw [show (!decide (lr ≤ rev)) = true from by rw [decide_eq_false (by omega)]; rfl] at h9)
            (try rw [show (!decide (age < lh)) = true from by rw [decide_eq_false (by omega)]; rfl] at h9)
            rw [OwBo, HST.out, List.length_append, HLK.out, List.map_append, List.map_take]
            exact h9
          case measure => simp [intOf]; omega
        · rw [decide_eq_false hr] at HST
          have q3 :  age < lh := by omega
          go_wp2_with (at_builtin; (refine wpList_append_new w5 rfl _ _ 49 rfl wl.heap.size 4 (.bool false) 1 1 Tryz.underlying49 Tryz.infoBo rfl (by decide) _ _ _ OW.out rfl [_] rfl (by simp [Value.oneCell']) rfl (by omega) (by omega) hz ?_))
          intro g9 cap9 w9 hown9 hb9
          have HO9 := Lib.hid hown9; have XL9 := Lib.hid (Below.trans XL.out hb9)
          clear hown9 hb9 hz qA0 fA0 lA0 qA1 fA1 lA1
          go_wp2_with fail
          go_roundw
          case rel =>
            refine ⟨k + 1, by omega, by go_num, ?_, XL9.out⟩
            have h9 := HO9.out
            (try rw [show (!decide (lr ≤ rev)) = true from by rw [decide_eq_false (by omega)]; rfl] at h9)
            (try rw [show (!decide (age < lh)) = true from by rw [decide_eq_false (by omega)]; rfl] at h9)
            rw [OwBo, HST.out, List.length_append, HLK.out, List.map_append, List.map_take]
            exact h9
          case measure => simp [intOf]; omega
      rw [if_neg k2] at HST
      have q5 : (K == 2) = false := beq_eq_false_iff_ne.2 k2
      clear k4 k2

      go_wp2_with (at_builtin; (refine wpList_append_new w5 rfl _ _ 49 rfl wl.heap.size 4 (.bool false) 1 1 Tryz.underlying49 Tryz.infoBo rfl (by decide) _ _ _ OW.out rfl [_] rfl (by simp [Value.oneCell']) rfl (by omega) (by omega) hz ?_))
      intro g9 cap9 w9 hown9 hb9
      have HO9 := Lib.hid hown9; have XL9 := Lib.hid (Below.trans XL.out hb9)
      clear hown9 hb9 hz qA0 fA0 lA0 qA1 fA1 lA1
      go_wp2_with fail
      go_roundw
      case rel =>
        refine ⟨k + 1, by omega, by go_num, ?_, XL9.out⟩
        have h9 := HO9.out
        (try rw [show (!decide (lr ≤ rev)) = true from by rw [decide_eq_false (by omega)]; rfl] at h9)
        (try rw [show (!decide (age < lh)) = true from by rw [decide_eq_false (by omega)]; rfl] at h9)
        rw [OwBo, HST.out, List.length_append, HLK.out, List.map_append, List.map_take]
        exact h9
      case measure => simp [intOf]; omega
    · obtain rfl : k = l.length := by omega
      have q1 : ¬ (l.length : Int) < (l.length : Int) := by omega
      rw [List.take_of_length_le (by rw [hal]; exact Nat.le_refl _)] at hown
      have hown2 := owBo_mono hown XA.out.size
      have HO := Lib.hid hown2; have X := Lib.hid (X.out.trans XL.out)
      clear hown hown2 hext hal
      go_wp2_with fail
      go_ret2
      exact ⟨⟨_, by rw [E.out]; rfl, by rw [E.out]; exact HO.out⟩, X.out⟩

end Go.Proofs.YthkfkfbfblppeaaGreat
