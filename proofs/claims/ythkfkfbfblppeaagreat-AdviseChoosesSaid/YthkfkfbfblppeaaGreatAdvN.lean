/- Walk of Allowed of advise. Conditions: the advisories read as a slice. -/
import Derived.Test.YthkfkfbfblppeaaGreatAdvC
import Derived.Test.YthkfkfbfblppeaaGreatBoolS
namespace Go.Proofs.YthkfkfbfblppeaaGreat
set_option linter.unusedSimpArgs false
set_option linter.unusedVariables false
open Go.RowKit

/-- Is a change of kind k allowed? -/
def okK (age rev lr lh k : Int) : Bool := if k = 4 then decide (rev < lr) else if k = 2 then decide (lh ≤ age) else true
/-- What Allowed returns for valid arguments. -/
def allowL (l : List Bnd) (i : Nat) (age rev lr lh : Int) : List Bool := (List.range l.length).map fun b => okK age rev lr lh (chg l i b)
def limE (lr lh : Int) : Int := if (lr < 0 ∨ 100 < lr) ∨ lh < 0 ∨ 1000 < lh then 1 else 0
/-- What Allowed returns. -/
def allowS (l : List Bnd) (now age rev lr lh : Int) : List Bool × Int :=
  if cn1 l now ≠ 0 then ([], cn1 l now) else if memE age rev ≠ 0 then ([], memE age rev) else if limE lr lh ≠ 0 then ([], limE lr lh) else (allowL l now.toNat age rev lr lh, 0)

/-- 'make([]bool, n)'. -/
theorem wpList_make_bo {w : World} {ops : Array Oper} {rest : List Oper} {o : Oper} {a : Act} {Q : Exit → Act → World → Prop}
    (hg : o.guard = none) (l c : Operand) (hop : o.op = Op.makeSlice 49 l c) (L C : Int) (n : Nat) (hl : a.eval l = .int .i64 L) (hc : a.eval c = .int .i64 C) (hL : L = (n : Int)) (hC : C = (n : Int)) (hn : n ≤ 1000000000)
    (hK : ∀ w', Blk w' w.heap.size (List.replicate n (Value.bool false)).toArray 4 → Ext w w' → w'.heap.size = w.heap.size + 1 → wpList Tryz.prog ops Q rest (a.put o.dst (.slice (some ⟨w.heap.size, 0, none⟩) n n)) w') :
    wpList Tryz.prog ops Q (o :: rest) a w := by
  obtain ⟨i0, hi, hz0, hz1, hz2⟩ := info_parts Tryz.infoBo
  have h63' : (n : Int) ≤ 9223372036854775807 := by omega
  have hr := run_make (P := Tryz.prog) w 49 4 i0 (.bool false) Tryz.underlying49 hi hz0 .i64 .i64 n n (by omega) (Int.le_refl _) (by rw [hz2]; omega) h63'
  simp only [Int.toNat_natCast, hz1] at hr
  refine wpList_plain hg fun K hK' => ?_
  subst hL
  subst hC
  unfold Oper.wp
  simp only [execOp, hop, hl, hc]
  have hr2 := hr
  simp [hr2, Result.andThen]
  refine hK' _ _ (hK _ ?_ ((Ext.refl w).alloc _) (by simp))
  have e : (madeCells (Value.bool false).cells n) = (List.replicate n (Value.bool false)).toArray := by
    apply Array.ext
    · simp [madeCells]
    · intro i h1 h2
      simp [madeCells, Value.cells, Nat.mod_one]
  rw [← e]
  exact Blk.new w _ _

/-- The row of answers after k rounds. -/
def rowK (l : List Bnd) (i : Nat) (age rev lr lh : Int) (k : Nat) : Array Value := ((List.range l.length).map fun b => Value.bool (if b < k then okK age rev lr lh (chg l i b) else false)).toArray
theorem rowK_0 (l : List Bnd) (i : Nat) (age rev lr lh : Int) : (List.replicate l.length (Value.bool false)).toArray = rowK l i age rev lr lh 0 := by
  unfold rowK
  congr 1
  apply List.ext_getElem
  · simp
  · intro j h1 h2; simp
theorem rowK_get {l : List Bnd} {i : Nat} {age rev lr lh : Int} {k : Nat} (h : k < l.length) : (rowK l i age rev lr lh k)[k]? = some (.bool false) := by
  unfold rowK; simp [h]
theorem rowK_set {l : List Bnd} {i : Nat} {age rev lr lh : Int} {k : Nat} : (rowK l i age rev lr lh k).setIfInBounds k (.bool (okK age rev lr lh (chg l i k))) = rowK l i age rev lr lh (k + 1) := by
  unfold rowK
  apply Array.ext
  · simp
  · intro j h1 h2
    simp only [List.setIfInBounds_toArray, List.getElem_toArray, List.getElem_set, List.getElem_map, List.getElem_range]
    by_cases e : k = j
    · subst e; simp
    · rw [if_neg e]
      by_cases h : j < k
      · rw [if_pos h, if_pos (by omega)]
      · rw [if_neg h, if_neg (by omega)]
theorem rowK_full (l : List Bnd) (i : Nat) (age rev lr lh : Int) : rowK l i age rev lr lh l.length = ((allowL l i age rev lr lh).map Value.bool).toArray := by
  unfold rowK allowL
  rw [List.map_map]
  congr 1
  apply List.map_congr_left
  intro b hb
  have := List.mem_range.1 hb
  simp [this]
theorem rowK_own {l : List Bnd} {i : Nat} {age rev lr lh : Int} {w : World} {g B : Nat} (h : Blk w g (rowK l i age rev lr lh l.length) 4) (hB : B ≤ g) (hl : l.length ≤ 1000) : OwBo w B (.slice (some ⟨g, 0, none⟩) l.length l.length) (allowL l i age rev lr lh) := by
  rw [rowK_full] at h
  have e : (allowL l i age rev lr lh).length = l.length := by unfold allowL; simp
  refine ⟨by simp, .inr ⟨g, l.length, _, by rw [e], hB, h, by omega, by unfold maxLen; omega, by simp [e], ?_⟩⟩
  rw [e]
  simp
  rw [List.take_of_length_le (by simp [e])]

theorem achk_len {l : List Bnd} (h : achk l = 0) : l.length ≤ 6 ∧ l.length ≠ 0 := by
  unfold achk at h
  split at h
  · cases h
  · split at h
    · cases h
    · exact ⟨by omega, by assumption⟩

set_option maxHeartbeats 4000000 in
theorem allowed_any (v : Value) (l : List Bnd) (now age rev lr lh : Int) (w : World) (h : RdBnd w v l) :
    Calls Tryz.prog 36 #[v, .agg #[.int .i64 now, .int .i64 age, .int .i64 rev], .agg #[.int .i64 lr, .int .i64 lh]] w fun e w' =>
      (∃ v', e = .returned (.tuple #[v', .int .i64 (allowS l now age rev lr lh).2]) ∧ OwBo w' w.heap.size v' (allowS l now age rev lr lh).1) ∧ Ext w w' := by
  have h0 := h
  obtain ⟨a, cap, rfl, hc, hm, _⟩ := h.get
  have H := Lib.hid h0
  clear h h0
  have hck := fun W g h1 h2 => checkNumbers1_any (.slice a l.length cap) l now g W h1 h2
  have hcm := fun W => checkMemory_any now age rev W
  obtain ⟨w0, hw0⟩ : ∃ w0, w0 = (w.alloc (.cells #[.int .i64 now, .int .i64 age, .int .i64 rev] 47)).alloc (.cells #[.int .i64 lr, .int .i64 lh] 51) := ⟨_, rfl⟩
  have x0 : Ext w w0 := by rw [hw0]; exact ((Ext.refl w).alloc _).alloc _
  have hs0 : w0.heap.size = w.heap.size + 1 + 1 := by rw [hw0]; simp
  have b0 : Blk w0 w.heap.size #[.int .i64 now, .int .i64 age, .int .i64 rev] 47 := by rw [hw0]; exact (Blk.new w _ _).alloc _
  have b1 : Blk w0 (w.heap.size + 1) #[.int .i64 lr, .int .i64 lh] 51 := by
    rw [hw0]; have := Blk.new (w.alloc (.cells #[.int .i64 now, .int .i64 age, .int .i64 rev] 47)) #[.int .i64 lr, .int .i64 lh] 51
    rwa [World.size_alloc] at this
  have W0 := Lib.hid hw0; have X0 := Lib.hid x0; have B0 := Lib.hid b0; have B1 := Lib.hid b1
  have G0 : Hid (Blk (w0.alloc (.cells #[.int .i64 now] 3)) (w.heap.size + 1 + 1) #[.int .i64 now] 3) := Lib.hid (by rw [← hs0]; exact Blk.new w0 _ _)
  have XG : Hid (Ext w0 (w0.alloc (.cells #[.int .i64 now] 3))) := Lib.hid ((Ext.refl w0).alloc _)
  by_cases h0 : cn1 l now = 0
  · rw [h0] at hck
    obtain ⟨hac, i, rfl, hi⟩ := cn1_0 h0
    obtain ⟨hl6, hl0⟩ := achk_len hac
    by_cases hme : memE age rev = 0
    · rw [hme] at hcm
      by_cases hli : limE lr lh = 0
      · have E := Lib.hid (show allowS l i age rev lr lh = (allowL l i age rev lr lh, 0) by unfold allowS; rw [if_neg (by simpa using h0), if_neg (by simpa using hme), if_neg (by simpa using hli), Int.toNat_natCast])
        have hlb : (0 ≤ lr ∧ lr ≤ 100) ∧ 0 ≤ lh ∧ lh ≤ 1000 := by
          unfold limE at hli
          split at hli
          · cases hli
          · omega
        have ho1 := fun W => outside_any lr 100 W
        have ho2 := fun W => outside_any lh 1000 W
        rw [decide_eq_false (by omega)] at ho1 ho2
        have hch := fun W (j : Nat) h hj => change_any (.slice a l.length cap) l i j W h hi hj
        have HCK := Lib.hid hck; have HCM := Lib.hid hcm; have HO1 := Lib.hid ho1; have HO2 := Lib.hid ho2; have HCH := Lib.hid hch
        clear hck hcm ho1 ho2 hch h0 hme hli hlb hac hi
        have c0 := b0.cell; have l0 := b0.lt
        rw [hw0] at c0 l0
        clear x0 b0 b1 hw0 hs0
        go_enter Tryz.func36, Tryz.ntmps36
        go_wp2_with fail
        rw [← W0.out]
        refine (HCK.out _ _ (H.out.ext (X0.out.trans XG.out)) G0.out).mono ?_
        rintro e w1 ⟨rfl, hx⟩
        have X1 := Lib.hid ((X0.out.trans XG.out).trans hx); have B0 := Lib.hid (B0.out.ext (XG.out.trans hx)); have B1 := Lib.hid (B1.out.ext (XG.out.trans hx))
        clear hx c0 l0 G0 XG
        have c0 := B0.out.cell; have l0 := B0.out.lt
        go_wp2_with fail
        refine (HCM.out _).mono ?_
        rintro e w2 ⟨rfl, hx⟩
        have X2 := Lib.hid (X1.out.trans hx); have B0 := Lib.hid (B0.out.ext hx); have B1 := Lib.hid (B1.out.ext hx)
        clear hx c0 l0
        have c1 := B1.out.cell; have l1 := B1.out.lt
        go_wp2_with fail
        refine (HO1.out _).mono ?_
        rintro e w3 ⟨rfl, rfl⟩
        go_wp2_with fail
        refine (HO2.out _).mono ?_
        rintro e w3 ⟨rfl, rfl⟩
        clear c1 l1
        go_wp2_with (at_make; (refine wpList_make_bo rfl _ _ rfl _ _ l.length rfl rfl rfl rfl (by omega) ?_))
        intro w4 hrow hx4 hz4
        rw [show Array.replicate l.length (Value.bool false) = rowK l i age rev lr lh 0 from (by rw [← rowK_0]; simp)] at hrow
        have hg1 : w.heap.size + 1 < w3.heap.size := B1.out.lt
        obtain ⟨g, hg⟩ : ∃ g, g = w3.heap.size := ⟨_, rfl⟩
        rw [← hg] at hrow hg1 ⊢
        have X4 := Lib.hid (X2.out.trans hx4); have B0 := Lib.hid (B0.out.ext hx4); have B1 := Lib.hid (B1.out.ext hx4); have RW := Lib.hid hrow
        clear hrow hx4 hz4 hg
        go_wp2_with fail
        go_loopw [38] (fun x wr => ∃ k : Nat, k ≤ l.length ∧ x = .int .i64 k ∧ Ext w wr ∧ Blk wr w.heap.size #[.int .i64 i, .int .i64 age, .int .i64 rev] 47 ∧ Blk wr (w.heap.size + 1) #[.int .i64 lr, .int .i64 lh] 51 ∧ Blk wr g (rowK l i age rev lr lh k) 4) (fun x _ => l.length - (intOf x).toNat)
        case atStart => exact ⟨0, Nat.zero_le _, rfl, X4.out, B0.out, B1.out, RW.out⟩
        case round =>
          obtain ⟨k, hk, rfl, hx, hb0, hb1, hrow⟩ := hrel
          by_cases hlt : k < l.length
          · have hgt : (rowK l i age rev lr lh k)[k]? = some (.bool false) := rowK_get hlt
            have hst := rowK_set (l := l) (i := i) (age := age) (rev := rev) (lr := lr) (lh := lh) (k := k)
            have hch := fun W x => HCH.out W k (H.out.ext (hx.trans x)) hlt
            obtain ⟨K, hK⟩ : ∃ x, x = chg l i k := ⟨_, rfl⟩
            rw [← hK] at hst hch
            have HX := Lib.hid hx; have HB0 := Lib.hid hb0; have HB1 := Lib.hid hb1; have HRW := Lib.hid hrow; have HST := Lib.hid hst; have HCHK := Lib.hid hch
            have HGT := Lib.hid hgt
            have c0 := hb0.cell; have l0 := hb0.lt
            have q1 : (0 : Int) ≤ (k : Int) := by omega
            have q2 : (k : Int) < (l.length : Int) := by omega
            clear hx hb0 hb1 hrow hst hch hK hgt
            go_wp2_with fail
            refine (HCHK.out _ (Ext.refl _)).mono ?_
            rintro e w5 ⟨rfl, hx⟩
            have HX := Lib.hid (HX.out.trans hx); have HB0 := Lib.hid (HB0.out.ext hx); have HB1 := Lib.hid (HB1.out.ext hx); have HRW := Lib.hid (HRW.out.ext hx)
            clear hx c0 l0
            have c0 := HB0.out.cell; have l0 := HB0.out.lt; have c1 := HB1.out.cell; have l1 := HB1.out.lt; have f2 := HRW.out.free; have l2 := HRW.out.lt
            have c2 : w5.cell? ⟨g, k, none⟩ = some (.bool false) := by rw [HRW.out.cell]; exact HGT.out
            have fin : ∀ (b : Bool), okK age rev lr lh K = b → Ext w (w5.setCell ⟨g, k, none⟩ (.bool b)) ∧ Blk (w5.setCell ⟨g, k, none⟩ (.bool b)) w.heap.size #[.int .i64 i, .int .i64 age, .int .i64 rev] 47 ∧ Blk (w5.setCell ⟨g, k, none⟩ (.bool b)) (w.heap.size + 1) #[.int .i64 lr, .int .i64 lh] 51 ∧ Blk (w5.setCell ⟨g, k, none⟩ (.bool b)) g (rowK l i age rev lr lh (k + 1)) 4 := by
              intro b hb
              refine ⟨HX.out.set (by dsimp only; omega) _, HB0.out.setOther (by dsimp only; omega) _, HB1.out.setOther (by dsimp only; omega) _, ?_⟩
              have := HRW.out.set k (.bool b)
              rw [← hb, HST.out] at this
              rw [← hb]; exact this
            have FIN := Lib.hid fin
            clear fin
            by_cases h4 : K = 4
            · have t4 : (K == 4) = true := by simp [h4]
              have e := FIN.out (decide (rev < lr)) (by unfold okK; rw [if_pos h4])
              have EE := Lib.hid e
              clear e h4
              go_wp2_with fail
              go_roundw
              case rel => exact ⟨k + 1, by omega, by go_num, EE.out⟩
              case measure => simp [intOf]; omega
            · have t4 : (K == 4) = false := by simpa using h4
              by_cases h2 : K = 2
              · have t2 : (K == 2) = true := by simp [h2]
                have e := FIN.out (decide (lh ≤ age)) (by unfold okK; rw [if_neg h4, if_pos h2])
                have EE := Lib.hid e
                clear e h4 h2
                go_wp2_with fail
                go_roundw
                case rel => exact ⟨k + 1, by omega, by go_num, EE.out⟩
                case measure => simp [intOf]; omega
              · have t2 : (K == 2) = false := by simpa using h2
                have e := FIN.out true (by unfold okK; rw [if_neg h4, if_neg h2])
                have EE := Lib.hid e
                clear e h4 h2
                go_wp2_with fail
                go_roundw
                case rel => exact ⟨k + 1, by omega, by go_num, EE.out⟩
                case measure => simp [intOf]; omega
          · obtain rfl : k = l.length := by omega
            have HX := Lib.hid hx; have HRW := Lib.hid hrow
            clear hx hb0 hb1 hrow
            go_wp2_with fail
            go_ret2
            refine ⟨⟨_, by rw [E.out]; rfl, ?_⟩, HX.out⟩
            rw [E.out]
            exact rowK_own HRW.out (by omega) (by omega)
      · have E := Lib.hid (show allowS l i age rev lr lh = ([], 1) by
          unfold allowS; rw [if_neg (by simpa using h0), if_neg (by simpa using hme), if_pos hli]
          unfold limE at hli ⊢
          split at hli
          · rename_i hh; rw [if_pos hh]
          · exact absurd rfl hli)
        have hlb : (lr < 0 ∨ 100 < lr) ∨ lh < 0 ∨ 1000 < lh := by
          unfold limE at hli
          split at hli
          · assumption
          · exact absurd rfl hli
        have ho1 := fun W => outside_any lr 100 W
        have ho2 := fun W => outside_any lh 1000 W
        have HCK := Lib.hid hck; have HCM := Lib.hid hcm
        have c0 := b0.cell; have l0 := b0.lt
        rw [hw0] at c0 l0
        clear x0 b0 b1 hw0 hs0 hck hcm h0 hme hli hac hi
        by_cases hb1 : lr < 0 ∨ 100 < lr
        · rw [decide_eq_true hb1] at ho1
          have HO1 := Lib.hid ho1
          clear ho1 ho2 hlb hb1
          go_enter Tryz.func36, Tryz.ntmps36
          go_wp2_with fail
          rw [← W0.out]
          refine (HCK.out _ _ (H.out.ext (X0.out.trans XG.out)) G0.out).mono ?_
          rintro e w1 ⟨rfl, hx⟩
          have X1 := Lib.hid ((X0.out.trans XG.out).trans hx); have B0 := Lib.hid (B0.out.ext (XG.out.trans hx)); have B1 := Lib.hid (B1.out.ext (XG.out.trans hx))
          clear hx c0 l0 G0 XG
          have c0 := B0.out.cell; have l0 := B0.out.lt
          go_wp2_with fail
          refine (HCM.out _).mono ?_
          rintro e w2 ⟨rfl, hx⟩
          have X2 := Lib.hid (X1.out.trans hx); have B1 := Lib.hid (B1.out.ext hx)
          clear hx c0 l0
          have c1 := B1.out.cell; have l1 := B1.out.lt
          go_wp2_with fail
          refine (HO1.out _).mono ?_
          rintro e w3 ⟨rfl, rfl⟩
          go_wp2_with fail
          go_ret2
          exact ⟨⟨_, by rw [E.out]; rfl, by rw [E.out]; exact World.ownsRow_nil _ _ _ _⟩, X2.out⟩
        · rw [decide_eq_false hb1] at ho1
          rw [decide_eq_true (by omega)] at ho2
          have HO1 := Lib.hid ho1; have HO2 := Lib.hid ho2
          clear ho1 ho2 hlb hb1
          go_enter Tryz.func36, Tryz.ntmps36
          go_wp2_with fail
          rw [← W0.out]
          refine (HCK.out _ _ (H.out.ext (X0.out.trans XG.out)) G0.out).mono ?_
          rintro e w1 ⟨rfl, hx⟩
          have X1 := Lib.hid ((X0.out.trans XG.out).trans hx); have B0 := Lib.hid (B0.out.ext (XG.out.trans hx)); have B1 := Lib.hid (B1.out.ext (XG.out.trans hx))
          clear hx c0 l0 G0 XG
          have c0 := B0.out.cell; have l0 := B0.out.lt
          go_wp2_with fail
          refine (HCM.out _).mono ?_
          rintro e w2 ⟨rfl, hx⟩
          have X2 := Lib.hid (X1.out.trans hx); have B1 := Lib.hid (B1.out.ext hx)
          clear hx c0 l0
          have c1 := B1.out.cell; have l1 := B1.out.lt
          go_wp2_with fail
          refine (HO1.out _).mono ?_
          rintro e w3 ⟨rfl, rfl⟩
          go_wp2_with fail
          refine (HO2.out _).mono ?_
          rintro e w3 ⟨rfl, rfl⟩
          go_wp2_with fail
          go_ret2
          exact ⟨⟨_, by rw [E.out]; rfl, by rw [E.out]; exact World.ownsRow_nil _ _ _ _⟩, X2.out⟩
    · have E := Lib.hid (show allowS l i age rev lr lh = ([], memE age rev) by unfold allowS; rw [if_neg (by simpa using h0), if_pos hme])
      obtain ⟨c, hcc⟩ : ∃ c, c = memE age rev := ⟨_, rfl⟩
      rw [← hcc] at hcm hme E
      have q3 : (c != 0) = true := by simpa using hme
      have HCK := Lib.hid hck; have HCM := Lib.hid hcm
      have c0 := b0.cell; have l0 := b0.lt
      rw [hw0] at c0 l0
      clear x0 b0 b1 hw0 hs0 hck hcm h0 hme hac hi hcc
      go_enter Tryz.func36, Tryz.ntmps36
      go_wp2_with fail
      rw [← W0.out]
      refine (HCK.out _ _ (H.out.ext (X0.out.trans XG.out)) G0.out).mono ?_
      rintro e w1 ⟨rfl, hx⟩
      have X1 := Lib.hid ((X0.out.trans XG.out).trans hx); have B0 := Lib.hid (B0.out.ext (XG.out.trans hx))
      clear hx c0 l0 G0 XG
      have c0 := B0.out.cell; have l0 := B0.out.lt
      go_wp2_with fail
      refine (HCM.out _).mono ?_
      rintro e w2 ⟨rfl, hx⟩
      have X2 := Lib.hid (X1.out.trans hx)
      clear hx c0 l0
      go_wp2_with fail
      go_ret2
      exact ⟨⟨_, by rw [E.out]; rfl, by rw [E.out]; exact World.ownsRow_nil _ _ _ _⟩, X2.out⟩
  · have E := Lib.hid (show allowS l now age rev lr lh = ([], cn1 l now) by unfold allowS; rw [if_pos h0])
    obtain ⟨c, hcc⟩ : ∃ c, c = cn1 l now := ⟨_, rfl⟩
    rw [← hcc] at hck h0 E
    have q3 : (c != 0) = true := by simpa using h0
    have HCK := Lib.hid hck
    have c0 := b0.cell; have l0 := b0.lt
    rw [hw0] at c0 l0
    clear x0 b0 b1 hw0 hs0 hck hcm h0 hcc
    go_enter Tryz.func36, Tryz.ntmps36
    go_wp2_with fail
    rw [← W0.out]
    refine (HCK.out _ _ (H.out.ext (X0.out.trans XG.out)) G0.out).mono ?_
    rintro e w1 ⟨rfl, hx⟩
    have X1 := Lib.hid ((X0.out.trans XG.out).trans hx)
    clear hx c0 l0 G0 XG
    go_wp2_with fail
    go_ret2
    exact ⟨⟨_, by rw [E.out]; rfl, by rw [E.out]; exact World.ownsRow_nil _ _ _ _⟩, X1.out⟩

end Go.Proofs.YthkfkfbfblppeaaGreat
