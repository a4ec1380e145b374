/- Walk of the law BigExamples: it returns true (written by mkbigx.py). Conditions: none. -/
import Derived.Test.YtebdmmlniohhgaaBigOv
import Derived.Test.YtebdmmlniohhgaaBigXp
namespace Go.Proofs.Ytebdmmlniohhgaa
set_option linter.unusedSimpArgs false
set_option linter.unusedVariables false
open Go.RowKit

/-- Bytes of the call's own, of which the first k are '9'. -/
def Nin (w : World) (g n k : Nat) : Prop := ∃ c, Blk w g c 5 ∧ ∀ j, j < n → c[j]? = some (.int .u8 (if j < k then 57 else 0))
theorem Nin.ext {w w' : World} {g n k : Nat} (h : Nin w g n k) (x : Ext w w') : Nin w' g n k := by
  obtain ⟨c, h1, h2⟩ := h
  exact ⟨c, h1.ext x, h2⟩
theorem Nin.set {w : World} {g n k : Nat} (h : Nin w g n k) (hk : k < n) : Nin (w.setCell ⟨g, k, none⟩ (.int .u8 57)) g n (k + 1) := by
  obtain ⟨c, h1, h2⟩ := h
  refine ⟨_, h1.set k (.int .u8 57), fun j hj => ?_⟩
  have hs : k < c.size := by
    have := h2 k hk
    exact (Array.getElem?_eq_some_iff.1 this).1
  by_cases e : j = k
  · subst e
    rw [Array.getElem?_setIfInBounds_self_of_lt hs, if_pos (by omega)]
  · rw [Array.getElem?_setIfInBounds_ne (fun h => e h.symm), h2 j hj]
    by_cases h3 : j < k
    · rw [if_pos h3, if_pos (by omega)]
    · rw [if_neg h3, if_neg (by omega)]
theorem Nin.cell {w : World} {g n k j : Nat} (h : Nin w g n k) (hj : j < n) : w.cell? ⟨g, j, none⟩ = some (.int .u8 (if j < k then 57 else 0)) := by
  obtain ⟨c, h1, h2⟩ := h
  rw [h1.cell, h2 j hj]
theorem Nin.free {w : World} {g n k : Nat} (h : Nin w g n k) (o : Nat) : w.frozen? ⟨g, o, none⟩ = false := by obtain ⟨c, h1, _⟩ := h; exact h1.free o
theorem Nin.lt {w : World} {g n k : Nat} (h : Nin w g n k) : g < w.heap.size := by obtain ⟨c, h1, _⟩ := h; exact h1.lt
/-- string(b[:m]) of such bytes. -/
theorem Nin.text {w : World} {g n : Nat} (h : Nin w g n n) (m cap : Nat) (hm : m ≤ n) : (convert 69 9 (.slice (some ⟨g, 0, none⟩) m cap)).run Try.prog w = .ok (.string (nines m)) w := by
  refine run_convert_bytes_arg w 69 5 und51 und5 g 0 m cap (List.replicate m 57) List.length_replicate (fun i hi => ?_) _ und9
  rw [Nat.zero_add, h.cell (by omega), if_pos (by omega)]
  rw [List.getD_eq_getElem?_getD, List.getElem?_replicate, if_pos hi]
  rfl

theorem made_zerosY (n : Nat) : ∀ j, j < n → (madeCells (Value.int .u8 0).cells n)[j]? = some (.int .u8 (if j < 0 then 57 else 0)) := by
  intro j hj
  rw [if_neg (by omega)]
  simp [madeCells, Value.cells, Nat.mod_one, hj]

/-- 'make([]byte, n)'. -/
theorem wpList_make_y {w : World} {ops : Array Oper} {rest : List Oper} {o : Oper} {a : Act} {Q : Exit → Act → World → Prop}
    (hg : o.guard = none) (l c : Operand) (hop : o.op = Op.makeSlice 69 l c) (L C : Int) (n : Nat) (hl : a.eval l = .int .i64 L) (hc : a.eval c = .int .i64 C) (hL : L = (n : Int)) (hC : C = (n : Int)) (hn : n ≤ 1000000000)
    (hK : ∀ w', Nin w' w.heap.size n 0 → Ext w w' → w'.heap.size = w.heap.size + 1 → wpList Try.prog ops Q rest (a.put o.dst (.slice (some ⟨w.heap.size, 0, none⟩) n n)) w') :
    wpList Try.prog ops Q (o :: rest) a w := by
  obtain ⟨i0, hi, hz0, hz1, hz2⟩ := info_parts infoY
  have h63' : (n : Int) ≤ 9223372036854775807 := by omega
  have hr := run_make (P := Try.prog) w 69 5 i0 (.int .u8 0) und51 hi hz0 .i64 .i64 n n (by omega) (Int.le_refl _) (by rw [hz2]; omega) h63'
  simp only [Int.toNat_natCast, hz1] at hr
  refine wpList_plain hg fun K hK' => ?_
  subst hL
  subst hC
  unfold Oper.wp
  simp only [execOp, hop, hl, hc]
  have hr2 := hr
  simp [hr2, Result.andThen]
  exact hK' _ _ (hK _ ⟨_, Blk.new w _ _, made_zerosY n⟩ ((Ext.refl w).alloc _) (by simp))

/-- A row of n limbs, of which the first k are the greatest limb. -/
def Fil (n : Nat) (l : List Int) (k : Nat) : Prop := l.length = n ∧ ∀ j, j < n → l.getD j 0 = if j < k then 4294967295 else 0
theorem Fil.set {n : Nat} {l : List Int} {k : Nat} (h : Fil n l k) (hk : k < n) : Fil n (l.set k 4294967295) (k + 1) := by
  refine ⟨(List.length_set).trans h.1, fun j hj => ?_⟩
  by_cases e : j = k
  · subst e
    rw [List.getD_eq_getElem?_getD, List.getElem?_set_self (by rw [h.1]; exact hk), if_pos (by omega)]; rfl
  · rw [List.getD_eq_getElem?_getD, List.getElem?_set_ne (fun h => e h.symm), ← List.getD_eq_getElem?_getD, h.2 j hj]
    by_cases h3 : j < k
    · rw [if_pos h3, if_pos (by omega)]
    · rw [if_neg h3, if_neg (by omega)]
theorem Fil.top {n : Nat} {l : List Int} (h : Fil n l n) : l = List.replicate n 4294967295 := by
  obtain ⟨h1, h2⟩ := h
  subst h1
  apply List.ext_getElem
  · rw [List.length_replicate]
  · intro i h1 h3
    have := h2 i h1
    rw [List.getD_eq_getElem?_getD, List.getElem?_eq_getElem h1, if_pos h1] at this
    rw [List.getElem_replicate]
    exact this
theorem Fil.zero (n : Nat) : Fil n (List.replicate n 0) 0 := ⟨List.length_replicate, fun j hj => by rw [List.getD_eq_getElem?_getD, List.getElem?_replicate, if_pos hj, if_neg (by omega)]; rfl⟩

/-- 'make(api.Nat, n)', its zeros by name. -/
theorem wpList_make_f {w : World} {ops : Array Oper} {rest : List Oper} {o : Oper} {a : Act} {Q : Exit → Act → World → Prop}
    (hg : o.guard = none) (l c : Operand) (hop : o.op = Op.makeSlice 24 l c) (L C : Int) (n : Nat) (hl : a.eval l = .int .i64 L) (hc : a.eval c = .int .i64 C) (hL : L = (n : Int)) (hC : C = (n : Int)) (hn : n ≤ 1000000000)
    (hK : ∀ w' zs, Fil n zs 0 → RowU w' w.heap.size n zs → Ext w w' → w'.heap.size = w.heap.size + 1 → wpList Try.prog ops Q rest (a.put o.dst (.slice (some ⟨w.heap.size, 0, none⟩) n n)) w') :
    wpList Try.prog ops Q (o :: rest) a w :=
  wpList_make_u hg l c hop L C n hl hc hL hC hn fun w' h1 h2 h3 => hK w' _ (Fil.zero n) h1 h2 h3
theorem Fil.zeros {n : Nat} {l : List Int} (h : Fil n l 0) : l = List.replicate n 0 := by
  obtain ⟨h1, h2⟩ := h
  subst h1
  apply List.ext_getElem
  · rw [List.length_replicate]
  · intro i h1 h3
    have := h2 i h1
    rw [List.getD_eq_getElem?_getD, List.getElem?_eq_getElem h1, if_neg (by omega)] at this
    rw [List.getElem_replicate]
    exact this
theorem long_of {l : List Int} (h : Fil 512 l 0) : l ++ [1] = longL := by unfold longL; rw [h.zeros]

theorem lims2 (a b : Int) (h : ([a, b]).all (fun x => decide (0 ≤ x) && decide (x < 4294967296)) = true) : Lim [a, b] := lims _ h

set_option maxRecDepth 100000 in
set_option maxHeartbeats 8000000 in
theorem bigx_any (w : World) : Calls Try.prog 10 #[] w fun en w' => en = .returned (.bool true) ∧ Ext w w' := by
  obtain ⟨tp, htp⟩ : ∃ tp, tp = topL := ⟨_, rfl⟩
  obtain ⟨lo, hlo⟩ : ∃ lo, lo = longL := ⟨_, rfl⟩
  have T1 : Hid (Lim tp) := Lib.hid (by rw [htp]; exact x_top)
  have T2 : Hid (Lim lo) := Lib.hid (by rw [hlo]; exact x_long)
  have T3 : Hid (tp.length = 512) := Lib.hid (by rw [htp]; exact x_len)
  have T4 : Hid (lo.length = 513) := Lib.hid (by rw [hlo]; exact x_len2)
  have T5 := Lib.hid htp; have T6 := Lib.hid hlo
  have ca := fun W v u h1 h2 => add2_any v u tp [1] W h1 h2 T1.out (lims _ (by decide))
  rw [show addS tp [1] = ([], 4) by (try rw [htp]); (try rw [hlo]); exact x_a] at ca
  have Ca := Lib.hid ca
  clear ca
  have cb := fun W v u h1 h2 => add2_any v u lo [1, 0] W h1 h2 T2.out (lims _ (by decide))
  rw [show addS lo [1, 0] = ([], 4) by (try rw [htp]); (try rw [hlo]); exact x_b] at cb
  have Cb := Lib.hid cb
  clear cb
  have cc := fun W v u h1 h2 => add2_any v u [1, 0] lo W h1 h2 (lims _ (by decide)) T2.out
  rw [show addS [1, 0] lo = ([], 2) by (try rw [htp]); (try rw [hlo]); exact x_c] at cc
  have Cc := Lib.hid cc
  clear cc
  have cd := fun W v u h1 h2 => add2_any v u [1] lo W h1 h2 (lims _ (by decide)) T2.out
  rw [show addS [1] lo = ([], 4) by (try rw [htp]); (try rw [hlo]); exact x_d] at cd
  have Cd := Lib.hid cd
  clear cd
  have ce := fun W v u h1 h2 => sub2_any v u [1] [2] W h1 h2 (lims _ (by decide)) (lims _ (by decide))
  rw [show subS [1] [2] = ([], 7) by (try rw [htp]); (try rw [hlo]); exact x_e] at ce
  have Ce := Lib.hid ce
  clear ce
  have cf := fun W v u h1 h2 => mul2_any v u tp [2] W h1 h2 T1.out (lims _ (by decide))
  rw [show mulS tp [2] = ([], 4) by (try rw [htp]); (try rw [hlo]); exact x_f] at cf
  have Cf := Lib.hid cf
  clear cf
  have cg := fun W v u h1 h2 => mul2_any v u tp [1] W h1 h2 T1.out (lims _ (by decide))
  rw [show mulS tp [1] = (tp, 0) by (try rw [htp]); (try rw [hlo]); exact x_g] at cg
  have Cg := Lib.hid cg
  clear cg
  have ch := fun W v u h1 h2 => divMod_any v u [1, 0] [] W h1 h2 (lims _ (by decide)) (fun x hx => by cases hx)
  rw [show divS [1, 0] [] = ([], [], 2) by (try rw [htp]); (try rw [hlo]); exact x_h] at ch
  have Ch := Lib.hid ch
  clear ch
  have ci := fun W v u h1 h2 => divMod_any v u tp [] W h1 h2 T1.out (fun x hx => by cases hx)
  rw [show divS tp [] = ([], [], 14) by (try rw [htp]); (try rw [hlo]); exact x_i] at ci
  have Ci := Lib.hid ci
  clear ci
  have cq := fun W v u h1 h2 => gcd_any v u [] [] W h1 h2 (fun x hx => by cases hx) (fun x hx => by cases hx)
  rw [show gcdS [] [] = ([], 0) by (try rw [htp]); (try rw [hlo]); exact x_q] at cq
  have Cq := Lib.hid cq
  clear cq
  have cj := fun W v h1 => int_any v [0, 0, 1] W h1 (lims _ (by decide))
  rw [show intS [0, 0, 1] = (0, 7) by (try rw [htp]); exact x_j] at cj
  have Cj := Lib.hid cj
  clear cj
  have ck := fun W v h1 => int_any v [4294967295, 4294967295] W h1 (lims _ (by decide))
  rw [show intS [4294967295, 4294967295] = (18446744073709551615, 0) by (try rw [htp]); exact x_k] at ck
  have Ck := Lib.hid ck
  clear ck
  have cm := fun W v h1 => bits_any v tp W h1 T1.out
  rw [show bitsS tp = (16384, 0) by (try rw [htp]); exact x_m] at cm
  have Cm := Lib.hid cm
  clear cm
  have co := fun W => parse_any (nines 4097) W
  rw [x_o] at co
  have cp := fun W => parse_any (nines 4096) W
  obtain ⟨RP, hRP⟩ : ∃ RP, RP = parseS (nines 4096) := ⟨_, rfl⟩
  have hp2 := x_p
  rw [← hRP] at cp hp2
  obtain ⟨yp, ep⟩ := RP
  obtain ⟨hp1, hp3⟩ := hp2
  dsimp only at hp1 hp3
  subst hp1
  obtain ⟨S1, hS1⟩ : ∃ S1, S1 = nines 4097 := ⟨_, rfl⟩
  obtain ⟨S2, hS2⟩ : ∃ S2, S2 = nines 4096 := ⟨_, rfl⟩
  rw [← hS1] at co
  rw [← hS2] at cp
  have CO := Lib.hid co; have CP := Lib.hid cp; have HS1 := Lib.hid hS1; have HS2 := Lib.hid hS2; have HYP := Lib.hid hp3
  clear co cp hS1 hS2 hRP hp3 htp hlo
  go_enter Try.func10, Try.ntmps10
  go_wp2_with fail
  refine (awake_any _).mono ?_
  rintro e w0 ⟨rfl, hx0⟩
  have X := Lib.hid hx0; have Z0 := Lib.hid hx0.size
  clear hx0
  go_wp2_with (with_reducible refine wpList_make_f rfl _ _ rfl _ _ 512 rfl rfl (by decide) (by decide) (by omega) ?_)
  intro w1 zs1 hz1 hrow1 hx1 hsz1
  have R1 := Lib.hid hrow1; have HZ1 := Lib.hid hz1; have X := Lib.hid (X.out.trans hx1); have Z1 := Lib.hid hx1.size
  have lt1 := hrow1.lt
  clear hrow1 hx1 hsz1 hz1
  go_wp2_with fail
  go_loopw [2] (fun i wr => ∃ (k : Nat) (l : List Int), k ≤ 512 ∧ i = .int .i64 k ∧ Fil 512 l k ∧ RowU wr w0.heap.size 512 l ∧ Ext w wr) (fun i _ => 512 - (intOf i).toNat)
  case atStart => exact ⟨0, _, by omega, rfl, HZ1.out, R1.out, X.out⟩
  case round =>
    obtain ⟨k, l, hk, rfl, hf, hr, hx⟩ := hrel
    have F := Lib.hid hf; have R := Lib.hid hr; have X1 := Lib.hid hx
    have hz0 : w.heap.size ≤ w0.heap.size := by have := X.out; exact Z0.out
    clear hf hx
    by_cases hlt : k < 512
    · have k7 := hr.getD (i := k) (by have := F.out.1; omega) rfl
      have k8 := hr.free k; have k9 := hr.lt
      clear hr
      go_wp2_with fail
      go_roundw
      case rel => exact ⟨k + 1, l.set k 4294967295, by omega, by go_num, F.out.set hlt, R.out.set k _ (by have := F.out.1; omega), X1.out.set (p := ⟨w0.heap.size, k, none⟩) hz0 _⟩
      case measure => simp [intOf]; omega
    · obtain rfl : k = 512 := by omega
      have htop : l = topL := F.out.top
      rw [← T5.out] at htop
      subst htop
      have RT := Lib.hid R.out.rdI
      rw [T3.out] at RT
      clear hr F hlt hk
      have X := X1
      have XR := X1
      have RT0 := RT
      go_wp2_with (with_reducible refine wpList_make_f rfl _ _ rfl _ _ 512 rfl rfl (by decide) (by decide) (by omega) ?_)
      intro w3 zs3 hz3 hrow3 hx3 hsz3
      have hown3 := (OwV.row hrow3).toOwn (B := wr.heap.size) (fun g hg => by cases hg; exact Nat.le_refl _)
      rw [hz3.1] at hown3
      have RT := Lib.hid (RT.out.ext hx3); have X := Lib.hid (X.out.trans hx3); have O3 := Lib.hid hown3; have Z3 := Lib.hid hx3.size; have X3 := Lib.hid hx3; have HZ3 := Lib.hid hz3
      clear hrow3 hx3 hsz3 hown3 hz3
      go_wp2_with (at_builtin; (refine wpList_append_new w3 rfl _ _ 24 rfl wr.heap.size 46 (.int .u32 0) 1 4 Try.underlying24 Try.infoU rfl (by decide) _ _ _ O3.out rfl [_] rfl (by simp [Value.oneCell']) rfl (by omega) (by omega) (by have := Z3.out; omega) ?_))
      intro g4 cap4 w4 hown4 hb4
      have hlist : zs3.map (Value.int .u32) ++ [Value.int .u32 1] = lo.map (Value.int .u32) := by rw [T6.out, ← long_of HZ3.out, List.map_append]; rfl
      rw [hlist] at hown4
      have hl513 := T4.out
      have hown5 : w4.ownsRow wr.heap.size 46 1 (.slice (some ⟨g4, 0, none⟩) 513 cap4) lo.length (lo.map (Value.int .u32)) := by rw [hl513]; exact hown4
      obtain ⟨og, hog, _⟩ := OwV.own hown5
      have RL := Lib.hid hog.rdI
      have hx4 : Ext wr w4 := Below.trans X3.out hb4
      have hx4' : Ext w w4 := XR.out.trans hx4
      have RT := Lib.hid (RT0.out.ext hx4)
      have X := Lib.hid hx4'
      clear hx4 hx4' hog hown4 hown5 hb4 hlist hl513 X3 Z3 O3 HZ3

      have rb : RdI .u32 ((w4.alloc (.cells #[.int .u32 1, .int .u32 0] 46)).alloc (.cells #[.int .u32 1] 46)) (.slice (some ⟨w4.heap.size, 0, none⟩) 2 2) [1, 0] := (rdU_new w4 [1, 0] (by simp)).ext ((Ext.refl _).alloc (.cells #[.int .u32 1] 46))
      have ro : RdI .u32 ((w4.alloc (.cells #[.int .u32 1, .int .u32 0] 46)).alloc (.cells #[.int .u32 1] 46)) (.slice (some ⟨w4.heap.size + 1, 0, none⟩) 1 1) [1] := by
        have := rdU_new (w4.alloc (.cells #[.int .u32 1, .int .u32 0] 46)) [1] (by simp)
        rw [World.size_alloc] at this
        exact this
      have x5 : Ext w4 ((w4.alloc (.cells #[.int .u32 1, .int .u32 0] 46)).alloc (.cells #[.int .u32 1] 46)) := ((Ext.refl w4).alloc _).alloc _
      have RB := Lib.hid rb; have RO := Lib.hid ro; have RT := Lib.hid (RT.out.ext x5); have RL := Lib.hid (RL.out.ext x5); have X := Lib.hid (X.out.trans x5)
      clear rb ro x5
      go_wp2_with (with_reducible refine wpList_make_y rfl _ _ rfl _ _ 4097 rfl rfl (by decide) (by decide) (by omega) ?_)
      intro w6 hn6 hx6 hsz6
      have N6 := Lib.hid hn6; have X6 := Lib.hid hx6; have XW := X
      clear hn6 hx6 hsz6
      have hW5 : ((w4.alloc (.cells #[.int .u32 1, .int .u32 0] 46)).alloc (.cells #[.int .u32 1] 46)).heap.size = w4.heap.size + 1 + 1 := by simp
      have HW5 := Lib.hid hW5
      obtain ⟨W5, hw5⟩ : ∃ W5, W5 = ((w4.alloc (.cells #[.int .u32 1, .int .u32 0] 46)).alloc (.cells #[.int .u32 1] 46)) := ⟨_, rfl⟩
      rw [← hw5] at RB RO RT RL XW X6 HW5
      clear hW5
      go_wp2_with fail
      go_loopw [7] (fun i wr => ∃ k : Nat, k ≤ 4097 ∧ i = .int .i64 k ∧ Nin wr (w4.heap.size + 1 + 1) 4097 k ∧ Ext W5 wr) (fun i _ => 4097 - (intOf i).toNat)
      case atStart => exact ⟨0, by omega, rfl, N6.out, X6.out⟩
      case round =>
        obtain ⟨k, hk, rfl, hn, hx⟩ := hrel
        have NB := Lib.hid hn; have Y := Lib.hid hx
        clear hx
        by_cases hlt : k < 4097
        · have k7 := hn.cell hlt
          have k8 := hn.free k; have k9 := hn.lt
          clear hn
          go_wp2_with fail
          go_roundw
          case rel => exact ⟨k + 1, by omega, by go_num, NB.out.set hlt, Y.out.set (p := ⟨w4.heap.size + 1 + 1, k, none⟩) (by rw [HW5.out]; exact Nat.le_refl _) _⟩
          case measure => simp [intOf]; omega
        · obtain rfl : k = 4097 := by omega
          clear hn hlt hk hw5
          have X := Lib.hid (XW.out.trans Y.out)
          have RB := Lib.hid (RB.out.ext Y.out); have RO := Lib.hid (RO.out.ext Y.out); have RT := Lib.hid (RT.out.ext Y.out); have RL := Lib.hid (RL.out.ext Y.out)
          repeat (first | go_values | go_skip | go_guarded | go_step | go_upon)
          refine (Ca.out _ _ _ RT.out RO.out).mono ?_
          rintro e v1 ⟨⟨v, rfl, nn⟩, hx⟩
          have RT := Lib.hid (RT.out.ext hx)
          have RL := Lib.hid (RL.out.ext hx)
          have RB := Lib.hid (RB.out.ext hx)
          have RO := Lib.hid (RO.out.ext hx)
          have NB := Lib.hid (NB.out.ext hx)
          have X := Lib.hid (X.out.trans hx)
          obtain ⟨s1, t1, rfl⟩ := nn.shape
          clear nn hx
          dsimp only
          repeat (first | go_values | go_skip | go_guarded | go_step | go_upon)
          refine (Cb.out _ _ _ RL.out RB.out).mono ?_
          rintro e v2 ⟨⟨v, rfl, nn⟩, hx⟩
          have RT := Lib.hid (RT.out.ext hx)
          have RL := Lib.hid (RL.out.ext hx)
          have RB := Lib.hid (RB.out.ext hx)
          have RO := Lib.hid (RO.out.ext hx)
          have NB := Lib.hid (NB.out.ext hx)
          have X := Lib.hid (X.out.trans hx)
          obtain ⟨s2, t2, rfl⟩ := nn.shape
          clear nn hx
          dsimp only
          repeat (first | go_values | go_skip | go_guarded | go_step | go_upon)
          refine (Cc.out _ _ _ RB.out RL.out).mono ?_
          rintro e v3 ⟨⟨v, rfl, nn⟩, hx⟩
          have RT := Lib.hid (RT.out.ext hx)
          have RL := Lib.hid (RL.out.ext hx)
          have RB := Lib.hid (RB.out.ext hx)
          have RO := Lib.hid (RO.out.ext hx)
          have NB := Lib.hid (NB.out.ext hx)
          have X := Lib.hid (X.out.trans hx)
          obtain ⟨s3, t3, rfl⟩ := nn.shape
          clear nn hx
          dsimp only
          repeat (first | go_values | go_skip | go_guarded | go_step | go_upon)
          refine (Cd.out _ _ _ RO.out RL.out).mono ?_
          rintro e v4 ⟨⟨v, rfl, nn⟩, hx⟩
          have RT := Lib.hid (RT.out.ext hx)
          have RL := Lib.hid (RL.out.ext hx)
          have RB := Lib.hid (RB.out.ext hx)
          have RO := Lib.hid (RO.out.ext hx)
          have NB := Lib.hid (NB.out.ext hx)
          have X := Lib.hid (X.out.trans hx)
          obtain ⟨s4, t4, rfl⟩ := nn.shape
          clear nn hx
          dsimp only
          repeat (first | go_values | go_skip | go_guarded | go_step | go_upon)
          refine (Ce.out _ _ _ (RO.out.ext ((Ext.refl v4).alloc (.cells #[.int .u32 2] 46))) (rdU_new v4 [2] (by simp))).mono ?_
          rintro e v5 ⟨⟨v, rfl, nn⟩, hx⟩
          have hx := Ext.trans (show Ext v4 _ from ((Ext.refl v4).alloc (.cells #[.int .u32 2] 46))) hx
          have RT := Lib.hid (RT.out.ext hx)
          have RL := Lib.hid (RL.out.ext hx)
          have RB := Lib.hid (RB.out.ext hx)
          have RO := Lib.hid (RO.out.ext hx)
          have NB := Lib.hid (NB.out.ext hx)
          have X := Lib.hid (X.out.trans hx)
          obtain ⟨s5, t5, rfl⟩ := nn.shape
          clear nn hx
          dsimp only
          repeat (first | go_values | go_skip | go_guarded | go_step | go_upon)
          refine (Cf.out _ _ _ (RT.out.ext ((Ext.refl v5).alloc (.cells #[.int .u32 2] 46))) (rdU_new v5 [2] (by simp))).mono ?_
          rintro e v6 ⟨⟨v, rfl, nn⟩, hx⟩
          have hx := Ext.trans (show Ext v5 _ from ((Ext.refl v5).alloc (.cells #[.int .u32 2] 46))) hx
          have RT := Lib.hid (RT.out.ext hx)
          have RL := Lib.hid (RL.out.ext hx)
          have RB := Lib.hid (RB.out.ext hx)
          have RO := Lib.hid (RO.out.ext hx)
          have NB := Lib.hid (NB.out.ext hx)
          have X := Lib.hid (X.out.trans hx)
          obtain ⟨s6, t6, rfl⟩ := nn.shape
          clear nn hx
          dsimp only
          repeat (first | go_values | go_skip | go_guarded | go_step | go_upon)
          refine (Cg.out _ _ _ RT.out RO.out).mono ?_
          rintro e v7 ⟨⟨v, rfl, nn⟩, hx⟩
          have RT := Lib.hid (RT.out.ext hx)
          have RL := Lib.hid (RL.out.ext hx)
          have RB := Lib.hid (RB.out.ext hx)
          have RO := Lib.hid (RO.out.ext hx)
          have NB := Lib.hid (NB.out.ext hx)
          have X := Lib.hid (X.out.trans hx)
          obtain ⟨s7, t7, rfl⟩ := nn.shape
          have RX := Lib.hid nn.rd
          clear nn hx
          dsimp only
          repeat (first | go_values | go_skip | go_guarded | go_step | go_upon)
          refine (Ch.out _ _ _ RB.out (NewV.nil w _).rd).mono ?_
          rintro e v8 ⟨⟨v, v', rfl, nn, nm⟩, hx⟩
          have RT := Lib.hid (RT.out.ext hx)
          have RL := Lib.hid (RL.out.ext hx)
          have RB := Lib.hid (RB.out.ext hx)
          have RO := Lib.hid (RO.out.ext hx)
          have NB := Lib.hid (NB.out.ext hx)
          have RX := Lib.hid (RX.out.ext hx)
          have X := Lib.hid (X.out.trans hx)
          obtain ⟨s8, t8, rfl⟩ := nn.shape
          obtain ⟨s8x, t8x, rfl⟩ := nm.shape
          clear nn nm hx
          dsimp only
          repeat (first | go_values | go_skip | go_guarded | go_step | go_upon)
          refine (Ci.out _ _ _ RT.out (NewV.nil w _).rd).mono ?_
          rintro e v9 ⟨⟨v, v', rfl, nn, nm⟩, hx⟩
          have RT := Lib.hid (RT.out.ext hx)
          have RL := Lib.hid (RL.out.ext hx)
          have RB := Lib.hid (RB.out.ext hx)
          have RO := Lib.hid (RO.out.ext hx)
          have NB := Lib.hid (NB.out.ext hx)
          have RX := Lib.hid (RX.out.ext hx)
          have X := Lib.hid (X.out.trans hx)
          obtain ⟨s9, t9, rfl⟩ := nn.shape
          obtain ⟨s9x, t9x, rfl⟩ := nm.shape
          clear nn nm hx
          dsimp only
          repeat (first | go_values | go_skip | go_guarded | go_step | go_upon)
          refine (Cj.out _ _ (rdU_new v9 [0, 0, 1] (by simp))).mono ?_
          rintro e v10 ⟨rfl, hx⟩
          have hx := Ext.trans (show Ext v9 _ from ((Ext.refl v9).alloc (.cells #[.int .u32 0, .int .u32 0, .int .u32 1] 46))) hx
          have RT := Lib.hid (RT.out.ext hx)
          have RL := Lib.hid (RL.out.ext hx)
          have RB := Lib.hid (RB.out.ext hx)
          have RO := Lib.hid (RO.out.ext hx)
          have NB := Lib.hid (NB.out.ext hx)
          have RX := Lib.hid (RX.out.ext hx)
          have X := Lib.hid (X.out.trans hx)
          clear hx
          dsimp only
          repeat (first | go_values | go_skip | go_guarded | go_step | go_upon)
          refine (Ck.out _ _ (rdU_new v10 [4294967295, 4294967295] (by simp))).mono ?_
          rintro e v11 ⟨rfl, hx⟩
          have hx := Ext.trans (show Ext v10 _ from ((Ext.refl v10).alloc (.cells #[.int .u32 4294967295, .int .u32 4294967295] 46))) hx
          have RT := Lib.hid (RT.out.ext hx)
          have RL := Lib.hid (RL.out.ext hx)
          have RB := Lib.hid (RB.out.ext hx)
          have RO := Lib.hid (RO.out.ext hx)
          have NB := Lib.hid (NB.out.ext hx)
          have RX := Lib.hid (RX.out.ext hx)
          have X := Lib.hid (X.out.trans hx)
          clear hx
          dsimp only
          repeat (first | go_values | go_skip | go_guarded | go_step | go_upon)
          refine (Cm.out _ _ RT.out).mono ?_
          rintro e v12 ⟨rfl, hx⟩
          have RT := Lib.hid (RT.out.ext hx)
          have RL := Lib.hid (RL.out.ext hx)
          have RB := Lib.hid (RB.out.ext hx)
          have RO := Lib.hid (RO.out.ext hx)
          have NB := Lib.hid (NB.out.ext hx)
          have RX := Lib.hid (RX.out.ext hx)
          have X := Lib.hid (X.out.trans hx)
          clear hx
          dsimp only
          have htx := NB.out.text 4097 4097 (Nat.le_refl _)
          rw [← HS1.out] at htx
          repeat (first | go_values | go_skip | go_guarded | go_step | go_upon)
          refine (CO.out _).mono ?_
          rintro e v13 ⟨⟨v, rfl, nn⟩, hx⟩
          have RT := Lib.hid (RT.out.ext hx)
          have RL := Lib.hid (RL.out.ext hx)
          have RB := Lib.hid (RB.out.ext hx)
          have RO := Lib.hid (RO.out.ext hx)
          have NB := Lib.hid (NB.out.ext hx)
          have RX := Lib.hid (RX.out.ext hx)
          have X := Lib.hid (X.out.trans hx)
          obtain ⟨s13, t13, rfl⟩ := nn.shape
          clear nn hx
          dsimp only
          clear htx
          have htx := NB.out.text 4096 4097 (by omega)
          rw [← HS2.out] at htx
          repeat (first | go_values | go_skip | go_guarded | go_step | go_upon)
          refine (CP.out _).mono ?_
          rintro e v14 ⟨⟨v, rfl, nn⟩, hx⟩
          have RT := Lib.hid (RT.out.ext hx)
          have RL := Lib.hid (RL.out.ext hx)
          have RB := Lib.hid (RB.out.ext hx)
          have RO := Lib.hid (RO.out.ext hx)
          have NB := Lib.hid (NB.out.ext hx)
          have RX := Lib.hid (RX.out.ext hx)
          have X := Lib.hid (X.out.trans hx)
          obtain ⟨s14, t14, rfl⟩ := nn.shape
          have RY := Lib.hid nn.rd
          clear nn hx
          dsimp only
          clear htx
          repeat (first | go_values | go_skip | go_guarded | go_step | go_upon)
          refine (Cq.out _ _ _ (NewV.nil w _).rd (NewV.nil w _).rd).mono ?_
          rintro e v15 ⟨⟨v, rfl, nn⟩, hx⟩
          have RT := Lib.hid (RT.out.ext hx)
          have RL := Lib.hid (RL.out.ext hx)
          have RB := Lib.hid (RB.out.ext hx)
          have RO := Lib.hid (RO.out.ext hx)
          have NB := Lib.hid (NB.out.ext hx)
          have RX := Lib.hid (RX.out.ext hx)
          have RY := Lib.hid (RY.out.ext hx)
          have X := Lib.hid (X.out.trans hx)
          obtain ⟨s15, t15, rfl⟩ := nn.shape
          clear nn hx
          dsimp only
          have hy426 := HYP.out
          repeat (first | go_values | go_skip | go_guarded | go_step | go_upon)
          try simp only [List.append_eq, List.cons_append, List.nil_append]
          repeat (first | go_values | go_skip | go_guarded | go_step | go_upon)
          refine (equalSame_any _ _ _ _ RX.out RT.out).mono ?_
          rintro e v16 ⟨rfl, hx⟩
          have RT := Lib.hid (RT.out.ext hx)
          have RL := Lib.hid (RL.out.ext hx)
          have RB := Lib.hid (RB.out.ext hx)
          have RO := Lib.hid (RO.out.ext hx)
          have NB := Lib.hid (NB.out.ext hx)
          have RX := Lib.hid (RX.out.ext hx)
          have RY := Lib.hid (RY.out.ext hx)
          have X := Lib.hid (X.out.trans hx)
          clear hx
          dsimp only
          go_wp2_with fail
          go_ret
          exact ⟨rfl, X.out⟩

end Go.Proofs.Ytebdmmlniohhgaa
