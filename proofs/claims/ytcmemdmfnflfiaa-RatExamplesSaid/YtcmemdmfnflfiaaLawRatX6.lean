/- Walk of the law RatExamples: it returns true (written by mkratx6.py). Conditions: none. -/
import Derived.Test.YtcmemdmfnflfiaaRatXp
import Derived.Test.YtcmemdmfnflfiaaFil
namespace Go.Proofs.Ytcmemdmfnflfiaa
set_option linter.unusedSimpArgs false
set_option linter.unusedVariables false
open Go.RowKit

theorem lo_of {l : List Int} (h : Fil 128 l 0) : l ++ [1] = lo6 := by unfold lo6; rw [h.zeros]
theorem rdR_of {W : World} {b : Bool} {v1 v2 : Value} {l1 l2 : List Int} (h1 : RdI .u32 W v1 l1) (h2 : RdI .u32 W v2 l2) : RdR W (.agg #[.bool b, v1, v2]) ⟨b, l1, l2⟩ := ⟨_, _, rfl, h1, h2⟩
theorem rd_nilU (W : World) : RdI .u32 W (.slice none 0 0) [] := ⟨none, 0, rfl, Nat.le_refl _, by simp, fun i hi => by simp at hi⟩
theorem rdU_blk {W : World} {b : Nat} {c : Array Value} (l : List Int) (n : Nat) (h : Blk W b c 91) (hc : c.toList = l.map (Value.int .u32)) (hn : l.length = n) (hs : n ≤ 1000000) : RdI .u32 W (.slice (some ⟨b, 0, none⟩) n n) l := by
  subst hn
  refine ⟨some ⟨b, 0, none⟩, l.length, by rw [List.length_map], by rw [List.length_map]; exact Nat.le_refl _, by omega, fun i hi => ⟨b, 0, rfl, h.lt, ?_⟩⟩
  rw [Nat.zero_add, h.cell, ← hc, Array.getElem?_toList]
theorem lim2 (b : Bool) {l1 l2 : List Int} (h1 : Lim l1) (h2 : Lim l2) : LimR ⟨b, l1, l2⟩ := ⟨h1, h2⟩
theorem limN : Lim [] := fun x h => by cases h

theorem blk_new2 (w : World) (a : Obj) (c : Array Value) (t : TypeId) : Blk ((w.alloc a).alloc (.cells c t)) (w.heap.size + 1) c t := by have := Blk.new (w.alloc a) c t; rwa [World.size_alloc] at this
theorem blk_new3 (w : World) (a b : Obj) (c : Array Value) (t : TypeId) : Blk (((w.alloc a).alloc b).alloc (.cells c t)) (w.heap.size + 1 + 1) c t := by have := Blk.new ((w.alloc a).alloc b) c t; rwa [World.size_alloc, World.size_alloc] at this

set_option maxRecDepth 100000 in
set_option maxHeartbeats 8000000 in
theorem ratx_any (w : World) : Calls Try.prog 8 #[] w fun en w' => en = .returned (.bool true) ∧ Ext w w' := by
  obtain ⟨tp, htp⟩ : ∃ tp, tp = tp6 := ⟨_, rfl⟩
  obtain ⟨lo, hlo⟩ : ∃ lo, lo = lo6 := ⟨_, rfl⟩
  have T1 : Hid (Lim tp) := Lib.hid (by rw [htp]; exact y_tp)
  have T2 : Hid (Lim lo) := Lib.hid (by rw [hlo]; exact y_lo)
  have T3 : Hid (tp.length = 128) := Lib.hid (by rw [htp]; exact y_tpl)
  have T4 : Hid (lo.length = 129) := Lib.hid (by rw [hlo]; exact y_lol)
  have T5 := Lib.hid htp; have T6 := Lib.hid hlo
  have LO : Hid (Lim [1]) := Lib.hid (lims _ (by decide))
  have ca := fun W va vb ha hb => addR_any va vb ⟨true, [], []⟩ ⟨false, lo, []⟩ W ha hb (lim2 true limN limN) (lim2 false T2.out limN)
  rw [show addR ⟨true, [], []⟩ ⟨false, lo, []⟩ = (zR, 2) by (try rw [htp]); (try rw [hlo]); exact y_1] at ca
  have Ca := Lib.hid ca; clear ca
  have cb := fun W va vb ha hb => addR_any va vb ⟨false, lo, []⟩ ⟨true, [], []⟩ W ha hb (lim2 false T2.out limN) (lim2 true limN limN)
  rw [show addR ⟨false, lo, []⟩ ⟨true, [], []⟩ = (zR, 4) by (try rw [htp]); (try rw [hlo]); exact y_2] at cb
  have Cb := Lib.hid cb; clear cb
  have cc := fun W va vb ha hb => addR_any va vb ⟨false, tp, []⟩ ⟨false, [1], []⟩ W ha hb (lim2 false T1.out limN) (lim2 false LO.out limN)
  rw [show addR ⟨false, tp, []⟩ ⟨false, [1], []⟩ = (zR, 4) by (try rw [htp]); (try rw [hlo]); exact y_3] at cc
  have Cc := Lib.hid cc; clear cc
  have cd := fun W va vb ha hb => mulR_any va vb ⟨false, tp, []⟩ ⟨false, tp, []⟩ W ha hb (lim2 false T1.out limN) (lim2 false T1.out limN)
  rw [show mulR ⟨false, tp, []⟩ ⟨false, tp, []⟩ = (zR, 4) by (try rw [htp]); (try rw [hlo]); exact y_4] at cd
  have Cd := Lib.hid cd; clear cd
  have ce := fun W va vb ha hb => mulR_any va vb ⟨false, tp, []⟩ ⟨false, [1], tp⟩ W ha hb (lim2 false T1.out limN) (lim2 false LO.out T1.out)
  rw [show mulR ⟨false, tp, []⟩ ⟨false, [1], tp⟩ = (⟨false, [1], []⟩, 0) by (try rw [htp]); (try rw [hlo]); exact y_5] at ce
  have Ce := Lib.hid ce; clear ce
  have cg := fun W va vb ha hb => divR_any va vb ⟨true, [], []⟩ zR W ha hb (lim2 true limN limN) zR_lim
  rw [show divR ⟨true, [], []⟩ zR = (zR, 2) by (try rw [htp]); (try rw [hlo]); exact y_6] at cg
  have Cg := Lib.hid cg; clear cg
  have ch := fun W va vb ha hb => divR_any va vb ⟨false, [1], []⟩ zR W ha hb (lim2 false LO.out limN) zR_lim
  rw [show divR ⟨false, [1], []⟩ zR = (zR, 14) by (try rw [htp]); (try rw [hlo]); exact y_7] at ch
  have Ch := Lib.hid ch; clear ch
  have ci := fun W => ofnR_any 0 0 W (by decide) (by decide) (by decide) (by decide)
  rw [y_8] at ci
  have Ci := Lib.hid ci; clear ci
  have cj := fun W va ha => floorR_any va ⟨false, tp, []⟩ W ha (lim2 false T1.out limN)
  rw [show floorR ⟨false, tp, []⟩ = (0, 7) by rw [htp]; exact y_9] at cj
  have Cj := Lib.hid cj; clear cj
  have ck := fun W va ha => floorR_any va (rep ((-9223372036854775808 : Int) : Rat)) W ha (limR_rep _)
  rw [y_10] at ck
  have cf := fun W => fromR_any (-9223372036854775808) W (by decide) (by decide)
  obtain ⟨RF, hRF⟩ : ∃ R, R = rep ((-9223372036854775808 : Int) : Rat) := ⟨_, rfl⟩
  rw [← hRF] at ck cf
  have Ck := Lib.hid ck; have Cf := Lib.hid cf; clear ck cf hRF
  have cl := fun W va ha => floorR_any va ⟨false, [0, 2147483648], []⟩ W ha (lim2 false (lims _ (by decide)) limN)
  rw [y_11] at cl
  have Cl := Lib.hid cl; clear cl
  have cm := fun W va vb ha hb => dotR_any va vb [] [] W ha hb (fun i hi => absurd hi (by simp)) (fun i hi => absurd hi (by simp))
  rw [show dotR [] [] = (zR, 0) by (try rw [htp]); (try rw [hlo]); exact y_12] at cm
  have Cm := Lib.hid cm; clear cm
  have co := fun W va vb ha hb => dotR_any va vb [⟨true, [], []⟩] [] W ha hb (limL_one (lim2 true limN limN)) (fun i hi => absurd hi (by simp))
  rw [show dotR [⟨true, [], []⟩] [] = (zR, 16) by (try rw [htp]); (try rw [hlo]); exact y_13] at co
  have Co := Lib.hid co; clear co
  have cp := fun W va vb ha hb => dotR_any va vb [⟨false, [1], []⟩, ⟨true, [], []⟩] [⟨false, [1], []⟩, ⟨false, lo, []⟩] W ha hb (limL_two (lim2 false LO.out limN) (lim2 true limN limN)) (limL_two (lim2 false LO.out limN) (lim2 false T2.out limN))
  rw [show dotR [⟨false, [1], []⟩, ⟨true, [], []⟩] [⟨false, [1], []⟩, ⟨false, lo, []⟩] = (zR, 2) by (try rw [htp]); (try rw [hlo]); exact y_14] at cp
  have Cp := Lib.hid cp; clear cp
  have cq := fun W va vb ha hb => dotR_any va vb [⟨false, tp, []⟩, ⟨false, tp, []⟩] [⟨false, [1], []⟩, ⟨false, [1], []⟩] W ha hb (limL_two (lim2 false T1.out limN) (lim2 false T1.out limN)) (limL_two (lim2 false LO.out limN) (lim2 false LO.out limN))
  rw [show dotR [⟨false, tp, []⟩, ⟨false, tp, []⟩] [⟨false, [1], []⟩, ⟨false, [1], []⟩] = (zR, 4) by (try rw [htp]); (try rw [hlo]); exact y_15] at cq
  have Cq := Lib.hid cq; clear cq
  clear htp hlo
  go_enter Try.func8, Try.ntmps8
  have X := Lib.hid (Ext.refl w)
  go_wp2_with fail
  refine (awake6_any _).mono ?_
  rintro e w1 ⟨rfl, hx⟩
  have X := Lib.hid (X.out.trans hx)
  clear hx
  go_wp2_with (with_reducible refine wpList_make_f rfl _ _ rfl _ _ 128 rfl rfl (by decide) (by decide) (by omega) ?_)
  intro w2 zs1 hz1 hrow1 hx1 hsz1
  have R1 := Lib.hid hrow1; have HZ1 := Lib.hid hz1
  have hz0 : w.heap.size ≤ w1.heap.size := X.out.size
  have X := Lib.hid (X.out.trans hx1)
  obtain ⟨tn, htn⟩ : ∃ n, n = w1.heap.size := ⟨_, rfl⟩
  rw [← htn] at R1 hz0 ⊢
  have Z0 := Lib.hid hz0
  have lt1 := R1.out.lt
  clear hrow1 hx1 hsz1 hz1 hz0 htn
  go_wp2_with fail
  go_loopw [2] (fun i wr => ∃ (k : Nat) (l : List Int), k ≤ 128 ∧ i = .int .i64 k ∧ Fil 128 l k ∧ RowU wr tn 128 l ∧ Ext w wr) (fun i _ => 128 - (intOf i).toNat)
  case atStart => exact ⟨0, _, by omega, rfl, HZ1.out, R1.out, X.out⟩
  case round =>
    obtain ⟨k, l, hk, rfl, hf, hr, hx⟩ := hrel
    have F := Lib.hid hf; have R := Lib.hid hr; have X := Lib.hid hx
    clear hf hx
    by_cases hlt : k < 128
    · have k7 := hr.getD (i := k) (by have := F.out.1; omega) rfl
      have k8 := hr.free k; have k9 := hr.lt
      clear hr
      go_wp2_with fail
      go_roundw
      case rel => exact ⟨k + 1, l.set k 4294967295, by omega, by go_num, F.out.set hlt, R.out.set k _ (by have := F.out.1; omega), X.out.set (p := ⟨tn, k, none⟩) Z0.out _⟩
      case measure => simp [intOf]; omega
    · obtain rfl : k = 128 := by omega
      have htop : l = tp6 := F.out.top
      rw [← T5.out] at htop
      have htop := htop.symm
      subst htop
      have RT := Lib.hid R.out.rdI
      rw [T3.out] at RT
      clear hr F hlt hk R
      go_wp2_with (with_reducible refine wpList_make_f rfl _ _ rfl _ _ 128 rfl rfl (by decide) (by decide) (by omega) ?_)
      intro w90 zs3 hz3 hrow3 hx3 hsz3
      have HZ3 := Lib.hid hz3
      clear hz3
      have bb0 := (((Blk.new wr #[.bool false, .slice (some ⟨tn, 0, none⟩) 128 128, .slice none 0 0] 70).alloc (.cells #[.int .u32 1] 91)).alloc (.cells #[.bool false, .slice (some ⟨(wr.heap.size + 1), 0, none⟩) 1 1, .slice (some ⟨tn, 0, none⟩) 128 128] 70))
      have bb1 := ((Blk.new (wr.alloc (.cells #[.bool false, .slice (some ⟨tn, 0, none⟩) 128 128, .slice none 0 0] 70)) #[.int .u32 1] 91).alloc (.cells #[.bool false, .slice (some ⟨(wr.heap.size + 1), 0, none⟩) 1 1, .slice (some ⟨tn, 0, none⟩) 128 128] 70))
      rw [World.size_alloc] at bb1
      have bb2 := (Blk.new ((wr.alloc (.cells #[.bool false, .slice (some ⟨tn, 0, none⟩) 128 128, .slice none 0 0] 70)).alloc (.cells #[.int .u32 1] 91)) #[.bool false, .slice (some ⟨(wr.heap.size + 1), 0, none⟩) 1 1, .slice (some ⟨tn, 0, none⟩) 128 128] 70)
      rw [World.size_alloc, World.size_alloc] at bb2
      have hx : Ext wr (((wr.alloc (.cells #[.bool false, .slice (some ⟨tn, 0, none⟩) 128 128, .slice none 0 0] 70)).alloc (.cells #[.int .u32 1] 91)).alloc (.cells #[.bool false, .slice (some ⟨(wr.heap.size + 1), 0, none⟩) 1 1, .slice (some ⟨tn, 0, none⟩) 128 128] 70)) := (((Ext.refl wr).alloc _).alloc _).alloc _
      have hs3 : (((wr.alloc (.cells #[.bool false, .slice (some ⟨tn, 0, none⟩) 128 128, .slice none 0 0] 70)).alloc (.cells #[.int .u32 1] 91)).alloc (.cells #[.bool false, .slice (some ⟨(wr.heap.size + 1), 0, none⟩) 1 1, .slice (some ⟨tn, 0, none⟩) 128 128] 70)).heap.size = wr.heap.size + 1 + 1 + 1 := by simp
      obtain ⟨LNn, hLN⟩ : ∃ n, n = wr.heap.size + 1 + 1 + 1 := ⟨_, rfl⟩
      obtain ⟨BSn, hBS⟩ : ∃ n, n = wr.heap.size + 1 + 1 := ⟨_, rfl⟩
      obtain ⟨N1n, hN1⟩ : ∃ n, n = wr.heap.size + 1 := ⟨_, rfl⟩
      obtain ⟨BBn, hBB⟩ : ∃ n, n = wr.heap.size := ⟨_, rfl⟩
      obtain ⟨w80, h80⟩ : ∃ W, W = (((wr.alloc (.cells #[.bool false, .slice (some ⟨tn, 0, none⟩) 128 128, .slice none 0 0] 70)).alloc (.cells #[.int .u32 1] 91)).alloc (.cells #[.bool false, .slice (some ⟨(wr.heap.size + 1), 0, none⟩) 1 1, .slice (some ⟨tn, 0, none⟩) 128 128] 70)) := ⟨_, rfl⟩
      rw [← h80] at bb0 bb1 bb2 hx hx3 hs3
      rw [← hLN] at hrow3 hs3 ⊢
      rw [← hBS] at bb2 ⊢
      rw [← hN1] at bb1 bb2 ⊢
      rw [← hBB] at bb0 ⊢
      have hlb : w80.heap.size ≤ LNn := by omega
      have hown3 := (OwV.row hrow3).toOwn (B := w80.heap.size) (fun g hg => by cases hg; omega)
      rw [HZ3.out.1] at hown3
      have O3 := Lib.hid hown3
      have Z3 := Lib.hid (show w80.heap.size ≤ w90.heap.size from hx3.size)
      clear h80 hLN hBS hN1 hBB hrow3 hsz3 hown3 hs3 hlb
      have RT := Lib.hid (RT.out.ext hx); have X := Lib.hid (X.out.trans hx)
      have BB := Lib.hid bb0; have N1 := Lib.hid bb1; have BS := Lib.hid bb2; clear hx bb0 bb1 bb2
      have X3 := Lib.hid hx3; clear hx3
      go_wp2_with (at_builtin; (refine wpList_append_new w90 rfl _ _ 68 rfl w80.heap.size 91 (.int .u32 0) 1 4 Try.underlying68 Try.infoU rfl (by decide) _ _ _ O3.out rfl [_] rfl (by simp [Value.oneCell']) rfl (by omega) (by omega) Z3.out ?_))
      intro g4 cap4 w91 hown4 hb4
      have hlist : zs3.map (Value.int .u32) ++ [Value.int .u32 1] = lo.map (Value.int .u32) := by rw [T6.out, ← lo_of HZ3.out, List.map_append]; rfl
      rw [hlist] at hown4
      have hl := T4.out
      have hown5 : w91.ownsRow w80.heap.size 91 1 (.slice (some ⟨g4, 0, none⟩) 129 cap4) lo.length (lo.map (Value.int .u32)) := by rw [hl]; exact hown4
      obtain ⟨og, hog, _⟩ := OwV.own hown5
      have RL := Lib.hid hog.rdI
      have hx4 : Ext w80 w91 := Below.trans X3.out hb4
      clear hog hown4 hown5 hb4 hlist hl X3 Z3 O3 HZ3
      have RT := Lib.hid (RT.out.ext hx4); have BB := Lib.hid (BB.out.ext hx4); have N1 := Lib.hid (N1.out.ext hx4); have BS := Lib.hid (BS.out.ext hx4); have X := Lib.hid (X.out.trans hx4)
      clear hx4
      have dBB := (((((((((((BB.out).alloc (.cells #[.bool false, .slice (some ⟨g4, 0, none⟩) 129 cap4, .slice none 0 0] 70)).alloc (.cells #[.int .u32 1, .int .u32 0] 91)).alloc (.cells #[.int .u32 1, .int .u32 0] 91)).alloc (.cells #[.int .u32 2] 91)).alloc (.cells #[.int .u32 2] 91)).alloc (.cells #[.int .u32 1] 91)).alloc (.cells #[.int .u32 2] 91)).alloc (.cells #[.int .u32 4] 91)).alloc (.cells #[.int .u32 2] 91)).alloc (.cells #[.int .u32 0] 91))
      have qBB := dBB.cell; have fBB := dBB.free; have lBB := dBB.lt; clear dBB
      have dBS := (((((((((((BS.out).alloc (.cells #[.bool false, .slice (some ⟨g4, 0, none⟩) 129 cap4, .slice none 0 0] 70)).alloc (.cells #[.int .u32 1, .int .u32 0] 91)).alloc (.cells #[.int .u32 1, .int .u32 0] 91)).alloc (.cells #[.int .u32 2] 91)).alloc (.cells #[.int .u32 2] 91)).alloc (.cells #[.int .u32 1] 91)).alloc (.cells #[.int .u32 2] 91)).alloc (.cells #[.int .u32 4] 91)).alloc (.cells #[.int .u32 2] 91)).alloc (.cells #[.int .u32 0] 91))
      have qBS := dBS.cell; have fBS := dBS.free; have lBS := dBS.lt; clear dBS
      go_wp2_with fail
      clear qBB fBB lBB qBS fBS lBS
      have bb0 := (((((((((((Blk.new w91 #[.bool false, .slice (some ⟨g4, 0, none⟩) 129 cap4, .slice none 0 0] 70).alloc (.cells #[.int .u32 1, .int .u32 0] 91)).alloc (.cells #[.int .u32 1, .int .u32 0] 91)).alloc (.cells #[.int .u32 2] 91)).alloc (.cells #[.int .u32 2] 91)).alloc (.cells #[.int .u32 1] 91)).alloc (.cells #[.int .u32 2] 91)).alloc (.cells #[.int .u32 4] 91)).alloc (.cells #[.int .u32 2] 91)).alloc (.cells #[.int .u32 0] 91)).alloc (.cells #[.bool false, .slice (some ⟨g4, 0, none⟩) 129 cap4, .slice none 0 0, .int .i64 4, .bool false, .slice (some ⟨(w91.heap.size + 1), 0, none⟩) 2 2, .slice (some ⟨g4, 0, none⟩) 129 cap4, .int .i64 4, .bool false, .slice (some ⟨(w91.heap.size + 1 + 1), 0, none⟩) 2 2, .slice none 0 0, .int .i64 2, .bool true, .slice none 0 0, .slice none 0 0, .int .i64 2, .bool false, .slice none 0 0, .slice (some ⟨(w91.heap.size + 1 + 1 + 1), 0, none⟩) 1 1, .int .i64 2, .bool false, .slice (some ⟨(w91.heap.size + 1 + 1 + 1 + 1), 0, none⟩) 1 1, .slice (some ⟨(w91.heap.size + 1 + 1 + 1 + 1 + 1), 0, none⟩) 1 1, .int .i64 2, .bool false, .slice (some ⟨(w91.heap.size + 1 + 1 + 1 + 1 + 1 + 1), 0, none⟩) 1 1, .slice (some ⟨(w91.heap.size + 1 + 1 + 1 + 1 + 1 + 1 + 1), 0, none⟩) 1 1, .int .i64 2, .bool false, .slice (some ⟨(w91.heap.size + 1 + 1 + 1 + 1 + 1 + 1 + 1 + 1), 0, none⟩) 1 1, .slice (some ⟨(w91.heap.size + 1 + 1 + 1 + 1 + 1 + 1 + 1 + 1 + 1), 0, none⟩) 1 1, .int .i64 2, .bool false, .slice none 0 0, .slice none 0 0, .int .i64 0, .bool false, .slice (some ⟨tn, 0, none⟩) 128 128, .slice none 0 0, .int .i64 0, .bool false, .slice (some ⟨N1n, 0, none⟩) 1 1, .slice (some ⟨tn, 0, none⟩) 128 128, .int .i64 0] 92))
      have bb1 := ((((((((((Blk.new (w91.alloc (.cells #[.bool false, .slice (some ⟨g4, 0, none⟩) 129 cap4, .slice none 0 0] 70)) #[.int .u32 1, .int .u32 0] 91).alloc (.cells #[.int .u32 1, .int .u32 0] 91)).alloc (.cells #[.int .u32 2] 91)).alloc (.cells #[.int .u32 2] 91)).alloc (.cells #[.int .u32 1] 91)).alloc (.cells #[.int .u32 2] 91)).alloc (.cells #[.int .u32 4] 91)).alloc (.cells #[.int .u32 2] 91)).alloc (.cells #[.int .u32 0] 91)).alloc (.cells #[.bool false, .slice (some ⟨g4, 0, none⟩) 129 cap4, .slice none 0 0, .int .i64 4, .bool false, .slice (some ⟨(w91.heap.size + 1), 0, none⟩) 2 2, .slice (some ⟨g4, 0, none⟩) 129 cap4, .int .i64 4, .bool false, .slice (some ⟨(w91.heap.size + 1 + 1), 0, none⟩) 2 2, .slice none 0 0, .int .i64 2, .bool true, .slice none 0 0, .slice none 0 0, .int .i64 2, .bool false, .slice none 0 0, .slice (some ⟨(w91.heap.size + 1 + 1 + 1), 0, none⟩) 1 1, .int .i64 2, .bool false, .slice (some ⟨(w91.heap.size + 1 + 1 + 1 + 1), 0, none⟩) 1 1, .slice (some ⟨(w91.heap.size + 1 + 1 + 1 + 1 + 1), 0, none⟩) 1 1, .int .i64 2, .bool false, .slice (some ⟨(w91.heap.size + 1 + 1 + 1 + 1 + 1 + 1), 0, none⟩) 1 1, .slice (some ⟨(w91.heap.size + 1 + 1 + 1 + 1 + 1 + 1 + 1), 0, none⟩) 1 1, .int .i64 2, .bool false, .slice (some ⟨(w91.heap.size + 1 + 1 + 1 + 1 + 1 + 1 + 1 + 1), 0, none⟩) 1 1, .slice (some ⟨(w91.heap.size + 1 + 1 + 1 + 1 + 1 + 1 + 1 + 1 + 1), 0, none⟩) 1 1, .int .i64 2, .bool false, .slice none 0 0, .slice none 0 0, .int .i64 0, .bool false, .slice (some ⟨tn, 0, none⟩) 128 128, .slice none 0 0, .int .i64 0, .bool false, .slice (some ⟨N1n, 0, none⟩) 1 1, .slice (some ⟨tn, 0, none⟩) 128 128, .int .i64 0] 92))
      rw [World.size_alloc] at bb1
      have bb2 := (((((((((Blk.new ((w91.alloc (.cells #[.bool false, .slice (some ⟨g4, 0, none⟩) 129 cap4, .slice none 0 0] 70)).alloc (.cells #[.int .u32 1, .int .u32 0] 91)) #[.int .u32 1, .int .u32 0] 91).alloc (.cells #[.int .u32 2] 91)).alloc (.cells #[.int .u32 2] 91)).alloc (.cells #[.int .u32 1] 91)).alloc (.cells #[.int .u32 2] 91)).alloc (.cells #[.int .u32 4] 91)).alloc (.cells #[.int .u32 2] 91)).alloc (.cells #[.int .u32 0] 91)).alloc (.cells #[.bool false, .slice (some ⟨g4, 0, none⟩) 129 cap4, .slice none 0 0, .int .i64 4, .bool false, .slice (some ⟨(w91.heap.size + 1), 0, none⟩) 2 2, .slice (some ⟨g4, 0, none⟩) 129 cap4, .int .i64 4, .bool false, .slice (some ⟨(w91.heap.size + 1 + 1), 0, none⟩) 2 2, .slice none 0 0, .int .i64 2, .bool true, .slice none 0 0, .slice none 0 0, .int .i64 2, .bool false, .slice none 0 0, .slice (some ⟨(w91.heap.size + 1 + 1 + 1), 0, none⟩) 1 1, .int .i64 2, .bool false, .slice (some ⟨(w91.heap.size + 1 + 1 + 1 + 1), 0, none⟩) 1 1, .slice (some ⟨(w91.heap.size + 1 + 1 + 1 + 1 + 1), 0, none⟩) 1 1, .int .i64 2, .bool false, .slice (some ⟨(w91.heap.size + 1 + 1 + 1 + 1 + 1 + 1), 0, none⟩) 1 1, .slice (some ⟨(w91.heap.size + 1 + 1 + 1 + 1 + 1 + 1 + 1), 0, none⟩) 1 1, .int .i64 2, .bool false, .slice (some ⟨(w91.heap.size + 1 + 1 + 1 + 1 + 1 + 1 + 1 + 1), 0, none⟩) 1 1, .slice (some ⟨(w91.heap.size + 1 + 1 + 1 + 1 + 1 + 1 + 1 + 1 + 1), 0, none⟩) 1 1, .int .i64 2, .bool false, .slice none 0 0, .slice none 0 0, .int .i64 0, .bool false, .slice (some ⟨tn, 0, none⟩) 128 128, .slice none 0 0, .int .i64 0, .bool false, .slice (some ⟨N1n, 0, none⟩) 1 1, .slice (some ⟨tn, 0, none⟩) 128 128, .int .i64 0] 92))
      rw [World.size_alloc, World.size_alloc] at bb2
      have bb3 := ((((((((Blk.new (((w91.alloc (.cells #[.bool false, .slice (some ⟨g4, 0, none⟩) 129 cap4, .slice none 0 0] 70)).alloc (.cells #[.int .u32 1, .int .u32 0] 91)).alloc (.cells #[.int .u32 1, .int .u32 0] 91)) #[.int .u32 2] 91).alloc (.cells #[.int .u32 2] 91)).alloc (.cells #[.int .u32 1] 91)).alloc (.cells #[.int .u32 2] 91)).alloc (.cells #[.int .u32 4] 91)).alloc (.cells #[.int .u32 2] 91)).alloc (.cells #[.int .u32 0] 91)).alloc (.cells #[.bool false, .slice (some ⟨g4, 0, none⟩) 129 cap4, .slice none 0 0, .int .i64 4, .bool false, .slice (some ⟨(w91.heap.size + 1), 0, none⟩) 2 2, .slice (some ⟨g4, 0, none⟩) 129 cap4, .int .i64 4, .bool false, .slice (some ⟨(w91.heap.size + 1 + 1), 0, none⟩) 2 2, .slice none 0 0, .int .i64 2, .bool true, .slice none 0 0, .slice none 0 0, .int .i64 2, .bool false, .slice none 0 0, .slice (some ⟨(w91.heap.size + 1 + 1 + 1), 0, none⟩) 1 1, .int .i64 2, .bool false, .slice (some ⟨(w91.heap.size + 1 + 1 + 1 + 1), 0, none⟩) 1 1, .slice (some ⟨(w91.heap.size + 1 + 1 + 1 + 1 + 1), 0, none⟩) 1 1, .int .i64 2, .bool false, .slice (some ⟨(w91.heap.size + 1 + 1 + 1 + 1 + 1 + 1), 0, none⟩) 1 1, .slice (some ⟨(w91.heap.size + 1 + 1 + 1 + 1 + 1 + 1 + 1), 0, none⟩) 1 1, .int .i64 2, .bool false, .slice (some ⟨(w91.heap.size + 1 + 1 + 1 + 1 + 1 + 1 + 1 + 1), 0, none⟩) 1 1, .slice (some ⟨(w91.heap.size + 1 + 1 + 1 + 1 + 1 + 1 + 1 + 1 + 1), 0, none⟩) 1 1, .int .i64 2, .bool false, .slice none 0 0, .slice none 0 0, .int .i64 0, .bool false, .slice (some ⟨tn, 0, none⟩) 128 128, .slice none 0 0, .int .i64 0, .bool false, .slice (some ⟨N1n, 0, none⟩) 1 1, .slice (some ⟨tn, 0, none⟩) 128 128, .int .i64 0] 92))
      rw [World.size_alloc, World.size_alloc, World.size_alloc] at bb3
      have bb4 := (((((((Blk.new ((((w91.alloc (.cells #[.bool false, .slice (some ⟨g4, 0, none⟩) 129 cap4, .slice none 0 0] 70)).alloc (.cells #[.int .u32 1, .int .u32 0] 91)).alloc (.cells #[.int .u32 1, .int .u32 0] 91)).alloc (.cells #[.int .u32 2] 91)) #[.int .u32 2] 91).alloc (.cells #[.int .u32 1] 91)).alloc (.cells #[.int .u32 2] 91)).alloc (.cells #[.int .u32 4] 91)).alloc (.cells #[.int .u32 2] 91)).alloc (.cells #[.int .u32 0] 91)).alloc (.cells #[.bool false, .slice (some ⟨g4, 0, none⟩) 129 cap4, .slice none 0 0, .int .i64 4, .bool false, .slice (some ⟨(w91.heap.size + 1), 0, none⟩) 2 2, .slice (some ⟨g4, 0, none⟩) 129 cap4, .int .i64 4, .bool false, .slice (some ⟨(w91.heap.size + 1 + 1), 0, none⟩) 2 2, .slice none 0 0, .int .i64 2, .bool true, .slice none 0 0, .slice none 0 0, .int .i64 2, .bool false, .slice none 0 0, .slice (some ⟨(w91.heap.size + 1 + 1 + 1), 0, none⟩) 1 1, .int .i64 2, .bool false, .slice (some ⟨(w91.heap.size + 1 + 1 + 1 + 1), 0, none⟩) 1 1, .slice (some ⟨(w91.heap.size + 1 + 1 + 1 + 1 + 1), 0, none⟩) 1 1, .int .i64 2, .bool false, .slice (some ⟨(w91.heap.size + 1 + 1 + 1 + 1 + 1 + 1), 0, none⟩) 1 1, .slice (some ⟨(w91.heap.size + 1 + 1 + 1 + 1 + 1 + 1 + 1), 0, none⟩) 1 1, .int .i64 2, .bool false, .slice (some ⟨(w91.heap.size + 1 + 1 + 1 + 1 + 1 + 1 + 1 + 1), 0, none⟩) 1 1, .slice (some ⟨(w91.heap.size + 1 + 1 + 1 + 1 + 1 + 1 + 1 + 1 + 1), 0, none⟩) 1 1, .int .i64 2, .bool false, .slice none 0 0, .slice none 0 0, .int .i64 0, .bool false, .slice (some ⟨tn, 0, none⟩) 128 128, .slice none 0 0, .int .i64 0, .bool false, .slice (some ⟨N1n, 0, none⟩) 1 1, .slice (some ⟨tn, 0, none⟩) 128 128, .int .i64 0] 92))
      rw [World.size_alloc, World.size_alloc, World.size_alloc, World.size_alloc] at bb4
      have bb5 := ((((((Blk.new (((((w91.alloc (.cells #[.bool false, .slice (some ⟨g4, 0, none⟩) 129 cap4, .slice none 0 0] 70)).alloc (.cells #[.int .u32 1, .int .u32 0] 91)).alloc (.cells #[.int .u32 1, .int .u32 0] 91)).alloc (.cells #[.int .u32 2] 91)).alloc (.cells #[.int .u32 2] 91)) #[.int .u32 1] 91).alloc (.cells #[.int .u32 2] 91)).alloc (.cells #[.int .u32 4] 91)).alloc (.cells #[.int .u32 2] 91)).alloc (.cells #[.int .u32 0] 91)).alloc (.cells #[.bool false, .slice (some ⟨g4, 0, none⟩) 129 cap4, .slice none 0 0, .int .i64 4, .bool false, .slice (some ⟨(w91.heap.size + 1), 0, none⟩) 2 2, .slice (some ⟨g4, 0, none⟩) 129 cap4, .int .i64 4, .bool false, .slice (some ⟨(w91.heap.size + 1 + 1), 0, none⟩) 2 2, .slice none 0 0, .int .i64 2, .bool true, .slice none 0 0, .slice none 0 0, .int .i64 2, .bool false, .slice none 0 0, .slice (some ⟨(w91.heap.size + 1 + 1 + 1), 0, none⟩) 1 1, .int .i64 2, .bool false, .slice (some ⟨(w91.heap.size + 1 + 1 + 1 + 1), 0, none⟩) 1 1, .slice (some ⟨(w91.heap.size + 1 + 1 + 1 + 1 + 1), 0, none⟩) 1 1, .int .i64 2, .bool false, .slice (some ⟨(w91.heap.size + 1 + 1 + 1 + 1 + 1 + 1), 0, none⟩) 1 1, .slice (some ⟨(w91.heap.size + 1 + 1 + 1 + 1 + 1 + 1 + 1), 0, none⟩) 1 1, .int .i64 2, .bool false, .slice (some ⟨(w91.heap.size + 1 + 1 + 1 + 1 + 1 + 1 + 1 + 1), 0, none⟩) 1 1, .slice (some ⟨(w91.heap.size + 1 + 1 + 1 + 1 + 1 + 1 + 1 + 1 + 1), 0, none⟩) 1 1, .int .i64 2, .bool false, .slice none 0 0, .slice none 0 0, .int .i64 0, .bool false, .slice (some ⟨tn, 0, none⟩) 128 128, .slice none 0 0, .int .i64 0, .bool false, .slice (some ⟨N1n, 0, none⟩) 1 1, .slice (some ⟨tn, 0, none⟩) 128 128, .int .i64 0] 92))
      rw [World.size_alloc, World.size_alloc, World.size_alloc, World.size_alloc, World.size_alloc] at bb5
      have bb6 := (((((Blk.new ((((((w91.alloc (.cells #[.bool false, .slice (some ⟨g4, 0, none⟩) 129 cap4, .slice none 0 0] 70)).alloc (.cells #[.int .u32 1, .int .u32 0] 91)).alloc (.cells #[.int .u32 1, .int .u32 0] 91)).alloc (.cells #[.int .u32 2] 91)).alloc (.cells #[.int .u32 2] 91)).alloc (.cells #[.int .u32 1] 91)) #[.int .u32 2] 91).alloc (.cells #[.int .u32 4] 91)).alloc (.cells #[.int .u32 2] 91)).alloc (.cells #[.int .u32 0] 91)).alloc (.cells #[.bool false, .slice (some ⟨g4, 0, none⟩) 129 cap4, .slice none 0 0, .int .i64 4, .bool false, .slice (some ⟨(w91.heap.size + 1), 0, none⟩) 2 2, .slice (some ⟨g4, 0, none⟩) 129 cap4, .int .i64 4, .bool false, .slice (some ⟨(w91.heap.size + 1 + 1), 0, none⟩) 2 2, .slice none 0 0, .int .i64 2, .bool true, .slice none 0 0, .slice none 0 0, .int .i64 2, .bool false, .slice none 0 0, .slice (some ⟨(w91.heap.size + 1 + 1 + 1), 0, none⟩) 1 1, .int .i64 2, .bool false, .slice (some ⟨(w91.heap.size + 1 + 1 + 1 + 1), 0, none⟩) 1 1, .slice (some ⟨(w91.heap.size + 1 + 1 + 1 + 1 + 1), 0, none⟩) 1 1, .int .i64 2, .bool false, .slice (some ⟨(w91.heap.size + 1 + 1 + 1 + 1 + 1 + 1), 0, none⟩) 1 1, .slice (some ⟨(w91.heap.size + 1 + 1 + 1 + 1 + 1 + 1 + 1), 0, none⟩) 1 1, .int .i64 2, .bool false, .slice (some ⟨(w91.heap.size + 1 + 1 + 1 + 1 + 1 + 1 + 1 + 1), 0, none⟩) 1 1, .slice (some ⟨(w91.heap.size + 1 + 1 + 1 + 1 + 1 + 1 + 1 + 1 + 1), 0, none⟩) 1 1, .int .i64 2, .bool false, .slice none 0 0, .slice none 0 0, .int .i64 0, .bool false, .slice (some ⟨tn, 0, none⟩) 128 128, .slice none 0 0, .int .i64 0, .bool false, .slice (some ⟨N1n, 0, none⟩) 1 1, .slice (some ⟨tn, 0, none⟩) 128 128, .int .i64 0] 92))
      rw [World.size_alloc, World.size_alloc, World.size_alloc, World.size_alloc, World.size_alloc, World.size_alloc] at bb6
      have bb7 := ((((Blk.new (((((((w91.alloc (.cells #[.bool false, .slice (some ⟨g4, 0, none⟩) 129 cap4, .slice none 0 0] 70)).alloc (.cells #[.int .u32 1, .int .u32 0] 91)).alloc (.cells #[.int .u32 1, .int .u32 0] 91)).alloc (.cells #[.int .u32 2] 91)).alloc (.cells #[.int .u32 2] 91)).alloc (.cells #[.int .u32 1] 91)).alloc (.cells #[.int .u32 2] 91)) #[.int .u32 4] 91).alloc (.cells #[.int .u32 2] 91)).alloc (.cells #[.int .u32 0] 91)).alloc (.cells #[.bool false, .slice (some ⟨g4, 0, none⟩) 129 cap4, .slice none 0 0, .int .i64 4, .bool false, .slice (some ⟨(w91.heap.size + 1), 0, none⟩) 2 2, .slice (some ⟨g4, 0, none⟩) 129 cap4, .int .i64 4, .bool false, .slice (some ⟨(w91.heap.size + 1 + 1), 0, none⟩) 2 2, .slice none 0 0, .int .i64 2, .bool true, .slice none 0 0, .slice none 0 0, .int .i64 2, .bool false, .slice none 0 0, .slice (some ⟨(w91.heap.size + 1 + 1 + 1), 0, none⟩) 1 1, .int .i64 2, .bool false, .slice (some ⟨(w91.heap.size + 1 + 1 + 1 + 1), 0, none⟩) 1 1, .slice (some ⟨(w91.heap.size + 1 + 1 + 1 + 1 + 1), 0, none⟩) 1 1, .int .i64 2, .bool false, .slice (some ⟨(w91.heap.size + 1 + 1 + 1 + 1 + 1 + 1), 0, none⟩) 1 1, .slice (some ⟨(w91.heap.size + 1 + 1 + 1 + 1 + 1 + 1 + 1), 0, none⟩) 1 1, .int .i64 2, .bool false, .slice (some ⟨(w91.heap.size + 1 + 1 + 1 + 1 + 1 + 1 + 1 + 1), 0, none⟩) 1 1, .slice (some ⟨(w91.heap.size + 1 + 1 + 1 + 1 + 1 + 1 + 1 + 1 + 1), 0, none⟩) 1 1, .int .i64 2, .bool false, .slice none 0 0, .slice none 0 0, .int .i64 0, .bool false, .slice (some ⟨tn, 0, none⟩) 128 128, .slice none 0 0, .int .i64 0, .bool false, .slice (some ⟨N1n, 0, none⟩) 1 1, .slice (some ⟨tn, 0, none⟩) 128 128, .int .i64 0] 92))
      rw [World.size_alloc, World.size_alloc, World.size_alloc, World.size_alloc, World.size_alloc, World.size_alloc, World.size_alloc] at bb7
      have bb8 := (((Blk.new ((((((((w91.alloc (.cells #[.bool false, .slice (some ⟨g4, 0, none⟩) 129 cap4, .slice none 0 0] 70)).alloc (.cells #[.int .u32 1, .int .u32 0] 91)).alloc (.cells #[.int .u32 1, .int .u32 0] 91)).alloc (.cells #[.int .u32 2] 91)).alloc (.cells #[.int .u32 2] 91)).alloc (.cells #[.int .u32 1] 91)).alloc (.cells #[.int .u32 2] 91)).alloc (.cells #[.int .u32 4] 91)) #[.int .u32 2] 91).alloc (.cells #[.int .u32 0] 91)).alloc (.cells #[.bool false, .slice (some ⟨g4, 0, none⟩) 129 cap4, .slice none 0 0, .int .i64 4, .bool false, .slice (some ⟨(w91.heap.size + 1), 0, none⟩) 2 2, .slice (some ⟨g4, 0, none⟩) 129 cap4, .int .i64 4, .bool false, .slice (some ⟨(w91.heap.size + 1 + 1), 0, none⟩) 2 2, .slice none 0 0, .int .i64 2, .bool true, .slice none 0 0, .slice none 0 0, .int .i64 2, .bool false, .slice none 0 0, .slice (some ⟨(w91.heap.size + 1 + 1 + 1), 0, none⟩) 1 1, .int .i64 2, .bool false, .slice (some ⟨(w91.heap.size + 1 + 1 + 1 + 1), 0, none⟩) 1 1, .slice (some ⟨(w91.heap.size + 1 + 1 + 1 + 1 + 1), 0, none⟩) 1 1, .int .i64 2, .bool false, .slice (some ⟨(w91.heap.size + 1 + 1 + 1 + 1 + 1 + 1), 0, none⟩) 1 1, .slice (some ⟨(w91.heap.size + 1 + 1 + 1 + 1 + 1 + 1 + 1), 0, none⟩) 1 1, .int .i64 2, .bool false, .slice (some ⟨(w91.heap.size + 1 + 1 + 1 + 1 + 1 + 1 + 1 + 1), 0, none⟩) 1 1, .slice (some ⟨(w91.heap.size + 1 + 1 + 1 + 1 + 1 + 1 + 1 + 1 + 1), 0, none⟩) 1 1, .int .i64 2, .bool false, .slice none 0 0, .slice none 0 0, .int .i64 0, .bool false, .slice (some ⟨tn, 0, none⟩) 128 128, .slice none 0 0, .int .i64 0, .bool false, .slice (some ⟨N1n, 0, none⟩) 1 1, .slice (some ⟨tn, 0, none⟩) 128 128, .int .i64 0] 92))
      rw [World.size_alloc, World.size_alloc, World.size_alloc, World.size_alloc, World.size_alloc, World.size_alloc, World.size_alloc, World.size_alloc] at bb8
      have bb9 := ((Blk.new (((((((((w91.alloc (.cells #[.bool false, .slice (some ⟨g4, 0, none⟩) 129 cap4, .slice none 0 0] 70)).alloc (.cells #[.int .u32 1, .int .u32 0] 91)).alloc (.cells #[.int .u32 1, .int .u32 0] 91)).alloc (.cells #[.int .u32 2] 91)).alloc (.cells #[.int .u32 2] 91)).alloc (.cells #[.int .u32 1] 91)).alloc (.cells #[.int .u32 2] 91)).alloc (.cells #[.int .u32 4] 91)).alloc (.cells #[.int .u32 2] 91)) #[.int .u32 0] 91).alloc (.cells #[.bool false, .slice (some ⟨g4, 0, none⟩) 129 cap4, .slice none 0 0, .int .i64 4, .bool false, .slice (some ⟨(w91.heap.size + 1), 0, none⟩) 2 2, .slice (some ⟨g4, 0, none⟩) 129 cap4, .int .i64 4, .bool false, .slice (some ⟨(w91.heap.size + 1 + 1), 0, none⟩) 2 2, .slice none 0 0, .int .i64 2, .bool true, .slice none 0 0, .slice none 0 0, .int .i64 2, .bool false, .slice none 0 0, .slice (some ⟨(w91.heap.size + 1 + 1 + 1), 0, none⟩) 1 1, .int .i64 2, .bool false, .slice (some ⟨(w91.heap.size + 1 + 1 + 1 + 1), 0, none⟩) 1 1, .slice (some ⟨(w91.heap.size + 1 + 1 + 1 + 1 + 1), 0, none⟩) 1 1, .int .i64 2, .bool false, .slice (some ⟨(w91.heap.size + 1 + 1 + 1 + 1 + 1 + 1), 0, none⟩) 1 1, .slice (some ⟨(w91.heap.size + 1 + 1 + 1 + 1 + 1 + 1 + 1), 0, none⟩) 1 1, .int .i64 2, .bool false, .slice (some ⟨(w91.heap.size + 1 + 1 + 1 + 1 + 1 + 1 + 1 + 1), 0, none⟩) 1 1, .slice (some ⟨(w91.heap.size + 1 + 1 + 1 + 1 + 1 + 1 + 1 + 1 + 1), 0, none⟩) 1 1, .int .i64 2, .bool false, .slice none 0 0, .slice none 0 0, .int .i64 0, .bool false, .slice (some ⟨tn, 0, none⟩) 128 128, .slice none 0 0, .int .i64 0, .bool false, .slice (some ⟨N1n, 0, none⟩) 1 1, .slice (some ⟨tn, 0, none⟩) 128 128, .int .i64 0] 92))
      rw [World.size_alloc, World.size_alloc, World.size_alloc, World.size_alloc, World.size_alloc, World.size_alloc, World.size_alloc, World.size_alloc, World.size_alloc] at bb9
      have bb10 := (Blk.new ((((((((((w91.alloc (.cells #[.bool false, .slice (some ⟨g4, 0, none⟩) 129 cap4, .slice none 0 0] 70)).alloc (.cells #[.int .u32 1, .int .u32 0] 91)).alloc (.cells #[.int .u32 1, .int .u32 0] 91)).alloc (.cells #[.int .u32 2] 91)).alloc (.cells #[.int .u32 2] 91)).alloc (.cells #[.int .u32 1] 91)).alloc (.cells #[.int .u32 2] 91)).alloc (.cells #[.int .u32 4] 91)).alloc (.cells #[.int .u32 2] 91)).alloc (.cells #[.int .u32 0] 91)) #[.bool false, .slice (some ⟨g4, 0, none⟩) 129 cap4, .slice none 0 0, .int .i64 4, .bool false, .slice (some ⟨(w91.heap.size + 1), 0, none⟩) 2 2, .slice (some ⟨g4, 0, none⟩) 129 cap4, .int .i64 4, .bool false, .slice (some ⟨(w91.heap.size + 1 + 1), 0, none⟩) 2 2, .slice none 0 0, .int .i64 2, .bool true, .slice none 0 0, .slice none 0 0, .int .i64 2, .bool false, .slice none 0 0, .slice (some ⟨(w91.heap.size + 1 + 1 + 1), 0, none⟩) 1 1, .int .i64 2, .bool false, .slice (some ⟨(w91.heap.size + 1 + 1 + 1 + 1), 0, none⟩) 1 1, .slice (some ⟨(w91.heap.size + 1 + 1 + 1 + 1 + 1), 0, none⟩) 1 1, .int .i64 2, .bool false, .slice (some ⟨(w91.heap.size + 1 + 1 + 1 + 1 + 1 + 1), 0, none⟩) 1 1, .slice (some ⟨(w91.heap.size + 1 + 1 + 1 + 1 + 1 + 1 + 1), 0, none⟩) 1 1, .int .i64 2, .bool false, .slice (some ⟨(w91.heap.size + 1 + 1 + 1 + 1 + 1 + 1 + 1 + 1), 0, none⟩) 1 1, .slice (some ⟨(w91.heap.size + 1 + 1 + 1 + 1 + 1 + 1 + 1 + 1 + 1), 0, none⟩) 1 1, .int .i64 2, .bool false, .slice none 0 0, .slice none 0 0, .int .i64 0, .bool false, .slice (some ⟨tn, 0, none⟩) 128 128, .slice none 0 0, .int .i64 0, .bool false, .slice (some ⟨N1n, 0, none⟩) 1 1, .slice (some ⟨tn, 0, none⟩) 128 128, .int .i64 0] 92)
      rw [World.size_alloc, World.size_alloc, World.size_alloc, World.size_alloc, World.size_alloc, World.size_alloc, World.size_alloc, World.size_alloc, World.size_alloc, World.size_alloc] at bb10
      have hx : Ext w91 (((((((((((w91.alloc (.cells #[.bool false, .slice (some ⟨g4, 0, none⟩) 129 cap4, .slice none 0 0] 70)).alloc (.cells #[.int .u32 1, .int .u32 0] 91)).alloc (.cells #[.int .u32 1, .int .u32 0] 91)).alloc (.cells #[.int .u32 2] 91)).alloc (.cells #[.int .u32 2] 91)).alloc (.cells #[.int .u32 1] 91)).alloc (.cells #[.int .u32 2] 91)).alloc (.cells #[.int .u32 4] 91)).alloc (.cells #[.int .u32 2] 91)).alloc (.cells #[.int .u32 0] 91)).alloc (.cells #[.bool false, .slice (some ⟨g4, 0, none⟩) 129 cap4, .slice none 0 0, .int .i64 4, .bool false, .slice (some ⟨(w91.heap.size + 1), 0, none⟩) 2 2, .slice (some ⟨g4, 0, none⟩) 129 cap4, .int .i64 4, .bool false, .slice (some ⟨(w91.heap.size + 1 + 1), 0, none⟩) 2 2, .slice none 0 0, .int .i64 2, .bool true, .slice none 0 0, .slice none 0 0, .int .i64 2, .bool false, .slice none 0 0, .slice (some ⟨(w91.heap.size + 1 + 1 + 1), 0, none⟩) 1 1, .int .i64 2, .bool false, .slice (some ⟨(w91.heap.size + 1 + 1 + 1 + 1), 0, none⟩) 1 1, .slice (some ⟨(w91.heap.size + 1 + 1 + 1 + 1 + 1), 0, none⟩) 1 1, .int .i64 2, .bool false, .slice (some ⟨(w91.heap.size + 1 + 1 + 1 + 1 + 1 + 1), 0, none⟩) 1 1, .slice (some ⟨(w91.heap.size + 1 + 1 + 1 + 1 + 1 + 1 + 1), 0, none⟩) 1 1, .int .i64 2, .bool false, .slice (some ⟨(w91.heap.size + 1 + 1 + 1 + 1 + 1 + 1 + 1 + 1), 0, none⟩) 1 1, .slice (some ⟨(w91.heap.size + 1 + 1 + 1 + 1 + 1 + 1 + 1 + 1 + 1), 0, none⟩) 1 1, .int .i64 2, .bool false, .slice none 0 0, .slice none 0 0, .int .i64 0, .bool false, .slice (some ⟨tn, 0, none⟩) 128 128, .slice none 0 0, .int .i64 0, .bool false, .slice (some ⟨N1n, 0, none⟩) 1 1, .slice (some ⟨tn, 0, none⟩) 128 128, .int .i64 0] 92)) := ((((((((((((Ext.refl w91).alloc _).alloc _).alloc _).alloc _).alloc _).alloc _).alloc _).alloc _).alloc _).alloc _).alloc _)
      obtain ⟨w102, hw102⟩ : ∃ W, W = (((((((((((w91.alloc (.cells #[.bool false, .slice (some ⟨g4, 0, none⟩) 129 cap4, .slice none 0 0] 70)).alloc (.cells #[.int .u32 1, .int .u32 0] 91)).alloc (.cells #[.int .u32 1, .int .u32 0] 91)).alloc (.cells #[.int .u32 2] 91)).alloc (.cells #[.int .u32 2] 91)).alloc (.cells #[.int .u32 1] 91)).alloc (.cells #[.int .u32 2] 91)).alloc (.cells #[.int .u32 4] 91)).alloc (.cells #[.int .u32 2] 91)).alloc (.cells #[.int .u32 0] 91)).alloc (.cells #[.bool false, .slice (some ⟨g4, 0, none⟩) 129 cap4, .slice none 0 0, .int .i64 4, .bool false, .slice (some ⟨(w91.heap.size + 1), 0, none⟩) 2 2, .slice (some ⟨g4, 0, none⟩) 129 cap4, .int .i64 4, .bool false, .slice (some ⟨(w91.heap.size + 1 + 1), 0, none⟩) 2 2, .slice none 0 0, .int .i64 2, .bool true, .slice none 0 0, .slice none 0 0, .int .i64 2, .bool false, .slice none 0 0, .slice (some ⟨(w91.heap.size + 1 + 1 + 1), 0, none⟩) 1 1, .int .i64 2, .bool false, .slice (some ⟨(w91.heap.size + 1 + 1 + 1 + 1), 0, none⟩) 1 1, .slice (some ⟨(w91.heap.size + 1 + 1 + 1 + 1 + 1), 0, none⟩) 1 1, .int .i64 2, .bool false, .slice (some ⟨(w91.heap.size + 1 + 1 + 1 + 1 + 1 + 1), 0, none⟩) 1 1, .slice (some ⟨(w91.heap.size + 1 + 1 + 1 + 1 + 1 + 1 + 1), 0, none⟩) 1 1, .int .i64 2, .bool false, .slice (some ⟨(w91.heap.size + 1 + 1 + 1 + 1 + 1 + 1 + 1 + 1), 0, none⟩) 1 1, .slice (some ⟨(w91.heap.size + 1 + 1 + 1 + 1 + 1 + 1 + 1 + 1 + 1), 0, none⟩) 1 1, .int .i64 2, .bool false, .slice none 0 0, .slice none 0 0, .int .i64 0, .bool false, .slice (some ⟨tn, 0, none⟩) 128 128, .slice none 0 0, .int .i64 0, .bool false, .slice (some ⟨N1n, 0, none⟩) 1 1, .slice (some ⟨tn, 0, none⟩) 128 128, .int .i64 0] 92)) := ⟨_, rfl⟩
      rw [← hw102] at hx bb0 bb1 bb2 bb3 bb4 bb5 bb6 bb7 bb8 bb9 bb10 ⊢; clear hw102
      obtain ⟨Gn, hGn⟩ : ∃ n, n = w91.heap.size + 1 + 1 + 1 + 1 + 1 + 1 + 1 + 1 + 1 + 1 := ⟨_, rfl⟩
      rw [← hGn] at bb10 ⊢; clear hGn
      obtain ⟨A8n, hA8n⟩ : ∃ n, n = w91.heap.size + 1 + 1 + 1 + 1 + 1 + 1 + 1 + 1 + 1 := ⟨_, rfl⟩
      rw [← hA8n] at bb9 ⊢; (try rw [← hA8n] at bb10); clear hA8n
      obtain ⟨A7n, hA7n⟩ : ∃ n, n = w91.heap.size + 1 + 1 + 1 + 1 + 1 + 1 + 1 + 1 := ⟨_, rfl⟩
      rw [← hA7n] at bb8 ⊢; (try rw [← hA7n] at bb10); clear hA7n
      obtain ⟨A6n, hA6n⟩ : ∃ n, n = w91.heap.size + 1 + 1 + 1 + 1 + 1 + 1 + 1 := ⟨_, rfl⟩
      rw [← hA6n] at bb7 ⊢; (try rw [← hA6n] at bb10); clear hA6n
      obtain ⟨A5n, hA5n⟩ : ∃ n, n = w91.heap.size + 1 + 1 + 1 + 1 + 1 + 1 := ⟨_, rfl⟩
      rw [← hA5n] at bb6 ⊢; (try rw [← hA5n] at bb10); clear hA5n
      obtain ⟨A4n, hA4n⟩ : ∃ n, n = w91.heap.size + 1 + 1 + 1 + 1 + 1 := ⟨_, rfl⟩
      rw [← hA4n] at bb5 ⊢; (try rw [← hA4n] at bb10); clear hA4n
      obtain ⟨A3n, hA3n⟩ : ∃ n, n = w91.heap.size + 1 + 1 + 1 + 1 := ⟨_, rfl⟩
      rw [← hA3n] at bb4 ⊢; (try rw [← hA3n] at bb10); clear hA3n
      obtain ⟨A2n, hA2n⟩ : ∃ n, n = w91.heap.size + 1 + 1 + 1 := ⟨_, rfl⟩
      rw [← hA2n] at bb3 ⊢; (try rw [← hA2n] at bb10); clear hA2n
      obtain ⟨A1n, hA1n⟩ : ∃ n, n = w91.heap.size + 1 + 1 := ⟨_, rfl⟩
      rw [← hA1n] at bb2 ⊢; (try rw [← hA1n] at bb10); clear hA1n
      obtain ⟨A0n, hA0n⟩ : ∃ n, n = w91.heap.size + 1 := ⟨_, rfl⟩
      rw [← hA0n] at bb1 ⊢; (try rw [← hA0n] at bb10); clear hA0n
      obtain ⟨LNn, hLNn⟩ : ∃ n, n = w91.heap.size := ⟨_, rfl⟩
      rw [← hLNn] at bb0 ⊢; (try rw [← hLNn] at bb10); clear hLNn
      have RT := Lib.hid (RT.out.ext hx); have BB := Lib.hid (BB.out.ext hx); have N1 := Lib.hid (N1.out.ext hx); have BS := Lib.hid (BS.out.ext hx); have RL := Lib.hid (RL.out.ext hx); have X := Lib.hid (X.out.trans hx)
      clear hx
      have LN := Lib.hid bb0; clear bb0
      have A0 := Lib.hid bb1; clear bb1
      have A1 := Lib.hid bb2; clear bb2
      have A2 := Lib.hid bb3; clear bb3
      have A3 := Lib.hid bb4; clear bb4
      have A4 := Lib.hid bb5; clear bb5
      have A5 := Lib.hid bb6; clear bb6
      have A6 := Lib.hid bb7; clear bb7
      have A7 := Lib.hid bb8; clear bb8
      have A8 := Lib.hid bb9; clear bb9
      have G := Lib.hid bb10; clear bb10
      have RA0 := Lib.hid (rdU_blk [1, 0] 2 A0.out rfl rfl (by decide))
      have RA1 := Lib.hid (rdU_blk [1, 0] 2 A1.out rfl rfl (by decide))
      have RA2 := Lib.hid (rdU_blk [2] 1 A2.out rfl rfl (by decide))
      have RA3 := Lib.hid (rdU_blk [2] 1 A3.out rfl rfl (by decide))
      have RA4 := Lib.hid (rdU_blk [1] 1 A4.out rfl rfl (by decide))
      have RA5 := Lib.hid (rdU_blk [2] 1 A5.out rfl rfl (by decide))
      have RA6 := Lib.hid (rdU_blk [4] 1 A6.out rfl rfl (by decide))
      have RA7 := Lib.hid (rdU_blk [2] 1 A7.out rfl rfl (by decide))
      have RA8 := Lib.hid (rdU_blk [0] 1 A8.out rfl rfl (by decide))
      have RN1 := Lib.hid (rdU_blk [1] 1 N1.out rfl rfl (by decide))
      have hrow : ∀ k, k < 11 → ∃ (r : RR) (a1 : Option Addr) (n1 c1 : Nat) (a2 : Option Addr) (n2 c2 : Nat) (e : Int), w102.cell? ⟨Gn, k * 4, none⟩ = some (.bool r.neg) ∧ w102.cell? ⟨Gn, k * 4 + 1, none⟩ = some (.slice a1 n1 c1) ∧ w102.cell? ⟨Gn, k * 4 + 2, none⟩ = some (.slice a2 n2 c2) ∧ w102.cell? ⟨Gn, k * 4 + 3, none⟩ = some (.int .i64 e) ∧ RdR w102 (.agg #[.bool r.neg, .slice a1 n1 c1, .slice a2 n2 c2]) r ∧ LimR r ∧ chkR r = e := by
        intro k hk
        match k, hk with
        | 0, _ => exact ⟨⟨false, lo, []⟩, _, _, _, _, _, _, 4, G.out.cell 0, G.out.cell 1, G.out.cell 2, G.out.cell 3, rdR_of RL.out (rd_nilU _), (lim2 false T2.out limN), by rw [T6.out]; exact y_c0⟩
        | 1, _ => exact ⟨⟨false, [1, 0], lo⟩, _, _, _, _, _, _, 4, G.out.cell 4, G.out.cell 5, G.out.cell 6, G.out.cell 7, rdR_of RA0.out RL.out, (lim2 false (lims _ (by decide)) T2.out), by rw [T6.out]; exact y_c1⟩
        | 2, _ => exact ⟨⟨false, [1, 0], []⟩, _, _, _, _, _, _, 2, G.out.cell 8, G.out.cell 9, G.out.cell 10, G.out.cell 11, rdR_of RA1.out (rd_nilU _), (lim2 false (lims _ (by decide)) limN), y_c2⟩
        | 3, _ => exact ⟨⟨true, [], []⟩, _, _, _, _, _, _, 2, G.out.cell 12, G.out.cell 13, G.out.cell 14, G.out.cell 15, rdR_of (rd_nilU _) (rd_nilU _), (lim2 true limN limN), y_c3⟩
        | 4, _ => exact ⟨⟨false, [], [2]⟩, _, _, _, _, _, _, 2, G.out.cell 16, G.out.cell 17, G.out.cell 18, G.out.cell 19, rdR_of (rd_nilU _) RA2.out, (lim2 false limN (lims _ (by decide))), y_c4⟩
        | 5, _ => exact ⟨⟨false, [2], [1]⟩, _, _, _, _, _, _, 2, G.out.cell 20, G.out.cell 21, G.out.cell 22, G.out.cell 23, rdR_of RA3.out RA4.out, (lim2 false (lims _ (by decide)) (lims _ (by decide))), y_c5⟩
        | 6, _ => exact ⟨⟨false, [2], [4]⟩, _, _, _, _, _, _, 2, G.out.cell 24, G.out.cell 25, G.out.cell 26, G.out.cell 27, rdR_of RA5.out RA6.out, (lim2 false (lims _ (by decide)) (lims _ (by decide))), y_c6⟩
        | 7, _ => exact ⟨⟨false, [2], [0]⟩, _, _, _, _, _, _, 2, G.out.cell 28, G.out.cell 29, G.out.cell 30, G.out.cell 31, rdR_of RA7.out RA8.out, (lim2 false (lims _ (by decide)) (lims _ (by decide))), y_c7⟩
        | 8, _ => exact ⟨⟨false, [], []⟩, _, _, _, _, _, _, 0, G.out.cell 32, G.out.cell 33, G.out.cell 34, G.out.cell 35, rdR_of (rd_nilU _) (rd_nilU _), (lim2 false limN limN), y_c8⟩
        | 9, _ => exact ⟨⟨false, tp, []⟩, _, _, _, _, _, _, 0, G.out.cell 36, G.out.cell 37, G.out.cell 38, G.out.cell 39, rdR_of RT.out (rd_nilU _), (lim2 false T1.out limN), by rw [T5.out]; exact y_c9⟩
        | 10, _ => exact ⟨⟨false, [1], tp⟩, _, _, _, _, _, _, 0, G.out.cell 40, G.out.cell 41, G.out.cell 42, G.out.cell 43, rdR_of RN1.out RT.out, (lim2 false LO.out T1.out), by rw [T5.out]; exact y_ca⟩
      have ROW := Lib.hid hrow; clear hrow
      have lG := G.out.lt
      go_loopw [99] (fun i wr => ∃ k : Nat, k ≤ 11 ∧ i = .int .i64 k ∧ Ext w102 wr) (fun i _ => 11 - (intOf i).toNat)
      case atStart => exact ⟨0, by omega, rfl, Ext.refl _⟩
      case round =>
        obtain ⟨k, hk, rfl, hext⟩ := hrel
        have XL := Lib.hid hext
        clear hext
        by_cases hlt : k < 11
        · obtain ⟨r, a1, n1, c1, a2, n2, c2, e, x0, x1, x2, x3, rr, lr, hck⟩ := ROW.out k hlt
          have c0 := (XL.out.cell (p := ⟨Gn, k * 4, none⟩) lG).trans x0
          have cc1 := (XL.out.cell (p := ⟨Gn, k * 4 + 1, none⟩) lG).trans x1
          have cc2 := (XL.out.cell (p := ⟨Gn, k * 4 + 2, none⟩) lG).trans x2
          have cc3 := (XL.out.cell (p := ⟨Gn, k * 4 + 3, none⟩) lG).trans x3
          have lG2 : Gn < wr.heap.size := Nat.lt_of_lt_of_le lG XL.out.size
          have RR := Lib.hid (rr.ext XL.out); have LR := Lib.hid lr
          have X := XL
          have te := textR_err r
          rw [hck] at te
          have q1 : (0 : Int) ≤ (k : Int) := by omega
          have q2 : (k : Int) < 11 := by omega
          have ctx := fun W va h => textR_any va r W h LR.out
          rw [te] at ctx
          have cck := fun W va h => checkR_any va r W h LR.out
          rw [hck] at cck
          generalize (textR r).1 = st at ctx
          have CT := Lib.hid ctx; have CK := Lib.hid cck
          clear x0 x1 x2 x3 rr lr hck te ctx cck
          go_wp2_with fail
          clear c0 cc1 cc2 cc3 lG2
          have bb0 := (Blk.new wr #[.bool r.neg, .slice a1 n1 c1, .slice a2 n2 c2, .int .i64 e] 92)
          have hx : Ext wr (wr.alloc (.cells #[.bool r.neg, .slice a1 n1 c1, .slice a2 n2 c2, .int .i64 e] 92)) := ((Ext.refl wr).alloc _)
          obtain ⟨w103, hw103⟩ : ∃ W, W = (wr.alloc (.cells #[.bool r.neg, .slice a1 n1 c1, .slice a2 n2 c2, .int .i64 e] 92)) := ⟨_, rfl⟩
          rw [← hw103] at hx bb0 ⊢; clear hw103
          obtain ⟨XBn, hXBn⟩ : ∃ n, n = wr.heap.size := ⟨_, rfl⟩
          rw [← hXBn] at bb0 ⊢; clear hXBn
          have RR := Lib.hid (RR.out.ext hx); have X := Lib.hid (X.out.trans hx)
          clear hx
          have XB := Lib.hid bb0; clear bb0
          have qXB := XB.out.cell; have fXB := XB.out.free; have lXB := XB.out.lt
          go_wp2_with fail
          refine (CT.out _ _ RR.out).mono ?_
          rintro e w4 ⟨rfl, hx⟩
          clear qXB fXB lXB
          have RR := Lib.hid (RR.out.ext hx); have XB := Lib.hid (XB.out.ext hx); have X := Lib.hid (X.out.trans hx)
          clear hx
          have qXB := XB.out.cell; have fXB := XB.out.free; have lXB := XB.out.lt
          go_wp2_with fail
          (refine wp_region_quietE (by kernel_rfl) (by kernel_rfl) ?_; (repeat (go_big_quiet_step ((go_at_call 30; exact quietE (CK.out _ _ (RR.out.ext (Later.ext _))))))); refine wpQuiet_nil ?_; rintro w1 ⟨⟨_, hx1⟩, rfl⟩; (try dsimp only))
          clear qXB fXB lXB
          have X := Lib.hid (X.out.trans hx1)
          go_wp2_with fail
          go_roundw
          case rel => exact ⟨k + 1, by omega, by go_num, X.out⟩
          case measure => simp [intOf]; omega
        · obtain rfl : k = 11 := by omega
          have hx := XL.out; clear hlt hk
          have RT := Lib.hid (RT.out.ext hx); have BB := Lib.hid (BB.out.ext hx); have BS := Lib.hid (BS.out.ext hx); have RL := Lib.hid (RL.out.ext hx); have LN := Lib.hid (LN.out.ext hx); have RN1 := Lib.hid (RN1.out.ext hx); have X := Lib.hid (X.out.trans hx)
          clear hx
          have dLN := (((((LN.out).alloc (.cells #[.int .u32 1] 91)).alloc (.cells #[.bool true, .slice none 0 0, .slice none 0 0] 70)).alloc (.cells #[.bool false, .slice (some ⟨wr.heap.size, 0, none⟩) 1 1, .slice none 0 0] 70)).alloc (.cells #[.bool false, .slice none 0 0, .slice none 0 0] 70))
          have qLN := dLN.cell; have fLN := dLN.free; have lLN := dLN.lt; clear dLN
          go_wp2_with fail
          clear qLN fLN lLN
          have bb0 := ((((Blk.new wr #[.int .u32 1] 91).alloc (.cells #[.bool true, .slice none 0 0, .slice none 0 0] 70)).alloc (.cells #[.bool false, .slice (some ⟨wr.heap.size, 0, none⟩) 1 1, .slice none 0 0] 70)).alloc (.cells #[.bool false, .slice none 0 0, .slice none 0 0] 70))
          have bb1 := (((Blk.new (wr.alloc (.cells #[.int .u32 1] 91)) #[.bool true, .slice none 0 0, .slice none 0 0] 70).alloc (.cells #[.bool false, .slice (some ⟨wr.heap.size, 0, none⟩) 1 1, .slice none 0 0] 70)).alloc (.cells #[.bool false, .slice none 0 0, .slice none 0 0] 70))
          rw [World.size_alloc] at bb1
          have bb2 := ((Blk.new ((wr.alloc (.cells #[.int .u32 1] 91)).alloc (.cells #[.bool true, .slice none 0 0, .slice none 0 0] 70)) #[.bool false, .slice (some ⟨wr.heap.size, 0, none⟩) 1 1, .slice none 0 0] 70).alloc (.cells #[.bool false, .slice none 0 0, .slice none 0 0] 70))
          rw [World.size_alloc, World.size_alloc] at bb2
          have bb3 := (Blk.new (((wr.alloc (.cells #[.int .u32 1] 91)).alloc (.cells #[.bool true, .slice none 0 0, .slice none 0 0] 70)).alloc (.cells #[.bool false, .slice (some ⟨wr.heap.size, 0, none⟩) 1 1, .slice none 0 0] 70)) #[.bool false, .slice none 0 0, .slice none 0 0] 70)
          rw [World.size_alloc, World.size_alloc, World.size_alloc] at bb3
          have hx : Ext wr ((((wr.alloc (.cells #[.int .u32 1] 91)).alloc (.cells #[.bool true, .slice none 0 0, .slice none 0 0] 70)).alloc (.cells #[.bool false, .slice (some ⟨wr.heap.size, 0, none⟩) 1 1, .slice none 0 0] 70)).alloc (.cells #[.bool false, .slice none 0 0, .slice none 0 0] 70)) := (((((Ext.refl wr).alloc _).alloc _).alloc _).alloc _)
          obtain ⟨w103, hw103⟩ : ∃ W, W = ((((wr.alloc (.cells #[.int .u32 1] 91)).alloc (.cells #[.bool true, .slice none 0 0, .slice none 0 0] 70)).alloc (.cells #[.bool false, .slice (some ⟨wr.heap.size, 0, none⟩) 1 1, .slice none 0 0] 70)).alloc (.cells #[.bool false, .slice none 0 0, .slice none 0 0] 70)) := ⟨_, rfl⟩
          rw [← hw103] at hx bb0 bb1 bb2 bb3 ⊢; clear hw103
          obtain ⟨ZRn, hZRn⟩ : ∃ n, n = wr.heap.size + 1 + 1 + 1 := ⟨_, rfl⟩
          rw [← hZRn] at bb3 ⊢; clear hZRn
          obtain ⟨ONn, hONn⟩ : ∃ n, n = wr.heap.size + 1 + 1 := ⟨_, rfl⟩
          rw [← hONn] at bb2 ⊢; clear hONn
          obtain ⟨BDn, hBDn⟩ : ∃ n, n = wr.heap.size + 1 := ⟨_, rfl⟩
          rw [← hBDn] at bb1 ⊢; clear hBDn
          obtain ⟨N9n, hN9n⟩ : ∃ n, n = wr.heap.size := ⟨_, rfl⟩
          rw [← hN9n] at bb0 ⊢; (try rw [← hN9n] at bb2); clear hN9n
          have RT := Lib.hid (RT.out.ext hx); have BB := Lib.hid (BB.out.ext hx); have BS := Lib.hid (BS.out.ext hx); have RL := Lib.hid (RL.out.ext hx); have LN := Lib.hid (LN.out.ext hx); have RN1 := Lib.hid (RN1.out.ext hx); have X := Lib.hid (X.out.trans hx)
          clear hx
          have N9 := Lib.hid bb0; clear bb0
          have BD := Lib.hid bb1; clear bb1
          have ON := Lib.hid bb2; clear bb2
          have ZR := Lib.hid bb3; clear bb3
          skip
          have RN9 := Lib.hid (rdU_blk [1] 1 N9.out rfl rfl (by decide))
          refine (Ca.out _ _ _ (rdR_of (rd_nilU _) (rd_nilU _)) (rdR_of RL.out (rd_nilU _))).mono ?_
          rintro e w4 ⟨⟨vs, rfl, nn⟩, hx⟩
          have RT := Lib.hid (RT.out.ext hx); have BB := Lib.hid (BB.out.ext hx); have BS := Lib.hid (BS.out.ext hx); have RL := Lib.hid (RL.out.ext hx); have LN := Lib.hid (LN.out.ext hx); have RN1 := Lib.hid (RN1.out.ext hx); have N9 := Lib.hid (N9.out.ext hx); have BD := Lib.hid (BD.out.ext hx); have ON := Lib.hid (ON.out.ext hx); have ZR := Lib.hid (ZR.out.ext hx); have RN9 := Lib.hid (RN9.out.ext hx); have X := Lib.hid (X.out.trans hx)
          obtain ⟨s1, s2, s3, s4, rfl⟩ := nn.shape
          clear nn hx
          have qLN := LN.out.cell; have fLN := LN.out.free; have lLN := LN.out.lt; have qBD := BD.out.cell; have fBD := BD.out.free; have lBD := BD.out.lt
          go_wp2_with fail
          refine (Cb.out _ _ _ (rdR_of (RL.out.ext (show Ext w4 _ from by (repeat (first | (with_reducible exact Ext.refl _) | (with_reducible assumption) | (with_reducible refine Ext.alloc ?_ _) | ((with_reducible refine Ext.setp ?_ ?_); focus (dsimp only; omega)) | (with_reducible refine Ext.drew ?_) | (with_reducible refine Ext.drewN ?_ _) | (with_reducible refine Ext.trans ?_ (by assumption)))))) (rd_nilU _)) (rdR_of (rd_nilU _) (rd_nilU _))).mono ?_
          rintro e w5 ⟨⟨vs, rfl, nn⟩, hx⟩
          have hx := Ext.trans (show Ext w4 _ from by (repeat (first | (with_reducible exact Ext.refl _) | (with_reducible assumption) | (with_reducible refine Ext.alloc ?_ _) | ((with_reducible refine Ext.setp ?_ ?_); focus (dsimp only; omega)) | (with_reducible refine Ext.drew ?_) | (with_reducible refine Ext.drewN ?_ _) | (with_reducible refine Ext.trans ?_ (by assumption))))) hx
          clear qLN fLN lLN qBD fBD lBD
          have RT := Lib.hid (RT.out.ext hx); have BB := Lib.hid (BB.out.ext hx); have BS := Lib.hid (BS.out.ext hx); have RL := Lib.hid (RL.out.ext hx); have LN := Lib.hid (LN.out.ext hx); have RN1 := Lib.hid (RN1.out.ext hx); have N9 := Lib.hid (N9.out.ext hx); have BD := Lib.hid (BD.out.ext hx); have ON := Lib.hid (ON.out.ext hx); have ZR := Lib.hid (ZR.out.ext hx); have RN9 := Lib.hid (RN9.out.ext hx); have X := Lib.hid (X.out.trans hx)
          obtain ⟨s1, s2, s3, s4, rfl⟩ := nn.shape
          clear nn hx
          have qBB := BB.out.cell; have fBB := BB.out.free; have lBB := BB.out.lt; have qON := ON.out.cell; have fON := ON.out.free; have lON := ON.out.lt
          go_wp2_with fail
          refine (Cc.out _ _ _ (rdR_of (RT.out.ext (show Ext w5 _ from by (repeat (first | (with_reducible exact Ext.refl _) | (with_reducible assumption) | (with_reducible refine Ext.alloc ?_ _) | ((with_reducible refine Ext.setp ?_ ?_); focus (dsimp only; omega)) | (with_reducible refine Ext.drew ?_) | (with_reducible refine Ext.drewN ?_ _) | (with_reducible refine Ext.trans ?_ (by assumption)))))) (rd_nilU _)) (rdR_of (RN9.out.ext (show Ext w5 _ from by (repeat (first | (with_reducible exact Ext.refl _) | (with_reducible assumption) | (with_reducible refine Ext.alloc ?_ _) | ((with_reducible refine Ext.setp ?_ ?_); focus (dsimp only; omega)) | (with_reducible refine Ext.drew ?_) | (with_reducible refine Ext.drewN ?_ _) | (with_reducible refine Ext.trans ?_ (by assumption)))))) (rd_nilU _))).mono ?_
          rintro e w6 ⟨⟨vs, rfl, nn⟩, hx⟩
          have hx := Ext.trans (show Ext w5 _ from by (repeat (first | (with_reducible exact Ext.refl _) | (with_reducible assumption) | (with_reducible refine Ext.alloc ?_ _) | ((with_reducible refine Ext.setp ?_ ?_); focus (dsimp only; omega)) | (with_reducible refine Ext.drew ?_) | (with_reducible refine Ext.drewN ?_ _) | (with_reducible refine Ext.trans ?_ (by assumption))))) hx
          clear qBB fBB lBB qON fON lON
          have RT := Lib.hid (RT.out.ext hx); have BB := Lib.hid (BB.out.ext hx); have BS := Lib.hid (BS.out.ext hx); have RL := Lib.hid (RL.out.ext hx); have LN := Lib.hid (LN.out.ext hx); have RN1 := Lib.hid (RN1.out.ext hx); have N9 := Lib.hid (N9.out.ext hx); have BD := Lib.hid (BD.out.ext hx); have ON := Lib.hid (ON.out.ext hx); have ZR := Lib.hid (ZR.out.ext hx); have RN9 := Lib.hid (RN9.out.ext hx); have X := Lib.hid (X.out.trans hx)
          obtain ⟨s1, s2, s3, s4, rfl⟩ := nn.shape
          clear nn hx
          have qBB := BB.out.cell; have fBB := BB.out.free; have lBB := BB.out.lt
          go_wp2_with fail
          refine (Cd.out _ _ _ (rdR_of (RT.out.ext (show Ext w6 _ from by (repeat (first | (with_reducible exact Ext.refl _) | (with_reducible assumption) | (with_reducible refine Ext.alloc ?_ _) | ((with_reducible refine Ext.setp ?_ ?_); focus (dsimp only; omega)) | (with_reducible refine Ext.drew ?_) | (with_reducible refine Ext.drewN ?_ _) | (with_reducible refine Ext.trans ?_ (by assumption)))))) (rd_nilU _)) (rdR_of (RT.out.ext (show Ext w6 _ from by (repeat (first | (with_reducible exact Ext.refl _) | (with_reducible assumption) | (with_reducible refine Ext.alloc ?_ _) | ((with_reducible refine Ext.setp ?_ ?_); focus (dsimp only; omega)) | (with_reducible refine Ext.drew ?_) | (with_reducible refine Ext.drewN ?_ _) | (with_reducible refine Ext.trans ?_ (by assumption)))))) (rd_nilU _))).mono ?_
          rintro e w7 ⟨⟨vs, rfl, nn⟩, hx⟩
          have hx := Ext.trans (show Ext w6 _ from by (repeat (first | (with_reducible exact Ext.refl _) | (with_reducible assumption) | (with_reducible refine Ext.alloc ?_ _) | ((with_reducible refine Ext.setp ?_ ?_); focus (dsimp only; omega)) | (with_reducible refine Ext.drew ?_) | (with_reducible refine Ext.drewN ?_ _) | (with_reducible refine Ext.trans ?_ (by assumption))))) hx
          clear qBB fBB lBB
          have RT := Lib.hid (RT.out.ext hx); have BB := Lib.hid (BB.out.ext hx); have BS := Lib.hid (BS.out.ext hx); have RL := Lib.hid (RL.out.ext hx); have LN := Lib.hid (LN.out.ext hx); have RN1 := Lib.hid (RN1.out.ext hx); have N9 := Lib.hid (N9.out.ext hx); have BD := Lib.hid (BD.out.ext hx); have ON := Lib.hid (ON.out.ext hx); have ZR := Lib.hid (ZR.out.ext hx); have RN9 := Lib.hid (RN9.out.ext hx); have X := Lib.hid (X.out.trans hx)
          obtain ⟨s1, s2, s3, s4, rfl⟩ := nn.shape
          clear nn hx
          have qBB := BB.out.cell; have fBB := BB.out.free; have lBB := BB.out.lt; have qBS := BS.out.cell; have fBS := BS.out.free; have lBS := BS.out.lt
          go_wp2_with fail
          refine (Ce.out _ _ _ (rdR_of (RT.out.ext (show Ext w7 _ from by (repeat (first | (with_reducible exact Ext.refl _) | (with_reducible assumption) | (with_reducible refine Ext.alloc ?_ _) | ((with_reducible refine Ext.setp ?_ ?_); focus (dsimp only; omega)) | (with_reducible refine Ext.drew ?_) | (with_reducible refine Ext.drewN ?_ _) | (with_reducible refine Ext.trans ?_ (by assumption)))))) (rd_nilU _)) (rdR_of (RN1.out.ext (show Ext w7 _ from by (repeat (first | (with_reducible exact Ext.refl _) | (with_reducible assumption) | (with_reducible refine Ext.alloc ?_ _) | ((with_reducible refine Ext.setp ?_ ?_); focus (dsimp only; omega)) | (with_reducible refine Ext.drew ?_) | (with_reducible refine Ext.drewN ?_ _) | (with_reducible refine Ext.trans ?_ (by assumption)))))) (RT.out.ext (show Ext w7 _ from by (repeat (first | (with_reducible exact Ext.refl _) | (with_reducible assumption) | (with_reducible refine Ext.alloc ?_ _) | ((with_reducible refine Ext.setp ?_ ?_); focus (dsimp only; omega)) | (with_reducible refine Ext.drew ?_) | (with_reducible refine Ext.drewN ?_ _) | (with_reducible refine Ext.trans ?_ (by assumption)))))))).mono ?_
          rintro e w8 ⟨⟨vs, rfl, nn⟩, hx⟩
          have hx := Ext.trans (show Ext w7 _ from by (repeat (first | (with_reducible exact Ext.refl _) | (with_reducible assumption) | (with_reducible refine Ext.alloc ?_ _) | ((with_reducible refine Ext.setp ?_ ?_); focus (dsimp only; omega)) | (with_reducible refine Ext.drew ?_) | (with_reducible refine Ext.drewN ?_ _) | (with_reducible refine Ext.trans ?_ (by assumption))))) hx
          clear qBB fBB lBB qBS fBS lBS
          have RT := Lib.hid (RT.out.ext hx); have BB := Lib.hid (BB.out.ext hx); have BS := Lib.hid (BS.out.ext hx); have RL := Lib.hid (RL.out.ext hx); have LN := Lib.hid (LN.out.ext hx); have RN1 := Lib.hid (RN1.out.ext hx); have N9 := Lib.hid (N9.out.ext hx); have BD := Lib.hid (BD.out.ext hx); have ON := Lib.hid (ON.out.ext hx); have ZR := Lib.hid (ZR.out.ext hx); have RN9 := Lib.hid (RN9.out.ext hx); have X := Lib.hid (X.out.trans hx)
          obtain ⟨e1, e2, e3, e4, rfl⟩ := nn.shape
          have NE := Lib.hid nn.rd
          clear nn hx
          have qBD := BD.out.cell; have fBD := BD.out.free; have lBD := BD.out.lt; have qZR := ZR.out.cell; have fZR := ZR.out.free; have lZR := ZR.out.lt
          go_wp2_with fail
          clear qBD fBD lBD qZR fZR lZR
          have bb0 := (Blk.new w8 #[.bool false, .slice e1 1 e2, .slice e3 0 e4] 70)
          have hx : Ext w8 (w8.alloc (.cells #[.bool false, .slice e1 1 e2, .slice e3 0 e4] 70)) := ((Ext.refl w8).alloc _)
          obtain ⟨w109, hw109⟩ : ∃ W, W = (w8.alloc (.cells #[.bool false, .slice e1 1 e2, .slice e3 0 e4] 70)) := ⟨_, rfl⟩
          rw [← hw109] at hx bb0 ⊢; clear hw109
          obtain ⟨EBn, hEBn⟩ : ∃ n, n = w8.heap.size := ⟨_, rfl⟩
          rw [← hEBn] at bb0 ⊢; clear hEBn
          have RT := Lib.hid (RT.out.ext hx); have BB := Lib.hid (BB.out.ext hx); have BS := Lib.hid (BS.out.ext hx); have RL := Lib.hid (RL.out.ext hx); have LN := Lib.hid (LN.out.ext hx); have RN1 := Lib.hid (RN1.out.ext hx); have N9 := Lib.hid (N9.out.ext hx); have BD := Lib.hid (BD.out.ext hx); have ON := Lib.hid (ON.out.ext hx); have ZR := Lib.hid (ZR.out.ext hx); have RN9 := Lib.hid (RN9.out.ext hx); have NE := Lib.hid (NE.out.ext hx); have X := Lib.hid (X.out.trans hx)
          clear hx
          have EB := Lib.hid bb0; clear bb0
          refine (Cg.out _ _ _ (rdR_of (rd_nilU _) (rd_nilU _)) (rdR_of (rd_nilU _) (rd_nilU _))).mono ?_
          rintro e w10 ⟨⟨vs, rfl, nn⟩, hx⟩
          have RT := Lib.hid (RT.out.ext hx); have BB := Lib.hid (BB.out.ext hx); have BS := Lib.hid (BS.out.ext hx); have RL := Lib.hid (RL.out.ext hx); have LN := Lib.hid (LN.out.ext hx); have RN1 := Lib.hid (RN1.out.ext hx); have N9 := Lib.hid (N9.out.ext hx); have BD := Lib.hid (BD.out.ext hx); have ON := Lib.hid (ON.out.ext hx); have ZR := Lib.hid (ZR.out.ext hx); have RN9 := Lib.hid (RN9.out.ext hx); have NE := Lib.hid (NE.out.ext hx); have EB := Lib.hid (EB.out.ext hx); have X := Lib.hid (X.out.trans hx)
          obtain ⟨s1, s2, s3, s4, rfl⟩ := nn.shape
          clear nn hx
          have qON := ON.out.cell; have fON := ON.out.free; have lON := ON.out.lt; have qZR := ZR.out.cell; have fZR := ZR.out.free; have lZR := ZR.out.lt
          go_wp2_with fail
          refine (Ch.out _ _ _ (rdR_of (RN9.out.ext (show Ext w10 _ from by (repeat (first | (with_reducible exact Ext.refl _) | (with_reducible assumption) | (with_reducible refine Ext.alloc ?_ _) | ((with_reducible refine Ext.setp ?_ ?_); focus (dsimp only; omega)) | (with_reducible refine Ext.drew ?_) | (with_reducible refine Ext.drewN ?_ _) | (with_reducible refine Ext.trans ?_ (by assumption)))))) (rd_nilU _)) (rdR_of (rd_nilU _) (rd_nilU _))).mono ?_
          rintro e w11 ⟨⟨vs, rfl, nn⟩, hx⟩
          have hx := Ext.trans (show Ext w10 _ from by (repeat (first | (with_reducible exact Ext.refl _) | (with_reducible assumption) | (with_reducible refine Ext.alloc ?_ _) | ((with_reducible refine Ext.setp ?_ ?_); focus (dsimp only; omega)) | (with_reducible refine Ext.drew ?_) | (with_reducible refine Ext.drewN ?_ _) | (with_reducible refine Ext.trans ?_ (by assumption))))) hx
          clear qON fON lON qZR fZR lZR
          have RT := Lib.hid (RT.out.ext hx); have BB := Lib.hid (BB.out.ext hx); have BS := Lib.hid (BS.out.ext hx); have RL := Lib.hid (RL.out.ext hx); have LN := Lib.hid (LN.out.ext hx); have RN1 := Lib.hid (RN1.out.ext hx); have N9 := Lib.hid (N9.out.ext hx); have BD := Lib.hid (BD.out.ext hx); have ON := Lib.hid (ON.out.ext hx); have ZR := Lib.hid (ZR.out.ext hx); have RN9 := Lib.hid (RN9.out.ext hx); have NE := Lib.hid (NE.out.ext hx); have EB := Lib.hid (EB.out.ext hx); have X := Lib.hid (X.out.trans hx)
          obtain ⟨s1, s2, s3, s4, rfl⟩ := nn.shape
          clear nn hx
          go_wp2_with fail
          refine (Ci.out _).mono ?_
          rintro e w12 ⟨⟨vs, rfl, nn⟩, hx⟩
          have hx := Ext.trans (show Ext w11 _ from by (repeat (first | (with_reducible exact Ext.refl _) | (with_reducible assumption) | (with_reducible refine Ext.alloc ?_ _) | ((with_reducible refine Ext.setp ?_ ?_); focus (dsimp only; omega)) | (with_reducible refine Ext.drew ?_) | (with_reducible refine Ext.drewN ?_ _) | (with_reducible refine Ext.trans ?_ (by assumption))))) hx
          have RT := Lib.hid (RT.out.ext hx); have BB := Lib.hid (BB.out.ext hx); have BS := Lib.hid (BS.out.ext hx); have RL := Lib.hid (RL.out.ext hx); have LN := Lib.hid (LN.out.ext hx); have RN1 := Lib.hid (RN1.out.ext hx); have N9 := Lib.hid (N9.out.ext hx); have BD := Lib.hid (BD.out.ext hx); have ON := Lib.hid (ON.out.ext hx); have ZR := Lib.hid (ZR.out.ext hx); have RN9 := Lib.hid (RN9.out.ext hx); have NE := Lib.hid (NE.out.ext hx); have EB := Lib.hid (EB.out.ext hx); have X := Lib.hid (X.out.trans hx)
          obtain ⟨s1, s2, s3, s4, rfl⟩ := nn.shape
          clear nn hx
          have qBB := BB.out.cell; have fBB := BB.out.free; have lBB := BB.out.lt
          go_wp2_with fail
          refine (Cj.out _ _ (rdR_of (RT.out.ext (show Ext w12 _ from by (repeat (first | (with_reducible exact Ext.refl _) | (with_reducible assumption) | (with_reducible refine Ext.alloc ?_ _) | ((with_reducible refine Ext.setp ?_ ?_); focus (dsimp only; omega)) | (with_reducible refine Ext.drew ?_) | (with_reducible refine Ext.drewN ?_ _) | (with_reducible refine Ext.trans ?_ (by assumption)))))) (rd_nilU _))).mono ?_
          rintro e w13 ⟨rfl, hx⟩
          have hx := Ext.trans (show Ext w12 _ from by (repeat (first | (with_reducible exact Ext.refl _) | (with_reducible assumption) | (with_reducible refine Ext.alloc ?_ _) | ((with_reducible refine Ext.setp ?_ ?_); focus (dsimp only; omega)) | (with_reducible refine Ext.drew ?_) | (with_reducible refine Ext.drewN ?_ _) | (with_reducible refine Ext.trans ?_ (by assumption))))) hx
          clear qBB fBB lBB
          have RT := Lib.hid (RT.out.ext hx); have BB := Lib.hid (BB.out.ext hx); have BS := Lib.hid (BS.out.ext hx); have RL := Lib.hid (RL.out.ext hx); have LN := Lib.hid (LN.out.ext hx); have RN1 := Lib.hid (RN1.out.ext hx); have N9 := Lib.hid (N9.out.ext hx); have BD := Lib.hid (BD.out.ext hx); have ON := Lib.hid (ON.out.ext hx); have ZR := Lib.hid (ZR.out.ext hx); have RN9 := Lib.hid (RN9.out.ext hx); have NE := Lib.hid (NE.out.ext hx); have EB := Lib.hid (EB.out.ext hx); have X := Lib.hid (X.out.trans hx)
          clear hx
          go_wp2_with fail
          refine (Cf.out _).mono ?_
          rintro e w14 ⟨⟨vf, rfl, nf⟩, hx⟩
          have RT := Lib.hid (RT.out.ext hx); have BB := Lib.hid (BB.out.ext hx); have BS := Lib.hid (BS.out.ext hx); have RL := Lib.hid (RL.out.ext hx); have LN := Lib.hid (LN.out.ext hx); have RN1 := Lib.hid (RN1.out.ext hx); have N9 := Lib.hid (N9.out.ext hx); have BD := Lib.hid (BD.out.ext hx); have ON := Lib.hid (ON.out.ext hx); have ZR := Lib.hid (ZR.out.ext hx); have RN9 := Lib.hid (RN9.out.ext hx); have NE := Lib.hid (NE.out.ext hx); have EB := Lib.hid (EB.out.ext hx); have X := Lib.hid (X.out.trans hx)
          obtain ⟨f1, f2, f3, f4, rfl⟩ := nf.shape
          have NF := Lib.hid nf.rd
          clear nf hx
          go_wp2_with fail
          refine (Ck.out _ _ NF.out).mono ?_
          rintro e w15 ⟨rfl, hx⟩
          have RT := Lib.hid (RT.out.ext hx); have BB := Lib.hid (BB.out.ext hx); have BS := Lib.hid (BS.out.ext hx); have RL := Lib.hid (RL.out.ext hx); have LN := Lib.hid (LN.out.ext hx); have RN1 := Lib.hid (RN1.out.ext hx); have N9 := Lib.hid (N9.out.ext hx); have BD := Lib.hid (BD.out.ext hx); have ON := Lib.hid (ON.out.ext hx); have ZR := Lib.hid (ZR.out.ext hx); have RN9 := Lib.hid (RN9.out.ext hx); have NE := Lib.hid (NE.out.ext hx); have EB := Lib.hid (EB.out.ext hx); have X := Lib.hid (X.out.trans hx)
          clear hx
          go_wp2_with fail
          refine (Cl.out _ _ (rdR_of (rdU_blk [0, 2147483648] 2 (Blk.new w15 _ _) rfl rfl (by decide)) (rd_nilU _))).mono ?_
          rintro e w16 ⟨rfl, hx⟩
          have hx := Ext.trans (show Ext w15 _ from by (repeat (first | (with_reducible exact Ext.refl _) | (with_reducible assumption) | (with_reducible refine Ext.alloc ?_ _) | ((with_reducible refine Ext.setp ?_ ?_); focus (dsimp only; omega)) | (with_reducible refine Ext.drew ?_) | (with_reducible refine Ext.drewN ?_ _) | (with_reducible refine Ext.trans ?_ (by assumption))))) hx
          have RT := Lib.hid (RT.out.ext hx); have BB := Lib.hid (BB.out.ext hx); have BS := Lib.hid (BS.out.ext hx); have RL := Lib.hid (RL.out.ext hx); have LN := Lib.hid (LN.out.ext hx); have RN1 := Lib.hid (RN1.out.ext hx); have N9 := Lib.hid (N9.out.ext hx); have BD := Lib.hid (BD.out.ext hx); have ON := Lib.hid (ON.out.ext hx); have ZR := Lib.hid (ZR.out.ext hx); have RN9 := Lib.hid (RN9.out.ext hx); have NE := Lib.hid (NE.out.ext hx); have EB := Lib.hid (EB.out.ext hx); have X := Lib.hid (X.out.trans hx)
          clear hx
          go_wp2_with fail
          refine (Cm.out _ _ _ (RdRs.nil _ none) (RdRs.nil _ none)).mono ?_
          rintro e w17 ⟨⟨vs, rfl, nn⟩, hx⟩
          have RT := Lib.hid (RT.out.ext hx); have BB := Lib.hid (BB.out.ext hx); have BS := Lib.hid (BS.out.ext hx); have RL := Lib.hid (RL.out.ext hx); have LN := Lib.hid (LN.out.ext hx); have RN1 := Lib.hid (RN1.out.ext hx); have N9 := Lib.hid (N9.out.ext hx); have BD := Lib.hid (BD.out.ext hx); have ON := Lib.hid (ON.out.ext hx); have ZR := Lib.hid (ZR.out.ext hx); have RN9 := Lib.hid (RN9.out.ext hx); have NE := Lib.hid (NE.out.ext hx); have EB := Lib.hid (EB.out.ext hx); have X := Lib.hid (X.out.trans hx)
          obtain ⟨m1, m2, m3, m4, rfl⟩ := nn.shape
          have NM := Lib.hid nn.rd
          clear nn hx
          have qBD := BD.out.cell; have fBD := BD.out.free; have lBD := BD.out.lt
          go_wp2_with fail
          clear qBD fBD lBD
          have bb0 := ((Blk.new w17 #[.bool zR.neg, .slice m1 zR.num.length m2, .slice m3 zR.den.length m4] 70).alloc (.cells #[.bool true, .slice none 0 0, .slice none 0 0] 70))
          have bb1 := (Blk.new (w17.alloc (.cells #[.bool zR.neg, .slice m1 zR.num.length m2, .slice m3 zR.den.length m4] 70)) #[.bool true, .slice none 0 0, .slice none 0 0] 70)
          rw [World.size_alloc] at bb1
          have hx : Ext w17 ((w17.alloc (.cells #[.bool zR.neg, .slice m1 zR.num.length m2, .slice m3 zR.den.length m4] 70)).alloc (.cells #[.bool true, .slice none 0 0, .slice none 0 0] 70)) := (((Ext.refl w17).alloc _).alloc _)
          obtain ⟨w118, hw118⟩ : ∃ W, W = ((w17.alloc (.cells #[.bool zR.neg, .slice m1 zR.num.length m2, .slice m3 zR.den.length m4] 70)).alloc (.cells #[.bool true, .slice none 0 0, .slice none 0 0] 70)) := ⟨_, rfl⟩
          rw [← hw118] at hx bb0 bb1 ⊢; clear hw118
          obtain ⟨S1n, hS1n⟩ : ∃ n, n = w17.heap.size + 1 := ⟨_, rfl⟩
          rw [← hS1n] at bb1 ⊢; clear hS1n
          obtain ⟨MBn, hMBn⟩ : ∃ n, n = w17.heap.size := ⟨_, rfl⟩
          rw [← hMBn] at bb0 ⊢; clear hMBn
          have RT := Lib.hid (RT.out.ext hx); have BB := Lib.hid (BB.out.ext hx); have BS := Lib.hid (BS.out.ext hx); have RL := Lib.hid (RL.out.ext hx); have LN := Lib.hid (LN.out.ext hx); have RN1 := Lib.hid (RN1.out.ext hx); have N9 := Lib.hid (N9.out.ext hx); have BD := Lib.hid (BD.out.ext hx); have ON := Lib.hid (ON.out.ext hx); have ZR := Lib.hid (ZR.out.ext hx); have RN9 := Lib.hid (RN9.out.ext hx); have NE := Lib.hid (NE.out.ext hx); have EB := Lib.hid (EB.out.ext hx); have NM := Lib.hid (NM.out.ext hx); have X := Lib.hid (X.out.trans hx)
          clear hx
          have MB := Lib.hid bb0; clear bb0
          have S1 := Lib.hid bb1; clear bb1
          refine (Co.out _ _ _ (rdRs_one S1.out (rdR_of (rd_nilU _) (rd_nilU _))) (RdRs.nil _ none)).mono ?_
          rintro e w19 ⟨⟨vs, rfl, nn⟩, hx⟩
          have RT := Lib.hid (RT.out.ext hx); have BB := Lib.hid (BB.out.ext hx); have BS := Lib.hid (BS.out.ext hx); have RL := Lib.hid (RL.out.ext hx); have LN := Lib.hid (LN.out.ext hx); have RN1 := Lib.hid (RN1.out.ext hx); have N9 := Lib.hid (N9.out.ext hx); have BD := Lib.hid (BD.out.ext hx); have ON := Lib.hid (ON.out.ext hx); have ZR := Lib.hid (ZR.out.ext hx); have RN9 := Lib.hid (RN9.out.ext hx); have NE := Lib.hid (NE.out.ext hx); have EB := Lib.hid (EB.out.ext hx); have NM := Lib.hid (NM.out.ext hx); have MB := Lib.hid (MB.out.ext hx); have S1 := Lib.hid (S1.out.ext hx); have X := Lib.hid (X.out.trans hx)
          obtain ⟨s1, s2, s3, s4, rfl⟩ := nn.shape
          clear nn hx
          have qBD := BD.out.cell; have fBD := BD.out.free; have lBD := BD.out.lt; have qON := ON.out.cell; have fON := ON.out.free; have lON := ON.out.lt; have qLN := LN.out.cell; have fLN := LN.out.free; have lLN := LN.out.lt
          go_wp2_with fail
          clear qBD fBD lBD qON fON lON qLN fLN lLN
          have bb1 := ((Blk.new (w19.alloc (.cells #[.bool zR.neg, .slice s1 zR.num.length s2, .slice s3 zR.den.length s4] 70)) #[.bool false, .slice (some ⟨N9n, 0, none⟩) 1 1, .slice none 0 0, .bool true, .slice none 0 0, .slice none 0 0] 70).alloc (.cells #[.bool false, .slice (some ⟨N9n, 0, none⟩) 1 1, .slice none 0 0, .bool false, .slice (some ⟨g4, 0, none⟩) 129 cap4, .slice none 0 0] 70))
          rw [World.size_alloc] at bb1
          have bb2 := (Blk.new ((w19.alloc (.cells #[.bool zR.neg, .slice s1 zR.num.length s2, .slice s3 zR.den.length s4] 70)).alloc (.cells #[.bool false, .slice (some ⟨N9n, 0, none⟩) 1 1, .slice none 0 0, .bool true, .slice none 0 0, .slice none 0 0] 70)) #[.bool false, .slice (some ⟨N9n, 0, none⟩) 1 1, .slice none 0 0, .bool false, .slice (some ⟨g4, 0, none⟩) 129 cap4, .slice none 0 0] 70)
          rw [World.size_alloc, World.size_alloc] at bb2
          have hx : Ext w19 (((w19.alloc (.cells #[.bool zR.neg, .slice s1 zR.num.length s2, .slice s3 zR.den.length s4] 70)).alloc (.cells #[.bool false, .slice (some ⟨N9n, 0, none⟩) 1 1, .slice none 0 0, .bool true, .slice none 0 0, .slice none 0 0] 70)).alloc (.cells #[.bool false, .slice (some ⟨N9n, 0, none⟩) 1 1, .slice none 0 0, .bool false, .slice (some ⟨g4, 0, none⟩) 129 cap4, .slice none 0 0] 70)) := ((((Ext.refl w19).alloc _).alloc _).alloc _)
          obtain ⟨w120, hw120⟩ : ∃ W, W = (((w19.alloc (.cells #[.bool zR.neg, .slice s1 zR.num.length s2, .slice s3 zR.den.length s4] 70)).alloc (.cells #[.bool false, .slice (some ⟨N9n, 0, none⟩) 1 1, .slice none 0 0, .bool true, .slice none 0 0, .slice none 0 0] 70)).alloc (.cells #[.bool false, .slice (some ⟨N9n, 0, none⟩) 1 1, .slice none 0 0, .bool false, .slice (some ⟨g4, 0, none⟩) 129 cap4, .slice none 0 0] 70)) := ⟨_, rfl⟩
          rw [← hw120] at hx bb1 bb2 ⊢; clear hw120
          obtain ⟨S3n, hS3n⟩ : ∃ n, n = w19.heap.size + 1 + 1 := ⟨_, rfl⟩
          rw [← hS3n] at bb2 ⊢; clear hS3n
          obtain ⟨S2n, hS2n⟩ : ∃ n, n = w19.heap.size + 1 := ⟨_, rfl⟩
          rw [← hS2n] at bb1 ⊢; clear hS2n
          have RT := Lib.hid (RT.out.ext hx); have BB := Lib.hid (BB.out.ext hx); have BS := Lib.hid (BS.out.ext hx); have RL := Lib.hid (RL.out.ext hx); have LN := Lib.hid (LN.out.ext hx); have RN1 := Lib.hid (RN1.out.ext hx); have N9 := Lib.hid (N9.out.ext hx); have BD := Lib.hid (BD.out.ext hx); have ON := Lib.hid (ON.out.ext hx); have ZR := Lib.hid (ZR.out.ext hx); have RN9 := Lib.hid (RN9.out.ext hx); have NE := Lib.hid (NE.out.ext hx); have EB := Lib.hid (EB.out.ext hx); have NM := Lib.hid (NM.out.ext hx); have MB := Lib.hid (MB.out.ext hx); have S1 := Lib.hid (S1.out.ext hx); have X := Lib.hid (X.out.trans hx)
          clear hx
          have S2 := Lib.hid bb1; clear bb1
          have S3 := Lib.hid bb2; clear bb2
          refine (Cp.out _ _ _ (rdRs_two S2.out (rdR_of RN9.out (rd_nilU _)) (rdR_of (rd_nilU _) (rd_nilU _))) (rdRs_two (by rw [T4.out]; exact S3.out) (rdR_of RN9.out (rd_nilU _)) (by rw [T4.out]; exact (rdR_of RL.out (rd_nilU _))))).mono ?_
          rintro e w21 ⟨⟨vs, rfl, nn⟩, hx⟩
          have RT := Lib.hid (RT.out.ext hx); have BB := Lib.hid (BB.out.ext hx); have BS := Lib.hid (BS.out.ext hx); have RL := Lib.hid (RL.out.ext hx); have LN := Lib.hid (LN.out.ext hx); have RN1 := Lib.hid (RN1.out.ext hx); have N9 := Lib.hid (N9.out.ext hx); have BD := Lib.hid (BD.out.ext hx); have ON := Lib.hid (ON.out.ext hx); have ZR := Lib.hid (ZR.out.ext hx); have RN9 := Lib.hid (RN9.out.ext hx); have NE := Lib.hid (NE.out.ext hx); have EB := Lib.hid (EB.out.ext hx); have NM := Lib.hid (NM.out.ext hx); have MB := Lib.hid (MB.out.ext hx); have S1 := Lib.hid (S1.out.ext hx); have S2 := Lib.hid (S2.out.ext hx); have S3 := Lib.hid (S3.out.ext hx); have X := Lib.hid (X.out.trans hx)
          obtain ⟨s1, s2, s3, s4, rfl⟩ := nn.shape
          clear nn hx
          have qBB := BB.out.cell; have fBB := BB.out.free; have lBB := BB.out.lt; have qON := ON.out.cell; have fON := ON.out.free; have lON := ON.out.lt
          go_wp2_with fail
          clear qBB fBB lBB qON fON lON
          have bb1 := ((Blk.new (w21.alloc (.cells #[.bool zR.neg, .slice s1 zR.num.length s2, .slice s3 zR.den.length s4] 70)) #[.bool false, .slice (some ⟨tn, 0, none⟩) 128 128, .slice none 0 0, .bool false, .slice (some ⟨tn, 0, none⟩) 128 128, .slice none 0 0] 70).alloc (.cells #[.bool false, .slice (some ⟨N9n, 0, none⟩) 1 1, .slice none 0 0, .bool false, .slice (some ⟨N9n, 0, none⟩) 1 1, .slice none 0 0] 70))
          rw [World.size_alloc] at bb1
          have bb2 := (Blk.new ((w21.alloc (.cells #[.bool zR.neg, .slice s1 zR.num.length s2, .slice s3 zR.den.length s4] 70)).alloc (.cells #[.bool false, .slice (some ⟨tn, 0, none⟩) 128 128, .slice none 0 0, .bool false, .slice (some ⟨tn, 0, none⟩) 128 128, .slice none 0 0] 70)) #[.bool false, .slice (some ⟨N9n, 0, none⟩) 1 1, .slice none 0 0, .bool false, .slice (some ⟨N9n, 0, none⟩) 1 1, .slice none 0 0] 70)
          rw [World.size_alloc, World.size_alloc] at bb2
          have hx : Ext w21 (((w21.alloc (.cells #[.bool zR.neg, .slice s1 zR.num.length s2, .slice s3 zR.den.length s4] 70)).alloc (.cells #[.bool false, .slice (some ⟨tn, 0, none⟩) 128 128, .slice none 0 0, .bool false, .slice (some ⟨tn, 0, none⟩) 128 128, .slice none 0 0] 70)).alloc (.cells #[.bool false, .slice (some ⟨N9n, 0, none⟩) 1 1, .slice none 0 0, .bool false, .slice (some ⟨N9n, 0, none⟩) 1 1, .slice none 0 0] 70)) := ((((Ext.refl w21).alloc _).alloc _).alloc _)
          obtain ⟨w122, hw122⟩ : ∃ W, W = (((w21.alloc (.cells #[.bool zR.neg, .slice s1 zR.num.length s2, .slice s3 zR.den.length s4] 70)).alloc (.cells #[.bool false, .slice (some ⟨tn, 0, none⟩) 128 128, .slice none 0 0, .bool false, .slice (some ⟨tn, 0, none⟩) 128 128, .slice none 0 0] 70)).alloc (.cells #[.bool false, .slice (some ⟨N9n, 0, none⟩) 1 1, .slice none 0 0, .bool false, .slice (some ⟨N9n, 0, none⟩) 1 1, .slice none 0 0] 70)) := ⟨_, rfl⟩
          rw [← hw122] at hx bb1 bb2 ⊢; clear hw122
          obtain ⟨S5n, hS5n⟩ : ∃ n, n = w21.heap.size + 1 + 1 := ⟨_, rfl⟩
          rw [← hS5n] at bb2 ⊢; clear hS5n
          obtain ⟨S4n, hS4n⟩ : ∃ n, n = w21.heap.size + 1 := ⟨_, rfl⟩
          rw [← hS4n] at bb1 ⊢; clear hS4n
          have RT := Lib.hid (RT.out.ext hx); have BB := Lib.hid (BB.out.ext hx); have BS := Lib.hid (BS.out.ext hx); have RL := Lib.hid (RL.out.ext hx); have LN := Lib.hid (LN.out.ext hx); have RN1 := Lib.hid (RN1.out.ext hx); have N9 := Lib.hid (N9.out.ext hx); have BD := Lib.hid (BD.out.ext hx); have ON := Lib.hid (ON.out.ext hx); have ZR := Lib.hid (ZR.out.ext hx); have RN9 := Lib.hid (RN9.out.ext hx); have NE := Lib.hid (NE.out.ext hx); have EB := Lib.hid (EB.out.ext hx); have NM := Lib.hid (NM.out.ext hx); have MB := Lib.hid (MB.out.ext hx); have S1 := Lib.hid (S1.out.ext hx); have S2 := Lib.hid (S2.out.ext hx); have S3 := Lib.hid (S3.out.ext hx); have X := Lib.hid (X.out.trans hx)
          clear hx
          have S4 := Lib.hid bb1; clear bb1
          have S5 := Lib.hid bb2; clear bb2
          refine (Cq.out _ _ _ (rdRs_two (by rw [T3.out]; exact S4.out) (by rw [T3.out]; exact (rdR_of RT.out (rd_nilU _))) (by rw [T3.out]; exact (rdR_of RT.out (rd_nilU _)))) (rdRs_two S5.out (rdR_of RN9.out (rd_nilU _)) (rdR_of RN9.out (rd_nilU _)))).mono ?_
          rintro e w23 ⟨⟨vs, rfl, nn⟩, hx⟩
          have RT := Lib.hid (RT.out.ext hx); have BB := Lib.hid (BB.out.ext hx); have BS := Lib.hid (BS.out.ext hx); have RL := Lib.hid (RL.out.ext hx); have LN := Lib.hid (LN.out.ext hx); have RN1 := Lib.hid (RN1.out.ext hx); have N9 := Lib.hid (N9.out.ext hx); have BD := Lib.hid (BD.out.ext hx); have ON := Lib.hid (ON.out.ext hx); have ZR := Lib.hid (ZR.out.ext hx); have RN9 := Lib.hid (RN9.out.ext hx); have NE := Lib.hid (NE.out.ext hx); have EB := Lib.hid (EB.out.ext hx); have NM := Lib.hid (NM.out.ext hx); have MB := Lib.hid (MB.out.ext hx); have S1 := Lib.hid (S1.out.ext hx); have S2 := Lib.hid (S2.out.ext hx); have S3 := Lib.hid (S3.out.ext hx); have S4 := Lib.hid (S4.out.ext hx); have S5 := Lib.hid (S5.out.ext hx); have X := Lib.hid (X.out.trans hx)
          obtain ⟨s1, s2, s3, s4, rfl⟩ := nn.shape
          clear nn hx
          have qEB := EB.out.cell; have fEB := EB.out.free; have lEB := EB.out.lt; have qON := ON.out.cell; have fON := ON.out.free; have lON := ON.out.lt; have qMB := MB.out.cell; have fMB := MB.out.free; have lMB := MB.out.lt; have qZR := ZR.out.cell; have fZR := ZR.out.free; have lZR := ZR.out.lt
          repeat (first | go_values | go_skip | go_guarded | go_step | go_upon)
          try simp only [List.append_eq, List.cons_append, List.nil_append]
          go_wp2_with fail
          refine (equalTrue_any _ _ ⟨false, [1], []⟩ ⟨false, [1], []⟩ rfl _ (NE.out.ext (show Ext w23 _ from by (repeat (first | (with_reducible exact Ext.refl _) | (with_reducible assumption) | (with_reducible refine Ext.alloc ?_ _) | ((with_reducible refine Ext.setp ?_ ?_); focus (dsimp only; omega)) | (with_reducible refine Ext.drew ?_) | (with_reducible refine Ext.drewN ?_ _) | (with_reducible refine Ext.trans ?_ (by assumption)))))) (rdR_of (RN9.out.ext (show Ext w23 _ from by (repeat (first | (with_reducible exact Ext.refl _) | (with_reducible assumption) | (with_reducible refine Ext.alloc ?_ _) | ((with_reducible refine Ext.setp ?_ ?_); focus (dsimp only; omega)) | (with_reducible refine Ext.drew ?_) | (with_reducible refine Ext.drewN ?_ _) | (with_reducible refine Ext.trans ?_ (by assumption)))))) (rd_nilU _))).mono ?_
          rintro e w24 ⟨rfl, hx⟩
          have hx := Ext.trans (show Ext w23 _ from by (repeat (first | (with_reducible exact Ext.refl _) | (with_reducible assumption) | (with_reducible refine Ext.alloc ?_ _) | ((with_reducible refine Ext.setp ?_ ?_); focus (dsimp only; omega)) | (with_reducible refine Ext.drew ?_) | (with_reducible refine Ext.drewN ?_ _) | (with_reducible refine Ext.trans ?_ (by assumption))))) hx
          clear qEB fEB lEB qON fON lON qMB fMB lMB qZR fZR lZR
          have RT := Lib.hid (RT.out.ext hx); have BB := Lib.hid (BB.out.ext hx); have BS := Lib.hid (BS.out.ext hx); have RL := Lib.hid (RL.out.ext hx); have LN := Lib.hid (LN.out.ext hx); have RN1 := Lib.hid (RN1.out.ext hx); have N9 := Lib.hid (N9.out.ext hx); have BD := Lib.hid (BD.out.ext hx); have ON := Lib.hid (ON.out.ext hx); have ZR := Lib.hid (ZR.out.ext hx); have RN9 := Lib.hid (RN9.out.ext hx); have NE := Lib.hid (NE.out.ext hx); have EB := Lib.hid (EB.out.ext hx); have NM := Lib.hid (NM.out.ext hx); have MB := Lib.hid (MB.out.ext hx); have S1 := Lib.hid (S1.out.ext hx); have S2 := Lib.hid (S2.out.ext hx); have S3 := Lib.hid (S3.out.ext hx); have S4 := Lib.hid (S4.out.ext hx); have S5 := Lib.hid (S5.out.ext hx); have X := Lib.hid (X.out.trans hx)
          clear hx
          have qMB := MB.out.cell; have fMB := MB.out.free; have lMB := MB.out.lt; have qZR := ZR.out.cell; have fZR := ZR.out.free; have lZR := ZR.out.lt
          go_wp2_with fail
          refine (equalTrue_any _ _ zR zR rfl _ NM.out (rdR_of (rd_nilU _) (rd_nilU _))).mono ?_
          rintro e w25 ⟨rfl, hx⟩
          clear qMB fMB lMB qZR fZR lZR
          have RT := Lib.hid (RT.out.ext hx); have BB := Lib.hid (BB.out.ext hx); have BS := Lib.hid (BS.out.ext hx); have RL := Lib.hid (RL.out.ext hx); have LN := Lib.hid (LN.out.ext hx); have RN1 := Lib.hid (RN1.out.ext hx); have N9 := Lib.hid (N9.out.ext hx); have BD := Lib.hid (BD.out.ext hx); have ON := Lib.hid (ON.out.ext hx); have ZR := Lib.hid (ZR.out.ext hx); have RN9 := Lib.hid (RN9.out.ext hx); have NE := Lib.hid (NE.out.ext hx); have EB := Lib.hid (EB.out.ext hx); have NM := Lib.hid (NM.out.ext hx); have MB := Lib.hid (MB.out.ext hx); have S1 := Lib.hid (S1.out.ext hx); have S2 := Lib.hid (S2.out.ext hx); have S3 := Lib.hid (S3.out.ext hx); have S4 := Lib.hid (S4.out.ext hx); have S5 := Lib.hid (S5.out.ext hx); have X := Lib.hid (X.out.trans hx)
          clear hx
          go_wp2_with fail
          go_ret
          exact ⟨rfl, X.out⟩

end Go.Proofs.Ytcmemdmfnflfiaa
