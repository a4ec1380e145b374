/- Part of the proof of imatL_holds: what the row needs of Ri7. Conditions: as each theorem states. -/
import Derived.Test.YthkfkfbfblppeaaGreatSwGL
import Derived.Test.YthkfkfbfblppeaaGreatSwGM
namespace Go.Proofs.YthkfkfbfblppeaaGreat
set_option linter.unusedSimpArgs false
set_option linter.unusedVariables false
open Go.RowKit
set_option maxHeartbeats 1000000 in
theorem refCount7_any (v : Value) (g : List (List Int)) (w : World) (h : RdG w v g) (hs : Shrt g) :
    Calls Tryz.prog 65 #[v] w fun e w' => e = .returned (.int .i64 (gsize g)) ∧ Ext w w' := by
  have HG := Lib.hid h
  obtain ⟨a, cap, rfl, hgl⟩ := h.shape
  have HS := Lib.hid hs
  clear hs h
  go_enter Tryz.func65, Tryz.ntmps65
  go_wp2
  go_loopw [3, 4] (fun n i wr => ∃ k : Nat, k ≤ g.length ∧ n = .int .i64 (gsize (g.take k)) ∧ i = .int .i64 k ∧ Ext w wr) (fun _ i _ => g.length - (intOf i).toNat)
  case atStart => exact ⟨0, Nat.zero_le _, rfl, rfl, Ext.refl w⟩
  case round =>
    obtain ⟨k, hk, rfl, rfl, hx⟩ := hrel
    have X := Lib.hid hx
    by_cases hlt : k < g.length
    · obtain ⟨b, off, ai, ci, rfl, hrow⟩ := (HG.out.ext hx).at hlt
      obtain ⟨r1, r2, r3⟩ := hrow
      have hm : (gsize (g.take k) : Int) * ((g.getD k []).length : Int) = (gsize (g.take (k + 1)) : Nat) := by rw [gsize_take hlt]; exact (Int.natCast_mul _ _).symm
      have hb := shrt_lt HS.out (show k + 1 ≤ g.length by omega)
      generalize g.getD k [] = c at *
      generalize gsize (g.take k) = A at *
      generalize hB : gsize (g.take (k + 1)) = B at *
      have hw : IntKind.i64.wrap ((A : Int) * (c.length : Int)) = B := by rw [hm]; exact wrapL (by omega) (by omega)
      have q1 : (0 : Int) ≤ (k : Int) := by omega
      have q2 : (k : Int) < (g.length : Int) := by omega
      have HB := Lib.hid hB
      clear hm hb r3 hx hB
      go_wp2
      go_roundw
      case rel => exact ⟨k + 1, by omega, by rw [HB.out], by go_num, X.out⟩
      case measure => simp [intOf]; omega
    · obtain rfl : k = g.length := by omega
      have q1 : ¬ (g.length : Int) < (g.length : Int) := by omega
      clear hx
      rw [List.take_length]
      go_wp2
      go_ret
      exact ⟨rfl, X.out⟩
set_option maxHeartbeats 1000000 in
theorem refClamp7_any (v : Value) (c : List Int) (x : Int) (w : World) (h : RdI .i64 w v c) (h0 : 0 < c.length) (hlen : c.length ≤ 1000) :
    Calls Tryz.prog 69 #[v, .int .i64 x] w fun e w' => e = .returned (.int .i64 (clampS c x)) ∧ Ext w w' := by
  obtain ⟨a, cap, rfl, hc, hm, hr⟩ := h.get
  obtain ⟨b, o, rfl, hb, k0⟩ := hr 0 h0
  obtain ⟨b2, o2, e7, _, k1⟩ := hr (c.length - 1) (by omega)
  injection e7 with e7
  injection e7 with e8 e9
  subst e8; subst e9
  obtain ⟨c0, hc0⟩ : ∃ z, z = c.getD 0 0 := ⟨_, rfl⟩
  obtain ⟨cl, hcl⟩ : ∃ z, z = c.getD (c.length - 1) 0 := ⟨_, rfl⟩
  have hE : clampS c x = max c0 (min cl x) := by unfold clampS; rw [← hc0, ← hcl, Int.min_comm]
  rw [← hc0] at k0
  rw [← hcl] at k1
  obtain ⟨cn, hcn⟩ : ∃ n, n = c.length - 1 := ⟨_, rfl⟩
  rw [← hcn] at k1
  have x2 : w.cell? ⟨b, o, none⟩ = some (.int .i64 c0) := k0
  have q3 : (c.length : Int) - 1 = (cn : Int) := by omega
  have q4 : (cn : Int) < (c.length : Int) := by omega
  have q5 : (0 : Int) ≤ (cn : Int) := by omega
  have q6 : (0 : Int) < (c.length : Int) := by omega
  have q8 : ¬ c.length ≤ cn := by omega
  have q9 : ¬ (c.length : Int) ≤ (cn : Int) := by omega
  have qa : decide ((c.length : Int) ≤ (cn : Int)) = false := decide_eq_false q9
  have qb : decide (c.length ≤ cn) = false := decide_eq_false q8
  have HE := Lib.hid hE
  clear hr h hc0 hcl hcn hE k0 hc hm
  go_enter Tryz.func69, Tryz.ntmps69
  go_wp2_with fail
  go_quiet (fail)
  go_wp2_with fail
  go_ret
  exact ⟨by rw [HE.out]; rfl, (Ext.refl _).drewN _⟩
theorem wpList_make_z {w : World} {ops : Array Oper} {rest : List Oper} {o : Oper} {a : Act} {Q : Exit → Act → World → Prop}
    (hg : o.guard = none) (l c : Operand) (t : TypeId) (hop : o.op = Op.makeSlice t l c) (n : Nat) (hl : a.eval l = .int .i64 (n : Int)) (hc : a.eval c = .int .i64 (n : Int)) (ht : Tryz.prog.underlying t = some (.slice 3)) (hinfo : (Tryz.prog.info? 3).map (fun i => (i.zero, i.size, i.bytes)) = some (some (.int .i64 0), 1, 8)) (hn2 : n ≤ 1000000000)
    (hK : wpList Tryz.prog ops Q rest (a.put o.dst (.slice (some ⟨w.heap.size, 0, none⟩) n n)) (w.alloc (.cells (zerosZ n) 3))) : wpList Tryz.prog ops Q (o :: rest) a w := by
  have hr := make_run w n ht hinfo (by omega) hn2
  rw [madeCells_one _ rfl] at hr
  have e : zerosZ n = (List.replicate n (Value.int .i64 0)).toArray := by unfold zerosZ; rw [List.map_replicate]
  rw [← e] at hr
  refine wpList_plain hg fun K hK' => ?_
  unfold Oper.wp
  simp only [execOp, hop, hl, hc]
  simp [hr, Result.andThen]
  exact hK' _ _ hK
theorem infoZ7 : (Tryz.prog.info? 3).map (fun i => (i.zero, i.size, i.bytes)) = some (some (.int .i64 0), 1, 8) := by kernel_rfl
set_option maxHeartbeats 4000000 in
theorem refPlace7_any (gv : Value) (g : List (List Int)) (n : Nat) (w : World) (h : RdG w gv g) (ok : GridOk g) (hn : n < gsize g) :
    Calls Tryz.prog 66 #[gv, .int .i64 n] w fun e w' => (∃ v, e = .returned v ∧ NewZ w w' v (plK g n 0)) ∧ Ext w w' := by
  have HG := Lib.hid h
  obtain ⟨a, cap, rfl, hgl⟩ := h.shape
  have hl4 := ok.le
  have hsz := ok.size
  have OK := Lib.hid ok
  clear h ok
  go_enter Tryz.func66, Tryz.ntmps66
  go_wp2_with (with_reducible refine wpList_make_z rfl _ _ _ rfl g.length rfl rfl Tryz.underlying24 infoZ7 (by omega) ?_)
  have hb := Blk.new w (zerosZ g.length) 3
  have hx : Ext w (w.alloc (.cells (zerosZ g.length) 3)) := (Ext.refl _).alloc _
  have e0 : zerosZ g.length = ((plK g n g.length).map (Value.int .i64)).toArray := by rw [plK_top]; rfl
  rw [e0] at hb hx ⊢
  obtain ⟨wl, hwl⟩ : ∃ W, W = w.alloc (.cells ((plK g n g.length).map (Value.int .i64)).toArray 3) := ⟨_, rfl⟩
  rw [← hwl] at hb hx ⊢
  obtain ⟨ob, hob⟩ : ∃ n, n = w.heap.size := ⟨_, rfl⟩
  rw [← hob] at hb ⊢
  have HO : Hid (w.heap.size ≤ ob) := Lib.hid (by omega)
  have HB := Lib.hid hb; have HX := Lib.hid hx
  clear hb hx e0 hwl hob
  go_loopw [1, 6] (fun v i wr => ∃ k : Nat, k ≤ g.length ∧ v = .int .i64 ((n / gsize (g.drop k) : Nat) : Int) ∧ i = .int .i64 ((k : Int) - 1) ∧ Blk wr ob ((plK g n k).map (Value.int .i64)).toArray 3 ∧ Ext w wr) (fun _ i _ => (intOf i + 1).toNat)
  case atStart => exact ⟨g.length, Nat.le_refl _, by rw [List.drop_length]; simp [gsize], by go_num, HB.out, HX.out⟩
  case round =>
    clear HB HX
    obtain ⟨k, hk, rfl, rfl, hblk, hext⟩ := hrel
    have X := Lib.hid hext; have OB := Lib.hid hblk
    by_cases hlt : 0 < k
    · obtain ⟨j, rfl⟩ : ∃ j, k = j + 1 := ⟨k - 1, by omega⟩
      have hj : j < g.length := by omega
      obtain ⟨b, off, ai, ci, rfl, r1w, r2w, _⟩ := HG.out.at hj
      have r2 := (X.out.cell (p := ⟨b, off + j, none⟩) r1w).trans r2w
      have r1 := Nat.lt_of_lt_of_le r1w X.out.size
      have hne : b ≠ ob := by have := HO.out; omega
      have hne2 : ob ≠ b := Ne.symm hne
      clear r1w r2w
      have hLp := (OK.out.ax j hj).1
      have hLm := (OK.out.ax j hj).2.1
      have hset := plK_set (v := n) hj
      have hd := gsize_drop hj
      have hP : plc g n j = n / gsize (g.drop (j + 1)) % (g.getD j []).length := rfl
      obtain ⟨L, hL⟩ : ∃ L, L = (g.getD j []).length := ⟨_, rfl⟩
      obtain ⟨A, hA⟩ : ∃ A, A = n / gsize (g.drop (j + 1)) := ⟨_, rfl⟩
      rw [← hL] at r2 hLp hLm hd hP
      rw [← hA] at hP ⊢
      have hB : n / gsize (g.drop j) = A / L := by rw [hd, hA, Nat.div_div_eq_div_mul, Nat.mul_comm]
      have hAm : A ≤ 256 := by have := Nat.div_le_self n (gsize (g.drop (j + 1))); omega
      have e1 := tmod_nat A L; have e2 := tdiv_nat A L
      obtain ⟨R, hR⟩ : ∃ R, R = A % L := ⟨_, rfl⟩
      obtain ⟨S, hS⟩ : ∃ S, S = A / L := ⟨_, rfl⟩
      have hRm : R ≤ 32 := by have := Nat.mod_lt A hLp; omega
      have hSm : S ≤ 256 := by rw [hS]; exact Nat.le_trans (Nat.div_le_self _ _) hAm
      rw [← hR] at e1 hP
      rw [← hS] at e2 hB
      rw [hP] at hset
      have hc : ∃ y, wr.cell? ⟨ob, j, none⟩ = some y := ⟨_, by rw [OB.out.cell]; exact Array.getElem?_eq_getElem (by simp [plK]; exact hj)⟩
      obtain ⟨y0, c0⟩ := hc
      have f0 := OB.out.free; have l0 := OB.out.lt
      have q0 : (L : Int) ≠ 0 := by omega
      have q1 : (0 : Int) ≤ (j : Int) := by omega
      have q2 : (j : Int) < (g.length : Int) := by omega
      have q3 : ((j + 1 : Nat) : Int) - 1 = (j : Int) := by omega
      have HSET := Lib.hid hset; have HBB := Lib.hid hB
      rw [q3]
      clear hset hd hP hL hA hB hR hS hblk hext
      go_wp2_with fail
      have hb := OB.out.set j (.int .i64 (R : Nat))
      have e5 : (((plK g n (j + 1)).map (Value.int .i64)).toArray).setIfInBounds j (.int .i64 (R : Nat)) = ((plK g n j).map (Value.int .i64)).toArray := by
        rw [← HSET.out, List.map_set]; simp
      rw [e5] at hb
      have HB := Lib.hid hb; have HX := Lib.hid (X.out.set (p := ⟨ob, j, none⟩) HO.out (.int .i64 (R : Nat)))
      clear hb e5 c0 f0 l0 hne hne2
      go_roundw
      case rel => exact ⟨j, by omega, by rw [HBB.out], by go_num, HB.out, HX.out⟩
      case measure => (simp [intOf]; try omega)
    · obtain rfl : k = 0 := by omega
      have q1 : ¬ (0 : Int) ≤ ((0 : Nat) : Int) - 1 := by omega
      clear hblk hext
      go_wp2_with fail
      go_ret
      exact ⟨⟨.slice (some ⟨ob, 0, none⟩) g.length g.length, rfl, ⟨by rw [plK_len]; omega, .inr ⟨ob, HO.out, by rw [plK_len], OB.out⟩⟩⟩, X.out⟩
end Go.Proofs.YthkfkfbfblppeaaGreat
