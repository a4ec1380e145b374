/- Part of the proof of imatL_holds: what the row needs of Ri7g. Conditions: as each theorem states. -/
import Derived.Test.YthkfkfbfblppeaaGreatSwRi7f
import Derived.Test.YthkfkfbfblppeaaGreatSwGM
namespace Go.Proofs.YthkfkfbfblppeaaGreat
set_option linter.unusedSimpArgs false
set_option linter.unusedVariables false
open Go.RowKit
set_option maxHeartbeats 4000000 in
theorem refPoint7_any (gv : Value) (g : List (List Int)) (v : Int) (w : World) (h : RdG w gv g) :
    Calls Tryz.prog 15 #[gv, .int .i64 v] w fun e w' => ResZ w w' e (pointS g v) ∧ Ext w w' := by
  have HG := Lib.hid h
  have HPL := Lib.hid (fun W (x : Ext w W) => refPlaceV7_any gv g v W (h.ext x))
  obtain ⟨a, cap, rfl, hgl⟩ := h.shape
  clear h
  go_enter Tryz.func15, Tryz.ntmps15
  go_wp2_with fail
  refine (HPL.out _ (Ext.refl w)).mono ?_
  rintro e w1 ⟨⟨vv, rfl, nn⟩, hx⟩
  have X := Lib.hid hx
  by_cases hz : (placeS g v).2 = 0
  rotate_left
  · have hnil := placeS_bad hz
    have E := Lib.hid (show pointS g v = ([], (placeS g v).2) from by
      unfold pointS
      unfold placeS at hz ⊢
      by_cases h0 : gridE g = 0
      · rw [if_pos h0] at hz ⊢
        rw [if_pos h0]
        by_cases h1 : 0 ≤ v ∧ v < (gsize g : Int)
        · rw [if_pos h1] at hz; exact absurd rfl hz
        · rw [if_neg h1, if_neg h1]
      · rw [if_neg h0, if_neg h0])
    rw [hnil] at nn
    obtain ⟨pa, rfl⟩ := nn.shape
    obtain ⟨c, hc⟩ : ∃ c, c = (placeS g v).2 := ⟨_, rfl⟩
    rw [← hc] at E ⊢
    have NN := Lib.hid nn
    have q1 : ¬ (0 : Int) < (([] : List Int).length : Int) := by decide
    dsimp only [List.length_nil] at NN q1 ⊢
    clear hnil hz hc hx nn
    go_wp2_with fail
    go_loopw [8] (fun i wr => i = .int .i64 0 ∧ wr = w1) (fun _ _ => 0)
    case atStart => exact ⟨rfl, rfl⟩
    case round =>
      obtain ⟨rfl, rfl⟩ := hrel
      go_wp2_with fail
      go_ret2
      exact ⟨ResZ.mk NN.out E.out, X.out⟩
  obtain ⟨h0, hvn, hpe⟩ := placeS_0 hz
  have hqe := pointS_ok h0 hvn
  obtain ⟨n, rfl⟩ : ∃ n : Nat, v = n := ⟨v.toNat, by omega⟩
  rw [Int.toNat_natCast] at hpe hqe
  rw [hpe] at nn
  rw [hpe]
  dsimp only at nn ⊢
  have ok := gridE_ok h0
  have hg4 := ok.le
  have hpos := ok.pos
  obtain ⟨hl1, ⟨h9, _⟩ | ⟨ob, hob, rfl, hblk⟩⟩ := nn
  · have h8 := congrArg List.length h9
    rw [plK_len, List.length_nil] at h8
    omega
  rw [plK_len, ptK_0] at *
  have OK := Lib.hid ok; have E := Lib.hid hqe; have HB := Lib.hid hblk; have HO := Lib.hid hob
  clear h0 hvn hpe hqe ok hz hl1 hx hblk hob
  go_wp2_with fail
  go_loopw [8] (fun i wr => ∃ k : Nat, k ≤ g.length ∧ i = .int .i64 k ∧ Blk wr ob ((ptK g n k).map (Value.int .i64)).toArray 3 ∧ Ext w wr) (fun i _ => g.length - (intOf i).toNat)
  case atStart => exact ⟨0, Nat.zero_le _, rfl, HB.out, X.out⟩
  case round =>
    clear HB X
    obtain ⟨k, hk, rfl, hblk, hext⟩ := hrel
    have X := Lib.hid hext; have OB := Lib.hid hblk
    by_cases hlt : k < g.length
    · obtain ⟨b, off, ai, ci, rfl, r1, r2, r3⟩ := HG.out.at hlt
      have hlc := plc_lt (pos_of OK.out) hlt n
      obtain ⟨_, _, e1, hcc, hcm, hrow⟩ := r3.get
      injection e1 with e0 e2 e3
      subst e0; subst e3
      clear e2
      obtain ⟨bc, oc, rfl, hbc, hcell⟩ := hrow (plc g n k) hlc
      have hset := ptK_set (v := n) hlt
      have hat : wr.cell? ⟨ob, k, none⟩ = some (.int .i64 (plc g n k : Nat)) := by
        rw [OB.out.cell]
        have := ptK_at (v := n) hlt
        have hk2 : k < (ptK g n k).length := by rw [ptK_len]; exact hlt
        rw [List.getD_eq_getElem?_getD, List.getElem?_eq_getElem hk2] at this
        simp only [List.getElem?_toArray, List.getElem?_map, List.getElem?_eq_getElem hk2, Option.map_some]
        rw [show (ptK g n k)[k] = _ from this]
      unfold cutAt at hset
      obtain ⟨c, hce⟩ : ∃ c, c = g.getD k [] := ⟨_, rfl⟩
      obtain ⟨i, hie⟩ : ∃ i, i = plc g n k := ⟨_, rfl⟩
      rw [← hce] at r2 hcc hcell hlc hset
      rw [← hie] at hat hcell hlc hset
      obtain ⟨y, hye⟩ : ∃ y, y = c.getD i 0 := ⟨_, rfl⟩
      rw [← hye] at hcell hset
      have x1 := (X.out.cell (p := ⟨b, off + k, none⟩) r1).trans r2
      have x2 := (X.out.cell (p := ⟨bc, oc + i, none⟩) hbc).trans hcell
      have l1 := Nat.lt_of_lt_of_le r1 X.out.size
      have l2 := Nat.lt_of_lt_of_le hbc X.out.size
      have l3 := OB.out.lt
      have q1 : (0 : Int) ≤ (k : Int) := by omega
      have q2 : (k : Int) < (g.length : Int) := by omega
      have q3 : (0 : Int) ≤ (i : Int) := by omega
      have q4 : (i : Int) < (c.length : Int) := by omega
      have HSET := Lib.hid hset
      clear r1 r2 r3 hrow hcell hce hie hye hlc hset hbc hcc hcm hblk hext
      go_wp2_with fail
      refine wp_region_quietE_tail 12 (by kernel_rfl) (by kernel_rfl) ?_
      simp only [List.take_succ_cons, List.take_zero, List.drop_succ_cons, List.drop_zero]
      (repeat (go_big_quiet_step (fail)))
      refine wpQuiet_nil ?_
      rintro w9 ⟨⟨_, hx1⟩, rfl⟩
      (try dsimp only)
      have OB := Lib.hid (OB.out.ext hx1); have X := Lib.hid (X.out.trans hx1)
      have c0 := (hx1.cell (p := ⟨ob, k, none⟩) l3).trans hat
      have f0 := OB.out.free; have l0 := OB.out.lt
      clear hx1 x1 x2 l1 l2 l3 hat q3 q4
      go_wp2_with fail
      have hb := OB.out.set k (.int .i64 y)
      have e5 : (((ptK g n k).map (Value.int .i64)).toArray).setIfInBounds k (.int .i64 y) = ((ptK g n (k + 1)).map (Value.int .i64)).toArray := by
        rw [← HSET.out, List.map_set]; simp
      rw [e5] at hb
      have HB := Lib.hid hb; have HX := Lib.hid (X.out.set (p := ⟨ob, k, none⟩) HO.out (.int .i64 y))
      clear hb e5 c0 f0 l0
      go_roundw
      case rel => exact ⟨k + 1, by omega, by go_num, HB.out, HX.out⟩
      case measure => (simp [intOf]; try omega)
    · obtain rfl : k = g.length := by omega
      have q1 : ¬ (g.length : Int) < (g.length : Int) := by omega
      clear hblk hext
      go_wp2_with fail
      go_ret2
      exact ⟨ResZ.mk (v := .slice (some ⟨ob, 0, none⟩) g.length g.length) (l := ptK g n g.length) ⟨by rw [ptK_len]; omega, .inr ⟨ob, HO.out, by rw [ptK_len], OB.out⟩⟩ E.out, X.out⟩
end Go.Proofs.YthkfkfbfblppeaaGreat
