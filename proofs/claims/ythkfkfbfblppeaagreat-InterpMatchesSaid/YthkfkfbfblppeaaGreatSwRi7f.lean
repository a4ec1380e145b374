/- Part of the proof of imatL_holds: what the row needs of Ri7f. Conditions: as each theorem states. -/
import Derived.Test.YthkfkfbfblppeaaGreatSwRi7b
import Derived.Test.YthkfkfbfblppeaaGreatSwGL
namespace Go.Proofs.YthkfkfbfblppeaaGreat
set_option linter.unusedSimpArgs false
set_option linter.unusedVariables false
open Go.RowKit
theorem refVertices7_any (v : Value) (g : List (List Int)) (w : World) (h : RdG w v g) :
    Calls Tryz.prog 12 #[v] w fun e w' => e = .returned (.tuple #[.int .i64 (vertsS g).1, .int .i64 (vertsS g).2]) ∧ Ext w w' := by
  have HG := Lib.hid h
  have HCK := Lib.hid (fun W (x : Ext w W) => refCheck7_any v g W (h.ext x))
  have HSZ := Lib.hid (fun W (x : Ext w W) => refCount7_any v g W (h.ext x))
  clear h
  go_enter Tryz.func12, Tryz.ntmps12
  go_wp2_with fail
  refine (HCK.out _ (Ext.refl w)).mono ?_
  rintro e w1 ⟨rfl, hx⟩
  have X := Lib.hid hx
  by_cases h0 : gridE g = 0
  · have E := Lib.hid (show vertsS g = ((gsize g : Int), 0) from if_pos h0)
    have HS := Lib.hid (HSZ.out _ hx (gridE_ok h0).shrt)
    rw [h0]
    clear hx h0
    go_wp2_with fail
    refine HS.out.mono ?_
    rintro e w2 ⟨rfl, hx2⟩
    have X2 := Lib.hid (X.out.trans hx2)
    clear hx2
    go_wp2_with fail
    go_ret2
    exact ⟨by rw [E.out]; rfl, X2.out⟩
  · have E := Lib.hid (show vertsS g = (0, gridE g) from if_neg h0)
    obtain ⟨c, hc⟩ : ∃ c, c = gridE g := ⟨_, rfl⟩
    rw [← hc] at E h0 ⊢
    have q1 : (c != 0) = true := by simpa using h0
    clear hx h0 hc
    go_wp2_with fail
    go_ret2
    exact ⟨by rw [E.out]; rfl, X.out⟩
set_option maxHeartbeats 1000000 in
theorem refPlaceV7_any (gv : Value) (g : List (List Int)) (v : Int) (w : World) (h : RdG w gv g) :
    Calls Tryz.prog 14 #[gv, .int .i64 v] w fun e w' => ResZ w w' e (placeS g v) ∧ Ext w w' := by
  have HG := Lib.hid h
  have HCK := Lib.hid (fun W (x : Ext w W) => refCheck7_any gv g W (h.ext x))
  have HSZ := Lib.hid (fun W (x : Ext w W) => refCount7_any gv g W (h.ext x))
  clear h
  go_enter Tryz.func14, Tryz.ntmps14
  go_wp2_with fail
  refine (HCK.out _ (Ext.refl w)).mono ?_
  rintro e w1 ⟨rfl, hx⟩
  have X := Lib.hid hx
  by_cases h0 : gridE g = 0
  rotate_left
  · have E := Lib.hid (show placeS g v = ([], gridE g) from if_neg h0)
    obtain ⟨c, hc⟩ : ∃ c, c = gridE g := ⟨_, rfl⟩
    rw [← hc] at E h0 ⊢
    have q1 : (c != 0) = true := by simpa using h0
    clear hx h0 hc
    go_wp2_with fail
    go_ret2
    exact ⟨ResZ.mk (NewZ.nil _ _) E.out, X.out⟩
  have ok := gridE_ok h0
  have e0 : placeS g v = if 0 ≤ v ∧ v < (gsize g : Int) then (plK g v.toNat 0, 0) else ([], 8) := if_pos h0
  have HS := Lib.hid (HSZ.out _ hx ok.shrt)
  rw [h0]
  by_cases h1 : v < 0
  · have E := Lib.hid (e0.trans (if_neg (by omega)))
    clear hx e0 h0
    go_wp2_with fail
    go_ret2
    exact ⟨ResZ.mk (NewZ.nil _ _) E.out, X.out⟩
  have OK := Lib.hid ok
  have E0 := Lib.hid e0
  clear hx e0 h0 ok
  go_wp2_with fail
  refine HS.out.mono ?_
  rintro e w2 ⟨rfl, hx2⟩
  have X2 := Lib.hid (X.out.trans hx2)
  clear hx2 X
  by_cases h2 : (gsize g : Int) ≤ v
  · have E := Lib.hid (E0.out.trans (if_neg (by omega)))
    go_wp2_with fail
    go_ret2
    exact ⟨ResZ.mk (NewZ.nil _ _) E.out, X2.out⟩
  have E := Lib.hid (E0.out.trans (if_pos (by omega)))
  obtain ⟨n, rfl⟩ : ∃ n : Nat, v = n := ⟨v.toNat, by omega⟩
  rw [Int.toNat_natCast] at E
  have hn : n < gsize g := by omega
  have HN := Lib.hid hn
  have hpl := refPlace7_any gv g n w2 (HG.out.ext X2.out) OK.out hn
  have HPL := Lib.hid hpl
  clear E0 HS hpl hn
  go_wp2_with fail
  refine HPL.out.mono ?_
  rintro e w3 ⟨⟨v, rfl, nn⟩, hx⟩
  obtain ⟨pa, rfl⟩ := nn.shape
  have NN := Lib.hid (nn.from X2.out); have X3 := Lib.hid (X2.out.trans hx)
  clear nn hx
  rw [plK_len] at NN ⊢
  go_wp2_with fail
  go_ret2
  exact ⟨ResZ.mk NN.out E.out, X3.out⟩
set_option maxHeartbeats 4000000 in
theorem refVertex7_any (v vp : Value) (g : List (List Int)) (p : List Int) (w : World) (h : RdG w v g) (hp : RdI .i64 w vp p) :
    Calls Tryz.prog 13 #[v, vp] w fun e w' => e = .returned (.tuple #[.int .i64 (vertexS g p).1, .int .i64 (vertexS g p).2]) ∧ Ext w w' := by
  have HG := Lib.hid h; have HP := Lib.hid hp
  have HCK := Lib.hid (fun W (x : Ext w W) => refCheck7_any v g W (h.ext x))
  obtain ⟨a, cap, rfl, hgl⟩ := h.shape
  obtain ⟨ap, cp, rfl, hcp, hmp, _⟩ := hp.get
  clear h hp
  have hpl : p.length ≤ 9223372036854775807 := by omega
  clear hcp hmp
  go_enter Tryz.func13, Tryz.ntmps13
  go_wp2_with fail
  refine (HCK.out _ (Ext.refl w)).mono ?_
  rintro e w1 ⟨rfl, hx⟩
  have X := Lib.hid hx
  by_cases h0 : gridE g = 0
  rotate_left
  · have E := Lib.hid (show vertexS g p = (0, gridE g) from if_neg h0)
    obtain ⟨c, hc⟩ : ∃ c, c = gridE g := ⟨_, rfl⟩
    rw [← hc] at E h0 ⊢
    have q1 : (c != 0) = true := by simpa using h0
    clear hx h0 hc
    go_wp2_with fail
    go_ret2
    exact ⟨by rw [E.out]; rfl, X.out⟩
  by_cases hl : p.length = g.length
  rotate_left
  · have E := Lib.hid (show vertexS g p = (0, 16) from (if_pos h0).trans (if_neg hl))
    rw [h0]
    have q1 : ((p.length : Int) != (g.length : Int)) = true := bne_iff_ne.2 (by omega)
    clear hx h0 hl
    go_wp2_with fail
    go_ret2
    exact ⟨by rw [E.out]; rfl, X.out⟩
  have E := Lib.hid (show vertexS g p = if okP g p g.length then ((num g (pN p) g.length : Int), 0) else (0, 8) from (if_pos h0).trans (if_pos hl))
  have HS := Lib.hid (gridE_ok h0).shrt
  rw [h0]
  have HL := Lib.hid hl
  rw [hl]
  have q1 : ((g.length : Int) != (g.length : Int)) = false := by simp
  have hg4 := (gridE_ok h0).le
  clear hx h0 hl
  go_wp2_with fail
  go_loopw [7, 8] (fun n i wr => ∃ k : Nat, k ≤ g.length ∧ n = .int .i64 (num g (pN p) k) ∧ i = .int .i64 k ∧ okP g p k ∧ Ext w wr) (fun _ i _ => g.length - (intOf i).toNat)
  case atStart => exact ⟨0, Nat.zero_le _, rfl, rfl, (fun a ha => by omega), X.out⟩
  case round =>
    obtain ⟨k, hk, rfl, rfl, hok, hx⟩ := hrel
    have XR := Lib.hid hx; have OK := Lib.hid hok
    clear q1 X hok
    by_cases hlg : k < g.length
    · have hlt : k < p.length := by have := HL.out; omega
      obtain ⟨b, off, ai, ci, rfl, r1, r2, r3⟩ := (HG.out.ext hx).at hlg
      obtain ⟨b1, o1, e9, s1, s2⟩ := rdI_at (HP.out.ext hx) hlt
      subst e9
      have hn := num_ltk k (Nat.le_of_lt hlg) (p := pN p) (fun a ha => by have := OK.out a ha; unfold pN; omega)
      have hb := shrt_lt HS.out (show k ≤ g.length by omega)
      have hc := HS.out.2 k hlg
      have hst : num g (pN p) (k + 1) = num g (pN p) k * (g.getD k []).length + (p.getD k 0).toNat := rfl
      have hb2 := shrt_lt HS.out (show k + 1 ≤ g.length by omega)
      have hok2 : ∀ (h1 : 0 ≤ p.getD k 0) (h2 : p.getD k 0 < ((g.getD k []).length : Int)), okP g p (k + 1) := fun h1 h2 a ha => by
        by_cases e : a = k
        · subst e; exact ⟨h1, h2⟩
        · exact OK.out a (by omega)
      have hbad : ¬ (0 ≤ p.getD k 0 ∧ p.getD k 0 < ((g.getD k []).length : Int)) → vertexS g p = (0, 8) := fun h => by
        rw [E.out, if_neg (fun h2 => h (h2 k hlg))]
      have q1 : (0 : Int) ≤ (k : Int) := by omega
      have q2 : (k : Int) < (g.length : Int) := by omega
      have hnk := fun h1 h2 => num_ltk (k + 1) hlg (p := pN p) (fun a ha => by have := hok2 h1 h2 a ha; unfold pN; omega)
      generalize p.getD k 0 = z at *
      generalize g.getD k [] = c at *
      obtain ⟨A, hA⟩ : ∃ A, A = num g (pN p) k := ⟨_, rfl⟩
      obtain ⟨B, hB⟩ : ∃ B, B = num g (pN p) (k + 1) := ⟨_, rfl⟩
      rw [← hA] at hst hn ⊢
      rw [← hB] at hst hnk
      have hA2 : A ≤ 1048576 := by omega
      have hAc : A * c.length ≤ 1048576 * 32 := Nat.mul_le_mul hA2 hc
      by_cases z1 : z < 0
      · have EB := Lib.hid (hbad (by omega))
        have q3 : decide (z < 0) = true := decide_eq_true z1
        clear hn hb hst hb2 hok2 hbad hnk hA hB hA2 hAc hx
        go_wp2_with fail
        go_quiet (fail)
        go_wp2_with fail
        go_ret2
        exact ⟨by rw [EB.out]; rfl, XR.out.drewN _⟩
      have q3 : decide (z < 0) = false := decide_eq_false z1
      by_cases z2 : (c.length : Int) ≤ z
      · have EB := Lib.hid (hbad (by omega))
        clear hn hb hst hb2 hok2 hbad hnk hA hB hA2 hAc hx
        go_wp2_with fail
        go_quiet (fail)
        go_wp2_with fail
        go_ret2
        exact ⟨by rw [EB.out]; rfl, XR.out.drewN _⟩
      · have OK2 := Lib.hid (hok2 (by omega) (by omega))
        have HB := Lib.hid hB
        have e1 : (A : Int) * (c.length : Int) = ((A * c.length : Nat) : Int) := (Int.natCast_mul _ _).symm
        have e2 : IntKind.i64.wrap ((A : Int) * (c.length : Int)) = ((A * c.length : Nat) : Int) := by rw [e1]; exact wrapL (by omega) (by omega)
        have e3 : IntKind.i64.wrap (((A * c.length : Nat) : Int) + z) = (B : Int) := by rw [wrapL (by omega) (by omega)]; omega
        obtain ⟨M, hM⟩ : ∃ M, M = A * c.length := ⟨_, rfl⟩
        rw [← hM] at e2 e3
        clear hn hb hst hb2 hok2 hbad hnk hA hB hA2 hAc hx e1 hM
        go_wp2_with fail
        go_quiet (fail)
        go_wp2_with fail
        go_quiet (fail)
        go_wp2_with fail
        go_roundw
        case rel => exact ⟨k + 1, by omega, by rw [HB.out], by go_num, OK2.out, XR.out.drewN _⟩
        case measure => simp [intOf]; omega
    · obtain rfl : k = g.length := by omega
      have q1 : ¬ (g.length : Int) < (g.length : Int) := by omega
      have E2 := Lib.hid (E.out.trans (if_pos OK.out))
      clear hx
      go_wp2_with fail
      go_ret2
      exact ⟨by rw [E2.out]; rfl, XR.out⟩
end Go.Proofs.YthkfkfbfblppeaaGreat
