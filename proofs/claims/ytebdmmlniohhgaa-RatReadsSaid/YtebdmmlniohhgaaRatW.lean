/- Walk of Parse of layer 6. Conditions: none. -/
import Derived.Test.YtebdmmlniohhgaaRatV
namespace Go.Proofs.Ytebdmmlniohhgaa
set_option linter.unusedSimpArgs false
set_option linter.unusedVariables false
open Go.RowKit

/-- What was read, if it is valid. -/
def okQ (r : RR) : RR × Int := if chkR r = 0 then (r, 0) else (zR, 2)
/-- What Parse returns. -/
def parseQ (s : ByteArray) : RR × Int :=
  if 4096 < s.size then (zR, 4)
  else if (parseS (cutA (bodyT s))).2 ≠ 0 then (zR, 2)
  else if cutI (bodyT s) = true then
    (if (parseS (cutB (bodyT s))).2 ≠ 0 ∨ (parseS (cutB (bodyT s))).1 = [] then (zR, 2)
     else okQ ⟨negT s, (parseS (cutA (bodyT s))).1, (parseS (cutB (bodyT s))).1⟩)
  else okQ ⟨negT s, (parseS (cutA (bodyT s))).1, []⟩

theorem bodyT_size (s : ByteArray) : (bodyT s).size ≤ s.size := by
  unfold bodyT
  split
  · rw [ByteArray.size_extract]; omega
  · exact Nat.le_refl _

set_option maxHeartbeats 4000000 in
theorem parseR_any (s : ByteArray) (w : World) :
    Calls Try.prog 16 #[.string s] w fun e w' => ResR w w' e (parseQ s) ∧ Ext w w' := by
  have b0 := Blk.new w #[.bool false, .slice none 0 0, .slice none 0 0] 26
  have B0 := Lib.hid b0; have X0 := Lib.hid ((Ext.refl w).alloc (.cells #[.bool false, .slice none 0 0, .slice none 0 0] 26))
  clear b0
  by_cases hsz : 4096 < s.size
  · have e1 : parseQ s = (zR, 4) := by unfold parseQ; rw [if_pos hsz]
    have E := Lib.hid e1
    clear e1
    go_enter Try.func16, Try.ntmps16
    go_wp2_with fail
    exact bodyPost_ret (v := .tuple #[.agg #[.bool false, .slice none 0 0, .slice none 0 0], .int .i64 4]) (by simp only [results, Try.results16]; go_simp) rfl ⟨ResR.mk (NewR.zero _ _) E.out, by (repeat (first | (with_reducible exact Ext.refl _) | (with_reducible assumption) | (with_reducible refine Ext.alloc ?_ _) | ((with_reducible refine Ext.setp ?_ ?_); focus (dsimp only; omega)) | (with_reducible refine Ext.drew ?_) | (with_reducible refine Ext.drewN ?_ _) | (with_reducible refine Ext.trans ?_ (by assumption))))⟩
  · have e1 : parseQ s = if (parseS (cutA (bodyT s))).2 ≠ 0 then (zR, 2) else if cutI (bodyT s) = true then (if (parseS (cutB (bodyT s))).2 ≠ 0 ∨ (parseS (cutB (bodyT s))).1 = [] then (zR, 2) else okQ ⟨negT s, (parseS (cutA (bodyT s))).1, (parseS (cutB (bodyT s))).1⟩) else okQ ⟨negT s, (parseS (cutA (bodyT s))).1, []⟩ := by unfold parseQ; rw [if_neg hsz]
    have hts := bodyT_size s
    have hc1 := fun W => strCutPre_any s W (by omega)
    have hc2 := fun W => strCut_any (bodyT s) W (by omega)
    obtain ⟨T, hT⟩ : ∃ T, T = bodyT s := ⟨_, rfl⟩
    obtain ⟨ng, hng⟩ : ∃ ng, ng = negT s := ⟨_, rfl⟩
    obtain ⟨A, hA⟩ : ∃ A, A = cutA T := ⟨_, rfl⟩
    obtain ⟨B, hB⟩ : ∃ B, B = cutB T := ⟨_, rfl⟩
    obtain ⟨I, hI⟩ : ∃ I, I = cutI T := ⟨_, rfl⟩
    rw [← hT] at e1 hc1 hc2
    rw [← hng] at e1 hc1
    rw [← hA, ← hB, ← hI] at e1 hc2
    have E := Lib.hid e1; have HC1 := Lib.hid hc1; have HC2 := Lib.hid hc2
    clear e1 hc1 hc2 hT hng hA hB hI hts
    go_enter Try.func16, Try.ntmps16
    go_wp2_with fail
    refine (HC1.out _).mono ?_
    rintro e w1 ⟨rfl, rfl⟩
    go_wp2_with fail
    have b1 := Blk.new w #[.bool ng, .slice none 0 0, .slice none 0 0] 26
    have x1 := (Ext.refl w).alloc (.cells #[.bool ng, .slice none 0 0, .slice none 0 0] 26)
    refine (HC2.out _).mono ?_
    rintro e w2 ⟨rfl, hx2⟩
    have B2 := Lib.hid (b1.ext hx2); have X2 := Lib.hid (x1.trans hx2)
    clear hx2 b1 x1
    go_wp2_with fail
    refine (parse_any A _).mono ?_
    rintro e w3 ⟨⟨v3, rfl, n3⟩, hx3⟩
    have B3 := Lib.hid (B2.out.ext hx3); have X3 := Lib.hid (X2.out.trans hx3)
    have n3 := n3.from X2.out
    clear hx3
    have c0 := B3.out.cell; have f0 := B3.out.free; have l0 := B3.out.lt
    rcases parse_cases A with ⟨n, hn, hp, _⟩ | ⟨c, hc, hp⟩
    · have e1 := E.out
      rw [hp] at n3 e1 ⊢
      dsimp only at n3 e1 ⊢
      rw [if_neg (by decide)] at e1
      obtain ⟨a3, c3, rfl⟩ := n3.shape
      obtain ⟨L, hL⟩ : ∃ L, L = lim n := ⟨_, rfl⟩
      rw [← hL] at n3 e1 ⊢
      have LL : Hid (Lim L) := Lib.hid (by rw [hL]; exact lim_lim _)
      have N3 := Lib.hid n3; have E1 := Lib.hid e1
      clear n3 e1 hp hn hL E
      cases hI : I
      · rw [hI] at E1
        have e2 := E1.out
        rw [if_neg (by decide)] at e2
        have E2 := Lib.hid e2
        clear e2 E1 hI
        go_wp2_with fail
        have b4 : Blk (w3.setCell ⟨w.heap.size, 1, none⟩ (.slice a3 L.length c3)) w.heap.size #[.bool ng, .slice a3 L.length c3, .slice none 0 0] 26 := by
          have := B3.out.set 1 (.slice a3 L.length c3); simpa using this
        have B4 := Lib.hid b4
        have X4 := Lib.hid (X3.out.set (p := ⟨w.heap.size, 1, none⟩) (Nat.le_refl _) (.slice a3 L.length c3))
        have N4 := Lib.hid (OwB.setBlk N3.out B3.out (by decide) 1 (.slice a3 L.length c3))
        clear b4 N3
        have hchk := checkR_any (.agg #[.bool ng, .slice a3 L.length c3, .slice none 0 0]) ⟨ng, L, []⟩ (w3.setCell ⟨w.heap.size, 1, none⟩ (.slice a3 L.length c3)) ⟨_, _, rfl, NewV.rd N4.out, NewV.rd (NewV.nil w (w3.setCell ⟨w.heap.size, 1, none⟩ (.slice a3 L.length c3)))⟩ ⟨LL.out, (fun x hx => by cases hx)⟩
        by_cases hz0 : chkR ⟨ng, L, []⟩ = 0
        · rw [hz0] at hchk
          have e5 := E2.out
          unfold okQ at e5
          rw [if_pos hz0] at e5
          have E5 := Lib.hid e5; have HCH := Lib.hid hchk
          clear e5 hchk hz0
          refine HCH.out.mono ?_
          rintro e w7 ⟨rfl, hx7⟩
          have B7 := Lib.hid (B4.out.ext hx7); have X7 := Lib.hid (X4.out.trans hx7); have N7 := Lib.hid (NewV.ext N4.out hx7); have P7 := Lib.hid (NewV.ext (NewV.nil w (w3.setCell ⟨w.heap.size, 1, none⟩ (.slice a3 L.length c3))) hx7)
          clear hx7 c0 f0 l0
          have c0 := B7.out.cell; have f0 := B7.out.free; have l0 := B7.out.lt
          go_wp2_with fail
          refine bodyPost_ret (v := .tuple #[.agg #[.bool ng, .slice a3 L.length c3, .slice none 0 0], .int .i64 0]) (by simp only [results, Try.results16]; go_simp) rfl ⟨ResR.mk (NewR.set3 (r := ⟨ng, L, []⟩) ⟨_, _, rfl, N7.out, P7.out⟩ B7.out (by decide) _ _ _) E5.out, ?_⟩
          have := X7.out; (repeat (first | (with_reducible exact Ext.refl _) | (with_reducible assumption) | (with_reducible refine Ext.alloc ?_ _) | ((with_reducible refine Ext.setp ?_ ?_); focus (dsimp only; omega)) | (with_reducible refine Ext.drew ?_) | (with_reducible refine Ext.drewN ?_ _) | (with_reducible refine Ext.trans ?_ (by assumption))))
        · have e5 := E2.out
          unfold okQ at e5
          rw [if_neg hz0] at e5
          obtain ⟨cc, hcc⟩ : ∃ cc, cc = chkR ⟨ng, L, []⟩ := ⟨_, rfl⟩
          rw [← hcc] at hchk hz0
          have hzb : (cc != 0) = true := by simpa using hz0
          have E5 := Lib.hid e5; have HCH := Lib.hid hchk
          clear e5 hchk hz0 hcc
          refine HCH.out.mono ?_
          rintro e w7 ⟨rfl, hx7⟩
          have B7 := Lib.hid (B4.out.ext hx7); have X7 := Lib.hid (X4.out.trans hx7)
          clear hx7 c0 f0 l0
          have c0 := B7.out.cell; have f0 := B7.out.free; have l0 := B7.out.lt
          go_wp2_with fail
          refine bodyPost_ret (v := .tuple #[.agg #[.bool false, .slice none 0 0, .slice none 0 0], .int .i64 2]) (by simp only [results, Try.results16]; go_simp) rfl ⟨ResR.mk (NewR.zero _ _) E5.out, ?_⟩
          have := X7.out; (repeat (first | (with_reducible exact Ext.refl _) | (with_reducible assumption) | (with_reducible refine Ext.alloc ?_ _) | ((with_reducible refine Ext.setp ?_ ?_); focus (dsimp only; omega)) | (with_reducible refine Ext.drew ?_) | (with_reducible refine Ext.drewN ?_ _) | (with_reducible refine Ext.trans ?_ (by assumption))))
      · rw [hI] at E1
        have e2 := E1.out
        rw [if_pos rfl] at e2
        have E2 := Lib.hid e2
        clear e2 E1 hI
        go_wp2_with fail
        have b4 : Blk (w3.setCell ⟨w.heap.size, 1, none⟩ (.slice a3 L.length c3)) w.heap.size #[.bool ng, .slice a3 L.length c3, .slice none 0 0] 26 := by
          have := B3.out.set 1 (.slice a3 L.length c3); simpa using this
        have B4 := Lib.hid b4
        have X4 := Lib.hid (X3.out.set (p := ⟨w.heap.size, 1, none⟩) (Nat.le_refl _) (.slice a3 L.length c3))
        have N4 := Lib.hid (OwB.setBlk N3.out B3.out (by decide) 1 (.slice a3 L.length c3))
        clear b4 N3
        refine (parse_any B _).mono ?_
        rintro e w5 ⟨⟨v5, rfl, n5⟩, hx5⟩
        have B5 := Lib.hid (B4.out.ext hx5); have X5 := Lib.hid (X4.out.trans hx5); have M4 := Lib.hid (N4.out.ext hx5)
        have n5 := n5.from X4.out
        clear hx5 c0 f0 l0
        have c0 := B5.out.cell; have f0 := B5.out.free; have l0 := B5.out.lt
        rcases parse_cases B with ⟨m, hm, hp, _⟩ | ⟨c, hc, hp⟩
        · have e3 := E2.out
          rw [hp] at n5 e3 ⊢
          dsimp only at n5 e3 ⊢
          obtain ⟨a5, c5, rfl⟩ := n5.shape
          obtain ⟨K, hK⟩ : ∃ K, K = lim m := ⟨_, rfl⟩
          rw [← hK] at n5 e3 ⊢
          have LK : Hid (Lim K) := Lib.hid (by rw [hK]; exact lim_lim _)
          have N5 := Lib.hid n5
          clear n5 hp hm hK E2
          by_cases hz : K.length = 0
          · rw [if_pos (Or.inr (List.length_eq_zero_iff.1 hz))] at e3
            have E3 := Lib.hid e3
            have hz' : ((K.length : Int) == 0) = true := by simp [hz]
            clear e3 hz
            go_wp2_with fail
            refine bodyPost_ret (v := .tuple #[.agg #[.bool false, .slice none 0 0, .slice none 0 0], .int .i64 2]) (by simp only [results, Try.results16]; go_simp) rfl ⟨ResR.mk (NewR.zero _ _) E3.out, ?_⟩
            have := X5.out; (repeat (first | (with_reducible exact Ext.refl _) | (with_reducible assumption) | (with_reducible refine Ext.alloc ?_ _) | ((with_reducible refine Ext.setp ?_ ?_); focus (dsimp only; omega)) | (with_reducible refine Ext.drew ?_) | (with_reducible refine Ext.drewN ?_ _) | (with_reducible refine Ext.trans ?_ (by assumption))))
          · rw [if_neg (by rintro (h | h); exact h rfl; exact hz (by rw [h]; rfl))] at e3
            have E3 := Lib.hid e3
            have hz' : ((K.length : Int) == 0) = false := by simp only [beq_eq_false_iff_ne]; omega
            clear e3 hz
            go_wp2_with fail
            have b6 : Blk (w5.setCell ⟨w.heap.size, 2, none⟩ (.slice a5 K.length c5)) w.heap.size #[.bool ng, .slice a3 L.length c3, .slice a5 K.length c5] 26 := by
              have := B5.out.set 2 (.slice a5 K.length c5); simpa using this
            have B6 := Lib.hid b6
            have X6 := Lib.hid (X5.out.set (p := ⟨w.heap.size, 2, none⟩) (Nat.le_refl _) (.slice a5 K.length c5))
            have N6 := Lib.hid (OwB.setBlk M4.out B5.out (by decide) 2 (.slice a5 K.length c5))
            have P6 := Lib.hid (OwB.setBlk N5.out B5.out (by decide) 2 (.slice a5 K.length c5))
            clear b6
            have hchk := checkR_any (.agg #[.bool ng, .slice a3 L.length c3, .slice a5 K.length c5]) ⟨ng, L, K⟩ (w5.setCell ⟨w.heap.size, 2, none⟩ (.slice a5 K.length c5)) ⟨_, _, rfl, NewV.rd N6.out, NewV.rd P6.out⟩ ⟨LL.out, LK.out⟩
            by_cases hz0 : chkR ⟨ng, L, K⟩ = 0
            · rw [hz0] at hchk
              have e5 := E3.out
              unfold okQ at e5
              rw [if_pos hz0] at e5
              have E5 := Lib.hid e5; have HCH := Lib.hid hchk
              clear e5 hchk hz0
              refine HCH.out.mono ?_
              rintro e w7 ⟨rfl, hx7⟩
              have B7 := Lib.hid (B6.out.ext hx7); have X7 := Lib.hid (X6.out.trans hx7); have N7 := Lib.hid (NewV.ext N6.out hx7); have P7 := Lib.hid (NewV.ext P6.out hx7)
              clear hx7 c0 f0 l0
              have c0 := B7.out.cell; have f0 := B7.out.free; have l0 := B7.out.lt
              go_wp2_with fail
              refine bodyPost_ret (v := .tuple #[.agg #[.bool ng, .slice a3 L.length c3, .slice a5 K.length c5], .int .i64 0]) (by simp only [results, Try.results16]; go_simp) rfl ⟨ResR.mk (NewR.set3 (r := ⟨ng, L, K⟩) ⟨_, _, rfl, N7.out, P7.out⟩ B7.out (by decide) _ _ _) E5.out, ?_⟩
              have := X7.out; (repeat (first | (with_reducible exact Ext.refl _) | (with_reducible assumption) | (with_reducible refine Ext.alloc ?_ _) | ((with_reducible refine Ext.setp ?_ ?_); focus (dsimp only; omega)) | (with_reducible refine Ext.drew ?_) | (with_reducible refine Ext.drewN ?_ _) | (with_reducible refine Ext.trans ?_ (by assumption))))
            · have e5 := E3.out
              unfold okQ at e5
              rw [if_neg hz0] at e5
              obtain ⟨cc, hcc⟩ : ∃ cc, cc = chkR ⟨ng, L, K⟩ := ⟨_, rfl⟩
              rw [← hcc] at hchk hz0
              have hzb : (cc != 0) = true := by simpa using hz0
              have E5 := Lib.hid e5; have HCH := Lib.hid hchk
              clear e5 hchk hz0 hcc
              refine HCH.out.mono ?_
              rintro e w7 ⟨rfl, hx7⟩
              have B7 := Lib.hid (B6.out.ext hx7); have X7 := Lib.hid (X6.out.trans hx7)
              clear hx7 c0 f0 l0
              have c0 := B7.out.cell; have f0 := B7.out.free; have l0 := B7.out.lt
              go_wp2_with fail
              refine bodyPost_ret (v := .tuple #[.agg #[.bool false, .slice none 0 0, .slice none 0 0], .int .i64 2]) (by simp only [results, Try.results16]; go_simp) rfl ⟨ResR.mk (NewR.zero _ _) E5.out, ?_⟩
              have := X7.out; (repeat (first | (with_reducible exact Ext.refl _) | (with_reducible assumption) | (with_reducible refine Ext.alloc ?_ _) | ((with_reducible refine Ext.setp ?_ ?_); focus (dsimp only; omega)) | (with_reducible refine Ext.drew ?_) | (with_reducible refine Ext.drewN ?_ _) | (with_reducible refine Ext.trans ?_ (by assumption))))
        · have e3 := E2.out
          rw [hp] at n5 e3 ⊢
          dsimp only at n5 e3 ⊢
          rw [if_pos (Or.inl hc)] at e3
          have E3 := Lib.hid e3
          obtain ⟨a5, c5, rfl⟩ := n5.shape
          have hcb : (c != 0) = true := by simpa using hc
          clear e3 hp hc n5 E2
          go_wp2_with fail
          refine bodyPost_ret (v := .tuple #[.agg #[.bool false, .slice none 0 0, .slice none 0 0], .int .i64 2]) (by simp only [results, Try.results16]; go_simp) rfl ⟨ResR.mk (NewR.zero _ _) E3.out, ?_⟩
          have := X5.out; (repeat (first | (with_reducible exact Ext.refl _) | (with_reducible assumption) | (with_reducible refine Ext.alloc ?_ _) | ((with_reducible refine Ext.setp ?_ ?_); focus (dsimp only; omega)) | (with_reducible refine Ext.drew ?_) | (with_reducible refine Ext.drewN ?_ _) | (with_reducible refine Ext.trans ?_ (by assumption))))
    · have e3 := E.out
      rw [hp] at n3 e3 ⊢
      dsimp only at n3 e3 ⊢
      rw [if_pos hc] at e3
      have E3 := Lib.hid e3
      obtain ⟨a3, c3, rfl⟩ := n3.shape
      have hcb : (c != 0) = true := by simpa using hc
      clear e3 hp hc n3 E
      go_wp2_with fail
      refine bodyPost_ret (v := .tuple #[.agg #[.bool false, .slice none 0 0, .slice none 0 0], .int .i64 2]) (by simp only [results, Try.results16]; go_simp) rfl ⟨ResR.mk (NewR.zero _ _) E3.out, ?_⟩
      have := X3.out; (repeat (first | (with_reducible exact Ext.refl _) | (with_reducible assumption) | (with_reducible refine Ext.alloc ?_ _) | ((with_reducible refine Ext.setp ?_ ?_); focus (dsimp only; omega)) | (with_reducible refine Ext.drew ?_) | (with_reducible refine Ext.drewN ?_ _) | (with_reducible refine Ext.trans ?_ (by assumption))))

end Go.Proofs.Ytebdmmlniohhgaa
