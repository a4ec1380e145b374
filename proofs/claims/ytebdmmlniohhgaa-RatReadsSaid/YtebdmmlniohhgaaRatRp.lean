/- Walk of the reference's Parse of layer 6. Conditions: none. -/
import Derived.Test.YtebdmmlniohhgaaRatRb
import Derived.Test.YtebdmmlniohhgaaRefM
import Derived.Test.YtebdmmlniohhgaaRatW
namespace Go.Proofs.Ytebdmmlniohhgaa
set_option linter.unusedSimpArgs false
set_option linter.unusedVariables false
open Go.RowKit

/-- c is the first place from j on where a '/' stands, or the end. -/
def FirstAt (T : ByteArray) (j c : Nat) : Prop := (∀ h : c < T.size, (T[c]'h).toNat = 47) ∧ ∀ (k : Nat) (h : k < T.size), j ≤ k → k < c → (T[k]'h).toNat ≠ 47
theorem firstAt_end (T : ByteArray) : FirstAt T T.size T.size := ⟨fun h => absurd h (Nat.lt_irrefl _), fun k h h1 h2 => absurd h2 (by omega)⟩
theorem firstAt_here {T : ByteArray} {j : Nat} {h : j < T.size} (e : (T[j]'h).toNat = 47) : FirstAt T j j := ⟨fun _ => e, fun k h h1 h2 => absurd h2 (by omega)⟩
theorem firstAt_down {T : ByteArray} {j c : Nat} {h : j < T.size} (f : FirstAt T (j + 1) c) (e : ¬ (T[j]'h).toNat = 47) : FirstAt T j c :=
  ⟨f.1, fun k hk h1 h2 => by
    by_cases ek : k = j
    · subst ek; exact e
    · exact f.2 k hk (by omega) h2⟩
theorem data_at (T : ByteArray) (k : Nat) (h : k < T.size) : T.data.toList[k]? = some (T[k]'h) := by
  rw [List.getElem?_eq_getElem (by simpa using h)]; rfl
theorem sl_of_first {T : ByteArray} {c : Nat} (hc : c ≤ T.size) (f : FirstAt T 0 c) : (c < T.size → sl T = c) ∧ (¬ c < T.size → sl T = -1) := by
  rcases sl_cases T with h | ⟨i, hi, hlt⟩
  · refine ⟨fun hl => ?_, fun _ => h⟩
    exfalso
    have h1 := Lib.indexByte_none h
    exact h1 c (by rw [data_at T c hl, show T[c]'hl = 47 from UInt8.toNat.inj (by rw [f.1 hl]; rfl)])
  · obtain ⟨h1, h2⟩ := Lib.indexByte_some hi
    rw [data_at T i hlt] at h1
    have e47 : (T[i]'hlt).toNat = 47 := by rw [Option.some.inj h1]; rfl
    have hic : ¬ i < c := fun h => f.2 i hlt (Nat.zero_le _) h e47
    refine ⟨fun hl => ?_, fun hl => absurd hlt (by omega)⟩
    have hci : ¬ c < i := fun h => by
      have := h2 c h
      rw [data_at T c hl] at this
      exact this (by rw [show T[c]'hl = 47 from UInt8.toNat.inj (by rw [f.1 hl]; rfl)])
    rw [hi]; have : i = c := by omega
    rw [this]
theorem parseQ_first {s : ByteArray} (hsz : ¬ 4096 < s.size) (c : Nat) (hc : c ≤ (bodyT s).size) (f : FirstAt (bodyT s) 0 c) :
    parseQ s = if (parseS ((bodyT s).extract 0 c)).2 ≠ 0 then (zR, 2) else if c < (bodyT s).size then (if (parseS ((bodyT s).extract (c + 1) (bodyT s).size)).2 ≠ 0 ∨ (parseS ((bodyT s).extract (c + 1) (bodyT s).size)).1 = [] then (zR, 2)
      else okQ ⟨negT s, (parseS ((bodyT s).extract 0 c)).1, (parseS ((bodyT s).extract (c + 1) (bodyT s).size)).1⟩) else okQ ⟨negT s, (parseS ((bodyT s).extract 0 c)).1, []⟩ := by
  obtain ⟨h1, h2⟩ := sl_of_first hc f
  unfold parseQ
  rw [if_neg hsz]
  by_cases hl : c < (bodyT s).size
  · have e := h1 hl
    have eA : cutA (bodyT s) = (bodyT s).extract 0 c := by unfold cutA; rw [e, if_neg (by omega)]; rfl
    have eB : cutB (bodyT s) = (bodyT s).extract (c + 1) (bodyT s).size := by unfold cutB; rw [e, if_neg (by omega)]; rfl
    have eI : cutI (bodyT s) = true := by unfold cutI; rw [e]; exact decide_eq_true (by omega)
    rw [eA, eB, if_pos eI, if_pos hl]
  · have e := h2 hl
    have eA : cutA (bodyT s) = (bodyT s).extract 0 c := by
      unfold cutA; rw [e, if_pos rfl, show c = (bodyT s).size from by omega, ByteArray.extract_zero_size]
    have eI : ¬ cutI (bodyT s) = true := by unfold cutI; rw [e]; simp
    rw [eA, if_neg eI, if_neg hl]

theorem negT_pos {s : ByteArray} (h : 0 < s.size) (e : (s[0]'h).toNat = 45) : negT s = true := by
  unfold negT
  rw [decide_eq_true (by omega)]
  have : (s.extract 0 1).toList = [s[0]'h] := by
    rw [ByteArray.toList_eq]
    have hl : (s.extract 0 1).data.toList = s.data.toList.take 1 := by simp [ByteArray.data_extract]
    rw [hl]
    have h2 := data_at s 0 h
    cases hd : s.data.toList with
    | nil => rw [hd] at h2; cases h2
    | cons a t => rw [hd] at h2; simp at h2; simp [h2]
  rw [this, show s[0]'h = 45 from UInt8.toNat.inj (by rw [e]; rfl)]
  rfl
theorem negT_neg {s : ByteArray} (h : 0 < s.size) (e : ¬ (s[0]'h).toNat = 45) : negT s = false := by
  unfold negT
  rw [decide_eq_true (by omega)]
  have : (s.extract 0 1).toList = [s[0]'h] := by
    rw [ByteArray.toList_eq]
    have hl : (s.extract 0 1).data.toList = s.data.toList.take 1 := by simp [ByteArray.data_extract]
    rw [hl]
    have h2 := data_at s 0 h
    cases hd : s.data.toList with
    | nil => rw [hd] at h2; cases h2
    | cons a t => rw [hd] at h2; simp at h2; simp [h2]
  rw [this, Bool.true_and, beq_eq_false_iff_ne]
  intro hh
  have : s[0]'h = 45 := by simpa using hh
  exact e (by rw [this]; rfl)

set_option maxRecDepth 20000 in
set_option maxHeartbeats 8000000 in
theorem refParseR_any (s : ByteArray) (w : World) :
    Calls Try.prog 13 #[.string s] w fun e w' => ResR w w' e (parseQ s) ∧ Ext w w' := by
  have b0 := Blk.new w #[.bool false, .slice none 0 0, .slice none 0 0] 26
  have A0 := Lib.hid b0; have X0 := Lib.hid ((Ext.refl w).alloc (.cells #[.bool false, .slice none 0 0, .slice none 0 0] 26))
  clear b0
  by_cases hsz : 4096 < s.size
  · have e1 : parseQ s = (zR, 4) := by unfold parseQ; rw [if_pos hsz]
    have E := Lib.hid e1
    clear e1
    go_enter Try.func13, Try.ntmps13
    go_wp2_with fail
    exact bodyPost_ret (v := .tuple #[.agg #[.bool false, .slice none 0 0, .slice none 0 0], .int .i64 4]) (by simp only [results, Try.results13]; go_simp) rfl ⟨ResR.mk (NewR.zero _ _) E.out, by (repeat (first | (with_reducible exact Ext.refl _) | (with_reducible assumption) | (with_reducible refine Ext.alloc ?_ _) | ((with_reducible refine Ext.setp ?_ ?_); focus (dsimp only; omega)) | (with_reducible refine Ext.drew ?_) | (with_reducible refine Ext.drewN ?_ _) | (with_reducible refine Ext.trans ?_ (by assumption))))⟩
  · have hpq := fun c => parseQ_first hsz c
    have hts := bodyT_size s
    by_cases hp0 : 0 < s.size
    · by_cases h45 : (s[0]'hp0).toNat = 45
      · skip
        have hneg := negT_pos hp0 h45
        have hbody : bodyT s = s.extract 1 s.size := by unfold bodyT; rw [if_pos hneg]
        have q45 : ((((s[0]'hp0).toNat : Nat) : Int) == 45) = true := by rw [h45]; rfl
        have hex : (s.extract 1 s.size).size = s.size - 1 := by rw [ByteArray.size_extract]; omega
        have hb256 : (s[0]'hp0).toNat < 256 := (s[0]'hp0).toNat_lt
        rw [hneg] at hpq
        obtain ⟨T, hT⟩ : ∃ T, T = bodyT s := ⟨_, rfl⟩
        rw [← hT] at hpq hts
        have hTT := hT.trans hbody
        have HPQ := Lib.hid hpq
        have HTT := Lib.hid hTT
        clear hpq hneg hbody hT h45 hTT
        go_enter Try.func13, Try.ntmps13
        go_wp2_with fail
        have hTT := HTT.out
        have hsz2 : T.size = s.size - 1 := by rw [hTT]; exact hex
        have hsz3 : ((s.size - 1 : Nat) : Int) = (T.size : Int) := by omega
        rw [hsz3, ← hTT]
        have hsz4 : T.size ≤ 4096 := by omega
        clear hsz2 hsz3 hTT hex hts
        have bB : Blk ((w.alloc (.cells #[.bool false, .slice none 0 0, .slice none 0 0] 26)).alloc (.cells #[.bool true, .slice none 0 0, .slice none 0 0] 26)) (w.heap.size + 1) #[.bool true, .slice none 0 0, .slice none 0 0] 26 := by
          have := Blk.new (w.alloc (.cells #[.bool false, .slice none 0 0, .slice none 0 0] 26)) #[.bool true, .slice none 0 0, .slice none 0 0] 26
          rwa [World.size_alloc] at this
        have aA := A0.out.ext ((Ext.refl _).alloc (.cells #[.bool true, .slice none 0 0, .slice none 0 0] 26))
        have xX := X0.out.trans ((Ext.refl _).alloc (.cells #[.bool true, .slice none 0 0, .slice none 0 0] 26))
        obtain ⟨w1, hw1⟩ : ∃ x, x = ((w.alloc (.cells #[.bool false, .slice none 0 0, .slice none 0 0] 26)).alloc (.cells #[.bool true, .slice none 0 0, .slice none 0 0] 26)) := ⟨_, rfl⟩
        rw [← hw1] at bB aA xX ⊢
        have BB := Lib.hid bB; have AA := Lib.hid aA; have XX := Lib.hid xX
        clear bB aA xX hw1
        have c0 := BB.out.cell; have f0 := BB.out.free; have l0 := BB.out.lt
        have c1 := AA.out.cell; have f1 := AA.out.free; have l1 := AA.out.lt
        go_loopw [5, 6] (fun cut i wr => ∃ j c : Nat, j ≤ c ∧ c ≤ T.size ∧ i = .int .i64 ((j : Int) - 1) ∧ cut = .int .i64 c ∧ FirstAt T j c ∧ wr = w1) (fun _ i _ => (intOf i + 1).toNat)
        case atStart => exact ⟨T.size, T.size, Nat.le_refl _, Nat.le_refl _, rfl, rfl, firstAt_end T, rfl⟩
        case round =>
          obtain ⟨j, c, hjc, hc, rfl, rfl, hfa, rfl⟩ := hrel
          have HFA := Lib.hid hfa
          clear hfa
          rcases j with _ | j
          · skip
            have e1 := HPQ.out c hc HFA.out
            have E1 := Lib.hid e1
            clear e1 HFA HPQ hjc
            obtain ⟨A, hA⟩ : ∃ A, T.extract 0 c = A := ⟨_, rfl⟩
            rw [hA] at E1
            have q0 : ¬ (0 : Int) ≤ ((0 : Nat) : Int) - 1 := by omega
            go_wp2_with fail
            (try rw [hA])
            refine (refParse_any A _).mono ?_
            rintro e w3 ⟨⟨v3, rfl, n3⟩, hx3⟩
            have B3 := Lib.hid (BB.out.ext hx3); have A3 := Lib.hid (AA.out.ext hx3); have X3 := Lib.hid (XX.out.trans hx3)
            have n3 := n3.from XX.out
            clear hx3
            clear c0 f0 l0 c1 f1 l1
            have c0 := B3.out.cell; have f0 := B3.out.free; have l0 := B3.out.lt
            have c1 := A3.out.cell; have f1 := A3.out.free; have l1 := A3.out.lt
            rcases parse_cases A with ⟨n, hn, hp, _⟩ | ⟨c9, hc9, hp⟩
            · skip
              have e1 := E1.out
              rw [hp] at n3 e1 ⊢
              dsimp only at n3 e1 ⊢
              rw [if_neg (by decide)] at e1
              obtain ⟨a3, c3, rfl⟩ := n3.shape
              obtain ⟨L, hL⟩ : ∃ L, L = lim n := ⟨_, rfl⟩
              rw [← hL] at n3 e1 ⊢
              have LL : Hid (Lim L) := Lib.hid (by rw [hL]; exact lim_lim _)
              have N3 := Lib.hid n3; have E4 := Lib.hid e1
              clear n3 e1 hp hn hL E1 hA q0
              by_cases hlt : c < T.size
              · skip
                have e2 := E4.out
                rw [if_pos hlt] at e2
                obtain ⟨B, hB⟩ : ∃ B, T.extract (c + 1) T.size = B := ⟨_, rfl⟩
                rw [hB] at e2
                have E2 := Lib.hid e2
                have q1 : ((c : Int) < (T.size : Int)) := by omega
                clear e2 E4
                go_wp2_with fail
                (try rw [hB])
                have b4 : Blk (w3.setCell ⟨w.heap.size + 1, 1, none⟩ (.slice a3 L.length c3)) (w.heap.size + 1) #[.bool true, .slice a3 L.length c3, .slice none 0 0] 26 := by
                  have := B3.out.set 1 (.slice a3 L.length c3); simpa using this
                have B4 := Lib.hid b4
                have A4 := Lib.hid (A3.out.setOther (a := ⟨w.heap.size + 1, 1, none⟩) (by simp) (.slice a3 L.length c3))
                have X4 := Lib.hid (X3.out.set (p := ⟨w.heap.size + 1, 1, none⟩) (Nat.le_succ _) (.slice a3 L.length c3))
                have N4 := Lib.hid (OwB.setBlk N3.out B3.out (by decide) 1 (.slice a3 L.length c3))
                clear b4 N3
                refine (refParse_any B _).mono ?_
                rintro e w5 ⟨⟨v5, rfl, n5⟩, hx5⟩
                have B5 := Lib.hid (B4.out.ext hx5); have A5 := Lib.hid (A4.out.ext hx5); have X5 := Lib.hid (X4.out.trans hx5); have M4 := Lib.hid (N4.out.ext hx5)
                have n5 := n5.from X4.out
                clear hx5
                clear c0 f0 l0 c1 f1 l1
                have c0 := B5.out.cell; have f0 := B5.out.free; have l0 := B5.out.lt
                have c1 := A5.out.cell; have f1 := A5.out.free; have l1 := A5.out.lt
                rcases parse_cases B with ⟨m, hm, hp, _⟩ | ⟨c8, hc8, hp⟩
                · skip
                  have e3 := E2.out
                  rw [hp] at n5 e3 ⊢
                  dsimp only at n5 e3 ⊢
                  obtain ⟨a5, c5, rfl⟩ := n5.shape
                  obtain ⟨K, hK⟩ : ∃ K, K = lim m := ⟨_, rfl⟩
                  rw [← hK] at n5 e3 ⊢
                  have LK : Hid (Lim K) := Lib.hid (by rw [hK]; exact lim_lim _)
                  have N5 := Lib.hid n5
                  clear n5 hp hm hK E2 hB q1 hlt hc
                  by_cases hz : K.length = 0
                  · skip
                    rw [if_pos (Or.inr (List.length_eq_zero_iff.1 hz))] at e3
                    have E3 := Lib.hid e3
                    have hz' : ((K.length : Int) == 0) = true := by simp [hz]
                    clear e3 hz
                    go_wp2_with fail
                    refine bodyPost_ret (v := .tuple #[.agg #[.bool false, .slice none 0 0, .slice none 0 0], .int .i64 2]) (by simp only [results, Try.results13]; go_simp) rfl ⟨ResR.mk (NewR.zero _ _) E3.out, ?_⟩
                    have := X5.out; (repeat (first | (with_reducible exact Ext.refl _) | (with_reducible assumption) | (with_reducible refine Ext.alloc ?_ _) | ((with_reducible refine Ext.setp ?_ ?_); focus (dsimp only; omega)) | (with_reducible refine Ext.drew ?_) | (with_reducible refine Ext.drewN ?_ _) | (with_reducible refine Ext.trans ?_ (by assumption))))
                  · skip
                    rw [if_neg (by rintro (h | h); exact h rfl; exact hz (by rw [h]; rfl))] at e3
                    have E2 := Lib.hid e3
                    have hz' : ((K.length : Int) == 0) = false := by simp only [beq_eq_false_iff_ne]; omega
                    clear e3 hz
                    go_wp2_with fail
                    have b6 : Blk (w5.setCell ⟨w.heap.size + 1, 2, none⟩ (.slice a5 K.length c5)) (w.heap.size + 1) #[.bool true, .slice a3 L.length c3, .slice a5 K.length c5] 26 := by
                      have := B5.out.set 2 (.slice a5 K.length c5); simpa using this
                    have B6 := Lib.hid b6
                    have A6 := Lib.hid (A5.out.setOther (a := ⟨w.heap.size + 1, 2, none⟩) (by simp) (.slice a5 K.length c5))
                    have X6 := Lib.hid (X5.out.set (p := ⟨w.heap.size + 1, 2, none⟩) (Nat.le_succ _) (.slice a5 K.length c5))
                    have N6 := Lib.hid (OwB.setBlk M4.out B5.out (by decide) 2 (.slice a5 K.length c5))
                    have P6 := Lib.hid (OwB.setBlk N5.out B5.out (by decide) 2 (.slice a5 K.length c5))
                    clear b6
                    have hchk := refCheckR_any (.agg #[.bool true, .slice a3 L.length c3, .slice a5 K.length c5]) ⟨true, L, K⟩ (w5.setCell ⟨w.heap.size + 1, 2, none⟩ (.slice a5 K.length c5)) ⟨_, _, rfl, NewV.rd N6.out, NewV.rd P6.out⟩ ⟨LL.out, LK.out⟩
                    by_cases hz0 : chkR ⟨true, L, K⟩ = 0
                    · skip
                      rw [hz0] at hchk
                      have e5 := E2.out
                      unfold okQ at e5
                      rw [if_pos hz0] at e5
                      have E5 := Lib.hid e5; have HCH := Lib.hid hchk
                      clear e5 hchk hz0
                      refine HCH.out.mono ?_
                      rintro e w7 ⟨rfl, hx7⟩
                      have B7 := Lib.hid (B6.out.ext hx7); have A7 := Lib.hid (A6.out.ext hx7); have X7 := Lib.hid (X6.out.trans hx7)
                      have N7 := Lib.hid (NewV.ext N6.out hx7); have P7 := Lib.hid (NewV.ext P6.out hx7)
                      clear hx7
                      clear c0 f0 l0 c1 f1 l1
                      have c0 := B7.out.cell; have f0 := B7.out.free; have l0 := B7.out.lt
                      have c1 := A7.out.cell; have f1 := A7.out.free; have l1 := A7.out.lt
                      go_wp2_with fail
                      refine bodyPost_ret (v := .tuple #[.agg #[.bool true, .slice a3 L.length c3, .slice a5 K.length c5], .int .i64 0]) (by simp only [results, Try.results13]; go_simp) rfl ⟨ResR.mk (NewR.set3 (r := ⟨true, L, K⟩) ⟨_, _, rfl, N7.out, P7.out⟩ A7.out (by decide) _ _ _) E5.out, ?_⟩
                      have := X7.out; (repeat (first | (with_reducible exact Ext.refl _) | (with_reducible assumption) | (with_reducible refine Ext.alloc ?_ _) | ((with_reducible refine Ext.setp ?_ ?_); focus (dsimp only; omega)) | (with_reducible refine Ext.drew ?_) | (with_reducible refine Ext.drewN ?_ _) | (with_reducible refine Ext.trans ?_ (by assumption))))
                    · skip
                      have e5 := E2.out
                      unfold okQ at e5
                      rw [if_neg hz0] at e5
                      obtain ⟨cc, hcc⟩ : ∃ cc, cc = chkR ⟨true, L, K⟩ := ⟨_, rfl⟩
                      rw [← hcc] at hchk hz0
                      have hzb : (cc != 0) = true := by simpa using hz0
                      have E5 := Lib.hid e5; have HCH := Lib.hid hchk
                      clear e5 hchk hz0 hcc
                      refine HCH.out.mono ?_
                      rintro e w7 ⟨rfl, hx7⟩
                      have B7 := Lib.hid (B6.out.ext hx7); have A7 := Lib.hid (A6.out.ext hx7); have X7 := Lib.hid (X6.out.trans hx7)
                      clear hx7
                      clear c0 f0 l0 c1 f1 l1
                      have c0 := B7.out.cell; have f0 := B7.out.free; have l0 := B7.out.lt
                      have c1 := A7.out.cell; have f1 := A7.out.free; have l1 := A7.out.lt
                      go_wp2_with fail
                      refine bodyPost_ret (v := .tuple #[.agg #[.bool false, .slice none 0 0, .slice none 0 0], .int .i64 2]) (by simp only [results, Try.results13]; go_simp) rfl ⟨ResR.mk (NewR.zero _ _) E5.out, ?_⟩
                      have := X7.out; (repeat (first | (with_reducible exact Ext.refl _) | (with_reducible assumption) | (with_reducible refine Ext.alloc ?_ _) | ((with_reducible refine Ext.setp ?_ ?_); focus (dsimp only; omega)) | (with_reducible refine Ext.drew ?_) | (with_reducible refine Ext.drewN ?_ _) | (with_reducible refine Ext.trans ?_ (by assumption))))
                · skip
                  have e3 := E2.out
                  rw [hp] at n5 e3 ⊢
                  dsimp only at n5 e3 ⊢
                  rw [if_pos (Or.inl hc8)] at e3
                  have E3 := Lib.hid e3
                  obtain ⟨a5, c5, rfl⟩ := n5.shape
                  have hcb : (c8 != 0) = true := by simpa using hc8
                  clear e3 hp hc8 n5 E2
                  go_wp2_with fail
                  refine bodyPost_ret (v := .tuple #[.agg #[.bool false, .slice none 0 0, .slice none 0 0], .int .i64 2]) (by simp only [results, Try.results13]; go_simp) rfl ⟨ResR.mk (NewR.zero _ _) E3.out, ?_⟩
                  have := X5.out; (repeat (first | (with_reducible exact Ext.refl _) | (with_reducible assumption) | (with_reducible refine Ext.alloc ?_ _) | ((with_reducible refine Ext.setp ?_ ?_); focus (dsimp only; omega)) | (with_reducible refine Ext.drew ?_) | (with_reducible refine Ext.drewN ?_ _) | (with_reducible refine Ext.trans ?_ (by assumption))))
              · skip
                have e2 := E4.out
                rw [if_neg hlt] at e2
                have E2 := Lib.hid e2
                have q1 : ¬ ((c : Int) < (T.size : Int)) := by omega
                clear e2 E4
                go_wp2_with fail
                have b4 : Blk (w3.setCell ⟨w.heap.size + 1, 1, none⟩ (.slice a3 L.length c3)) (w.heap.size + 1) #[.bool true, .slice a3 L.length c3, .slice none 0 0] 26 := by
                  have := B3.out.set 1 (.slice a3 L.length c3); simpa using this
                have B4 := Lib.hid b4
                have A4 := Lib.hid (A3.out.setOther (a := ⟨w.heap.size + 1, 1, none⟩) (by simp) (.slice a3 L.length c3))
                have X4 := Lib.hid (X3.out.set (p := ⟨w.heap.size + 1, 1, none⟩) (Nat.le_succ _) (.slice a3 L.length c3))
                have N4 := Lib.hid (OwB.setBlk N3.out B3.out (by decide) 1 (.slice a3 L.length c3))
                clear b4 N3
                have B6 := B4; have A6 := A4; have X6 := X4; have N6 := N4
                have P6 := Lib.hid (NewV.nil w (w3.setCell ⟨w.heap.size + 1, 1, none⟩ (.slice a3 L.length c3)))
                have hchk := refCheckR_any (.agg #[.bool true, .slice a3 L.length c3, .slice none 0 0]) ⟨true, L, []⟩ (w3.setCell ⟨w.heap.size + 1, 1, none⟩ (.slice a3 L.length c3)) ⟨_, _, rfl, NewV.rd N6.out, NewV.rd P6.out⟩ ⟨LL.out, fun x hx => by cases hx⟩
                by_cases hz0 : chkR ⟨true, L, []⟩ = 0
                · skip
                  rw [hz0] at hchk
                  have e5 := E2.out
                  unfold okQ at e5
                  rw [if_pos hz0] at e5
                  have E5 := Lib.hid e5; have HCH := Lib.hid hchk
                  clear e5 hchk hz0
                  refine HCH.out.mono ?_
                  rintro e w7 ⟨rfl, hx7⟩
                  have B7 := Lib.hid (B6.out.ext hx7); have A7 := Lib.hid (A6.out.ext hx7); have X7 := Lib.hid (X6.out.trans hx7)
                  have N7 := Lib.hid (NewV.ext N6.out hx7); have P7 := Lib.hid (NewV.ext P6.out hx7)
                  clear hx7
                  clear c0 f0 l0 c1 f1 l1
                  have c0 := B7.out.cell; have f0 := B7.out.free; have l0 := B7.out.lt
                  have c1 := A7.out.cell; have f1 := A7.out.free; have l1 := A7.out.lt
                  go_wp2_with fail
                  refine bodyPost_ret (v := .tuple #[.agg #[.bool true, .slice a3 L.length c3, .slice none 0 0], .int .i64 0]) (by simp only [results, Try.results13]; go_simp) rfl ⟨ResR.mk (NewR.set3 (r := ⟨true, L, []⟩) ⟨_, _, rfl, N7.out, P7.out⟩ A7.out (by decide) _ _ _) E5.out, ?_⟩
                  have := X7.out; (repeat (first | (with_reducible exact Ext.refl _) | (with_reducible assumption) | (with_reducible refine Ext.alloc ?_ _) | ((with_reducible refine Ext.setp ?_ ?_); focus (dsimp only; omega)) | (with_reducible refine Ext.drew ?_) | (with_reducible refine Ext.drewN ?_ _) | (with_reducible refine Ext.trans ?_ (by assumption))))
                · skip
                  have e5 := E2.out
                  unfold okQ at e5
                  rw [if_neg hz0] at e5
                  obtain ⟨cc, hcc⟩ : ∃ cc, cc = chkR ⟨true, L, []⟩ := ⟨_, rfl⟩
                  rw [← hcc] at hchk hz0
                  have hzb : (cc != 0) = true := by simpa using hz0
                  have E5 := Lib.hid e5; have HCH := Lib.hid hchk
                  clear e5 hchk hz0 hcc
                  refine HCH.out.mono ?_
                  rintro e w7 ⟨rfl, hx7⟩
                  have B7 := Lib.hid (B6.out.ext hx7); have A7 := Lib.hid (A6.out.ext hx7); have X7 := Lib.hid (X6.out.trans hx7)
                  clear hx7
                  clear c0 f0 l0 c1 f1 l1
                  have c0 := B7.out.cell; have f0 := B7.out.free; have l0 := B7.out.lt
                  have c1 := A7.out.cell; have f1 := A7.out.free; have l1 := A7.out.lt
                  go_wp2_with fail
                  refine bodyPost_ret (v := .tuple #[.agg #[.bool false, .slice none 0 0, .slice none 0 0], .int .i64 2]) (by simp only [results, Try.results13]; go_simp) rfl ⟨ResR.mk (NewR.zero _ _) E5.out, ?_⟩
                  have := X7.out; (repeat (first | (with_reducible exact Ext.refl _) | (with_reducible assumption) | (with_reducible refine Ext.alloc ?_ _) | ((with_reducible refine Ext.setp ?_ ?_); focus (dsimp only; omega)) | (with_reducible refine Ext.drew ?_) | (with_reducible refine Ext.drewN ?_ _) | (with_reducible refine Ext.trans ?_ (by assumption))))
            · skip
              have e3 := E1.out
              rw [hp] at n3 e3 ⊢
              dsimp only at n3 e3 ⊢
              rw [if_pos hc9] at e3
              have E3 := Lib.hid e3
              obtain ⟨a3, c3, rfl⟩ := n3.shape
              have hcb : (c9 != 0) = true := by simpa using hc9
              clear e3 hp hc9 n3 E1
              go_wp2_with fail
              refine bodyPost_ret (v := .tuple #[.agg #[.bool false, .slice none 0 0, .slice none 0 0], .int .i64 2]) (by simp only [results, Try.results13]; go_simp) rfl ⟨ResR.mk (NewR.zero _ _) E3.out, ?_⟩
              have := X3.out; (repeat (first | (with_reducible exact Ext.refl _) | (with_reducible assumption) | (with_reducible refine Ext.alloc ?_ _) | ((with_reducible refine Ext.setp ?_ ?_); focus (dsimp only; omega)) | (with_reducible refine Ext.drew ?_) | (with_reducible refine Ext.drewN ?_ _) | (with_reducible refine Ext.trans ?_ (by assumption))))
          · skip
            have hlt : j < T.size := by omega
            have hb255 : (T[j]'hlt).toNat < 256 := (T[j]'hlt).toNat_lt
            have q0 : (0 : Int) ≤ ((j + 1 : Nat) : Int) - 1 := by omega
            have q2 : ((j + 1 : Nat) : Int) - 1 = (j : Int) := by omega
            rw [q2] at q0 ⊢
            clear q2
            by_cases he : (T[j]'hlt).toNat = 47
            · have q1 : ((((T[j]'hlt).toNat : Nat) : Int) == 47) = true := by rw [he]; rfl
              have HE := Lib.hid he
              clear he
              go_wp2_with fail
              go_roundw
              case rel => exact ⟨j, j, Nat.le_refl _, by omega, by go_num, rfl, firstAt_here HE.out, by first | rfl | trivial⟩
              case measure => simp [intOf] <;> omega
            · have q1 : ((((T[j]'hlt).toNat : Nat) : Int) == 47) = false := by simp only [beq_eq_false_iff_ne]; omega
              have HE := Lib.hid he
              clear he
              go_wp2_with fail
              go_roundw
              case rel => exact ⟨j, c, by omega, hc, by go_num, rfl, firstAt_down HFA.out HE.out, by first | rfl | trivial⟩
              case measure => simp [intOf] <;> omega
      · skip
        have hneg := negT_neg hp0 h45
        have hbody : bodyT s = s := by unfold bodyT; rw [if_neg (by rw [hneg]; exact Bool.false_ne_true)]
        have q45 : ((((s[0]'hp0).toNat : Nat) : Int) == 45) = false := by simp only [beq_eq_false_iff_ne]; omega
        have hb256 : (s[0]'hp0).toNat < 256 := (s[0]'hp0).toNat_lt
        rw [hneg] at hpq
        obtain ⟨T, hT⟩ : ∃ T, T = bodyT s := ⟨_, rfl⟩
        rw [← hT] at hpq hts
        have hTT := hT.trans hbody
        have HPQ := Lib.hid hpq
        subst hTT
        clear hpq hneg hbody hT h45
        go_enter Try.func13, Try.ntmps13
        go_wp2_with fail
        have hsz4 : T.size ≤ 4096 := by omega
        have bB : Blk ((w.alloc (.cells #[.bool false, .slice none 0 0, .slice none 0 0] 26)).alloc (.cells #[.bool false, .slice none 0 0, .slice none 0 0] 26)) (w.heap.size + 1) #[.bool false, .slice none 0 0, .slice none 0 0] 26 := by
          have := Blk.new (w.alloc (.cells #[.bool false, .slice none 0 0, .slice none 0 0] 26)) #[.bool false, .slice none 0 0, .slice none 0 0] 26
          rwa [World.size_alloc] at this
        have aA := A0.out.ext ((Ext.refl _).alloc (.cells #[.bool false, .slice none 0 0, .slice none 0 0] 26))
        have xX := X0.out.trans ((Ext.refl _).alloc (.cells #[.bool false, .slice none 0 0, .slice none 0 0] 26))
        obtain ⟨w1, hw1⟩ : ∃ x, x = ((w.alloc (.cells #[.bool false, .slice none 0 0, .slice none 0 0] 26)).alloc (.cells #[.bool false, .slice none 0 0, .slice none 0 0] 26)) := ⟨_, rfl⟩
        rw [← hw1] at bB aA xX ⊢
        have BB := Lib.hid bB; have AA := Lib.hid aA; have XX := Lib.hid xX
        clear bB aA xX hw1
        have c0 := BB.out.cell; have f0 := BB.out.free; have l0 := BB.out.lt
        have c1 := AA.out.cell; have f1 := AA.out.free; have l1 := AA.out.lt
        go_loopw [5, 6] (fun cut i wr => ∃ j c : Nat, j ≤ c ∧ c ≤ T.size ∧ i = .int .i64 ((j : Int) - 1) ∧ cut = .int .i64 c ∧ FirstAt T j c ∧ wr = w1) (fun _ i _ => (intOf i + 1).toNat)
        case atStart => exact ⟨T.size, T.size, Nat.le_refl _, Nat.le_refl _, rfl, rfl, firstAt_end T, rfl⟩
        case round =>
          obtain ⟨j, c, hjc, hc, rfl, rfl, hfa, rfl⟩ := hrel
          have HFA := Lib.hid hfa
          clear hfa
          rcases j with _ | j
          · skip
            have e1 := HPQ.out c hc HFA.out
            have E1 := Lib.hid e1
            clear e1 HFA HPQ hjc
            obtain ⟨A, hA⟩ : ∃ A, T.extract 0 c = A := ⟨_, rfl⟩
            rw [hA] at E1
            have q0 : ¬ (0 : Int) ≤ ((0 : Nat) : Int) - 1 := by omega
            go_wp2_with fail
            (try rw [hA])
            refine (refParse_any A _).mono ?_
            rintro e w3 ⟨⟨v3, rfl, n3⟩, hx3⟩
            have B3 := Lib.hid (BB.out.ext hx3); have A3 := Lib.hid (AA.out.ext hx3); have X3 := Lib.hid (XX.out.trans hx3)
            have n3 := n3.from XX.out
            clear hx3
            clear c0 f0 l0 c1 f1 l1
            have c0 := B3.out.cell; have f0 := B3.out.free; have l0 := B3.out.lt
            have c1 := A3.out.cell; have f1 := A3.out.free; have l1 := A3.out.lt
            rcases parse_cases A with ⟨n, hn, hp, _⟩ | ⟨c9, hc9, hp⟩
            · skip
              have e1 := E1.out
              rw [hp] at n3 e1 ⊢
              dsimp only at n3 e1 ⊢
              rw [if_neg (by decide)] at e1
              obtain ⟨a3, c3, rfl⟩ := n3.shape
              obtain ⟨L, hL⟩ : ∃ L, L = lim n := ⟨_, rfl⟩
              rw [← hL] at n3 e1 ⊢
              have LL : Hid (Lim L) := Lib.hid (by rw [hL]; exact lim_lim _)
              have N3 := Lib.hid n3; have E4 := Lib.hid e1
              clear n3 e1 hp hn hL E1 hA q0
              by_cases hlt : c < T.size
              · skip
                have e2 := E4.out
                rw [if_pos hlt] at e2
                obtain ⟨B, hB⟩ : ∃ B, T.extract (c + 1) T.size = B := ⟨_, rfl⟩
                rw [hB] at e2
                have E2 := Lib.hid e2
                have q1 : ((c : Int) < (T.size : Int)) := by omega
                clear e2 E4
                go_wp2_with fail
                (try rw [hB])
                have b4 : Blk (w3.setCell ⟨w.heap.size + 1, 1, none⟩ (.slice a3 L.length c3)) (w.heap.size + 1) #[.bool false, .slice a3 L.length c3, .slice none 0 0] 26 := by
                  have := B3.out.set 1 (.slice a3 L.length c3); simpa using this
                have B4 := Lib.hid b4
                have A4 := Lib.hid (A3.out.setOther (a := ⟨w.heap.size + 1, 1, none⟩) (by simp) (.slice a3 L.length c3))
                have X4 := Lib.hid (X3.out.set (p := ⟨w.heap.size + 1, 1, none⟩) (Nat.le_succ _) (.slice a3 L.length c3))
                have N4 := Lib.hid (OwB.setBlk N3.out B3.out (by decide) 1 (.slice a3 L.length c3))
                clear b4 N3
                refine (refParse_any B _).mono ?_
                rintro e w5 ⟨⟨v5, rfl, n5⟩, hx5⟩
                have B5 := Lib.hid (B4.out.ext hx5); have A5 := Lib.hid (A4.out.ext hx5); have X5 := Lib.hid (X4.out.trans hx5); have M4 := Lib.hid (N4.out.ext hx5)
                have n5 := n5.from X4.out
                clear hx5
                clear c0 f0 l0 c1 f1 l1
                have c0 := B5.out.cell; have f0 := B5.out.free; have l0 := B5.out.lt
                have c1 := A5.out.cell; have f1 := A5.out.free; have l1 := A5.out.lt
                rcases parse_cases B with ⟨m, hm, hp, _⟩ | ⟨c8, hc8, hp⟩
                · skip
                  have e3 := E2.out
                  rw [hp] at n5 e3 ⊢
                  dsimp only at n5 e3 ⊢
                  obtain ⟨a5, c5, rfl⟩ := n5.shape
                  obtain ⟨K, hK⟩ : ∃ K, K = lim m := ⟨_, rfl⟩
                  rw [← hK] at n5 e3 ⊢
                  have LK : Hid (Lim K) := Lib.hid (by rw [hK]; exact lim_lim _)
                  have N5 := Lib.hid n5
                  clear n5 hp hm hK E2 hB q1 hlt hc
                  by_cases hz : K.length = 0
                  · skip
                    rw [if_pos (Or.inr (List.length_eq_zero_iff.1 hz))] at e3
                    have E3 := Lib.hid e3
                    have hz' : ((K.length : Int) == 0) = true := by simp [hz]
                    clear e3 hz
                    go_wp2_with fail
                    refine bodyPost_ret (v := .tuple #[.agg #[.bool false, .slice none 0 0, .slice none 0 0], .int .i64 2]) (by simp only [results, Try.results13]; go_simp) rfl ⟨ResR.mk (NewR.zero _ _) E3.out, ?_⟩
                    have := X5.out; (repeat (first | (with_reducible exact Ext.refl _) | (with_reducible assumption) | (with_reducible refine Ext.alloc ?_ _) | ((with_reducible refine Ext.setp ?_ ?_); focus (dsimp only; omega)) | (with_reducible refine Ext.drew ?_) | (with_reducible refine Ext.drewN ?_ _) | (with_reducible refine Ext.trans ?_ (by assumption))))
                  · skip
                    rw [if_neg (by rintro (h | h); exact h rfl; exact hz (by rw [h]; rfl))] at e3
                    have E2 := Lib.hid e3
                    have hz' : ((K.length : Int) == 0) = false := by simp only [beq_eq_false_iff_ne]; omega
                    clear e3 hz
                    go_wp2_with fail
                    have b6 : Blk (w5.setCell ⟨w.heap.size + 1, 2, none⟩ (.slice a5 K.length c5)) (w.heap.size + 1) #[.bool false, .slice a3 L.length c3, .slice a5 K.length c5] 26 := by
                      have := B5.out.set 2 (.slice a5 K.length c5); simpa using this
                    have B6 := Lib.hid b6
                    have A6 := Lib.hid (A5.out.setOther (a := ⟨w.heap.size + 1, 2, none⟩) (by simp) (.slice a5 K.length c5))
                    have X6 := Lib.hid (X5.out.set (p := ⟨w.heap.size + 1, 2, none⟩) (Nat.le_succ _) (.slice a5 K.length c5))
                    have N6 := Lib.hid (OwB.setBlk M4.out B5.out (by decide) 2 (.slice a5 K.length c5))
                    have P6 := Lib.hid (OwB.setBlk N5.out B5.out (by decide) 2 (.slice a5 K.length c5))
                    clear b6
                    have hchk := refCheckR_any (.agg #[.bool false, .slice a3 L.length c3, .slice a5 K.length c5]) ⟨false, L, K⟩ (w5.setCell ⟨w.heap.size + 1, 2, none⟩ (.slice a5 K.length c5)) ⟨_, _, rfl, NewV.rd N6.out, NewV.rd P6.out⟩ ⟨LL.out, LK.out⟩
                    by_cases hz0 : chkR ⟨false, L, K⟩ = 0
                    · skip
                      rw [hz0] at hchk
                      have e5 := E2.out
                      unfold okQ at e5
                      rw [if_pos hz0] at e5
                      have E5 := Lib.hid e5; have HCH := Lib.hid hchk
                      clear e5 hchk hz0
                      refine HCH.out.mono ?_
                      rintro e w7 ⟨rfl, hx7⟩
                      have B7 := Lib.hid (B6.out.ext hx7); have A7 := Lib.hid (A6.out.ext hx7); have X7 := Lib.hid (X6.out.trans hx7)
                      have N7 := Lib.hid (NewV.ext N6.out hx7); have P7 := Lib.hid (NewV.ext P6.out hx7)
                      clear hx7
                      clear c0 f0 l0 c1 f1 l1
                      have c0 := B7.out.cell; have f0 := B7.out.free; have l0 := B7.out.lt
                      have c1 := A7.out.cell; have f1 := A7.out.free; have l1 := A7.out.lt
                      go_wp2_with fail
                      refine bodyPost_ret (v := .tuple #[.agg #[.bool false, .slice a3 L.length c3, .slice a5 K.length c5], .int .i64 0]) (by simp only [results, Try.results13]; go_simp) rfl ⟨ResR.mk (NewR.set3 (r := ⟨false, L, K⟩) ⟨_, _, rfl, N7.out, P7.out⟩ A7.out (by decide) _ _ _) E5.out, ?_⟩
                      have := X7.out; (repeat (first | (with_reducible exact Ext.refl _) | (with_reducible assumption) | (with_reducible refine Ext.alloc ?_ _) | ((with_reducible refine Ext.setp ?_ ?_); focus (dsimp only; omega)) | (with_reducible refine Ext.drew ?_) | (with_reducible refine Ext.drewN ?_ _) | (with_reducible refine Ext.trans ?_ (by assumption))))
                    · skip
                      have e5 := E2.out
                      unfold okQ at e5
                      rw [if_neg hz0] at e5
                      obtain ⟨cc, hcc⟩ : ∃ cc, cc = chkR ⟨false, L, K⟩ := ⟨_, rfl⟩
                      rw [← hcc] at hchk hz0
                      have hzb : (cc != 0) = true := by simpa using hz0
                      have E5 := Lib.hid e5; have HCH := Lib.hid hchk
                      clear e5 hchk hz0 hcc
                      refine HCH.out.mono ?_
                      rintro e w7 ⟨rfl, hx7⟩
                      have B7 := Lib.hid (B6.out.ext hx7); have A7 := Lib.hid (A6.out.ext hx7); have X7 := Lib.hid (X6.out.trans hx7)
                      clear hx7
                      clear c0 f0 l0 c1 f1 l1
                      have c0 := B7.out.cell; have f0 := B7.out.free; have l0 := B7.out.lt
                      have c1 := A7.out.cell; have f1 := A7.out.free; have l1 := A7.out.lt
                      go_wp2_with fail
                      refine bodyPost_ret (v := .tuple #[.agg #[.bool false, .slice none 0 0, .slice none 0 0], .int .i64 2]) (by simp only [results, Try.results13]; go_simp) rfl ⟨ResR.mk (NewR.zero _ _) E5.out, ?_⟩
                      have := X7.out; (repeat (first | (with_reducible exact Ext.refl _) | (with_reducible assumption) | (with_reducible refine Ext.alloc ?_ _) | ((with_reducible refine Ext.setp ?_ ?_); focus (dsimp only; omega)) | (with_reducible refine Ext.drew ?_) | (with_reducible refine Ext.drewN ?_ _) | (with_reducible refine Ext.trans ?_ (by assumption))))
                · skip
                  have e3 := E2.out
                  rw [hp] at n5 e3 ⊢
                  dsimp only at n5 e3 ⊢
                  rw [if_pos (Or.inl hc8)] at e3
                  have E3 := Lib.hid e3
                  obtain ⟨a5, c5, rfl⟩ := n5.shape
                  have hcb : (c8 != 0) = true := by simpa using hc8
                  clear e3 hp hc8 n5 E2
                  go_wp2_with fail
                  refine bodyPost_ret (v := .tuple #[.agg #[.bool false, .slice none 0 0, .slice none 0 0], .int .i64 2]) (by simp only [results, Try.results13]; go_simp) rfl ⟨ResR.mk (NewR.zero _ _) E3.out, ?_⟩
                  have := X5.out; (repeat (first | (with_reducible exact Ext.refl _) | (with_reducible assumption) | (with_reducible refine Ext.alloc ?_ _) | ((with_reducible refine Ext.setp ?_ ?_); focus (dsimp only; omega)) | (with_reducible refine Ext.drew ?_) | (with_reducible refine Ext.drewN ?_ _) | (with_reducible refine Ext.trans ?_ (by assumption))))
              · skip
                have e2 := E4.out
                rw [if_neg hlt] at e2
                have E2 := Lib.hid e2
                have q1 : ¬ ((c : Int) < (T.size : Int)) := by omega
                clear e2 E4
                go_wp2_with fail
                have b4 : Blk (w3.setCell ⟨w.heap.size + 1, 1, none⟩ (.slice a3 L.length c3)) (w.heap.size + 1) #[.bool false, .slice a3 L.length c3, .slice none 0 0] 26 := by
                  have := B3.out.set 1 (.slice a3 L.length c3); simpa using this
                have B4 := Lib.hid b4
                have A4 := Lib.hid (A3.out.setOther (a := ⟨w.heap.size + 1, 1, none⟩) (by simp) (.slice a3 L.length c3))
                have X4 := Lib.hid (X3.out.set (p := ⟨w.heap.size + 1, 1, none⟩) (Nat.le_succ _) (.slice a3 L.length c3))
                have N4 := Lib.hid (OwB.setBlk N3.out B3.out (by decide) 1 (.slice a3 L.length c3))
                clear b4 N3
                have B6 := B4; have A6 := A4; have X6 := X4; have N6 := N4
                have P6 := Lib.hid (NewV.nil w (w3.setCell ⟨w.heap.size + 1, 1, none⟩ (.slice a3 L.length c3)))
                have hchk := refCheckR_any (.agg #[.bool false, .slice a3 L.length c3, .slice none 0 0]) ⟨false, L, []⟩ (w3.setCell ⟨w.heap.size + 1, 1, none⟩ (.slice a3 L.length c3)) ⟨_, _, rfl, NewV.rd N6.out, NewV.rd P6.out⟩ ⟨LL.out, fun x hx => by cases hx⟩
                by_cases hz0 : chkR ⟨false, L, []⟩ = 0
                · skip
                  rw [hz0] at hchk
                  have e5 := E2.out
                  unfold okQ at e5
                  rw [if_pos hz0] at e5
                  have E5 := Lib.hid e5; have HCH := Lib.hid hchk
                  clear e5 hchk hz0
                  refine HCH.out.mono ?_
                  rintro e w7 ⟨rfl, hx7⟩
                  have B7 := Lib.hid (B6.out.ext hx7); have A7 := Lib.hid (A6.out.ext hx7); have X7 := Lib.hid (X6.out.trans hx7)
                  have N7 := Lib.hid (NewV.ext N6.out hx7); have P7 := Lib.hid (NewV.ext P6.out hx7)
                  clear hx7
                  clear c0 f0 l0 c1 f1 l1
                  have c0 := B7.out.cell; have f0 := B7.out.free; have l0 := B7.out.lt
                  have c1 := A7.out.cell; have f1 := A7.out.free; have l1 := A7.out.lt
                  go_wp2_with fail
                  refine bodyPost_ret (v := .tuple #[.agg #[.bool false, .slice a3 L.length c3, .slice none 0 0], .int .i64 0]) (by simp only [results, Try.results13]; go_simp) rfl ⟨ResR.mk (NewR.set3 (r := ⟨false, L, []⟩) ⟨_, _, rfl, N7.out, P7.out⟩ A7.out (by decide) _ _ _) E5.out, ?_⟩
                  have := X7.out; (repeat (first | (with_reducible exact Ext.refl _) | (with_reducible assumption) | (with_reducible refine Ext.alloc ?_ _) | ((with_reducible refine Ext.setp ?_ ?_); focus (dsimp only; omega)) | (with_reducible refine Ext.drew ?_) | (with_reducible refine Ext.drewN ?_ _) | (with_reducible refine Ext.trans ?_ (by assumption))))
                · skip
                  have e5 := E2.out
                  unfold okQ at e5
                  rw [if_neg hz0] at e5
                  obtain ⟨cc, hcc⟩ : ∃ cc, cc = chkR ⟨false, L, []⟩ := ⟨_, rfl⟩
                  rw [← hcc] at hchk hz0
                  have hzb : (cc != 0) = true := by simpa using hz0
                  have E5 := Lib.hid e5; have HCH := Lib.hid hchk
                  clear e5 hchk hz0 hcc
                  refine HCH.out.mono ?_
                  rintro e w7 ⟨rfl, hx7⟩
                  have B7 := Lib.hid (B6.out.ext hx7); have A7 := Lib.hid (A6.out.ext hx7); have X7 := Lib.hid (X6.out.trans hx7)
                  clear hx7
                  clear c0 f0 l0 c1 f1 l1
                  have c0 := B7.out.cell; have f0 := B7.out.free; have l0 := B7.out.lt
                  have c1 := A7.out.cell; have f1 := A7.out.free; have l1 := A7.out.lt
                  go_wp2_with fail
                  refine bodyPost_ret (v := .tuple #[.agg #[.bool false, .slice none 0 0, .slice none 0 0], .int .i64 2]) (by simp only [results, Try.results13]; go_simp) rfl ⟨ResR.mk (NewR.zero _ _) E5.out, ?_⟩
                  have := X7.out; (repeat (first | (with_reducible exact Ext.refl _) | (with_reducible assumption) | (with_reducible refine Ext.alloc ?_ _) | ((with_reducible refine Ext.setp ?_ ?_); focus (dsimp only; omega)) | (with_reducible refine Ext.drew ?_) | (with_reducible refine Ext.drewN ?_ _) | (with_reducible refine Ext.trans ?_ (by assumption))))
            · skip
              have e3 := E1.out
              rw [hp] at n3 e3 ⊢
              dsimp only at n3 e3 ⊢
              rw [if_pos hc9] at e3
              have E3 := Lib.hid e3
              obtain ⟨a3, c3, rfl⟩ := n3.shape
              have hcb : (c9 != 0) = true := by simpa using hc9
              clear e3 hp hc9 n3 E1
              go_wp2_with fail
              refine bodyPost_ret (v := .tuple #[.agg #[.bool false, .slice none 0 0, .slice none 0 0], .int .i64 2]) (by simp only [results, Try.results13]; go_simp) rfl ⟨ResR.mk (NewR.zero _ _) E3.out, ?_⟩
              have := X3.out; (repeat (first | (with_reducible exact Ext.refl _) | (with_reducible assumption) | (with_reducible refine Ext.alloc ?_ _) | ((with_reducible refine Ext.setp ?_ ?_); focus (dsimp only; omega)) | (with_reducible refine Ext.drew ?_) | (with_reducible refine Ext.drewN ?_ _) | (with_reducible refine Ext.trans ?_ (by assumption))))
          · skip
            have hlt : j < T.size := by omega
            have hb255 : (T[j]'hlt).toNat < 256 := (T[j]'hlt).toNat_lt
            have q0 : (0 : Int) ≤ ((j + 1 : Nat) : Int) - 1 := by omega
            have q2 : ((j + 1 : Nat) : Int) - 1 = (j : Int) := by omega
            rw [q2] at q0 ⊢
            clear q2
            by_cases he : (T[j]'hlt).toNat = 47
            · have q1 : ((((T[j]'hlt).toNat : Nat) : Int) == 47) = true := by rw [he]; rfl
              have HE := Lib.hid he
              clear he
              go_wp2_with fail
              go_roundw
              case rel => exact ⟨j, j, Nat.le_refl _, by omega, by go_num, rfl, firstAt_here HE.out, by first | rfl | trivial⟩
              case measure => simp [intOf] <;> omega
            · have q1 : ((((T[j]'hlt).toNat : Nat) : Int) == 47) = false := by simp only [beq_eq_false_iff_ne]; omega
              have HE := Lib.hid he
              clear he
              go_wp2_with fail
              go_roundw
              case rel => exact ⟨j, c, by omega, hc, by go_num, rfl, firstAt_down HFA.out HE.out, by first | rfl | trivial⟩
              case measure => simp [intOf] <;> omega
    · skip
      have hneg : negT s = false := by unfold negT; rw [decide_eq_false (by omega)]; rfl
      have hbody : bodyT s = s := by unfold bodyT; rw [if_neg (by rw [hneg]; exact Bool.false_ne_true)]
      have q45 : ¬ (0 : Int) < (s.size : Int) := by omega
      rw [hneg] at hpq
      obtain ⟨T, hT⟩ : ∃ T, T = bodyT s := ⟨_, rfl⟩
      rw [← hT] at hpq hts
      have hTT := hT.trans hbody
      have HPQ := Lib.hid hpq
      subst hTT
      clear hpq hneg hbody hT
      go_enter Try.func13, Try.ntmps13
      go_wp2_with fail
      have hsz4 : T.size ≤ 4096 := by omega
      have bB : Blk ((w.alloc (.cells #[.bool false, .slice none 0 0, .slice none 0 0] 26)).alloc (.cells #[.bool false, .slice none 0 0, .slice none 0 0] 26)) (w.heap.size + 1) #[.bool false, .slice none 0 0, .slice none 0 0] 26 := by
        have := Blk.new (w.alloc (.cells #[.bool false, .slice none 0 0, .slice none 0 0] 26)) #[.bool false, .slice none 0 0, .slice none 0 0] 26
        rwa [World.size_alloc] at this
      have aA := A0.out.ext ((Ext.refl _).alloc (.cells #[.bool false, .slice none 0 0, .slice none 0 0] 26))
      have xX := X0.out.trans ((Ext.refl _).alloc (.cells #[.bool false, .slice none 0 0, .slice none 0 0] 26))
      obtain ⟨w1, hw1⟩ : ∃ x, x = ((w.alloc (.cells #[.bool false, .slice none 0 0, .slice none 0 0] 26)).alloc (.cells #[.bool false, .slice none 0 0, .slice none 0 0] 26)) := ⟨_, rfl⟩
      rw [← hw1] at bB aA xX ⊢
      have BB := Lib.hid bB; have AA := Lib.hid aA; have XX := Lib.hid xX
      clear bB aA xX hw1
      have c0 := BB.out.cell; have f0 := BB.out.free; have l0 := BB.out.lt
      have c1 := AA.out.cell; have f1 := AA.out.free; have l1 := AA.out.lt
      go_loopw [5, 6] (fun cut i wr => ∃ j c : Nat, j ≤ c ∧ c ≤ T.size ∧ i = .int .i64 ((j : Int) - 1) ∧ cut = .int .i64 c ∧ FirstAt T j c ∧ wr = w1) (fun _ i _ => (intOf i + 1).toNat)
      case atStart => exact ⟨T.size, T.size, Nat.le_refl _, Nat.le_refl _, rfl, rfl, firstAt_end T, rfl⟩
      case round =>
        obtain ⟨j, c, hjc, hc, rfl, rfl, hfa, rfl⟩ := hrel
        have HFA := Lib.hid hfa
        clear hfa
        rcases j with _ | j
        · skip
          have e1 := HPQ.out c hc HFA.out
          have E1 := Lib.hid e1
          clear e1 HFA HPQ hjc
          obtain ⟨A, hA⟩ : ∃ A, T.extract 0 c = A := ⟨_, rfl⟩
          rw [hA] at E1
          have q0 : ¬ (0 : Int) ≤ ((0 : Nat) : Int) - 1 := by omega
          go_wp2_with fail
          (try rw [hA])
          refine (refParse_any A _).mono ?_
          rintro e w3 ⟨⟨v3, rfl, n3⟩, hx3⟩
          have B3 := Lib.hid (BB.out.ext hx3); have A3 := Lib.hid (AA.out.ext hx3); have X3 := Lib.hid (XX.out.trans hx3)
          have n3 := n3.from XX.out
          clear hx3
          clear c0 f0 l0 c1 f1 l1
          have c0 := B3.out.cell; have f0 := B3.out.free; have l0 := B3.out.lt
          have c1 := A3.out.cell; have f1 := A3.out.free; have l1 := A3.out.lt
          rcases parse_cases A with ⟨n, hn, hp, _⟩ | ⟨c9, hc9, hp⟩
          · skip
            have e1 := E1.out
            rw [hp] at n3 e1 ⊢
            dsimp only at n3 e1 ⊢
            rw [if_neg (by decide)] at e1
            obtain ⟨a3, c3, rfl⟩ := n3.shape
            obtain ⟨L, hL⟩ : ∃ L, L = lim n := ⟨_, rfl⟩
            rw [← hL] at n3 e1 ⊢
            have LL : Hid (Lim L) := Lib.hid (by rw [hL]; exact lim_lim _)
            have N3 := Lib.hid n3; have E4 := Lib.hid e1
            clear n3 e1 hp hn hL E1 hA q0
            by_cases hlt : c < T.size
            · exact absurd hlt (by omega)
            · skip
              have e2 := E4.out
              rw [if_neg hlt] at e2
              have E2 := Lib.hid e2
              have q1 : ¬ ((c : Int) < (T.size : Int)) := by omega
              clear e2 E4
              go_wp2_with fail
              have b4 : Blk (w3.setCell ⟨w.heap.size + 1, 1, none⟩ (.slice a3 L.length c3)) (w.heap.size + 1) #[.bool false, .slice a3 L.length c3, .slice none 0 0] 26 := by
                have := B3.out.set 1 (.slice a3 L.length c3); simpa using this
              have B4 := Lib.hid b4
              have A4 := Lib.hid (A3.out.setOther (a := ⟨w.heap.size + 1, 1, none⟩) (by simp) (.slice a3 L.length c3))
              have X4 := Lib.hid (X3.out.set (p := ⟨w.heap.size + 1, 1, none⟩) (Nat.le_succ _) (.slice a3 L.length c3))
              have N4 := Lib.hid (OwB.setBlk N3.out B3.out (by decide) 1 (.slice a3 L.length c3))
              clear b4 N3
              have B6 := B4; have A6 := A4; have X6 := X4; have N6 := N4
              have P6 := Lib.hid (NewV.nil w (w3.setCell ⟨w.heap.size + 1, 1, none⟩ (.slice a3 L.length c3)))
              have hchk := refCheckR_any (.agg #[.bool false, .slice a3 L.length c3, .slice none 0 0]) ⟨false, L, []⟩ (w3.setCell ⟨w.heap.size + 1, 1, none⟩ (.slice a3 L.length c3)) ⟨_, _, rfl, NewV.rd N6.out, NewV.rd P6.out⟩ ⟨LL.out, fun x hx => by cases hx⟩
              by_cases hz0 : chkR ⟨false, L, []⟩ = 0
              · skip
                rw [hz0] at hchk
                have e5 := E2.out
                unfold okQ at e5
                rw [if_pos hz0] at e5
                have E5 := Lib.hid e5; have HCH := Lib.hid hchk
                clear e5 hchk hz0
                refine HCH.out.mono ?_
                rintro e w7 ⟨rfl, hx7⟩
                have B7 := Lib.hid (B6.out.ext hx7); have A7 := Lib.hid (A6.out.ext hx7); have X7 := Lib.hid (X6.out.trans hx7)
                have N7 := Lib.hid (NewV.ext N6.out hx7); have P7 := Lib.hid (NewV.ext P6.out hx7)
                clear hx7
                clear c0 f0 l0 c1 f1 l1
                have c0 := B7.out.cell; have f0 := B7.out.free; have l0 := B7.out.lt
                have c1 := A7.out.cell; have f1 := A7.out.free; have l1 := A7.out.lt
                go_wp2_with fail
                refine bodyPost_ret (v := .tuple #[.agg #[.bool false, .slice a3 L.length c3, .slice none 0 0], .int .i64 0]) (by simp only [results, Try.results13]; go_simp) rfl ⟨ResR.mk (NewR.set3 (r := ⟨false, L, []⟩) ⟨_, _, rfl, N7.out, P7.out⟩ A7.out (by decide) _ _ _) E5.out, ?_⟩
                have := X7.out; (repeat (first | (with_reducible exact Ext.refl _) | (with_reducible assumption) | (with_reducible refine Ext.alloc ?_ _) | ((with_reducible refine Ext.setp ?_ ?_); focus (dsimp only; omega)) | (with_reducible refine Ext.drew ?_) | (with_reducible refine Ext.drewN ?_ _) | (with_reducible refine Ext.trans ?_ (by assumption))))
              · skip
                have e5 := E2.out
                unfold okQ at e5
                rw [if_neg hz0] at e5
                obtain ⟨cc, hcc⟩ : ∃ cc, cc = chkR ⟨false, L, []⟩ := ⟨_, rfl⟩
                rw [← hcc] at hchk hz0
                have hzb : (cc != 0) = true := by simpa using hz0
                have E5 := Lib.hid e5; have HCH := Lib.hid hchk
                clear e5 hchk hz0 hcc
                refine HCH.out.mono ?_
                rintro e w7 ⟨rfl, hx7⟩
                have B7 := Lib.hid (B6.out.ext hx7); have A7 := Lib.hid (A6.out.ext hx7); have X7 := Lib.hid (X6.out.trans hx7)
                clear hx7
                clear c0 f0 l0 c1 f1 l1
                have c0 := B7.out.cell; have f0 := B7.out.free; have l0 := B7.out.lt
                have c1 := A7.out.cell; have f1 := A7.out.free; have l1 := A7.out.lt
                go_wp2_with fail
                refine bodyPost_ret (v := .tuple #[.agg #[.bool false, .slice none 0 0, .slice none 0 0], .int .i64 2]) (by simp only [results, Try.results13]; go_simp) rfl ⟨ResR.mk (NewR.zero _ _) E5.out, ?_⟩
                have := X7.out; (repeat (first | (with_reducible exact Ext.refl _) | (with_reducible assumption) | (with_reducible refine Ext.alloc ?_ _) | ((with_reducible refine Ext.setp ?_ ?_); focus (dsimp only; omega)) | (with_reducible refine Ext.drew ?_) | (with_reducible refine Ext.drewN ?_ _) | (with_reducible refine Ext.trans ?_ (by assumption))))
          · skip
            have e3 := E1.out
            rw [hp] at n3 e3 ⊢
            dsimp only at n3 e3 ⊢
            rw [if_pos hc9] at e3
            have E3 := Lib.hid e3
            obtain ⟨a3, c3, rfl⟩ := n3.shape
            have hcb : (c9 != 0) = true := by simpa using hc9
            clear e3 hp hc9 n3 E1
            go_wp2_with fail
            refine bodyPost_ret (v := .tuple #[.agg #[.bool false, .slice none 0 0, .slice none 0 0], .int .i64 2]) (by simp only [results, Try.results13]; go_simp) rfl ⟨ResR.mk (NewR.zero _ _) E3.out, ?_⟩
            have := X3.out; (repeat (first | (with_reducible exact Ext.refl _) | (with_reducible assumption) | (with_reducible refine Ext.alloc ?_ _) | ((with_reducible refine Ext.setp ?_ ?_); focus (dsimp only; omega)) | (with_reducible refine Ext.drew ?_) | (with_reducible refine Ext.drewN ?_ _) | (with_reducible refine Ext.trans ?_ (by assumption))))
        · skip
          have hlt : j < T.size := by omega
          have hb255 : (T[j]'hlt).toNat < 256 := (T[j]'hlt).toNat_lt
          have q0 : (0 : Int) ≤ ((j + 1 : Nat) : Int) - 1 := by omega
          have q2 : ((j + 1 : Nat) : Int) - 1 = (j : Int) := by omega
          rw [q2] at q0 ⊢
          clear q2
          by_cases he : (T[j]'hlt).toNat = 47
          · have q1 : ((((T[j]'hlt).toNat : Nat) : Int) == 47) = true := by rw [he]; rfl
            have HE := Lib.hid he
            clear he
            go_wp2_with fail
            go_roundw
            case rel => exact ⟨j, j, Nat.le_refl _, by omega, by go_num, rfl, firstAt_here HE.out, by first | rfl | trivial⟩
            case measure => simp [intOf] <;> omega
          · have q1 : ((((T[j]'hlt).toNat : Nat) : Int) == 47) = false := by simp only [beq_eq_false_iff_ne]; omega
            have HE := Lib.hid he
            clear he
            go_wp2_with fail
            go_roundw
            case rel => exact ⟨j, c, by omega, hc, by go_num, rfl, firstAt_down HFA.out HE.out, by first | rfl | trivial⟩
            case measure => simp [intOf] <;> omega

end Go.Proofs.Ytebdmmlniohhgaa
