/- Walk of the law BigTexts: it returns true. Conditions: a slice of limbs, a text, a number of 64 bits. -/
import Derived.Test.YtoicjiiifffciaaBigRow
import Derived.Test.YtoicjiiifffciaaBigTq
namespace Go.Proofs.Ytoicjiiifffciaa
set_option linter.unusedSimpArgs false
set_option linter.unusedVariables false
open Go.RowKit

theorem text_small {l : List Int} (hl : Lim l) (h : l.length ≤ 20) : (decT (nv l)).size ≤ 4096 ∧ nv l < MAXN := by
  have h1 := nv_lt hl
  have h2 := decT_size (nv l)
  have h3 : blen (nv l) ≤ 32 * l.length := blen_le.2 (by rw [← pow_two]; exact h1)
  exact ⟨by omega, pow_max h1 (by omega)⟩

theorem text_cases {l : List Int} (hl : Lim l) (h : l.length ≤ 20 ∨ 512 < l.length) : (∃ T, textS l = (T, 0) ∧ parseS T = (l, 0)) ∨ (∃ c, c ≠ 0 ∧ textS l = (⟨#[]⟩, c)) := by
  unfold textS
  by_cases hc : chkE l = 0
  · left
    obtain ⟨g, z⟩ := chkE_0 hc
    have hs : l.length ≤ 20 := by omega
    obtain ⟨h1, h2⟩ := text_small hl hs
    rw [if_pos hc]
    refine ⟨_, rfl, ?_⟩
    rw [parse_text h2 h1, lim_nv hl z]
  · right
    rw [if_neg hc]
    exact ⟨_, hc, rfl⟩

theorem chkE_lim0 {n : Nat} (h : n < MAXN) : chkE (lim n) = 0 := by
  have := chkE_limB h
  have h2 := chk2_ok this.1 this.2 this.1 this.2
  unfold chk2 orE at h2
  by_cases h0 : chkE (lim n) = 0
  · exact h0
  · simp [h0] at h2

theorem text_back {n : Nat} (h : n < MAXN) : textS (lim n) = (decT n, 0) := by
  unfold textS
  rw [if_pos (chkE_lim0 h), nv_lim]

theorem small64 {n : Nat} (h : n < 18446744073709551616) : n < MAXN ∧ (lim n).length ≤ 2 := by
  have h1 : n < 4294967296 ^ 2 := Nat.lt_of_lt_of_le h (by decide)
  exact ⟨pow_max h1 (by omega), lim_len_le.2 h1⟩
theorem int_back {n : Nat} (h : n < 18446744073709551616) : intS (lim n) = ((n : Int), 0) := by
  unfold intS
  rw [if_pos (chkE_lim0 (small64 h).1), if_neg (by have := (small64 h).2; omega), nv_lim]
theorem bits_back {n : Nat} (h : n < 18446744073709551616) : bitsS (lim n) = ((blen n : Int), 0) := by
  unfold bitsS
  rw [if_pos (chkE_lim0 (small64 h).1), nv_lim]

set_option maxRecDepth 100000 in
set_option maxHeartbeats 4000000 in
theorem texts_any (v : Value) (l : List Int) (s : ByteArray) (n : Nat) (w : World) (h1 : RdI .u32 w v l) (hl1 : Lim l) (hn : n < 18446744073709551616) :
    Calls Try.prog 8 #[v, .string s, .int .u64 n] w fun en w' => en = .returned (.bool true) ∧ Ext w w' := by
  have H1 := Lib.hid h1
  obtain ⟨a1, c1, rfl, hc1, hm1, hr1⟩ := rdU h1
  have HL1 := Lib.hid hl1
  have hb64 : blen n ≤ 64 := blen_le.2 (Nat.lt_of_lt_of_le hn (by decide))
  have E1 := Lib.hid (int_back hn); have E2 := Lib.hid (bits_back hn)
  clear h1 hr1 hl1
  go_enter Try.func8, Try.ntmps8
  go_wp2_with fail
  refine (long1_any a1 l.length c1 w).mono ?_
  rintro e w1 ⟨⟨r, rfl, hr⟩, hx1⟩
  have X1 := Lib.hid hx1
  clear hx1
  by_cases hs2 : (200 : Int) < (s.size : Int)
  · clear hr
    cases r
    all_goals
      go_wp2_with fail
      refine (awake_any _).mono ?_
      rintro e w2 ⟨rfl, hx2⟩
      have X2 := Lib.hid (X1.out.trans hx2)
      clear hx2
      go_wp2_with fail
      go_ret
      exact ⟨rfl, X2.out⟩
  · cases r
    · have HR := hr rfl
      clear hr
      have htc := text_cases HL1.out HR
      have hpc := parse_cases s
      clear HR
      go_wp2_with fail
      refine (awake_any _).mono ?_
      rintro e w2 ⟨rfl, hx2⟩
      have X2 := Lib.hid (X1.out.trans hx2)
      clear hx2
      go_wp2_with fail
      have hcall := text_any _ l _ (H1.out.ext X2.out) HL1.out
      rcases htc with ⟨T, eT, pT⟩ | ⟨c, hc0, eT⟩
      all_goals
        rw [eT] at hcall
        refine hcall.mono ?_
        clear hcall eT
        rintro e w3 ⟨rfl, hx3⟩
        have X3 := Lib.hid (X2.out.trans hx3)
        clear hx3
      · have PT := Lib.hid pT
        clear pT
        go_wp2_with fail
        refine (parse_any T _).mono ?_
        rw [PT.out]
        rintro e w4 ⟨⟨vb, rfl, nb⟩, hx4⟩
        obtain ⟨ab, cb, rfl⟩ := nb.shape
        have R := Lib.hid nb.rd
        have X4 := Lib.hid (X3.out.trans hx4)
        clear nb hx4
        go_wp2_with fail
        have hs1 := same_any (.slice ab l.length cb) (.slice a1 l.length c1) 0 0 l l w4 R.out (H1.out.ext X4.out)
        rw [decide_eq_true (by exact ⟨rfl, rfl, rfl⟩)] at hs1
        refine hs1.mono ?_
        clear hs1
        rintro e w5 ⟨rfl, hx5⟩
        have X5 := Lib.hid (X4.out.trans hx5)
        clear hx5
        go_wp2_with fail
        have XL := X5
        clear X5 X4 X3 X2 R
        refine (parse_any s _).mono ?_
        rcases hpc with ⟨m, hm, eP, eD⟩ | ⟨cc, hcc, eP⟩
        all_goals
          rw [eP]
          clear eP
          rintro e w6 ⟨⟨vp, rfl, np⟩, hx6⟩
          obtain ⟨ap, cp, rfl⟩ := np.shape
          have XM := Lib.hid (XL.out.trans hx6)
          have RP := Lib.hid np.rd
          clear np hx6 XL
        · have etx := text_back hm
          rw [eD] at etx
          have ETX := Lib.hid etx
          clear etx hm eD
          go_wp2_with fail
          have htx := text_any _ (lim m) _ RP.out (lim_lim _)
          rw [ETX.out] at htx
          refine htx.mono ?_
          clear htx
          rintro e w7 ⟨rfl, hx7⟩
          have XN := Lib.hid (XM.out.trans hx7)
          clear hx7 XM RP
          go_wp2_with fail
          refine (from_any n _ hn).mono ?_
          rintro e w8 ⟨⟨vf, rfl, nf⟩, hx8⟩
          obtain ⟨af, cf, rfl⟩ := nf.shape
          have RF := Lib.hid nf.rd
          have X8 := Lib.hid (XN.out.trans hx8)
          clear nf hx8 XN
          go_wp2_with fail
          have hin := int_any _ (lim n) _ RF.out (lim_lim _)
          rw [E1.out] at hin
          refine hin.mono ?_
          clear hin
          rintro e w9 ⟨rfl, hx9⟩
          have RF := Lib.hid (RF.out.ext hx9)
          have X9 := Lib.hid (X8.out.trans hx9)
          clear hx9
          go_wp2_with fail
          have hin := bits_any _ (lim n) _ RF.out (lim_lim _)
          rw [E2.out] at hin
          refine hin.mono ?_
          clear hin
          rintro e w10 ⟨rfl, hx10⟩
          have X10 := Lib.hid (X9.out.trans hx10)
          clear hx10 X9 X8 RF
          by_cases hn0 : n = 0
          · subst hn0
            have hb0 : blen 0 = 0 := rfl
            rw [hb0]
            go_wp2_with fail
            go_ret
            exact ⟨rfl, X10.out⟩
          · have hone := blen_one hn0
            have hpos := blen_pos hn0
            obtain ⟨j, hj⟩ : ∃ j, blen n = j + 1 := ⟨blen n - 1, by omega⟩
            rw [hj, Nat.add_sub_cancel] at hone
            rw [hj] at hb64 ⊢
            have hn0' : ¬ (n : Int) = 0 := by omega
            have hn1' : ((n : Int) == 0) = false := by simpa using hn0
            clear hpos hj
            go_wp2_with fail
            go_ret
            refine ⟨ret_bool ?_, X10.out⟩
            have h1 : ((n : Int) / 2 ^ j) = 1 := by
              have h2 : ((n / 2 ^ j : Nat) : Int) = 1 := by rw [hone]; rfl
              rw [← h2]; simp
            rw [h1]
            simpa using hn0
        · have hccb : (cc == 0) = false := by simpa using hcc
          have XN := XM
          clear XM RP
          go_wp2_with fail
          refine (from_any n _ hn).mono ?_
          rintro e w8 ⟨⟨vf, rfl, nf⟩, hx8⟩
          obtain ⟨af, cf, rfl⟩ := nf.shape
          have RF := Lib.hid nf.rd
          have X8 := Lib.hid (XN.out.trans hx8)
          clear nf hx8 XN
          go_wp2_with fail
          have hin := int_any _ (lim n) _ RF.out (lim_lim _)
          rw [E1.out] at hin
          refine hin.mono ?_
          clear hin
          rintro e w9 ⟨rfl, hx9⟩
          have RF := Lib.hid (RF.out.ext hx9)
          have X9 := Lib.hid (X8.out.trans hx9)
          clear hx9
          go_wp2_with fail
          have hin := bits_any _ (lim n) _ RF.out (lim_lim _)
          rw [E2.out] at hin
          refine hin.mono ?_
          clear hin
          rintro e w10 ⟨rfl, hx10⟩
          have X10 := Lib.hid (X9.out.trans hx10)
          clear hx10 X9 X8 RF
          by_cases hn0 : n = 0
          · subst hn0
            have hb0 : blen 0 = 0 := rfl
            rw [hb0]
            go_wp2_with fail
            go_ret
            exact ⟨rfl, X10.out⟩
          · have hone := blen_one hn0
            have hpos := blen_pos hn0
            obtain ⟨j, hj⟩ : ∃ j, blen n = j + 1 := ⟨blen n - 1, by omega⟩
            rw [hj, Nat.add_sub_cancel] at hone
            rw [hj] at hb64 ⊢
            have hn0' : ¬ (n : Int) = 0 := by omega
            have hn1' : ((n : Int) == 0) = false := by simpa using hn0
            clear hpos hj
            go_wp2_with fail
            go_ret
            refine ⟨ret_bool ?_, X10.out⟩
            have h1 : ((n : Int) / 2 ^ j) = 1 := by
              have h2 : ((n / 2 ^ j : Nat) : Int) = 1 := by rw [hone]; rfl
              rw [← h2]; simp
            rw [h1]
            simpa using hn0
      · have hcb : (c == 0) = false := by simpa using hc0
        go_wp2_with fail
        have XL := X3
        clear X3 X2
        refine (parse_any s _).mono ?_
        rcases hpc with ⟨m, hm, eP, eD⟩ | ⟨cc, hcc, eP⟩
        all_goals
          rw [eP]
          clear eP
          rintro e w6 ⟨⟨vp, rfl, np⟩, hx6⟩
          obtain ⟨ap, cp, rfl⟩ := np.shape
          have XM := Lib.hid (XL.out.trans hx6)
          have RP := Lib.hid np.rd
          clear np hx6 XL
        · have etx := text_back hm
          rw [eD] at etx
          have ETX := Lib.hid etx
          clear etx hm eD
          go_wp2_with fail
          have htx := text_any _ (lim m) _ RP.out (lim_lim _)
          rw [ETX.out] at htx
          refine htx.mono ?_
          clear htx
          rintro e w7 ⟨rfl, hx7⟩
          have XN := Lib.hid (XM.out.trans hx7)
          clear hx7 XM RP
          go_wp2_with fail
          refine (from_any n _ hn).mono ?_
          rintro e w8 ⟨⟨vf, rfl, nf⟩, hx8⟩
          obtain ⟨af, cf, rfl⟩ := nf.shape
          have RF := Lib.hid nf.rd
          have X8 := Lib.hid (XN.out.trans hx8)
          clear nf hx8 XN
          go_wp2_with fail
          have hin := int_any _ (lim n) _ RF.out (lim_lim _)
          rw [E1.out] at hin
          refine hin.mono ?_
          clear hin
          rintro e w9 ⟨rfl, hx9⟩
          have RF := Lib.hid (RF.out.ext hx9)
          have X9 := Lib.hid (X8.out.trans hx9)
          clear hx9
          go_wp2_with fail
          have hin := bits_any _ (lim n) _ RF.out (lim_lim _)
          rw [E2.out] at hin
          refine hin.mono ?_
          clear hin
          rintro e w10 ⟨rfl, hx10⟩
          have X10 := Lib.hid (X9.out.trans hx10)
          clear hx10 X9 X8 RF
          by_cases hn0 : n = 0
          · subst hn0
            have hb0 : blen 0 = 0 := rfl
            rw [hb0]
            go_wp2_with fail
            go_ret
            exact ⟨rfl, X10.out⟩
          · have hone := blen_one hn0
            have hpos := blen_pos hn0
            obtain ⟨j, hj⟩ : ∃ j, blen n = j + 1 := ⟨blen n - 1, by omega⟩
            rw [hj, Nat.add_sub_cancel] at hone
            rw [hj] at hb64 ⊢
            have hn0' : ¬ (n : Int) = 0 := by omega
            have hn1' : ((n : Int) == 0) = false := by simpa using hn0
            clear hpos hj
            go_wp2_with fail
            go_ret
            refine ⟨ret_bool ?_, X10.out⟩
            have h1 : ((n : Int) / 2 ^ j) = 1 := by
              have h2 : ((n / 2 ^ j : Nat) : Int) = 1 := by rw [hone]; rfl
              rw [← h2]; simp
            rw [h1]
            simpa using hn0
        · have hccb : (cc == 0) = false := by simpa using hcc
          have XN := XM
          clear XM RP
          go_wp2_with fail
          refine (from_any n _ hn).mono ?_
          rintro e w8 ⟨⟨vf, rfl, nf⟩, hx8⟩
          obtain ⟨af, cf, rfl⟩ := nf.shape
          have RF := Lib.hid nf.rd
          have X8 := Lib.hid (XN.out.trans hx8)
          clear nf hx8 XN
          go_wp2_with fail
          have hin := int_any _ (lim n) _ RF.out (lim_lim _)
          rw [E1.out] at hin
          refine hin.mono ?_
          clear hin
          rintro e w9 ⟨rfl, hx9⟩
          have RF := Lib.hid (RF.out.ext hx9)
          have X9 := Lib.hid (X8.out.trans hx9)
          clear hx9
          go_wp2_with fail
          have hin := bits_any _ (lim n) _ RF.out (lim_lim _)
          rw [E2.out] at hin
          refine hin.mono ?_
          clear hin
          rintro e w10 ⟨rfl, hx10⟩
          have X10 := Lib.hid (X9.out.trans hx10)
          clear hx10 X9 X8 RF
          by_cases hn0 : n = 0
          · subst hn0
            have hb0 : blen 0 = 0 := rfl
            rw [hb0]
            go_wp2_with fail
            go_ret
            exact ⟨rfl, X10.out⟩
          · have hone := blen_one hn0
            have hpos := blen_pos hn0
            obtain ⟨j, hj⟩ : ∃ j, blen n = j + 1 := ⟨blen n - 1, by omega⟩
            rw [hj, Nat.add_sub_cancel] at hone
            rw [hj] at hb64 ⊢
            have hn0' : ¬ (n : Int) = 0 := by omega
            have hn1' : ((n : Int) == 0) = false := by simpa using hn0
            clear hpos hj
            go_wp2_with fail
            go_ret
            refine ⟨ret_bool ?_, X10.out⟩
            have h1 : ((n : Int) / 2 ^ j) = 1 := by
              have h2 : ((n / 2 ^ j : Nat) : Int) = 1 := by rw [hone]; rfl
              rw [← h2]; simp
            rw [h1]
            simpa using hn0
    · clear hr
      go_wp2_with fail
      refine (awake_any _).mono ?_
      rintro e w2 ⟨rfl, hx2⟩
      have X2 := Lib.hid (X1.out.trans hx2)
      clear hx2
      go_wp2_with fail
      go_ret
      exact ⟨rfl, X2.out⟩

end Go.Proofs.Ytoicjiiifffciaa
