/- Walk of the law RatTexts: it returns true (written by mktextsq.py). Conditions: an api.Rat whose slices read as limbs, a text. -/
import Derived.Test.YtebdmmlniohhgaaRatTp
import Derived.Test.YtebdmmlniohhgaaLawField
namespace Go.Proofs.Ytebdmmlniohhgaa
set_option linter.unusedSimpArgs false
set_option linter.unusedVariables false
open Go.RowKit

/-- One argument. -/
theorem long61_any (b1 : Bool) (x1 x3 : Option Addr) (n1 m1 x2 x4 : Nat) (W : World) (n : Nat) (hn : W.heap.size = n) :
    Calls Try.prog 19 #[.slice (some ⟨n, 0, none⟩) 1 1] (W.alloc (.cells #[.bool b1, .slice x1 n1 x2, .slice x3 m1 x4] 26)) fun e w' =>
      (∃ r, e = .returned (.bool r) ∧ (r = false → okLen n1 ∧ okLen m1)) ∧ Ext W w' := by
  subst hn
  have hb := Blk.new W #[.bool b1, .slice x1 n1 x2, .slice x3 m1 x4] 26
  refine (long6_any W.heap.size [((x1, n1, x2), (x3, m1, x4))] _ (by simp) (fun i hi => ?_)).mono ?_
  · match i, hi with
    | 0, _ => exact ⟨(hb.cell 1).trans rfl, (hb.cell 2).trans rfl⟩
  · rintro e w' ⟨⟨r, h, hr⟩, hx⟩
    exact ⟨⟨r, h, fun e => hr e 0 (by simp)⟩, ((Ext.refl W).alloc _).trans hx⟩

set_option maxRecDepth 100000 in
set_option maxHeartbeats 8000000 in
theorem textsq_any (v1 : Value) (r1 : RR) (s : ByteArray) (w : World) (h1 : RdR w v1 r1) (g1 : LimR r1) :
    Calls Try.prog 4 #[v1, .string s] w fun en w' => en = .returned (.bool true) ∧ Ext w w' := by
  obtain ⟨x1, x2, x3, x4, rfl⟩ := h1.shape
  have Nx := Lib.hid h1; have G1 := Lib.hid g1
  clear h1 g1
  have Bx := Lib.hid (Blk.new w #[.bool r1.neg, .slice x1 r1.num.length x2, .slice x3 r1.den.length x4] 26)
  have x0 : Ext w (w.alloc (.cells #[.bool r1.neg, .slice x1 r1.num.length x2, .slice x3 r1.den.length x4] 26)) := (Ext.refl w).alloc _
  have X := Lib.hid x0; have Nx := Lib.hid (Nx.out.ext x0)
  clear x0
  by_cases hs : 200 < s.size
  case pos =>
    have q0 : (200 : Int) < (s.size : Int) := by omega
    go_enter Try.func4, Try.ntmps4
    have qBx := Bx.out.cell; have lBx := Bx.out.lt
    go_wp2_with fail
    refine (long61_any r1.neg x1 x3 r1.num.length r1.den.length x2 x4 (w.alloc (.cells #[.bool r1.neg, .slice x1 r1.num.length x2, .slice x3 r1.den.length x4] 26)) (w.heap.size + 1) (by simp)).mono ?_
    rintro e w0 ⟨⟨rl, rfl, hr⟩, hx⟩
    have Bx := Lib.hid (Bx.out.ext hx)
    have Nx := Lib.hid (Nx.out.ext hx)
    have X := Lib.hid (X.out.trans hx)
    clear qBx lBx
    clear hx
    clear hr
    cases rl
    all_goals
      go_wp2_with fail
      refine (awake6_any _).mono ?_
      rintro e wz ⟨rfl, hx⟩
      have X := Lib.hid (X.out.trans hx)
      clear hx
      go_wp2_with fail
      go_ret
      exact ⟨rfl, X.out⟩
  have q0 : ¬ (200 : Int) < (s.size : Int) := by omega
  have hck := fun W h => textR_any (.agg #[.bool r1.neg, .slice x1 r1.num.length x2, .slice x3 r1.den.length x4]) r1 W h G1.out
  have hpa := fun W => parseR_any s W
  obtain ⟨Q, hQ⟩ : ∃ Q, Q = parseQ s := ⟨_, rfl⟩
  obtain ⟨U, hU⟩ : ∃ U, U = textR r1 := ⟨_, rfl⟩
  rw [← hQ] at hpa
  rw [← hU] at hck
  have HCK := Lib.hid hck; have HPA := Lib.hid hpa; have HQ := Lib.hid hQ; have HU := Lib.hid hU
  clear hck hpa hQ hU hs
  go_enter Try.func4, Try.ntmps4
  have qBx := Bx.out.cell; have lBx := Bx.out.lt
  go_wp2_with fail
  refine (long61_any r1.neg x1 x3 r1.num.length r1.den.length x2 x4 (w.alloc (.cells #[.bool r1.neg, .slice x1 r1.num.length x2, .slice x3 r1.den.length x4] 26)) (w.heap.size + 1) (by simp)).mono ?_
  rintro e w0 ⟨⟨rl, rfl, hr⟩, hx⟩
  have Bx := Lib.hid (Bx.out.ext hx)
  have Nx := Lib.hid (Nx.out.ext hx)
  have X := Lib.hid (X.out.trans hx)
  clear qBx lBx
  clear hx
  cases rl
  case true =>
    clear hr
    go_wp2_with fail
    refine (awake6_any _).mono ?_
    rintro e wz ⟨rfl, hx⟩
    have X := Lib.hid (X.out.trans hx)
    clear hx
    go_wp2_with fail
    go_ret
    exact ⟨rfl, X.out⟩
  have HL := Lib.hid (hr rfl)
  clear hr
  go_wp2_with fail
  refine (awake6_any _).mono ?_
  rintro e w1 ⟨rfl, hx⟩
  have Bx := Lib.hid (Bx.out.ext hx)
  have Nx := Lib.hid (Nx.out.ext hx)
  have X := Lib.hid (X.out.trans hx)
  clear hx
  dsimp only
  have qBx := Bx.out.cell; have lBx := Bx.out.lt
  go_wp2_with fail
  refine (HCK.out _ Nx.out).mono ?_
  rintro e w2 ⟨rfl, hx⟩
  have Bx := Lib.hid (Bx.out.ext hx)
  have Nx := Lib.hid (Nx.out.ext hx)
  have X := Lib.hid (X.out.trans hx)
  clear qBx lBx
  clear hx
  dsimp only
  have hmid : (∃ T, U = (T, 0) ∧ parseQ T = (r1, 0)) ∨ (∃ c, c ≠ 0 ∧ U = (⟨#[]⟩, c)) := by
    by_cases hc : chkR r1 = 0
    · left; rw [HU.out]; exact parse_textQ G1.out hc HL.out.1 HL.out.2
    · right; refine ⟨_, hc, ?_⟩; rw [HU.out]; unfold textR; rw [if_neg hc]
  have hend : (∃ r, Q = (r, 0) ∧ chkR r = 0 ∧ LimR r ∧ textR r = (s, 0)) ∨ (∃ c, c ≠ 0 ∧ Q = (zR, c)) := by rw [HQ.out]; exact text_parseQ s
  have HEND := Lib.hid hend
  clear hend
  rcases hmid with ⟨TT, rfl, hp⟩ | ⟨c, hc, rfl⟩
  case inl =>
    have hpb := fun W => parseR_any TT W
    rw [hp] at hpb
    have HPB := Lib.hid hpb
    clear hpb hp
    dsimp only
    go_wp2_with fail
    refine (HPB.out _).mono ?_
    rintro e w3 ⟨⟨v, rfl, nn⟩, hx⟩
    have Bx := Lib.hid (Bx.out.ext hx)
    have Nx := Lib.hid (Nx.out.ext hx)
    have X := Lib.hid (X.out.trans hx)
    obtain ⟨tt1, tt2, tt3, tt4, rfl⟩ := nn.shape
    have Ntt := Lib.hid nn.rd
    clear nn hx
    dsimp only
    have Btt := Lib.hid (Blk.new w3 #[.bool r1.neg, .slice tt1 r1.num.length tt2, .slice tt3 r1.den.length tt4] 26)
    have Bx := Lib.hid (Bx.out.ext ((Ext.refl w3).alloc (.cells #[.bool r1.neg, .slice tt1 r1.num.length tt2, .slice tt3 r1.den.length tt4] 26)))
    have Nx := Lib.hid (Nx.out.ext ((Ext.refl w3).alloc (.cells #[.bool r1.neg, .slice tt1 r1.num.length tt2, .slice tt3 r1.den.length tt4] 26)))
    have Ntt := Lib.hid (Ntt.out.ext ((Ext.refl w3).alloc (.cells #[.bool r1.neg, .slice tt1 r1.num.length tt2, .slice tt3 r1.den.length tt4] 26)))
    have X := Lib.hid (X.out.alloc (.cells #[.bool r1.neg, .slice tt1 r1.num.length tt2, .slice tt3 r1.den.length tt4] 26))
    have qBtt := Btt.out.cell; have lBtt := Btt.out.lt
    have qBx := Bx.out.cell; have lBx := Bx.out.lt
    go_wp2_with fail
    refine (equalOK_any _ _ r1 r1 rfl _ Ntt.out Nx.out).mono ?_
    rintro e w4 ⟨rfl, hx⟩
    have Bx := Lib.hid (Bx.out.ext hx)
    have Nx := Lib.hid (Nx.out.ext hx)
    have Ntt := Lib.hid (Ntt.out.ext hx)
    have Btt := Lib.hid (Btt.out.ext hx)
    have X := Lib.hid (X.out.trans hx)
    clear qBtt lBtt qBx lBx
    clear hx
    dsimp only
    have hend := HEND.out
    rcases hend with ⟨r, rfl, hc, hl, ht⟩ | ⟨c, hc, rfl⟩
    case inl =>
      have htx := fun W v (h : RdR W v r) => textR_any v r W h hl
      rw [ht] at htx
      have hch := fun W v (h : RdR W v r) => checkR_any v r W h hl
      rw [hc] at hch
      have HT := Lib.hid htx; have HC := Lib.hid hch
      clear htx hch hc hl ht
      go_wp2_with fail
      refine (HPA.out _).mono ?_
      rintro e w5 ⟨⟨v, rfl, nn⟩, hx⟩
      have Bx := Lib.hid (Bx.out.ext hx)
      have Nx := Lib.hid (Nx.out.ext hx)
      have Ntt := Lib.hid (Ntt.out.ext hx)
      have Btt := Lib.hid (Btt.out.ext hx)
      have X := Lib.hid (X.out.trans hx)
      obtain ⟨yy1, yy2, yy3, yy4, rfl⟩ := nn.shape
      have Nyy := Lib.hid nn.rd
      clear nn hx
      dsimp only
      have Byy := Lib.hid (Blk.new w5 #[.bool r.neg, .slice yy1 r.num.length yy2, .slice yy3 r.den.length yy4] 26)
      have Bx := Lib.hid (Bx.out.ext ((Ext.refl w5).alloc (.cells #[.bool r.neg, .slice yy1 r.num.length yy2, .slice yy3 r.den.length yy4] 26)))
      have Nx := Lib.hid (Nx.out.ext ((Ext.refl w5).alloc (.cells #[.bool r.neg, .slice yy1 r.num.length yy2, .slice yy3 r.den.length yy4] 26)))
      have Ntt := Lib.hid (Ntt.out.ext ((Ext.refl w5).alloc (.cells #[.bool r.neg, .slice yy1 r.num.length yy2, .slice yy3 r.den.length yy4] 26)))
      have Btt := Lib.hid (Btt.out.ext ((Ext.refl w5).alloc (.cells #[.bool r.neg, .slice yy1 r.num.length yy2, .slice yy3 r.den.length yy4] 26)))
      have Nyy := Lib.hid (Nyy.out.ext ((Ext.refl w5).alloc (.cells #[.bool r.neg, .slice yy1 r.num.length yy2, .slice yy3 r.den.length yy4] 26)))
      have X := Lib.hid (X.out.alloc (.cells #[.bool r.neg, .slice yy1 r.num.length yy2, .slice yy3 r.den.length yy4] 26))
      have qByy := Byy.out.cell; have lByy := Byy.out.lt
      go_wp2_with fail
      refine (HT.out _ _ Nyy.out).mono ?_
      rintro e w6 ⟨rfl, hx⟩
      have Bx := Lib.hid (Bx.out.ext hx)
      have Nx := Lib.hid (Nx.out.ext hx)
      have Ntt := Lib.hid (Ntt.out.ext hx)
      have Btt := Lib.hid (Btt.out.ext hx)
      have Nyy := Lib.hid (Nyy.out.ext hx)
      have Byy := Lib.hid (Byy.out.ext hx)
      have X := Lib.hid (X.out.trans hx)
      clear qByy lByy
      clear hx
      dsimp only
      have qByy := Byy.out.cell; have lByy := Byy.out.lt
      go_wp2_with fail
      refine (HC.out _ _ Nyy.out).mono ?_
      rintro e w7 ⟨rfl, hx⟩
      have Bx := Lib.hid (Bx.out.ext hx)
      have Nx := Lib.hid (Nx.out.ext hx)
      have Ntt := Lib.hid (Ntt.out.ext hx)
      have Btt := Lib.hid (Btt.out.ext hx)
      have Nyy := Lib.hid (Nyy.out.ext hx)
      have Byy := Lib.hid (Byy.out.ext hx)
      have X := Lib.hid (X.out.trans hx)
      clear qByy lByy
      clear hx
      dsimp only
      go_wp2_with fail
      go_ret
      exact ⟨rfl, X.out⟩
    case inr =>
      obtain ⟨rz, hrz⟩ : ∃ rz, rz = zR := ⟨_, rfl⟩
      rw [← hrz] at HPA
      have HZ := Lib.hid hrz
      have hcb : (c != 0) = true := by simpa using hc
      clear hrz hc
      go_wp2_with fail
      refine (HPA.out _).mono ?_
      rintro e w5 ⟨⟨v, rfl, nn⟩, hx⟩
      have Bx := Lib.hid (Bx.out.ext hx)
      have Nx := Lib.hid (Nx.out.ext hx)
      have Ntt := Lib.hid (Ntt.out.ext hx)
      have Btt := Lib.hid (Btt.out.ext hx)
      have X := Lib.hid (X.out.trans hx)
      obtain ⟨yy1, yy2, yy3, yy4, rfl⟩ := nn.shape
      have Nyy := Lib.hid nn.rd
      clear nn hx
      dsimp only
      have Byy := Lib.hid (Blk.new w5 #[.bool rz.neg, .slice yy1 rz.num.length yy2, .slice yy3 rz.den.length yy4] 26)
      have Bx := Lib.hid (Bx.out.ext ((Ext.refl w5).alloc (.cells #[.bool rz.neg, .slice yy1 rz.num.length yy2, .slice yy3 rz.den.length yy4] 26)))
      have Nx := Lib.hid (Nx.out.ext ((Ext.refl w5).alloc (.cells #[.bool rz.neg, .slice yy1 rz.num.length yy2, .slice yy3 rz.den.length yy4] 26)))
      have Ntt := Lib.hid (Ntt.out.ext ((Ext.refl w5).alloc (.cells #[.bool rz.neg, .slice yy1 rz.num.length yy2, .slice yy3 rz.den.length yy4] 26)))
      have Btt := Lib.hid (Btt.out.ext ((Ext.refl w5).alloc (.cells #[.bool rz.neg, .slice yy1 rz.num.length yy2, .slice yy3 rz.den.length yy4] 26)))
      have Nyy := Lib.hid (Nyy.out.ext ((Ext.refl w5).alloc (.cells #[.bool rz.neg, .slice yy1 rz.num.length yy2, .slice yy3 rz.den.length yy4] 26)))
      have X := Lib.hid (X.out.alloc (.cells #[.bool rz.neg, .slice yy1 rz.num.length yy2, .slice yy3 rz.den.length yy4] 26))
      have qByy := Byy.out.cell; have lByy := Byy.out.lt
      go_wp2_with fail
      refine (equalTrue_any _ _ rz zR HZ.out _ Nyy.out (NewR.zero w _).rd).mono ?_
      rintro e w6 ⟨rfl, hx⟩
      have Bx := Lib.hid (Bx.out.ext hx)
      have Nx := Lib.hid (Nx.out.ext hx)
      have Ntt := Lib.hid (Ntt.out.ext hx)
      have Btt := Lib.hid (Btt.out.ext hx)
      have Nyy := Lib.hid (Nyy.out.ext hx)
      have Byy := Lib.hid (Byy.out.ext hx)
      have X := Lib.hid (X.out.trans hx)
      clear qByy lByy
      clear hx
      dsimp only
      go_wp2_with fail
      go_ret
      exact ⟨rfl, X.out⟩
  case inr =>
    have hcb : (c == 0) = false := by simpa using hc
    clear hc
    dsimp only
    have hend := HEND.out
    rcases hend with ⟨r, rfl, hc, hl, ht⟩ | ⟨c, hc, rfl⟩
    case inl =>
      have htx := fun W v (h : RdR W v r) => textR_any v r W h hl
      rw [ht] at htx
      have hch := fun W v (h : RdR W v r) => checkR_any v r W h hl
      rw [hc] at hch
      have HT := Lib.hid htx; have HC := Lib.hid hch
      clear htx hch hc hl ht
      go_wp2_with fail
      refine (HPA.out _).mono ?_
      rintro e w3 ⟨⟨v, rfl, nn⟩, hx⟩
      have Bx := Lib.hid (Bx.out.ext hx)
      have Nx := Lib.hid (Nx.out.ext hx)
      have X := Lib.hid (X.out.trans hx)
      obtain ⟨yy1, yy2, yy3, yy4, rfl⟩ := nn.shape
      have Nyy := Lib.hid nn.rd
      clear nn hx
      dsimp only
      have Byy := Lib.hid (Blk.new w3 #[.bool r.neg, .slice yy1 r.num.length yy2, .slice yy3 r.den.length yy4] 26)
      have Bx := Lib.hid (Bx.out.ext ((Ext.refl w3).alloc (.cells #[.bool r.neg, .slice yy1 r.num.length yy2, .slice yy3 r.den.length yy4] 26)))
      have Nx := Lib.hid (Nx.out.ext ((Ext.refl w3).alloc (.cells #[.bool r.neg, .slice yy1 r.num.length yy2, .slice yy3 r.den.length yy4] 26)))
      have Nyy := Lib.hid (Nyy.out.ext ((Ext.refl w3).alloc (.cells #[.bool r.neg, .slice yy1 r.num.length yy2, .slice yy3 r.den.length yy4] 26)))
      have X := Lib.hid (X.out.alloc (.cells #[.bool r.neg, .slice yy1 r.num.length yy2, .slice yy3 r.den.length yy4] 26))
      have qByy := Byy.out.cell; have lByy := Byy.out.lt
      go_wp2_with fail
      refine (HT.out _ _ Nyy.out).mono ?_
      rintro e w4 ⟨rfl, hx⟩
      have Bx := Lib.hid (Bx.out.ext hx)
      have Nx := Lib.hid (Nx.out.ext hx)
      have Nyy := Lib.hid (Nyy.out.ext hx)
      have Byy := Lib.hid (Byy.out.ext hx)
      have X := Lib.hid (X.out.trans hx)
      clear qByy lByy
      clear hx
      dsimp only
      have qByy := Byy.out.cell; have lByy := Byy.out.lt
      go_wp2_with fail
      refine (HC.out _ _ Nyy.out).mono ?_
      rintro e w5 ⟨rfl, hx⟩
      have Bx := Lib.hid (Bx.out.ext hx)
      have Nx := Lib.hid (Nx.out.ext hx)
      have Nyy := Lib.hid (Nyy.out.ext hx)
      have Byy := Lib.hid (Byy.out.ext hx)
      have X := Lib.hid (X.out.trans hx)
      clear qByy lByy
      clear hx
      dsimp only
      go_wp2_with fail
      go_ret
      exact ⟨rfl, X.out⟩
    case inr =>
      obtain ⟨rz, hrz⟩ : ∃ rz, rz = zR := ⟨_, rfl⟩
      rw [← hrz] at HPA
      have HZ := Lib.hid hrz
      have hcb : (c != 0) = true := by simpa using hc
      clear hrz hc
      go_wp2_with fail
      refine (HPA.out _).mono ?_
      rintro e w3 ⟨⟨v, rfl, nn⟩, hx⟩
      have Bx := Lib.hid (Bx.out.ext hx)
      have Nx := Lib.hid (Nx.out.ext hx)
      have X := Lib.hid (X.out.trans hx)
      obtain ⟨yy1, yy2, yy3, yy4, rfl⟩ := nn.shape
      have Nyy := Lib.hid nn.rd
      clear nn hx
      dsimp only
      have Byy := Lib.hid (Blk.new w3 #[.bool rz.neg, .slice yy1 rz.num.length yy2, .slice yy3 rz.den.length yy4] 26)
      have Bx := Lib.hid (Bx.out.ext ((Ext.refl w3).alloc (.cells #[.bool rz.neg, .slice yy1 rz.num.length yy2, .slice yy3 rz.den.length yy4] 26)))
      have Nx := Lib.hid (Nx.out.ext ((Ext.refl w3).alloc (.cells #[.bool rz.neg, .slice yy1 rz.num.length yy2, .slice yy3 rz.den.length yy4] 26)))
      have Nyy := Lib.hid (Nyy.out.ext ((Ext.refl w3).alloc (.cells #[.bool rz.neg, .slice yy1 rz.num.length yy2, .slice yy3 rz.den.length yy4] 26)))
      have X := Lib.hid (X.out.alloc (.cells #[.bool rz.neg, .slice yy1 rz.num.length yy2, .slice yy3 rz.den.length yy4] 26))
      have qByy := Byy.out.cell; have lByy := Byy.out.lt
      go_wp2_with fail
      refine (equalTrue_any _ _ rz zR HZ.out _ Nyy.out (NewR.zero w _).rd).mono ?_
      rintro e w4 ⟨rfl, hx⟩
      have Bx := Lib.hid (Bx.out.ext hx)
      have Nx := Lib.hid (Nx.out.ext hx)
      have Nyy := Lib.hid (Nyy.out.ext hx)
      have Byy := Lib.hid (Byy.out.ext hx)
      have X := Lib.hid (X.out.trans hx)
      clear qByy lByy
      clear hx
      dsimp only
      go_wp2_with fail
      go_ret
      exact ⟨rfl, X.out⟩

end Go.Proofs.Ytebdmmlniohhgaa
