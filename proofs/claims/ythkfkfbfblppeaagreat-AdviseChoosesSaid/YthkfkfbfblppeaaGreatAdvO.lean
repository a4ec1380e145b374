/- Walks of four and ratio of layer 28's laws; the constants of its examples. Conditions: none. -/
import Derived.Test.YthkfkfbfblppeaaGreatAdvM
import Derived.Test.YthkfkfbfblppeaaGreatAdvN
namespace Go.Proofs.YthkfkfbfblppeaaGreat
set_option linter.unusedSimpArgs false
set_option linter.unusedVariables false
open Go.RowKit

/-- A block of rows of m cells reads as a slice. -/
theorem rdN_blk {w : World} {b : Nat} {c : Array Value} {t : TypeId} (h : Blk w b c t) (m n : Nat) (l : List (List Value)) (hl : l.length = n) (hm : ∀ x ∈ l, x.length = m) (hc : c.toList = l.flatten) (hn : c.size = n * m) (hs : n ≤ 1000000) : RdN m w (.slice (some ⟨b, 0, none⟩) n n) l := by
  subst hl
  refine own_rdN (B := 0) (e := t) ⟨by rw [← hc, ← hn, Array.length_toList], .inr ⟨b, l.length, c, rfl, by omega, h, Nat.le_refl _, by unfold maxLen; omega, hn, ?_⟩⟩ hm
  rw [← hn, ← Array.length_toList, List.take_length, hc]
theorem rdB_blk {w : World} {b : Nat} {t : TypeId} (l : List Bool) (h : Blk w b (l.map Value.bool).toArray t) (hs : l.length ≤ 1000000) : Rd w (.slice (some ⟨b, 0, none⟩) l.length l.length) (l.map Value.bool) := by
  have := own_rd (w := w) (B := 0) (e := t) (v := .slice (some ⟨b, 0, none⟩) l.length l.length) (l := l.map Value.bool) ⟨by simp, .inr ⟨b, l.length, _, by simp, by omega, h, by simp, by unfold maxLen; omega, by simp, by simp; exact List.take_of_length_le (by simp)⟩⟩
  exact this
/-- A block of api.Rats reads as a slice of them. -/
theorem rdRs_blk {w : World} {b : Nat} {c : Array Value} {t : TypeId} (h : Blk w b c t) (rs : List RR) (hs : List (List Value)) (hl : hs.length = rs.length) (hc : c.toList = hs.flatten) (hm : ∀ x ∈ hs, x.length = 3) (hk : rs.length ≤ 1000000)
    (he : ∀ (i : Nat) x, rs[i]? = some x → ∃ a1 c1 a2 c2, hs[i]? = some [.bool x.neg, .slice a1 x.num.length c1, .slice a2 x.den.length c2] ∧ RdI .u32 w (.slice a1 x.num.length c1) x.num ∧ RdI .u32 w (.slice a2 x.den.length c2) x.den) : RdRs w (.slice (some ⟨b, 0, none⟩) rs.length rs.length) rs := by
  have hn : c.size = rs.length * 3 := by rw [← Array.length_toList, hc, flatten_len hs hm, hl]
  obtain ⟨a, cap, hv, h1, h2, h3⟩ := rdN_blk h 3 rs.length hs hl hm hc hn hk
  rw [hl] at hv
  injection hv with e1 _ e3
  subst e1; subst e3
  refine ⟨_, _, rfl, Nat.le_refl _, by omega, fun i hi => ?_⟩
  have hx : rs[i]? = some (rs.getD i zR) := by rw [List.getD_eq_getElem?_getD, List.getElem?_eq_getElem hi]; rfl
  obtain ⟨a1, c1, a2, c2, e4, r1, r2⟩ := he i _ hx
  obtain ⟨b', off, e5, e6, e7⟩ := h3 i (by omega)
  have e8 : hs.getD i [] = [.bool (rs.getD i zR).neg, .slice a1 (rs.getD i zR).num.length c1, .slice a2 (rs.getD i zR).den.length c2] := by rw [List.getD_eq_getElem?_getD, e4]; rfl
  rw [e8] at e7
  exact ⟨b', off, a1, c1, a2, c2, e5, e6, e7 0 (by omega), e7 1 (by omega), e7 2 (by omega), r1, r2⟩

def fourL : List Bnd := [(0, 0, 0), (1, 10, 100), (1, 25, 100), (2, -100, 0)]
def fourC : Array Value := #[.int .u8 0, .int .i64 0, .int .i64 0, .int .u8 1, .int .i64 10, .int .i64 100, .int .u8 1, .int .i64 25, .int .i64 100, .int .u8 2, .int .i64 (-100), .int .i64 0]
theorem four_rd {w : World} {b : Nat} (h : Blk w b fourC 187) : RdBnd w (.slice (some ⟨b, 0, none⟩) 4 4) fourL :=
  rdN_blk h 3 4 _ rfl (by simp [fourL]) rfl rfl (by omega)
theorem four_any (w : World) : Calls Tryz.prog 78 #[] w fun e w' => (∃ b, e = .returned (.slice (some ⟨b, 0, none⟩) 4 4) ∧ RdBnd w' (.slice (some ⟨b, 0, none⟩) 4 4) fourL) ∧ Ext w w' := by
  have h := Blk.new w fourC 187
  have H := Lib.hid h
  clear h
  go_enter Tryz.func78, Tryz.ntmps78
  go_wp2_with fail
  go_ret
  exact ⟨⟨_, rfl, four_rd H.out⟩, (Ext.refl w).alloc _⟩

set_option maxHeartbeats 1000000 in
theorem ratio_any (p q : Int) (w : World) (h0 : -9223372036854775808 ≤ p) (h1 : p ≤ 9223372036854775807) (h2 : -9223372036854775808 ≤ q) (h3 : q ≤ 9223372036854775807) :
    Calls Tryz.prog 82 #[.int .i64 p, .int .i64 q] w fun e w' => (∃ v, e = .returned v ∧ NewR w w' v (ofR p q).1) ∧ Ext w w' := by
  have hof := fun W => refOf_any p q W h0 h1 h2 h3
  obtain ⟨c, hc⟩ : ∃ c, c = ofR p q := ⟨_, rfl⟩
  rw [← hc] at hof ⊢
  obtain ⟨r, e⟩ := c
  dsimp only at hof ⊢
  have HOF := Lib.hid hof
  have b0 := Blk.new w #[.bool false, .slice none 0 0, .slice none 0 0] 62
  have B0 := Lib.hid b0; have X0 := Lib.hid ((Ext.refl w).alloc (.cells #[.bool false, .slice none 0 0, .slice none 0 0] 62))
  clear hof hc b0
  go_enter Tryz.func82, Tryz.ntmps82
  go_wp2_with fail
  refine (HOF.out _).mono ?_
  rintro e1 w1 ⟨⟨v, rfl, nn⟩, hx⟩
  obtain ⟨a1, a2, a3, a4, rfl⟩ := nn.shape
  have NN := Lib.hid (nn.from X0.out)
  have B1 := Lib.hid (B0.out.ext hx); have X1 := Lib.hid (X0.out.trans hx)
  clear nn hx
  have q1 := B1.out.cell; have f1 := B1.out.free; have l1 := B1.out.lt
  go_wp2_with fail
  refine bodyPost_ret (v := .agg #[.bool r.neg, .slice a1 r.num.length a2, .slice a3 r.den.length a4]) (by simp only [results, Tryz.results82]; go_simp) rfl ⟨⟨_, rfl, (NewR.set3 NN.out B1.out (by decide) _ _ _).ext ((Ext.refl _).alloc _)⟩, ?_⟩
  have := X1.out; (repeat (first | (with_reducible exact Ext.refl _) | (with_reducible assumption) | (with_reducible refine Ext.alloc ?_ _) | ((with_reducible refine Ext.setp ?_ ?_); focus (dsimp only; omega)) | (with_reducible refine Ext.drew ?_) | (with_reducible refine Ext.drewN ?_ _) | (with_reducible refine Ext.trans ?_ (by assumption))))

theorem k4_34 : (ofR 3 4).1 = ⟨false, [3], [4]⟩ := by kernel_rfl
theorem k4_12 : (ofR 1 2).1 = ⟨false, [1], [2]⟩ := by kernel_rfl
theorem k4_01 : (ofR 0 1).1 = ⟨false, [], []⟩ := by kernel_rfl
theorem k4_least : leastS [⟨false, [3], [4]⟩, ⟨false, [1], [2]⟩, ⟨false, [1], [2]⟩, ⟨false, [], []⟩] [true, true, true, false] = (1, 0) := by kernel_rfl
theorem k4_allow : allowS fourL 1 2 1 1 3 = ([false, true, true, false], 0) := by decide
theorem k4_next : nextS fourL 1 2 1 2 = ((2, 0, 1), 0) := by decide
theorem k4_adv2 : advS fourL 2 = ((1, 25, false), 0) := by decide
theorem k4_adv3 : advS fourL 3 = ((2, 0, true), 0) := by decide
/-- The examples of kinds. -/
def kdA : List Int := [1, 2, 1, 0, 3, 3]
def kdB : List Int := [2, 1, 3, 3, 0, 3]
def kdC : List Int := [5, 6, 4, 3, 2, 1]
theorem kd_all : ∀ k, k < 6 → kindS fourL (kdA.getD k 0) (kdB.getD k 0) = (kdC.getD k 0, 0) := by decide

end Go.Proofs.YthkfkfbfblppeaaGreat
