/- Walk of the law RatReads: it returns true (written by mkreads6.py). Conditions: two ints, a text. -/
import Derived.Test.YtebdmmlniohhgaaRatRp
import Derived.Test.YtebdmmlniohhgaaRatOv
import Derived.Test.YtebdmmlniohhgaaRatAw
import Derived.Test.YtebdmmlniohhgaaRatP
import Derived.Test.YtebdmmlniohhgaaRatTp
namespace Go.Proofs.Ytebdmmlniohhgaa
set_option linter.unusedSimpArgs false
set_option linter.unusedVariables false
open Go.RowKit

theorem len_rep {q : Rat} (h : small q) : (rep q).num.length ≤ 1000000 ∧ (rep q).den.length ≤ 1000000 := by
  obtain ⟨h1, h2, _⟩ := chkR_0 (limR_rep q) (chk_rep h)
  omega
theorem small_int (p : Int) (h0 : -9223372036854775808 ≤ p) (h1 : p ≤ 9223372036854775807) : small (p : Rat) := by
  refine small_of_bd (k := 3) ⟨?_, ?_⟩ (by decide)
  · rw [Rat.num_intCast]; omega
  · rw [Rat.den_intCast]; decide
theorem small_ofR (p q : Int) (h0 : -9223372036854775808 ≤ p) (h1 : p ≤ 9223372036854775807) (h2 : -9223372036854775808 ≤ q) (h3 : q ≤ 9223372036854775807) :
    (ofR p q).1.num.length ≤ 1000000 ∧ (ofR p q).1.den.length ≤ 1000000 := by
  unfold ofR
  split
  · exact ⟨by decide, by decide⟩
  · exact len_rep (small_of_bd (k := 3) (bd_vq (x := (decide (p < 0) != decide (q < 0), p.natAbs, q.natAbs)) (by show q.natAbs ≠ 0; omega) (by show p.natAbs < _; omega) (by show q.natAbs < _; omega)) (by decide))
theorem len_parseQ (s : ByteArray) : (parseQ s).1.num.length ≤ 1000000 ∧ (parseQ s).1.den.length ≤ 1000000 := by
  rcases text_parseQ s with ⟨r, h, hc, hl, _⟩ | ⟨c, _, h⟩
  · rw [h]; obtain ⟨h1, h2, _⟩ := chkR_0 hl hc; show r.num.length ≤ _ ∧ r.den.length ≤ _; omega
  · rw [h]; show zR.num.length ≤ _ ∧ zR.den.length ≤ _; exact ⟨by decide, by decide⟩

set_option maxRecDepth 100000 in
set_option maxHeartbeats 8000000 in
theorem readsQ_any (p q : Int) (s : ByteArray) (w : World) (h0 : -9223372036854775808 ≤ p) (h1 : p ≤ 9223372036854775807) (h2 : -9223372036854775808 ≤ q) (h3 : q ≤ 9223372036854775807) :
    Calls Try.prog 3 #[.int .i64 p, .int .i64 q, .string s] w fun en w' => en = .returned (.bool true) ∧ Ext w w' := by
  by_cases hs : 200 < s.size
  · go_enter Try.func3, Try.ntmps3
    go_wp2_with fail
    refine (awake6_any _).mono ?_
    rintro e w1 ⟨rfl, hx1⟩
    have X1 := Lib.hid hx1
    clear hx1
    go_wp2_with fail
    go_ret
    exact ⟨rfl, X1.out⟩
  · have l1 := small_ofR p q h0 h1 h2 h3
    have l2 := len_parseQ s
    have l3 := len_rep (small_int p h0 h1)
    have c1 := fun W => refOf_any p q W h0 h1 h2 h3
    have c2 := fun W => ofnR_any p q W h0 h1 h2 h3
    have c3 := fun W => refParseR_any s W
    have c4 := fun W => parseR_any s W
    have c5 := fun W => refFromR_any p W h0 h1
    have c6 := fun W => fromR_any p W h0 h1
    obtain ⟨O, hO⟩ : ∃ x, x = ofR p q := ⟨_, rfl⟩
    obtain ⟨Q, hQ⟩ : ∃ x, x = parseQ s := ⟨_, rfl⟩
    obtain ⟨RA, hA⟩ : ∃ x, x = rep (p : Rat) := ⟨_, rfl⟩
    rw [← hO] at l1 c1 c2
    rw [← hQ] at l2 c3 c4
    rw [← hA] at l3 c5 c6
    obtain ⟨RO, eo⟩ := O
    obtain ⟨RP, ep⟩ := Q
    have L1 := Lib.hid l1; have L2 := Lib.hid l2; have L3 := Lib.hid l3
    have C1 := Lib.hid c1; have C2 := Lib.hid c2; have C3 := Lib.hid c3; have C4 := Lib.hid c4; have C5 := Lib.hid c5; have C6 := Lib.hid c6
    clear l1 l2 l3 c1 c2 c3 c4 c5 c6 hO hQ hA h0 h1 h2 h3
    have X := Lib.hid (Ext.refl w)
    go_enter Try.func3, Try.ntmps3
    go_wp2_with fail
    refine (C1.out _).mono ?_
    rintro e w1 ⟨⟨v, rfl, nn⟩, hx⟩
    have X0 := Lib.hid (X.out.trans hx)
    obtain ⟨o1, o2, o3, o4, rfl⟩ := nn.shape
    have Ko := Lib.hid (KpR.new nn)
    have zx := hx.size
    clear nn hx
    dsimp only
    go_wp2_with fail
    have bb := Blk.new w1 #[.bool RO.neg, .slice o1 RO.num.length o2, .slice o3 RO.den.length o4] 26
    have xx : Ext w1 (w1.alloc (.cells #[.bool RO.neg, .slice o1 RO.num.length o2, .slice o3 RO.den.length o4] 26)) := (Ext.refl _).alloc _
    have zz : (w1.alloc (.cells #[.bool RO.neg, .slice o1 RO.num.length o2, .slice o3 RO.den.length o4] 26)).heap.size = w1.heap.size + 1 := World.size_alloc _ _
    obtain ⟨W1, hW1⟩ : ∃ x, x = (w1.alloc (.cells #[.bool RO.neg, .slice o1 RO.num.length o2, .slice o3 RO.den.length o4] 26)) := ⟨_, rfl⟩
    rw [← hW1] at bb xx zz ⊢
    have Ko := Lib.hid (Ko.out.ext xx)
    have B7 := Lib.hid bb; have X := Lib.hid (X0.out.trans xx); have Zw1 := Lib.hid zx; have Yw1 := Lib.hid zz
    clear bb xx zz zx hW1
    go_wp2_with fail
    refine (C3.out _).mono ?_
    rintro e w2 ⟨⟨v, rfl, nn⟩, hx⟩
    have B7 := Lib.hid (B7.out.ext hx)
    have Ko := Lib.hid (Ko.out.ext hx)
    have X0 := Lib.hid (X.out.trans hx)
    obtain ⟨p1, p2, p3, p4, rfl⟩ := nn.shape
    have Kp := Lib.hid (KpR.new nn)
    have zx := hx.size
    clear nn hx
    dsimp only
    go_wp2_with fail
    have bb := Blk.new w2 #[.bool RP.neg, .slice p1 RP.num.length p2, .slice p3 RP.den.length p4] 26
    have xx : Ext w2 (w2.alloc (.cells #[.bool RP.neg, .slice p1 RP.num.length p2, .slice p3 RP.den.length p4] 26)) := (Ext.refl _).alloc _
    have zz : (w2.alloc (.cells #[.bool RP.neg, .slice p1 RP.num.length p2, .slice p3 RP.den.length p4] 26)).heap.size = w2.heap.size + 1 := World.size_alloc _ _
    obtain ⟨W2, hW2⟩ : ∃ x, x = (w2.alloc (.cells #[.bool RP.neg, .slice p1 RP.num.length p2, .slice p3 RP.den.length p4] 26)) := ⟨_, rfl⟩
    rw [← hW2] at bb xx zz ⊢
    have B7 := Lib.hid (B7.out.ext xx)
    have Ko := Lib.hid (Ko.out.ext xx)
    have Kp := Lib.hid (Kp.out.ext xx)
    have B9 := Lib.hid bb; have X := Lib.hid (X0.out.trans xx); have Zw2 := Lib.hid zx; have Yw2 := Lib.hid zz
    clear bb xx zz zx hW2
    go_wp2_with fail
    go_loopw [11, 12, 13, 14, 15, 16] (fun i _ _ _ _ _ wr => ∃ k : Nat, k ≤ 2 ∧ i = .int .i64 k ∧ Ext W2 wr) (fun i _ _ _ _ _ _ => 2 - (intOf i).toNat)
    case atStart => exact ⟨0, by omega, rfl, Ext.refl _⟩
    case round =>
      obtain ⟨k, hk, rfl, hx⟩ := hrel
      have zx := hx.size
      have B7 := Lib.hid (B7.out.ext hx)
      have Ko := Lib.hid (Ko.out.ext hx)
      have B9 := Lib.hid (B9.out.ext hx)
      have Kp := Lib.hid (Kp.out.ext hx)
      have X2 := Lib.hid hx; have Z0 := Lib.hid zx
      have XR := Lib.hid (Ext.refl wr)
      clear hx zx
      by_cases hlt : k < 2
      · skip
        go_wp2_with fail
        refine (C6.out _).mono ?_
        rintro e w3 ⟨⟨v, rfl, nn⟩, hx⟩
        have B7 := Lib.hid (B7.out.ext hx)
        have Ko := Lib.hid (Ko.out.ext hx)
        have B9 := Lib.hid (B9.out.ext hx)
        have Kp := Lib.hid (Kp.out.ext hx)
        have XR0 := Lib.hid (XR.out.trans hx)
        obtain ⟨a1, a2, a3, a4, rfl⟩ := nn.shape
        have Ka := Lib.hid (KpR.new nn)
        have zx := hx.size
        clear nn hx
        dsimp only
        go_wp2_with fail
        have bb := Blk.new w3 #[.bool RA.neg, .slice a1 RA.num.length a2, .slice a3 RA.den.length a4] 26
        have xx : Ext w3 (w3.alloc (.cells #[.bool RA.neg, .slice a1 RA.num.length a2, .slice a3 RA.den.length a4] 26)) := (Ext.refl _).alloc _
        have zz : (w3.alloc (.cells #[.bool RA.neg, .slice a1 RA.num.length a2, .slice a3 RA.den.length a4] 26)).heap.size = w3.heap.size + 1 := World.size_alloc _ _
        obtain ⟨W3, hW3⟩ : ∃ x, x = (w3.alloc (.cells #[.bool RA.neg, .slice a1 RA.num.length a2, .slice a3 RA.den.length a4] 26)) := ⟨_, rfl⟩
        rw [← hW3] at bb xx zz ⊢
        have B7 := Lib.hid (B7.out.ext xx)
        have Ko := Lib.hid (Ko.out.ext xx)
        have B9 := Lib.hid (B9.out.ext xx)
        have Kp := Lib.hid (Kp.out.ext xx)
        have Ka := Lib.hid (Ka.out.ext xx)
        have B12 := Lib.hid bb; have XR := Lib.hid (XR0.out.trans xx); have Zw3 := Lib.hid zx; have Yw3 := Lib.hid zz
        clear bb xx zz zx hW3
        go_wp2_with fail
        refine (C2.out _).mono ?_
        rintro e w4 ⟨⟨v, rfl, nn⟩, hx⟩
        have B7 := Lib.hid (B7.out.ext hx)
        have Ko := Lib.hid (Ko.out.ext hx)
        have B9 := Lib.hid (B9.out.ext hx)
        have Kp := Lib.hid (Kp.out.ext hx)
        have B12 := Lib.hid (B12.out.ext hx)
        have Ka := Lib.hid (Ka.out.ext hx)
        have XR0 := Lib.hid (XR.out.trans hx)
        obtain ⟨b1, b2, b3, b4, rfl⟩ := nn.shape
        have Kb := Lib.hid (KpR.new nn)
        have zx := hx.size
        clear nn hx
        dsimp only
        go_wp2_with fail
        have bb := Blk.new w4 #[.bool RO.neg, .slice b1 RO.num.length b2, .slice b3 RO.den.length b4] 26
        have xx : Ext w4 (w4.alloc (.cells #[.bool RO.neg, .slice b1 RO.num.length b2, .slice b3 RO.den.length b4] 26)) := (Ext.refl _).alloc _
        have zz : (w4.alloc (.cells #[.bool RO.neg, .slice b1 RO.num.length b2, .slice b3 RO.den.length b4] 26)).heap.size = w4.heap.size + 1 := World.size_alloc _ _
        obtain ⟨W4, hW4⟩ : ∃ x, x = (w4.alloc (.cells #[.bool RO.neg, .slice b1 RO.num.length b2, .slice b3 RO.den.length b4] 26)) := ⟨_, rfl⟩
        rw [← hW4] at bb xx zz ⊢
        have B7 := Lib.hid (B7.out.ext xx)
        have Ko := Lib.hid (Ko.out.ext xx)
        have B9 := Lib.hid (B9.out.ext xx)
        have Kp := Lib.hid (Kp.out.ext xx)
        have B12 := Lib.hid (B12.out.ext xx)
        have Ka := Lib.hid (Ka.out.ext xx)
        have Kb := Lib.hid (Kb.out.ext xx)
        have B13 := Lib.hid bb; have XR := Lib.hid (XR0.out.trans xx); have Zw4 := Lib.hid zx; have Yw4 := Lib.hid zz
        clear bb xx zz zx hW4
        go_wp2_with fail
        refine (C4.out _).mono ?_
        rintro e w5 ⟨⟨v, rfl, nn⟩, hx⟩
        have B7 := Lib.hid (B7.out.ext hx)
        have Ko := Lib.hid (Ko.out.ext hx)
        have B9 := Lib.hid (B9.out.ext hx)
        have Kp := Lib.hid (Kp.out.ext hx)
        have B12 := Lib.hid (B12.out.ext hx)
        have Ka := Lib.hid (Ka.out.ext hx)
        have B13 := Lib.hid (B13.out.ext hx)
        have Kb := Lib.hid (Kb.out.ext hx)
        have XR0 := Lib.hid (XR.out.trans hx)
        obtain ⟨c1, c2, c3, c4, rfl⟩ := nn.shape
        have Kc := Lib.hid (KpR.new nn)
        have zx := hx.size
        clear nn hx
        dsimp only
        go_wp2_with fail
        have bb := Blk.new w5 #[.bool RP.neg, .slice c1 RP.num.length c2, .slice c3 RP.den.length c4] 26
        have xx : Ext w5 (w5.alloc (.cells #[.bool RP.neg, .slice c1 RP.num.length c2, .slice c3 RP.den.length c4] 26)) := (Ext.refl _).alloc _
        have zz : (w5.alloc (.cells #[.bool RP.neg, .slice c1 RP.num.length c2, .slice c3 RP.den.length c4] 26)).heap.size = w5.heap.size + 1 := World.size_alloc _ _
        obtain ⟨W5, hW5⟩ : ∃ x, x = (w5.alloc (.cells #[.bool RP.neg, .slice c1 RP.num.length c2, .slice c3 RP.den.length c4] 26)) := ⟨_, rfl⟩
        rw [← hW5] at bb xx zz ⊢
        have B7 := Lib.hid (B7.out.ext xx)
        have Ko := Lib.hid (Ko.out.ext xx)
        have B9 := Lib.hid (B9.out.ext xx)
        have Kp := Lib.hid (Kp.out.ext xx)
        have B12 := Lib.hid (B12.out.ext xx)
        have Ka := Lib.hid (Ka.out.ext xx)
        have B13 := Lib.hid (B13.out.ext xx)
        have Kb := Lib.hid (Kb.out.ext xx)
        have Kc := Lib.hid (Kc.out.ext xx)
        have B15 := Lib.hid bb; have XR := Lib.hid (XR0.out.trans xx); have Zw5 := Lib.hid zx; have Yw5 := Lib.hid zz
        clear bb xx zz zx hW5
        have zw1 := Zw1.out; have zw2 := Zw2.out; have zw3 := Zw3.out; have zw4 := Zw4.out; have zw5 := Zw5.out; have yw1 := Yw1.out; have yw2 := Yw2.out; have yw3 := Yw3.out; have yw4 := Yw4.out; have yw5 := Yw5.out; have z0 := Z0.out
        have ord : Hid (w1.heap.size < w2.heap.size ∧ w2.heap.size < wr.heap.size ∧ wr.heap.size ≤ w3.heap.size ∧ w3.heap.size < W3.heap.size ∧ W3.heap.size ≤ w4.heap.size ∧ w4.heap.size < W4.heap.size ∧ W4.heap.size ≤ w5.heap.size ∧ w5.heap.size < W5.heap.size) := Lib.hid (by omega)
        have ord2 : Hid (w.heap.size ≤ w1.heap.size ∧ W1.heap.size ≤ w2.heap.size ∧ w1.heap.size < W1.heap.size ∧ w2.heap.size < W2.heap.size) := Lib.hid (by omega)
        clear zw1 zw2 zw3 zw4 zw5 yw1 yw2 yw3 yw4 yw5 z0 Zw1 Zw2 Zw3 Zw4 Zw5 Yw1 Yw2 Yw3 Yw4 Yw5 Z0
        go_wp2_with fail
        refine wp_region_held_drew (S := (fun W => (Blk W w1.heap.size #[.bool RO.neg, .slice o1 RO.num.length o2, .slice o3 RO.den.length o4] 26 ∧ W.cell? ⟨w1.heap.size, 0, none⟩ = some (.bool RO.neg) ∧ W.cell? ⟨w1.heap.size, 1, none⟩ = some (.slice o1 RO.num.length o2) ∧ W.cell? ⟨w1.heap.size, 2, none⟩ = some (.slice o3 RO.den.length o4)) ∧ (Blk W w2.heap.size #[.bool RP.neg, .slice p1 RP.num.length p2, .slice p3 RP.den.length p4] 26 ∧ W.cell? ⟨w2.heap.size, 0, none⟩ = some (.bool RP.neg) ∧ W.cell? ⟨w2.heap.size, 1, none⟩ = some (.slice p1 RP.num.length p2) ∧ W.cell? ⟨w2.heap.size, 2, none⟩ = some (.slice p3 RP.den.length p4)) ∧ (Blk W w3.heap.size #[.bool RA.neg, .slice a1 RA.num.length a2, .slice a3 RA.den.length a4] 26 ∧ W.cell? ⟨w3.heap.size, 0, none⟩ = some (.bool RA.neg) ∧ W.cell? ⟨w3.heap.size, 1, none⟩ = some (.slice a1 RA.num.length a2) ∧ W.cell? ⟨w3.heap.size, 2, none⟩ = some (.slice a3 RA.den.length a4)) ∧ (Blk W w4.heap.size #[.bool RO.neg, .slice b1 RO.num.length b2, .slice b3 RO.den.length b4] 26 ∧ W.cell? ⟨w4.heap.size, 0, none⟩ = some (.bool RO.neg) ∧ W.cell? ⟨w4.heap.size, 1, none⟩ = some (.slice b1 RO.num.length b2) ∧ W.cell? ⟨w4.heap.size, 2, none⟩ = some (.slice b3 RO.den.length b4)) ∧ (Blk W w5.heap.size #[.bool RP.neg, .slice c1 RP.num.length c2, .slice c3 RP.den.length c4] 26 ∧ W.cell? ⟨w5.heap.size, 0, none⟩ = some (.bool RP.neg) ∧ W.cell? ⟨w5.heap.size, 1, none⟩ = some (.slice c1 RP.num.length c2) ∧ W.cell? ⟨w5.heap.size, 2, none⟩ = some (.slice c3 RP.den.length c4)))) (by kernel_rfl) ?_ (fun hHeld => ?_)
        · exact ⟨Blk.s3 B7.out.drew, Blk.s3 B9.out.drew, Blk.s3 B12.out.drew, Blk.s3 B13.out.drew, Blk.s3 B15.out.drew⟩
        refine wpAnyH_take (i := 0) (v := ?_) rfl (by kernel_rfl) (by kernel_rfl) (by kernel_rfl) (fun _ _ _ h => h) (Or.inl ⟨by rfl, ?_⟩) (by assumption) ?_
        rotate_left
        · (intro w hSw; (try dsimp only at hSw); go_simp; first | done | with_reducible rfl)
        (try simp only [Act.put, List.getElem_toArray, List.getElem_cons_zero, List.getElem_cons_succ, List.setIfInBounds_toArray, List.set_cons_zero, List.set_cons_succ])
        refine wpAnyH_take (i := 1) (v := ?_) rfl (by kernel_rfl) (by kernel_rfl) (by kernel_rfl) (fun _ _ _ h => h) (Or.inl ⟨by rfl, ?_⟩) (by assumption) ?_
        rotate_left
        · (intro w hSw; (try dsimp only at hSw); go_simp; first | done | with_reducible rfl)
        (try simp only [Act.put, List.getElem_toArray, List.getElem_cons_zero, List.getElem_cons_succ, List.setIfInBounds_toArray, List.set_cons_zero, List.set_cons_succ])
        refine wpAnyH_ready (rs := [2]) (by kernel_rfl) (by simp) ?_
        refine AllReadyH.cons rfl (fun K hK => ?_) ?_
        rotate_left
        · exact AllReadyH.nil
        go_simp
        refine (C5.out _).mono ?_
        rintro e w6 ⟨⟨v, rfl, nn⟩, hx0⟩
        obtain ⟨d1, d2, d3, d4, rfl⟩ := nn.shape
        have ND := Lib.hid nn.rd
        have hx := Ext.trans (show Ext W5 _ from (Ext.refl W5).drew) hx0
        have B7 := Lib.hid (B7.out.ext hx)
        have B9 := Lib.hid (B9.out.ext hx)
        have B12 := Lib.hid (B12.out.ext hx)
        have B13 := Lib.hid (B13.out.ext hx)
        have B15 := Lib.hid (B15.out.ext hx)
        have Ko := Lib.hid (Ko.out.ext hx)
        have Kp := Lib.hid (Kp.out.ext hx)
        have Ka := Lib.hid (Ka.out.ext hx)
        have Kb := Lib.hid (Kb.out.ext hx)
        have Kc := Lib.hid (Kc.out.ext hx)
        have XR := Lib.hid (XR.out.trans hx)
        have z6 := Lib.hid hx.size
        clear nn hx hx0
        first | refine hK.out _ _ ?_ (fun hHeld => ?_) | (go_wp2_with fail; refine hK.out _ _ ?_ (fun hHeld => ?_))
        · exact ⟨Blk.s3 B7.out, Blk.s3 B9.out, Blk.s3 B12.out, Blk.s3 B13.out, Blk.s3 B15.out⟩
        clear hK K
        (try simp only [Act.put, List.getElem_toArray, List.getElem_cons_zero, List.getElem_cons_succ, List.setIfInBounds_toArray, List.set_cons_zero, List.set_cons_succ])
        refine wpAnyH_ready (rs := [3]) (by kernel_rfl) (by simp) ?_
        refine AllReadyH.cons rfl (fun K hK => ?_) ?_
        rotate_left
        · exact AllReadyH.nil
        go_simp
        refine (same6_any _ _ RA RA 0 0 wr.heap.size w3.heap.size _ Ka.out ND.out (by have := ord.out; have := z6.out; omega) L3.out rfl rfl).mono ?_
        rintro e w7 ⟨rfl, hg⟩
        have B7 : Hid (Blk _ w1.heap.size #[.bool RO.neg, .slice o1 RO.num.length o2, .slice o3 RO.den.length o4] 26) := Lib.hid ((hg.block _ B7.out.lt (by have := ord.out; have := ord2.out; omega)).trans B7.out)
        have B9 : Hid (Blk _ w2.heap.size #[.bool RP.neg, .slice p1 RP.num.length p2, .slice p3 RP.den.length p4] 26) := Lib.hid ((hg.block _ B9.out.lt (by have := ord.out; have := ord2.out; omega)).trans B9.out)
        have B12 : Hid (Blk _ w3.heap.size #[.bool RA.neg, .slice a1 RA.num.length a2, .slice a3 RA.den.length a4] 26) := Lib.hid ((hg.block _ B12.out.lt (by have := ord.out; have := ord2.out; omega)).trans B12.out)
        have B13 : Hid (Blk _ w4.heap.size #[.bool RO.neg, .slice b1 RO.num.length b2, .slice b3 RO.den.length b4] 26) := Lib.hid ((hg.block _ B13.out.lt (by have := ord.out; have := ord2.out; omega)).trans B13.out)
        have B15 : Hid (Blk _ w5.heap.size #[.bool RP.neg, .slice c1 RP.num.length c2, .slice c3 RP.den.length c4] 26) := Lib.hid ((hg.block _ B15.out.lt (by have := ord.out; have := ord2.out; omega)).trans B15.out)
        have Ko := Lib.hid (Ko.out.gr hg (by have := ord.out; have := ord2.out; omega))
        have Kp := Lib.hid (Kp.out.gr hg (by have := ord.out; have := ord2.out; omega))
        have Kb := Lib.hid (Kb.out.gr hg (by have := ord.out; have := ord2.out; omega))
        have Kc := Lib.hid (Kc.out.gr hg (by have := ord.out; have := ord2.out; omega))
        have XR := Lib.hid (GrX.ext XR.out hg (Nat.le_refl _))
        have z7 := Lib.hid hg.size
        clear hg
        first | refine hK.out _ _ ?_ (fun hHeld => ?_) | (go_wp2_with fail; refine hK.out _ _ ?_ (fun hHeld => ?_))
        · exact ⟨Blk.s3 B7.out, Blk.s3 B9.out, Blk.s3 B12.out, Blk.s3 B13.out, Blk.s3 B15.out⟩
        clear hK K
        (try simp only [Act.put, List.getElem_toArray, List.getElem_cons_zero, List.getElem_cons_succ, List.setIfInBounds_toArray, List.set_cons_zero, List.set_cons_succ])
        refine wpAnyH_take (i := 4) (v := ?_) rfl (by kernel_rfl) (by kernel_rfl) (by kernel_rfl) (fun _ _ _ h => h) (Or.inl ⟨by rfl, ?_⟩) (by assumption) ?_
        rotate_left
        · (intro w hSw; (try dsimp only at hSw); go_simp; first | done | with_reducible rfl)
        (try simp only [Act.put, List.getElem_toArray, List.getElem_cons_zero, List.getElem_cons_succ, List.setIfInBounds_toArray, List.set_cons_zero, List.set_cons_succ])
        refine wpAnyH_take (i := 5) (v := ?_) rfl (by kernel_rfl) (by kernel_rfl) (by kernel_rfl) (fun _ _ _ h => h) (Or.inl ⟨by rfl, ?_⟩) (by assumption) ?_
        rotate_left
        · (intro w hSw; (try dsimp only at hSw); go_simp; first | done | with_reducible rfl)
        (try simp only [Act.put, List.getElem_toArray, List.getElem_cons_zero, List.getElem_cons_succ, List.setIfInBounds_toArray, List.set_cons_zero, List.set_cons_succ])
        refine wpAnyH_take (i := 6) (v := ?_) rfl (by kernel_rfl) (by kernel_rfl) (by kernel_rfl) (fun _ _ _ h => h) (Or.inl ⟨by rfl, ?_⟩) (by assumption) ?_
        rotate_left
        · (intro w hSw; (try dsimp only at hSw); go_simp; first | done | with_reducible rfl)
        (try simp only [Act.put, List.getElem_toArray, List.getElem_cons_zero, List.getElem_cons_succ, List.setIfInBounds_toArray, List.set_cons_zero, List.set_cons_succ])
        refine wpAnyH_take (i := 7) (v := ?_) rfl (by kernel_rfl) (by kernel_rfl) (by kernel_rfl) (fun _ _ _ h => h) (Or.inl ⟨by rfl, ?_⟩) (by assumption) ?_
        rotate_left
        · (intro w hSw; (try dsimp only at hSw); go_simp; first | done | with_reducible rfl)
        (try simp only [Act.put, List.getElem_toArray, List.getElem_cons_zero, List.getElem_cons_succ, List.setIfInBounds_toArray, List.set_cons_zero, List.set_cons_succ])
        refine wpAnyH_take (i := 8) (v := ?_) rfl (by kernel_rfl) (by kernel_rfl) (by kernel_rfl) (fun _ _ _ h => h) (Or.inl ⟨by rfl, ?_⟩) (by assumption) ?_
        rotate_left
        · (intro w hSw; (try dsimp only at hSw); go_simp; first | done | with_reducible rfl)
        (try simp only [Act.put, List.getElem_toArray, List.getElem_cons_zero, List.getElem_cons_succ, List.setIfInBounds_toArray, List.set_cons_zero, List.set_cons_succ])
        refine wpAnyH_take (i := 9) (v := ?_) rfl (by kernel_rfl) (by kernel_rfl) (by kernel_rfl) (fun _ _ _ h => h) (Or.inl ⟨by rfl, ?_⟩) (by assumption) ?_
        rotate_left
        · (intro w hSw; (try dsimp only at hSw); go_simp; first | done | with_reducible rfl)
        (try simp only [Act.put, List.getElem_toArray, List.getElem_cons_zero, List.getElem_cons_succ, List.setIfInBounds_toArray, List.set_cons_zero, List.set_cons_succ])
        refine wpAnyH_ready (rs := [10]) (by kernel_rfl) (by simp) ?_
        refine AllReadyH.cons rfl (fun K hK => ?_) ?_
        rotate_left
        · exact AllReadyH.nil
        go_simp
        refine (same6_any _ _ RO RO eo eo W3.heap.size w4.heap.size _ Kb.out Ko.out.rd (by have := ord.out; have := z6.out; have := z7.out; omega) L1.out rfl rfl).mono ?_
        rintro e w8 ⟨rfl, hg⟩
        have B7 : Hid (Blk _ w1.heap.size #[.bool RO.neg, .slice o1 RO.num.length o2, .slice o3 RO.den.length o4] 26) := Lib.hid ((hg.block _ B7.out.lt (by have := ord.out; have := ord2.out; omega)).trans B7.out)
        have B9 : Hid (Blk _ w2.heap.size #[.bool RP.neg, .slice p1 RP.num.length p2, .slice p3 RP.den.length p4] 26) := Lib.hid ((hg.block _ B9.out.lt (by have := ord.out; have := ord2.out; omega)).trans B9.out)
        have B12 : Hid (Blk _ w3.heap.size #[.bool RA.neg, .slice a1 RA.num.length a2, .slice a3 RA.den.length a4] 26) := Lib.hid ((hg.block _ B12.out.lt (by have := ord.out; have := ord2.out; omega)).trans B12.out)
        have B13 : Hid (Blk _ w4.heap.size #[.bool RO.neg, .slice b1 RO.num.length b2, .slice b3 RO.den.length b4] 26) := Lib.hid ((hg.block _ B13.out.lt (by have := ord.out; have := ord2.out; omega)).trans B13.out)
        have B15 : Hid (Blk _ w5.heap.size #[.bool RP.neg, .slice c1 RP.num.length c2, .slice c3 RP.den.length c4] 26) := Lib.hid ((hg.block _ B15.out.lt (by have := ord.out; have := ord2.out; omega)).trans B15.out)
        have Ko := Lib.hid (Ko.out.gr hg (by have := ord.out; have := ord2.out; omega))
        have Kp := Lib.hid (Kp.out.gr hg (by have := ord.out; have := ord2.out; omega))
        have Kc := Lib.hid (Kc.out.gr hg (by have := ord.out; have := ord2.out; omega))
        have XR := Lib.hid (GrX.ext XR.out hg (by have := ord.out; omega))
        have z8 := Lib.hid hg.size
        clear hg
        first | refine hK.out _ _ ?_ (fun hHeld => ?_) | (go_wp2_with fail; refine hK.out _ _ ?_ (fun hHeld => ?_))
        · exact ⟨Blk.s3 B7.out, Blk.s3 B9.out, Blk.s3 B12.out, Blk.s3 B13.out, Blk.s3 B15.out⟩
        clear hK K
        (try simp only [Act.put, List.getElem_toArray, List.getElem_cons_zero, List.getElem_cons_succ, List.setIfInBounds_toArray, List.set_cons_zero, List.set_cons_succ])
        refine wpAnyH_take (i := 11) (v := ?_) rfl (by kernel_rfl) (by kernel_rfl) (by kernel_rfl) (fun _ _ _ h => h) (Or.inl ⟨by rfl, ?_⟩) (by assumption) ?_
        rotate_left
        · (intro w hSw; (try dsimp only at hSw); go_simp; first | done | with_reducible rfl)
        (try simp only [Act.put, List.getElem_toArray, List.getElem_cons_zero, List.getElem_cons_succ, List.setIfInBounds_toArray, List.set_cons_zero, List.set_cons_succ])
        refine wpAnyH_take (i := 12) (v := ?_) rfl (by kernel_rfl) (by kernel_rfl) (by kernel_rfl) (fun _ _ _ h => h) (Or.inl ⟨by rfl, ?_⟩) (by assumption) ?_
        rotate_left
        · (intro w hSw; (try dsimp only at hSw); go_simp; first | done | with_reducible rfl)
        (try simp only [Act.put, List.getElem_toArray, List.getElem_cons_zero, List.getElem_cons_succ, List.setIfInBounds_toArray, List.set_cons_zero, List.set_cons_succ])
        refine wpAnyH_take (i := 13) (v := ?_) rfl (by kernel_rfl) (by kernel_rfl) (by kernel_rfl) (fun _ _ _ h => h) (Or.inl ⟨by rfl, ?_⟩) (by assumption) ?_
        rotate_left
        · (intro w hSw; (try dsimp only at hSw); go_simp; first | done | with_reducible rfl)
        (try simp only [Act.put, List.getElem_toArray, List.getElem_cons_zero, List.getElem_cons_succ, List.setIfInBounds_toArray, List.set_cons_zero, List.set_cons_succ])
        refine wpAnyH_take (i := 14) (v := ?_) rfl (by kernel_rfl) (by kernel_rfl) (by kernel_rfl) (fun _ _ _ h => h) (Or.inl ⟨by rfl, ?_⟩) (by assumption) ?_
        rotate_left
        · (intro w hSw; (try dsimp only at hSw); go_simp; first | done | with_reducible rfl)
        (try simp only [Act.put, List.getElem_toArray, List.getElem_cons_zero, List.getElem_cons_succ, List.setIfInBounds_toArray, List.set_cons_zero, List.set_cons_succ])
        refine wpAnyH_take (i := 15) (v := ?_) rfl (by kernel_rfl) (by kernel_rfl) (by kernel_rfl) (fun _ _ _ h => h) (Or.inl ⟨by rfl, ?_⟩) (by assumption) ?_
        rotate_left
        · (intro w hSw; (try dsimp only at hSw); go_simp; first | done | with_reducible rfl)
        (try simp only [Act.put, List.getElem_toArray, List.getElem_cons_zero, List.getElem_cons_succ, List.setIfInBounds_toArray, List.set_cons_zero, List.set_cons_succ])
        refine wpAnyH_take (i := 16) (v := ?_) rfl (by kernel_rfl) (by kernel_rfl) (by kernel_rfl) (fun _ _ _ h => h) (Or.inl ⟨by rfl, ?_⟩) (by assumption) ?_
        rotate_left
        · (intro w hSw; (try dsimp only at hSw); go_simp; first | done | with_reducible rfl)
        (try simp only [Act.put, List.getElem_toArray, List.getElem_cons_zero, List.getElem_cons_succ, List.setIfInBounds_toArray, List.set_cons_zero, List.set_cons_succ])
        refine wpAnyH_take (i := 17) (v := ?_) rfl (by kernel_rfl) (by kernel_rfl) (by kernel_rfl) (fun _ _ _ h => h) (Or.inl ⟨by rfl, ?_⟩) (by assumption) ?_
        rotate_left
        · (intro w hSw; (try dsimp only at hSw); go_simp; first | done | with_reducible rfl)
        (try simp only [Act.put, List.getElem_toArray, List.getElem_cons_zero, List.getElem_cons_succ, List.setIfInBounds_toArray, List.set_cons_zero, List.set_cons_succ])
        refine wpAnyH_ready (rs := [18]) (by kernel_rfl) (by simp) ?_
        refine AllReadyH.cons rfl (fun K hK => ?_) ?_
        rotate_left
        · exact AllReadyH.nil
        go_simp
        refine (same6_any _ _ RP RP ep ep W4.heap.size w5.heap.size _ Kc.out Kp.out.rd (by have := ord.out; have := z6.out; have := z7.out; have := z8.out; omega) L2.out rfl rfl).mono ?_
        rintro e w9 ⟨rfl, hg⟩
        have B7 : Hid (Blk _ w1.heap.size #[.bool RO.neg, .slice o1 RO.num.length o2, .slice o3 RO.den.length o4] 26) := Lib.hid ((hg.block _ B7.out.lt (by have := ord.out; have := ord2.out; omega)).trans B7.out)
        have B9 : Hid (Blk _ w2.heap.size #[.bool RP.neg, .slice p1 RP.num.length p2, .slice p3 RP.den.length p4] 26) := Lib.hid ((hg.block _ B9.out.lt (by have := ord.out; have := ord2.out; omega)).trans B9.out)
        have B12 : Hid (Blk _ w3.heap.size #[.bool RA.neg, .slice a1 RA.num.length a2, .slice a3 RA.den.length a4] 26) := Lib.hid ((hg.block _ B12.out.lt (by have := ord.out; have := ord2.out; omega)).trans B12.out)
        have B13 : Hid (Blk _ w4.heap.size #[.bool RO.neg, .slice b1 RO.num.length b2, .slice b3 RO.den.length b4] 26) := Lib.hid ((hg.block _ B13.out.lt (by have := ord.out; have := ord2.out; omega)).trans B13.out)
        have B15 : Hid (Blk _ w5.heap.size #[.bool RP.neg, .slice c1 RP.num.length c2, .slice c3 RP.den.length c4] 26) := Lib.hid ((hg.block _ B15.out.lt (by have := ord.out; have := ord2.out; omega)).trans B15.out)
        have XR := Lib.hid (GrX.ext XR.out hg (by have := ord.out; omega))
        clear hg
        first | refine hK.out _ _ ?_ (fun hHeld => ?_) | (go_wp2_with fail; refine hK.out _ _ ?_ (fun hHeld => ?_))
        · exact ⟨Blk.s3 B7.out, Blk.s3 B9.out, Blk.s3 B12.out, Blk.s3 B13.out, Blk.s3 B15.out⟩
        clear hK K
        (try simp only [Act.put, List.getElem_toArray, List.getElem_cons_zero, List.getElem_cons_succ, List.setIfInBounds_toArray, List.set_cons_zero, List.set_cons_succ])
        refine wpAnyH_take (i := 19) (v := ?_) rfl (by kernel_rfl) (by kernel_rfl) (by kernel_rfl) (fun _ _ _ h => h) (Or.inl ⟨by rfl, ?_⟩) (by assumption) ?_
        rotate_left
        · (intro w hSw; (try dsimp only at hSw); go_simp; first | done | with_reducible rfl)
        (try simp only [Act.put, List.getElem_toArray, List.getElem_cons_zero, List.getElem_cons_succ, List.setIfInBounds_toArray, List.set_cons_zero, List.set_cons_succ])
        refine wpAnyH_take (i := 20) (v := ?_) rfl (by kernel_rfl) (by kernel_rfl) (by kernel_rfl) (fun _ _ _ h => h) (Or.inl ⟨by rfl, ?_⟩) (by assumption) ?_
        rotate_left
        · (intro w hSw; (try dsimp only at hSw); go_simp; first | done | with_reducible rfl)
        (try simp only [Act.put, List.getElem_toArray, List.getElem_cons_zero, List.getElem_cons_succ, List.setIfInBounds_toArray, List.set_cons_zero, List.set_cons_succ])
        refine wpAnyH_done (by kernel_rfl) ?_ _
        go_wp2_with fail
        go_roundw
        case rel => exact ⟨k + 1, by omega, by go_num, X2.out.trans XR.out⟩
        case measure => simp [intOf]; omega
      · have q : ¬ ((k : Int) < 2) := by omega
        go_wp2_with fail
        refine (awake6_any _).mono ?_
        rintro e w2 ⟨rfl, hx2⟩
        have X3 := Lib.hid ((X.out.trans X2.out).trans hx2)
        clear hx2
        go_wp2_with fail
        go_ret
        exact ⟨rfl, X3.out⟩

end Go.Proofs.Ytebdmmlniohhgaa
