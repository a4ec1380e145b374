/- Part of the proof of mat6_holds: what the row needs of LawMat6. Conditions: as each theorem states. -/
import Derived.Test.YtbnalhmcbolngaaGreatSmLawDots
import Derived.Test.YtbnalhmcbolngaaGreatSmRatFr
import Derived.Test.YtbnalhmcbolngaaGreatSmRatTr
import Derived.Test.YtbnalhmcbolngaaGreatSmGK
import Derived.Test.YtbnalhmcbolngaaGreatSmGJ
import Derived.Test.YtbnalhmcbolngaaGreatSmEach
namespace Go.Proofs.YtbnalhmcbolngaaGreat
set_option linter.unusedSimpArgs false
set_option linter.unusedVariables false
open Go.RowKit
def matJ (n : Bool) (ln ld : Nat) (x1 x3 : Option Addr) (x2 x4 : Nat) (a1 a3 : Option Addr) (a2 a4 : Nat) (ck c0 c1 f0 f1 g1 : Int) (g0 : ByteArray) (j : Nat) (v : Value) (_ : World) : Prop :=
  match j with
  | 0 => v = .agg #[.bool n, .slice x1 ln x2, .slice x3 ld x4]
  | 1 => v = .int .i64 ck
  | 2 => v = .agg #[.bool n, .slice a1 ln a2, .slice a3 ld a4]
  | 3 => v = .int .i64 ck
  | 4 => v = .bool false
  | 5 => v = .bool false
  | 6 => v = .int .i64 c0
  | 7 => v = .int .i64 c0
  | 8 => v = .bool false
  | 9 => v = .bool false
  | 10 => v = .bool false
  | 11 => v = .int .i64 c1
  | 12 => v = .int .i64 c1
  | 13 => v = .bool false
  | 14 => v = .bool false
  | 15 => v = .bool false
  | 16 => v = .int .i64 f0
  | 17 => v = .int .i64 f0
  | 18 => v = .bool false
  | 19 => v = .bool false
  | 20 => v = .bool false
  | 21 => v = .int .i64 f1
  | 22 => v = .int .i64 f1
  | 23 => v = .bool false
  | 24 => v = .bool false
  | 25 => v = .bool false
  | 26 => v = .string g0
  | 27 => v = .string g0
  | 28 => v = .bool false
  | 29 => v = .bool false
  | 30 => v = .bool false
  | 31 => v = .int .i64 g1
  | 32 => v = .int .i64 g1
  | 33 => v = .bool false
  | 34 => v = .bool false
  | _ => True
theorem getD_bool {o : Option Value} {b : Bool} (h : o.getD undef = .bool b) : o = some (.bool b) := by
  cases o with
  | none => cases h
  | some v => exact congrArg some h
theorem via5 {Goal : Prop} {G : World → Nat → Nat → Value → Value → Prop} (F : World → Nat → Nat → Value → Value → Prop) (h1 : (∀ W p q x y, F W p q x y → G W p q x y) → Goal) (h2 : ∀ W p q x y, F W p q x y → G W p q x y) : Goal := h1 h2
theorem negR_len {a : RR} (hl : LimR a) (h : a.num.length ≤ 200 ∧ a.den.length ≤ 200) : (negR a).1.num.length ≤ 1000000 ∧ (negR a).1.den.length ≤ 1000000 := by
  by_cases hc : chkR a = 0
  · have e : negR a = (minR a, 0) := by unfold negR; rw [if_pos hc, ← minR_rep, (valid_rep hl hc).2.2]
    rw [e]
    exact ⟨Nat.le_trans h.1 (by decide), Nat.le_trans h.2 (by decide)⟩
  · unfold negR; rw [if_neg hc]; exact ⟨Nat.zero_le _, Nat.zero_le _⟩
theorem absR_len {a : RR} (h : a.num.length ≤ 200 ∧ a.den.length ≤ 200) : (absR a).1.num.length ≤ 1000000 ∧ (absR a).1.den.length ≤ 1000000 := by
  unfold absR; split
  · exact ⟨Nat.le_trans h.1 (by decide), Nat.le_trans h.2 (by decide)⟩
  · exact ⟨Nat.zero_le _, Nat.zero_le _⟩
theorem opR_len (a b : RR) (x : RR × Int) (h : x.1.num.length ≤ 128 ∧ x.1.den.length ≤ 128) : (opR a b x).1.num.length ≤ 1000000 ∧ (opR a b x).1.den.length ≤ 1000000 := by
  unfold opR; split
  · exact ⟨Nat.le_trans h.1 (by decide), Nat.le_trans h.2 (by decide)⟩
  · exact ⟨Nat.zero_le _, Nat.zero_le _⟩
theorem divR_len (a b : RR) : (divR a b).1.num.length ≤ 1000000 ∧ (divR a b).1.den.length ≤ 1000000 := by
  unfold divR
  refine opR_len _ _ _ ?_
  split
  · exact ⟨Nat.zero_le _, Nat.zero_le _⟩
  · exact fitR_len _
theorem RdR.set3r {W : World} {v : Value} {r : RR} (h : RdR W v r) {bx : Nat} {c : Array Value} {t : TypeId} (hb : Blk W bx c t) (ht : ∀ x ∈ c, ∀ n, x ≠ .int .u32 n) (x y z : Value) (hx : ∀ n, x ≠ .int .u32 n) (hy : ∀ n, y ≠ .int .u32 n) :
    RdR (((W.setCell ⟨bx, 0, none⟩ x).setCell ⟨bx, 1, none⟩ y).setCell ⟨bx, 2, none⟩ z) v r := by
  obtain ⟨vn, vd, rfl, h1, h2⟩ := h
  exact ⟨_, _, rfl, rdI_set3 h1 hb ht x y z hx hy, rdI_set3 h2 hb ht x y z hx hy⟩
set_option maxRecDepth 100000 in
set_option maxHeartbeats 8000000 in
theorem mat6_any (va vb : Value) (ra rb : RR) (w : World) (ha : RdR w va ra) (hb : RdR w vb rb) (la : LimR ra) (lb : LimR rb) :
    Calls Tryz.prog 7 #[va, vb] w fun e w' => e = .returned (.bool true) ∧ Ext w w' := by
  have NA := Lib.hid ha; have NB := Lib.hid hb; have LA := Lib.hid la; have LB := Lib.hid lb
  obtain ⟨a1, a2, a3, a4, rfl⟩ := ha.shape
  obtain ⟨b1, b2, b3, b4, rfl⟩ := hb.shape
  clear ha hb la lb
  have bb0 := ((Blk.new w #[.bool ra.neg, .slice a1 ra.num.length a2, .slice a3 ra.den.length a4] 33).alloc (.cells #[.bool rb.neg, .slice b1 rb.num.length b2, .slice b3 rb.den.length b4] 33))
  have bb1 := (Blk.new (w.alloc (.cells #[.bool ra.neg, .slice a1 ra.num.length a2, .slice a3 ra.den.length a4] 33)) #[.bool rb.neg, .slice b1 rb.num.length b2, .slice b3 rb.den.length b4] 33)
  rw [World.size_alloc] at bb1
  have x0 : Ext w ((w.alloc (.cells #[.bool ra.neg, .slice a1 ra.num.length a2, .slice a3 ra.den.length a4] 33)).alloc (.cells #[.bool rb.neg, .slice b1 rb.num.length b2, .slice b3 rb.den.length b4] 33)) := (((Ext.refl w).alloc _).alloc _)
  have A0 := Lib.hid bb0; have A1 := Lib.hid bb1; have X := Lib.hid x0
  clear x0 bb0 bb1
  have NA := Lib.hid (NA.out.ext X.out); have NB := Lib.hid (NB.out.ext X.out)
  go_enter Tryz.func7, Tryz.ntmps7
  have qA0 := A0.out.cell; have fA0 := A0.out.free; have lA0 := A0.out.lt; have qA1 := A1.out.cell; have fA1 := A1.out.free; have lA1 := A1.out.lt
  go_wp2_with fail
  clear qA0 fA0 lA0 qA1 fA1 lA1
  have bl := Blk.new ((w.alloc (.cells #[.bool ra.neg, .slice a1 ra.num.length a2, .slice a3 ra.den.length a4] 33)).alloc (.cells #[.bool rb.neg, .slice b1 rb.num.length b2, .slice b3 rb.den.length b4] 33)) #[.bool ra.neg, .slice a1 ra.num.length a2, .slice a3 ra.den.length a4, .bool rb.neg, .slice b1 rb.num.length b2, .slice b3 rb.den.length b4] 33
  rw [World.size_alloc, World.size_alloc] at bl
  have xl : Ext ((w.alloc (.cells #[.bool ra.neg, .slice a1 ra.num.length a2, .slice a3 ra.den.length a4] 33)).alloc (.cells #[.bool rb.neg, .slice b1 rb.num.length b2, .slice b3 rb.den.length b4] 33)) (((w.alloc (.cells #[.bool ra.neg, .slice a1 ra.num.length a2, .slice a3 ra.den.length a4] 33)).alloc (.cells #[.bool rb.neg, .slice b1 rb.num.length b2, .slice b3 rb.den.length b4] 33)).alloc (.cells #[.bool ra.neg, .slice a1 ra.num.length a2, .slice a3 ra.den.length a4, .bool rb.neg, .slice b1 rb.num.length b2, .slice b3 rb.den.length b4] 33)) := (Ext.refl _).alloc _
  have NA := Lib.hid (NA.out.ext xl); have NB := Lib.hid (NB.out.ext xl); have A0 := Lib.hid (A0.out.ext xl); have A1 := Lib.hid (A1.out.ext xl); have X := Lib.hid (X.out.trans xl)
  obtain ⟨wl, hwl⟩ : ∃ W, W = ((w.alloc (.cells #[.bool ra.neg, .slice a1 ra.num.length a2, .slice a3 ra.den.length a4] 33)).alloc (.cells #[.bool rb.neg, .slice b1 rb.num.length b2, .slice b3 rb.den.length b4] 33)).alloc (.cells #[.bool ra.neg, .slice a1 ra.num.length a2, .slice a3 ra.den.length a4, .bool rb.neg, .slice b1 rb.num.length b2, .slice b3 rb.den.length b4] 33) := ⟨_, rfl⟩
  rw [← hwl] at NA NB A0 A1 X bl ⊢
  clear hwl xl
  refine (long6_any (w.heap.size + 1 + 1) [((a1, ra.num.length, a2), (a3, ra.den.length, a4)), ((b1, rb.num.length, b2), (b3, rb.den.length, b4))] wl (by simp) (fun i hi => match i, hi with | 0, _ => ⟨bl.cell 1, bl.cell 2⟩ | 1, _ => ⟨bl.cell 4, bl.cell 5⟩)).mono ?_
  rintro e w0 ⟨⟨rl, rfl, hr⟩, hx⟩
  have NA := Lib.hid (NA.out.ext hx); have NB := Lib.hid (NB.out.ext hx); have A0 := Lib.hid (A0.out.ext hx); have A1 := Lib.hid (A1.out.ext hx); have X := Lib.hid (X.out.trans hx)
  clear hx bl
  cases rl
  rotate_left
  · clear hr
    go_wp2_with fail
    refine (awake6_any _).mono ?_
    rintro e w1 ⟨rfl, hx⟩
    have NA := Lib.hid (NA.out.ext hx); have NB := Lib.hid (NB.out.ext hx); have A0 := Lib.hid (A0.out.ext hx); have A1 := Lib.hid (A1.out.ext hx); have X := Lib.hid (X.out.trans hx)
    clear hx
    go_wp2_with fail
    go_ret
    exact ⟨rfl, X.out⟩
  have hok := hr rfl
  clear hr
  obtain ⟨oa1, oa2⟩ := hok 0 (by simp)
  obtain ⟨ob1, ob2⟩ := hok 1 (by simp)
  dsimp only [List.getElem_cons_zero, List.getElem_cons_succ] at oa1 oa2 ob1 ob2
  unfold okLen at oa1 oa2 ob1 ob2
  have SA : Hid (ra.num.length ≤ 200 ∧ ra.den.length ≤ 200) := Lib.hid ⟨oa1.2, oa2.2⟩; have SB : Hid (rb.num.length ≤ 200 ∧ rb.den.length ≤ 200) := Lib.hid ⟨ob1.2, ob2.2⟩
  clear hok oa1 oa2 ob1 ob2
  have L0 := Lib.hid A0.out.lt; have L1 := Lib.hid A1.out.lt
  go_wp2_with fail
  refine wp_region_held_drew (S := (fun W => (W.cell? ⟨w.heap.size, 0, none⟩ = some (.bool ra.neg) ∧ W.cell? ⟨w.heap.size, 1, none⟩ = some (.slice a1 ra.num.length a2) ∧ W.cell? ⟨w.heap.size, 2, none⟩ = some (.slice a3 ra.den.length a4)) ∧ (W.cell? ⟨(w.heap.size + 1), 0, none⟩ = some (.bool rb.neg) ∧ W.cell? ⟨(w.heap.size + 1), 1, none⟩ = some (.slice b1 rb.num.length b2) ∧ W.cell? ⟨(w.heap.size + 1), 2, none⟩ = some (.slice b3 rb.den.length b4)))) (by kernel_rfl) ?_ (fun hHeld => ?_)
  · exact ⟨⟨A0.out.drew.cell 0, A0.out.drew.cell 1, A0.out.drew.cell 2⟩, ⟨A1.out.drew.cell 0, A1.out.drew.cell 1, A1.out.drew.cell 2⟩⟩
  refine wpAnyH_take (i := 0) (v := ?_) rfl (by kernel_rfl) (by kernel_rfl) (by kernel_rfl) (fun _ _ _ h => h) (Or.inl ⟨by rfl, ?_⟩) (by assumption) ?_
  rotate_left
  · (intro w hSw; (try dsimp only at hSw); go_simp; first | done | with_reducible rfl)
  (try simp only [Act.put, List.getElem_toArray, List.getElem_cons_zero, List.getElem_cons_succ, List.setIfInBounds_toArray, List.set_cons_zero, List.set_cons_succ])
  refine wpAnyH_take (i := 2) (v := ?_) rfl (by kernel_rfl) (by kernel_rfl) (by kernel_rfl) (fun _ _ _ h => h) (Or.inl ⟨by rfl, ?_⟩) (by assumption) ?_
  rotate_left
  · (intro w hSw; (try dsimp only at hSw); go_simp; first | done | with_reducible rfl)
  (try simp only [Act.put, List.getElem_toArray, List.getElem_cons_zero, List.getElem_cons_succ, List.setIfInBounds_toArray, List.set_cons_zero, List.set_cons_succ])
  have hcp := fun W (x : Ext w0 W) => copyRat_any _ ra W (NA.out.ext x) ⟨by have := SA.out.1; omega, by have := SA.out.2; omega⟩
  have hcq := fun W (x : Ext w0 W) => copyRat_any _ rb W (NB.out.ext x) ⟨by have := SB.out.1; omega, by have := SB.out.2; omega⟩
  have CP := Lib.hid hcp; have CQ := Lib.hid hcq
  have XW : Hid (Ext w0 w0) := Lib.hid (Ext.refl _)
  have X0 := X; have NA0 := NA; have NB0 := NB
  clear hcp hcq
  apply via5 (F := fun W p q x y => Ext w0 W ∧ Blk W p #[.bool false, .slice none 0 0, .slice none 0 0] 33 ∧ Blk W q #[.bool false, .slice none 0 0, .slice none 0 0] 33 ∧ p ≠ q ∧ w0.heap.size ≤ p ∧ w0.heap.size ≤ q ∧ RdR W x ra ∧ RdR W y rb)
  · intro HV
    refine wpAnyH_ready (rs := [1, 4, 5]) (by kernel_rfl) (by simp) ?_
    refine AllReadyH.cons rfl (fun K hK => ?_) (AllReadyH.cons rfl (fun K hK => ?_) (AllReadyH.cons rfl (fun K hK => ?_) AllReadyH.nil))
    · go_simp
      refine (CP.out _ (show Ext w0 _ from by have x9 := XW.out; (repeat (first | (with_reducible exact Ext.refl _) | (with_reducible assumption) | (with_reducible refine Ext.alloc ?_ _) | ((with_reducible refine Ext.setp ?_ ?_); focus (dsimp only; omega)) | (with_reducible refine Ext.drew ?_) | (with_reducible refine Ext.drewN ?_ _) | (with_reducible refine Ext.trans ?_ (by assumption)))))).mono ?_
      rintro e w1 ⟨⟨xv, rfl, nn⟩, hx⟩
      have hx := Ext.trans (show Ext w0 _ from by first | exact Ext.refl _ | exact (Ext.refl _).drew) hx
      have NA := Lib.hid (NA.out.ext hx); have NB := Lib.hid (NB.out.ext hx); have A0 := Lib.hid (A0.out.ext hx); have A1 := Lib.hid (A1.out.ext hx); have X := Lib.hid (X.out.trans hx)
      have XW := Lib.hid (XW.out.trans hx)
      have NX := Lib.hid nn.rd
      clear nn hx
      first | refine hK.out _ _ ?_ (fun hHeld => ?_) | (go_wp2_with fail; refine hK.out _ _ ?_ (fun hHeld => ?_))
      · exact ⟨⟨A0.out.cell 0, A0.out.cell 1, A0.out.cell 2⟩, ⟨A1.out.cell 0, A1.out.cell 1, A1.out.cell 2⟩⟩
      clear hK K
      (try simp only [Act.put, List.getElem_toArray, List.getElem_cons_zero, List.getElem_cons_succ, List.setIfInBounds_toArray, List.set_cons_zero, List.set_cons_succ])
      refine wpAnyH_ready (rs := [3, 4, 5]) (by kernel_rfl) (by simp) ?_
      refine AllReadyH.cons rfl (fun K hK => ?_) (AllReadyH.cons rfl (fun K hK => ?_) (AllReadyH.cons rfl (fun K hK => ?_) AllReadyH.nil))
      · go_simp
        refine (CQ.out _ (show Ext w0 _ from by have x9 := XW.out; (repeat (first | (with_reducible exact Ext.refl _) | (with_reducible assumption) | (with_reducible refine Ext.alloc ?_ _) | ((with_reducible refine Ext.setp ?_ ?_); focus (dsimp only; omega)) | (with_reducible refine Ext.drew ?_) | (with_reducible refine Ext.drewN ?_ _) | (with_reducible refine Ext.trans ?_ (by assumption)))))).mono ?_
        rintro e w2 ⟨⟨yv, rfl, nn⟩, hx⟩
        have hx := Ext.trans (show Ext w1 _ from by first | exact Ext.refl _ | exact (Ext.refl _).drew) hx
        have NA := Lib.hid (NA.out.ext hx); have NB := Lib.hid (NB.out.ext hx); have A0 := Lib.hid (A0.out.ext hx); have A1 := Lib.hid (A1.out.ext hx); have NX := Lib.hid (NX.out.ext hx); have X := Lib.hid (X.out.trans hx)
        have XW := Lib.hid (XW.out.trans hx)
        have NY := Lib.hid nn.rd
        clear nn hx
        first | refine hK.out _ _ ?_ (fun hHeld => ?_) | (go_wp2_with fail; refine hK.out _ _ ?_ (fun hHeld => ?_))
        · exact ⟨⟨A0.out.cell 0, A0.out.cell 1, A0.out.cell 2⟩, ⟨A1.out.cell 0, A1.out.cell 1, A1.out.cell 2⟩⟩
        clear hK K
        (try simp only [Act.put, List.getElem_toArray, List.getElem_cons_zero, List.getElem_cons_succ, List.setIfInBounds_toArray, List.set_cons_zero, List.set_cons_succ])
        refine wpAnyH_ready (rs := [4, 5]) (by kernel_rfl) (by simp) ?_
        refine AllReadyH.cons rfl (fun K hK => ?_) (AllReadyH.cons rfl (fun K hK => ?_) AllReadyH.nil)
        · go_simp
          have hx : Ext w2 ((w2.alloc (.cells #[.bool false, .slice none 0 0, .slice none 0 0] 33))) := (Ext.refl _).alloc _
          have bz : Blk ((w2.alloc (.cells #[.bool false, .slice none 0 0, .slice none 0 0] 33))) w2.heap.size #[.bool false, .slice none 0 0, .slice none 0 0] 33 := Blk.new w2 #[.bool false, .slice none 0 0, .slice none 0 0] 33
          obtain ⟨w3, hww3⟩ : ∃ W, W = (w2.alloc (.cells #[.bool false, .slice none 0 0, .slice none 0 0] 33)) := ⟨_, rfl⟩
          rw [← hww3] at hx bz ⊢
          obtain ⟨PPn, hPPn⟩ : ∃ n, n = w2.heap.size := ⟨_, rfl⟩
          have hlw : w0.heap.size ≤ PPn := by rw [hPPn]; exact XW.out.size
          rw [← hPPn] at bz  ⊢
          have LPP := Lib.hid hlw
          have XW := Lib.hid (XW.out.trans hx)
          have NA := Lib.hid (NA.out.ext hx); have NB := Lib.hid (NB.out.ext hx); have A0 := Lib.hid (A0.out.ext hx); have A1 := Lib.hid (A1.out.ext hx); have NX := Lib.hid (NX.out.ext hx); have NY := Lib.hid (NY.out.ext hx); have X := Lib.hid (X.out.trans hx)
          have PP := Lib.hid bz
          clear hx bz hlw hww3 hPPn
          first | refine hK.out _ _ ?_ (fun hHeld => ?_) | (go_wp2_with fail; refine hK.out _ _ ?_ (fun hHeld => ?_))
          · exact ⟨⟨A0.out.cell 0, A0.out.cell 1, A0.out.cell 2⟩, ⟨A1.out.cell 0, A1.out.cell 1, A1.out.cell 2⟩⟩
          clear hK K
          (try simp only [Act.put, List.getElem_toArray, List.getElem_cons_zero, List.getElem_cons_succ, List.setIfInBounds_toArray, List.set_cons_zero, List.set_cons_succ])
          refine wpAnyH_ready (rs := [5]) (by kernel_rfl) (by simp) ?_
          refine AllReadyH.cons rfl (fun K hK => ?_) ?_
          rotate_left
          · exact AllReadyH.nil
          go_simp
          have hlo : PPn < w3.heap.size := PP.out.lt
          have hx : Ext w3 ((w3.alloc (.cells #[.bool false, .slice none 0 0, .slice none 0 0] 33))) := (Ext.refl _).alloc _
          have bz : Blk ((w3.alloc (.cells #[.bool false, .slice none 0 0, .slice none 0 0] 33))) w3.heap.size #[.bool false, .slice none 0 0, .slice none 0 0] 33 := Blk.new w3 #[.bool false, .slice none 0 0, .slice none 0 0] 33
          obtain ⟨w4, hww4⟩ : ∃ W, W = (w3.alloc (.cells #[.bool false, .slice none 0 0, .slice none 0 0] 33)) := ⟨_, rfl⟩
          rw [← hww4] at hx bz ⊢
          obtain ⟨QQn, hQQn⟩ : ∃ n, n = w3.heap.size := ⟨_, rfl⟩
          have hlw : w0.heap.size ≤ QQn := by rw [hQQn]; exact XW.out.size
          rw [← hQQn] at bz hlo ⊢
          have LQQ := Lib.hid hlw; have LO := Lib.hid hlo
          have XW := Lib.hid (XW.out.trans hx)
          have NA := Lib.hid (NA.out.ext hx); have NB := Lib.hid (NB.out.ext hx); have A0 := Lib.hid (A0.out.ext hx); have A1 := Lib.hid (A1.out.ext hx); have NX := Lib.hid (NX.out.ext hx); have NY := Lib.hid (NY.out.ext hx); have PP := Lib.hid (PP.out.ext hx); have X := Lib.hid (X.out.trans hx)
          have QQ := Lib.hid bz
          clear hx bz hlw hww4 hQQn hlo
          first | refine hK.out _ _ ?_ (fun hHeld => ?_) | (go_wp2_with fail; refine hK.out _ _ ?_ (fun hHeld => ?_))
          · exact ⟨⟨A0.out.cell 0, A0.out.cell 1, A0.out.cell 2⟩, ⟨A1.out.cell 0, A1.out.cell 1, A1.out.cell 2⟩⟩
          clear hK K
          (try simp only [Act.put, List.getElem_toArray, List.getElem_cons_zero, List.getElem_cons_succ, List.setIfInBounds_toArray, List.set_cons_zero, List.set_cons_succ])
          exact HV w4 PPn QQn xv yv ⟨XW.out, PP.out, QQ.out, Nat.ne_of_lt LO.out, LPP.out, LQQ.out, NX.out, NY.out⟩
        · go_simp
          have hx : Ext w2 ((w2.alloc (.cells #[.bool false, .slice none 0 0, .slice none 0 0] 33))) := (Ext.refl _).alloc _
          have bz : Blk ((w2.alloc (.cells #[.bool false, .slice none 0 0, .slice none 0 0] 33))) w2.heap.size #[.bool false, .slice none 0 0, .slice none 0 0] 33 := Blk.new w2 #[.bool false, .slice none 0 0, .slice none 0 0] 33
          obtain ⟨w3, hww3⟩ : ∃ W, W = (w2.alloc (.cells #[.bool false, .slice none 0 0, .slice none 0 0] 33)) := ⟨_, rfl⟩
          rw [← hww3] at hx bz ⊢
          obtain ⟨QQn, hQQn⟩ : ∃ n, n = w2.heap.size := ⟨_, rfl⟩
          have hlw : w0.heap.size ≤ QQn := by rw [hQQn]; exact XW.out.size
          rw [← hQQn] at bz  ⊢
          have LQQ := Lib.hid hlw
          have XW := Lib.hid (XW.out.trans hx)
          have NA := Lib.hid (NA.out.ext hx); have NB := Lib.hid (NB.out.ext hx); have A0 := Lib.hid (A0.out.ext hx); have A1 := Lib.hid (A1.out.ext hx); have NX := Lib.hid (NX.out.ext hx); have NY := Lib.hid (NY.out.ext hx); have X := Lib.hid (X.out.trans hx)
          have QQ := Lib.hid bz
          clear hx bz hlw hww3 hQQn
          first | refine hK.out _ _ ?_ (fun hHeld => ?_) | (go_wp2_with fail; refine hK.out _ _ ?_ (fun hHeld => ?_))
          · exact ⟨⟨A0.out.cell 0, A0.out.cell 1, A0.out.cell 2⟩, ⟨A1.out.cell 0, A1.out.cell 1, A1.out.cell 2⟩⟩
          clear hK K
          (try simp only [Act.put, List.getElem_toArray, List.getElem_cons_zero, List.getElem_cons_succ, List.setIfInBounds_toArray, List.set_cons_zero, List.set_cons_succ])
          refine wpAnyH_ready (rs := [4]) (by kernel_rfl) (by simp) ?_
          refine AllReadyH.cons rfl (fun K hK => ?_) ?_
          rotate_left
          · exact AllReadyH.nil
          go_simp
          have hlo : QQn < w3.heap.size := QQ.out.lt
          have hx : Ext w3 ((w3.alloc (.cells #[.bool false, .slice none 0 0, .slice none 0 0] 33))) := (Ext.refl _).alloc _
          have bz : Blk ((w3.alloc (.cells #[.bool false, .slice none 0 0, .slice none 0 0] 33))) w3.heap.size #[.bool false, .slice none 0 0, .slice none 0 0] 33 := Blk.new w3 #[.bool false, .slice none 0 0, .slice none 0 0] 33
          obtain ⟨w4, hww4⟩ : ∃ W, W = (w3.alloc (.cells #[.bool false, .slice none 0 0, .slice none 0 0] 33)) := ⟨_, rfl⟩
          rw [← hww4] at hx bz ⊢
          obtain ⟨PPn, hPPn⟩ : ∃ n, n = w3.heap.size := ⟨_, rfl⟩
          have hlw : w0.heap.size ≤ PPn := by rw [hPPn]; exact XW.out.size
          rw [← hPPn] at bz hlo ⊢
          have LPP := Lib.hid hlw; have LO := Lib.hid hlo
          have XW := Lib.hid (XW.out.trans hx)
          have NA := Lib.hid (NA.out.ext hx); have NB := Lib.hid (NB.out.ext hx); have A0 := Lib.hid (A0.out.ext hx); have A1 := Lib.hid (A1.out.ext hx); have NX := Lib.hid (NX.out.ext hx); have NY := Lib.hid (NY.out.ext hx); have QQ := Lib.hid (QQ.out.ext hx); have X := Lib.hid (X.out.trans hx)
          have PP := Lib.hid bz
          clear hx bz hlw hww4 hPPn hlo
          first | refine hK.out _ _ ?_ (fun hHeld => ?_) | (go_wp2_with fail; refine hK.out _ _ ?_ (fun hHeld => ?_))
          · exact ⟨⟨A0.out.cell 0, A0.out.cell 1, A0.out.cell 2⟩, ⟨A1.out.cell 0, A1.out.cell 1, A1.out.cell 2⟩⟩
          clear hK K
          (try simp only [Act.put, List.getElem_toArray, List.getElem_cons_zero, List.getElem_cons_succ, List.setIfInBounds_toArray, List.set_cons_zero, List.set_cons_succ])
          exact HV w4 PPn QQn xv yv ⟨XW.out, PP.out, QQ.out, Nat.ne_of_gt LO.out, LPP.out, LQQ.out, NX.out, NY.out⟩
      · go_simp
        have hx : Ext w1 ((w1.alloc (.cells #[.bool false, .slice none 0 0, .slice none 0 0] 33))) := (Ext.refl _).alloc _
        have bz : Blk ((w1.alloc (.cells #[.bool false, .slice none 0 0, .slice none 0 0] 33))) w1.heap.size #[.bool false, .slice none 0 0, .slice none 0 0] 33 := Blk.new w1 #[.bool false, .slice none 0 0, .slice none 0 0] 33
        obtain ⟨w2, hww2⟩ : ∃ W, W = (w1.alloc (.cells #[.bool false, .slice none 0 0, .slice none 0 0] 33)) := ⟨_, rfl⟩
        rw [← hww2] at hx bz ⊢
        obtain ⟨PPn, hPPn⟩ : ∃ n, n = w1.heap.size := ⟨_, rfl⟩
        have hlw : w0.heap.size ≤ PPn := by rw [hPPn]; exact XW.out.size
        rw [← hPPn] at bz  ⊢
        have LPP := Lib.hid hlw
        have XW := Lib.hid (XW.out.trans hx)
        have NA := Lib.hid (NA.out.ext hx); have NB := Lib.hid (NB.out.ext hx); have A0 := Lib.hid (A0.out.ext hx); have A1 := Lib.hid (A1.out.ext hx); have NX := Lib.hid (NX.out.ext hx); have X := Lib.hid (X.out.trans hx)
        have PP := Lib.hid bz
        clear hx bz hlw hww2 hPPn
        first | refine hK.out _ _ ?_ (fun hHeld => ?_) | (go_wp2_with fail; refine hK.out _ _ ?_ (fun hHeld => ?_))
        · exact ⟨⟨A0.out.cell 0, A0.out.cell 1, A0.out.cell 2⟩, ⟨A1.out.cell 0, A1.out.cell 1, A1.out.cell 2⟩⟩
        clear hK K
        (try simp only [Act.put, List.getElem_toArray, List.getElem_cons_zero, List.getElem_cons_succ, List.setIfInBounds_toArray, List.set_cons_zero, List.set_cons_succ])
        refine wpAnyH_ready (rs := [3, 5]) (by kernel_rfl) (by simp) ?_
        refine AllReadyH.cons rfl (fun K hK => ?_) (AllReadyH.cons rfl (fun K hK => ?_) AllReadyH.nil)
        · go_simp
          refine (CQ.out _ (show Ext w0 _ from by have x9 := XW.out; (repeat (first | (with_reducible exact Ext.refl _) | (with_reducible assumption) | (with_reducible refine Ext.alloc ?_ _) | ((with_reducible refine Ext.setp ?_ ?_); focus (dsimp only; omega)) | (with_reducible refine Ext.drew ?_) | (with_reducible refine Ext.drewN ?_ _) | (with_reducible refine Ext.trans ?_ (by assumption)))))).mono ?_
          rintro e w3 ⟨⟨yv, rfl, nn⟩, hx⟩
          have hx := Ext.trans (show Ext w2 _ from by first | exact Ext.refl _ | exact (Ext.refl _).drew) hx
          have NA := Lib.hid (NA.out.ext hx); have NB := Lib.hid (NB.out.ext hx); have A0 := Lib.hid (A0.out.ext hx); have A1 := Lib.hid (A1.out.ext hx); have NX := Lib.hid (NX.out.ext hx); have PP := Lib.hid (PP.out.ext hx); have X := Lib.hid (X.out.trans hx)
          have XW := Lib.hid (XW.out.trans hx)
          have NY := Lib.hid nn.rd
          clear nn hx
          first | refine hK.out _ _ ?_ (fun hHeld => ?_) | (go_wp2_with fail; refine hK.out _ _ ?_ (fun hHeld => ?_))
          · exact ⟨⟨A0.out.cell 0, A0.out.cell 1, A0.out.cell 2⟩, ⟨A1.out.cell 0, A1.out.cell 1, A1.out.cell 2⟩⟩
          clear hK K
          (try simp only [Act.put, List.getElem_toArray, List.getElem_cons_zero, List.getElem_cons_succ, List.setIfInBounds_toArray, List.set_cons_zero, List.set_cons_succ])
          refine wpAnyH_ready (rs := [5]) (by kernel_rfl) (by simp) ?_
          refine AllReadyH.cons rfl (fun K hK => ?_) ?_
          rotate_left
          · exact AllReadyH.nil
          go_simp
          have hlo : PPn < w3.heap.size := PP.out.lt
          have hx : Ext w3 ((w3.alloc (.cells #[.bool false, .slice none 0 0, .slice none 0 0] 33))) := (Ext.refl _).alloc _
          have bz : Blk ((w3.alloc (.cells #[.bool false, .slice none 0 0, .slice none 0 0] 33))) w3.heap.size #[.bool false, .slice none 0 0, .slice none 0 0] 33 := Blk.new w3 #[.bool false, .slice none 0 0, .slice none 0 0] 33
          obtain ⟨w4, hww4⟩ : ∃ W, W = (w3.alloc (.cells #[.bool false, .slice none 0 0, .slice none 0 0] 33)) := ⟨_, rfl⟩
          rw [← hww4] at hx bz ⊢
          obtain ⟨QQn, hQQn⟩ : ∃ n, n = w3.heap.size := ⟨_, rfl⟩
          have hlw : w0.heap.size ≤ QQn := by rw [hQQn]; exact XW.out.size
          rw [← hQQn] at bz hlo ⊢
          have LQQ := Lib.hid hlw; have LO := Lib.hid hlo
          have XW := Lib.hid (XW.out.trans hx)
          have NA := Lib.hid (NA.out.ext hx); have NB := Lib.hid (NB.out.ext hx); have A0 := Lib.hid (A0.out.ext hx); have A1 := Lib.hid (A1.out.ext hx); have NX := Lib.hid (NX.out.ext hx); have PP := Lib.hid (PP.out.ext hx); have NY := Lib.hid (NY.out.ext hx); have X := Lib.hid (X.out.trans hx)
          have QQ := Lib.hid bz
          clear hx bz hlw hww4 hQQn hlo
          first | refine hK.out _ _ ?_ (fun hHeld => ?_) | (go_wp2_with fail; refine hK.out _ _ ?_ (fun hHeld => ?_))
          · exact ⟨⟨A0.out.cell 0, A0.out.cell 1, A0.out.cell 2⟩, ⟨A1.out.cell 0, A1.out.cell 1, A1.out.cell 2⟩⟩
          clear hK K
          (try simp only [Act.put, List.getElem_toArray, List.getElem_cons_zero, List.getElem_cons_succ, List.setIfInBounds_toArray, List.set_cons_zero, List.set_cons_succ])
          exact HV w4 PPn QQn xv yv ⟨XW.out, PP.out, QQ.out, Nat.ne_of_lt LO.out, LPP.out, LQQ.out, NX.out, NY.out⟩
        · go_simp
          have hlo : PPn < w2.heap.size := PP.out.lt
          have hx : Ext w2 ((w2.alloc (.cells #[.bool false, .slice none 0 0, .slice none 0 0] 33))) := (Ext.refl _).alloc _
          have bz : Blk ((w2.alloc (.cells #[.bool false, .slice none 0 0, .slice none 0 0] 33))) w2.heap.size #[.bool false, .slice none 0 0, .slice none 0 0] 33 := Blk.new w2 #[.bool false, .slice none 0 0, .slice none 0 0] 33
          obtain ⟨w3, hww3⟩ : ∃ W, W = (w2.alloc (.cells #[.bool false, .slice none 0 0, .slice none 0 0] 33)) := ⟨_, rfl⟩
          rw [← hww3] at hx bz ⊢
          obtain ⟨QQn, hQQn⟩ : ∃ n, n = w2.heap.size := ⟨_, rfl⟩
          have hlw : w0.heap.size ≤ QQn := by rw [hQQn]; exact XW.out.size
          rw [← hQQn] at bz hlo ⊢
          have LQQ := Lib.hid hlw; have LO := Lib.hid hlo
          have XW := Lib.hid (XW.out.trans hx)
          have NA := Lib.hid (NA.out.ext hx); have NB := Lib.hid (NB.out.ext hx); have A0 := Lib.hid (A0.out.ext hx); have A1 := Lib.hid (A1.out.ext hx); have NX := Lib.hid (NX.out.ext hx); have PP := Lib.hid (PP.out.ext hx); have X := Lib.hid (X.out.trans hx)
          have QQ := Lib.hid bz
          clear hx bz hlw hww3 hQQn hlo
          first | refine hK.out _ _ ?_ (fun hHeld => ?_) | (go_wp2_with fail; refine hK.out _ _ ?_ (fun hHeld => ?_))
          · exact ⟨⟨A0.out.cell 0, A0.out.cell 1, A0.out.cell 2⟩, ⟨A1.out.cell 0, A1.out.cell 1, A1.out.cell 2⟩⟩
          clear hK K
          (try simp only [Act.put, List.getElem_toArray, List.getElem_cons_zero, List.getElem_cons_succ, List.setIfInBounds_toArray, List.set_cons_zero, List.set_cons_succ])
          refine wpAnyH_ready (rs := [3]) (by kernel_rfl) (by simp) ?_
          refine AllReadyH.cons rfl (fun K hK => ?_) ?_
          rotate_left
          · exact AllReadyH.nil
          go_simp
          refine (CQ.out _ (show Ext w0 _ from by have x9 := XW.out; (repeat (first | (with_reducible exact Ext.refl _) | (with_reducible assumption) | (with_reducible refine Ext.alloc ?_ _) | ((with_reducible refine Ext.setp ?_ ?_); focus (dsimp only; omega)) | (with_reducible refine Ext.drew ?_) | (with_reducible refine Ext.drewN ?_ _) | (with_reducible refine Ext.trans ?_ (by assumption)))))).mono ?_
          rintro e w4 ⟨⟨yv, rfl, nn⟩, hx⟩
          have hx := Ext.trans (show Ext w3 _ from by first | exact Ext.refl _ | exact (Ext.refl _).drew) hx
          have NA := Lib.hid (NA.out.ext hx); have NB := Lib.hid (NB.out.ext hx); have A0 := Lib.hid (A0.out.ext hx); have A1 := Lib.hid (A1.out.ext hx); have NX := Lib.hid (NX.out.ext hx); have PP := Lib.hid (PP.out.ext hx); have QQ := Lib.hid (QQ.out.ext hx); have X := Lib.hid (X.out.trans hx)
          have XW := Lib.hid (XW.out.trans hx)
          have NY := Lib.hid nn.rd
          clear nn hx
          first | refine hK.out _ _ ?_ (fun hHeld => ?_) | (go_wp2_with fail; refine hK.out _ _ ?_ (fun hHeld => ?_))
          · exact ⟨⟨A0.out.cell 0, A0.out.cell 1, A0.out.cell 2⟩, ⟨A1.out.cell 0, A1.out.cell 1, A1.out.cell 2⟩⟩
          clear hK K
          (try simp only [Act.put, List.getElem_toArray, List.getElem_cons_zero, List.getElem_cons_succ, List.setIfInBounds_toArray, List.set_cons_zero, List.set_cons_succ])
          exact HV w4 PPn QQn xv yv ⟨XW.out, PP.out, QQ.out, Nat.ne_of_lt LO.out, LPP.out, LQQ.out, NX.out, NY.out⟩
      · go_simp
        have hx : Ext w1 ((w1.alloc (.cells #[.bool false, .slice none 0 0, .slice none 0 0] 33))) := (Ext.refl _).alloc _
        have bz : Blk ((w1.alloc (.cells #[.bool false, .slice none 0 0, .slice none 0 0] 33))) w1.heap.size #[.bool false, .slice none 0 0, .slice none 0 0] 33 := Blk.new w1 #[.bool false, .slice none 0 0, .slice none 0 0] 33
        obtain ⟨w2, hww2⟩ : ∃ W, W = (w1.alloc (.cells #[.bool false, .slice none 0 0, .slice none 0 0] 33)) := ⟨_, rfl⟩
        rw [← hww2] at hx bz ⊢
        obtain ⟨QQn, hQQn⟩ : ∃ n, n = w1.heap.size := ⟨_, rfl⟩
        have hlw : w0.heap.size ≤ QQn := by rw [hQQn]; exact XW.out.size
        rw [← hQQn] at bz  ⊢
        have LQQ := Lib.hid hlw
        have XW := Lib.hid (XW.out.trans hx)
        have NA := Lib.hid (NA.out.ext hx); have NB := Lib.hid (NB.out.ext hx); have A0 := Lib.hid (A0.out.ext hx); have A1 := Lib.hid (A1.out.ext hx); have NX := Lib.hid (NX.out.ext hx); have X := Lib.hid (X.out.trans hx)
        have QQ := Lib.hid bz
        clear hx bz hlw hww2 hQQn
        first | refine hK.out _ _ ?_ (fun hHeld => ?_) | (go_wp2_with fail; refine hK.out _ _ ?_ (fun hHeld => ?_))
        · exact ⟨⟨A0.out.cell 0, A0.out.cell 1, A0.out.cell 2⟩, ⟨A1.out.cell 0, A1.out.cell 1, A1.out.cell 2⟩⟩
        clear hK K
        (try simp only [Act.put, List.getElem_toArray, List.getElem_cons_zero, List.getElem_cons_succ, List.setIfInBounds_toArray, List.set_cons_zero, List.set_cons_succ])
        refine wpAnyH_ready (rs := [3, 4]) (by kernel_rfl) (by simp) ?_
        refine AllReadyH.cons rfl (fun K hK => ?_) (AllReadyH.cons rfl (fun K hK => ?_) AllReadyH.nil)
        · go_simp
          refine (CQ.out _ (show Ext w0 _ from by have x9 := XW.out; (repeat (first | (with_reducible exact Ext.refl _) | (with_reducible assumption) | (with_reducible refine Ext.alloc ?_ _) | ((with_reducible refine Ext.setp ?_ ?_); focus (dsimp only; omega)) | (with_reducible refine Ext.drew ?_) | (with_reducible refine Ext.drewN ?_ _) | (with_reducible refine Ext.trans ?_ (by assumption)))))).mono ?_
          rintro e w3 ⟨⟨yv, rfl, nn⟩, hx⟩
          have hx := Ext.trans (show Ext w2 _ from by first | exact Ext.refl _ | exact (Ext.refl _).drew) hx
          have NA := Lib.hid (NA.out.ext hx); have NB := Lib.hid (NB.out.ext hx); have A0 := Lib.hid (A0.out.ext hx); have A1 := Lib.hid (A1.out.ext hx); have NX := Lib.hid (NX.out.ext hx); have QQ := Lib.hid (QQ.out.ext hx); have X := Lib.hid (X.out.trans hx)
          have XW := Lib.hid (XW.out.trans hx)
          have NY := Lib.hid nn.rd
          clear nn hx
          first | refine hK.out _ _ ?_ (fun hHeld => ?_) | (go_wp2_with fail; refine hK.out _ _ ?_ (fun hHeld => ?_))
          · exact ⟨⟨A0.out.cell 0, A0.out.cell 1, A0.out.cell 2⟩, ⟨A1.out.cell 0, A1.out.cell 1, A1.out.cell 2⟩⟩
          clear hK K
          (try simp only [Act.put, List.getElem_toArray, List.getElem_cons_zero, List.getElem_cons_succ, List.setIfInBounds_toArray, List.set_cons_zero, List.set_cons_succ])
          refine wpAnyH_ready (rs := [4]) (by kernel_rfl) (by simp) ?_
          refine AllReadyH.cons rfl (fun K hK => ?_) ?_
          rotate_left
          · exact AllReadyH.nil
          go_simp
          have hlo : QQn < w3.heap.size := QQ.out.lt
          have hx : Ext w3 ((w3.alloc (.cells #[.bool false, .slice none 0 0, .slice none 0 0] 33))) := (Ext.refl _).alloc _
          have bz : Blk ((w3.alloc (.cells #[.bool false, .slice none 0 0, .slice none 0 0] 33))) w3.heap.size #[.bool false, .slice none 0 0, .slice none 0 0] 33 := Blk.new w3 #[.bool false, .slice none 0 0, .slice none 0 0] 33
          obtain ⟨w4, hww4⟩ : ∃ W, W = (w3.alloc (.cells #[.bool false, .slice none 0 0, .slice none 0 0] 33)) := ⟨_, rfl⟩
          rw [← hww4] at hx bz ⊢
          obtain ⟨PPn, hPPn⟩ : ∃ n, n = w3.heap.size := ⟨_, rfl⟩
          have hlw : w0.heap.size ≤ PPn := by rw [hPPn]; exact XW.out.size
          rw [← hPPn] at bz hlo ⊢
          have LPP := Lib.hid hlw; have LO := Lib.hid hlo
          have XW := Lib.hid (XW.out.trans hx)
          have NA := Lib.hid (NA.out.ext hx); have NB := Lib.hid (NB.out.ext hx); have A0 := Lib.hid (A0.out.ext hx); have A1 := Lib.hid (A1.out.ext hx); have NX := Lib.hid (NX.out.ext hx); have QQ := Lib.hid (QQ.out.ext hx); have NY := Lib.hid (NY.out.ext hx); have X := Lib.hid (X.out.trans hx)
          have PP := Lib.hid bz
          clear hx bz hlw hww4 hPPn hlo
          first | refine hK.out _ _ ?_ (fun hHeld => ?_) | (go_wp2_with fail; refine hK.out _ _ ?_ (fun hHeld => ?_))
          · exact ⟨⟨A0.out.cell 0, A0.out.cell 1, A0.out.cell 2⟩, ⟨A1.out.cell 0, A1.out.cell 1, A1.out.cell 2⟩⟩
          clear hK K
          (try simp only [Act.put, List.getElem_toArray, List.getElem_cons_zero, List.getElem_cons_succ, List.setIfInBounds_toArray, List.set_cons_zero, List.set_cons_succ])
          exact HV w4 PPn QQn xv yv ⟨XW.out, PP.out, QQ.out, Nat.ne_of_gt LO.out, LPP.out, LQQ.out, NX.out, NY.out⟩
        · go_simp
          have hlo : QQn < w2.heap.size := QQ.out.lt
          have hx : Ext w2 ((w2.alloc (.cells #[.bool false, .slice none 0 0, .slice none 0 0] 33))) := (Ext.refl _).alloc _
          have bz : Blk ((w2.alloc (.cells #[.bool false, .slice none 0 0, .slice none 0 0] 33))) w2.heap.size #[.bool false, .slice none 0 0, .slice none 0 0] 33 := Blk.new w2 #[.bool false, .slice none 0 0, .slice none 0 0] 33
          obtain ⟨w3, hww3⟩ : ∃ W, W = (w2.alloc (.cells #[.bool false, .slice none 0 0, .slice none 0 0] 33)) := ⟨_, rfl⟩
          rw [← hww3] at hx bz ⊢
          obtain ⟨PPn, hPPn⟩ : ∃ n, n = w2.heap.size := ⟨_, rfl⟩
          have hlw : w0.heap.size ≤ PPn := by rw [hPPn]; exact XW.out.size
          rw [← hPPn] at bz hlo ⊢
          have LPP := Lib.hid hlw; have LO := Lib.hid hlo
          have XW := Lib.hid (XW.out.trans hx)
          have NA := Lib.hid (NA.out.ext hx); have NB := Lib.hid (NB.out.ext hx); have A0 := Lib.hid (A0.out.ext hx); have A1 := Lib.hid (A1.out.ext hx); have NX := Lib.hid (NX.out.ext hx); have QQ := Lib.hid (QQ.out.ext hx); have X := Lib.hid (X.out.trans hx)
          have PP := Lib.hid bz
          clear hx bz hlw hww3 hPPn hlo
          first | refine hK.out _ _ ?_ (fun hHeld => ?_) | (go_wp2_with fail; refine hK.out _ _ ?_ (fun hHeld => ?_))
          · exact ⟨⟨A0.out.cell 0, A0.out.cell 1, A0.out.cell 2⟩, ⟨A1.out.cell 0, A1.out.cell 1, A1.out.cell 2⟩⟩
          clear hK K
          (try simp only [Act.put, List.getElem_toArray, List.getElem_cons_zero, List.getElem_cons_succ, List.setIfInBounds_toArray, List.set_cons_zero, List.set_cons_succ])
          refine wpAnyH_ready (rs := [3]) (by kernel_rfl) (by simp) ?_
          refine AllReadyH.cons rfl (fun K hK => ?_) ?_
          rotate_left
          · exact AllReadyH.nil
          go_simp
          refine (CQ.out _ (show Ext w0 _ from by have x9 := XW.out; (repeat (first | (with_reducible exact Ext.refl _) | (with_reducible assumption) | (with_reducible refine Ext.alloc ?_ _) | ((with_reducible refine Ext.setp ?_ ?_); focus (dsimp only; omega)) | (with_reducible refine Ext.drew ?_) | (with_reducible refine Ext.drewN ?_ _) | (with_reducible refine Ext.trans ?_ (by assumption)))))).mono ?_
          rintro e w4 ⟨⟨yv, rfl, nn⟩, hx⟩
          have hx := Ext.trans (show Ext w3 _ from by first | exact Ext.refl _ | exact (Ext.refl _).drew) hx
          have NA := Lib.hid (NA.out.ext hx); have NB := Lib.hid (NB.out.ext hx); have A0 := Lib.hid (A0.out.ext hx); have A1 := Lib.hid (A1.out.ext hx); have NX := Lib.hid (NX.out.ext hx); have QQ := Lib.hid (QQ.out.ext hx); have PP := Lib.hid (PP.out.ext hx); have X := Lib.hid (X.out.trans hx)
          have XW := Lib.hid (XW.out.trans hx)
          have NY := Lib.hid nn.rd
          clear nn hx
          first | refine hK.out _ _ ?_ (fun hHeld => ?_) | (go_wp2_with fail; refine hK.out _ _ ?_ (fun hHeld => ?_))
          · exact ⟨⟨A0.out.cell 0, A0.out.cell 1, A0.out.cell 2⟩, ⟨A1.out.cell 0, A1.out.cell 1, A1.out.cell 2⟩⟩
          clear hK K
          (try simp only [Act.put, List.getElem_toArray, List.getElem_cons_zero, List.getElem_cons_succ, List.setIfInBounds_toArray, List.set_cons_zero, List.set_cons_succ])
          exact HV w4 PPn QQn xv yv ⟨XW.out, PP.out, QQ.out, Nat.ne_of_gt LO.out, LPP.out, LQQ.out, NX.out, NY.out⟩
    · go_simp
      have hx : Ext w0 ((w0.alloc (.cells #[.bool false, .slice none 0 0, .slice none 0 0] 33)).drew) := ((Ext.refl _).alloc _).drew
      have bz : Blk ((w0.alloc (.cells #[.bool false, .slice none 0 0, .slice none 0 0] 33)).drew) w0.heap.size #[.bool false, .slice none 0 0, .slice none 0 0] 33 := (Blk.new w0 #[.bool false, .slice none 0 0, .slice none 0 0] 33).drew
      obtain ⟨w1, hww1⟩ : ∃ W, W = (w0.alloc (.cells #[.bool false, .slice none 0 0, .slice none 0 0] 33)).drew := ⟨_, rfl⟩
      rw [← hww1] at hx bz ⊢
      obtain ⟨PPn, hPPn⟩ : ∃ n, n = w0.heap.size := ⟨_, rfl⟩
      have hlw : w0.heap.size ≤ PPn := by rw [hPPn]; exact XW.out.size
      rw [← hPPn] at bz  ⊢
      have LPP := Lib.hid hlw
      have XW := Lib.hid (XW.out.trans hx)
      have NA := Lib.hid (NA.out.ext hx); have NB := Lib.hid (NB.out.ext hx); have A0 := Lib.hid (A0.out.ext hx); have A1 := Lib.hid (A1.out.ext hx); have X := Lib.hid (X.out.trans hx)
      have PP := Lib.hid bz
      clear hx bz hlw hww1 hPPn
      first | refine hK.out _ _ ?_ (fun hHeld => ?_) | (go_wp2_with fail; refine hK.out _ _ ?_ (fun hHeld => ?_))
      · exact ⟨⟨A0.out.cell 0, A0.out.cell 1, A0.out.cell 2⟩, ⟨A1.out.cell 0, A1.out.cell 1, A1.out.cell 2⟩⟩
      clear hK K
      (try simp only [Act.put, List.getElem_toArray, List.getElem_cons_zero, List.getElem_cons_succ, List.setIfInBounds_toArray, List.set_cons_zero, List.set_cons_succ])
      refine wpAnyH_ready (rs := [1, 5]) (by kernel_rfl) (by simp) ?_
      refine AllReadyH.cons rfl (fun K hK => ?_) (AllReadyH.cons rfl (fun K hK => ?_) AllReadyH.nil)
      · go_simp
        refine (CP.out _ (show Ext w0 _ from by have x9 := XW.out; (repeat (first | (with_reducible exact Ext.refl _) | (with_reducible assumption) | (with_reducible refine Ext.alloc ?_ _) | ((with_reducible refine Ext.setp ?_ ?_); focus (dsimp only; omega)) | (with_reducible refine Ext.drew ?_) | (with_reducible refine Ext.drewN ?_ _) | (with_reducible refine Ext.trans ?_ (by assumption)))))).mono ?_
        rintro e w2 ⟨⟨xv, rfl, nn⟩, hx⟩
        have hx := Ext.trans (show Ext w1 _ from by first | exact Ext.refl _ | exact (Ext.refl _).drew) hx
        have NA := Lib.hid (NA.out.ext hx); have NB := Lib.hid (NB.out.ext hx); have A0 := Lib.hid (A0.out.ext hx); have A1 := Lib.hid (A1.out.ext hx); have PP := Lib.hid (PP.out.ext hx); have X := Lib.hid (X.out.trans hx)
        have XW := Lib.hid (XW.out.trans hx)
        have NX := Lib.hid nn.rd
        clear nn hx
        first | refine hK.out _ _ ?_ (fun hHeld => ?_) | (go_wp2_with fail; refine hK.out _ _ ?_ (fun hHeld => ?_))
        · exact ⟨⟨A0.out.cell 0, A0.out.cell 1, A0.out.cell 2⟩, ⟨A1.out.cell 0, A1.out.cell 1, A1.out.cell 2⟩⟩
        clear hK K
        (try simp only [Act.put, List.getElem_toArray, List.getElem_cons_zero, List.getElem_cons_succ, List.setIfInBounds_toArray, List.set_cons_zero, List.set_cons_succ])
        refine wpAnyH_ready (rs := [3, 5]) (by kernel_rfl) (by simp) ?_
        refine AllReadyH.cons rfl (fun K hK => ?_) (AllReadyH.cons rfl (fun K hK => ?_) AllReadyH.nil)
        · go_simp
          refine (CQ.out _ (show Ext w0 _ from by have x9 := XW.out; (repeat (first | (with_reducible exact Ext.refl _) | (with_reducible assumption) | (with_reducible refine Ext.alloc ?_ _) | ((with_reducible refine Ext.setp ?_ ?_); focus (dsimp only; omega)) | (with_reducible refine Ext.drew ?_) | (with_reducible refine Ext.drewN ?_ _) | (with_reducible refine Ext.trans ?_ (by assumption)))))).mono ?_
          rintro e w3 ⟨⟨yv, rfl, nn⟩, hx⟩
          have hx := Ext.trans (show Ext w2 _ from by first | exact Ext.refl _ | exact (Ext.refl _).drew) hx
          have NA := Lib.hid (NA.out.ext hx); have NB := Lib.hid (NB.out.ext hx); have A0 := Lib.hid (A0.out.ext hx); have A1 := Lib.hid (A1.out.ext hx); have PP := Lib.hid (PP.out.ext hx); have NX := Lib.hid (NX.out.ext hx); have X := Lib.hid (X.out.trans hx)
          have XW := Lib.hid (XW.out.trans hx)
          have NY := Lib.hid nn.rd
          clear nn hx
          first | refine hK.out _ _ ?_ (fun hHeld => ?_) | (go_wp2_with fail; refine hK.out _ _ ?_ (fun hHeld => ?_))
          · exact ⟨⟨A0.out.cell 0, A0.out.cell 1, A0.out.cell 2⟩, ⟨A1.out.cell 0, A1.out.cell 1, A1.out.cell 2⟩⟩
          clear hK K
          (try simp only [Act.put, List.getElem_toArray, List.getElem_cons_zero, List.getElem_cons_succ, List.setIfInBounds_toArray, List.set_cons_zero, List.set_cons_succ])
          refine wpAnyH_ready (rs := [5]) (by kernel_rfl) (by simp) ?_
          refine AllReadyH.cons rfl (fun K hK => ?_) ?_
          rotate_left
          · exact AllReadyH.nil
          go_simp
          have hlo : PPn < w3.heap.size := PP.out.lt
          have hx : Ext w3 ((w3.alloc (.cells #[.bool false, .slice none 0 0, .slice none 0 0] 33))) := (Ext.refl _).alloc _
          have bz : Blk ((w3.alloc (.cells #[.bool false, .slice none 0 0, .slice none 0 0] 33))) w3.heap.size #[.bool false, .slice none 0 0, .slice none 0 0] 33 := Blk.new w3 #[.bool false, .slice none 0 0, .slice none 0 0] 33
          obtain ⟨w4, hww4⟩ : ∃ W, W = (w3.alloc (.cells #[.bool false, .slice none 0 0, .slice none 0 0] 33)) := ⟨_, rfl⟩
          rw [← hww4] at hx bz ⊢
          obtain ⟨QQn, hQQn⟩ : ∃ n, n = w3.heap.size := ⟨_, rfl⟩
          have hlw : w0.heap.size ≤ QQn := by rw [hQQn]; exact XW.out.size
          rw [← hQQn] at bz hlo ⊢
          have LQQ := Lib.hid hlw; have LO := Lib.hid hlo
          have XW := Lib.hid (XW.out.trans hx)
          have NA := Lib.hid (NA.out.ext hx); have NB := Lib.hid (NB.out.ext hx); have A0 := Lib.hid (A0.out.ext hx); have A1 := Lib.hid (A1.out.ext hx); have PP := Lib.hid (PP.out.ext hx); have NX := Lib.hid (NX.out.ext hx); have NY := Lib.hid (NY.out.ext hx); have X := Lib.hid (X.out.trans hx)
          have QQ := Lib.hid bz
          clear hx bz hlw hww4 hQQn hlo
          first | refine hK.out _ _ ?_ (fun hHeld => ?_) | (go_wp2_with fail; refine hK.out _ _ ?_ (fun hHeld => ?_))
          · exact ⟨⟨A0.out.cell 0, A0.out.cell 1, A0.out.cell 2⟩, ⟨A1.out.cell 0, A1.out.cell 1, A1.out.cell 2⟩⟩
          clear hK K
          (try simp only [Act.put, List.getElem_toArray, List.getElem_cons_zero, List.getElem_cons_succ, List.setIfInBounds_toArray, List.set_cons_zero, List.set_cons_succ])
          exact HV w4 PPn QQn xv yv ⟨XW.out, PP.out, QQ.out, Nat.ne_of_lt LO.out, LPP.out, LQQ.out, NX.out, NY.out⟩
        · go_simp
          have hlo : PPn < w2.heap.size := PP.out.lt
          have hx : Ext w2 ((w2.alloc (.cells #[.bool false, .slice none 0 0, .slice none 0 0] 33))) := (Ext.refl _).alloc _
          have bz : Blk ((w2.alloc (.cells #[.bool false, .slice none 0 0, .slice none 0 0] 33))) w2.heap.size #[.bool false, .slice none 0 0, .slice none 0 0] 33 := Blk.new w2 #[.bool false, .slice none 0 0, .slice none 0 0] 33
          obtain ⟨w3, hww3⟩ : ∃ W, W = (w2.alloc (.cells #[.bool false, .slice none 0 0, .slice none 0 0] 33)) := ⟨_, rfl⟩
          rw [← hww3] at hx bz ⊢
          obtain ⟨QQn, hQQn⟩ : ∃ n, n = w2.heap.size := ⟨_, rfl⟩
          have hlw : w0.heap.size ≤ QQn := by rw [hQQn]; exact XW.out.size
          rw [← hQQn] at bz hlo ⊢
          have LQQ := Lib.hid hlw; have LO := Lib.hid hlo
          have XW := Lib.hid (XW.out.trans hx)
          have NA := Lib.hid (NA.out.ext hx); have NB := Lib.hid (NB.out.ext hx); have A0 := Lib.hid (A0.out.ext hx); have A1 := Lib.hid (A1.out.ext hx); have PP := Lib.hid (PP.out.ext hx); have NX := Lib.hid (NX.out.ext hx); have X := Lib.hid (X.out.trans hx)
          have QQ := Lib.hid bz
          clear hx bz hlw hww3 hQQn hlo
          first | refine hK.out _ _ ?_ (fun hHeld => ?_) | (go_wp2_with fail; refine hK.out _ _ ?_ (fun hHeld => ?_))
          · exact ⟨⟨A0.out.cell 0, A0.out.cell 1, A0.out.cell 2⟩, ⟨A1.out.cell 0, A1.out.cell 1, A1.out.cell 2⟩⟩
          clear hK K
          (try simp only [Act.put, List.getElem_toArray, List.getElem_cons_zero, List.getElem_cons_succ, List.setIfInBounds_toArray, List.set_cons_zero, List.set_cons_succ])
          refine wpAnyH_ready (rs := [3]) (by kernel_rfl) (by simp) ?_
          refine AllReadyH.cons rfl (fun K hK => ?_) ?_
          rotate_left
          · exact AllReadyH.nil
          go_simp
          refine (CQ.out _ (show Ext w0 _ from by have x9 := XW.out; (repeat (first | (with_reducible exact Ext.refl _) | (with_reducible assumption) | (with_reducible refine Ext.alloc ?_ _) | ((with_reducible refine Ext.setp ?_ ?_); focus (dsimp only; omega)) | (with_reducible refine Ext.drew ?_) | (with_reducible refine Ext.drewN ?_ _) | (with_reducible refine Ext.trans ?_ (by assumption)))))).mono ?_
          rintro e w4 ⟨⟨yv, rfl, nn⟩, hx⟩
          have hx := Ext.trans (show Ext w3 _ from by first | exact Ext.refl _ | exact (Ext.refl _).drew) hx
          have NA := Lib.hid (NA.out.ext hx); have NB := Lib.hid (NB.out.ext hx); have A0 := Lib.hid (A0.out.ext hx); have A1 := Lib.hid (A1.out.ext hx); have PP := Lib.hid (PP.out.ext hx); have NX := Lib.hid (NX.out.ext hx); have QQ := Lib.hid (QQ.out.ext hx); have X := Lib.hid (X.out.trans hx)
          have XW := Lib.hid (XW.out.trans hx)
          have NY := Lib.hid nn.rd
          clear nn hx
          first | refine hK.out _ _ ?_ (fun hHeld => ?_) | (go_wp2_with fail; refine hK.out _ _ ?_ (fun hHeld => ?_))
          · exact ⟨⟨A0.out.cell 0, A0.out.cell 1, A0.out.cell 2⟩, ⟨A1.out.cell 0, A1.out.cell 1, A1.out.cell 2⟩⟩
          clear hK K
          (try simp only [Act.put, List.getElem_toArray, List.getElem_cons_zero, List.getElem_cons_succ, List.setIfInBounds_toArray, List.set_cons_zero, List.set_cons_succ])
          exact HV w4 PPn QQn xv yv ⟨XW.out, PP.out, QQ.out, Nat.ne_of_lt LO.out, LPP.out, LQQ.out, NX.out, NY.out⟩
      · go_simp
        have hlo : PPn < w1.heap.size := PP.out.lt
        have hx : Ext w1 ((w1.alloc (.cells #[.bool false, .slice none 0 0, .slice none 0 0] 33))) := (Ext.refl _).alloc _
        have bz : Blk ((w1.alloc (.cells #[.bool false, .slice none 0 0, .slice none 0 0] 33))) w1.heap.size #[.bool false, .slice none 0 0, .slice none 0 0] 33 := Blk.new w1 #[.bool false, .slice none 0 0, .slice none 0 0] 33
        obtain ⟨w2, hww2⟩ : ∃ W, W = (w1.alloc (.cells #[.bool false, .slice none 0 0, .slice none 0 0] 33)) := ⟨_, rfl⟩
        rw [← hww2] at hx bz ⊢
        obtain ⟨QQn, hQQn⟩ : ∃ n, n = w1.heap.size := ⟨_, rfl⟩
        have hlw : w0.heap.size ≤ QQn := by rw [hQQn]; exact XW.out.size
        rw [← hQQn] at bz hlo ⊢
        have LQQ := Lib.hid hlw; have LO := Lib.hid hlo
        have XW := Lib.hid (XW.out.trans hx)
        have NA := Lib.hid (NA.out.ext hx); have NB := Lib.hid (NB.out.ext hx); have A0 := Lib.hid (A0.out.ext hx); have A1 := Lib.hid (A1.out.ext hx); have PP := Lib.hid (PP.out.ext hx); have X := Lib.hid (X.out.trans hx)
        have QQ := Lib.hid bz
        clear hx bz hlw hww2 hQQn hlo
        first | refine hK.out _ _ ?_ (fun hHeld => ?_) | (go_wp2_with fail; refine hK.out _ _ ?_ (fun hHeld => ?_))
        · exact ⟨⟨A0.out.cell 0, A0.out.cell 1, A0.out.cell 2⟩, ⟨A1.out.cell 0, A1.out.cell 1, A1.out.cell 2⟩⟩
        clear hK K
        (try simp only [Act.put, List.getElem_toArray, List.getElem_cons_zero, List.getElem_cons_succ, List.setIfInBounds_toArray, List.set_cons_zero, List.set_cons_succ])
        refine wpAnyH_ready (rs := [1]) (by kernel_rfl) (by simp) ?_
        refine AllReadyH.cons rfl (fun K hK => ?_) ?_
        rotate_left
        · exact AllReadyH.nil
        go_simp
        refine (CP.out _ (show Ext w0 _ from by have x9 := XW.out; (repeat (first | (with_reducible exact Ext.refl _) | (with_reducible assumption) | (with_reducible refine Ext.alloc ?_ _) | ((with_reducible refine Ext.setp ?_ ?_); focus (dsimp only; omega)) | (with_reducible refine Ext.drew ?_) | (with_reducible refine Ext.drewN ?_ _) | (with_reducible refine Ext.trans ?_ (by assumption)))))).mono ?_
        rintro e w3 ⟨⟨xv, rfl, nn⟩, hx⟩
        have hx := Ext.trans (show Ext w2 _ from by first | exact Ext.refl _ | exact (Ext.refl _).drew) hx
        have NA := Lib.hid (NA.out.ext hx); have NB := Lib.hid (NB.out.ext hx); have A0 := Lib.hid (A0.out.ext hx); have A1 := Lib.hid (A1.out.ext hx); have PP := Lib.hid (PP.out.ext hx); have QQ := Lib.hid (QQ.out.ext hx); have X := Lib.hid (X.out.trans hx)
        have XW := Lib.hid (XW.out.trans hx)
        have NX := Lib.hid nn.rd
        clear nn hx
        first | refine hK.out _ _ ?_ (fun hHeld => ?_) | (go_wp2_with fail; refine hK.out _ _ ?_ (fun hHeld => ?_))
        · exact ⟨⟨A0.out.cell 0, A0.out.cell 1, A0.out.cell 2⟩, ⟨A1.out.cell 0, A1.out.cell 1, A1.out.cell 2⟩⟩
        clear hK K
        (try simp only [Act.put, List.getElem_toArray, List.getElem_cons_zero, List.getElem_cons_succ, List.setIfInBounds_toArray, List.set_cons_zero, List.set_cons_succ])
        refine wpAnyH_ready (rs := [3]) (by kernel_rfl) (by simp) ?_
        refine AllReadyH.cons rfl (fun K hK => ?_) ?_
        rotate_left
        · exact AllReadyH.nil
        go_simp
        refine (CQ.out _ (show Ext w0 _ from by have x9 := XW.out; (repeat (first | (with_reducible exact Ext.refl _) | (with_reducible assumption) | (with_reducible refine Ext.alloc ?_ _) | ((with_reducible refine Ext.setp ?_ ?_); focus (dsimp only; omega)) | (with_reducible refine Ext.drew ?_) | (with_reducible refine Ext.drewN ?_ _) | (with_reducible refine Ext.trans ?_ (by assumption)))))).mono ?_
        rintro e w4 ⟨⟨yv, rfl, nn⟩, hx⟩
        have hx := Ext.trans (show Ext w3 _ from by first | exact Ext.refl _ | exact (Ext.refl _).drew) hx
        have NA := Lib.hid (NA.out.ext hx); have NB := Lib.hid (NB.out.ext hx); have A0 := Lib.hid (A0.out.ext hx); have A1 := Lib.hid (A1.out.ext hx); have PP := Lib.hid (PP.out.ext hx); have QQ := Lib.hid (QQ.out.ext hx); have NX := Lib.hid (NX.out.ext hx); have X := Lib.hid (X.out.trans hx)
        have XW := Lib.hid (XW.out.trans hx)
        have NY := Lib.hid nn.rd
        clear nn hx
        first | refine hK.out _ _ ?_ (fun hHeld => ?_) | (go_wp2_with fail; refine hK.out _ _ ?_ (fun hHeld => ?_))
        · exact ⟨⟨A0.out.cell 0, A0.out.cell 1, A0.out.cell 2⟩, ⟨A1.out.cell 0, A1.out.cell 1, A1.out.cell 2⟩⟩
        clear hK K
        (try simp only [Act.put, List.getElem_toArray, List.getElem_cons_zero, List.getElem_cons_succ, List.setIfInBounds_toArray, List.set_cons_zero, List.set_cons_succ])
        exact HV w4 PPn QQn xv yv ⟨XW.out, PP.out, QQ.out, Nat.ne_of_lt LO.out, LPP.out, LQQ.out, NX.out, NY.out⟩
    · go_simp
      have hx : Ext w0 ((w0.alloc (.cells #[.bool false, .slice none 0 0, .slice none 0 0] 33)).drew) := ((Ext.refl _).alloc _).drew
      have bz : Blk ((w0.alloc (.cells #[.bool false, .slice none 0 0, .slice none 0 0] 33)).drew) w0.heap.size #[.bool false, .slice none 0 0, .slice none 0 0] 33 := (Blk.new w0 #[.bool false, .slice none 0 0, .slice none 0 0] 33).drew
      obtain ⟨w1, hww1⟩ : ∃ W, W = (w0.alloc (.cells #[.bool false, .slice none 0 0, .slice none 0 0] 33)).drew := ⟨_, rfl⟩
      rw [← hww1] at hx bz ⊢
      obtain ⟨QQn, hQQn⟩ : ∃ n, n = w0.heap.size := ⟨_, rfl⟩
      have hlw : w0.heap.size ≤ QQn := by rw [hQQn]; exact XW.out.size
      rw [← hQQn] at bz  ⊢
      have LQQ := Lib.hid hlw
      have XW := Lib.hid (XW.out.trans hx)
      have NA := Lib.hid (NA.out.ext hx); have NB := Lib.hid (NB.out.ext hx); have A0 := Lib.hid (A0.out.ext hx); have A1 := Lib.hid (A1.out.ext hx); have X := Lib.hid (X.out.trans hx)
      have QQ := Lib.hid bz
      clear hx bz hlw hww1 hQQn
      first | refine hK.out _ _ ?_ (fun hHeld => ?_) | (go_wp2_with fail; refine hK.out _ _ ?_ (fun hHeld => ?_))
      · exact ⟨⟨A0.out.cell 0, A0.out.cell 1, A0.out.cell 2⟩, ⟨A1.out.cell 0, A1.out.cell 1, A1.out.cell 2⟩⟩
      clear hK K
      (try simp only [Act.put, List.getElem_toArray, List.getElem_cons_zero, List.getElem_cons_succ, List.setIfInBounds_toArray, List.set_cons_zero, List.set_cons_succ])
      refine wpAnyH_ready (rs := [1, 4]) (by kernel_rfl) (by simp) ?_
      refine AllReadyH.cons rfl (fun K hK => ?_) (AllReadyH.cons rfl (fun K hK => ?_) AllReadyH.nil)
      · go_simp
        refine (CP.out _ (show Ext w0 _ from by have x9 := XW.out; (repeat (first | (with_reducible exact Ext.refl _) | (with_reducible assumption) | (with_reducible refine Ext.alloc ?_ _) | ((with_reducible refine Ext.setp ?_ ?_); focus (dsimp only; omega)) | (with_reducible refine Ext.drew ?_) | (with_reducible refine Ext.drewN ?_ _) | (with_reducible refine Ext.trans ?_ (by assumption)))))).mono ?_
        rintro e w2 ⟨⟨xv, rfl, nn⟩, hx⟩
        have hx := Ext.trans (show Ext w1 _ from by first | exact Ext.refl _ | exact (Ext.refl _).drew) hx
        have NA := Lib.hid (NA.out.ext hx); have NB := Lib.hid (NB.out.ext hx); have A0 := Lib.hid (A0.out.ext hx); have A1 := Lib.hid (A1.out.ext hx); have QQ := Lib.hid (QQ.out.ext hx); have X := Lib.hid (X.out.trans hx)
        have XW := Lib.hid (XW.out.trans hx)
        have NX := Lib.hid nn.rd
        clear nn hx
        first | refine hK.out _ _ ?_ (fun hHeld => ?_) | (go_wp2_with fail; refine hK.out _ _ ?_ (fun hHeld => ?_))
        · exact ⟨⟨A0.out.cell 0, A0.out.cell 1, A0.out.cell 2⟩, ⟨A1.out.cell 0, A1.out.cell 1, A1.out.cell 2⟩⟩
        clear hK K
        (try simp only [Act.put, List.getElem_toArray, List.getElem_cons_zero, List.getElem_cons_succ, List.setIfInBounds_toArray, List.set_cons_zero, List.set_cons_succ])
        refine wpAnyH_ready (rs := [3, 4]) (by kernel_rfl) (by simp) ?_
        refine AllReadyH.cons rfl (fun K hK => ?_) (AllReadyH.cons rfl (fun K hK => ?_) AllReadyH.nil)
        · go_simp
          refine (CQ.out _ (show Ext w0 _ from by have x9 := XW.out; (repeat (first | (with_reducible exact Ext.refl _) | (with_reducible assumption) | (with_reducible refine Ext.alloc ?_ _) | ((with_reducible refine Ext.setp ?_ ?_); focus (dsimp only; omega)) | (with_reducible refine Ext.drew ?_) | (with_reducible refine Ext.drewN ?_ _) | (with_reducible refine Ext.trans ?_ (by assumption)))))).mono ?_
          rintro e w3 ⟨⟨yv, rfl, nn⟩, hx⟩
          have hx := Ext.trans (show Ext w2 _ from by first | exact Ext.refl _ | exact (Ext.refl _).drew) hx
          have NA := Lib.hid (NA.out.ext hx); have NB := Lib.hid (NB.out.ext hx); have A0 := Lib.hid (A0.out.ext hx); have A1 := Lib.hid (A1.out.ext hx); have QQ := Lib.hid (QQ.out.ext hx); have NX := Lib.hid (NX.out.ext hx); have X := Lib.hid (X.out.trans hx)
          have XW := Lib.hid (XW.out.trans hx)
          have NY := Lib.hid nn.rd
          clear nn hx
          first | refine hK.out _ _ ?_ (fun hHeld => ?_) | (go_wp2_with fail; refine hK.out _ _ ?_ (fun hHeld => ?_))
          · exact ⟨⟨A0.out.cell 0, A0.out.cell 1, A0.out.cell 2⟩, ⟨A1.out.cell 0, A1.out.cell 1, A1.out.cell 2⟩⟩
          clear hK K
          (try simp only [Act.put, List.getElem_toArray, List.getElem_cons_zero, List.getElem_cons_succ, List.setIfInBounds_toArray, List.set_cons_zero, List.set_cons_succ])
          refine wpAnyH_ready (rs := [4]) (by kernel_rfl) (by simp) ?_
          refine AllReadyH.cons rfl (fun K hK => ?_) ?_
          rotate_left
          · exact AllReadyH.nil
          go_simp
          have hlo : QQn < w3.heap.size := QQ.out.lt
          have hx : Ext w3 ((w3.alloc (.cells #[.bool false, .slice none 0 0, .slice none 0 0] 33))) := (Ext.refl _).alloc _
          have bz : Blk ((w3.alloc (.cells #[.bool false, .slice none 0 0, .slice none 0 0] 33))) w3.heap.size #[.bool false, .slice none 0 0, .slice none 0 0] 33 := Blk.new w3 #[.bool false, .slice none 0 0, .slice none 0 0] 33
          obtain ⟨w4, hww4⟩ : ∃ W, W = (w3.alloc (.cells #[.bool false, .slice none 0 0, .slice none 0 0] 33)) := ⟨_, rfl⟩
          rw [← hww4] at hx bz ⊢
          obtain ⟨PPn, hPPn⟩ : ∃ n, n = w3.heap.size := ⟨_, rfl⟩
          have hlw : w0.heap.size ≤ PPn := by rw [hPPn]; exact XW.out.size
          rw [← hPPn] at bz hlo ⊢
          have LPP := Lib.hid hlw; have LO := Lib.hid hlo
          have XW := Lib.hid (XW.out.trans hx)
          have NA := Lib.hid (NA.out.ext hx); have NB := Lib.hid (NB.out.ext hx); have A0 := Lib.hid (A0.out.ext hx); have A1 := Lib.hid (A1.out.ext hx); have QQ := Lib.hid (QQ.out.ext hx); have NX := Lib.hid (NX.out.ext hx); have NY := Lib.hid (NY.out.ext hx); have X := Lib.hid (X.out.trans hx)
          have PP := Lib.hid bz
          clear hx bz hlw hww4 hPPn hlo
          first | refine hK.out _ _ ?_ (fun hHeld => ?_) | (go_wp2_with fail; refine hK.out _ _ ?_ (fun hHeld => ?_))
          · exact ⟨⟨A0.out.cell 0, A0.out.cell 1, A0.out.cell 2⟩, ⟨A1.out.cell 0, A1.out.cell 1, A1.out.cell 2⟩⟩
          clear hK K
          (try simp only [Act.put, List.getElem_toArray, List.getElem_cons_zero, List.getElem_cons_succ, List.setIfInBounds_toArray, List.set_cons_zero, List.set_cons_succ])
          exact HV w4 PPn QQn xv yv ⟨XW.out, PP.out, QQ.out, Nat.ne_of_gt LO.out, LPP.out, LQQ.out, NX.out, NY.out⟩
        · go_simp
          have hlo : QQn < w2.heap.size := QQ.out.lt
          have hx : Ext w2 ((w2.alloc (.cells #[.bool false, .slice none 0 0, .slice none 0 0] 33))) := (Ext.refl _).alloc _
          have bz : Blk ((w2.alloc (.cells #[.bool false, .slice none 0 0, .slice none 0 0] 33))) w2.heap.size #[.bool false, .slice none 0 0, .slice none 0 0] 33 := Blk.new w2 #[.bool false, .slice none 0 0, .slice none 0 0] 33
          obtain ⟨w3, hww3⟩ : ∃ W, W = (w2.alloc (.cells #[.bool false, .slice none 0 0, .slice none 0 0] 33)) := ⟨_, rfl⟩
          rw [← hww3] at hx bz ⊢
          obtain ⟨PPn, hPPn⟩ : ∃ n, n = w2.heap.size := ⟨_, rfl⟩
          have hlw : w0.heap.size ≤ PPn := by rw [hPPn]; exact XW.out.size
          rw [← hPPn] at bz hlo ⊢
          have LPP := Lib.hid hlw; have LO := Lib.hid hlo
          have XW := Lib.hid (XW.out.trans hx)
          have NA := Lib.hid (NA.out.ext hx); have NB := Lib.hid (NB.out.ext hx); have A0 := Lib.hid (A0.out.ext hx); have A1 := Lib.hid (A1.out.ext hx); have QQ := Lib.hid (QQ.out.ext hx); have NX := Lib.hid (NX.out.ext hx); have X := Lib.hid (X.out.trans hx)
          have PP := Lib.hid bz
          clear hx bz hlw hww3 hPPn hlo
          first | refine hK.out _ _ ?_ (fun hHeld => ?_) | (go_wp2_with fail; refine hK.out _ _ ?_ (fun hHeld => ?_))
          · exact ⟨⟨A0.out.cell 0, A0.out.cell 1, A0.out.cell 2⟩, ⟨A1.out.cell 0, A1.out.cell 1, A1.out.cell 2⟩⟩
          clear hK K
          (try simp only [Act.put, List.getElem_toArray, List.getElem_cons_zero, List.getElem_cons_succ, List.setIfInBounds_toArray, List.set_cons_zero, List.set_cons_succ])
          refine wpAnyH_ready (rs := [3]) (by kernel_rfl) (by simp) ?_
          refine AllReadyH.cons rfl (fun K hK => ?_) ?_
          rotate_left
          · exact AllReadyH.nil
          go_simp
          refine (CQ.out _ (show Ext w0 _ from by have x9 := XW.out; (repeat (first | (with_reducible exact Ext.refl _) | (with_reducible assumption) | (with_reducible refine Ext.alloc ?_ _) | ((with_reducible refine Ext.setp ?_ ?_); focus (dsimp only; omega)) | (with_reducible refine Ext.drew ?_) | (with_reducible refine Ext.drewN ?_ _) | (with_reducible refine Ext.trans ?_ (by assumption)))))).mono ?_
          rintro e w4 ⟨⟨yv, rfl, nn⟩, hx⟩
          have hx := Ext.trans (show Ext w3 _ from by first | exact Ext.refl _ | exact (Ext.refl _).drew) hx
          have NA := Lib.hid (NA.out.ext hx); have NB := Lib.hid (NB.out.ext hx); have A0 := Lib.hid (A0.out.ext hx); have A1 := Lib.hid (A1.out.ext hx); have QQ := Lib.hid (QQ.out.ext hx); have NX := Lib.hid (NX.out.ext hx); have PP := Lib.hid (PP.out.ext hx); have X := Lib.hid (X.out.trans hx)
          have XW := Lib.hid (XW.out.trans hx)
          have NY := Lib.hid nn.rd
          clear nn hx
          first | refine hK.out _ _ ?_ (fun hHeld => ?_) | (go_wp2_with fail; refine hK.out _ _ ?_ (fun hHeld => ?_))
          · exact ⟨⟨A0.out.cell 0, A0.out.cell 1, A0.out.cell 2⟩, ⟨A1.out.cell 0, A1.out.cell 1, A1.out.cell 2⟩⟩
          clear hK K
          (try simp only [Act.put, List.getElem_toArray, List.getElem_cons_zero, List.getElem_cons_succ, List.setIfInBounds_toArray, List.set_cons_zero, List.set_cons_succ])
          exact HV w4 PPn QQn xv yv ⟨XW.out, PP.out, QQ.out, Nat.ne_of_gt LO.out, LPP.out, LQQ.out, NX.out, NY.out⟩
      · go_simp
        have hlo : QQn < w1.heap.size := QQ.out.lt
        have hx : Ext w1 ((w1.alloc (.cells #[.bool false, .slice none 0 0, .slice none 0 0] 33))) := (Ext.refl _).alloc _
        have bz : Blk ((w1.alloc (.cells #[.bool false, .slice none 0 0, .slice none 0 0] 33))) w1.heap.size #[.bool false, .slice none 0 0, .slice none 0 0] 33 := Blk.new w1 #[.bool false, .slice none 0 0, .slice none 0 0] 33
        obtain ⟨w2, hww2⟩ : ∃ W, W = (w1.alloc (.cells #[.bool false, .slice none 0 0, .slice none 0 0] 33)) := ⟨_, rfl⟩
        rw [← hww2] at hx bz ⊢
        obtain ⟨PPn, hPPn⟩ : ∃ n, n = w1.heap.size := ⟨_, rfl⟩
        have hlw : w0.heap.size ≤ PPn := by rw [hPPn]; exact XW.out.size
        rw [← hPPn] at bz hlo ⊢
        have LPP := Lib.hid hlw; have LO := Lib.hid hlo
        have XW := Lib.hid (XW.out.trans hx)
        have NA := Lib.hid (NA.out.ext hx); have NB := Lib.hid (NB.out.ext hx); have A0 := Lib.hid (A0.out.ext hx); have A1 := Lib.hid (A1.out.ext hx); have QQ := Lib.hid (QQ.out.ext hx); have X := Lib.hid (X.out.trans hx)
        have PP := Lib.hid bz
        clear hx bz hlw hww2 hPPn hlo
        first | refine hK.out _ _ ?_ (fun hHeld => ?_) | (go_wp2_with fail; refine hK.out _ _ ?_ (fun hHeld => ?_))
        · exact ⟨⟨A0.out.cell 0, A0.out.cell 1, A0.out.cell 2⟩, ⟨A1.out.cell 0, A1.out.cell 1, A1.out.cell 2⟩⟩
        clear hK K
        (try simp only [Act.put, List.getElem_toArray, List.getElem_cons_zero, List.getElem_cons_succ, List.setIfInBounds_toArray, List.set_cons_zero, List.set_cons_succ])
        refine wpAnyH_ready (rs := [1]) (by kernel_rfl) (by simp) ?_
        refine AllReadyH.cons rfl (fun K hK => ?_) ?_
        rotate_left
        · exact AllReadyH.nil
        go_simp
        refine (CP.out _ (show Ext w0 _ from by have x9 := XW.out; (repeat (first | (with_reducible exact Ext.refl _) | (with_reducible assumption) | (with_reducible refine Ext.alloc ?_ _) | ((with_reducible refine Ext.setp ?_ ?_); focus (dsimp only; omega)) | (with_reducible refine Ext.drew ?_) | (with_reducible refine Ext.drewN ?_ _) | (with_reducible refine Ext.trans ?_ (by assumption)))))).mono ?_
        rintro e w3 ⟨⟨xv, rfl, nn⟩, hx⟩
        have hx := Ext.trans (show Ext w2 _ from by first | exact Ext.refl _ | exact (Ext.refl _).drew) hx
        have NA := Lib.hid (NA.out.ext hx); have NB := Lib.hid (NB.out.ext hx); have A0 := Lib.hid (A0.out.ext hx); have A1 := Lib.hid (A1.out.ext hx); have QQ := Lib.hid (QQ.out.ext hx); have PP := Lib.hid (PP.out.ext hx); have X := Lib.hid (X.out.trans hx)
        have XW := Lib.hid (XW.out.trans hx)
        have NX := Lib.hid nn.rd
        clear nn hx
        first | refine hK.out _ _ ?_ (fun hHeld => ?_) | (go_wp2_with fail; refine hK.out _ _ ?_ (fun hHeld => ?_))
        · exact ⟨⟨A0.out.cell 0, A0.out.cell 1, A0.out.cell 2⟩, ⟨A1.out.cell 0, A1.out.cell 1, A1.out.cell 2⟩⟩
        clear hK K
        (try simp only [Act.put, List.getElem_toArray, List.getElem_cons_zero, List.getElem_cons_succ, List.setIfInBounds_toArray, List.set_cons_zero, List.set_cons_succ])
        refine wpAnyH_ready (rs := [3]) (by kernel_rfl) (by simp) ?_
        refine AllReadyH.cons rfl (fun K hK => ?_) ?_
        rotate_left
        · exact AllReadyH.nil
        go_simp
        refine (CQ.out _ (show Ext w0 _ from by have x9 := XW.out; (repeat (first | (with_reducible exact Ext.refl _) | (with_reducible assumption) | (with_reducible refine Ext.alloc ?_ _) | ((with_reducible refine Ext.setp ?_ ?_); focus (dsimp only; omega)) | (with_reducible refine Ext.drew ?_) | (with_reducible refine Ext.drewN ?_ _) | (with_reducible refine Ext.trans ?_ (by assumption)))))).mono ?_
        rintro e w4 ⟨⟨yv, rfl, nn⟩, hx⟩
        have hx := Ext.trans (show Ext w3 _ from by first | exact Ext.refl _ | exact (Ext.refl _).drew) hx
        have NA := Lib.hid (NA.out.ext hx); have NB := Lib.hid (NB.out.ext hx); have A0 := Lib.hid (A0.out.ext hx); have A1 := Lib.hid (A1.out.ext hx); have QQ := Lib.hid (QQ.out.ext hx); have PP := Lib.hid (PP.out.ext hx); have NX := Lib.hid (NX.out.ext hx); have X := Lib.hid (X.out.trans hx)
        have XW := Lib.hid (XW.out.trans hx)
        have NY := Lib.hid nn.rd
        clear nn hx
        first | refine hK.out _ _ ?_ (fun hHeld => ?_) | (go_wp2_with fail; refine hK.out _ _ ?_ (fun hHeld => ?_))
        · exact ⟨⟨A0.out.cell 0, A0.out.cell 1, A0.out.cell 2⟩, ⟨A1.out.cell 0, A1.out.cell 1, A1.out.cell 2⟩⟩
        clear hK K
        (try simp only [Act.put, List.getElem_toArray, List.getElem_cons_zero, List.getElem_cons_succ, List.setIfInBounds_toArray, List.set_cons_zero, List.set_cons_succ])
        exact HV w4 PPn QQn xv yv ⟨XW.out, PP.out, QQ.out, Nat.ne_of_gt LO.out, LPP.out, LQQ.out, NX.out, NY.out⟩
  · intro W p q x y hW
    obtain ⟨xW, bp, bq, hne, lp, lq, nx, ny⟩ := hW
    have NA := Lib.hid (NA.out.ext xW); have NB := Lib.hid (NB.out.ext xW); have A0 := Lib.hid (A0.out.ext xW); have A1 := Lib.hid (A1.out.ext xW); have X := Lib.hid (X.out.trans xW)
    obtain ⟨x1, x2, x3, x4, rfl⟩ := nx.shape
    obtain ⟨y1, y2, y3, y4, rfl⟩ := ny.shape
    have BX := Lib.hid bp; have BY := Lib.hid bq; have NE := Lib.hid hne; have NX := Lib.hid nx; have NY := Lib.hid ny; have LP := Lib.hid lp; have LQ := Lib.hid lq
    have XW0 := Lib.hid xW
    clear bp bq hne nx ny CP CQ XW xW lp lq
    have k1 := BX.out.cell; have k2 := BX.out.free; have k3 := BX.out.lt
    have na0 : w.heap.size ≠ p := Nat.ne_of_lt (Nat.lt_of_lt_of_le L0.out LP.out); have na1 : w.heap.size + 1 ≠ p := Nat.ne_of_lt (Nat.lt_of_lt_of_le L1.out LP.out)
    have nb0 : w.heap.size ≠ q := Nat.ne_of_lt (Nat.lt_of_lt_of_le L0.out LQ.out); have nb1 : w.heap.size + 1 ≠ q := Nat.ne_of_lt (Nat.lt_of_lt_of_le L1.out LQ.out)
    have A0p := (((A0.out.setOther (a := ⟨p, 0, none⟩) na0 (.bool ra.neg)).setOther (a := ⟨p, 1, none⟩) na0 (.slice x1 ra.num.length x2)).setOther (a := ⟨p, 2, none⟩) na0 (.slice x3 ra.den.length x4))
    have A1p := (((A1.out.setOther (a := ⟨p, 0, none⟩) na1 (.bool ra.neg)).setOther (a := ⟨p, 1, none⟩) na1 (.slice x1 ra.num.length x2)).setOther (a := ⟨p, 2, none⟩) na1 (.slice x3 ra.den.length x4))
    have BYp := (((BY.out.setOther (a := ⟨p, 0, none⟩) (Ne.symm NE.out) (.bool ra.neg)).setOther (a := ⟨p, 1, none⟩) (Ne.symm NE.out) (.slice x1 ra.num.length x2)).setOther (a := ⟨p, 2, none⟩) (Ne.symm NE.out) (.slice x3 ra.den.length x4))
    have A0q := (((A0p.setOther (a := ⟨q, 0, none⟩) nb0 (.bool rb.neg)).setOther (a := ⟨q, 1, none⟩) nb0 (.slice y1 rb.num.length y2)).setOther (a := ⟨q, 2, none⟩) nb0 (.slice y3 rb.den.length y4))
    have A1q := (((A1p.setOther (a := ⟨q, 0, none⟩) nb1 (.bool rb.neg)).setOther (a := ⟨q, 1, none⟩) nb1 (.slice y1 rb.num.length y2)).setOther (a := ⟨q, 2, none⟩) nb1 (.slice y3 rb.den.length y4))
    have BXp := BX.out.all3 (.bool ra.neg) (.slice x1 ra.num.length x2) (.slice x3 ra.den.length x4)
    have BXq := (((BXp.setOther (a := ⟨q, 0, none⟩) NE.out (.bool rb.neg)).setOther (a := ⟨q, 1, none⟩) NE.out (.slice y1 rb.num.length y2)).setOther (a := ⟨q, 2, none⟩) NE.out (.slice y3 rb.den.length y4))
    have BYq := BYp.all3 (.bool rb.neg) (.slice y1 rb.num.length y2) (.slice y3 rb.den.length y4)
    have hA0p := Lib.hid A0p; have hA1p := Lib.hid A1p; have hBYp := Lib.hid BYp; have hA0q := Lib.hid A0q; have hA1q := Lib.hid A1q; have hBXq := Lib.hid BXq; have hBYq := Lib.hid BYq
    clear A0p A1p BYp A0q A1q BXp BXq BYq
    refine wpAnyH_ready (rs := [6]) (by kernel_rfl) (by simp) ?_
    refine AllReadyH.cons rfl (fun K hK => ?_) ?_
    rotate_left
    · exact AllReadyH.nil
    go_simp
    first | refine hK.out _ _ ?_ (fun hHeld => ?_) | (go_wp2_with fail; refine hK.out _ _ ?_ (fun hHeld => ?_))
    · exact ⟨⟨hA0p.out.cell 0, hA0p.out.cell 1, hA0p.out.cell 2⟩, ⟨hA1p.out.cell 0, hA1p.out.cell 1, hA1p.out.cell 2⟩⟩
    clear hK K
    (try simp only [Act.put, List.getElem_toArray, List.getElem_cons_zero, List.getElem_cons_succ, List.setIfInBounds_toArray, List.set_cons_zero, List.set_cons_succ])
    clear k1 k2 k3
    have k1 := hBYp.out.cell; have k2 := hBYp.out.free; have k3 := hBYp.out.lt
    refine wpAnyH_ready (rs := [7]) (by kernel_rfl) (by simp) ?_
    refine AllReadyH.cons rfl (fun K hK => ?_) ?_
    rotate_left
    · exact AllReadyH.nil
    go_simp
    first | refine hK.out _ _ ?_ (fun hHeld => ?_) | (go_wp2_with fail; refine hK.out _ _ ?_ (fun hHeld => ?_))
    · exact ⟨⟨hA0q.out.cell 0, hA0q.out.cell 1, hA0q.out.cell 2⟩, ⟨hA1q.out.cell 0, hA1q.out.cell 1, hA1q.out.cell 2⟩⟩
    clear hK K
    (try simp only [Act.put, List.getElem_toArray, List.getElem_cons_zero, List.getElem_cons_succ, List.setIfInBounds_toArray, List.set_cons_zero, List.set_cons_succ])
    refine wpAnyH_done (by kernel_rfl) ?_ _
    clear k1 k2 k3
    have xz := ((((((XW0.out.set (p := ⟨p, 0, none⟩) LP.out _).set (p := ⟨p, 1, none⟩) LP.out _).set (p := ⟨p, 2, none⟩) LP.out _).set (p := ⟨q, 0, none⟩) LQ.out _).set (p := ⟨q, 1, none⟩) LQ.out _).set (p := ⟨q, 2, none⟩) LQ.out _ : Ext w0 ((((((W.setCell ⟨p, 0, none⟩ (.bool ra.neg)).setCell ⟨p, 1, none⟩ (.slice x1 ra.num.length x2)).setCell ⟨p, 2, none⟩ (.slice x3 ra.den.length x4)).setCell ⟨q, 0, none⟩ (.bool rb.neg)).setCell ⟨q, 1, none⟩ (.slice y1 rb.num.length y2)).setCell ⟨q, 2, none⟩ (.slice y3 rb.den.length y4)))
    have nx2 := (NX.out.set3r BX.out (by simp) (.bool ra.neg) (.slice x1 ra.num.length x2) (.slice x3 ra.den.length x4) (by simp) (by simp)).set3r hBYp.out (by simp) (.bool rb.neg) (.slice y1 rb.num.length y2) (.slice y3 rb.den.length y4) (by simp) (by simp)
    have ny2 := (NY.out.set3r BX.out (by simp) (.bool ra.neg) (.slice x1 ra.num.length x2) (.slice x3 ra.den.length x4) (by simp) (by simp)).set3r hBYp.out (by simp) (.bool rb.neg) (.slice y1 rb.num.length y2) (.slice y3 rb.den.length y4) (by simp) (by simp)
    have X := Lib.hid (X0.out.trans xz); have NA := Lib.hid (NA0.out.ext xz); have NB := Lib.hid (NB0.out.ext xz); have NX := Lib.hid nx2; have NY := Lib.hid ny2
    have A0 := hA0q; have A1 := hA1q; have BX := hBXq; have BY := hBYq
    obtain ⟨wz, hwz⟩ : ∃ Z, Z = ((((((W.setCell ⟨p, 0, none⟩ (.bool ra.neg)).setCell ⟨p, 1, none⟩ (.slice x1 ra.num.length x2)).setCell ⟨p, 2, none⟩ (.slice x3 ra.den.length x4)).setCell ⟨q, 0, none⟩ (.bool rb.neg)).setCell ⟨q, 1, none⟩ (.slice y1 rb.num.length y2)).setCell ⟨q, 2, none⟩ (.slice y3 rb.den.length y4)) := ⟨_, rfl⟩
    rw [← hwz] at X NA NB NX NY A0 A1 BX BY ⊢
    clear hwz xz nx2 ny2 hA0p hA1p hBYp hA0q hA1q hBXq hBYq na0 na1 nb0 nb1
    have hr0 := fun W va (h : RdR W va ra) => refNegR_any va ra W h LA.out
    have hp0 := fun W va (h : RdR W va ra) => negR_any va ra W h LA.out
    have hl0 : (negR ra).1.num.length ≤ 1000000 ∧ (negR ra).1.den.length ≤ 1000000 := negR_len LA.out SA.out
    obtain ⟨r0, e0, hR0⟩ : ∃ r e, negR ra = (r, e) := ⟨_, _, rfl⟩
    rw [hR0] at hr0 hp0 hl0
    have HR0 := Lib.hid hr0; have HP0 := Lib.hid hp0; have HL0 := Lib.hid hl0; clear hr0 hp0 hl0 hR0
    have hr1 := fun W va (h : RdR W va ra) => refAbsR_any va ra W h LA.out
    have hp1 := fun W va (h : RdR W va ra) => absR_any va ra W h LA.out
    have hl1 : (absR ra).1.num.length ≤ 1000000 ∧ (absR ra).1.den.length ≤ 1000000 := absR_len SA.out
    obtain ⟨r1, e1, hR1⟩ : ∃ r e, absR ra = (r, e) := ⟨_, _, rfl⟩
    rw [hR1] at hr1 hp1 hl1
    have HR1 := Lib.hid hr1; have HP1 := Lib.hid hp1; have HL1 := Lib.hid hl1; clear hr1 hp1 hl1 hR1
    have hr2 := fun W va vb (h : RdR W va ra) (g : RdR W vb rb) => refAddR_any va vb ra rb W h g LA.out LB.out
    have hp2 := fun W va vb (h : RdR W va ra) (g : RdR W vb rb) => addR_any va vb ra rb W h g LA.out LB.out
    have hl2 : (addR ra rb).1.num.length ≤ 1000000 ∧ (addR ra rb).1.den.length ≤ 1000000 := opR_len _ _ _ (fitR_len _)
    obtain ⟨r2, e2, hR2⟩ : ∃ r e, addR ra rb = (r, e) := ⟨_, _, rfl⟩
    rw [hR2] at hr2 hp2 hl2
    have HR2 := Lib.hid hr2; have HP2 := Lib.hid hp2; have HL2 := Lib.hid hl2; clear hr2 hp2 hl2 hR2
    have hr3 := fun W va vb (h : RdR W va ra) (g : RdR W vb rb) => refSubR_any va vb ra rb W h g LA.out LB.out
    have hp3 := fun W va vb (h : RdR W va ra) (g : RdR W vb rb) => subR_any va vb ra rb W h g LA.out LB.out
    have hl3 : (subR ra rb).1.num.length ≤ 1000000 ∧ (subR ra rb).1.den.length ≤ 1000000 := opR_len _ _ _ (fitR_len _)
    obtain ⟨r3, e3, hR3⟩ : ∃ r e, subR ra rb = (r, e) := ⟨_, _, rfl⟩
    rw [hR3] at hr3 hp3 hl3
    have HR3 := Lib.hid hr3; have HP3 := Lib.hid hp3; have HL3 := Lib.hid hl3; clear hr3 hp3 hl3 hR3
    have hr4 := fun W va vb (h : RdR W va ra) (g : RdR W vb rb) => refMulR_any va vb ra rb W h g LA.out LB.out
    have hp4 := fun W va vb (h : RdR W va ra) (g : RdR W vb rb) => mulR_any va vb ra rb W h g LA.out LB.out
    have hl4 : (mulR ra rb).1.num.length ≤ 1000000 ∧ (mulR ra rb).1.den.length ≤ 1000000 := opR_len _ _ _ (fitR_len _)
    obtain ⟨r4, e4, hR4⟩ : ∃ r e, mulR ra rb = (r, e) := ⟨_, _, rfl⟩
    rw [hR4] at hr4 hp4 hl4
    have HR4 := Lib.hid hr4; have HP4 := Lib.hid hp4; have HL4 := Lib.hid hl4; clear hr4 hp4 hl4 hR4
    have hr5 := fun W va vb (h : RdR W va ra) (g : RdR W vb rb) => refDivR_any va vb ra rb W h g LA.out LB.out
    have hp5 := fun W va vb (h : RdR W va ra) (g : RdR W vb rb) => divR_any va vb ra rb W h g LA.out LB.out
    have hl5 : (divR ra rb).1.num.length ≤ 1000000 ∧ (divR ra rb).1.den.length ≤ 1000000 := divR_len _ _
    obtain ⟨r5, e5, hR5⟩ : ∃ r e, divR ra rb = (r, e) := ⟨_, _, rfl⟩
    rw [hR5] at hr5 hp5 hl5
    have HR5 := Lib.hid hr5; have HP5 := Lib.hid hp5; have HL5 := Lib.hid hl5; clear hr5 hp5 hl5 hR5
    have hr6 := fun W va vb (h : RdR W va ra) (g : RdR W vb rb) => refCmp6_any va vb ra rb W h g LA.out LB.out; have hp6 := fun W va vb (h : RdR W va ra) (g : RdR W vb rb) => cmpR_any va vb ra rb W h g LA.out LB.out
    obtain ⟨c0, c1, hC⟩ : ∃ r e, cmpR ra rb = (r, e) := ⟨_, _, rfl⟩
    rw [hC] at hr6 hp6; have HR6 := Lib.hid hr6; have HP6 := Lib.hid hp6; clear hr6 hp6 hC
    have hr7 := fun W va (h : RdR W va ra) => refFloorR_any va ra W h LA.out; have hp7 := fun W va (h : RdR W va ra) => floorR_any va ra W h LA.out
    obtain ⟨f0, f1, hC⟩ : ∃ r e, floorR ra = (r, e) := ⟨_, _, rfl⟩
    rw [hC] at hr7 hp7; have HR7 := Lib.hid hr7; have HP7 := Lib.hid hp7; clear hr7 hp7 hC
    have hr8 := fun W va (h : RdR W va ra) => refTextR_any va ra W h LA.out; have hp8 := fun W va (h : RdR W va ra) => textR_any va ra W h LA.out
    obtain ⟨g0, g1, hC⟩ : ∃ r e, textR ra = (r, e) := ⟨_, _, rfl⟩
    rw [hC] at hr8 hp8; have HR8 := Lib.hid hr8; have HP8 := Lib.hid hp8; clear hr8 hp8 hC
    have hr9 := fun W va (h : RdR W va ra) => refCheckR_any va ra W h LA.out; have hp9 := fun W va (h : RdR W va ra) => checkR_any va ra W h LA.out
    obtain ⟨ck, hC⟩ : ∃ r, chkR ra = r := ⟨_, rfl⟩
    rw [hC] at hr9 hp9; have HR9 := Lib.hid hr9; have HP9 := Lib.hid hp9; clear hr9 hp9 hC
    have qA0 := A0.out.cell; have fA0 := A0.out.free; have lA0 := A0.out.lt; have qA1 := A1.out.cell; have fA1 := A1.out.free; have lA1 := A1.out.lt
    go_wp2_with fail
    clear qA0 fA0 lA0 qA1 fA1 lA1
    refine (HR0.out _ _ NA.out).mono ?_
    rintro e w1 ⟨⟨v, rfl, nn⟩, hx⟩
    have NA := Lib.hid (NA.out.ext hx); have NB := Lib.hid (NB.out.ext hx); have NX := Lib.hid (NX.out.ext hx); have NY := Lib.hid (NY.out.ext hx); have A0 := Lib.hid (A0.out.ext hx); have A1 := Lib.hid (A1.out.ext hx); have BX := Lib.hid (BX.out.ext hx); have BY := Lib.hid (BY.out.ext hx); have X := Lib.hid (X.out.trans hx)
    obtain ⟨d0x1, d0x2, d0x3, d0x4, rfl⟩ := nn.shape
    have N0 := Lib.hid nn.rd
    clear nn hx
    dsimp only
    have bz := Blk.new w1 #[.bool r0.neg, .slice d0x1 r0.num.length d0x2, .slice d0x3 r0.den.length d0x4] 33
    have hx : Ext w1 (w1.alloc (.cells #[.bool r0.neg, .slice d0x1 r0.num.length d0x2, .slice d0x3 r0.den.length d0x4] 33)) := (Ext.refl _).alloc _
    have NA := Lib.hid (NA.out.ext hx); have NB := Lib.hid (NB.out.ext hx); have NX := Lib.hid (NX.out.ext hx); have NY := Lib.hid (NY.out.ext hx); have A0 := Lib.hid (A0.out.ext hx); have A1 := Lib.hid (A1.out.ext hx); have BX := Lib.hid (BX.out.ext hx); have BY := Lib.hid (BY.out.ext hx); have N0 := Lib.hid (N0.out.ext hx); have X := Lib.hid (X.out.trans hx)
    have Bd0x := Lib.hid bz; clear hx bz
    have qA0 := A0.out.cell; have fA0 := A0.out.free; have lA0 := A0.out.lt; have qA1 := A1.out.cell; have fA1 := A1.out.free; have lA1 := A1.out.lt
    go_wp2_with fail
    clear qA0 fA0 lA0 qA1 fA1 lA1
    obtain ⟨z2, hz2⟩ : ∃ W, W = (w1.alloc (.cells #[.bool r0.neg, .slice d0x1 r0.num.length d0x2, .slice d0x3 r0.den.length d0x4] 33)) := ⟨_, rfl⟩
    rw [← hz2] at NA NB NX NY A0 A1 BX BY N0 Bd0x X ⊢
    clear hz2
    obtain ⟨nd0x, hnd0x⟩ : ∃ n, n = w1.heap.size := ⟨_, rfl⟩
    rw [← hnd0x] at Bd0x  ⊢
    clear hnd0x
    refine (HR1.out _ _ NA.out).mono ?_
    rintro e w3 ⟨⟨v, rfl, nn⟩, hx⟩
    have NA := Lib.hid (NA.out.ext hx); have NB := Lib.hid (NB.out.ext hx); have NX := Lib.hid (NX.out.ext hx); have NY := Lib.hid (NY.out.ext hx); have A0 := Lib.hid (A0.out.ext hx); have A1 := Lib.hid (A1.out.ext hx); have BX := Lib.hid (BX.out.ext hx); have BY := Lib.hid (BY.out.ext hx); have N0 := Lib.hid (N0.out.ext hx); have Bd0x := Lib.hid (Bd0x.out.ext hx); have X := Lib.hid (X.out.trans hx)
    obtain ⟨d1x1, d1x2, d1x3, d1x4, rfl⟩ := nn.shape
    have N1 := Lib.hid nn.rd
    clear nn hx
    dsimp only
    have bz := Blk.new w3 #[.bool r1.neg, .slice d1x1 r1.num.length d1x2, .slice d1x3 r1.den.length d1x4] 33
    have hx : Ext w3 (w3.alloc (.cells #[.bool r1.neg, .slice d1x1 r1.num.length d1x2, .slice d1x3 r1.den.length d1x4] 33)) := (Ext.refl _).alloc _
    have NA := Lib.hid (NA.out.ext hx); have NB := Lib.hid (NB.out.ext hx); have NX := Lib.hid (NX.out.ext hx); have NY := Lib.hid (NY.out.ext hx); have A0 := Lib.hid (A0.out.ext hx); have A1 := Lib.hid (A1.out.ext hx); have BX := Lib.hid (BX.out.ext hx); have BY := Lib.hid (BY.out.ext hx); have N0 := Lib.hid (N0.out.ext hx); have Bd0x := Lib.hid (Bd0x.out.ext hx); have N1 := Lib.hid (N1.out.ext hx); have X := Lib.hid (X.out.trans hx)
    have Bd1x := Lib.hid bz; clear hx bz
    have qA0 := A0.out.cell; have fA0 := A0.out.free; have lA0 := A0.out.lt; have qA1 := A1.out.cell; have fA1 := A1.out.free; have lA1 := A1.out.lt
    go_wp2_with fail
    clear qA0 fA0 lA0 qA1 fA1 lA1
    obtain ⟨z4, hz4⟩ : ∃ W, W = (w3.alloc (.cells #[.bool r1.neg, .slice d1x1 r1.num.length d1x2, .slice d1x3 r1.den.length d1x4] 33)) := ⟨_, rfl⟩
    rw [← hz4] at NA NB NX NY A0 A1 BX BY N0 Bd0x N1 Bd1x X ⊢
    clear hz4
    obtain ⟨nd1x, hnd1x⟩ : ∃ n, n = w3.heap.size := ⟨_, rfl⟩
    rw [← hnd1x] at Bd1x  ⊢
    clear hnd1x
    refine (HR2.out _ _ _ NA.out NB.out).mono ?_
    rintro e w5 ⟨⟨v, rfl, nn⟩, hx⟩
    have NA := Lib.hid (NA.out.ext hx); have NB := Lib.hid (NB.out.ext hx); have NX := Lib.hid (NX.out.ext hx); have NY := Lib.hid (NY.out.ext hx); have A0 := Lib.hid (A0.out.ext hx); have A1 := Lib.hid (A1.out.ext hx); have BX := Lib.hid (BX.out.ext hx); have BY := Lib.hid (BY.out.ext hx); have N0 := Lib.hid (N0.out.ext hx); have Bd0x := Lib.hid (Bd0x.out.ext hx); have N1 := Lib.hid (N1.out.ext hx); have Bd1x := Lib.hid (Bd1x.out.ext hx); have X := Lib.hid (X.out.trans hx)
    obtain ⟨d2x1, d2x2, d2x3, d2x4, rfl⟩ := nn.shape
    have N2 := Lib.hid nn.rd
    clear nn hx
    dsimp only
    have bz := Blk.new w5 #[.bool r2.neg, .slice d2x1 r2.num.length d2x2, .slice d2x3 r2.den.length d2x4] 33
    have hx : Ext w5 (w5.alloc (.cells #[.bool r2.neg, .slice d2x1 r2.num.length d2x2, .slice d2x3 r2.den.length d2x4] 33)) := (Ext.refl _).alloc _
    have NA := Lib.hid (NA.out.ext hx); have NB := Lib.hid (NB.out.ext hx); have NX := Lib.hid (NX.out.ext hx); have NY := Lib.hid (NY.out.ext hx); have A0 := Lib.hid (A0.out.ext hx); have A1 := Lib.hid (A1.out.ext hx); have BX := Lib.hid (BX.out.ext hx); have BY := Lib.hid (BY.out.ext hx); have N0 := Lib.hid (N0.out.ext hx); have Bd0x := Lib.hid (Bd0x.out.ext hx); have N1 := Lib.hid (N1.out.ext hx); have Bd1x := Lib.hid (Bd1x.out.ext hx); have N2 := Lib.hid (N2.out.ext hx); have X := Lib.hid (X.out.trans hx)
    have Bd2x := Lib.hid bz; clear hx bz
    have qA0 := A0.out.cell; have fA0 := A0.out.free; have lA0 := A0.out.lt; have qA1 := A1.out.cell; have fA1 := A1.out.free; have lA1 := A1.out.lt
    go_wp2_with fail
    clear qA0 fA0 lA0 qA1 fA1 lA1
    obtain ⟨z6, hz6⟩ : ∃ W, W = (w5.alloc (.cells #[.bool r2.neg, .slice d2x1 r2.num.length d2x2, .slice d2x3 r2.den.length d2x4] 33)) := ⟨_, rfl⟩
    rw [← hz6] at NA NB NX NY A0 A1 BX BY N0 Bd0x N1 Bd1x N2 Bd2x X ⊢
    clear hz6
    obtain ⟨nd2x, hnd2x⟩ : ∃ n, n = w5.heap.size := ⟨_, rfl⟩
    rw [← hnd2x] at Bd2x  ⊢
    clear hnd2x
    refine (HR3.out _ _ _ NA.out NB.out).mono ?_
    rintro e w7 ⟨⟨v, rfl, nn⟩, hx⟩
    have NA := Lib.hid (NA.out.ext hx); have NB := Lib.hid (NB.out.ext hx); have NX := Lib.hid (NX.out.ext hx); have NY := Lib.hid (NY.out.ext hx); have A0 := Lib.hid (A0.out.ext hx); have A1 := Lib.hid (A1.out.ext hx); have BX := Lib.hid (BX.out.ext hx); have BY := Lib.hid (BY.out.ext hx); have N0 := Lib.hid (N0.out.ext hx); have Bd0x := Lib.hid (Bd0x.out.ext hx); have N1 := Lib.hid (N1.out.ext hx); have Bd1x := Lib.hid (Bd1x.out.ext hx); have N2 := Lib.hid (N2.out.ext hx); have Bd2x := Lib.hid (Bd2x.out.ext hx); have X := Lib.hid (X.out.trans hx)
    obtain ⟨d3x1, d3x2, d3x3, d3x4, rfl⟩ := nn.shape
    have N3 := Lib.hid nn.rd
    clear nn hx
    dsimp only
    have bz := Blk.new w7 #[.bool r3.neg, .slice d3x1 r3.num.length d3x2, .slice d3x3 r3.den.length d3x4] 33
    have hx : Ext w7 (w7.alloc (.cells #[.bool r3.neg, .slice d3x1 r3.num.length d3x2, .slice d3x3 r3.den.length d3x4] 33)) := (Ext.refl _).alloc _
    have NA := Lib.hid (NA.out.ext hx); have NB := Lib.hid (NB.out.ext hx); have NX := Lib.hid (NX.out.ext hx); have NY := Lib.hid (NY.out.ext hx); have A0 := Lib.hid (A0.out.ext hx); have A1 := Lib.hid (A1.out.ext hx); have BX := Lib.hid (BX.out.ext hx); have BY := Lib.hid (BY.out.ext hx); have N0 := Lib.hid (N0.out.ext hx); have Bd0x := Lib.hid (Bd0x.out.ext hx); have N1 := Lib.hid (N1.out.ext hx); have Bd1x := Lib.hid (Bd1x.out.ext hx); have N2 := Lib.hid (N2.out.ext hx); have Bd2x := Lib.hid (Bd2x.out.ext hx); have N3 := Lib.hid (N3.out.ext hx); have X := Lib.hid (X.out.trans hx)
    have Bd3x := Lib.hid bz; clear hx bz
    have qA0 := A0.out.cell; have fA0 := A0.out.free; have lA0 := A0.out.lt; have qA1 := A1.out.cell; have fA1 := A1.out.free; have lA1 := A1.out.lt
    go_wp2_with fail
    clear qA0 fA0 lA0 qA1 fA1 lA1
    obtain ⟨z8, hz8⟩ : ∃ W, W = (w7.alloc (.cells #[.bool r3.neg, .slice d3x1 r3.num.length d3x2, .slice d3x3 r3.den.length d3x4] 33)) := ⟨_, rfl⟩
    rw [← hz8] at NA NB NX NY A0 A1 BX BY N0 Bd0x N1 Bd1x N2 Bd2x N3 Bd3x X ⊢
    clear hz8
    obtain ⟨nd3x, hnd3x⟩ : ∃ n, n = w7.heap.size := ⟨_, rfl⟩
    rw [← hnd3x] at Bd3x  ⊢
    clear hnd3x
    refine (HR4.out _ _ _ NA.out NB.out).mono ?_
    rintro e w9 ⟨⟨v, rfl, nn⟩, hx⟩
    have NA := Lib.hid (NA.out.ext hx); have NB := Lib.hid (NB.out.ext hx); have NX := Lib.hid (NX.out.ext hx); have NY := Lib.hid (NY.out.ext hx); have A0 := Lib.hid (A0.out.ext hx); have A1 := Lib.hid (A1.out.ext hx); have BX := Lib.hid (BX.out.ext hx); have BY := Lib.hid (BY.out.ext hx); have N0 := Lib.hid (N0.out.ext hx); have Bd0x := Lib.hid (Bd0x.out.ext hx); have N1 := Lib.hid (N1.out.ext hx); have Bd1x := Lib.hid (Bd1x.out.ext hx); have N2 := Lib.hid (N2.out.ext hx); have Bd2x := Lib.hid (Bd2x.out.ext hx); have N3 := Lib.hid (N3.out.ext hx); have Bd3x := Lib.hid (Bd3x.out.ext hx); have X := Lib.hid (X.out.trans hx)
    obtain ⟨d4x1, d4x2, d4x3, d4x4, rfl⟩ := nn.shape
    have N4 := Lib.hid nn.rd
    clear nn hx
    dsimp only
    have bz := Blk.new w9 #[.bool r4.neg, .slice d4x1 r4.num.length d4x2, .slice d4x3 r4.den.length d4x4] 33
    have hx : Ext w9 (w9.alloc (.cells #[.bool r4.neg, .slice d4x1 r4.num.length d4x2, .slice d4x3 r4.den.length d4x4] 33)) := (Ext.refl _).alloc _
    have NA := Lib.hid (NA.out.ext hx); have NB := Lib.hid (NB.out.ext hx); have NX := Lib.hid (NX.out.ext hx); have NY := Lib.hid (NY.out.ext hx); have A0 := Lib.hid (A0.out.ext hx); have A1 := Lib.hid (A1.out.ext hx); have BX := Lib.hid (BX.out.ext hx); have BY := Lib.hid (BY.out.ext hx); have N0 := Lib.hid (N0.out.ext hx); have Bd0x := Lib.hid (Bd0x.out.ext hx); have N1 := Lib.hid (N1.out.ext hx); have Bd1x := Lib.hid (Bd1x.out.ext hx); have N2 := Lib.hid (N2.out.ext hx); have Bd2x := Lib.hid (Bd2x.out.ext hx); have N3 := Lib.hid (N3.out.ext hx); have Bd3x := Lib.hid (Bd3x.out.ext hx); have N4 := Lib.hid (N4.out.ext hx); have X := Lib.hid (X.out.trans hx)
    have Bd4x := Lib.hid bz; clear hx bz
    have qA0 := A0.out.cell; have fA0 := A0.out.free; have lA0 := A0.out.lt; have qA1 := A1.out.cell; have fA1 := A1.out.free; have lA1 := A1.out.lt
    go_wp2_with fail
    clear qA0 fA0 lA0 qA1 fA1 lA1
    obtain ⟨z10, hz10⟩ : ∃ W, W = (w9.alloc (.cells #[.bool r4.neg, .slice d4x1 r4.num.length d4x2, .slice d4x3 r4.den.length d4x4] 33)) := ⟨_, rfl⟩
    rw [← hz10] at NA NB NX NY A0 A1 BX BY N0 Bd0x N1 Bd1x N2 Bd2x N3 Bd3x N4 Bd4x X ⊢
    clear hz10
    obtain ⟨nd4x, hnd4x⟩ : ∃ n, n = w9.heap.size := ⟨_, rfl⟩
    rw [← hnd4x] at Bd4x  ⊢
    clear hnd4x
    refine (HR5.out _ _ _ NA.out NB.out).mono ?_
    rintro e w11 ⟨⟨v, rfl, nn⟩, hx⟩
    have NA := Lib.hid (NA.out.ext hx); have NB := Lib.hid (NB.out.ext hx); have NX := Lib.hid (NX.out.ext hx); have NY := Lib.hid (NY.out.ext hx); have A0 := Lib.hid (A0.out.ext hx); have A1 := Lib.hid (A1.out.ext hx); have BX := Lib.hid (BX.out.ext hx); have BY := Lib.hid (BY.out.ext hx); have N0 := Lib.hid (N0.out.ext hx); have Bd0x := Lib.hid (Bd0x.out.ext hx); have N1 := Lib.hid (N1.out.ext hx); have Bd1x := Lib.hid (Bd1x.out.ext hx); have N2 := Lib.hid (N2.out.ext hx); have Bd2x := Lib.hid (Bd2x.out.ext hx); have N3 := Lib.hid (N3.out.ext hx); have Bd3x := Lib.hid (Bd3x.out.ext hx); have N4 := Lib.hid (N4.out.ext hx); have Bd4x := Lib.hid (Bd4x.out.ext hx); have X := Lib.hid (X.out.trans hx)
    obtain ⟨d5x1, d5x2, d5x3, d5x4, rfl⟩ := nn.shape
    have N5 := Lib.hid nn.rd
    clear nn hx
    dsimp only
    have bz := Blk.new w11 #[.bool r5.neg, .slice d5x1 r5.num.length d5x2, .slice d5x3 r5.den.length d5x4] 33
    have hx : Ext w11 (w11.alloc (.cells #[.bool r5.neg, .slice d5x1 r5.num.length d5x2, .slice d5x3 r5.den.length d5x4] 33)) := (Ext.refl _).alloc _
    have NA := Lib.hid (NA.out.ext hx); have NB := Lib.hid (NB.out.ext hx); have NX := Lib.hid (NX.out.ext hx); have NY := Lib.hid (NY.out.ext hx); have A0 := Lib.hid (A0.out.ext hx); have A1 := Lib.hid (A1.out.ext hx); have BX := Lib.hid (BX.out.ext hx); have BY := Lib.hid (BY.out.ext hx); have N0 := Lib.hid (N0.out.ext hx); have Bd0x := Lib.hid (Bd0x.out.ext hx); have N1 := Lib.hid (N1.out.ext hx); have Bd1x := Lib.hid (Bd1x.out.ext hx); have N2 := Lib.hid (N2.out.ext hx); have Bd2x := Lib.hid (Bd2x.out.ext hx); have N3 := Lib.hid (N3.out.ext hx); have Bd3x := Lib.hid (Bd3x.out.ext hx); have N4 := Lib.hid (N4.out.ext hx); have Bd4x := Lib.hid (Bd4x.out.ext hx); have N5 := Lib.hid (N5.out.ext hx); have X := Lib.hid (X.out.trans hx)
    have Bd5x := Lib.hid bz; clear hx bz
    have qA0 := A0.out.cell; have fA0 := A0.out.free; have lA0 := A0.out.lt; have qA1 := A1.out.cell; have fA1 := A1.out.free; have lA1 := A1.out.lt
    go_wp2_with fail
    clear qA0 fA0 lA0 qA1 fA1 lA1
    obtain ⟨z12, hz12⟩ : ∃ W, W = (w11.alloc (.cells #[.bool r5.neg, .slice d5x1 r5.num.length d5x2, .slice d5x3 r5.den.length d5x4] 33)) := ⟨_, rfl⟩
    rw [← hz12] at NA NB NX NY A0 A1 BX BY N0 Bd0x N1 Bd1x N2 Bd2x N3 Bd3x N4 Bd4x N5 Bd5x X ⊢
    clear hz12
    obtain ⟨nd5x, hnd5x⟩ : ∃ n, n = w11.heap.size := ⟨_, rfl⟩
    rw [← hnd5x] at Bd5x  ⊢
    clear hnd5x
    refine (HR6.out _ _ _ NA.out NB.out).mono ?_
    rintro e w13 ⟨rfl, hx⟩
    have NA := Lib.hid (NA.out.ext hx); have NB := Lib.hid (NB.out.ext hx); have NX := Lib.hid (NX.out.ext hx); have NY := Lib.hid (NY.out.ext hx); have A0 := Lib.hid (A0.out.ext hx); have A1 := Lib.hid (A1.out.ext hx); have BX := Lib.hid (BX.out.ext hx); have BY := Lib.hid (BY.out.ext hx); have N0 := Lib.hid (N0.out.ext hx); have Bd0x := Lib.hid (Bd0x.out.ext hx); have N1 := Lib.hid (N1.out.ext hx); have Bd1x := Lib.hid (Bd1x.out.ext hx); have N2 := Lib.hid (N2.out.ext hx); have Bd2x := Lib.hid (Bd2x.out.ext hx); have N3 := Lib.hid (N3.out.ext hx); have Bd3x := Lib.hid (Bd3x.out.ext hx); have N4 := Lib.hid (N4.out.ext hx); have Bd4x := Lib.hid (Bd4x.out.ext hx); have N5 := Lib.hid (N5.out.ext hx); have Bd5x := Lib.hid (Bd5x.out.ext hx); have X := Lib.hid (X.out.trans hx)
    clear hx
    dsimp only
    have qA0 := A0.out.cell; have fA0 := A0.out.free; have lA0 := A0.out.lt; have qA1 := A1.out.cell; have fA1 := A1.out.free; have lA1 := A1.out.lt
    go_wp2_with fail
    clear qA0 fA0 lA0 qA1 fA1 lA1
    refine (HR7.out _ _ NA.out).mono ?_
    rintro e w14 ⟨rfl, hx⟩
    have NA := Lib.hid (NA.out.ext hx); have NB := Lib.hid (NB.out.ext hx); have NX := Lib.hid (NX.out.ext hx); have NY := Lib.hid (NY.out.ext hx); have A0 := Lib.hid (A0.out.ext hx); have A1 := Lib.hid (A1.out.ext hx); have BX := Lib.hid (BX.out.ext hx); have BY := Lib.hid (BY.out.ext hx); have N0 := Lib.hid (N0.out.ext hx); have Bd0x := Lib.hid (Bd0x.out.ext hx); have N1 := Lib.hid (N1.out.ext hx); have Bd1x := Lib.hid (Bd1x.out.ext hx); have N2 := Lib.hid (N2.out.ext hx); have Bd2x := Lib.hid (Bd2x.out.ext hx); have N3 := Lib.hid (N3.out.ext hx); have Bd3x := Lib.hid (Bd3x.out.ext hx); have N4 := Lib.hid (N4.out.ext hx); have Bd4x := Lib.hid (Bd4x.out.ext hx); have N5 := Lib.hid (N5.out.ext hx); have Bd5x := Lib.hid (Bd5x.out.ext hx); have X := Lib.hid (X.out.trans hx)
    clear hx
    dsimp only
    have qA0 := A0.out.cell; have fA0 := A0.out.free; have lA0 := A0.out.lt; have qA1 := A1.out.cell; have fA1 := A1.out.free; have lA1 := A1.out.lt
    go_wp2_with fail
    clear qA0 fA0 lA0 qA1 fA1 lA1
    refine (HR8.out _ _ NA.out).mono ?_
    rintro e w15 ⟨rfl, hx⟩
    have NA := Lib.hid (NA.out.ext hx); have NB := Lib.hid (NB.out.ext hx); have NX := Lib.hid (NX.out.ext hx); have NY := Lib.hid (NY.out.ext hx); have A0 := Lib.hid (A0.out.ext hx); have A1 := Lib.hid (A1.out.ext hx); have BX := Lib.hid (BX.out.ext hx); have BY := Lib.hid (BY.out.ext hx); have N0 := Lib.hid (N0.out.ext hx); have Bd0x := Lib.hid (Bd0x.out.ext hx); have N1 := Lib.hid (N1.out.ext hx); have Bd1x := Lib.hid (Bd1x.out.ext hx); have N2 := Lib.hid (N2.out.ext hx); have Bd2x := Lib.hid (Bd2x.out.ext hx); have N3 := Lib.hid (N3.out.ext hx); have Bd3x := Lib.hid (Bd3x.out.ext hx); have N4 := Lib.hid (N4.out.ext hx); have Bd4x := Lib.hid (Bd4x.out.ext hx); have N5 := Lib.hid (N5.out.ext hx); have Bd5x := Lib.hid (Bd5x.out.ext hx); have X := Lib.hid (X.out.trans hx)
    clear hx
    dsimp only
    go_wp2_with fail
    go_loopw [25] (fun i wr => ∃ k : Nat, k ≤ 2 ∧ i = .int .i64 k ∧ Ext w15 wr) (fun i _ => 2 - (intOf i).toNat)
    case atStart => exact ⟨0, by omega, rfl, Ext.refl _⟩
    case round =>
      obtain ⟨k, hk, rfl, hxl⟩ := hrel
      have HXL := Lib.hid hxl
      have NA := Lib.hid (NA.out.ext hxl); have NB := Lib.hid (NB.out.ext hxl); have NX := Lib.hid (NX.out.ext hxl); have NY := Lib.hid (NY.out.ext hxl); have A0 := Lib.hid (A0.out.ext hxl); have A1 := Lib.hid (A1.out.ext hxl); have BX := Lib.hid (BX.out.ext hxl); have BY := Lib.hid (BY.out.ext hxl); have N0 := Lib.hid (N0.out.ext hxl); have Bd0x := Lib.hid (Bd0x.out.ext hxl); have N1 := Lib.hid (N1.out.ext hxl); have Bd1x := Lib.hid (Bd1x.out.ext hxl); have N2 := Lib.hid (N2.out.ext hxl); have Bd2x := Lib.hid (Bd2x.out.ext hxl); have N3 := Lib.hid (N3.out.ext hxl); have Bd3x := Lib.hid (Bd3x.out.ext hxl); have N4 := Lib.hid (N4.out.ext hxl); have Bd4x := Lib.hid (Bd4x.out.ext hxl); have N5 := Lib.hid (N5.out.ext hxl); have Bd5x := Lib.hid (Bd5x.out.ext hxl); have X := Lib.hid (X.out.trans hxl)
      have XR := X
      have X : Hid (Ext wr wr) := Lib.hid (Ext.refl wr)
      clear hxl
      by_cases hlt : k < 2
      · have qBX := (BX.out.ext X.out).cell; have fBX := (BX.out.ext X.out).free; have lBX := (BX.out.ext X.out).lt
        go_wp2_with fail
        clear qBX fBX lBX
        obtain ⟨s0, hs0⟩ : ∃ s, s = wr.heap.size := ⟨_, rfl⟩
        have R0 : Hid (wr.heap.size ≤ s0) := Lib.hid (by rw [hs0]; exact X.out.size)
        refine (HP0.out _ _ (NX.out.ext X.out)).mono ?_
        rintro e w16 ⟨⟨v, rfl, nn⟩, hx⟩
        have X := Lib.hid (X.out.trans hx)
        obtain ⟨m0x1, m0x2, m0x3, m0x4, rfl⟩ := nn.shape
        have hk0 := KpR.new nn; have hz0 := hx.size; rw [← hs0] at hk0 hz0
        have K0 := Lib.hid hk0; have S0 := Lib.hid hz0
        clear nn hx hs0 hk0 hz0
        dsimp only
        have bz := Blk.new w16 #[.bool r0.neg, .slice m0x1 r0.num.length m0x2, .slice m0x3 r0.den.length m0x4] 33
        have hx : Ext w16 (w16.alloc (.cells #[.bool r0.neg, .slice m0x1 r0.num.length m0x2, .slice m0x3 r0.den.length m0x4] 33)) := (Ext.refl _).alloc _
        have K0 := Lib.hid (K0.out.ext hx); have X := Lib.hid (X.out.trans hx)
        have Bm0x := Lib.hid bz; clear hx bz
        have qBX := (BX.out.ext X.out).cell; have fBX := (BX.out.ext X.out).free; have lBX := (BX.out.ext X.out).lt
        go_wp2_with fail
        clear qBX fBX lBX
        obtain ⟨z17, hz17⟩ : ∃ W, W = (w16.alloc (.cells #[.bool r0.neg, .slice m0x1 r0.num.length m0x2, .slice m0x3 r0.den.length m0x4] 33)) := ⟨_, rfl⟩
        rw [← hz17] at K0 Bm0x X ⊢
        clear hz17
        obtain ⟨nm0x, hnm0x⟩ : ∃ n, n = w16.heap.size := ⟨_, rfl⟩
        rw [← hnm0x] at Bm0x K0 S0 ⊢
        clear hnm0x
        have T0 := Lib.hid Bm0x.out.lt
        obtain ⟨s1, hs1⟩ : ∃ s, s = z17.heap.size := ⟨_, rfl⟩
        have R1 : Hid (wr.heap.size ≤ s1) := Lib.hid (by rw [hs1]; exact X.out.size)
        rw [← hs1] at T0
        refine (HP1.out _ _ (NX.out.ext X.out)).mono ?_
        rintro e w18 ⟨⟨v, rfl, nn⟩, hx⟩
        have K0 := Lib.hid (K0.out.ext hx); have Bm0x := Lib.hid (Bm0x.out.ext hx); have X := Lib.hid (X.out.trans hx)
        obtain ⟨m1x1, m1x2, m1x3, m1x4, rfl⟩ := nn.shape
        have hk1 := KpR.new nn; have hz1 := hx.size; rw [← hs1] at hk1 hz1
        have K1 := Lib.hid hk1; have S1 := Lib.hid hz1
        clear nn hx hs1 hk1 hz1
        dsimp only
        have bz := Blk.new w18 #[.bool r1.neg, .slice m1x1 r1.num.length m1x2, .slice m1x3 r1.den.length m1x4] 33
        have hx : Ext w18 (w18.alloc (.cells #[.bool r1.neg, .slice m1x1 r1.num.length m1x2, .slice m1x3 r1.den.length m1x4] 33)) := (Ext.refl _).alloc _
        have K0 := Lib.hid (K0.out.ext hx); have Bm0x := Lib.hid (Bm0x.out.ext hx); have K1 := Lib.hid (K1.out.ext hx); have X := Lib.hid (X.out.trans hx)
        have Bm1x := Lib.hid bz; clear hx bz
        have qBX := (BX.out.ext X.out).cell; have fBX := (BX.out.ext X.out).free; have lBX := (BX.out.ext X.out).lt; have qBY := (BY.out.ext X.out).cell; have fBY := (BY.out.ext X.out).free; have lBY := (BY.out.ext X.out).lt
        go_wp2_with fail
        clear qBX fBX lBX qBY fBY lBY
        obtain ⟨z19, hz19⟩ : ∃ W, W = (w18.alloc (.cells #[.bool r1.neg, .slice m1x1 r1.num.length m1x2, .slice m1x3 r1.den.length m1x4] 33)) := ⟨_, rfl⟩
        rw [← hz19] at K0 Bm0x K1 Bm1x X ⊢
        clear hz19
        obtain ⟨nm1x, hnm1x⟩ : ∃ n, n = w18.heap.size := ⟨_, rfl⟩
        rw [← hnm1x] at Bm1x K1 S1 ⊢
        clear hnm1x
        have T1 := Lib.hid Bm1x.out.lt
        obtain ⟨s2, hs2⟩ : ∃ s, s = z19.heap.size := ⟨_, rfl⟩
        have R2 : Hid (wr.heap.size ≤ s2) := Lib.hid (by rw [hs2]; exact X.out.size)
        rw [← hs2] at T1
        refine (HP2.out _ _ _ (NX.out.ext X.out) (NY.out.ext X.out)).mono ?_
        rintro e w20 ⟨⟨v, rfl, nn⟩, hx⟩
        have K0 := Lib.hid (K0.out.ext hx); have Bm0x := Lib.hid (Bm0x.out.ext hx); have K1 := Lib.hid (K1.out.ext hx); have Bm1x := Lib.hid (Bm1x.out.ext hx); have X := Lib.hid (X.out.trans hx)
        obtain ⟨m2x1, m2x2, m2x3, m2x4, rfl⟩ := nn.shape
        have hk2 := KpR.new nn; have hz2 := hx.size; rw [← hs2] at hk2 hz2
        have K2 := Lib.hid hk2; have S2 := Lib.hid hz2
        clear nn hx hs2 hk2 hz2
        dsimp only
        have bz := Blk.new w20 #[.bool r2.neg, .slice m2x1 r2.num.length m2x2, .slice m2x3 r2.den.length m2x4] 33
        have hx : Ext w20 (w20.alloc (.cells #[.bool r2.neg, .slice m2x1 r2.num.length m2x2, .slice m2x3 r2.den.length m2x4] 33)) := (Ext.refl _).alloc _
        have K0 := Lib.hid (K0.out.ext hx); have Bm0x := Lib.hid (Bm0x.out.ext hx); have K1 := Lib.hid (K1.out.ext hx); have Bm1x := Lib.hid (Bm1x.out.ext hx); have K2 := Lib.hid (K2.out.ext hx); have X := Lib.hid (X.out.trans hx)
        have Bm2x := Lib.hid bz; clear hx bz
        have qBX := (BX.out.ext X.out).cell; have fBX := (BX.out.ext X.out).free; have lBX := (BX.out.ext X.out).lt; have qBY := (BY.out.ext X.out).cell; have fBY := (BY.out.ext X.out).free; have lBY := (BY.out.ext X.out).lt
        go_wp2_with fail
        clear qBX fBX lBX qBY fBY lBY
        obtain ⟨z21, hz21⟩ : ∃ W, W = (w20.alloc (.cells #[.bool r2.neg, .slice m2x1 r2.num.length m2x2, .slice m2x3 r2.den.length m2x4] 33)) := ⟨_, rfl⟩
        rw [← hz21] at K0 Bm0x K1 Bm1x K2 Bm2x X ⊢
        clear hz21
        obtain ⟨nm2x, hnm2x⟩ : ∃ n, n = w20.heap.size := ⟨_, rfl⟩
        rw [← hnm2x] at Bm2x K2 S2 ⊢
        clear hnm2x
        have T2 := Lib.hid Bm2x.out.lt
        obtain ⟨s3, hs3⟩ : ∃ s, s = z21.heap.size := ⟨_, rfl⟩
        have R3 : Hid (wr.heap.size ≤ s3) := Lib.hid (by rw [hs3]; exact X.out.size)
        rw [← hs3] at T2
        refine (HP3.out _ _ _ (NX.out.ext X.out) (NY.out.ext X.out)).mono ?_
        rintro e w22 ⟨⟨v, rfl, nn⟩, hx⟩
        have K0 := Lib.hid (K0.out.ext hx); have Bm0x := Lib.hid (Bm0x.out.ext hx); have K1 := Lib.hid (K1.out.ext hx); have Bm1x := Lib.hid (Bm1x.out.ext hx); have K2 := Lib.hid (K2.out.ext hx); have Bm2x := Lib.hid (Bm2x.out.ext hx); have X := Lib.hid (X.out.trans hx)
        obtain ⟨m3x1, m3x2, m3x3, m3x4, rfl⟩ := nn.shape
        have hk3 := KpR.new nn; have hz3 := hx.size; rw [← hs3] at hk3 hz3
        have K3 := Lib.hid hk3; have S3 := Lib.hid hz3
        clear nn hx hs3 hk3 hz3
        dsimp only
        have bz := Blk.new w22 #[.bool r3.neg, .slice m3x1 r3.num.length m3x2, .slice m3x3 r3.den.length m3x4] 33
        have hx : Ext w22 (w22.alloc (.cells #[.bool r3.neg, .slice m3x1 r3.num.length m3x2, .slice m3x3 r3.den.length m3x4] 33)) := (Ext.refl _).alloc _
        have K0 := Lib.hid (K0.out.ext hx); have Bm0x := Lib.hid (Bm0x.out.ext hx); have K1 := Lib.hid (K1.out.ext hx); have Bm1x := Lib.hid (Bm1x.out.ext hx); have K2 := Lib.hid (K2.out.ext hx); have Bm2x := Lib.hid (Bm2x.out.ext hx); have K3 := Lib.hid (K3.out.ext hx); have X := Lib.hid (X.out.trans hx)
        have Bm3x := Lib.hid bz; clear hx bz
        have qBX := (BX.out.ext X.out).cell; have fBX := (BX.out.ext X.out).free; have lBX := (BX.out.ext X.out).lt; have qBY := (BY.out.ext X.out).cell; have fBY := (BY.out.ext X.out).free; have lBY := (BY.out.ext X.out).lt
        go_wp2_with fail
        clear qBX fBX lBX qBY fBY lBY
        obtain ⟨z23, hz23⟩ : ∃ W, W = (w22.alloc (.cells #[.bool r3.neg, .slice m3x1 r3.num.length m3x2, .slice m3x3 r3.den.length m3x4] 33)) := ⟨_, rfl⟩
        rw [← hz23] at K0 Bm0x K1 Bm1x K2 Bm2x K3 Bm3x X ⊢
        clear hz23
        obtain ⟨nm3x, hnm3x⟩ : ∃ n, n = w22.heap.size := ⟨_, rfl⟩
        rw [← hnm3x] at Bm3x K3 S3 ⊢
        clear hnm3x
        have T3 := Lib.hid Bm3x.out.lt
        obtain ⟨s4, hs4⟩ : ∃ s, s = z23.heap.size := ⟨_, rfl⟩
        have R4 : Hid (wr.heap.size ≤ s4) := Lib.hid (by rw [hs4]; exact X.out.size)
        rw [← hs4] at T3
        refine (HP4.out _ _ _ (NX.out.ext X.out) (NY.out.ext X.out)).mono ?_
        rintro e w24 ⟨⟨v, rfl, nn⟩, hx⟩
        have K0 := Lib.hid (K0.out.ext hx); have Bm0x := Lib.hid (Bm0x.out.ext hx); have K1 := Lib.hid (K1.out.ext hx); have Bm1x := Lib.hid (Bm1x.out.ext hx); have K2 := Lib.hid (K2.out.ext hx); have Bm2x := Lib.hid (Bm2x.out.ext hx); have K3 := Lib.hid (K3.out.ext hx); have Bm3x := Lib.hid (Bm3x.out.ext hx); have X := Lib.hid (X.out.trans hx)
        obtain ⟨m4x1, m4x2, m4x3, m4x4, rfl⟩ := nn.shape
        have hk4 := KpR.new nn; have hz4 := hx.size; rw [← hs4] at hk4 hz4
        have K4 := Lib.hid hk4; have S4 := Lib.hid hz4
        clear nn hx hs4 hk4 hz4
        dsimp only
        have bz := Blk.new w24 #[.bool r4.neg, .slice m4x1 r4.num.length m4x2, .slice m4x3 r4.den.length m4x4] 33
        have hx : Ext w24 (w24.alloc (.cells #[.bool r4.neg, .slice m4x1 r4.num.length m4x2, .slice m4x3 r4.den.length m4x4] 33)) := (Ext.refl _).alloc _
        have K0 := Lib.hid (K0.out.ext hx); have Bm0x := Lib.hid (Bm0x.out.ext hx); have K1 := Lib.hid (K1.out.ext hx); have Bm1x := Lib.hid (Bm1x.out.ext hx); have K2 := Lib.hid (K2.out.ext hx); have Bm2x := Lib.hid (Bm2x.out.ext hx); have K3 := Lib.hid (K3.out.ext hx); have Bm3x := Lib.hid (Bm3x.out.ext hx); have K4 := Lib.hid (K4.out.ext hx); have X := Lib.hid (X.out.trans hx)
        have Bm4x := Lib.hid bz; clear hx bz
        have qBX := (BX.out.ext X.out).cell; have fBX := (BX.out.ext X.out).free; have lBX := (BX.out.ext X.out).lt; have qBY := (BY.out.ext X.out).cell; have fBY := (BY.out.ext X.out).free; have lBY := (BY.out.ext X.out).lt
        go_wp2_with fail
        clear qBX fBX lBX qBY fBY lBY
        obtain ⟨z25, hz25⟩ : ∃ W, W = (w24.alloc (.cells #[.bool r4.neg, .slice m4x1 r4.num.length m4x2, .slice m4x3 r4.den.length m4x4] 33)) := ⟨_, rfl⟩
        rw [← hz25] at K0 Bm0x K1 Bm1x K2 Bm2x K3 Bm3x K4 Bm4x X ⊢
        clear hz25
        obtain ⟨nm4x, hnm4x⟩ : ∃ n, n = w24.heap.size := ⟨_, rfl⟩
        rw [← hnm4x] at Bm4x K4 S4 ⊢
        clear hnm4x
        have T4 := Lib.hid Bm4x.out.lt
        obtain ⟨s5, hs5⟩ : ∃ s, s = z25.heap.size := ⟨_, rfl⟩
        have R5 : Hid (wr.heap.size ≤ s5) := Lib.hid (by rw [hs5]; exact X.out.size)
        rw [← hs5] at T4
        refine (HP5.out _ _ _ (NX.out.ext X.out) (NY.out.ext X.out)).mono ?_
        rintro e w26 ⟨⟨v, rfl, nn⟩, hx⟩
        have K0 := Lib.hid (K0.out.ext hx); have Bm0x := Lib.hid (Bm0x.out.ext hx); have K1 := Lib.hid (K1.out.ext hx); have Bm1x := Lib.hid (Bm1x.out.ext hx); have K2 := Lib.hid (K2.out.ext hx); have Bm2x := Lib.hid (Bm2x.out.ext hx); have K3 := Lib.hid (K3.out.ext hx); have Bm3x := Lib.hid (Bm3x.out.ext hx); have K4 := Lib.hid (K4.out.ext hx); have Bm4x := Lib.hid (Bm4x.out.ext hx); have X := Lib.hid (X.out.trans hx)
        obtain ⟨m5x1, m5x2, m5x3, m5x4, rfl⟩ := nn.shape
        have hk5 := KpR.new nn; have hz5 := hx.size; rw [← hs5] at hk5 hz5
        have K5 := Lib.hid hk5; have S5 := Lib.hid hz5
        clear nn hx hs5 hk5 hz5
        dsimp only
        have bz := Blk.new w26 #[.bool r5.neg, .slice m5x1 r5.num.length m5x2, .slice m5x3 r5.den.length m5x4] 33
        have hx : Ext w26 (w26.alloc (.cells #[.bool r5.neg, .slice m5x1 r5.num.length m5x2, .slice m5x3 r5.den.length m5x4] 33)) := (Ext.refl _).alloc _
        have K0 := Lib.hid (K0.out.ext hx); have Bm0x := Lib.hid (Bm0x.out.ext hx); have K1 := Lib.hid (K1.out.ext hx); have Bm1x := Lib.hid (Bm1x.out.ext hx); have K2 := Lib.hid (K2.out.ext hx); have Bm2x := Lib.hid (Bm2x.out.ext hx); have K3 := Lib.hid (K3.out.ext hx); have Bm3x := Lib.hid (Bm3x.out.ext hx); have K4 := Lib.hid (K4.out.ext hx); have Bm4x := Lib.hid (Bm4x.out.ext hx); have K5 := Lib.hid (K5.out.ext hx); have X := Lib.hid (X.out.trans hx)
        have Bm5x := Lib.hid bz; clear hx bz
        have qBX := (BX.out.ext X.out).cell; have fBX := (BX.out.ext X.out).free; have lBX := (BX.out.ext X.out).lt; have qBY := (BY.out.ext X.out).cell; have fBY := (BY.out.ext X.out).free; have lBY := (BY.out.ext X.out).lt
        go_wp2_with fail
        clear qBX fBX lBX qBY fBY lBY
        obtain ⟨z27, hz27⟩ : ∃ W, W = (w26.alloc (.cells #[.bool r5.neg, .slice m5x1 r5.num.length m5x2, .slice m5x3 r5.den.length m5x4] 33)) := ⟨_, rfl⟩
        rw [← hz27] at K0 Bm0x K1 Bm1x K2 Bm2x K3 Bm3x K4 Bm4x K5 Bm5x X ⊢
        clear hz27
        obtain ⟨nm5x, hnm5x⟩ : ∃ n, n = w26.heap.size := ⟨_, rfl⟩
        rw [← hnm5x] at Bm5x K5 S5 ⊢
        clear hnm5x
        have T5 := Lib.hid Bm5x.out.lt
        refine (HP6.out _ _ _ (NX.out.ext X.out) (NY.out.ext X.out)).mono ?_
        rintro e w28 ⟨rfl, hx⟩
        have K0 := Lib.hid (K0.out.ext hx); have Bm0x := Lib.hid (Bm0x.out.ext hx); have K1 := Lib.hid (K1.out.ext hx); have Bm1x := Lib.hid (Bm1x.out.ext hx); have K2 := Lib.hid (K2.out.ext hx); have Bm2x := Lib.hid (Bm2x.out.ext hx); have K3 := Lib.hid (K3.out.ext hx); have Bm3x := Lib.hid (Bm3x.out.ext hx); have K4 := Lib.hid (K4.out.ext hx); have Bm4x := Lib.hid (Bm4x.out.ext hx); have K5 := Lib.hid (K5.out.ext hx); have Bm5x := Lib.hid (Bm5x.out.ext hx); have X := Lib.hid (X.out.trans hx)
        clear hx
        dsimp only
        have qBX := (BX.out.ext X.out).cell; have fBX := (BX.out.ext X.out).free; have lBX := (BX.out.ext X.out).lt
        go_wp2_with fail
        clear qBX fBX lBX
        refine (HP7.out _ _ (NX.out.ext X.out)).mono ?_
        rintro e w29 ⟨rfl, hx⟩
        have K0 := Lib.hid (K0.out.ext hx); have Bm0x := Lib.hid (Bm0x.out.ext hx); have K1 := Lib.hid (K1.out.ext hx); have Bm1x := Lib.hid (Bm1x.out.ext hx); have K2 := Lib.hid (K2.out.ext hx); have Bm2x := Lib.hid (Bm2x.out.ext hx); have K3 := Lib.hid (K3.out.ext hx); have Bm3x := Lib.hid (Bm3x.out.ext hx); have K4 := Lib.hid (K4.out.ext hx); have Bm4x := Lib.hid (Bm4x.out.ext hx); have K5 := Lib.hid (K5.out.ext hx); have Bm5x := Lib.hid (Bm5x.out.ext hx); have X := Lib.hid (X.out.trans hx)
        clear hx
        dsimp only
        have qBX := (BX.out.ext X.out).cell; have fBX := (BX.out.ext X.out).free; have lBX := (BX.out.ext X.out).lt
        go_wp2_with fail
        clear qBX fBX lBX
        refine (HP8.out _ _ (NX.out.ext X.out)).mono ?_
        rintro e w30 ⟨rfl, hx⟩
        have K0 := Lib.hid (K0.out.ext hx); have Bm0x := Lib.hid (Bm0x.out.ext hx); have K1 := Lib.hid (K1.out.ext hx); have Bm1x := Lib.hid (Bm1x.out.ext hx); have K2 := Lib.hid (K2.out.ext hx); have Bm2x := Lib.hid (Bm2x.out.ext hx); have K3 := Lib.hid (K3.out.ext hx); have Bm3x := Lib.hid (Bm3x.out.ext hx); have K4 := Lib.hid (K4.out.ext hx); have Bm4x := Lib.hid (Bm4x.out.ext hx); have K5 := Lib.hid (K5.out.ext hx); have Bm5x := Lib.hid (Bm5x.out.ext hx); have X := Lib.hid (X.out.trans hx)
        clear hx
        dsimp only
        go_wp2_with fail
        refine wp_region_each (matJ ra.neg ra.num.length ra.den.length x1 x3 x2 x4 a1 a3 a2 a4 ck c0 c1 f0 f1 g1 g0) (by kernel_rfl) (by kernel_rfl) (by kernel_rfl) (fun _ _ _ _ h _ => h) ?_ ?_
        · refine ⟨?_, ?_, ?_, ?_, ?_, ?_, ?_, ?_, ?_, ?_, ?_, ?_, ?_, ?_, ?_, ?_, ?_, ?_, ?_, ?_, ?_, ?_, ?_, ?_, ?_, ?_, ?_, ?_, ?_, ?_, ?_, ?_, ?_, ?_, ?_, trivial⟩
          · intro a W hW hB hD K hK
            have b5 := hB 5 rfl
            simp only [Array.getD_eq_getD_getElem?, List.getElem?_toArray, List.getElem?_cons_succ, List.getElem?_cons_zero, Option.getD_some] at b5
            have q99 := ((BX.out.ext X.out).ext hW).cell
            go_simp
            exact hK _ _ (Ext.refl _) rfl
          · intro a W hW hB hD K hK
            obtain ⟨v157, e157⟩ : ∃ x, a.tmps.getD 157 undef = x := ⟨_, rfl⟩
            have h157 := hD 0 _ 157 rfl rfl (by kernel_rfl)
            rw [e157] at h157
            simp only [Array.getD_eq_getD_getElem?] at e157
            obtain rfl := h157
            go_simp
            refine (HP9.out _ _ (NX.out.ext (X.out.trans hW))).mono ?_
            rintro e w9 ⟨rfl, hx⟩
            exact hK _ _ hx rfl
          · intro a W hW hB hD K hK
            have b2 := hB 2 rfl
            simp only [Array.getD_eq_getD_getElem?, List.getElem?_toArray, List.getElem?_cons_succ, List.getElem?_cons_zero, Option.getD_some] at b2
            have q99 := ((A0.out.ext X.out).ext hW).cell
            go_simp
            exact hK _ _ (Ext.refl _) rfl
          · intro a W hW hB hD K hK
            obtain ⟨v159, e159⟩ : ∃ x, a.tmps.getD 159 undef = x := ⟨_, rfl⟩
            have h159 := hD 2 _ 159 rfl rfl (by kernel_rfl)
            rw [e159] at h159
            simp only [Array.getD_eq_getD_getElem?] at e159
            obtain rfl := h159
            go_simp
            refine (HR9.out _ _ (NA.out.ext (X.out.trans hW))).mono ?_
            rintro e w9 ⟨rfl, hx⟩
            exact hK _ _ hx rfl
          · intro a W hW hB hD K hK
            obtain ⟨v158, e158⟩ : ∃ x, a.tmps.getD 158 undef = x := ⟨_, rfl⟩
            have h158 := hD 1 _ 158 rfl rfl (by kernel_rfl)
            rw [e158] at h158
            simp only [Array.getD_eq_getD_getElem?] at e158
            obtain rfl := h158
            obtain ⟨v160, e160⟩ : ∃ x, a.tmps.getD 160 undef = x := ⟨_, rfl⟩
            have h160 := hD 3 _ 160 rfl rfl (by kernel_rfl)
            rw [e160] at h160
            simp only [Array.getD_eq_getD_getElem?] at e160
            obtain rfl := h160
            (try simp only [bne_self_eq_false])
            go_simp
            exact hK _ _ (Ext.refl _) rfl
          · intro a W hW hB hD K hK
            obtain ⟨v161, e161⟩ : ∃ x, a.tmps.getD 161 undef = x := ⟨_, rfl⟩
            have h161 := hD 4 _ 161 rfl rfl (by kernel_rfl)
            rw [e161] at h161
            simp only [Array.getD_eq_getD_getElem?] at e161
            obtain rfl := h161
            go_simp
            exact hK _ _ (Ext.refl _) rfl
          · intro a W hW hB hD K hK
            have b38 := hB 38 rfl
            simp only [Array.getD_eq_getD_getElem?, List.getElem?_toArray, List.getElem?_cons_succ, List.getElem?_cons_zero, Option.getD_some] at b38
            obtain ⟨v162, e162⟩ : ∃ x, a.tmps.getD 162 undef = x := ⟨_, rfl⟩
            have h162 := hD 5 _ 162 rfl rfl (by kernel_rfl)
            rw [e162] at h162
            simp only [Array.getD_eq_getD_getElem?] at e162
            obtain rfl := h162
            have z9 := getD_bool e162
            go_simp
            exact hK _ _ (Ext.refl _) rfl
          · intro a W hW hB hD K hK
            have b19 := hB 19 rfl
            simp only [Array.getD_eq_getD_getElem?, List.getElem?_toArray, List.getElem?_cons_succ, List.getElem?_cons_zero, Option.getD_some] at b19
            obtain ⟨v162, e162⟩ : ∃ x, a.tmps.getD 162 undef = x := ⟨_, rfl⟩
            have h162 := hD 5 _ 162 rfl rfl (by kernel_rfl)
            rw [e162] at h162
            simp only [Array.getD_eq_getD_getElem?] at e162
            obtain rfl := h162
            have z9 := getD_bool e162
            go_simp
            exact hK _ _ (Ext.refl _) rfl
          · intro a W hW hB hD K hK
            obtain ⟨v163, e163⟩ : ∃ x, a.tmps.getD 163 undef = x := ⟨_, rfl⟩
            have h163 := hD 6 _ 163 rfl rfl (by kernel_rfl)
            rw [e163] at h163
            simp only [Array.getD_eq_getD_getElem?] at e163
            obtain rfl := h163
            obtain ⟨v164, e164⟩ : ∃ x, a.tmps.getD 164 undef = x := ⟨_, rfl⟩
            have h164 := hD 7 _ 164 rfl rfl (by kernel_rfl)
            rw [e164] at h164
            simp only [Array.getD_eq_getD_getElem?] at e164
            obtain rfl := h164
            obtain ⟨v162, e162⟩ : ∃ x, a.tmps.getD 162 undef = x := ⟨_, rfl⟩
            have h162 := hD 5 _ 162 rfl rfl (by kernel_rfl)
            rw [e162] at h162
            simp only [Array.getD_eq_getD_getElem?] at e162
            obtain rfl := h162
            have z9 := getD_bool e162
            (try simp only [bne_self_eq_false])
            go_simp
            exact hK _ _ (Ext.refl _) rfl
          · intro a W hW hB hD K hK
            obtain ⟨v162, e162⟩ : ∃ x, a.tmps.getD 162 undef = x := ⟨_, rfl⟩
            have h162 := hD 5 _ 162 rfl rfl (by kernel_rfl)
            rw [e162] at h162
            simp only [Array.getD_eq_getD_getElem?] at e162
            obtain rfl := h162
            obtain ⟨v165, e165⟩ : ∃ x, a.tmps.getD 165 undef = x := ⟨_, rfl⟩
            have h165 := hD 8 _ 165 rfl rfl (by kernel_rfl)
            rw [e165] at h165
            simp only [Array.getD_eq_getD_getElem?] at e165
            obtain rfl := h165
            go_simp
            exact hK _ _ (Ext.refl _) rfl
          · intro a W hW hB hD K hK
            obtain ⟨v166, e166⟩ : ∃ x, a.tmps.getD 166 undef = x := ⟨_, rfl⟩
            have h166 := hD 9 _ 166 rfl rfl (by kernel_rfl)
            rw [e166] at h166
            simp only [Array.getD_eq_getD_getElem?] at e166
            obtain rfl := h166
            go_simp
            exact hK _ _ (Ext.refl _) rfl
          · intro a W hW hB hD K hK
            have b39 := hB 39 rfl
            simp only [Array.getD_eq_getD_getElem?, List.getElem?_toArray, List.getElem?_cons_succ, List.getElem?_cons_zero, Option.getD_some] at b39
            obtain ⟨v167, e167⟩ : ∃ x, a.tmps.getD 167 undef = x := ⟨_, rfl⟩
            have h167 := hD 10 _ 167 rfl rfl (by kernel_rfl)
            rw [e167] at h167
            simp only [Array.getD_eq_getD_getElem?] at e167
            obtain rfl := h167
            have z9 := getD_bool e167
            go_simp
            exact hK _ _ (Ext.refl _) rfl
          · intro a W hW hB hD K hK
            have b20 := hB 20 rfl
            simp only [Array.getD_eq_getD_getElem?, List.getElem?_toArray, List.getElem?_cons_succ, List.getElem?_cons_zero, Option.getD_some] at b20
            obtain ⟨v167, e167⟩ : ∃ x, a.tmps.getD 167 undef = x := ⟨_, rfl⟩
            have h167 := hD 10 _ 167 rfl rfl (by kernel_rfl)
            rw [e167] at h167
            simp only [Array.getD_eq_getD_getElem?] at e167
            obtain rfl := h167
            have z9 := getD_bool e167
            go_simp
            exact hK _ _ (Ext.refl _) rfl
          · intro a W hW hB hD K hK
            obtain ⟨v168, e168⟩ : ∃ x, a.tmps.getD 168 undef = x := ⟨_, rfl⟩
            have h168 := hD 11 _ 168 rfl rfl (by kernel_rfl)
            rw [e168] at h168
            simp only [Array.getD_eq_getD_getElem?] at e168
            obtain rfl := h168
            obtain ⟨v169, e169⟩ : ∃ x, a.tmps.getD 169 undef = x := ⟨_, rfl⟩
            have h169 := hD 12 _ 169 rfl rfl (by kernel_rfl)
            rw [e169] at h169
            simp only [Array.getD_eq_getD_getElem?] at e169
            obtain rfl := h169
            obtain ⟨v167, e167⟩ : ∃ x, a.tmps.getD 167 undef = x := ⟨_, rfl⟩
            have h167 := hD 10 _ 167 rfl rfl (by kernel_rfl)
            rw [e167] at h167
            simp only [Array.getD_eq_getD_getElem?] at e167
            obtain rfl := h167
            have z9 := getD_bool e167
            (try simp only [bne_self_eq_false])
            go_simp
            exact hK _ _ (Ext.refl _) rfl
          · intro a W hW hB hD K hK
            obtain ⟨v167, e167⟩ : ∃ x, a.tmps.getD 167 undef = x := ⟨_, rfl⟩
            have h167 := hD 10 _ 167 rfl rfl (by kernel_rfl)
            rw [e167] at h167
            simp only [Array.getD_eq_getD_getElem?] at e167
            obtain rfl := h167
            obtain ⟨v170, e170⟩ : ∃ x, a.tmps.getD 170 undef = x := ⟨_, rfl⟩
            have h170 := hD 13 _ 170 rfl rfl (by kernel_rfl)
            rw [e170] at h170
            simp only [Array.getD_eq_getD_getElem?] at e170
            obtain rfl := h170
            go_simp
            exact hK _ _ (Ext.refl _) rfl
          · intro a W hW hB hD K hK
            obtain ⟨v171, e171⟩ : ∃ x, a.tmps.getD 171 undef = x := ⟨_, rfl⟩
            have h171 := hD 14 _ 171 rfl rfl (by kernel_rfl)
            rw [e171] at h171
            simp only [Array.getD_eq_getD_getElem?] at e171
            obtain rfl := h171
            go_simp
            exact hK _ _ (Ext.refl _) rfl
          · intro a W hW hB hD K hK
            have b40 := hB 40 rfl
            simp only [Array.getD_eq_getD_getElem?, List.getElem?_toArray, List.getElem?_cons_succ, List.getElem?_cons_zero, Option.getD_some] at b40
            obtain ⟨v172, e172⟩ : ∃ x, a.tmps.getD 172 undef = x := ⟨_, rfl⟩
            have h172 := hD 15 _ 172 rfl rfl (by kernel_rfl)
            rw [e172] at h172
            simp only [Array.getD_eq_getD_getElem?] at e172
            obtain rfl := h172
            have z9 := getD_bool e172
            go_simp
            exact hK _ _ (Ext.refl _) rfl
          · intro a W hW hB hD K hK
            have b21 := hB 21 rfl
            simp only [Array.getD_eq_getD_getElem?, List.getElem?_toArray, List.getElem?_cons_succ, List.getElem?_cons_zero, Option.getD_some] at b21
            obtain ⟨v172, e172⟩ : ∃ x, a.tmps.getD 172 undef = x := ⟨_, rfl⟩
            have h172 := hD 15 _ 172 rfl rfl (by kernel_rfl)
            rw [e172] at h172
            simp only [Array.getD_eq_getD_getElem?] at e172
            obtain rfl := h172
            have z9 := getD_bool e172
            go_simp
            exact hK _ _ (Ext.refl _) rfl
          · intro a W hW hB hD K hK
            obtain ⟨v173, e173⟩ : ∃ x, a.tmps.getD 173 undef = x := ⟨_, rfl⟩
            have h173 := hD 16 _ 173 rfl rfl (by kernel_rfl)
            rw [e173] at h173
            simp only [Array.getD_eq_getD_getElem?] at e173
            obtain rfl := h173
            obtain ⟨v174, e174⟩ : ∃ x, a.tmps.getD 174 undef = x := ⟨_, rfl⟩
            have h174 := hD 17 _ 174 rfl rfl (by kernel_rfl)
            rw [e174] at h174
            simp only [Array.getD_eq_getD_getElem?] at e174
            obtain rfl := h174
            obtain ⟨v172, e172⟩ : ∃ x, a.tmps.getD 172 undef = x := ⟨_, rfl⟩
            have h172 := hD 15 _ 172 rfl rfl (by kernel_rfl)
            rw [e172] at h172
            simp only [Array.getD_eq_getD_getElem?] at e172
            obtain rfl := h172
            have z9 := getD_bool e172
            (try simp only [bne_self_eq_false])
            go_simp
            exact hK _ _ (Ext.refl _) rfl
          · intro a W hW hB hD K hK
            obtain ⟨v172, e172⟩ : ∃ x, a.tmps.getD 172 undef = x := ⟨_, rfl⟩
            have h172 := hD 15 _ 172 rfl rfl (by kernel_rfl)
            rw [e172] at h172
            simp only [Array.getD_eq_getD_getElem?] at e172
            obtain rfl := h172
            obtain ⟨v175, e175⟩ : ∃ x, a.tmps.getD 175 undef = x := ⟨_, rfl⟩
            have h175 := hD 18 _ 175 rfl rfl (by kernel_rfl)
            rw [e175] at h175
            simp only [Array.getD_eq_getD_getElem?] at e175
            obtain rfl := h175
            go_simp
            exact hK _ _ (Ext.refl _) rfl
          · intro a W hW hB hD K hK
            obtain ⟨v176, e176⟩ : ∃ x, a.tmps.getD 176 undef = x := ⟨_, rfl⟩
            have h176 := hD 19 _ 176 rfl rfl (by kernel_rfl)
            rw [e176] at h176
            simp only [Array.getD_eq_getD_getElem?] at e176
            obtain rfl := h176
            go_simp
            exact hK _ _ (Ext.refl _) rfl
          · intro a W hW hB hD K hK
            have b41 := hB 41 rfl
            simp only [Array.getD_eq_getD_getElem?, List.getElem?_toArray, List.getElem?_cons_succ, List.getElem?_cons_zero, Option.getD_some] at b41
            obtain ⟨v177, e177⟩ : ∃ x, a.tmps.getD 177 undef = x := ⟨_, rfl⟩
            have h177 := hD 20 _ 177 rfl rfl (by kernel_rfl)
            rw [e177] at h177
            simp only [Array.getD_eq_getD_getElem?] at e177
            obtain rfl := h177
            have z9 := getD_bool e177
            go_simp
            exact hK _ _ (Ext.refl _) rfl
          · intro a W hW hB hD K hK
            have b22 := hB 22 rfl
            simp only [Array.getD_eq_getD_getElem?, List.getElem?_toArray, List.getElem?_cons_succ, List.getElem?_cons_zero, Option.getD_some] at b22
            obtain ⟨v177, e177⟩ : ∃ x, a.tmps.getD 177 undef = x := ⟨_, rfl⟩
            have h177 := hD 20 _ 177 rfl rfl (by kernel_rfl)
            rw [e177] at h177
            simp only [Array.getD_eq_getD_getElem?] at e177
            obtain rfl := h177
            have z9 := getD_bool e177
            go_simp
            exact hK _ _ (Ext.refl _) rfl
          · intro a W hW hB hD K hK
            obtain ⟨v178, e178⟩ : ∃ x, a.tmps.getD 178 undef = x := ⟨_, rfl⟩
            have h178 := hD 21 _ 178 rfl rfl (by kernel_rfl)
            rw [e178] at h178
            simp only [Array.getD_eq_getD_getElem?] at e178
            obtain rfl := h178
            obtain ⟨v179, e179⟩ : ∃ x, a.tmps.getD 179 undef = x := ⟨_, rfl⟩
            have h179 := hD 22 _ 179 rfl rfl (by kernel_rfl)
            rw [e179] at h179
            simp only [Array.getD_eq_getD_getElem?] at e179
            obtain rfl := h179
            obtain ⟨v177, e177⟩ : ∃ x, a.tmps.getD 177 undef = x := ⟨_, rfl⟩
            have h177 := hD 20 _ 177 rfl rfl (by kernel_rfl)
            rw [e177] at h177
            simp only [Array.getD_eq_getD_getElem?] at e177
            obtain rfl := h177
            have z9 := getD_bool e177
            (try simp only [bne_self_eq_false])
            go_simp
            exact hK _ _ (Ext.refl _) rfl
          · intro a W hW hB hD K hK
            obtain ⟨v177, e177⟩ : ∃ x, a.tmps.getD 177 undef = x := ⟨_, rfl⟩
            have h177 := hD 20 _ 177 rfl rfl (by kernel_rfl)
            rw [e177] at h177
            simp only [Array.getD_eq_getD_getElem?] at e177
            obtain rfl := h177
            obtain ⟨v180, e180⟩ : ∃ x, a.tmps.getD 180 undef = x := ⟨_, rfl⟩
            have h180 := hD 23 _ 180 rfl rfl (by kernel_rfl)
            rw [e180] at h180
            simp only [Array.getD_eq_getD_getElem?] at e180
            obtain rfl := h180
            go_simp
            exact hK _ _ (Ext.refl _) rfl
          · intro a W hW hB hD K hK
            obtain ⟨v181, e181⟩ : ∃ x, a.tmps.getD 181 undef = x := ⟨_, rfl⟩
            have h181 := hD 24 _ 181 rfl rfl (by kernel_rfl)
            rw [e181] at h181
            simp only [Array.getD_eq_getD_getElem?] at e181
            obtain rfl := h181
            go_simp
            exact hK _ _ (Ext.refl _) rfl
          · intro a W hW hB hD K hK
            have b42 := hB 42 rfl
            simp only [Array.getD_eq_getD_getElem?, List.getElem?_toArray, List.getElem?_cons_succ, List.getElem?_cons_zero, Option.getD_some] at b42
            obtain ⟨v182, e182⟩ : ∃ x, a.tmps.getD 182 undef = x := ⟨_, rfl⟩
            have h182 := hD 25 _ 182 rfl rfl (by kernel_rfl)
            rw [e182] at h182
            simp only [Array.getD_eq_getD_getElem?] at e182
            obtain rfl := h182
            have z9 := getD_bool e182
            go_simp
            exact hK _ _ (Ext.refl _) rfl
          · intro a W hW hB hD K hK
            have b23 := hB 23 rfl
            simp only [Array.getD_eq_getD_getElem?, List.getElem?_toArray, List.getElem?_cons_succ, List.getElem?_cons_zero, Option.getD_some] at b23
            obtain ⟨v182, e182⟩ : ∃ x, a.tmps.getD 182 undef = x := ⟨_, rfl⟩
            have h182 := hD 25 _ 182 rfl rfl (by kernel_rfl)
            rw [e182] at h182
            simp only [Array.getD_eq_getD_getElem?] at e182
            obtain rfl := h182
            have z9 := getD_bool e182
            go_simp
            exact hK _ _ (Ext.refl _) rfl
          · intro a W hW hB hD K hK
            obtain ⟨v183, e183⟩ : ∃ x, a.tmps.getD 183 undef = x := ⟨_, rfl⟩
            have h183 := hD 26 _ 183 rfl rfl (by kernel_rfl)
            rw [e183] at h183
            simp only [Array.getD_eq_getD_getElem?] at e183
            obtain rfl := h183
            obtain ⟨v184, e184⟩ : ∃ x, a.tmps.getD 184 undef = x := ⟨_, rfl⟩
            have h184 := hD 27 _ 184 rfl rfl (by kernel_rfl)
            rw [e184] at h184
            simp only [Array.getD_eq_getD_getElem?] at e184
            obtain rfl := h184
            obtain ⟨v182, e182⟩ : ∃ x, a.tmps.getD 182 undef = x := ⟨_, rfl⟩
            have h182 := hD 25 _ 182 rfl rfl (by kernel_rfl)
            rw [e182] at h182
            simp only [Array.getD_eq_getD_getElem?] at e182
            obtain rfl := h182
            have z9 := getD_bool e182
            (try simp only [bne_self_eq_false])
            go_simp
            exact hK _ _ (Ext.refl _) rfl
          · intro a W hW hB hD K hK
            obtain ⟨v182, e182⟩ : ∃ x, a.tmps.getD 182 undef = x := ⟨_, rfl⟩
            have h182 := hD 25 _ 182 rfl rfl (by kernel_rfl)
            rw [e182] at h182
            simp only [Array.getD_eq_getD_getElem?] at e182
            obtain rfl := h182
            obtain ⟨v185, e185⟩ : ∃ x, a.tmps.getD 185 undef = x := ⟨_, rfl⟩
            have h185 := hD 28 _ 185 rfl rfl (by kernel_rfl)
            rw [e185] at h185
            simp only [Array.getD_eq_getD_getElem?] at e185
            obtain rfl := h185
            go_simp
            exact hK _ _ (Ext.refl _) rfl
          · intro a W hW hB hD K hK
            obtain ⟨v186, e186⟩ : ∃ x, a.tmps.getD 186 undef = x := ⟨_, rfl⟩
            have h186 := hD 29 _ 186 rfl rfl (by kernel_rfl)
            rw [e186] at h186
            simp only [Array.getD_eq_getD_getElem?] at e186
            obtain rfl := h186
            go_simp
            exact hK _ _ (Ext.refl _) rfl
          · intro a W hW hB hD K hK
            have b43 := hB 43 rfl
            simp only [Array.getD_eq_getD_getElem?, List.getElem?_toArray, List.getElem?_cons_succ, List.getElem?_cons_zero, Option.getD_some] at b43
            obtain ⟨v187, e187⟩ : ∃ x, a.tmps.getD 187 undef = x := ⟨_, rfl⟩
            have h187 := hD 30 _ 187 rfl rfl (by kernel_rfl)
            rw [e187] at h187
            simp only [Array.getD_eq_getD_getElem?] at e187
            obtain rfl := h187
            have z9 := getD_bool e187
            go_simp
            exact hK _ _ (Ext.refl _) rfl
          · intro a W hW hB hD K hK
            have b24 := hB 24 rfl
            simp only [Array.getD_eq_getD_getElem?, List.getElem?_toArray, List.getElem?_cons_succ, List.getElem?_cons_zero, Option.getD_some] at b24
            obtain ⟨v187, e187⟩ : ∃ x, a.tmps.getD 187 undef = x := ⟨_, rfl⟩
            have h187 := hD 30 _ 187 rfl rfl (by kernel_rfl)
            rw [e187] at h187
            simp only [Array.getD_eq_getD_getElem?] at e187
            obtain rfl := h187
            have z9 := getD_bool e187
            go_simp
            exact hK _ _ (Ext.refl _) rfl
          · intro a W hW hB hD K hK
            obtain ⟨v188, e188⟩ : ∃ x, a.tmps.getD 188 undef = x := ⟨_, rfl⟩
            have h188 := hD 31 _ 188 rfl rfl (by kernel_rfl)
            rw [e188] at h188
            simp only [Array.getD_eq_getD_getElem?] at e188
            obtain rfl := h188
            obtain ⟨v189, e189⟩ : ∃ x, a.tmps.getD 189 undef = x := ⟨_, rfl⟩
            have h189 := hD 32 _ 189 rfl rfl (by kernel_rfl)
            rw [e189] at h189
            simp only [Array.getD_eq_getD_getElem?] at e189
            obtain rfl := h189
            obtain ⟨v187, e187⟩ : ∃ x, a.tmps.getD 187 undef = x := ⟨_, rfl⟩
            have h187 := hD 30 _ 187 rfl rfl (by kernel_rfl)
            rw [e187] at h187
            simp only [Array.getD_eq_getD_getElem?] at e187
            obtain rfl := h187
            have z9 := getD_bool e187
            (try simp only [bne_self_eq_false])
            go_simp
            exact hK _ _ (Ext.refl _) rfl
          · intro a W hW hB hD K hK
            obtain ⟨v187, e187⟩ : ∃ x, a.tmps.getD 187 undef = x := ⟨_, rfl⟩
            have h187 := hD 30 _ 187 rfl rfl (by kernel_rfl)
            rw [e187] at h187
            simp only [Array.getD_eq_getD_getElem?] at e187
            obtain rfl := h187
            obtain ⟨v190, e190⟩ : ∃ x, a.tmps.getD 190 undef = x := ⟨_, rfl⟩
            have h190 := hD 33 _ 190 rfl rfl (by kernel_rfl)
            rw [e190] at h190
            simp only [Array.getD_eq_getD_getElem?] at e190
            obtain rfl := h190
            go_simp
            exact hK _ _ (Ext.refl _) rfl
        intro w9 hx
        simp only [Vals]
        intro y0v _ y1v _ y2v _ y3v _ y4v _ y5v _ y6v _ y7v _ y8v _ y9v _ y10v _ y11v _ y12v _ y13v _ y14v _ y15v _ y16v _ y17v _ y18v _ y19v _ y20v _ y21v _ y22v _ y23v _ y24v _ y25v _ y26v _ y27v _ y28v _ y29v _ y30v _ y31v _ y32v _ y33v _ y34v h34
        obtain rfl : y34v = .bool false := h34
        simp only [Act.put, List.setIfInBounds_toArray, List.set_cons_zero, List.set_cons_succ]
        have K0 := Lib.hid (K0.out.ext hx); have Bm0x := Lib.hid (Bm0x.out.ext hx); have K1 := Lib.hid (K1.out.ext hx); have Bm1x := Lib.hid (Bm1x.out.ext hx); have K2 := Lib.hid (K2.out.ext hx); have Bm2x := Lib.hid (Bm2x.out.ext hx); have K3 := Lib.hid (K3.out.ext hx); have Bm3x := Lib.hid (Bm3x.out.ext hx); have K4 := Lib.hid (K4.out.ext hx); have Bm4x := Lib.hid (Bm4x.out.ext hx); have K5 := Lib.hid (K5.out.ext hx); have Bm5x := Lib.hid (Bm5x.out.ext hx); have X := Lib.hid (X.out.trans hx)
        clear hx
        have hsz := X.out.size
        have a0 := S0.out; have b0 := T0.out; have c0x := R0.out
        have a1 := S1.out; have b1 := T1.out; have c1x := R1.out
        have a2 := S2.out; have b2 := T2.out; have c2x := R2.out
        have a3 := S3.out; have b3 := T3.out; have c3x := R3.out
        have a4 := S4.out; have b4 := T4.out; have c4x := R4.out
        have a5 := S5.out; have b5 := T5.out; have c5x := R5.out
        have hT5 : nm5x < w9.heap.size := Bm5x.out.lt
        have ORD : Hid (s0 ≤ nm0x ∧ nm0x < s1 ∧ s1 ≤ nm1x ∧ nm1x < s2 ∧ s2 ≤ nm2x ∧ nm2x < s3 ∧ s3 ≤ nm3x ∧ nm3x < s4 ∧ s4 ≤ nm4x ∧ nm4x < s5 ∧ s5 ≤ nm5x) := Lib.hid ⟨a0, b0, a1, b1, a2, b2, a3, b3, a4, b4, a5⟩
        clear hsz hT5 a0 b0 c0x a1 b1 c1x a2 b2 c2x a3 b3 c3x a4 b4 c4x a5 b5 c5x
        have qm := Bm0x.out.cell; have lm := Bm0x.out.lt; have qd := (Bd0x.out.ext X.out).cell; have ld := (Bd0x.out.ext X.out).lt
        go_wp2_with fail
        clear qm lm qd ld
        refine (same6_any _ _ r0 r0 e0 e0 s0 nm0x _ K0.out (N0.out.ext X.out) (Nat.le_of_lt Bm0x.out.lt) HL0.out rfl rfl).mono ?_
        rintro e w31 ⟨rfl, hg⟩
        obtain ⟨i0, i1, i2, i3, i4, i5, i6, i7, i8, i9, ia⟩ := ORD.out
        have X := Lib.hid (GrX.ext X.out hg R0.out)
        have K1 := Lib.hid (K1.out.gr hg (.inl (by omega))); have Bm1x : Hid (Blk w31 nm1x #[.bool r1.neg, .slice m1x1 r1.num.length m1x2, .slice m1x3 r1.den.length m1x4] 33) := Lib.hid ((hg.block _ Bm1x.out.lt (.inr (by omega))).trans Bm1x.out)
        have K2 := Lib.hid (K2.out.gr hg (.inl (by omega))); have Bm2x : Hid (Blk w31 nm2x #[.bool r2.neg, .slice m2x1 r2.num.length m2x2, .slice m2x3 r2.den.length m2x4] 33) := Lib.hid ((hg.block _ Bm2x.out.lt (.inr (by omega))).trans Bm2x.out)
        have K3 := Lib.hid (K3.out.gr hg (.inl (by omega))); have Bm3x : Hid (Blk w31 nm3x #[.bool r3.neg, .slice m3x1 r3.num.length m3x2, .slice m3x3 r3.den.length m3x4] 33) := Lib.hid ((hg.block _ Bm3x.out.lt (.inr (by omega))).trans Bm3x.out)
        have K4 := Lib.hid (K4.out.gr hg (.inl (by omega))); have Bm4x : Hid (Blk w31 nm4x #[.bool r4.neg, .slice m4x1 r4.num.length m4x2, .slice m4x3 r4.den.length m4x4] 33) := Lib.hid ((hg.block _ Bm4x.out.lt (.inr (by omega))).trans Bm4x.out)
        have K5 := Lib.hid (K5.out.gr hg (.inl (by omega))); have Bm5x : Hid (Blk w31 nm5x #[.bool r5.neg, .slice m5x1 r5.num.length m5x2, .slice m5x3 r5.den.length m5x4] 33) := Lib.hid ((hg.block _ Bm5x.out.lt (.inr (by omega))).trans Bm5x.out)
        clear hg i0 i1 i2 i3 i4 i5 i6 i7 i8 i9 ia
        have qm := Bm1x.out.cell; have lm := Bm1x.out.lt; have qd := (Bd1x.out.ext X.out).cell; have ld := (Bd1x.out.ext X.out).lt
        go_wp2_with fail
        clear qm lm qd ld
        refine (same6_any _ _ r1 r1 e1 e1 s1 nm1x _ K1.out (N1.out.ext X.out) (Nat.le_of_lt Bm1x.out.lt) HL1.out rfl rfl).mono ?_
        rintro e w32 ⟨rfl, hg⟩
        obtain ⟨i0, i1, i2, i3, i4, i5, i6, i7, i8, i9, ia⟩ := ORD.out
        have X := Lib.hid (GrX.ext X.out hg R1.out)
        have K2 := Lib.hid (K2.out.gr hg (.inl (by omega))); have Bm2x : Hid (Blk w32 nm2x #[.bool r2.neg, .slice m2x1 r2.num.length m2x2, .slice m2x3 r2.den.length m2x4] 33) := Lib.hid ((hg.block _ Bm2x.out.lt (.inr (by omega))).trans Bm2x.out)
        have K3 := Lib.hid (K3.out.gr hg (.inl (by omega))); have Bm3x : Hid (Blk w32 nm3x #[.bool r3.neg, .slice m3x1 r3.num.length m3x2, .slice m3x3 r3.den.length m3x4] 33) := Lib.hid ((hg.block _ Bm3x.out.lt (.inr (by omega))).trans Bm3x.out)
        have K4 := Lib.hid (K4.out.gr hg (.inl (by omega))); have Bm4x : Hid (Blk w32 nm4x #[.bool r4.neg, .slice m4x1 r4.num.length m4x2, .slice m4x3 r4.den.length m4x4] 33) := Lib.hid ((hg.block _ Bm4x.out.lt (.inr (by omega))).trans Bm4x.out)
        have K5 := Lib.hid (K5.out.gr hg (.inl (by omega))); have Bm5x : Hid (Blk w32 nm5x #[.bool r5.neg, .slice m5x1 r5.num.length m5x2, .slice m5x3 r5.den.length m5x4] 33) := Lib.hid ((hg.block _ Bm5x.out.lt (.inr (by omega))).trans Bm5x.out)
        clear hg i0 i1 i2 i3 i4 i5 i6 i7 i8 i9 ia
        have qm := Bm2x.out.cell; have lm := Bm2x.out.lt; have qd := (Bd2x.out.ext X.out).cell; have ld := (Bd2x.out.ext X.out).lt
        go_wp2_with fail
        clear qm lm qd ld
        refine (same6_any _ _ r2 r2 e2 e2 s2 nm2x _ K2.out (N2.out.ext X.out) (Nat.le_of_lt Bm2x.out.lt) HL2.out rfl rfl).mono ?_
        rintro e w33 ⟨rfl, hg⟩
        obtain ⟨i0, i1, i2, i3, i4, i5, i6, i7, i8, i9, ia⟩ := ORD.out
        have X := Lib.hid (GrX.ext X.out hg R2.out)
        have K3 := Lib.hid (K3.out.gr hg (.inl (by omega))); have Bm3x : Hid (Blk w33 nm3x #[.bool r3.neg, .slice m3x1 r3.num.length m3x2, .slice m3x3 r3.den.length m3x4] 33) := Lib.hid ((hg.block _ Bm3x.out.lt (.inr (by omega))).trans Bm3x.out)
        have K4 := Lib.hid (K4.out.gr hg (.inl (by omega))); have Bm4x : Hid (Blk w33 nm4x #[.bool r4.neg, .slice m4x1 r4.num.length m4x2, .slice m4x3 r4.den.length m4x4] 33) := Lib.hid ((hg.block _ Bm4x.out.lt (.inr (by omega))).trans Bm4x.out)
        have K5 := Lib.hid (K5.out.gr hg (.inl (by omega))); have Bm5x : Hid (Blk w33 nm5x #[.bool r5.neg, .slice m5x1 r5.num.length m5x2, .slice m5x3 r5.den.length m5x4] 33) := Lib.hid ((hg.block _ Bm5x.out.lt (.inr (by omega))).trans Bm5x.out)
        clear hg i0 i1 i2 i3 i4 i5 i6 i7 i8 i9 ia
        have qm := Bm3x.out.cell; have lm := Bm3x.out.lt; have qd := (Bd3x.out.ext X.out).cell; have ld := (Bd3x.out.ext X.out).lt
        go_wp2_with fail
        clear qm lm qd ld
        refine (same6_any _ _ r3 r3 e3 e3 s3 nm3x _ K3.out (N3.out.ext X.out) (Nat.le_of_lt Bm3x.out.lt) HL3.out rfl rfl).mono ?_
        rintro e w34 ⟨rfl, hg⟩
        obtain ⟨i0, i1, i2, i3, i4, i5, i6, i7, i8, i9, ia⟩ := ORD.out
        have X := Lib.hid (GrX.ext X.out hg R3.out)
        have K4 := Lib.hid (K4.out.gr hg (.inl (by omega))); have Bm4x : Hid (Blk w34 nm4x #[.bool r4.neg, .slice m4x1 r4.num.length m4x2, .slice m4x3 r4.den.length m4x4] 33) := Lib.hid ((hg.block _ Bm4x.out.lt (.inr (by omega))).trans Bm4x.out)
        have K5 := Lib.hid (K5.out.gr hg (.inl (by omega))); have Bm5x : Hid (Blk w34 nm5x #[.bool r5.neg, .slice m5x1 r5.num.length m5x2, .slice m5x3 r5.den.length m5x4] 33) := Lib.hid ((hg.block _ Bm5x.out.lt (.inr (by omega))).trans Bm5x.out)
        clear hg i0 i1 i2 i3 i4 i5 i6 i7 i8 i9 ia
        have qm := Bm4x.out.cell; have lm := Bm4x.out.lt; have qd := (Bd4x.out.ext X.out).cell; have ld := (Bd4x.out.ext X.out).lt
        go_wp2_with fail
        clear qm lm qd ld
        refine (same6_any _ _ r4 r4 e4 e4 s4 nm4x _ K4.out (N4.out.ext X.out) (Nat.le_of_lt Bm4x.out.lt) HL4.out rfl rfl).mono ?_
        rintro e w35 ⟨rfl, hg⟩
        obtain ⟨i0, i1, i2, i3, i4, i5, i6, i7, i8, i9, ia⟩ := ORD.out
        have X := Lib.hid (GrX.ext X.out hg R4.out)
        have K5 := Lib.hid (K5.out.gr hg (.inl (by omega))); have Bm5x : Hid (Blk w35 nm5x #[.bool r5.neg, .slice m5x1 r5.num.length m5x2, .slice m5x3 r5.den.length m5x4] 33) := Lib.hid ((hg.block _ Bm5x.out.lt (.inr (by omega))).trans Bm5x.out)
        clear hg i0 i1 i2 i3 i4 i5 i6 i7 i8 i9 ia
        have qm := Bm5x.out.cell; have lm := Bm5x.out.lt; have qd := (Bd5x.out.ext X.out).cell; have ld := (Bd5x.out.ext X.out).lt
        go_wp2_with fail
        clear qm lm qd ld
        refine (same6_any _ _ r5 r5 e5 e5 s5 nm5x _ K5.out (N5.out.ext X.out) (Nat.le_of_lt Bm5x.out.lt) HL5.out rfl rfl).mono ?_
        rintro e w36 ⟨rfl, hg⟩
        obtain ⟨i0, i1, i2, i3, i4, i5, i6, i7, i8, i9, ia⟩ := ORD.out
        have X := Lib.hid (GrX.ext X.out hg R5.out)
        clear hg i0 i1 i2 i3 i4 i5 i6 i7 i8 i9 ia
        have qBX := (BX.out.ext X.out).cell; have fBX := (BX.out.ext X.out).free; have lBX := (BX.out.ext X.out).lt; have qA0 := (A0.out.ext X.out).cell; have fA0 := (A0.out.ext X.out).free; have lA0 := (A0.out.ext X.out).lt
        go_wp2_with fail
        clear qBX fBX lBX qA0 fA0 lA0
        refine (equalTrue2_any _ _ ra ra rfl _ (NX.out.ext X.out) (NA.out.ext X.out)).mono ?_
        rintro e w37 ⟨rfl, hx⟩
        have X := Lib.hid (X.out.trans hx)
        clear hx
        have qBY := (BY.out.ext X.out).cell; have fBY := (BY.out.ext X.out).free; have lBY := (BY.out.ext X.out).lt; have qA1 := (A1.out.ext X.out).cell; have fA1 := (A1.out.ext X.out).free; have lA1 := (A1.out.ext X.out).lt
        go_wp2_with fail
        clear qBY fBY lBY qA1 fA1 lA1
        refine (equalTrue2_any _ _ rb rb rfl _ (NY.out.ext X.out) (NB.out.ext X.out)).mono ?_
        rintro e w38 ⟨rfl, hx⟩
        have X := Lib.hid (X.out.trans hx)
        clear hx
        go_wp2_with fail
        go_roundw
        case rel => exact ⟨k + 1, by omega, by go_num, HXL.out.trans X.out⟩
        case measure => simp [intOf]; omega
      · have q : ¬ ((k : Int) < 2) := by omega
        go_wp2_with fail
        refine (awake6_any _).mono ?_
        rintro e w16 ⟨rfl, hx⟩
        have X := Lib.hid (X.out.trans hx)
        clear hx
        go_wp2_with fail
        go_ret
        exact ⟨rfl, XR.out.trans X.out⟩
end Go.Proofs.YtbnalhmcbolngaaGreat
