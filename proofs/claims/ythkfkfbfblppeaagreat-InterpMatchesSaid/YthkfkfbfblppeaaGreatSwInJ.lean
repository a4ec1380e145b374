/- Part of the proof of imatL_holds: what the row needs of InJ. Conditions: as each theorem states. -/
import Derived.Test.YthkfkfbfblppeaaGreatSwGM
import Derived.Test.YthkfkfbfblppeaaGreatSwRatLs
namespace Go.Proofs.YthkfkfbfblppeaaGreat
set_option linter.unusedSimpArgs false
set_option linter.unusedVariables false
open Go.RowKit
set_option maxHeartbeats 1000000 in
theorem equalWeight_any (i j : Nat) (r s : RR) (a1 : Option Addr) (c1 : Nat) (a2 : Option Addr) (c2 : Nat) (a3 : Option Addr) (c3 : Nat) (a4 : Option Addr) (c4 : Nat) (w : World)
    (h1 : RdR w (.agg #[.bool r.neg, .slice a1 r.num.length c1, .slice a2 r.den.length c2]) r) (h2 : RdR w (.agg #[.bool s.neg, .slice a3 s.num.length c3, .slice a4 s.den.length c4]) s) :
    Calls Tryz.prog 75 #[.agg #[.int .i64 (i : Nat), .bool r.neg, .slice a1 r.num.length c1, .slice a2 r.den.length c2], .agg #[.int .i64 (j : Nat), .bool s.neg, .slice a3 s.num.length c3, .slice a4 s.den.length c4]] w fun e w' => e = .returned (.bool (decide ((i, r) = (j, s)))) ∧ Ext w w' := by
  have heq := fun W (x : Ext w W) => equalRat_any _ _ r s W (h1.ext x) (h2.ext x)
  have b0 := (Blk.new w #[.int .i64 (i : Nat), .bool r.neg, .slice a1 r.num.length c1, .slice a2 r.den.length c2] 107).alloc (.cells #[.int .i64 (j : Nat), .bool s.neg, .slice a3 s.num.length c3, .slice a4 s.den.length c4] 107)
  have b1 := Blk.new (w.alloc (.cells #[.int .i64 (i : Nat), .bool r.neg, .slice a1 r.num.length c1, .slice a2 r.den.length c2] 107)) #[.int .i64 (j : Nat), .bool s.neg, .slice a3 s.num.length c3, .slice a4 s.den.length c4] 107
  rw [World.size_alloc] at b1
  have x0 : Ext w ((w.alloc (.cells #[.int .i64 (i : Nat), .bool r.neg, .slice a1 r.num.length c1, .slice a2 r.den.length c2] 107)).alloc (.cells #[.int .i64 (j : Nat), .bool s.neg, .slice a3 s.num.length c3, .slice a4 s.den.length c4] 107)) := ((Ext.refl w).alloc _).alloc _
  have HE := Lib.hid heq; have X0 := Lib.hid x0; have B0 := Lib.hid b0; have B1 := Lib.hid b1
  clear h1 h2 heq b0 b1 x0
  by_cases hij : i = j
  · subst hij
    have e : decide ((i, r) = (i, s)) = decide (r = s) := by simp
    rw [e]
    clear e
    obtain ⟨d, hd⟩ : ∃ d, d = decide (r = s) := ⟨_, rfl⟩
    rw [← hd] at HE ⊢
    clear hd
    go_enter Tryz.func75, Tryz.ntmps75
    go_wp2_with fail
    refine (HE.out _ X0.out).mono ?_
    rintro e w1 ⟨rfl, hx1⟩
    have X1 := Lib.hid (X0.out.trans hx1)
    clear hx1
    go_wp2_with fail
    go_ret
    exact ⟨rfl, X1.out⟩
  · have e : decide ((i, r) = (j, s)) = false := decide_eq_false (fun h => hij (by injection h))
    rw [e]
    have q1 : ((i : Int) == (j : Int)) = false := beq_eq_false_iff_ne.2 (by omega)
    clear e hij HE
    go_enter Tryz.func75, Tryz.ntmps75
    go_wp2_with fail
    go_ret
    exact ⟨rfl, X0.out⟩
def RdWs (w : World) (v : Value) (l : List (Nat × RR)) : Prop := ∃ a cap, v = .slice a l.length cap ∧ l.length ≤ cap ∧ cap ≤ 9223372036854775807 ∧
  ∀ i y, l[i]? = some y → ∃ b off a1 c1 a2 c2, a = some ⟨b, off, none⟩ ∧ b < w.heap.size ∧ w.cell? ⟨b, off + i * 4, none⟩ = some (.int .i64 (y.1 : Nat)) ∧ w.cell? ⟨b, off + i * 4 + 1, none⟩ = some (.bool y.2.neg) ∧ w.cell? ⟨b, off + i * 4 + 2, none⟩ = some (.slice a1 y.2.num.length c1) ∧ w.cell? ⟨b, off + i * 4 + 3, none⟩ = some (.slice a2 y.2.den.length c2) ∧
    RdR w (.agg #[.bool y.2.neg, .slice a1 y.2.num.length c1, .slice a2 y.2.den.length c2]) y.2
theorem RdWs.ext {w w' : World} {v : Value} {l : List (Nat × RR)} (h : RdWs w v l) (x : Ext w w') : RdWs w' v l := by
  obtain ⟨a, cap, e, h1, h2, h3⟩ := h
  refine ⟨a, cap, e, h1, h2, fun i y hi => ?_⟩
  obtain ⟨b, off, a1, c1, a2, c2, e1, hb, e2, e3, e4, e5, e6⟩ := h3 i y hi
  exact ⟨b, off, a1, c1, a2, c2, e1, Nat.lt_of_lt_of_le hb x.size, (x.cell (p := ⟨b, off + i * 4, none⟩) hb).trans e2, (x.cell (p := ⟨b, off + i * 4 + 1, none⟩) hb).trans e3, (x.cell (p := ⟨b, off + i * 4 + 2, none⟩) hb).trans e4, (x.cell (p := ⟨b, off + i * 4 + 3, none⟩) hb).trans e5, e6.ext x⟩
theorem OwS.rdWs {e : TypeId} {B : Nat} {w : World} {v : Value} {l : List (Nat × RR)} (h : OwS e B w v l) : RdWs w v l := by
  obtain ⟨a, cap, rfl, h1, h2, _⟩ := OwRow.rdN h
  refine ⟨a, cap, rfl, h1, h2, fun i y hi => ?_⟩
  obtain ⟨b, a1, c1, a2, c2, e1, hb, e2, e3, e4, e5, e6⟩ := h.at hi
  exact ⟨b, 0, a1, c1, a2, c2, e1, hb, by rw [Nat.zero_add]; exact e2, by rw [Nat.zero_add]; exact e3, by rw [Nat.zero_add]; exact e4, by rw [Nat.zero_add]; exact e5, e6⟩
set_option maxHeartbeats 2000000 in
theorem equalWts_any (v1 v2 : Value) (l1 l2 : List (Nat × RR)) (w : World) (h1 : RdWs w v1 l1) (h2 : RdWs w v2 l2) :
    Calls Tryz.prog 25 #[v1, v2] w fun e w' => e = .returned (.bool (decide (l1 = l2))) ∧ Ext w w' := by
  obtain ⟨a1, c1, rfl, hc1, hm1, hr1⟩ := h1
  obtain ⟨a2, c2, rfl, hc2, hm2, hr2⟩ := h2
  by_cases hlen : l1.length = l2.length
  · have H1 := Lib.hid hr1; clear hr1
    have H2 := Lib.hid hr2; clear hr2
    rw [← hlen]
    rw [← hlen] at hc2
    have HL := Lib.hid hlen; clear hlen
    go_enter Tryz.func25, Tryz.ntmps25
    go_wp2
    go_loopw [5] (fun i wr => ∃ k : Nat, k ≤ l1.length ∧ i = .int .i64 k ∧ l1.take k = l2.take k ∧ Ext w wr) (fun i _ => l1.length - (intOf i).toNat)
    case atStart => exact ⟨0, Nat.zero_le _, rfl, rfl, Ext.refl w⟩
    case round =>
      obtain ⟨wk, hwk⟩ : ∃ W, W = wr := ⟨_, rfl⟩
      subst hwk
      obtain ⟨k, hk, rfl, htake, hext⟩ := hrel
      have HT := Lib.hid htake; clear htake
      by_cases hlt : k < l1.length
      · obtain ⟨y, hy⟩ : ∃ y, l1[k]? = some y := ⟨_, List.getElem?_eq_getElem hlt⟩
        obtain ⟨z, hz⟩ : ∃ y, l2[k]? = some y := ⟨_, List.getElem?_eq_getElem (HL.out ▸ hlt)⟩
        obtain ⟨b1, o1, p1, d1, p2, d2, rfl, hb1, x0, x1, x2, x3, hrd1⟩ := H1.out k y hy
        obtain ⟨b2, o2, p3, d3, p4, d4, rfl, hb2, z0, z1, z2, z3, hrd2⟩ := H2.out k z hz
        have y0 := (hext.cell (p := ⟨b1, o1 + k * 4, none⟩) hb1).trans x0
        have y1 := (hext.cell (p := ⟨b1, o1 + k * 4 + 1, none⟩) hb1).trans x1
        have y2 := (hext.cell (p := ⟨b1, o1 + k * 4 + 2, none⟩) hb1).trans x2
        have y3 := (hext.cell (p := ⟨b1, o1 + k * 4 + 3, none⟩) hb1).trans x3
        have y4 := (hext.cell (p := ⟨b2, o2 + k * 4, none⟩) hb2).trans z0
        have y5 := (hext.cell (p := ⟨b2, o2 + k * 4 + 1, none⟩) hb2).trans z1
        have y6 := (hext.cell (p := ⟨b2, o2 + k * 4 + 2, none⟩) hb2).trans z2
        have y7 := (hext.cell (p := ⟨b2, o2 + k * 4 + 3, none⟩) hb2).trans z3
        obtain ⟨yi, yr⟩ := y
        obtain ⟨zi, zr⟩ := z
        dsimp only at y0 y1 y2 y3 y4 y5 y6 y7 hrd1 hrd2
        have heq := fun W (x : Ext wk W) => equalWeight_any yi zi yr zr p1 d1 p2 d2 p3 d3 p4 d4 W (hrd1.ext (hext.trans x)) (hrd2.ext (hext.trans x))
        have g1 := take_snocE hy
        have g2 := take_snocE hz
        have q1 : (0 : Int) ≤ (k : Int) := by omega
        have q2 : (k : Int) < (l1.length : Int) := by omega
        have hsz := hext.size
        have lb1 : b1 < wk.heap.size := by have := hext.size; omega
        have lb2 : b2 < wk.heap.size := by have := hext.size; omega
        have G1 := Lib.hid g1; have G2 := Lib.hid g2; have HX := Lib.hid hext
        obtain ⟨d, hd⟩ : ∃ d, d = decide ((yi, yr) = (zi, zr)) := ⟨_, rfl⟩
        rw [← hd] at heq
        have HQ := Lib.hid heq; have HD := Lib.hid hd
        clear x0 x1 x2 x3 z0 z1 z2 z3 hrd1 hrd2 hy hz g1 g2 hext hd heq
        go_wp2_with fail
        (refine wp_region_quietE (by kernel_rfl) (by kernel_rfl) ?_; (repeat (go_big_quiet_step ((go_at_call 75; exact quietE (HQ.out _ (Later.ext _)))))); refine wpQuiet_nil ?_; rintro w1 ⟨⟨_, hx1⟩, rfl⟩; (try dsimp only); have hz1 := hx1.size; (try simp only [World.size_alloc, World.size_setCell, World.size_drew, size_drewN] at hz1); obtain ⟨hc1, hf1⟩ := hx1.old (B := w.heap.size) (by (try simp only [World.size_alloc, World.size_setCell, World.size_drew, size_drewN]); omega))
        have HX1 := Lib.hid (HX.out.trans hx1)
        clear hx1
        cases d
        · go_wp2
          go_ret
          refine ⟨ret_bool ?_, HX1.out⟩
          rw [eq_comm, decide_eq_false_iff_not]
          rintro rfl
          have := G1.out.symm.trans G2.out
          have := List.append_cancel_left this
          exact of_decide_eq_false HD.out.symm (by injection this)
        · go_wp2
          go_roundw
          case rel => exact ⟨k + 1, by omega, by go_num, by rw [G1.out, G2.out, HT.out, of_decide_eq_true HD.out.symm], HX1.out⟩
          case measure => simp [intOf]; omega
      · have HX := Lib.hid hext; clear hext
        go_wp2
        go_ret
        refine ⟨ret_bool ?_, HX.out⟩
        have := HT.out
        rw [List.take_of_length_le (by omega), List.take_of_length_le (by have := HL.out; omega)] at this
        simp [this]
  · have hb : (l1.length != l2.length) = true := by simpa using hlen
    go_enter Tryz.func25, Tryz.ntmps25
    go_wp2
    go_ret
    refine ⟨ret_bool ?_, Ext.refl w⟩
    rw [eq_comm, decide_eq_false_iff_not]
    rintro rfl
    exact hlen rfl
set_option maxHeartbeats 1000000 in
theorem of7_any (p q : Int) (w : World) (h0 : -9223372036854775808 ≤ p) (h1 : p ≤ 9223372036854775807) (h2 : -9223372036854775808 ≤ q) (h3 : q ≤ 9223372036854775807) :
    Calls Tryz.prog 64 #[.int .i64 p, .int .i64 q] w fun e w' => (∃ v, e = .returned v ∧ NewR w w' v (ofR p q).1) ∧ Ext w w' := by
  have hof := fun W => ofnR_any p q W h0 h1 h2 h3
  obtain ⟨c, hc⟩ : ∃ c, c = ofR p q := ⟨_, rfl⟩
  rw [← hc] at hof ⊢
  obtain ⟨r, e⟩ := c
  dsimp only at hof ⊢
  have HOF := Lib.hid hof
  have b0 := Blk.new w #[.bool false, .slice none 0 0, .slice none 0 0] 62
  have B0 := Lib.hid b0; have X0 := Lib.hid ((Ext.refl w).alloc (.cells #[.bool false, .slice none 0 0, .slice none 0 0] 62))
  clear hof hc b0
  go_enter Tryz.func64, Tryz.ntmps64
  go_wp2_with fail
  refine (HOF.out _).mono ?_
  rintro e1 w1 ⟨⟨v, rfl, nn⟩, hx⟩
  obtain ⟨a1, a2, a3, a4, rfl⟩ := nn.shape
  have NN := Lib.hid (nn.from X0.out)
  have B1 := Lib.hid (B0.out.ext hx); have X1 := Lib.hid (X0.out.trans hx)
  clear nn hx
  have q1 := B1.out.cell; have f1 := B1.out.free; have l1 := B1.out.lt
  go_wp2_with fail
  refine bodyPost_ret (v := .agg #[.bool r.neg, .slice a1 r.num.length a2, .slice a3 r.den.length a4]) (by simp only [results, Tryz.results64]; go_simp) rfl ⟨⟨_, rfl, (NewR.set3 NN.out B1.out (by decide) _ _ _).ext ((Ext.refl _).alloc _)⟩, ?_⟩
  have := X1.out; (repeat (first | (with_reducible exact Ext.refl _) | (with_reducible assumption) | (with_reducible refine Ext.alloc ?_ _) | ((with_reducible refine Ext.setp ?_ ?_); focus (dsimp only; omega)) | (with_reducible refine Ext.drew ?_) | (with_reducible refine Ext.drewN ?_ _) | (with_reducible refine Ext.trans ?_ (by assumption))))
end Go.Proofs.YthkfkfbfblppeaaGreat
