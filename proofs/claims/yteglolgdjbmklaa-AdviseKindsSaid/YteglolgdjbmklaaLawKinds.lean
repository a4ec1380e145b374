/- The law AdviseKinds answers true (written by mkkinds.py). Conditions: the argument reads as a case of layer 28. -/
import Derived.Test.YteglolgdjbmklaaAdvAw
import Derived.Test.YteglolgdjbmklaaArgR
namespace Go.Proofs.Yteglolgdjbmklaa
set_option linter.unusedSimpArgs false
set_option linter.unusedVariables false
open Go.RowKit

set_option maxRecDepth 100000 in
set_option maxHeartbeats 8000000 in
theorem kindsL_any (v : Value) (l : List Bnd) (now age rev : Int) (costs : List RR) (mask : List Bool) (lr lh a b : Int) (w : World) (hc : RdCase w v l now age rev costs mask lr lh) :
    Calls Try.prog 3 #[v, .int .i64 a, .int .i64 b] w fun e w' => e = .returned (.bool true) ∧ Ext w w' := by
  obtain ⟨vl, vc, vm, rfl, hl, hcs, hmk, -, -, ha1, ha2, -, -⟩ := hc
  have HL := Lib.hid (show RdBnd w vl l from hl)
  obtain ⟨al, cl, rfl, _⟩ := HL.out.get
  obtain ⟨ac, cc, rfl, -⟩ := hcs.get
  obtain ⟨am, cm, rfl, -⟩ := rdB_get hmk
  clear hl hcs hmk
  have bb0 := (Blk.new w #[.slice al l.length cl, .int .i64 now, .int .i64 age, .int .i64 rev, .slice ac costs.length cc, .slice am mask.length cm, .int .i64 lr, .int .i64 lh] 30)
  have x0 : Ext w (w.alloc (.cells #[.slice al l.length cl, .int .i64 now, .int .i64 age, .int .i64 rev, .slice ac costs.length cc, .slice am mask.length cm, .int .i64 lr, .int .i64 lh] 30)) := ((Ext.refl w).alloc _)
  have A0 := Lib.hid bb0; have X := Lib.hid x0
  clear x0 bb0
  have HL := Lib.hid (HL.out.ext X.out)
  by_cases hlen : 20 < l.length
  · have q1 : (20 : Int) < (l.length : Int) := by omega
    clear hlen
    go_enter Try.func3, Try.ntmps3
    go_wp2_with fail
    refine (awake28_any _).mono ?_
    rintro e w1 ⟨rfl, hx⟩
    have A0 := Lib.hid (A0.out.ext hx); have HL := Lib.hid (HL.out.ext hx); have X := Lib.hid (X.out.trans hx)
    clear hx
    go_wp2_with fail
    go_ret
    exact ⟨rfl, X.out⟩
  · have q1 : ¬ (20 : Int) < (l.length : Int) := by omega
    clear hlen
    have hk1 := fun W h => kind_any (.slice al l.length cl) l a b W h
    have hk2 := fun W h => refKind_any (.slice al l.length cl) l a b W h
    have hv1 := fun W h => adv_any (.slice al l.length cl) l b W h
    have hv2 := fun W h => refAdv_any (.slice al l.length cl) l b W h
    have hn1 := fun W h => next_any (.slice al l.length cl) l now age rev b W h ha1.1 ha2.1
    have hn2 := fun W h => refNext_any (.slice al l.length cl) l now age rev b W h ha1.1 ha2.1
    have hc1 := fun W h => achk_any (.slice al l.length cl) l W h
    have hc2 := fun W h => refAchk_any (.slice al l.length cl) l W h
    obtain ⟨ks, hks⟩ : ∃ x, x = kindS l a b := ⟨_, rfl⟩
    obtain ⟨av, hav⟩ : ∃ x, x = advS l b := ⟨_, rfl⟩
    obtain ⟨nx, hnx⟩ : ∃ x, x = nextS l now age rev b := ⟨_, rfl⟩
    obtain ⟨ce, hce⟩ : ∃ x, x = achk l := ⟨_, rfl⟩
    rw [← hks] at hk1 hk2
    rw [← hav] at hv1 hv2
    rw [← hnx] at hn1 hn2
    rw [← hce] at hc1 hc2
    obtain ⟨k1, k2⟩ := ks
    obtain ⟨⟨v1, v2, v3⟩, v4⟩ := av
    obtain ⟨⟨n1, n2, n3⟩, n4⟩ := nx
    unfold advW at hv1 hv2
    unfold memW at hn1 hn2
    dsimp only at hk1 hk2 hv1 hv2 hn1 hn2
    have hE1 : ∀ W, (binOp .eql 36 (.agg #[.int .u8 v1, .int .i64 v2, .bool v3]) (.agg #[.int .u8 v1, .int .i64 v2, .bool v3])).run Try.prog W = .ok (.bool true) W := fun W => by rw [eqAdv, beqD_self]
    have hE2 : ∀ W, (binOp .eql 24 (.agg #[.int .i64 n1, .int .i64 n2, .int .i64 n3]) (.agg #[.int .i64 n1, .int .i64 n2, .int .i64 n3])).run Try.prog W = .ok (.bool true) W := fun W => by rw [eqMem, beqD_self]
    have K1 := Lib.hid hk1; have K2 := Lib.hid hk2; have V1 := Lib.hid hv1; have V2 := Lib.hid hv2; have N1 := Lib.hid hn1; have N2 := Lib.hid hn2; have C1 := Lib.hid hc1; have C2 := Lib.hid hc2
    clear hk1 hk2 hv1 hv2 hn1 hn2 hc1 hc2 hks hav hnx hce ha1 ha2
    go_enter Try.func3, Try.ntmps3
    have qA0 := A0.out.cell; have fA0 := A0.out.free; have lA0 := A0.out.lt
    go_wp2_with fail
    refine (K1.out _ HL.out).mono ?_
    rintro e w1 ⟨rfl, hx⟩
    clear qA0 fA0 lA0
    have A0 := Lib.hid (A0.out.ext hx); have HL := Lib.hid (HL.out.ext hx); have X := Lib.hid (X.out.trans hx)
    clear hx
    have qA0 := A0.out.cell; have fA0 := A0.out.free; have lA0 := A0.out.lt
    go_wp2_with fail
    refine (K2.out _ HL.out).mono ?_
    rintro e w2 ⟨rfl, hx⟩
    clear qA0 fA0 lA0
    have A0 := Lib.hid (A0.out.ext hx); have HL := Lib.hid (HL.out.ext hx); have X := Lib.hid (X.out.trans hx)
    clear hx
    have qA0 := A0.out.cell; have fA0 := A0.out.free; have lA0 := A0.out.lt
    go_wp2_with fail
    refine (V1.out _ HL.out).mono ?_
    rintro e w3 ⟨rfl, hx⟩
    have bz := Blk.new w3 #[.int .u8 v1, .int .i64 v2, .bool v3] 36
    have hx := hx.alloc (.cells #[.int .u8 v1, .int .i64 v2, .bool v3] 36)
    clear qA0 fA0 lA0
    have A0 := Lib.hid (A0.out.ext hx); have HL := Lib.hid (HL.out.ext hx); have X := Lib.hid (X.out.trans hx)
    have BV1 := Lib.hid bz
    clear hx bz
    have qA0 := A0.out.cell; have fA0 := A0.out.free; have lA0 := A0.out.lt
    go_wp2_with fail
    refine (V2.out _ HL.out).mono ?_
    rintro e w4 ⟨rfl, hx⟩
    have bz := Blk.new w4 #[.int .u8 v1, .int .i64 v2, .bool v3] 36
    have hx := hx.alloc (.cells #[.int .u8 v1, .int .i64 v2, .bool v3] 36)
    clear qA0 fA0 lA0
    have A0 := Lib.hid (A0.out.ext hx); have HL := Lib.hid (HL.out.ext hx); have BV1 := Lib.hid (BV1.out.ext hx); have X := Lib.hid (X.out.trans hx)
    have BV2 := Lib.hid bz
    clear hx bz
    have qA0 := A0.out.cell; have fA0 := A0.out.free; have lA0 := A0.out.lt
    go_wp2_with fail
    refine (N1.out _ HL.out).mono ?_
    rintro e w5 ⟨rfl, hx⟩
    have bz := Blk.new w5 #[.int .i64 n1, .int .i64 n2, .int .i64 n3] 24
    have hx := hx.alloc (.cells #[.int .i64 n1, .int .i64 n2, .int .i64 n3] 24)
    clear qA0 fA0 lA0
    have A0 := Lib.hid (A0.out.ext hx); have HL := Lib.hid (HL.out.ext hx); have BV1 := Lib.hid (BV1.out.ext hx); have BV2 := Lib.hid (BV2.out.ext hx); have X := Lib.hid (X.out.trans hx)
    have BN1 := Lib.hid bz
    clear hx bz
    have qA0 := A0.out.cell; have fA0 := A0.out.free; have lA0 := A0.out.lt
    go_wp2_with fail
    refine (N2.out _ HL.out).mono ?_
    rintro e w6 ⟨rfl, hx⟩
    have bz := Blk.new w6 #[.int .i64 n1, .int .i64 n2, .int .i64 n3] 24
    have hx := hx.alloc (.cells #[.int .i64 n1, .int .i64 n2, .int .i64 n3] 24)
    clear qA0 fA0 lA0
    have A0 := Lib.hid (A0.out.ext hx); have HL := Lib.hid (HL.out.ext hx); have BV1 := Lib.hid (BV1.out.ext hx); have BV2 := Lib.hid (BV2.out.ext hx); have BN1 := Lib.hid (BN1.out.ext hx); have X := Lib.hid (X.out.trans hx)
    have BN2 := Lib.hid bz
    clear hx bz
    have qA0 := A0.out.cell; have fA0 := A0.out.free; have lA0 := A0.out.lt
    go_wp2_with fail
    clear qA0 fA0 lA0
    generalize hwz : (w6.alloc (.cells #[.int .i64 n1, .int .i64 n2, .int .i64 n3] 24)) = wz at *
    clear hwz
    have qA0 := A0.out.cell; have fA0 := A0.out.free; have lA0 := A0.out.lt; have qBV1 := BV1.out.cell; have fBV1 := BV1.out.free; have lBV1 := BV1.out.lt; have qBV2 := BV2.out.cell; have fBV2 := BV2.out.free; have lBV2 := BV2.out.lt; have qBN1 := BN1.out.cell; have fBN1 := BN1.out.free; have lBN1 := BN1.out.lt; have qBN2 := BN2.out.cell; have fBN2 := BN2.out.free; have lBN2 := BN2.out.lt
    have hz := X.out.size
    (refine wp_region_quietE (by kernel_rfl) (by kernel_rfl) ?_; (repeat (go_big_quiet_step ((first | (go_at_call 19; exact quietE (C1.out _ (HL.out.ext (Later.ext _)))) | (go_at_call 20; exact quietE (C2.out _ (HL.out.ext (Later.ext _)))) | (go_at_call 12; exact quietE (awake28_any _)))))); refine wpQuiet_nil ?_; rintro w1 ⟨⟨_, hx1⟩, rfl⟩; (try dsimp only); have hz1 := hx1.size; (try simp only [World.size_alloc, World.size_setCell, World.size_drew, size_drewN] at hz1); obtain ⟨hc1, hf1⟩ := hx1.old (B := w.heap.size) (by (try simp only [World.size_alloc, World.size_setCell, World.size_drew, size_drewN]); omega))
    go_wp2
    go_ret
    exact ⟨rfl, by first | exact X.out.trans hx1 | exact (Ext.trans X.out (by assumption))⟩

end Go.Proofs.Yteglolgdjbmklaa
