/- Walk of the law InterpUnity: it returns true (written by mkuni.py). Conditions: a grid and a list that read as ints. -/
import Derived.Test.YtlbppdgijjbjbaaInW
import Derived.Test.YtlbppdgijjbjbaaInK
import Derived.Test.YtlbppdgijjbjbaaRwR
import Derived.Test.YtlbppdgijjbjbaaEachF
namespace Go.Proofs.Ytlbppdgijjbjbaa
set_option linter.unusedSimpArgs false
set_option linter.unusedVariables false
open Go.RowKit

def uniJ (a la qa : Option Addr) (cap lc gn ln k k1 y z : Nat) (b off : Nat) (pz : Bool) (j : Nat) (v : Value) (W : World) : Prop :=
  match j with
  | 0 => v = .int .i64 0
  | 1 => v = .bool false
  | 2 => v = .bool false
  | 3 => v = .int .i64 1
  | 4 => v = .bool false
  | 5 => v = .bool false
  | 6 => v = .bool false
  | 7 => v = .int .i64 0
  | 8 => v = .bool false
  | 9 => v = .bool false
  | 10 => v = .bool false
  | 11 => v = .slice qa gn gn
  | 12 => v = .int .i64 gn
  | 13 => v = .slice a gn cap
  | 14 => v = .int .i64 gn
  | 15 => v = .bool false
  | 16 => v = .bool false
  | 17 => v = .bool false
  | 18 => v = .int .i64 k
  | 19 => v = .bool pz
  | 20 => v = .bool pz
  | 21 => pz = true → v = .slice la ln lc
  | 22 => pz = true → v = .int .i64 k
  | 23 => pz = true → v = .pointer (some ⟨b, off + k * 4, none⟩)
  | 24 => pz = true → v = .pointer (some ⟨b, off + k * 4, none⟩)
  | 25 => pz = true → v = .int .i64 y
  | 26 => pz = true → v = .slice la ln lc
  | 27 => pz = true → v = .int .i64 k
  | 28 => pz = true → v = .int .i64 k1
  | 29 => pz = true → v = .pointer (some ⟨b, off + k1 * 4, none⟩)
  | 30 => pz = true → v = .pointer (some ⟨b, off + k1 * 4, none⟩)
  | 31 => pz = true → v = .int .i64 z
  | 32 => pz = true → v = .bool false
  | 33 => v = .bool false
  | 34 => v = .bool false
  | _ => True
theorem uniJ_ext {a la qa : Option Addr} {cap lc gn ln k k1 y z : Nat} {b off : Nat} {pz : Bool} {j : Nat} {v : Value} {W W' : World} (h : uniJ a la qa cap lc gn ln k k1 y z b off pz j v W) (x : Ext W W') : uniJ a la qa cap lc gn ln k k1 y z b off pz j v W' := by
  match j, h with
  | 0, h => exact h
  | 1, h => exact h
  | 2, h => exact h
  | 3, h => exact h
  | 4, h => exact h
  | 5, h => exact h
  | 6, h => exact h
  | 7, h => exact h
  | 8, h => exact h
  | 9, h => exact h
  | 10, h => exact h
  | 11, h => exact h
  | 12, h => exact h
  | 13, h => exact h
  | 14, h => exact h
  | 15, h => exact h
  | 16, h => exact h
  | 17, h => exact h
  | 18, h => exact h
  | 19, h => exact h
  | 20, h => exact h
  | 21, h => exact h
  | 22, h => exact h
  | 23, h => exact h
  | 24, h => exact h
  | 25, h => exact h
  | 26, h => exact h
  | 27, h => exact h
  | 28, h => exact h
  | 29, h => exact h
  | 30, h => exact h
  | 31, h => exact h
  | 32, h => exact h
  | 33, h => exact h
  | 34, h => exact h
  | _ + 35, _ => trivial
def uniS (la : Option Addr) (lc ln k b off : Nat) (s y t : RR) (j : Nat) (v : Value) (W : World) : Prop :=
  match j with
  | 0 => ∃ s1 s2 s3 s4, v = .agg #[.bool s.neg, .slice s1 s.num.length s2, .slice s3 s.den.length s4] ∧ RdR W (.agg #[.bool s.neg, .slice s1 s.num.length s2, .slice s3 s.den.length s4]) s
  | 1 => v = .slice la ln lc
  | 2 => v = .int .i64 k
  | 3 => v = .pointer (some ⟨b, off + k * 4, none⟩)
  | 4 => v = .pointer (some ⟨b, off + k * 4 + 1, none⟩)
  | 5 => ∃ s1 s2 s3 s4, v = .agg #[.bool y.neg, .slice s1 y.num.length s2, .slice s3 y.den.length s4] ∧ RdR W (.agg #[.bool y.neg, .slice s1 y.num.length s2, .slice s3 y.den.length s4]) y
  | 6 => ∃ s1 s2 s3 s4, v = .tuple #[.agg #[.bool t.neg, .slice s1 t.num.length s2, .slice s3 t.den.length s4], .int .i64 0] ∧ RdR W (.agg #[.bool t.neg, .slice s1 t.num.length s2, .slice s3 t.den.length s4]) t
  | 7 => ∃ s1 s2 s3 s4, v = .tuple #[.agg #[.bool t.neg, .slice s1 t.num.length s2, .slice s3 t.den.length s4], .int .i64 0] ∧ RdR W (.agg #[.bool t.neg, .slice s1 t.num.length s2, .slice s3 t.den.length s4]) t
  | 8 => ∃ s1 s2 s3 s4, v = .agg #[.bool t.neg, .slice s1 t.num.length s2, .slice s3 t.den.length s4] ∧ RdR W (.agg #[.bool t.neg, .slice s1 t.num.length s2, .slice s3 t.den.length s4]) t
  | 9 => v = .int .i64 0
  | _ => True
theorem uniS_ext {la : Option Addr} {lc ln k b off : Nat} {s y t : RR} {j : Nat} {v : Value} {W W' : World} (h : uniS la lc ln k b off s y t j v W) (x : Ext W W') : uniS la lc ln k b off s y t j v W' := by
  match j, h with
  | 0, ⟨s1, s2, s3, s4, h1, h2⟩ => exact ⟨s1, s2, s3, s4, h1, h2.ext x⟩
  | 1, h => exact h
  | 2, h => exact h
  | 3, h => exact h
  | 4, h => exact h
  | 5, ⟨s1, s2, s3, s4, h1, h2⟩ => exact ⟨s1, s2, s3, s4, h1, h2.ext x⟩
  | 6, ⟨s1, s2, s3, s4, h1, h2⟩ => exact ⟨s1, s2, s3, s4, h1, h2.ext x⟩
  | 7, ⟨s1, s2, s3, s4, h1, h2⟩ => exact ⟨s1, s2, s3, s4, h1, h2.ext x⟩
  | 8, ⟨s1, s2, s3, s4, h1, h2⟩ => exact ⟨s1, s2, s3, s4, h1, h2.ext x⟩
  | 9, h => exact h
  | _ + 10, _ => trivial
def uniM (la qa : Option Addr) (lc ln gn k m b off qb qo : Nat) (z : Int) (y p : RR) (B : Nat) (j : Nat) (v : Value) (W : World) : Prop :=
  match j with
  | 0 => v = .slice la ln lc
  | 1 => v = .int .i64 k
  | 2 => v = .pointer (some ⟨b, off + k * 4, none⟩)
  | 3 => v = .pointer (some ⟨b, off + k * 4 + 1, none⟩)
  | 4 => ∃ s1 s2 s3 s4, v = .agg #[.bool y.neg, .slice s1 y.num.length s2, .slice s3 y.den.length s4] ∧ RdR W (.agg #[.bool y.neg, .slice s1 y.num.length s2, .slice s3 y.den.length s4]) y
  | 5 => v = .slice qa gn gn
  | 6 => v = .int .i64 m
  | 7 => v = .pointer (some ⟨qb, qo + m, none⟩)
  | 8 => v = .int .i64 z
  | 9 => ∃ v', v = v' ∧ RdR W v' (rep (z : Rat))
  | 10 => ∃ s1 s2 s3 s4, v = .tuple #[.agg #[.bool p.neg, .slice s1 p.num.length s2, .slice s3 p.den.length s4], .int .i64 0] ∧ RdR W (.agg #[.bool p.neg, .slice s1 p.num.length s2, .slice s3 p.den.length s4]) p
  | 11 => ∃ s1 s2 s3 s4, v = .tuple #[.agg #[.bool p.neg, .slice s1 p.num.length s2, .slice s3 p.den.length s4], .int .i64 0] ∧ RdR W (.agg #[.bool p.neg, .slice s1 p.num.length s2, .slice s3 p.den.length s4]) p
  | 12 => ∃ s1 s2 s3 s4, v = .agg #[.bool p.neg, .slice s1 p.num.length s2, .slice s3 p.den.length s4] ∧ RdR W (.agg #[.bool p.neg, .slice s1 p.num.length s2, .slice s3 p.den.length s4]) p
  | 13 => v = .int .i64 0
  | 14 => ∃ b, v = .pointer (some ⟨b, 0, none⟩) ∧ B ≤ b ∧ Blk W b #[.bool false, .slice none 0 0, .slice none 0 0] 35
  | _ => True
theorem uniM_ext {la qa : Option Addr} {lc ln gn k m b off qb qo : Nat} {z : Int} {y p : RR} {B : Nat} {j : Nat} {v : Value} {W W' : World} (h : uniM la qa lc ln gn k m b off qb qo z y p B j v W) (x : Ext W W') : uniM la qa lc ln gn k m b off qb qo z y p B j v W' := by
  match j, h with
  | 0, h => exact h
  | 1, h => exact h
  | 2, h => exact h
  | 3, h => exact h
  | 4, ⟨s1, s2, s3, s4, h1, h2⟩ => exact ⟨s1, s2, s3, s4, h1, h2.ext x⟩
  | 5, h => exact h
  | 6, h => exact h
  | 7, h => exact h
  | 8, h => exact h
  | 9, ⟨v9, h1, h2⟩ => exact ⟨v9, h1, h2.ext x⟩
  | 10, ⟨s1, s2, s3, s4, h1, h2⟩ => exact ⟨s1, s2, s3, s4, h1, h2.ext x⟩
  | 11, ⟨s1, s2, s3, s4, h1, h2⟩ => exact ⟨s1, s2, s3, s4, h1, h2.ext x⟩
  | 12, ⟨s1, s2, s3, s4, h1, h2⟩ => exact ⟨s1, s2, s3, s4, h1, h2.ext x⟩
  | 13, h => exact h
  | 14, ⟨b, h0, h1, h2⟩ => exact ⟨b, h0, h1, h2.ext x⟩
  | _ + 15, _ => trivial
def uniA (an gn m : Nat) (s y t : RR) (j : Nat) (v : Value) (W : World) : Prop :=
  match j with
  | 0 => v = .slice (some ⟨an, 0, none⟩) gn gn
  | 1 => v = .int .i64 m
  | 2 => v = .slice (some ⟨an, 0, none⟩) gn gn
  | 3 => v = .int .i64 m
  | 4 => v = .pointer (some ⟨an, m * 3, none⟩)
  | 5 => ∃ s1 s2 s3 s4, v = .agg #[.bool s.neg, .slice s1 s.num.length s2, .slice s3 s.den.length s4] ∧ RdR W (.agg #[.bool s.neg, .slice s1 s.num.length s2, .slice s3 s.den.length s4]) s
  | 6 => ∃ s1 s2 s3 s4, v = .agg #[.bool y.neg, .slice s1 y.num.length s2, .slice s3 y.den.length s4] ∧ RdR W (.agg #[.bool y.neg, .slice s1 y.num.length s2, .slice s3 y.den.length s4]) y
  | 7 => ∃ s1 s2 s3 s4, v = .tuple #[.agg #[.bool t.neg, .slice s1 t.num.length s2, .slice s3 t.den.length s4], .int .i64 0] ∧ RdR W (.agg #[.bool t.neg, .slice s1 t.num.length s2, .slice s3 t.den.length s4]) t
  | 8 => ∃ s1 s2 s3 s4, v = .tuple #[.agg #[.bool t.neg, .slice s1 t.num.length s2, .slice s3 t.den.length s4], .int .i64 0] ∧ RdR W (.agg #[.bool t.neg, .slice s1 t.num.length s2, .slice s3 t.den.length s4]) t
  | 9 => ∃ s1 s2 s3 s4, v = .agg #[.bool t.neg, .slice s1 t.num.length s2, .slice s3 t.den.length s4] ∧ RdR W (.agg #[.bool t.neg, .slice s1 t.num.length s2, .slice s3 t.den.length s4]) t
  | 10 => v = .int .i64 0
  | _ => True
theorem uniA_ext {an gn m : Nat} {s y t : RR} {j : Nat} {v : Value} {W W' : World} (h : uniA an gn m s y t j v W) (x : Ext W W') : uniA an gn m s y t j v W' := by
  match j, h with
  | 0, h => exact h
  | 1, h => exact h
  | 2, h => exact h
  | 3, h => exact h
  | 4, h => exact h
  | 5, ⟨s1, s2, s3, s4, h1, h2⟩ => exact ⟨s1, s2, s3, s4, h1, h2.ext x⟩
  | 6, ⟨s1, s2, s3, s4, h1, h2⟩ => exact ⟨s1, s2, s3, s4, h1, h2.ext x⟩
  | 7, ⟨s1, s2, s3, s4, h1, h2⟩ => exact ⟨s1, s2, s3, s4, h1, h2.ext x⟩
  | 8, ⟨s1, s2, s3, s4, h1, h2⟩ => exact ⟨s1, s2, s3, s4, h1, h2.ext x⟩
  | 9, ⟨s1, s2, s3, s4, h1, h2⟩ => exact ⟨s1, s2, s3, s4, h1, h2.ext x⟩
  | 10, h => exact h
  | _ + 11, _ => trivial
def uniE (an gn m : Nat) (c : Int) (s : RR) (e : Bool) (j : Nat) (v : Value) (W : World) : Prop :=
  match j with
  | 0 => v = .slice (some ⟨an, 0, none⟩) gn gn
  | 1 => v = .int .i64 m
  | 2 => v = .pointer (some ⟨an, m * 3, none⟩)
  | 3 => ∃ s1 s2 s3 s4, v = .agg #[.bool s.neg, .slice s1 s.num.length s2, .slice s3 s.den.length s4] ∧ RdR W (.agg #[.bool s.neg, .slice s1 s.num.length s2, .slice s3 s.den.length s4]) s
  | 4 => v = .int .i64 c
  | 5 => ∃ v', v = v' ∧ RdR W v' (rep (c : Rat))
  | 6 => v = .bool true
  | 7 => v = .bool false
  | _ => True
theorem uniE_ext {an gn m : Nat} {c : Int} {s : RR} {e : Bool} {j : Nat} {v : Value} {W W' : World} (h : uniE an gn m c s e j v W) (x : Ext W W') : uniE an gn m c s e j v W' := by
  match j, h with
  | 0, h => exact h
  | 1, h => exact h
  | 2, h => exact h
  | 3, ⟨s1, s2, s3, s4, h1, h2⟩ => exact ⟨s1, s2, s3, s4, h1, h2.ext x⟩
  | 4, h => exact h
  | 5, ⟨v9, h1, h2⟩ => exact ⟨v9, h1, h2.ext x⟩
  | 6, h => exact h
  | 7, h => exact h
  | _ + 8, _ => trivial
def uniF (s : RR) (j : Nat) (v : Value) (W : World) : Prop :=
  match j with
  | 0 => ∃ s1 s2 s3 s4, v = .agg #[.bool s.neg, .slice s1 s.num.length s2, .slice s3 s.den.length s4] ∧ RdR W (.agg #[.bool s.neg, .slice s1 s.num.length s2, .slice s3 s.den.length s4]) s
  | 1 => ∃ v', v = v' ∧ RdR W v' (rep ((1 : Int) : Rat))
  | 2 => v = .bool true
  | 3 => v = .bool true
  | _ => True
theorem uniF_ext {s : RR} {j : Nat} {v : Value} {W W' : World} (h : uniF s j v W) (x : Ext W W') : uniF s j v W' := by
  match j, h with
  | 0, ⟨s1, s2, s3, s4, h1, h2⟩ => exact ⟨s1, s2, s3, s4, h1, h2.ext x⟩
  | 1, ⟨v9, h1, h2⟩ => exact ⟨v9, h1, h2.ext x⟩
  | 2, h => exact h
  | 3, h => exact h
  | _ + 4, _ => trivial
/-- 'make([]T, n)', its cells by name. -/
theorem wpList_make_y {w : World} {ops : Array Oper} {rest : List Oper} {o : Oper} {a : Act} {Q : Exit → Act → World → Prop} {t e : TypeId} {z : Value} {k bytes : Nat}
    (hg : o.guard = none) (l c : Operand) (hop : o.op = Op.makeSlice t l c) (n : Nat) (hl : a.eval l = .int .i64 (n : Int)) (hc : a.eval c = .int .i64 (n : Int)) (ht : Try.prog.underlying t = some (.slice e)) (hinfo : (Try.prog.info? e).map (fun i => (i.zero, i.size, i.bytes)) = some (some z, k, bytes)) (hn : bytes * n ≤ 1000000000000) (hn2 : n ≤ 1000000000)
    (C : Array Value) (hC : madeCells z.cells (n * k) = C) (hK : wpList Try.prog ops Q rest (a.put o.dst (.slice (some ⟨w.heap.size, 0, none⟩) n n)) (w.alloc (.cells C e))) : wpList Try.prog ops Q (o :: rest) a w := by
  have hr := make_run w n ht hinfo hn hn2
  rw [hC] at hr
  refine wpList_plain hg fun K hK' => ?_
  unfold Oper.wp
  simp only [execOp, hop, hl, hc]
  simp [hr, Result.andThen]
  exact hK' _ _ hK

set_option maxRecDepth 100000 in
set_option maxHeartbeats 8000000 in
theorem unityL_any (gv xv : Value) (g : List (List Int)) (x : List Int) (w : World) (h : RdG w gv g) (hx : RdI .i64 w xv x) (hxb : ∀ i, i < x.length → -9223372036854775808 ≤ x.getD i 0 ∧ x.getD i 0 ≤ 9223372036854775807) :
    Calls Try.prog 3 #[gv, xv] w fun e w' => e = .returned (.bool true) ∧ Ext w w' := by
  have HG := Lib.hid h; have HXI := Lib.hid hx; have HXB := Lib.hid hxb; have X := Lib.hid (Ext.refl w)
  obtain ⟨a, cap, rfl, hgl⟩ := h.shape
  obtain ⟨ax, cx, rfl, hxc, hxm, _⟩ := hx.get
  have hxl : x.length ≤ 9223372036854775807 := by omega
  clear h hx hxb hxc hxm
  go_enter Try.func3, Try.ntmps3
  go_wp2_with fail
  refine (long7_any _ g _ HG.out).mono ?_
  rintro e w1 ⟨⟨r, rfl, hr⟩, hx⟩
  have HG := Lib.hid (HG.out.ext hx); have HXI := Lib.hid (HXI.out.ext hx); have X := Lib.hid (X.out.trans hx)
  clear hr hx
  cases r
  rotate_left
  · go_wp2_with fail
    refine (awake7_any _).mono ?_
    rintro e w2 ⟨rfl, hx⟩
    have HG := Lib.hid (HG.out.ext hx); have HXI := Lib.hid (HXI.out.ext hx); have X := Lib.hid (X.out.trans hx)
    clear hx
    go_wp2_with fail
    go_ret
    exact ⟨rfl, X.out⟩
  by_cases h3 : 20 < x.length
  · have q1 : (20 : Int) < (x.length : Int) := by omega
    go_wp2_with fail
    refine (awake7_any _).mono ?_
    rintro e w2 ⟨rfl, hx⟩
    have HG := Lib.hid (HG.out.ext hx); have HXI := Lib.hid (HXI.out.ext hx); have X := Lib.hid (X.out.trans hx)
    clear hx
    go_wp2_with fail
    go_ret
    exact ⟨rfl, X.out⟩
  have q1 : ¬ (20 : Int) < (x.length : Int) := by omega
  go_wp2_with fail
  refine (awake7_any _).mono ?_
  rintro e w2 ⟨rfl, hx⟩
  have HG := Lib.hid (HG.out.ext hx); have HXI := Lib.hid (HXI.out.ext hx); have X := Lib.hid (X.out.trans hx)
  clear hx
  go_wp2_with fail
  clear h3 q1
  have hwc := fun W (h : RdG W (.slice a g.length cap) g) (k : RdI .i64 W (.slice ax x.length cx) x) => weights7_any _ _ g x W h k HXB.out
  have HWC := Lib.hid hwc
  clear hwc
  by_cases hp : (weightsS g x).2 = 0
  rotate_left
  · have hnil := weightsS_bad hp
    obtain ⟨c, hc⟩ : ∃ c, c = weightsS g x := ⟨_, rfl⟩
    rw [← hc] at HWC hp hnil
    obtain ⟨pl, pe⟩ := c
    dsimp only at HWC hp hnil
    injection hnil with hn1 hn2
    subst hn1
    have q2 : (pe != 0) = true := bne_iff_ne.2 hp
    clear hp hc hn2
    go_wp2_with fail
    refine (HWC.out _ HG.out HXI.out).mono ?_
    rintro e w3 ⟨⟨v, B, rfl, hB, hown⟩, hx⟩
    have HG := Lib.hid (HG.out.ext hx); have HXI := Lib.hid (HXI.out.ext hx); have X := Lib.hid (X.out.trans hx)
    obtain ⟨pa, pc, rfl⟩ := hown.rdWs.shape
    clear hown hB hx
    go_wp2_with fail
    go_ret
    exact ⟨rfl, X.out⟩
  have hw := wts_of hp
  obtain ⟨L, hL⟩ : ∃ L, L = wtsL g (xsOf g x) g.length := ⟨_, rfl⟩
  rw [← hL] at hw
  have WT := Lib.hid hw
  rw [hw.is] at HWC
  (try dsimp only at HWC)
  have hrl : (repL L).length = L.length := by unfold repL; rw [List.length_map]
  have h16 := hw.len
  have hpw := hw.pow
  have h4 := hw.ok.le
  have HXE := Lib.hid hw.xl; have HPW := Lib.hid hpw; have HRL := Lib.hid hrl
  clear hp hw hL hpw hrl
  go_wp2_with fail
  refine (HWC.out _ HG.out HXI.out).mono ?_
  rintro e w3 ⟨⟨v, B, rfl, hB, hown⟩, hx⟩
  have HG := Lib.hid (HG.out.ext hx); have HXI := Lib.hid (HXI.out.ext hx); have X := Lib.hid (X.out.trans hx)
  have WL := Lib.hid hown.rdWs
  obtain ⟨la, lc, rfl⟩ := hown.rdWs.shape
  clear hown hB hx
  rw [HRL.out] at WL ⊢
  have hm1 := WT.out.ok.pos
  obtain ⟨p2, hp2⟩ : ∃ p : Nat, p = 2 ^ g.length := ⟨_, rfl⟩
  have hsh : wrap64 (2 ^ g.length) = ((p2 : Nat) : Int) := by
    rw [hp2]
    have : g.length = 1 ∨ g.length = 2 ∨ g.length = 3 ∨ g.length = 4 := by omega
    rcases this with e | e | e | e <;> rw [e] <;> (unfold wrap64; decide)
  have hwu : IntKind.u64.wrap (g.length : Int) = (g.length : Int) := by
    have : g.length = 1 ∨ g.length = 2 ∨ g.length = 3 ∨ g.length = 4 := by omega
    rcases this with e | e | e | e <;> rw [e] <;> decide
  have hp3 := HPW.out
  rw [← hp2] at hp3
  rw [HXE.out]
  have q1 : ((L.length : Int) ≤ (p2 : Int)) := by omega
  have q2 : ((g.length : Int) != (g.length : Int)) = false := by simp
  clear hm1 h16 hp2 hp3
  go_wp2_with (with_reducible refine wpList_make_y rfl _ _ rfl g.length rfl rfl Try.underlying36 Try.infoR (by omega) (by omega) _ rfl ?_)
  have bb0 := (Blk.new w3 #[.bool false, .slice none 0 0, .slice none 0 0] 35).alloc (.cells (madeCells #[.bool false, .slice none 0 0, .slice none 0 0] (g.length * 3)) 35)
  have bb1 := Blk.new (w3.alloc (.cells #[.bool false, .slice none 0 0, .slice none 0 0] 35)) (madeCells #[.bool false, .slice none 0 0, .slice none 0 0] (g.length * 3)) 35
  rw [World.size_alloc] at bb1
  have hx : Ext w3 ((w3.alloc (.cells #[.bool false, .slice none 0 0, .slice none 0 0] 35)).alloc (.cells (madeCells #[.bool false, .slice none 0 0, .slice none 0 0] (g.length * 3)) 35)) := ((Ext.refl _).alloc _).alloc _
  obtain ⟨wl, hwl⟩ : ∃ W, W = ((w3.alloc (.cells #[.bool false, .slice none 0 0, .slice none 0 0] 35)).alloc (.cells (madeCells #[.bool false, .slice none 0 0, .slice none 0 0] (g.length * 3)) 35)) := ⟨_, rfl⟩
  rw [← hwl] at bb0 bb1 hx ⊢
  obtain ⟨an, han⟩ : ∃ n, n = w3.heap.size + 1 := ⟨_, rfl⟩
  rw [← han] at bb1 ⊢
  obtain ⟨sn, hsn⟩ : ∃ n, n = w3.heap.size := ⟨_, rfl⟩
  rw [← hsn] at bb0 ⊢
  have HN : Hid (w3.heap.size ≤ sn ∧ w3.heap.size ≤ an ∧ sn ≠ an) := Lib.hid ⟨by omega, by omega, by omega⟩
  have hsb0 : SumB wl sn 35 (sumK L 0) := show SumB wl sn 35 zR from ⟨none, 0, none, 0, bb0, (NewR.zero wl wl).rd⟩
  have hrw0 : RwR wl an g.length 35 (atK g L 0) := (RwR.new bb1).congr fun _ _ => rfl
  have X0 := X
  have HSB0 := Lib.hid hsb0; have HRW0 := Lib.hid hrw0; have HX0 := Lib.hid hx
  clear hwl han hsn bb0 bb1 hsb0 hrw0 hx X hsh hwu q1 q2
  go_loopw [9] (fun i wr => ∃ k : Nat, k ≤ L.length ∧ i = .int .i64 k ∧ Ext w3 wr ∧ SumB wr sn 35 (sumK L k) ∧ RwR wr an g.length 35 (atK g L k)) (fun i _ => L.length - (intOf i).toNat)
  case atStart => exact ⟨0, Nat.zero_le _, rfl, HX0.out, HSB0.out, HRW0.out⟩
  case round =>
    clear HX0 HSB0 HRW0
    obtain ⟨wk, hwk⟩ : ∃ W, W = wr := ⟨_, rfl⟩
    subst hwk
    obtain ⟨k, hk, rfl, hext, hsb, hrw⟩ := hrel
    have X := Lib.hid hext; have SB := Lib.hid hsb; have RW := Lib.hid hrw
    clear hext hsb hrw
    by_cases hlt : k < L.length
    · have hl16 := WT.out.len
      obtain ⟨y, hy⟩ : ∃ y, L[k]? = some y := ⟨L[k], List.getElem?_eq_getElem hlt⟩
      have hyr : (repL L)[k]? = some (y.1, rep y.2) := by unfold repL; rw [List.getElem?_map, hy]; rfl
      have hym : y ∈ L := List.mem_of_getElem? hy
      obtain ⟨-, hw8⟩ := RdWs.at7 WL.out
      rcases hw8 with ⟨b, off, rfl, hb, hat⟩ | hnil
      rotate_left
      · exfalso
        have h9 : (repL L).length = 0 := by rw [hnil]; rfl
        rw [HRL.out] at h9
        omega
      obtain ⟨a1, c1, a2, c2, x0, x1, x2, x3, hr⟩ := hat k _ hyr
      dsimp only at x0 x1 x2 x3 hr
      have HAT := Lib.hid hat
      obtain ⟨k1, z, hkz⟩ : ∃ k1 z : Nat, (decide ((0 : Int) < (k : Int)) = true → (k : Int) - 1 = (k1 : Int) ∧ (0 : Int) ≤ (k1 : Int) ∧ (k1 : Int) < (L.length : Int) ∧ w3.cell? ⟨b, off + k1 * 4, none⟩ = some (.int .i64 (z : Nat)) ∧ ¬ (y.1 : Int) ≤ (z : Int)) := by
        by_cases h0 : 0 < k
        · obtain ⟨zz, hzz⟩ : ∃ zz, L[k - 1]? = some zz := ⟨L[k - 1], List.getElem?_eq_getElem (by omega)⟩
          obtain ⟨_, _, _, _, z0, _⟩ := HAT.out (k - 1) _ (show (repL L)[k - 1]? = some (zz.1, rep zz.2) from by unfold repL; rw [List.getElem?_map, hzz]; rfl)
          have hasc := WT.out.asc hzz hy (by omega)
          exact ⟨k - 1, zz.1, fun _ => ⟨by omega, by omega, by omega, z0, by omega⟩⟩
        · exact ⟨0, 0, fun h => absurd (of_decide_eq_true h) (by omega)⟩
      have h0 := (weightsS_0 (by rw [WT.out.is])).1
      have hyl := WT.out.lt hym
      have hpe := pointS_ok h0 (show 0 ≤ (y.1 : Int) ∧ (y.1 : Int) < (gsize g : Int) from ⟨by omega, by omega⟩)
      rw [Int.toNat_natCast] at hpe
      have hcq := WT.out.cmp hym
      have has := WT.out.addS hy
      have HAA := Lib.hid (fun m (h : m < g.length) => WT.out.addA h hy)
      have HMM := Lib.hid (fun m (h : m < g.length) => WT.out.mulA h hym)
      have HLY : Hid (LimR (rep y.2)) := Lib.hid (limR_rep _)
      have HBD := Lib.hid (fun m (h : m < g.length) => cut_bd WT.out.ok (v := y.1) h)
      have HPR := Lib.hid (fun m => prK_lim g y m)
      obtain ⟨pf, hpf⟩ : ∃ p, p = prK g y := ⟨_, rfl⟩
      rw [← hpf] at HAA HMM HPR
      clear hpf
      obtain ⟨yv, yq⟩ := y
      dsimp only at *
      obtain ⟨ry, hry⟩ : ∃ r, r = rep yq := ⟨_, rfl⟩
      rw [← hry] at x1 x2 x3 hr hcq has HMM HLY
      have hcm := fun W v1 v2 (e1 : RdR W v1 ry) (e2 : RdR W v2 zR) => cmpR_any v1 v2 ry zR W e1 e2 HLY.out zR_lim
      rw [hcq] at hcm
      have hpc := fun W (h : RdG W (.slice a g.length cap) g) => point7_any _ g (yv : Int) W h
      rw [hpe] at hpc
      have hsc := fun W v1 v2 (e1 : RdR W v1 (sumK L k)) (e2 : RdR W v2 ry) => addR_any v1 v2 (sumK L k) ry W e1 e2 (sumK_lim L k) HLY.out
      rw [has] at hsc
      (try dsimp only at hcm hpc hsc)
      have HCM := Lib.hid hcm; have HPC := Lib.hid hpc; have HSC := Lib.hid hsc; have HKZ := Lib.hid hkz
      have CY : Hid (b < w3.heap.size ∧ w3.cell? ⟨b, off + k * 4, none⟩ = some (.int .i64 (yv : Nat)) ∧ w3.cell? ⟨b, off + k * 4 + 1, none⟩ = some (.bool ry.neg) ∧ w3.cell? ⟨b, off + k * 4 + 2, none⟩ = some (.slice a1 ry.num.length c1) ∧ w3.cell? ⟨b, off + k * 4 + 3, none⟩ = some (.slice a2 ry.den.length c2)) := Lib.hid ⟨hb, x0, x1, x2, x3⟩
      have RY := Lib.hid hr
      clear hy hyr hym hat x0 x1 x2 x3 hr hkz h0 hyl hpe hcq has hry yq hcm hpc hsc hb
      have q1 : (k : Int) < (L.length : Int) := by omega
      have q2 : (0 : Int) ≤ (k : Int) := by omega
      have m0 := (X.out.cell (p := ⟨b, off + k * 4, none⟩) CY.out.1).trans CY.out.2.1
      have m1 := (X.out.cell (p := ⟨b, off + k * 4 + 1, none⟩) CY.out.1).trans CY.out.2.2.1
      have m2 := (X.out.cell (p := ⟨b, off + k * 4 + 2, none⟩) CY.out.1).trans CY.out.2.2.2.1
      have m3 := (X.out.cell (p := ⟨b, off + k * 4 + 3, none⟩) CY.out.1).trans CY.out.2.2.2.2
      have ml := Nat.lt_of_lt_of_le CY.out.1 X.out.size
      go_wp2_with fail
      refine (HCM.out _ _ _ (RY.out.ext X.out) (NewR.zero wk wk).rd).mono ?_
      rintro e w21 ⟨rfl, hx⟩
      have SB := Lib.hid (SB.out.ext hx); have RW := Lib.hid (RW.out.ext hx); have X := Lib.hid (X.out.trans hx)
      clear hx m0 m1 m2 m3 ml
      have m0 := (X.out.cell (p := ⟨b, off + k * 4, none⟩) CY.out.1).trans CY.out.2.1
      have m1 := (X.out.cell (p := ⟨b, off + k * 4 + 1, none⟩) CY.out.1).trans CY.out.2.2.1
      have m2 := (X.out.cell (p := ⟨b, off + k * 4 + 2, none⟩) CY.out.1).trans CY.out.2.2.2.1
      have m3 := (X.out.cell (p := ⟨b, off + k * 4 + 3, none⟩) CY.out.1).trans CY.out.2.2.2.2
      have ml := Nat.lt_of_lt_of_le CY.out.1 X.out.size
      go_wp2_with fail
      refine (HPC.out _ (HG.out.ext X.out)).mono ?_
      rintro e w22 ⟨⟨v, rfl, nn⟩, hx⟩
      have SB := Lib.hid (SB.out.ext hx); have RW := Lib.hid (RW.out.ext hx); have X := Lib.hid (X.out.trans hx)
      obtain ⟨qa, rfl⟩ := nn.shape
      have PT := Lib.hid nn.rd
      clear nn hx m0 m1 m2 m3 ml
      rw [ptK_len] at PT ⊢
      go_wp2_with fail
      obtain ⟨pz, hpz⟩ : ∃ p, decide ((0 : Int) < (k : Int)) = p := ⟨_, rfl⟩
      have hpz2 : decide (0 < k) = pz := by rw [← hpz]; simp
      rw [hpz] at HKZ
      have q3 : ((g.length : Int) != (g.length : Int)) = false := by simp
      refine wp_region_each (uniJ a (some ⟨b, off, none⟩) qa cap lc g.length L.length k k1 yv z b off pz) (by kernel_rfl) (by kernel_rfl) (by kernel_rfl) (fun _ _ _ _ h x => uniJ_ext h x) ?_ ?_
      · refine ⟨?_, ?_, ?_, ?_, ?_, ?_, ?_, ?_, ?_, ?_, ?_, ?_, ?_, ?_, ?_, ?_, ?_, ?_, ?_, ?_, ?_, ?_, ?_, ?_, ?_, ?_, ?_, ?_, ?_, ?_, ?_, ?_, ?_, ?_, ?_, trivial⟩
        · intro a W hW hB hD K hK
          have b11 := hB 11 rfl
          simp only [Array.getD_eq_getD_getElem?, List.getElem?_toArray, List.getElem?_cons_succ, List.getElem?_cons_zero, Option.getD_some] at b11
          go_simp
          exact hK _ _ (Ext.refl _) rfl
        · intro a W hW hB hD K hK
          obtain ⟨v86, e86⟩ : ∃ x, a.tmps.getD 86 undef = x := ⟨_, rfl⟩
          have h86 := hD 0 _ 86 rfl rfl (by kernel_rfl)
          rw [e86] at h86
          simp only [Array.getD_eq_getD_getElem?] at e86
          obtain rfl := h86
          go_simp
          exact hK _ _ (Ext.refl _) rfl
        · intro a W hW hB hD K hK
          obtain ⟨v87, e87⟩ : ∃ x, a.tmps.getD 87 undef = x := ⟨_, rfl⟩
          have h87 := hD 1 _ 87 rfl rfl (by kernel_rfl)
          rw [e87] at h87
          simp only [Array.getD_eq_getD_getElem?] at e87
          obtain rfl := h87
          go_simp
          exact hK _ _ (Ext.refl _) rfl
        · intro a W hW hB hD K hK
          have b10 := hB 10 rfl
          simp only [Array.getD_eq_getD_getElem?, List.getElem?_toArray, List.getElem?_cons_succ, List.getElem?_cons_zero, Option.getD_some] at b10
          obtain ⟨v88, e88⟩ : ∃ x, a.tmps.getD 88 undef = x := ⟨_, rfl⟩
          have h88 := hD 2 _ 88 rfl rfl (by kernel_rfl)
          rw [e88] at h88
          simp only [Array.getD_eq_getD_getElem?] at e88
          obtain rfl := h88
          have z9 := getD_bool7 e88
          go_simp
          exact hK _ _ (Ext.refl _) rfl
        · intro a W hW hB hD K hK
          obtain ⟨v89, e89⟩ : ∃ x, a.tmps.getD 89 undef = x := ⟨_, rfl⟩
          have h89 := hD 3 _ 89 rfl rfl (by kernel_rfl)
          rw [e89] at h89
          simp only [Array.getD_eq_getD_getElem?] at e89
          obtain rfl := h89
          obtain ⟨v88, e88⟩ : ∃ x, a.tmps.getD 88 undef = x := ⟨_, rfl⟩
          have h88 := hD 2 _ 88 rfl rfl (by kernel_rfl)
          rw [e88] at h88
          simp only [Array.getD_eq_getD_getElem?] at e88
          obtain rfl := h88
          have z9 := getD_bool7 e88
          go_simp
          exact hK _ _ (Ext.refl _) rfl
        · intro a W hW hB hD K hK
          obtain ⟨v88, e88⟩ : ∃ x, a.tmps.getD 88 undef = x := ⟨_, rfl⟩
          have h88 := hD 2 _ 88 rfl rfl (by kernel_rfl)
          rw [e88] at h88
          simp only [Array.getD_eq_getD_getElem?] at e88
          obtain rfl := h88
          obtain ⟨v90, e90⟩ : ∃ x, a.tmps.getD 90 undef = x := ⟨_, rfl⟩
          have h90 := hD 4 _ 90 rfl rfl (by kernel_rfl)
          rw [e90] at h90
          simp only [Array.getD_eq_getD_getElem?] at e90
          obtain rfl := h90
          go_simp
          exact hK _ _ (Ext.refl _) rfl
        · intro a W hW hB hD K hK
          obtain ⟨v91, e91⟩ : ∃ x, a.tmps.getD 91 undef = x := ⟨_, rfl⟩
          have h91 := hD 5 _ 91 rfl rfl (by kernel_rfl)
          rw [e91] at h91
          simp only [Array.getD_eq_getD_getElem?] at e91
          obtain rfl := h91
          go_simp
          exact hK _ _ (Ext.refl _) rfl
        · intro a W hW hB hD K hK
          have b13 := hB 13 rfl
          simp only [Array.getD_eq_getD_getElem?, List.getElem?_toArray, List.getElem?_cons_succ, List.getElem?_cons_zero, Option.getD_some] at b13
          obtain ⟨v92, e92⟩ : ∃ x, a.tmps.getD 92 undef = x := ⟨_, rfl⟩
          have h92 := hD 6 _ 92 rfl rfl (by kernel_rfl)
          rw [e92] at h92
          simp only [Array.getD_eq_getD_getElem?] at e92
          obtain rfl := h92
          have z9 := getD_bool7 e92
          go_simp
          exact hK _ _ (Ext.refl _) rfl
        · intro a W hW hB hD K hK
          obtain ⟨v93, e93⟩ : ∃ x, a.tmps.getD 93 undef = x := ⟨_, rfl⟩
          have h93 := hD 7 _ 93 rfl rfl (by kernel_rfl)
          rw [e93] at h93
          simp only [Array.getD_eq_getD_getElem?] at e93
          obtain rfl := h93
          obtain ⟨v92, e92⟩ : ∃ x, a.tmps.getD 92 undef = x := ⟨_, rfl⟩
          have h92 := hD 6 _ 92 rfl rfl (by kernel_rfl)
          rw [e92] at h92
          simp only [Array.getD_eq_getD_getElem?] at e92
          obtain rfl := h92
          have z9 := getD_bool7 e92
          go_simp
          exact hK _ _ (Ext.refl _) rfl
        · intro a W hW hB hD K hK
          obtain ⟨v92, e92⟩ : ∃ x, a.tmps.getD 92 undef = x := ⟨_, rfl⟩
          have h92 := hD 6 _ 92 rfl rfl (by kernel_rfl)
          rw [e92] at h92
          simp only [Array.getD_eq_getD_getElem?] at e92
          obtain rfl := h92
          obtain ⟨v94, e94⟩ : ∃ x, a.tmps.getD 94 undef = x := ⟨_, rfl⟩
          have h94 := hD 8 _ 94 rfl rfl (by kernel_rfl)
          rw [e94] at h94
          simp only [Array.getD_eq_getD_getElem?] at e94
          obtain rfl := h94
          go_simp
          exact hK _ _ (Ext.refl _) rfl
        · intro a W hW hB hD K hK
          obtain ⟨v95, e95⟩ : ∃ x, a.tmps.getD 95 undef = x := ⟨_, rfl⟩
          have h95 := hD 9 _ 95 rfl rfl (by kernel_rfl)
          rw [e95] at h95
          simp only [Array.getD_eq_getD_getElem?] at e95
          obtain rfl := h95
          go_simp
          exact hK _ _ (Ext.refl _) rfl
        · intro a W hW hB hD K hK
          have b12 := hB 12 rfl
          simp only [Array.getD_eq_getD_getElem?, List.getElem?_toArray, List.getElem?_cons_succ, List.getElem?_cons_zero, Option.getD_some] at b12
          obtain ⟨v96, e96⟩ : ∃ x, a.tmps.getD 96 undef = x := ⟨_, rfl⟩
          have h96 := hD 10 _ 96 rfl rfl (by kernel_rfl)
          rw [e96] at h96
          simp only [Array.getD_eq_getD_getElem?] at e96
          obtain rfl := h96
          have z9 := getD_bool7 e96
          go_simp
          exact hK _ _ (Ext.refl _) rfl
        · intro a W hW hB hD K hK
          obtain ⟨v97, e97⟩ : ∃ x, a.tmps.getD 97 undef = x := ⟨_, rfl⟩
          have h97 := hD 11 _ 97 rfl rfl (by kernel_rfl)
          rw [e97] at h97
          simp only [Array.getD_eq_getD_getElem?] at e97
          obtain rfl := h97
          obtain ⟨v96, e96⟩ : ∃ x, a.tmps.getD 96 undef = x := ⟨_, rfl⟩
          have h96 := hD 10 _ 96 rfl rfl (by kernel_rfl)
          rw [e96] at h96
          simp only [Array.getD_eq_getD_getElem?] at e96
          obtain rfl := h96
          have z9 := getD_bool7 e96
          go_simp
          exact hK _ _ (Ext.refl _) rfl
        · intro a W hW hB hD K hK
          have b0 := hB 0 rfl
          simp only [Array.getD_eq_getD_getElem?, List.getElem?_toArray, List.getElem?_cons_succ, List.getElem?_cons_zero, Option.getD_some] at b0
          obtain ⟨v96, e96⟩ : ∃ x, a.tmps.getD 96 undef = x := ⟨_, rfl⟩
          have h96 := hD 10 _ 96 rfl rfl (by kernel_rfl)
          rw [e96] at h96
          simp only [Array.getD_eq_getD_getElem?] at e96
          obtain rfl := h96
          have z9 := getD_bool7 e96
          go_simp
          exact hK _ _ (Ext.refl _) rfl
        · intro a W hW hB hD K hK
          obtain ⟨v99, e99⟩ : ∃ x, a.tmps.getD 99 undef = x := ⟨_, rfl⟩
          have h99 := hD 13 _ 99 rfl rfl (by kernel_rfl)
          rw [e99] at h99
          simp only [Array.getD_eq_getD_getElem?] at e99
          obtain rfl := h99
          obtain ⟨v96, e96⟩ : ∃ x, a.tmps.getD 96 undef = x := ⟨_, rfl⟩
          have h96 := hD 10 _ 96 rfl rfl (by kernel_rfl)
          rw [e96] at h96
          simp only [Array.getD_eq_getD_getElem?] at e96
          obtain rfl := h96
          have z9 := getD_bool7 e96
          go_simp
          exact hK _ _ (Ext.refl _) rfl
        · intro a W hW hB hD K hK
          obtain ⟨v98, e98⟩ : ∃ x, a.tmps.getD 98 undef = x := ⟨_, rfl⟩
          have h98 := hD 12 _ 98 rfl rfl (by kernel_rfl)
          rw [e98] at h98
          simp only [Array.getD_eq_getD_getElem?] at e98
          obtain rfl := h98
          obtain ⟨v100, e100⟩ : ∃ x, a.tmps.getD 100 undef = x := ⟨_, rfl⟩
          have h100 := hD 14 _ 100 rfl rfl (by kernel_rfl)
          rw [e100] at h100
          simp only [Array.getD_eq_getD_getElem?] at e100
          obtain rfl := h100
          obtain ⟨v96, e96⟩ : ∃ x, a.tmps.getD 96 undef = x := ⟨_, rfl⟩
          have h96 := hD 10 _ 96 rfl rfl (by kernel_rfl)
          rw [e96] at h96
          simp only [Array.getD_eq_getD_getElem?] at e96
          obtain rfl := h96
          have z9 := getD_bool7 e96
          go_simp
          exact hK _ _ (Ext.refl _) rfl
        · intro a W hW hB hD K hK
          obtain ⟨v96, e96⟩ : ∃ x, a.tmps.getD 96 undef = x := ⟨_, rfl⟩
          have h96 := hD 10 _ 96 rfl rfl (by kernel_rfl)
          rw [e96] at h96
          simp only [Array.getD_eq_getD_getElem?] at e96
          obtain rfl := h96
          obtain ⟨v101, e101⟩ : ∃ x, a.tmps.getD 101 undef = x := ⟨_, rfl⟩
          have h101 := hD 15 _ 101 rfl rfl (by kernel_rfl)
          rw [e101] at h101
          simp only [Array.getD_eq_getD_getElem?] at e101
          obtain rfl := h101
          go_simp
          exact hK _ _ (Ext.refl _) rfl
        · intro a W hW hB hD K hK
          obtain ⟨v102, e102⟩ : ∃ x, a.tmps.getD 102 undef = x := ⟨_, rfl⟩
          have h102 := hD 16 _ 102 rfl rfl (by kernel_rfl)
          rw [e102] at h102
          simp only [Array.getD_eq_getD_getElem?] at e102
          obtain rfl := h102
          go_simp
          exact hK _ _ (Ext.refl _) rfl
        · intro a W hW hB hD K hK
          have b9 := hB 9 rfl
          simp only [Array.getD_eq_getD_getElem?, List.getElem?_toArray, List.getElem?_cons_succ, List.getElem?_cons_zero, Option.getD_some] at b9
          obtain ⟨v103, e103⟩ : ∃ x, a.tmps.getD 103 undef = x := ⟨_, rfl⟩
          have h103 := hD 17 _ 103 rfl rfl (by kernel_rfl)
          rw [e103] at h103
          simp only [Array.getD_eq_getD_getElem?] at e103
          obtain rfl := h103
          have z9 := getD_bool7 e103
          go_simp
          exact hK _ _ (Ext.refl _) rfl
        · intro a W hW hB hD K hK
          obtain ⟨v104, e104⟩ : ∃ x, a.tmps.getD 104 undef = x := ⟨_, rfl⟩
          have h104 := hD 18 _ 104 rfl rfl (by kernel_rfl)
          rw [e104] at h104
          simp only [Array.getD_eq_getD_getElem?] at e104
          obtain rfl := h104
          obtain ⟨v103, e103⟩ : ∃ x, a.tmps.getD 103 undef = x := ⟨_, rfl⟩
          have h103 := hD 17 _ 103 rfl rfl (by kernel_rfl)
          rw [e103] at h103
          simp only [Array.getD_eq_getD_getElem?] at e103
          obtain rfl := h103
          have z9 := getD_bool7 e103
          go_simp
          exact hK _ _ (Ext.refl _) rfl
        · intro a W hW hB hD K hK
          obtain ⟨v105, e105⟩ : ∃ x, a.tmps.getD 105 undef = x := ⟨_, rfl⟩
          have h105 := hD 19 _ 105 rfl rfl (by kernel_rfl)
          rw [e105] at h105
          simp only [Array.getD_eq_getD_getElem?] at e105
          obtain rfl := h105
          obtain ⟨v103, e103⟩ : ∃ x, a.tmps.getD 103 undef = x := ⟨_, rfl⟩
          have h103 := hD 17 _ 103 rfl rfl (by kernel_rfl)
          rw [e103] at h103
          simp only [Array.getD_eq_getD_getElem?] at e103
          obtain rfl := h103
          have z9 := getD_bool7 e103
          go_simp
          exact hK _ _ (Ext.refl _) rfl
        · intro a W hW hB hD K hK
          have b5 := hB 5 rfl
          simp only [Array.getD_eq_getD_getElem?, List.getElem?_toArray, List.getElem?_cons_succ, List.getElem?_cons_zero, Option.getD_some] at b5
          obtain ⟨v106, e106⟩ : ∃ x, a.tmps.getD 106 undef = x := ⟨_, rfl⟩
          have h106 := hD 20 _ 106 rfl rfl (by kernel_rfl)
          rw [e106] at h106
          simp only [Array.getD_eq_getD_getElem?] at e106
          obtain rfl := h106
          have z9 := getD_bool7 e106
          by_cases hz : pz = true
          rotate_left
          · rw [Bool.not_eq_true] at hz
            rw [hz] at z9
            (go_simp; exact hK _ _ (Ext.refl _) (fun h => by rw [hz] at h; cases h))
          rw [hz] at z9
          go_simp
          exact hK _ _ (Ext.refl _) (fun _ => rfl)
        · intro a W hW hB hD K hK
          have b9 := hB 9 rfl
          simp only [Array.getD_eq_getD_getElem?, List.getElem?_toArray, List.getElem?_cons_succ, List.getElem?_cons_zero, Option.getD_some] at b9
          obtain ⟨v106, e106⟩ : ∃ x, a.tmps.getD 106 undef = x := ⟨_, rfl⟩
          have h106 := hD 20 _ 106 rfl rfl (by kernel_rfl)
          rw [e106] at h106
          simp only [Array.getD_eq_getD_getElem?] at e106
          obtain rfl := h106
          have z9 := getD_bool7 e106
          by_cases hz : pz = true
          rotate_left
          · rw [Bool.not_eq_true] at hz
            rw [hz] at z9
            (go_simp; exact hK _ _ (Ext.refl _) (fun h => by rw [hz] at h; cases h))
          rw [hz] at z9
          go_simp
          exact hK _ _ (Ext.refl _) (fun _ => rfl)
        · intro a W hW hB hD K hK
          obtain ⟨v107, e107⟩ : ∃ x, a.tmps.getD 107 undef = x := ⟨_, rfl⟩
          have h107 := hD 21 _ 107 rfl rfl (by kernel_rfl)
          rw [e107] at h107
          simp only [Array.getD_eq_getD_getElem?] at e107
          obtain ⟨v108, e108⟩ : ∃ x, a.tmps.getD 108 undef = x := ⟨_, rfl⟩
          have h108 := hD 22 _ 108 rfl rfl (by kernel_rfl)
          rw [e108] at h108
          simp only [Array.getD_eq_getD_getElem?] at e108
          obtain ⟨v106, e106⟩ : ∃ x, a.tmps.getD 106 undef = x := ⟨_, rfl⟩
          have h106 := hD 20 _ 106 rfl rfl (by kernel_rfl)
          rw [e106] at h106
          simp only [Array.getD_eq_getD_getElem?] at e106
          obtain rfl := h106
          have z9 := getD_bool7 e106
          by_cases hz : pz = true
          rotate_left
          · rw [Bool.not_eq_true] at hz
            rw [hz] at z9
            (go_simp; exact hK _ _ (Ext.refl _) (fun h => by rw [hz] at h; cases h))
          rw [hz] at z9
          obtain rfl := h107 hz
          obtain rfl := h108 hz
          go_simp
          exact hK _ _ (Ext.refl _) (fun _ => rfl)
        · intro a W hW hB hD K hK
          obtain ⟨v109, e109⟩ : ∃ x, a.tmps.getD 109 undef = x := ⟨_, rfl⟩
          have h109 := hD 23 _ 109 rfl rfl (by kernel_rfl)
          rw [e109] at h109
          simp only [Array.getD_eq_getD_getElem?] at e109
          obtain ⟨v106, e106⟩ : ∃ x, a.tmps.getD 106 undef = x := ⟨_, rfl⟩
          have h106 := hD 20 _ 106 rfl rfl (by kernel_rfl)
          rw [e106] at h106
          simp only [Array.getD_eq_getD_getElem?] at e106
          obtain rfl := h106
          have z9 := getD_bool7 e106
          by_cases hz : pz = true
          rotate_left
          · rw [Bool.not_eq_true] at hz
            rw [hz] at z9
            (go_simp; exact hK _ _ (Ext.refl _) (fun h => by rw [hz] at h; cases h))
          rw [hz] at z9
          obtain rfl := h109 hz
          go_simp
          exact hK _ _ (Ext.refl _) (fun _ => rfl)
        · intro a W hW hB hD K hK
          obtain ⟨v110, e110⟩ : ∃ x, a.tmps.getD 110 undef = x := ⟨_, rfl⟩
          have h110 := hD 24 _ 110 rfl rfl (by kernel_rfl)
          rw [e110] at h110
          simp only [Array.getD_eq_getD_getElem?] at e110
          obtain ⟨v106, e106⟩ : ∃ x, a.tmps.getD 106 undef = x := ⟨_, rfl⟩
          have h106 := hD 20 _ 106 rfl rfl (by kernel_rfl)
          rw [e106] at h106
          simp only [Array.getD_eq_getD_getElem?] at e106
          obtain rfl := h106
          have z9 := getD_bool7 e106
          by_cases hz : pz = true
          rotate_left
          · rw [Bool.not_eq_true] at hz
            rw [hz] at z9
            (go_simp; exact hK _ _ (Ext.refl _) (fun h => by rw [hz] at h; cases h))
          rw [hz] at z9
          obtain rfl := h110 hz
          have m0 := ((X.out.trans hW).cell (p := ⟨b, off + k * 4, none⟩) CY.out.1).trans CY.out.2.1
          have m1 := ((X.out.trans hW).cell (p := ⟨b, off + k * 4 + 1, none⟩) CY.out.1).trans CY.out.2.2.1
          have m2 := ((X.out.trans hW).cell (p := ⟨b, off + k * 4 + 2, none⟩) CY.out.1).trans CY.out.2.2.2.1
          have m3 := ((X.out.trans hW).cell (p := ⟨b, off + k * 4 + 3, none⟩) CY.out.1).trans CY.out.2.2.2.2
          have ml := Nat.lt_of_lt_of_le CY.out.1 (X.out.trans hW).size
          go_simp
          exact hK _ _ (Ext.refl _) (fun _ => rfl)
        · intro a W hW hB hD K hK
          have b5 := hB 5 rfl
          simp only [Array.getD_eq_getD_getElem?, List.getElem?_toArray, List.getElem?_cons_succ, List.getElem?_cons_zero, Option.getD_some] at b5
          obtain ⟨v106, e106⟩ : ∃ x, a.tmps.getD 106 undef = x := ⟨_, rfl⟩
          have h106 := hD 20 _ 106 rfl rfl (by kernel_rfl)
          rw [e106] at h106
          simp only [Array.getD_eq_getD_getElem?] at e106
          obtain rfl := h106
          have z9 := getD_bool7 e106
          by_cases hz : pz = true
          rotate_left
          · rw [Bool.not_eq_true] at hz
            rw [hz] at z9
            (go_simp; exact hK _ _ (Ext.refl _) (fun h => by rw [hz] at h; cases h))
          rw [hz] at z9
          go_simp
          exact hK _ _ (Ext.refl _) (fun _ => rfl)
        · intro a W hW hB hD K hK
          have b9 := hB 9 rfl
          simp only [Array.getD_eq_getD_getElem?, List.getElem?_toArray, List.getElem?_cons_succ, List.getElem?_cons_zero, Option.getD_some] at b9
          obtain ⟨v106, e106⟩ : ∃ x, a.tmps.getD 106 undef = x := ⟨_, rfl⟩
          have h106 := hD 20 _ 106 rfl rfl (by kernel_rfl)
          rw [e106] at h106
          simp only [Array.getD_eq_getD_getElem?] at e106
          obtain rfl := h106
          have z9 := getD_bool7 e106
          by_cases hz : pz = true
          rotate_left
          · rw [Bool.not_eq_true] at hz
            rw [hz] at z9
            (go_simp; exact hK _ _ (Ext.refl _) (fun h => by rw [hz] at h; cases h))
          rw [hz] at z9
          go_simp
          exact hK _ _ (Ext.refl _) (fun _ => rfl)
        · intro a W hW hB hD K hK
          obtain ⟨v113, e113⟩ : ∃ x, a.tmps.getD 113 undef = x := ⟨_, rfl⟩
          have h113 := hD 27 _ 113 rfl rfl (by kernel_rfl)
          rw [e113] at h113
          simp only [Array.getD_eq_getD_getElem?] at e113
          obtain ⟨v106, e106⟩ : ∃ x, a.tmps.getD 106 undef = x := ⟨_, rfl⟩
          have h106 := hD 20 _ 106 rfl rfl (by kernel_rfl)
          rw [e106] at h106
          simp only [Array.getD_eq_getD_getElem?] at e106
          obtain rfl := h106
          have z9 := getD_bool7 e106
          by_cases hz : pz = true
          rotate_left
          · rw [Bool.not_eq_true] at hz
            rw [hz] at z9
            (go_simp; exact hK _ _ (Ext.refl _) (fun h => by rw [hz] at h; cases h))
          rw [hz] at z9
          obtain rfl := h113 hz
          obtain ⟨p1, p2, p3, p4, p5⟩ := HKZ.out hz
          have p6 := wrapL (x := (k1 : Int)) (by omega) (by have := WT.out.len; omega)
          have p7 : ¬ yv ≤ z := by omega
          go_simp
          exact hK _ _ (Ext.refl _) (fun _ => rfl)
        · intro a W hW hB hD K hK
          obtain ⟨v112, e112⟩ : ∃ x, a.tmps.getD 112 undef = x := ⟨_, rfl⟩
          have h112 := hD 26 _ 112 rfl rfl (by kernel_rfl)
          rw [e112] at h112
          simp only [Array.getD_eq_getD_getElem?] at e112
          obtain ⟨v114, e114⟩ : ∃ x, a.tmps.getD 114 undef = x := ⟨_, rfl⟩
          have h114 := hD 28 _ 114 rfl rfl (by kernel_rfl)
          rw [e114] at h114
          simp only [Array.getD_eq_getD_getElem?] at e114
          obtain ⟨v106, e106⟩ : ∃ x, a.tmps.getD 106 undef = x := ⟨_, rfl⟩
          have h106 := hD 20 _ 106 rfl rfl (by kernel_rfl)
          rw [e106] at h106
          simp only [Array.getD_eq_getD_getElem?] at e106
          obtain rfl := h106
          have z9 := getD_bool7 e106
          by_cases hz : pz = true
          rotate_left
          · rw [Bool.not_eq_true] at hz
            rw [hz] at z9
            (go_simp; exact hK _ _ (Ext.refl _) (fun h => by rw [hz] at h; cases h))
          rw [hz] at z9
          obtain rfl := h112 hz
          obtain rfl := h114 hz
          obtain ⟨p1, p2, p3, p4, p5⟩ := HKZ.out hz
          have p6 := wrapL (x := (k1 : Int)) (by omega) (by have := WT.out.len; omega)
          have p7 : ¬ yv ≤ z := by omega
          go_simp
          exact hK _ _ (Ext.refl _) (fun _ => rfl)
        · intro a W hW hB hD K hK
          obtain ⟨v115, e115⟩ : ∃ x, a.tmps.getD 115 undef = x := ⟨_, rfl⟩
          have h115 := hD 29 _ 115 rfl rfl (by kernel_rfl)
          rw [e115] at h115
          simp only [Array.getD_eq_getD_getElem?] at e115
          obtain ⟨v106, e106⟩ : ∃ x, a.tmps.getD 106 undef = x := ⟨_, rfl⟩
          have h106 := hD 20 _ 106 rfl rfl (by kernel_rfl)
          rw [e106] at h106
          simp only [Array.getD_eq_getD_getElem?] at e106
          obtain rfl := h106
          have z9 := getD_bool7 e106
          by_cases hz : pz = true
          rotate_left
          · rw [Bool.not_eq_true] at hz
            rw [hz] at z9
            (go_simp; exact hK _ _ (Ext.refl _) (fun h => by rw [hz] at h; cases h))
          rw [hz] at z9
          obtain rfl := h115 hz
          go_simp
          exact hK _ _ (Ext.refl _) (fun _ => rfl)
        · intro a W hW hB hD K hK
          obtain ⟨v116, e116⟩ : ∃ x, a.tmps.getD 116 undef = x := ⟨_, rfl⟩
          have h116 := hD 30 _ 116 rfl rfl (by kernel_rfl)
          rw [e116] at h116
          simp only [Array.getD_eq_getD_getElem?] at e116
          obtain ⟨v106, e106⟩ : ∃ x, a.tmps.getD 106 undef = x := ⟨_, rfl⟩
          have h106 := hD 20 _ 106 rfl rfl (by kernel_rfl)
          rw [e106] at h106
          simp only [Array.getD_eq_getD_getElem?] at e106
          obtain rfl := h106
          have z9 := getD_bool7 e106
          by_cases hz : pz = true
          rotate_left
          · rw [Bool.not_eq_true] at hz
            rw [hz] at z9
            (go_simp; exact hK _ _ (Ext.refl _) (fun h => by rw [hz] at h; cases h))
          rw [hz] at z9
          obtain rfl := h116 hz
          obtain ⟨p1, p2, p3, p4, p5⟩ := HKZ.out hz
          have p6 := wrapL (x := (k1 : Int)) (by omega) (by have := WT.out.len; omega)
          have p7 : ¬ yv ≤ z := by omega
          have m0 := ((X.out.trans hW).cell (p := ⟨b, off + k1 * 4, none⟩) CY.out.1).trans p4
          have ml := Nat.lt_of_lt_of_le CY.out.1 (X.out.trans hW).size
          go_simp
          exact hK _ _ (Ext.refl _) (fun _ => rfl)
        · intro a W hW hB hD K hK
          obtain ⟨v111, e111⟩ : ∃ x, a.tmps.getD 111 undef = x := ⟨_, rfl⟩
          have h111 := hD 25 _ 111 rfl rfl (by kernel_rfl)
          rw [e111] at h111
          simp only [Array.getD_eq_getD_getElem?] at e111
          obtain ⟨v117, e117⟩ : ∃ x, a.tmps.getD 117 undef = x := ⟨_, rfl⟩
          have h117 := hD 31 _ 117 rfl rfl (by kernel_rfl)
          rw [e117] at h117
          simp only [Array.getD_eq_getD_getElem?] at e117
          obtain ⟨v106, e106⟩ : ∃ x, a.tmps.getD 106 undef = x := ⟨_, rfl⟩
          have h106 := hD 20 _ 106 rfl rfl (by kernel_rfl)
          rw [e106] at h106
          simp only [Array.getD_eq_getD_getElem?] at e106
          obtain rfl := h106
          have z9 := getD_bool7 e106
          by_cases hz : pz = true
          rotate_left
          · rw [Bool.not_eq_true] at hz
            rw [hz] at z9
            (go_simp; exact hK _ _ (Ext.refl _) (fun h => by rw [hz] at h; cases h))
          rw [hz] at z9
          obtain rfl := h111 hz
          obtain rfl := h117 hz
          obtain ⟨p1, p2, p3, p4, p5⟩ := HKZ.out hz
          have p6 := wrapL (x := (k1 : Int)) (by omega) (by have := WT.out.len; omega)
          have p7 : ¬ yv ≤ z := by omega
          go_simp
          exact hK _ _ (Ext.refl _) (fun _ => rfl)
        · intro a W hW hB hD K hK
          obtain ⟨v106, e106⟩ : ∃ x, a.tmps.getD 106 undef = x := ⟨_, rfl⟩
          have h106 := hD 20 _ 106 rfl rfl (by kernel_rfl)
          rw [e106] at h106
          simp only [Array.getD_eq_getD_getElem?] at e106
          obtain rfl := h106
          obtain ⟨v118, e118⟩ : ∃ x, a.tmps.getD 118 undef = x := ⟨_, rfl⟩
          have h118 := hD 32 _ 118 rfl rfl (by kernel_rfl)
          rw [e118] at h118
          simp only [Array.getD_eq_getD_getElem?] at e118
          obtain ⟨v103, e103⟩ : ∃ x, a.tmps.getD 103 undef = x := ⟨_, rfl⟩
          have h103 := hD 17 _ 103 rfl rfl (by kernel_rfl)
          rw [e103] at h103
          simp only [Array.getD_eq_getD_getElem?] at e103
          obtain rfl := h103
          have z9 := getD_bool7 e103
          cases pz
          · go_simp
            exact hK _ _ (Ext.refl _) rfl
          · obtain rfl := h118 rfl
            go_simp
            exact hK _ _ (Ext.refl _) rfl
        · intro a W hW hB hD K hK
          obtain ⟨v103, e103⟩ : ∃ x, a.tmps.getD 103 undef = x := ⟨_, rfl⟩
          have h103 := hD 17 _ 103 rfl rfl (by kernel_rfl)
          rw [e103] at h103
          simp only [Array.getD_eq_getD_getElem?] at e103
          obtain rfl := h103
          obtain ⟨v119, e119⟩ : ∃ x, a.tmps.getD 119 undef = x := ⟨_, rfl⟩
          have h119 := hD 33 _ 119 rfl rfl (by kernel_rfl)
          rw [e119] at h119
          simp only [Array.getD_eq_getD_getElem?] at e119
          obtain rfl := h119
          go_simp
          exact hK _ _ (Ext.refl _) rfl
      intro w9 hx
      simp only [Vals]
      rintro u0 - u1 - u2 - u3 - u4 - u5 - u6 - u7 - u8 - u9 - u10 - u11 - u12 - u13 - u14 - u15 - u16 - u17 - u18 - u19 - u20 - u21 - u22 - u23 - u24 - u25 - u26 - u27 - u28 - u29 - u30 - u31 - u32 - u33 - u34 h34
      obtain rfl : u34 = .bool false := h34
      simp only [Act.put, List.setIfInBounds_toArray, List.set_cons_zero, List.set_cons_succ]
      have SB := Lib.hid (SB.out.ext hx); have RW := Lib.hid (RW.out.ext hx); have PT := Lib.hid (PT.out.ext hx); have X := Lib.hid (X.out.trans hx)
      clear hx hpz hpz2 HKZ HAT q3
      obtain ⟨z1, z2, z3, z4, hz1, hz2⟩ := SB.out
      have SBK := Lib.hid hz1; have SBR := Lib.hid hz2
      clear hz1 hz2
      go_wp2_with fail
      refine wp_region_each_float 10 9 (uniS (some ⟨b, off, none⟩) lc L.length k b off (sumK L k) ry (sumK L (k + 1))) rfl (by kernel_rfl) (by kernel_rfl) (by kernel_rfl) (fun _ _ _ _ h x => uniS_ext h x) (fun _ _ d _ _ h => by cases d <;> exact h) ?_ ?_ ?_
      · refine ⟨?_, ?_, ?_, ?_, ?_, ?_, ?_, ?_, ?_, ?_, trivial⟩
        · intro a W hW hB hD K hK
          have b7 := hB 7 rfl
          simp only [Array.getD_eq_getD_getElem?, List.getElem?_toArray, List.getElem?_cons_succ, List.getElem?_cons_zero, Option.getD_some] at b7
          have q9 := (SBK.out.ext hW).cell; have l9 := (SBK.out.ext hW).lt
          go_simp
          exact hK _ _ (Ext.refl _) ⟨_, _, _, _, rfl, SBR.out.ext hW⟩
        · intro a W hW hB hD K hK
          have b5 := hB 5 rfl
          simp only [Array.getD_eq_getD_getElem?, List.getElem?_toArray, List.getElem?_cons_succ, List.getElem?_cons_zero, Option.getD_some] at b5
          go_simp
          exact hK _ _ (Ext.refl _) rfl
        · intro a W hW hB hD K hK
          have b9 := hB 9 rfl
          simp only [Array.getD_eq_getD_getElem?, List.getElem?_toArray, List.getElem?_cons_succ, List.getElem?_cons_zero, Option.getD_some] at b9
          go_simp
          exact hK _ _ (Ext.refl _) rfl
        · intro a W hW hB hD K hK
          obtain ⟨v123, e123⟩ : ∃ x, a.tmps.getD 123 undef = x := ⟨_, rfl⟩
          have h123 := hD 1 _ 123 rfl rfl (by kernel_rfl)
          rw [e123] at h123
          simp only [Array.getD_eq_getD_getElem?] at e123
          obtain rfl := h123
          obtain ⟨v124, e124⟩ : ∃ x, a.tmps.getD 124 undef = x := ⟨_, rfl⟩
          have h124 := hD 2 _ 124 rfl rfl (by kernel_rfl)
          rw [e124] at h124
          simp only [Array.getD_eq_getD_getElem?] at e124
          obtain rfl := h124
          go_simp
          exact hK _ _ (Ext.refl _) rfl
        · intro a W hW hB hD K hK
          obtain ⟨v125, e125⟩ : ∃ x, a.tmps.getD 125 undef = x := ⟨_, rfl⟩
          have h125 := hD 3 _ 125 rfl rfl (by kernel_rfl)
          rw [e125] at h125
          simp only [Array.getD_eq_getD_getElem?] at e125
          obtain rfl := h125
          go_simp
          exact hK _ _ (Ext.refl _) rfl
        · intro a W hW hB hD K hK
          obtain ⟨v126, e126⟩ : ∃ x, a.tmps.getD 126 undef = x := ⟨_, rfl⟩
          have h126 := hD 4 _ 126 rfl rfl (by kernel_rfl)
          rw [e126] at h126
          simp only [Array.getD_eq_getD_getElem?] at e126
          obtain rfl := h126
          have m0 := ((X.out.trans hW).cell (p := ⟨b, off + k * 4, none⟩) CY.out.1).trans CY.out.2.1
          have m1 := ((X.out.trans hW).cell (p := ⟨b, off + k * 4 + 1, none⟩) CY.out.1).trans CY.out.2.2.1
          have m2 := ((X.out.trans hW).cell (p := ⟨b, off + k * 4 + 2, none⟩) CY.out.1).trans CY.out.2.2.2.1
          have m3 := ((X.out.trans hW).cell (p := ⟨b, off + k * 4 + 3, none⟩) CY.out.1).trans CY.out.2.2.2.2
          have ml := Nat.lt_of_lt_of_le CY.out.1 (X.out.trans hW).size
          go_simp
          exact hK _ _ (Ext.refl _) ⟨_, _, _, _, rfl, RY.out.ext (X.out.trans hW)⟩
        · intro a W hW hB hD K hK
          obtain ⟨v122, e122⟩ : ∃ x, a.tmps.getD 122 undef = x := ⟨_, rfl⟩
          have h122 := hD 0 _ 122 rfl rfl (by kernel_rfl)
          rw [e122] at h122
          simp only [Array.getD_eq_getD_getElem?] at e122
          obtain ⟨d1, d2, d3, d4, rfl, dh⟩ := h122
          obtain ⟨v127, e127⟩ : ∃ x, a.tmps.getD 127 undef = x := ⟨_, rfl⟩
          have h127 := hD 5 _ 127 rfl rfl (by kernel_rfl)
          rw [e127] at h127
          simp only [Array.getD_eq_getD_getElem?] at e127
          obtain ⟨e1, e2, e3, e4, rfl, eh⟩ := h127
          go_simp
          refine (HSC.out _ _ _ dh eh).mono ?_
          rintro e w9 ⟨⟨v, rfl, nn⟩, hx⟩
          obtain ⟨s1, s2, s3, s4, rfl⟩ := nn.shape
          exact hK _ _ hx ⟨_, _, _, _, rfl, nn.rd⟩
        · intro a W hW hB hD K hK
          obtain ⟨v128, e128⟩ : ∃ x, a.tmps.getD 128 undef = x := ⟨_, rfl⟩
          have h128 := hD 6 _ 128 rfl rfl (by kernel_rfl)
          rw [e128] at h128
          simp only [Array.getD_eq_getD_getElem?] at e128
          obtain ⟨d1, d2, d3, d4, rfl, dh⟩ := h128
          go_simp
          exact hK _ _ (Ext.refl _) ⟨_, _, _, _, rfl, dh⟩
        · intro a W hW hB hD K hK
          obtain ⟨v121, e121⟩ : ∃ x, a.tmps.getD 121 undef = x := ⟨_, rfl⟩
          have h121 := hD 7 _ 121 rfl rfl (by kernel_rfl)
          rw [e121] at h121
          simp only [Array.getD_eq_getD_getElem?] at e121
          obtain ⟨d1, d2, d3, d4, rfl, dh⟩ := h121
          go_simp
          exact hK _ _ (Ext.refl _) ⟨_, _, _, _, rfl, dh⟩
        · intro a W hW hB hD K hK
          obtain ⟨v121, e121⟩ : ∃ x, a.tmps.getD 121 undef = x := ⟨_, rfl⟩
          have h121 := hD 7 _ 121 rfl rfl (by kernel_rfl)
          rw [e121] at h121
          simp only [Array.getD_eq_getD_getElem?] at e121
          obtain ⟨d1, d2, d3, d4, rfl, dh⟩ := h121
          go_simp
          exact hK _ _ (Ext.refl _) rfl
      · intro a W hW hB hD
        have h121 := hD 7 _ 121 rfl rfl (by kernel_rfl)
        obtain ⟨v121, e121⟩ : ∃ x, a.tmps.getD 121 undef = x := ⟨_, rfl⟩
        rw [e121] at h121
        obtain ⟨d1, d2, d3, d4, rfl, dh⟩ := h121
        exact ⟨.int .i64 0, fun w9 => run_extract9 e121 rfl rfl w9, rfl⟩
      intro w8 hx
      simp only [Vals, List.take_succ_cons, List.take_zero, List.drop_succ_cons, List.drop_zero]
      rintro u0 - u1 - u2 - u3 - u4 - u5 - u6 - u7 - u8 h8 u9 h9
      obtain ⟨t1, t2, t3, t4, rfl, ht⟩ := h8
      obtain rfl : u9 = .int .i64 0 := h9
      simp only [Act.put, List.setIfInBounds_toArray, List.set_cons_zero, List.set_cons_succ]
      have HT := Lib.hid ht; have SBK := Lib.hid (SBK.out.ext hx); clear ht SBR
      have SB := Lib.hid (SB.out.ext hx); have RW := Lib.hid (RW.out.ext hx); have PT := Lib.hid (PT.out.ext hx); have X := Lib.hid (X.out.trans hx)
      clear hx
      have qS := SBK.out.cell; have fS := SBK.out.free; have lS := SBK.out.lt
      go_wp2_with fail
      clear qS fS lS
      obtain ⟨c9, hp9⟩ := SB.out.put3 (q := (sumK L (k + 1)).neg) (a1 := t1) (n1 := (sumK L (k + 1)).num.length) (c1 := t2) (a2 := t3) (n2 := (sumK L (k + 1)).den.length) (c2 := t4) (o := 0)
      have hsb : SumB (((w8.setCell ⟨sn, 0, none⟩ (.bool (sumK L (k + 1)).neg)).setCell ⟨sn, 1, none⟩ (.slice t1 (sumK L (k + 1)).num.length t2)).setCell ⟨sn, 2, none⟩ (.slice t3 (sumK L (k + 1)).den.length t4)) sn 35 (sumK L (k + 1)) := SB.out.put HT.out
      have hrw : RwR (((w8.setCell ⟨sn, 0, none⟩ (.bool (sumK L (k + 1)).neg)).setCell ⟨sn, 1, none⟩ (.slice t1 (sumK L (k + 1)).num.length t2)).setCell ⟨sn, 2, none⟩ (.slice t3 (sumK L (k + 1)).den.length t4)) an g.length 35 (atK g L k) := hp9.row RW.out (Ne.symm HN.out.2.2)
      have hpt : RdI .i64 (((w8.setCell ⟨sn, 0, none⟩ (.bool (sumK L (k + 1)).neg)).setCell ⟨sn, 1, none⟩ (.slice t1 (sumK L (k + 1)).num.length t2)).setCell ⟨sn, 2, none⟩ (.slice t3 (sumK L (k + 1)).den.length t4)) (.slice qa g.length g.length) (ptK g yv g.length) := hp9.rdI PT.out
      have hx : Ext w3 (((w8.setCell ⟨sn, 0, none⟩ (.bool (sumK L (k + 1)).neg)).setCell ⟨sn, 1, none⟩ (.slice t1 (sumK L (k + 1)).num.length t2)).setCell ⟨sn, 2, none⟩ (.slice t3 (sumK L (k + 1)).den.length t4)) := ext_put3 (o := 0) X.out HN.out.1
      have HSB := Lib.hid hsb; have HRW := Lib.hid hrw; have HPT := Lib.hid hpt; have HX := Lib.hid hx
      clear hp9 hsb hrw hpt hx HT SBK SB RW PT X
      go_loopw [14] (fun i wq => ∃ m : Nat, m ≤ g.length ∧ i = .int .i64 m ∧ Ext w3 wq ∧ SumB wq sn 35 (sumK L (k + 1)) ∧ RwR wq an g.length 35 (fun a => if a < m then atK g L (k + 1) a else atK g L k a) ∧ RdI .i64 wq (.slice qa g.length g.length) (ptK g yv g.length)) (fun i _ => g.length - (intOf i).toNat)
      case atStart => exact ⟨0, Nat.zero_le _, rfl, HX.out, HSB.out, HRW.out.congr (fun _ _ => (if_neg (by omega)).symm), HPT.out⟩
      case round =>
        clear HX HSB HRW HPT
        obtain ⟨wi, hwi⟩ : ∃ W, W = wr := ⟨_, rfl⟩
        subst hwi
        obtain ⟨m, hm, rfl, hext, hsb, hrw, hpt⟩ := hrel
        have X := Lib.hid hext; have SB := Lib.hid hsb; have RW := Lib.hid hrw; have PT := Lib.hid hpt
        clear hext hsb hrw hpt
        by_cases hlm : m < g.length
        · have haa := HAA.out m hlm
          have hmm := HMM.out m hlm
          have hbd := HBD.out m hlm
          have hpr := HPR.out m
          obtain ⟨zc, hzc⟩ : ∃ z, z = cutAt g yv m := ⟨_, rfl⟩
          obtain ⟨pr, hpr2⟩ : ∃ p, p = pf m := ⟨_, rfl⟩
          obtain ⟨sa, hsa⟩ : ∃ s, s = atK g L k m := ⟨_, rfl⟩
          obtain ⟨ta, hta⟩ : ∃ s, s = atK g L (k + 1) m := ⟨_, rfl⟩
          obtain ⟨_, _, e1, _, _, hct⟩ := (show RdI .i64 wi _ (ptK g yv g.length) from PT.out).get
          injection e1 with e0 e4 e5
          subst e0
          clear e4 e5
          obtain ⟨bt, ot, rfl, hbt, hct⟩ := hct m (by rw [ptK_len]; exact hlm)
          rw [ptK_pt hlm, ← hzc] at hct
          rw [← hzc] at hmm hbd
          rw [← hpr2] at hmm haa hpr
          rw [← hsa, ← hta] at haa
          have hfr := fun W => fromR_any zc W (by omega) (by omega)
          have hmc := fun W v1 v2 (e1 : RdR W v1 ry) (e2 : RdR W v2 (rep (zc : Rat))) => mulR_any v1 v2 ry (rep (zc : Rat)) W e1 e2 HLY.out (limR_rep _)
          rw [hmm] at hmc
          have hac := fun W v1 v2 (e1 : RdR W v1 sa) (e2 : RdR W v2 pr) => addR_any v1 v2 sa pr W e1 e2 (by rw [hsa]; exact atK_lim _ _ _ _) hpr
          rw [haa] at hac
          (try dsimp only at hmc hac)
          have HFR := Lib.hid hfr; have HMC := Lib.hid hmc; have HAC := Lib.hid hac; have HSA := Lib.hid hsa; have HTA := Lib.hid hta
          have ZC : Hid (bt < wi.heap.size ∧ wi.cell? ⟨bt, ot + m, none⟩ = some (.int .i64 zc)) := Lib.hid ⟨hbt, hct⟩
          clear haa hmm hbd hpr hzc hpr2 hsa hta hbt hct hfr hmc hac
          have q3 : (m : Int) < (g.length : Int) := by omega
          have q4 : (0 : Int) ≤ (m : Int) := by omega
          go_wp2_with fail
          refine wp_region_each_float 15 13 (uniM (some ⟨b, off, none⟩) (some ⟨bt, ot, none⟩) lc L.length g.length k m b off bt ot zc ry pr wi.heap.size) rfl (by kernel_rfl) (by kernel_rfl) (by kernel_rfl) (fun _ _ _ _ h x => uniM_ext h x) (fun _ _ d _ _ h => by cases d <;> exact h) ?_ ?_ ?_
          · refine ⟨?_, ?_, ?_, ?_, ?_, ?_, ?_, ?_, ?_, ?_, ?_, ?_, ?_, ?_, ?_, trivial⟩
            · intro a W hW hB hD K hK
              have b5 := hB 5 rfl
              simp only [Array.getD_eq_getD_getElem?, List.getElem?_toArray, List.getElem?_cons_succ, List.getElem?_cons_zero, Option.getD_some] at b5
              go_simp
              exact hK _ _ (Ext.refl _) rfl
            · intro a W hW hB hD K hK
              have b9 := hB 9 rfl
              simp only [Array.getD_eq_getD_getElem?, List.getElem?_toArray, List.getElem?_cons_succ, List.getElem?_cons_zero, Option.getD_some] at b9
              go_simp
              exact hK _ _ (Ext.refl _) rfl
            · intro a W hW hB hD K hK
              obtain ⟨v140, e140⟩ : ∃ x, a.tmps.getD 140 undef = x := ⟨_, rfl⟩
              have h140 := hD 0 _ 140 rfl rfl (by kernel_rfl)
              rw [e140] at h140
              simp only [Array.getD_eq_getD_getElem?] at e140
              obtain rfl := h140
              obtain ⟨v141, e141⟩ : ∃ x, a.tmps.getD 141 undef = x := ⟨_, rfl⟩
              have h141 := hD 1 _ 141 rfl rfl (by kernel_rfl)
              rw [e141] at h141
              simp only [Array.getD_eq_getD_getElem?] at e141
              obtain rfl := h141
              go_simp
              exact hK _ _ (Ext.refl _) rfl
            · intro a W hW hB hD K hK
              obtain ⟨v142, e142⟩ : ∃ x, a.tmps.getD 142 undef = x := ⟨_, rfl⟩
              have h142 := hD 2 _ 142 rfl rfl (by kernel_rfl)
              rw [e142] at h142
              simp only [Array.getD_eq_getD_getElem?] at e142
              obtain rfl := h142
              go_simp
              exact hK _ _ (Ext.refl _) rfl
            · intro a W hW hB hD K hK
              obtain ⟨v143, e143⟩ : ∃ x, a.tmps.getD 143 undef = x := ⟨_, rfl⟩
              have h143 := hD 3 _ 143 rfl rfl (by kernel_rfl)
              rw [e143] at h143
              simp only [Array.getD_eq_getD_getElem?] at e143
              obtain rfl := h143
              have m0 := ((X.out.trans hW).cell (p := ⟨b, off + k * 4, none⟩) CY.out.1).trans CY.out.2.1
              have m1 := ((X.out.trans hW).cell (p := ⟨b, off + k * 4 + 1, none⟩) CY.out.1).trans CY.out.2.2.1
              have m2 := ((X.out.trans hW).cell (p := ⟨b, off + k * 4 + 2, none⟩) CY.out.1).trans CY.out.2.2.2.1
              have m3 := ((X.out.trans hW).cell (p := ⟨b, off + k * 4 + 3, none⟩) CY.out.1).trans CY.out.2.2.2.2
              have ml := Nat.lt_of_lt_of_le CY.out.1 (X.out.trans hW).size
              go_simp
              exact hK _ _ (Ext.refl _) ⟨_, _, _, _, rfl, RY.out.ext (X.out.trans hW)⟩
            · intro a W hW hB hD K hK
              have b12 := hB 12 rfl
              simp only [Array.getD_eq_getD_getElem?, List.getElem?_toArray, List.getElem?_cons_succ, List.getElem?_cons_zero, Option.getD_some] at b12
              go_simp
              exact hK _ _ (Ext.refl _) rfl
            · intro a W hW hB hD K hK
              have b14 := hB 14 rfl
              simp only [Array.getD_eq_getD_getElem?, List.getElem?_toArray, List.getElem?_cons_succ, List.getElem?_cons_zero, Option.getD_some] at b14
              go_simp
              exact hK _ _ (Ext.refl _) rfl
            · intro a W hW hB hD K hK
              obtain ⟨v145, e145⟩ : ∃ x, a.tmps.getD 145 undef = x := ⟨_, rfl⟩
              have h145 := hD 5 _ 145 rfl rfl (by kernel_rfl)
              rw [e145] at h145
              simp only [Array.getD_eq_getD_getElem?] at e145
              obtain rfl := h145
              obtain ⟨v146, e146⟩ : ∃ x, a.tmps.getD 146 undef = x := ⟨_, rfl⟩
              have h146 := hD 6 _ 146 rfl rfl (by kernel_rfl)
              rw [e146] at h146
              simp only [Array.getD_eq_getD_getElem?] at e146
              obtain rfl := h146
              go_simp
              exact hK _ _ (Ext.refl _) rfl
            · intro a W hW hB hD K hK
              obtain ⟨v147, e147⟩ : ∃ x, a.tmps.getD 147 undef = x := ⟨_, rfl⟩
              have h147 := hD 7 _ 147 rfl rfl (by kernel_rfl)
              rw [e147] at h147
              simp only [Array.getD_eq_getD_getElem?] at e147
              obtain rfl := h147
              have m9 := (hW.cell (p := ⟨bt, ot + m, none⟩) ZC.out.1).trans ZC.out.2
              have l9 := Nat.lt_of_lt_of_le ZC.out.1 hW.size
              go_simp
              exact hK _ _ (Ext.refl _) rfl
            · intro a W hW hB hD K hK
              obtain ⟨v148, e148⟩ : ∃ x, a.tmps.getD 148 undef = x := ⟨_, rfl⟩
              have h148 := hD 8 _ 148 rfl rfl (by kernel_rfl)
              rw [e148] at h148
              simp only [Array.getD_eq_getD_getElem?] at e148
              obtain rfl := h148
              go_simp
              refine (HFR.out _).mono ?_
              rintro e w9 ⟨⟨v, rfl, nn⟩, hx⟩
              exact hK _ _ hx ⟨_, rfl, nn.rd⟩
            · intro a W hW hB hD K hK
              obtain ⟨v144, e144⟩ : ∃ x, a.tmps.getD 144 undef = x := ⟨_, rfl⟩
              have h144 := hD 4 _ 144 rfl rfl (by kernel_rfl)
              rw [e144] at h144
              simp only [Array.getD_eq_getD_getElem?] at e144
              obtain ⟨d1, d2, d3, d4, rfl, dh⟩ := h144
              obtain ⟨v149, e149⟩ : ∃ x, a.tmps.getD 149 undef = x := ⟨_, rfl⟩
              have h149 := hD 9 _ 149 rfl rfl (by kernel_rfl)
              rw [e149] at h149
              simp only [Array.getD_eq_getD_getElem?] at e149
              obtain ⟨e1, rfl, eh⟩ := h149
              go_simp
              refine (HMC.out _ _ _ dh eh).mono ?_
              rintro e w9 ⟨⟨v, rfl, nn⟩, hx⟩
              obtain ⟨s1, s2, s3, s4, rfl⟩ := nn.shape
              exact hK _ _ hx ⟨_, _, _, _, rfl, nn.rd⟩
            · intro a W hW hB hD K hK
              obtain ⟨v150, e150⟩ : ∃ x, a.tmps.getD 150 undef = x := ⟨_, rfl⟩
              have h150 := hD 10 _ 150 rfl rfl (by kernel_rfl)
              rw [e150] at h150
              simp only [Array.getD_eq_getD_getElem?] at e150
              obtain ⟨d1, d2, d3, d4, rfl, dh⟩ := h150
              go_simp
              exact hK _ _ (Ext.refl _) ⟨_, _, _, _, rfl, dh⟩
            · intro a W hW hB hD K hK
              obtain ⟨v139, e139⟩ : ∃ x, a.tmps.getD 139 undef = x := ⟨_, rfl⟩
              have h139 := hD 11 _ 139 rfl rfl (by kernel_rfl)
              rw [e139] at h139
              simp only [Array.getD_eq_getD_getElem?] at e139
              obtain ⟨d1, d2, d3, d4, rfl, dh⟩ := h139
              go_simp
              exact hK _ _ (Ext.refl _) ⟨_, _, _, _, rfl, dh⟩
            · intro a W hW hB hD K hK
              obtain ⟨v139, e139⟩ : ∃ x, a.tmps.getD 139 undef = x := ⟨_, rfl⟩
              have h139 := hD 11 _ 139 rfl rfl (by kernel_rfl)
              rw [e139] at h139
              simp only [Array.getD_eq_getD_getElem?] at e139
              obtain ⟨d1, d2, d3, d4, rfl, dh⟩ := h139
              go_simp
              exact hK _ _ (Ext.refl _) rfl
            · intro a W hW hB hD K hK
              go_simp
              exact hK _ _ ((Ext.refl _).alloc _) ⟨_, rfl, hW.size, Blk.new _ _ _⟩
          · intro a W hW hB hD
            have h139 := hD 11 _ 139 rfl rfl (by kernel_rfl)
            obtain ⟨v139, e139⟩ : ∃ x, a.tmps.getD 139 undef = x := ⟨_, rfl⟩
            rw [e139] at h139
            obtain ⟨d1, d2, d3, d4, rfl, dh⟩ := h139
            exact ⟨.int .i64 0, fun w9 => run_extract9 e139 rfl rfl w9, rfl⟩
          intro w7 hx
          simp only [Vals, List.take_succ_cons, List.take_zero, List.drop_succ_cons, List.drop_zero]
          rintro u0 - u1 - u2 - u3 - u4 - u5 - u6 - u7 - u8 - u9 - u10 - u11 - u12 h12 u13 h13 u14 h14
          obtain ⟨t1, t2, t3, t4, rfl, ht⟩ := h12
          obtain rfl : u13 = .int .i64 0 := h13
          obtain ⟨bp, rfl, hge, hbp⟩ := h14
          simp only [Act.put, List.setIfInBounds_toArray, List.set_cons_zero, List.set_cons_succ]
          have HT := Lib.hid ht; have BP := Lib.hid hbp
          have HGE : Hid (w3.heap.size ≤ bp ∧ sn ≠ bp ∧ an ≠ bp) := Lib.hid ⟨Nat.le_trans X.out.size hge, fun e => by have := SB.out.c3; obtain ⟨_, _, _, _, h9, _⟩ := this; omega, fun e => by have := RW.out.lt; omega⟩
          clear ht hbp hge
          have SB := Lib.hid (SB.out.ext hx); have RW := Lib.hid (RW.out.ext hx); have PT := Lib.hid (PT.out.ext hx); have X := Lib.hid (X.out.trans hx)
          clear hx ZC HFR HMC
          have qS := BP.out.cell; have fS := BP.out.free; have lS := BP.out.lt
          go_wp2_with fail
          clear qS fS lS
          have hp9 := Put3.of (q := pr.neg) (a1 := t1) (n1 := pr.num.length) (c1 := t2) (a2 := t3) (n2 := pr.den.length) (c2 := t4) (o := 0) BP.out noU_3
          have hpb : SumB (((w7.setCell ⟨bp, 0, none⟩ (.bool pr.neg)).setCell ⟨bp, 1, none⟩ (.slice t1 pr.num.length t2)).setCell ⟨bp, 2, none⟩ (.slice t3 pr.den.length t4)) bp 35 pr := (show SumB w7 bp 35 zR from ⟨none, 0, none, 0, BP.out, (NewR.zero w7 w7).rd⟩).put HT.out
          have hsb : SumB (((w7.setCell ⟨bp, 0, none⟩ (.bool pr.neg)).setCell ⟨bp, 1, none⟩ (.slice t1 pr.num.length t2)).setCell ⟨bp, 2, none⟩ (.slice t3 pr.den.length t4)) sn 35 (sumK L (k + 1)) := hp9.sum SB.out HGE.out.2.1
          have hrw : RwR (((w7.setCell ⟨bp, 0, none⟩ (.bool pr.neg)).setCell ⟨bp, 1, none⟩ (.slice t1 pr.num.length t2)).setCell ⟨bp, 2, none⟩ (.slice t3 pr.den.length t4)) an g.length 35 (fun a => if a < m then atK g L (k + 1) a else atK g L k a) := hp9.row RW.out HGE.out.2.2
          have hpt : RdI .i64 (((w7.setCell ⟨bp, 0, none⟩ (.bool pr.neg)).setCell ⟨bp, 1, none⟩ (.slice t1 pr.num.length t2)).setCell ⟨bp, 2, none⟩ (.slice t3 pr.den.length t4)) (.slice (some ⟨bt, ot, none⟩) g.length g.length) (ptK g yv g.length) := hp9.rdI PT.out
          have hx : Ext w3 (((w7.setCell ⟨bp, 0, none⟩ (.bool pr.neg)).setCell ⟨bp, 1, none⟩ (.slice t1 pr.num.length t2)).setCell ⟨bp, 2, none⟩ (.slice t3 pr.den.length t4)) := ext_put3 (o := 0) X.out HGE.out.1
          obtain ⟨w6, hw6⟩ : ∃ W, W = (((w7.setCell ⟨bp, 0, none⟩ (.bool pr.neg)).setCell ⟨bp, 1, none⟩ (.slice t1 pr.num.length t2)).setCell ⟨bp, 2, none⟩ (.slice t3 pr.den.length t4)) := ⟨_, rfl⟩
          rw [← hw6] at hpb hsb hrw hpt hx ⊢
          have PB := Lib.hid hpb; have SB := Lib.hid hsb; have RW := Lib.hid hrw; have PT := Lib.hid hpt; have X := Lib.hid hx
          clear hp9 hpb hsb hrw hpt hx HT BP hw6
          obtain ⟨_, hro⟩ := RW.out
          obtain ⟨d1, d2, d3, d4, r0, r1, r2, rr⟩ := hro m hlm
          dsimp only at r0 r1 r2 rr
          rw [if_neg (Nat.lt_irrefl m), ← HSA.out] at r0 r1 r2 rr
          have RA : Hid (w6.cell? ⟨an, m * 3, none⟩ = some (.bool sa.neg) ∧ w6.cell? ⟨an, m * 3 + 1, none⟩ = some (.slice d1 sa.num.length d2) ∧ w6.cell? ⟨an, m * 3 + 2, none⟩ = some (.slice d3 sa.den.length d4) ∧ RdR w6 (.agg #[.bool sa.neg, .slice d1 sa.num.length d2, .slice d3 sa.den.length d4]) sa) := Lib.hid ⟨r0, r1, r2, rr⟩
          obtain ⟨e1, e2, e3, e4, pbl, p0, p1, p2x, prd⟩ := PB.out.c3
          have PBX : Hid (bp < w6.heap.size ∧ w6.cell? ⟨bp, 0, none⟩ = some (.bool pr.neg) ∧ w6.cell? ⟨bp, 1, none⟩ = some (.slice e1 pr.num.length e2) ∧ w6.cell? ⟨bp, 2, none⟩ = some (.slice e3 pr.den.length e4) ∧ RdR w6 (.agg #[.bool pr.neg, .slice e1 pr.num.length e2, .slice e3 pr.den.length e4]) pr) := Lib.hid ⟨pbl, p0, p1, p2x, prd⟩
          clear hro r0 r1 r2 rr pbl p0 p1 p2x prd PB
          refine wp_region_each_float 11 10 (uniA an g.length m sa pr ta) rfl (by kernel_rfl) (by kernel_rfl) (by kernel_rfl) (fun _ _ _ _ h x => uniA_ext h x) (fun _ _ d _ _ h => by cases d <;> exact h) ?_ ?_ ?_
          · refine ⟨?_, ?_, ?_, ?_, ?_, ?_, ?_, ?_, ?_, ?_, ?_, trivial⟩
            · intro a W hW hB hD K hK
              have b8 := hB 8 rfl
              simp only [Array.getD_eq_getD_getElem?, List.getElem?_toArray, List.getElem?_cons_succ, List.getElem?_cons_zero, Option.getD_some] at b8
              go_simp
              exact hK _ _ (Ext.refl _) rfl
            · intro a W hW hB hD K hK
              have b14 := hB 14 rfl
              simp only [Array.getD_eq_getD_getElem?, List.getElem?_toArray, List.getElem?_cons_succ, List.getElem?_cons_zero, Option.getD_some] at b14
              go_simp
              exact hK _ _ (Ext.refl _) rfl
            · intro a W hW hB hD K hK
              have b8 := hB 8 rfl
              simp only [Array.getD_eq_getD_getElem?, List.getElem?_toArray, List.getElem?_cons_succ, List.getElem?_cons_zero, Option.getD_some] at b8
              go_simp
              exact hK _ _ (Ext.refl _) rfl
            · intro a W hW hB hD K hK
              have b14 := hB 14 rfl
              simp only [Array.getD_eq_getD_getElem?, List.getElem?_toArray, List.getElem?_cons_succ, List.getElem?_cons_zero, Option.getD_some] at b14
              go_simp
              exact hK _ _ (Ext.refl _) rfl
            · intro a W hW hB hD K hK
              obtain ⟨v158, e158⟩ : ∃ x, a.tmps.getD 158 undef = x := ⟨_, rfl⟩
              have h158 := hD 2 _ 158 rfl rfl (by kernel_rfl)
              rw [e158] at h158
              simp only [Array.getD_eq_getD_getElem?] at e158
              obtain rfl := h158
              obtain ⟨v159, e159⟩ : ∃ x, a.tmps.getD 159 undef = x := ⟨_, rfl⟩
              have h159 := hD 3 _ 159 rfl rfl (by kernel_rfl)
              rw [e159] at h159
              simp only [Array.getD_eq_getD_getElem?] at e159
              obtain rfl := h159
              go_simp
              exact hK _ _ (Ext.refl _) rfl
            · intro a W hW hB hD K hK
              obtain ⟨v160, e160⟩ : ∃ x, a.tmps.getD 160 undef = x := ⟨_, rfl⟩
              have h160 := hD 4 _ 160 rfl rfl (by kernel_rfl)
              rw [e160] at h160
              simp only [Array.getD_eq_getD_getElem?] at e160
              obtain rfl := h160
              have la := RW.out.lt
              have m0 := (hW.cell (p := ⟨an, m * 3, none⟩) la).trans RA.out.1
              have m1 := (hW.cell (p := ⟨an, m * 3 + 1, none⟩) la).trans RA.out.2.1
              have m2 := (hW.cell (p := ⟨an, m * 3 + 2, none⟩) la).trans RA.out.2.2.1
              have ml := Nat.lt_of_lt_of_le la hW.size
              clear la
              go_simp
              exact hK _ _ (Ext.refl _) ⟨_, _, _, _, rfl, RA.out.2.2.2.ext hW⟩
            · intro a W hW hB hD K hK
              have b15 := hB 15 rfl
              simp only [Array.getD_eq_getD_getElem?, List.getElem?_toArray, List.getElem?_cons_succ, List.getElem?_cons_zero, Option.getD_some] at b15
              have m0 := (hW.cell (p := ⟨bp, 0, none⟩) PBX.out.1).trans PBX.out.2.1
              have m1 := (hW.cell (p := ⟨bp, 1, none⟩) PBX.out.1).trans PBX.out.2.2.1
              have m2 := (hW.cell (p := ⟨bp, 2, none⟩) PBX.out.1).trans PBX.out.2.2.2.1
              have ml := Nat.lt_of_lt_of_le PBX.out.1 hW.size
              go_simp
              exact hK _ _ (Ext.refl _) ⟨_, _, _, _, rfl, PBX.out.2.2.2.2.ext hW⟩
            · intro a W hW hB hD K hK
              obtain ⟨v161, e161⟩ : ∃ x, a.tmps.getD 161 undef = x := ⟨_, rfl⟩
              have h161 := hD 5 _ 161 rfl rfl (by kernel_rfl)
              rw [e161] at h161
              simp only [Array.getD_eq_getD_getElem?] at e161
              obtain ⟨d1, d2, d3, d4, rfl, dh⟩ := h161
              obtain ⟨v162, e162⟩ : ∃ x, a.tmps.getD 162 undef = x := ⟨_, rfl⟩
              have h162 := hD 6 _ 162 rfl rfl (by kernel_rfl)
              rw [e162] at h162
              simp only [Array.getD_eq_getD_getElem?] at e162
              obtain ⟨e1, e2, e3, e4, rfl, eh⟩ := h162
              go_simp
              refine (HAC.out _ _ _ dh eh).mono ?_
              rintro e w9 ⟨⟨v, rfl, nn⟩, hx⟩
              obtain ⟨s1, s2, s3, s4, rfl⟩ := nn.shape
              exact hK _ _ hx ⟨_, _, _, _, rfl, nn.rd⟩
            · intro a W hW hB hD K hK
              obtain ⟨v163, e163⟩ : ∃ x, a.tmps.getD 163 undef = x := ⟨_, rfl⟩
              have h163 := hD 7 _ 163 rfl rfl (by kernel_rfl)
              rw [e163] at h163
              simp only [Array.getD_eq_getD_getElem?] at e163
              obtain ⟨d1, d2, d3, d4, rfl, dh⟩ := h163
              go_simp
              exact hK _ _ (Ext.refl _) ⟨_, _, _, _, rfl, dh⟩
            · intro a W hW hB hD K hK
              obtain ⟨v155, e155⟩ : ∃ x, a.tmps.getD 155 undef = x := ⟨_, rfl⟩
              have h155 := hD 8 _ 155 rfl rfl (by kernel_rfl)
              rw [e155] at h155
              simp only [Array.getD_eq_getD_getElem?] at e155
              obtain ⟨d1, d2, d3, d4, rfl, dh⟩ := h155
              go_simp
              exact hK _ _ (Ext.refl _) ⟨_, _, _, _, rfl, dh⟩
            · intro a W hW hB hD K hK
              obtain ⟨v155, e155⟩ : ∃ x, a.tmps.getD 155 undef = x := ⟨_, rfl⟩
              have h155 := hD 8 _ 155 rfl rfl (by kernel_rfl)
              rw [e155] at h155
              simp only [Array.getD_eq_getD_getElem?] at e155
              obtain ⟨d1, d2, d3, d4, rfl, dh⟩ := h155
              go_simp
              exact hK _ _ (Ext.refl _) rfl
          · intro a W hW hB hD
            have h155 := hD 8 _ 155 rfl rfl (by kernel_rfl)
            obtain ⟨v155, e155⟩ : ∃ x, a.tmps.getD 155 undef = x := ⟨_, rfl⟩
            rw [e155] at h155
            obtain ⟨d1, d2, d3, d4, rfl, dh⟩ := h155
            exact ⟨.int .i64 0, fun w9 => run_extract9 e155 rfl rfl w9, rfl⟩
          intro w7 hx
          simp only [Vals, List.take_succ_cons, List.take_zero, List.drop_succ_cons, List.drop_zero]
          rintro u0 h0 u1 h1 u2 - u3 - u4 - u5 - u6 - u7 - u8 - u9 h9 u10 h10
          obtain ⟨t1, t2, t3, t4, rfl, ht⟩ := h9
          obtain rfl : u10 = .int .i64 0 := h10
          obtain rfl : u0 = .slice (some ⟨an, 0, none⟩) g.length g.length := h0
          obtain rfl : u1 = .int .i64 m := h1
          simp only [Act.put, List.setIfInBounds_toArray, List.set_cons_zero, List.set_cons_succ]
          have HT := Lib.hid ht; clear ht
          have la := RW.out.lt
          have m0 := (hx.cell (p := ⟨an, m * 3, none⟩) la).trans RA.out.1
          have m1 := (hx.cell (p := ⟨an, m * 3 + 1, none⟩) la).trans RA.out.2.1
          have m2 := (hx.cell (p := ⟨an, m * 3 + 2, none⟩) la).trans RA.out.2.2.1
          clear la
          have SB := Lib.hid (SB.out.ext hx); have RW := Lib.hid (RW.out.ext hx); have PT := Lib.hid (PT.out.ext hx); have X := Lib.hid (X.out.trans hx)
          clear hx RA PBX HAC
          obtain ⟨⟨cA, hcA, _, _⟩, _⟩ := RW.out
          have fS := hcA.free; have lS := hcA.lt
          clear hcA
          go_wp2_with fail
          clear fS lS m0 m1 m2
          obtain ⟨c9, hp9⟩ := RW.out.put3 (q := ta.neg) (a1 := t1) (n1 := ta.num.length) (c1 := t2) (a2 := t3) (n2 := ta.den.length) (c2 := t4) (o := m * 3)
          have hsb : SumB (((w7.setCell ⟨an, m * 3, none⟩ (.bool ta.neg)).setCell ⟨an, m * 3 + 1, none⟩ (.slice t1 ta.num.length t2)).setCell ⟨an, m * 3 + 2, none⟩ (.slice t3 ta.den.length t4)) sn 35 (sumK L (k + 1)) := hp9.sum SB.out HN.out.2.2
          have hrw : RwR (((w7.setCell ⟨an, m * 3, none⟩ (.bool ta.neg)).setCell ⟨an, m * 3 + 1, none⟩ (.slice t1 ta.num.length t2)).setCell ⟨an, m * 3 + 2, none⟩ (.slice t3 ta.den.length t4)) an g.length 35 (fun a => if a < m + 1 then atK g L (k + 1) a else atK g L k a) := (RW.out.set hlm HT.out).congr fun a ha => by
            by_cases e : a = m
            · rw [if_pos e, if_pos (by omega), e, HTA.out]
            · rw [if_neg e]
              by_cases h9 : a < m
              · rw [if_pos h9, if_pos (by omega)]
              · rw [if_neg h9, if_neg (by omega)]
          have hpt : RdI .i64 (((w7.setCell ⟨an, m * 3, none⟩ (.bool ta.neg)).setCell ⟨an, m * 3 + 1, none⟩ (.slice t1 ta.num.length t2)).setCell ⟨an, m * 3 + 2, none⟩ (.slice t3 ta.den.length t4)) (.slice (some ⟨bt, ot, none⟩) g.length g.length) (ptK g yv g.length) := hp9.rdI PT.out
          have hx : Ext w3 (((w7.setCell ⟨an, m * 3, none⟩ (.bool ta.neg)).setCell ⟨an, m * 3 + 1, none⟩ (.slice t1 ta.num.length t2)).setCell ⟨an, m * 3 + 2, none⟩ (.slice t3 ta.den.length t4)) := ext_put3 (o := m * 3) X.out HN.out.2.1
          have HSB := Lib.hid hsb; have HRW := Lib.hid hrw; have HPT := Lib.hid hpt; have HX := Lib.hid hx
          clear hp9 hsb hrw hpt hx HT
          go_roundw
          case rel => exact ⟨m + 1, by omega, by go_num, HX.out, HSB.out, HRW.out, HPT.out⟩
          case measure => simp [intOf]; omega
        · obtain rfl : m = g.length := by omega
          have q3 : ¬ (g.length : Int) < (g.length : Int) := by omega
          go_wp2_with fail
          go_roundw
          case rel => exact ⟨k + 1, by omega, by go_num, X.out, SB.out, RW.out.congr (fun a ha => by rw [if_pos ha])⟩
          case measure => simp [intOf]; omega
    · obtain rfl : k = L.length := by omega
      have q1 : ¬ (L.length : Int) < (L.length : Int) := by omega
      go_wp2_with fail
      clear q1
      obtain ⟨wf, hwf⟩ : ∃ W, W = wk := ⟨_, rfl⟩
      rw [← hwf] at X SB RW ⊢
      clear hwf
      go_loopw [17] (fun i wq => ∃ m : Nat, m ≤ g.length ∧ i = .int .i64 m ∧ Ext wf wq) (fun i _ => g.length - (intOf i).toNat)
      case atStart => exact ⟨0, Nat.zero_le _, rfl, Ext.refl _⟩
      case round =>
        obtain ⟨wi, hwi⟩ : ∃ W, W = wr := ⟨_, rfl⟩
        subst hwi
        obtain ⟨m, hm, rfl, hext⟩ := hrel
        have X1 := Lib.hid hext
        clear hext
        by_cases hlm : m < g.length
        · obtain ⟨b, off, ai, ci, rfl, hb, hc, hr⟩ := HG.out.at hlm
          obtain ⟨_, _, e1, hcc, hcm, hrow⟩ := hr.get
          injection e1 with e0 _ e3
          subst e0; subst e3
          obtain ⟨p1, p2y, p3, p4⟩ := WT.out.ok.ax m hlm
          obtain ⟨bc, oc, rfl, hbc, k0⟩ := hrow 0 p1
          obtain ⟨bc2, oc2, e7, _, k1⟩ := hrow ((g.getD m []).length - 1) (by omega)
          injection e7 with e7
          injection e7 with e8 e9
          subst e8; subst e9
          obtain ⟨_, _, e1, _, _, hxt⟩ := (show RdI .i64 w3 _ x from HXI.out).get
          injection e1 with e0 e4 e5
          subst e0
          clear e4 e5
          obtain ⟨bx, ox, rfl, hbx, k2⟩ := hxt m (by have := HXE.out; omega)
          have hend := WT.out.endA hlm
          have hbd := HXB.out m (by have := HXE.out; omega)
          obtain ⟨_, hro⟩ := RW.out
          obtain ⟨d1, d2, d3, d4, r0, r1, r2, rr⟩ := hro m hlm
          have la := RW.out.lt
          obtain ⟨c, hce⟩ : ∃ c, c = g.getD m [] := ⟨_, rfl⟩
          rw [← hce] at hc hcc k0 k1 p1 p2y p4 hend
          obtain ⟨xm, hxm⟩ : ∃ z, z = x.getD m 0 := ⟨_, rfl⟩
          rw [← hxm] at k2 hend hbd
          have p40 := p4 0 p1
          have p41 := p4 (c.length - 1) (by omega)
          unfold clampS at hend
          obtain ⟨c0, hc0⟩ : ∃ z, z = c.getD 0 0 := ⟨_, rfl⟩
          obtain ⟨cl, hcl⟩ : ∃ z, z = c.getD (c.length - 1) 0 := ⟨_, rfl⟩
          rw [← hc0] at k0 hend p40
          rw [← hcl] at k1 hend p41
          rw [Int.min_comm] at hend
          obtain ⟨cc, hcc2⟩ : ∃ z, z = max c0 (min cl xm) := ⟨_, rfl⟩
          rw [← hcc2] at hend
          obtain ⟨cn, hcn⟩ : ∃ n, n = c.length - 1 := ⟨_, rfl⟩
          rw [← hcn] at k1
          obtain ⟨sa, hsa⟩ : ∃ s, s = atK g L L.length m := ⟨_, rfl⟩
          rw [← hsa] at r0 r1 r2 rr hend
          have hfr := fun W => fromR_any cc W (by omega) (by omega)
          have heq := fun W v1 v2 (e1 : RdR W v1 sa) (e2 : RdR W v2 (rep (cc : Rat))) => equalRat_any v1 v2 sa (rep (cc : Rat)) W e1 e2
          rw [decide_eq_true hend] at heq
          have HFR := Lib.hid hfr; have HEQ := Lib.hid heq; have HCC := Lib.hid hcc2
          have x1 := ((X.out.trans X1.out).cell (p := ⟨b, off + m, none⟩) hb).trans hc
          have x2 : wi.cell? ⟨bc, oc, none⟩ = some (.int .i64 c0) := ((X.out.trans X1.out).cell (p := ⟨bc, oc + 0, none⟩) hbc).trans k0
          have x3 := ((X.out.trans X1.out).cell (p := ⟨bc, oc + cn, none⟩) hbc).trans k1
          have x4 := ((X.out.trans X1.out).cell (p := ⟨bx, ox + m, none⟩) hbx).trans k2
          have RA : Hid (an < wi.heap.size ∧ wi.cell? ⟨an, m * 3, none⟩ = some (.bool sa.neg) ∧ wi.cell? ⟨an, m * 3 + 1, none⟩ = some (.slice d1 sa.num.length d2) ∧ wi.cell? ⟨an, m * 3 + 2, none⟩ = some (.slice d3 sa.den.length d4) ∧ RdR wi (.agg #[.bool sa.neg, .slice d1 sa.num.length d2, .slice d3 sa.den.length d4]) sa) := Lib.hid ⟨Nat.lt_of_lt_of_le la X1.out.size, (X1.out.cell (p := ⟨an, m * 3, none⟩) la).trans r0, (X1.out.cell (p := ⟨an, m * 3 + 1, none⟩) la).trans r1, (X1.out.cell (p := ⟨an, m * 3 + 2, none⟩) la).trans r2, rr.ext X1.out⟩
          have hsx := (X.out.trans X1.out).size
          have l1 := Nat.lt_of_lt_of_le hb hsx
          have l2 := Nat.lt_of_lt_of_le hbc hsx
          have l4 := Nat.lt_of_lt_of_le hbx hsx
          have q1 : (0 : Int) ≤ (m : Int) := by omega
          have q2 : (m : Int) < (g.length : Int) := by omega
          have q3 : (c.length : Int) - 1 = (cn : Int) := by omega
          have q4 : (cn : Int) < (c.length : Int) := by omega
          have q5 : (0 : Int) ≤ (cn : Int) := by omega
          have q6 : (0 : Int) < (c.length : Int) := by omega
          have q7 : 0 < c.length := p1
          have q8 : ¬ c.length ≤ cn := by omega
          have q9 : ¬ (c.length : Int) ≤ (cn : Int) := by omega
          have qa : decide ((c.length : Int) ≤ (cn : Int)) = false := decide_eq_false q9
          have qb : decide (c.length ≤ cn) = false := decide_eq_false q8
          clear hc hr hrow hxt hbd hro r0 r1 r2 rr la hce hxm p40 p41 hend hc0 hcl hcc2 hcn hsa hfr heq k0 k1 k2 p1 p2y p3 p4 hsx hb hbc hbx
          go_wp2_with fail
          go_quiet (fail)
          go_wp2_with fail
          clear x1 x2 x3 x4 l1 l2 l4 q3 q4 q5 q6 q7 q8 q9 qa qb
          have RA : Hid (an < wi.heap.size ∧ wi.cell? ⟨an, m * 3, none⟩ = some (.bool sa.neg) ∧ wi.cell? ⟨an, m * 3 + 1, none⟩ = some (.slice d1 sa.num.length d2) ∧ wi.cell? ⟨an, m * 3 + 2, none⟩ = some (.slice d3 sa.den.length d4) ∧ RdR wi (.agg #[.bool sa.neg, .slice d1 sa.num.length d2, .slice d3 sa.den.length d4]) sa) := RA
          refine wp_region_each (uniE an g.length m cc sa true) (by kernel_rfl) (by kernel_rfl) (by kernel_rfl) (fun _ _ _ _ h x => uniE_ext h x) ?_ ?_
          · refine ⟨?_, ?_, ?_, ?_, ?_, ?_, ?_, ?_, trivial⟩
            · intro a W hW hB hD K hK
              have b8 := hB 8 rfl
              simp only [Array.getD_eq_getD_getElem?, List.getElem?_toArray, List.getElem?_cons_succ, List.getElem?_cons_zero, Option.getD_some] at b8
              go_simp
              exact hK _ _ (Ext.refl _) rfl
            · intro a W hW hB hD K hK
              have b17 := hB 17 rfl
              simp only [Array.getD_eq_getD_getElem?, List.getElem?_toArray, List.getElem?_cons_succ, List.getElem?_cons_zero, Option.getD_some] at b17
              go_simp
              exact hK _ _ (Ext.refl _) rfl
            · intro a W hW hB hD K hK
              obtain ⟨v199, e199⟩ : ∃ x, a.tmps.getD 199 undef = x := ⟨_, rfl⟩
              have h199 := hD 0 _ 199 rfl rfl (by kernel_rfl)
              rw [e199] at h199
              simp only [Array.getD_eq_getD_getElem?] at e199
              obtain rfl := h199
              obtain ⟨v200, e200⟩ : ∃ x, a.tmps.getD 200 undef = x := ⟨_, rfl⟩
              have h200 := hD 1 _ 200 rfl rfl (by kernel_rfl)
              rw [e200] at h200
              simp only [Array.getD_eq_getD_getElem?] at e200
              obtain rfl := h200
              go_simp
              exact hK _ _ (Ext.refl _) rfl
            · intro a W hW hB hD K hK
              obtain ⟨v201, e201⟩ : ∃ x, a.tmps.getD 201 undef = x := ⟨_, rfl⟩
              have h201 := hD 2 _ 201 rfl rfl (by kernel_rfl)
              rw [e201] at h201
              simp only [Array.getD_eq_getD_getElem?] at e201
              obtain rfl := h201
              have m0 := ((((Ext.refl wi).drewN _).trans hW).cell (p := ⟨an, m * 3, none⟩) RA.out.1).trans RA.out.2.1
              have m1 := ((((Ext.refl wi).drewN _).trans hW).cell (p := ⟨an, m * 3 + 1, none⟩) RA.out.1).trans RA.out.2.2.1
              have m2 := ((((Ext.refl wi).drewN _).trans hW).cell (p := ⟨an, m * 3 + 2, none⟩) RA.out.1).trans RA.out.2.2.2.1
              have ml := Nat.lt_of_lt_of_le RA.out.1 (((Ext.refl wi).drewN _).trans hW).size
              go_simp
              exact hK _ _ (Ext.refl _) ⟨_, _, _, _, rfl, RA.out.2.2.2.2.ext (((Ext.refl wi).drewN _).trans hW)⟩
            · intro a W hW hB hD K hK
              have b18 := hB 18 rfl
              simp only [Array.getD_eq_getD_getElem?, List.getElem?_toArray, List.getElem?_cons_succ, List.getElem?_cons_zero, Option.getD_some] at b18
              go_simp
              exact hK _ _ (Ext.refl _) (congrArg (Value.int IntKind.i64) HCC.out.symm)
            · intro a W hW hB hD K hK
              obtain ⟨v203, e203⟩ : ∃ x, a.tmps.getD 203 undef = x := ⟨_, rfl⟩
              have h203 := hD 4 _ 203 rfl rfl (by kernel_rfl)
              rw [e203] at h203
              simp only [Array.getD_eq_getD_getElem?] at e203
              obtain rfl := h203
              go_simp
              refine (HFR.out _).mono ?_
              rintro e w9 ⟨⟨v, rfl, nn⟩, hx⟩
              exact hK _ _ hx ⟨_, rfl, nn.rd⟩
            · intro a W hW hB hD K hK
              obtain ⟨v202, e202⟩ : ∃ x, a.tmps.getD 202 undef = x := ⟨_, rfl⟩
              have h202 := hD 3 _ 202 rfl rfl (by kernel_rfl)
              rw [e202] at h202
              simp only [Array.getD_eq_getD_getElem?] at e202
              obtain ⟨d1, d2, d3, d4, rfl, dh⟩ := h202
              obtain ⟨v204, e204⟩ : ∃ x, a.tmps.getD 204 undef = x := ⟨_, rfl⟩
              have h204 := hD 5 _ 204 rfl rfl (by kernel_rfl)
              rw [e204] at h204
              simp only [Array.getD_eq_getD_getElem?] at e204
              obtain ⟨e1, rfl, eh⟩ := h204
              go_simp
              refine (HEQ.out _ _ _ dh eh).mono ?_
              rintro e w9 ⟨rfl, hx⟩
              exact hK _ _ hx rfl
            · intro a W hW hB hD K hK
              obtain ⟨v205, e205⟩ : ∃ x, a.tmps.getD 205 undef = x := ⟨_, rfl⟩
              have h205 := hD 6 _ 205 rfl rfl (by kernel_rfl)
              rw [e205] at h205
              simp only [Array.getD_eq_getD_getElem?] at e205
              obtain rfl := h205
              go_simp
              exact hK _ _ (Ext.refl _) rfl
          intro w9 hx
          simp only [Vals]
          rintro u0 - u1 - u2 - u3 - u4 - u5 - u6 - u7 h7
          obtain rfl : u7 = .bool false := h7
          simp only [Act.put, List.setIfInBounds_toArray, List.set_cons_zero, List.set_cons_succ]
          go_wp2_with fail
          go_roundw
          case rel => exact ⟨m + 1, by omega, by go_num, X1.out.trans (((Ext.refl wi).drewN _).trans hx)⟩
          case measure => simp [intOf]; omega
        · obtain rfl : m = g.length := by omega
          have q1 : ¬ (g.length : Int) < (g.length : Int) := by omega
          have hend := WT.out.endS
          obtain ⟨s1, s2, s3, s4, hz1, hz2⟩ := SB.out.ext X1.out
          obtain ⟨ss, hss⟩ : ∃ s, s = sumK L L.length := ⟨_, rfl⟩
          rw [← hss] at hz1 hz2 hend
          have hfr := fun W => fromR_any 1 W (by omega) (by omega)
          have heq := fun W v1 v2 (e1 : RdR W v1 ss) (e2 : RdR W v2 (rep ((1 : Int) : Rat))) => equalRat_any v1 v2 ss (rep ((1 : Int) : Rat)) W e1 e2
          rw [decide_eq_true hend] at heq
          have HFR := Lib.hid hfr; have HEQ := Lib.hid heq; have SBK := Lib.hid hz1; have SBR := Lib.hid hz2
          clear hend hz1 hz2 hss hfr heq
          go_wp2_with fail
          refine wp_region_each_tail 3 (uniF ss) (by kernel_rfl) (by kernel_rfl) (by kernel_rfl) (fun _ _ _ _ h x => uniF_ext h x) ?_ ?_
          · refine ⟨?_, ?_, ?_, trivial⟩
            · intro a W hW hB hD K hK
              have b7 := hB 7 rfl
              simp only [Array.getD_eq_getD_getElem?, List.getElem?_toArray, List.getElem?_cons_succ, List.getElem?_cons_zero, Option.getD_some] at b7
              have q9 := (SBK.out.ext hW).cell; have l9 := (SBK.out.ext hW).lt
              go_simp
              exact hK _ _ (Ext.refl _) ⟨_, _, _, _, rfl, SBR.out.ext hW⟩
            · intro a W hW hB hD K hK
              go_simp
              refine (HFR.out _).mono ?_
              rintro e w9 ⟨⟨v, rfl, nn⟩, hx⟩
              exact hK _ _ hx ⟨_, rfl, nn.rd⟩
            · intro a W hW hB hD K hK
              obtain ⟨v207, e207⟩ : ∃ x, a.tmps.getD 207 undef = x := ⟨_, rfl⟩
              have h207 := hD 0 _ 207 rfl rfl (by kernel_rfl)
              rw [e207] at h207
              simp only [Array.getD_eq_getD_getElem?] at e207
              obtain ⟨d1, d2, d3, d4, rfl, dh⟩ := h207
              obtain ⟨v208, e208⟩ : ∃ x, a.tmps.getD 208 undef = x := ⟨_, rfl⟩
              have h208 := hD 1 _ 208 rfl rfl (by kernel_rfl)
              rw [e208] at h208
              simp only [Array.getD_eq_getD_getElem?] at e208
              obtain ⟨e1, rfl, eh⟩ := h208
              go_simp
              refine (HEQ.out _ _ _ dh eh).mono ?_
              rintro e w9 ⟨rfl, hx⟩
              exact hK _ _ hx rfl
          intro w9 hx
          simp only [Vals, List.take_succ_cons, List.take_zero, List.drop_succ_cons, List.drop_zero]
          rintro u0 - u1 - u2 h2
          obtain rfl : u2 = .bool true := h2
          simp only [Act.put, List.setIfInBounds_toArray, List.set_cons_zero, List.set_cons_succ]
          go_wp2_with fail
          go_ret
          exact ⟨rfl, X0.out.trans ((X.out.trans X1.out).trans hx)⟩

end Go.Proofs.Ytlbppdgijjbjbaa
