/- Walk of the law InterpBetween: it returns true (written by mkbtw.py). Conditions: a grid and a list that read as ints; two lists that read as numbers. -/
import Derived.Test.YtlbppdgijjbjbaaInW
import Derived.Test.YtlbppdgijjbjbaaInK
import Derived.Test.YtlbppdgijjbjbaaGM
import Derived.Test.YtlbppdgijjbjbaaRwR
import Derived.Test.YtlbppdgijjbjbaaEachF
import Derived.Test.YtlbppdgijjbjbaaAppB
import Derived.Test.YtlbppdgijjbjbaaOwRows
namespace Go.Proofs.Ytlbppdgijjbjbaa
set_option linter.unusedSimpArgs false
set_option linter.unusedVariables false
open Go.RowKit

def btJ (pa pb : Option Addr) (ca cb n k ba oa bb ob : Nat) (p q t : RR) (et : Int) (wq : World) (j : Nat) (v : Value) (W : World) : Prop :=
  match j with
  | 0 => v = .slice pa n ca
  | 1 => v = .int .i64 k
  | 2 => v = .pointer (some ⟨ba, oa + k * 3, none⟩)
  | 3 => ∃ s1 s2 s3 s4, v = .agg #[.bool p.neg, .slice s1 p.num.length s2, .slice s3 p.den.length s4] ∧ RdR W (.agg #[.bool p.neg, .slice s1 p.num.length s2, .slice s3 p.den.length s4]) p
  | 4 => v = .slice pb n cb
  | 5 => v = .int .i64 k
  | 6 => v = .pointer (some ⟨bb, ob + k * 3, none⟩)
  | 7 => ∃ s1 s2 s3 s4, v = .agg #[.bool q.neg, .slice s1 q.num.length s2, .slice s3 q.den.length s4] ∧ RdR W (.agg #[.bool q.neg, .slice s1 q.num.length s2, .slice s3 q.den.length s4]) q
  | 8 => ∃ s1 s2 s3 s4, v = .tuple #[.agg #[.bool t.neg, .slice s1 t.num.length s2, .slice s3 t.den.length s4], .int .i64 et] ∧ NewR wq W (.agg #[.bool t.neg, .slice s1 t.num.length s2, .slice s3 t.den.length s4]) t
  | 9 => ∃ s1 s2 s3 s4, v = .tuple #[.agg #[.bool t.neg, .slice s1 t.num.length s2, .slice s3 t.den.length s4], .int .i64 et] ∧ NewR wq W (.agg #[.bool t.neg, .slice s1 t.num.length s2, .slice s3 t.den.length s4]) t
  | 10 => ∃ s1 s2 s3 s4, v = .agg #[.bool t.neg, .slice s1 t.num.length s2, .slice s3 t.den.length s4] ∧ NewR wq W (.agg #[.bool t.neg, .slice s1 t.num.length s2, .slice s3 t.den.length s4]) t
  | 11 => v = .int .i64 et
  | 12 => ∃ b, v = .pointer (some ⟨b, 0, none⟩) ∧ wq.heap.size ≤ b ∧ Blk W b #[.bool false, .slice none 0 0, .slice none 0 0] 35
  | _ => True
theorem btJ_ext {pa pb : Option Addr} {ca cb n k ba oa bb ob : Nat} {p q t : RR} {et : Int} {wq : World} {j : Nat} {v : Value} {W W' : World} (h : btJ pa pb ca cb n k ba oa bb ob p q t et wq j v W) (x : Ext W W') : btJ pa pb ca cb n k ba oa bb ob p q t et wq j v W' := by
  match j, h with
  | 0, h => exact h
  | 1, h => exact h
  | 2, h => exact h
  | 3, ⟨s1, s2, s3, s4, h1, h2⟩ => exact ⟨s1, s2, s3, s4, h1, h2.ext x⟩
  | 4, h => exact h
  | 5, h => exact h
  | 6, h => exact h
  | 7, ⟨s1, s2, s3, s4, h1, h2⟩ => exact ⟨s1, s2, s3, s4, h1, h2.ext x⟩
  | 8, ⟨s1, s2, s3, s4, h1, h2⟩ => exact ⟨s1, s2, s3, s4, h1, h2.ext x⟩
  | 9, ⟨s1, s2, s3, s4, h1, h2⟩ => exact ⟨s1, s2, s3, s4, h1, h2.ext x⟩
  | 10, ⟨s1, s2, s3, s4, h1, h2⟩ => exact ⟨s1, s2, s3, s4, h1, h2.ext x⟩
  | 11, h => exact h
  | 12, ⟨b, h0, h1, h2⟩ => exact ⟨b, h0, h1, h2.ext x⟩
  | _ + 13, _ => trivial
def bcJ (pa : Option Addr) (ca n k ba oa : Nat) (p y : RR) (c ec : Int) (j : Nat) (v : Value) (W : World) : Prop :=
  match j with
  | 0 => v = .slice pa n ca
  | 1 => v = .int .i64 k
  | 2 => v = .pointer (some ⟨ba, oa + k * 3, none⟩)
  | 3 => ∃ s1 s2 s3 s4, v = .agg #[.bool p.neg, .slice s1 p.num.length s2, .slice s3 p.den.length s4] ∧ RdR W (.agg #[.bool p.neg, .slice s1 p.num.length s2, .slice s3 p.den.length s4]) p
  | 4 => ∃ s1 s2 s3 s4, v = .agg #[.bool y.neg, .slice s1 y.num.length s2, .slice s3 y.den.length s4] ∧ RdR W (.agg #[.bool y.neg, .slice s1 y.num.length s2, .slice s3 y.den.length s4]) y
  | 5 => v = .tuple #[.int .i64 c, .int .i64 ec]
  | 6 => v = .tuple #[.int .i64 c, .int .i64 ec]
  | 7 => v = .int .i64 c
  | 8 => v = .int .i64 ec
  | _ => True
theorem bcJ_ext {pa : Option Addr} {ca n k ba oa : Nat} {p y : RR} {c ec : Int} {j : Nat} {v : Value} {W W' : World} (h : bcJ pa ca n k ba oa p y c ec j v W) (x : Ext W W') : bcJ pa ca n k ba oa p y c ec j v W' := by
  match j, h with
  | 0, h => exact h
  | 1, h => exact h
  | 2, h => exact h
  | 3, ⟨s1, s2, s3, s4, h1, h2⟩ => exact ⟨s1, s2, s3, s4, h1, h2.ext x⟩
  | 4, ⟨s1, s2, s3, s4, h1, h2⟩ => exact ⟨s1, s2, s3, s4, h1, h2.ext x⟩
  | 5, h => exact h
  | 6, h => exact h
  | 7, h => exact h
  | 8, h => exact h
  | _ + 9, _ => trivial

set_option maxRecDepth 100000 in
set_option maxHeartbeats 8000000 in
theorem betwL_any (gv av bv xv : Value) (g : List (List Int)) (va vb : List RR) (x : List Int) (w : World) (h : RdG w gv g) (ha : RdRs w av va) (hb : RdRs w bv vb) (hx : RdI .i64 w xv x) (hla : LimL va) (hlb : LimL vb) (hxb : ∀ i, i < x.length → -9223372036854775808 ≤ x.getD i 0 ∧ x.getD i 0 ≤ 9223372036854775807) :
    Calls Try.prog 4 #[gv, av, bv, xv] w fun e w' => e = .returned (.bool true) ∧ Ext w w' := by
  have HG := Lib.hid h; have HVA := Lib.hid ha; have HVB := Lib.hid hb; have HXI := Lib.hid hx; have HXB := Lib.hid hxb; have HLA := Lib.hid hla; have HLB := Lib.hid hlb; have X := Lib.hid (Ext.refl w)
  obtain ⟨a, cap, rfl, hgl⟩ := h.shape
  obtain ⟨pa, ca, rfl, hac, ham, fa, hfa⟩ := ha.get
  obtain ⟨pb, cb, rfl, hbc, hbm, fb, hfb⟩ := hb.get
  obtain ⟨ax, cx, rfl, hxc, hxm, _⟩ := hx.get
  have hal : va.length ≤ 9223372036854775807 := by omega
  have hbl : vb.length ≤ 9223372036854775807 := by omega
  have hxl : x.length ≤ 9223372036854775807 := by omega
  clear h ha hb hx hla hlb hxb hac ham hfa hbc hbm hfb hxc hxm fa fb
  go_enter Try.func4, Try.ntmps4
  go_wp2_with fail
  refine (long7_any _ g _ HG.out).mono ?_
  rintro e w1 ⟨⟨r, rfl, hr⟩, hx⟩
  have HG := Lib.hid (HG.out.ext hx); have HVA := Lib.hid (HVA.out.ext hx); have HVB := Lib.hid (HVB.out.ext hx); have HXI := Lib.hid (HXI.out.ext hx); have X := Lib.hid (X.out.trans hx)
  clear hr hx
  cases r
  rotate_left
  · go_wp2_with fail
    refine (awake7_any _).mono ?_
    rintro e w2 ⟨rfl, hx⟩
    have HG := Lib.hid (HG.out.ext hx); have HVA := Lib.hid (HVA.out.ext hx); have HVB := Lib.hid (HVB.out.ext hx); have HXI := Lib.hid (HXI.out.ext hx); have X := Lib.hid (X.out.trans hx)
    clear hx
    go_wp2_with fail
    go_ret
    exact ⟨rfl, X.out⟩
  by_cases h3 : 300 < va.length
  · have qh3 : (300 : Int) < (va.length : Int) := by omega
    go_wp2_with fail
    refine (awake7_any _).mono ?_
    rintro e w2 ⟨rfl, hx⟩
    have HG := Lib.hid (HG.out.ext hx); have HVA := Lib.hid (HVA.out.ext hx); have HVB := Lib.hid (HVB.out.ext hx); have HXI := Lib.hid (HXI.out.ext hx); have X := Lib.hid (X.out.trans hx)
    clear hx
    go_wp2_with fail
    go_ret
    exact ⟨rfl, X.out⟩
  have qh3 : ¬ (300 : Int) < (va.length : Int) := by omega
  by_cases h4 : 300 < vb.length
  · have qh4 : (300 : Int) < (vb.length : Int) := by omega
    go_wp2_with fail
    refine (awake7_any _).mono ?_
    rintro e w2 ⟨rfl, hx⟩
    have HG := Lib.hid (HG.out.ext hx); have HVA := Lib.hid (HVA.out.ext hx); have HVB := Lib.hid (HVB.out.ext hx); have HXI := Lib.hid (HXI.out.ext hx); have X := Lib.hid (X.out.trans hx)
    clear hx
    go_wp2_with fail
    go_ret
    exact ⟨rfl, X.out⟩
  have qh4 : ¬ (300 : Int) < (vb.length : Int) := by omega
  by_cases h5 : 20 < x.length
  · have qh5 : (20 : Int) < (x.length : Int) := by omega
    go_wp2_with fail
    refine (awake7_any _).mono ?_
    rintro e w2 ⟨rfl, hx⟩
    have HG := Lib.hid (HG.out.ext hx); have HVA := Lib.hid (HVA.out.ext hx); have HVB := Lib.hid (HVB.out.ext hx); have HXI := Lib.hid (HXI.out.ext hx); have X := Lib.hid (X.out.trans hx)
    clear hx
    go_wp2_with fail
    go_ret
    exact ⟨rfl, X.out⟩
  have qh5 : ¬ (20 : Int) < (x.length : Int) := by omega
  go_wp2_with fail
  refine (long6s_any _ va _ HVA.out (by omega)).mono ?_
  rintro e w2 ⟨⟨r, rfl, hr⟩, hx⟩
  have HG := Lib.hid (HG.out.ext hx); have HVA := Lib.hid (HVA.out.ext hx); have HVB := Lib.hid (HVB.out.ext hx); have HXI := Lib.hid (HXI.out.ext hx); have X := Lib.hid (X.out.trans hx)
  clear hr hx
  cases r
  rotate_left
  · go_wp2_with fail
    refine (awake7_any _).mono ?_
    rintro e w3 ⟨rfl, hx⟩
    have HG := Lib.hid (HG.out.ext hx); have HVA := Lib.hid (HVA.out.ext hx); have HVB := Lib.hid (HVB.out.ext hx); have HXI := Lib.hid (HXI.out.ext hx); have X := Lib.hid (X.out.trans hx)
    clear hx
    go_wp2_with fail
    go_ret
    exact ⟨rfl, X.out⟩
  go_wp2_with fail
  refine (long6s_any _ vb _ HVB.out (by omega)).mono ?_
  rintro e w3 ⟨⟨r, rfl, hr⟩, hx⟩
  have HG := Lib.hid (HG.out.ext hx); have HVA := Lib.hid (HVA.out.ext hx); have HVB := Lib.hid (HVB.out.ext hx); have HXI := Lib.hid (HXI.out.ext hx); have X := Lib.hid (X.out.trans hx)
  clear hr hx
  cases r
  rotate_left
  · go_wp2_with fail
    refine (awake7_any _).mono ?_
    rintro e w4 ⟨rfl, hx⟩
    have HG := Lib.hid (HG.out.ext hx); have HVA := Lib.hid (HVA.out.ext hx); have HVB := Lib.hid (HVB.out.ext hx); have HXI := Lib.hid (HXI.out.ext hx); have X := Lib.hid (X.out.trans hx)
    clear hx
    go_wp2_with fail
    go_ret
    exact ⟨rfl, X.out⟩
  go_wp2_with fail
  refine (awake7_any _).mono ?_
  rintro e w4 ⟨rfl, hx⟩
  have HG := Lib.hid (HG.out.ext hx); have HVA := Lib.hid (HVA.out.ext hx); have HVB := Lib.hid (HVB.out.ext hx); have HXI := Lib.hid (HXI.out.ext hx); have X := Lib.hid (X.out.trans hx)
  clear hx
  clear qh3 qh4 qh5
  have hva := fun W (h : RdG W (.slice a g.length cap) g) (k : RdRs W (.slice pa va.length ca) va) (m : RdI .i64 W (.slice ax x.length cx) x) => value7_any _ _ _ g va x W h k HLA.out m HXB.out
  have hvb := fun W (h : RdG W (.slice a g.length cap) g) (k : RdRs W (.slice pb vb.length cb) vb) (m : RdI .i64 W (.slice ax x.length cx) x) => value7_any _ _ _ g vb x W h k HLB.out m HXB.out
  have hvs := fun W vs (h : RdG W (.slice a g.length cap) g) (k : RdRs W vs (addK va vb va.length)) (m : RdI .i64 W (.slice ax x.length cx) x) => value7_any _ vs _ g (addK va vb va.length) x W h k (addK_lim _ _ _) m HXB.out
  have hlaw := fun h1 h2 h3 h4 h5 => between_law (g := g) (x := x) HLA.out HLB.out h1 h2 h3 h4 h5
  have hly := fun (h1 : (valueS g va x).2 = 0) => (value_ok h1).choose_spec.2.2.2.2.1
  have hlz := fun (h1 : (valueS g vb x).2 = 0) => (value_ok h1).choose_spec.2.2.2.2.1
  have hly2 : (valueS g va x).2 = 0 → LimR (valueS g va x).1 := fun h => by rw [hly h]; exact limR_rep _
  have hlz2 : (valueS g vb x).2 = 0 → LimR (valueS g vb x).1 := fun h => by rw [hlz h]; exact limR_rep _
  clear hly hlz
  obtain ⟨ra, hra⟩ : ∃ r, r = valueS g va x := ⟨_, rfl⟩
  obtain ⟨rb, hrb⟩ : ∃ r, r = valueS g vb x := ⟨_, rfl⟩
  rw [← hra] at hva hlaw hly2
  rw [← hrb] at hvb hlaw hlz2
  clear hra hrb
  obtain ⟨y, ey⟩ := ra
  obtain ⟨z, ez⟩ := rb
  dsimp only at hva hvb hlaw hly2 hlz2
  have HVAC := Lib.hid hva; have HVBC := Lib.hid hvb; have HVSC := Lib.hid hvs; have HLAW := Lib.hid hlaw; have HLY := Lib.hid hly2; have HLZ := Lib.hid hlz2
  clear hva hvb hvs hlaw hly2 hlz2
  go_wp2_with fail
  refine (HVAC.out _ HG.out HVA.out HXI.out).mono ?_
  rintro e w5 ⟨⟨v, rfl, nn⟩, hx⟩
  have HG := Lib.hid (HG.out.ext hx); have HVA := Lib.hid (HVA.out.ext hx); have HVB := Lib.hid (HVB.out.ext hx); have HXI := Lib.hid (HXI.out.ext hx); have X := Lib.hid (X.out.trans hx)
  obtain ⟨y1, y2, y3, y4, rfl⟩ := nn.shape
  have Ny := Lib.hid nn.rd
  clear nn hx
  go_wp2_with fail
  have bb0 := (Blk.new w5 #[.bool y.neg, .slice y1 y.num.length y2, .slice y3 y.den.length y4] 35)
  have hx : Ext w5 (w5.alloc (.cells #[.bool y.neg, .slice y1 y.num.length y2, .slice y3 y.den.length y4] 35)) := ((Ext.refl w5).alloc _)
  obtain ⟨w106, hw106⟩ : ∃ W, W = (w5.alloc (.cells #[.bool y.neg, .slice y1 y.num.length y2, .slice y3 y.den.length y4] 35)) := ⟨_, rfl⟩
  rw [← hw106] at hx bb0 ⊢; clear hw106
  obtain ⟨BYn, hBYn⟩ : ∃ n, n = w5.heap.size := ⟨_, rfl⟩
  rw [← hBYn] at bb0 ⊢; clear hBYn
  have HG := Lib.hid (HG.out.ext hx); have HVA := Lib.hid (HVA.out.ext hx); have HVB := Lib.hid (HVB.out.ext hx); have HXI := Lib.hid (HXI.out.ext hx); have Ny := Lib.hid (Ny.out.ext hx); have X := Lib.hid (X.out.trans hx)
  clear hx
  have BY := Lib.hid bb0; clear bb0
  go_wp2_with fail
  refine (HVBC.out _ HG.out HVB.out HXI.out).mono ?_
  rintro e w7 ⟨⟨v, rfl, nn⟩, hx⟩
  have HG := Lib.hid (HG.out.ext hx); have HVA := Lib.hid (HVA.out.ext hx); have HVB := Lib.hid (HVB.out.ext hx); have HXI := Lib.hid (HXI.out.ext hx); have Ny := Lib.hid (Ny.out.ext hx); have BY := Lib.hid (BY.out.ext hx); have X := Lib.hid (X.out.trans hx)
  obtain ⟨z1, z2, z3, z4, rfl⟩ := nn.shape
  have Nz := Lib.hid nn.rd
  clear nn hx
  by_cases e1 : ey = 0
  rotate_left
  · have q1 : (ey != 0) = true := bne_iff_ne.2 e1
    clear e1
    go_wp2_with fail
    go_ret
    exact ⟨rfl, X.out.alloc _⟩
  subst e1
  by_cases e2 : ez = 0
  rotate_left
  · have q1 : (ez != 0) = true := bne_iff_ne.2 e2
    clear e2
    go_wp2_with fail
    go_ret
    exact ⟨rfl, X.out.alloc _⟩
  subst e2
  by_cases e3 : va.length = vb.length
  rotate_left
  · have q1 : ((va.length : Int) != (vb.length : Int)) = true := bne_iff_ne.2 (by omega)
    clear e3
    go_wp2_with fail
    go_ret
    exact ⟨rfl, X.out.alloc _⟩
  have HE3 := Lib.hid e3
  have LMY : Hid (LimR y) := Lib.hid (by have h := HLY.out; simpa using h); have LMZ : Hid (LimR z) := Lib.hid (by have h := HLZ.out; simpa using h)
  clear HLY HLZ
  rw [← e3] at HVB ⊢
  have hln : va.length ≤ 300 := by omega
  clear e3 h3 h4 h5
  have q1 : ((va.length : Int) != (va.length : Int)) = false := by simp
  go_wp2_with fail
  have bb0 := (Blk.new w7 #[.bool z.neg, .slice z1 z.num.length z2, .slice z3 z.den.length z4] 35)
  have hx : Ext w7 (w7.alloc (.cells #[.bool z.neg, .slice z1 z.num.length z2, .slice z3 z.den.length z4] 35)) := ((Ext.refl w7).alloc _)
  obtain ⟨w108, hw108⟩ : ∃ W, W = (w7.alloc (.cells #[.bool z.neg, .slice z1 z.num.length z2, .slice z3 z.den.length z4] 35)) := ⟨_, rfl⟩
  rw [← hw108] at hx bb0 ⊢; clear hw108
  obtain ⟨BZn, hBZn⟩ : ∃ n, n = w7.heap.size := ⟨_, rfl⟩
  rw [← hBZn] at bb0 ⊢; clear hBZn
  have HG := Lib.hid (HG.out.ext hx); have HVA := Lib.hid (HVA.out.ext hx); have HVB := Lib.hid (HVB.out.ext hx); have HXI := Lib.hid (HXI.out.ext hx); have Ny := Lib.hid (Ny.out.ext hx); have BY := Lib.hid (BY.out.ext hx); have Nz := Lib.hid (Nz.out.ext hx); have X := Lib.hid (X.out.trans hx)
  clear hx
  have BZ := Lib.hid bb0; clear bb0
  clear q1
  obtain ⟨wB, hwB⟩ : ∃ W, W = w108 := ⟨_, rfl⟩
  rw [← hwB] at HG HVA HVB HXI Ny Nz BY BZ X ⊢
  clear hwB
  have XA := X
  go_loopw [13, 14, 15, 16] (fun s be ab i wr => ∃ k : Nat, k ≤ va.length ∧ i = .int .i64 k ∧ be = .bool (belowK va y k) ∧ ab = .bool (aboveK va y k) ∧ (∀ i, i < k → (addR (va.getD i zR) (vb.getD i zR)).2 = 0) ∧ (∀ i, i < k → (cmpR (va.getD i zR) y).2 = 0) ∧ OwRs wB.heap.size wr s (addK va vb k) ∧ Ext wB wr) (fun _ _ _ i _ => va.length - (intOf i).toNat)
  case atStart => exact ⟨0, Nat.zero_le _, rfl, rfl, rfl, fun i h => absurd h (Nat.not_lt_zero i), fun i h => absurd h (Nat.not_lt_zero i), OwRow.nil _ _ _ _ _, Ext.refl _⟩
  case round =>
    obtain ⟨wk, hwk⟩ : ∃ W, W = wr := ⟨_, rfl⟩
    subst hwk
    obtain ⟨k, hk, rfl, rfl, rfl, hsa, hsc, hown, hext⟩ := hrel
    have X := Lib.hid hext; have HO := Lib.hid hown; have HSA := Lib.hid hsa; have HSC := Lib.hid hsc
    clear hext hown hsa hsc
    by_cases hlt : k < va.length
    · have hlt2 : k < vb.length := by have := HE3.out; omega
      have hbs := belowK_succ va y k; have hks := addK_succ va vb k; have has := aboveK_succ va y k
      have lp := HLA.out k hlt; have lq := HLB.out k hlt2
      have hsa2 : (addR (va.getD k zR) (vb.getD k zR)).2 = 0 → ∀ i, i < k + 1 → (addR (va.getD i zR) (vb.getD i zR)).2 = 0 := fun h i hi => by
        by_cases e : i = k
        · rw [e]; exact h
        · exact HSA.out i (by omega)
      have hsc2 : (cmpR (va.getD k zR) y).2 = 0 → ∀ i, i < k + 1 → (cmpR (va.getD i zR) y).2 = 0 := fun h i hi => by
        by_cases e : i = k
        · rw [e]; exact h
        · exact HSC.out i (by omega)
      obtain ⟨_, _, e1, _, _, fa, hfa⟩ := HVA.out.get
      injection e1 with e0 e4 e5
      subst e0; clear e4 e5
      obtain ⟨ba, oa, rfl, hba, m0, m1, m2, hra⟩ := hfa k hlt
      obtain ⟨_, _, e1, _, _, fb, hfb⟩ := HVB.out.get
      injection e1 with e0 e4 e5
      subst e0; clear e4 e5
      obtain ⟨bb, ob, rfl, hbb, n0, n1, n2, hrb⟩ := hfb k hlt2
      clear hfa hfb
      obtain ⟨p, hp⟩ : ∃ p, p = va.getD k zR := ⟨_, rfl⟩
      obtain ⟨u, hu⟩ : ∃ p, p = vb.getD k zR := ⟨_, rfl⟩
      rw [← hp] at hbs hks has lp hsa2 hsc2 m0 m1 m2 hra
      rw [← hu] at hks lq hsa2 n0 n1 n2 hrb
      obtain ⟨ff, hff⟩ : ∃ f, f = fa k := ⟨_, rfl⟩
      rw [← hff] at m1 m2 hra
      obtain ⟨⟨a1, a2⟩, ⟨a3, a4⟩⟩ := ff
      obtain ⟨fg, hfg⟩ : ∃ f, f = fb k := ⟨_, rfl⟩
      rw [← hfg] at n1 n2 hrb
      obtain ⟨⟨b1, b2⟩, ⟨b3, b4⟩⟩ := fg
      dsimp only at m1 m2 hra n1 n2 hrb
      have hadd := fun W v1 v2 (e1 : RdR W v1 p) (e2 : RdR W v2 u) => addR_any v1 v2 p u W e1 e2 lp lq
      have hcmp := fun W v1 v2 (e1 : RdR W v1 p) (e2 : RdR W v2 y) => cmpR_any v1 v2 p y W e1 e2 lp LMY.out
      have hlim := addR_lim p u
      obtain ⟨tt, htt⟩ : ∃ t, t = addR p u := ⟨_, rfl⟩
      rw [← htt] at hadd hsa2 hks hlim
      obtain ⟨t, et⟩ := tt
      obtain ⟨cc, hcc⟩ : ∃ t, t = cmpR p y := ⟨_, rfl⟩
      rw [← hcc] at hcmp hsc2 hbs has
      obtain ⟨c, ec⟩ := cc
      dsimp only at hadd hsa2 hks hlim hcmp hsc2 hbs has
      have HAD := Lib.hid hadd; have HCM := Lib.hid hcmp; have HBS := Lib.hid hbs; have HAS := Lib.hid has; have HKS := Lib.hid hks; have HSA2 := Lib.hid hsa2; have HSC2 := Lib.hid hsc2
      have CA : Hid (ba < wB.heap.size ∧ wB.cell? ⟨ba, oa + k * 3, none⟩ = some (.bool p.neg) ∧ wB.cell? ⟨ba, oa + k * 3 + 1, none⟩ = some (.slice a1 p.num.length a2) ∧ wB.cell? ⟨ba, oa + k * 3 + 2, none⟩ = some (.slice a3 p.den.length a4) ∧ RdR wB (.agg #[.bool p.neg, .slice a1 p.num.length a2, .slice a3 p.den.length a4]) p) := Lib.hid ⟨hba, m0, m1, m2, hra⟩
      have CB : Hid (bb < wB.heap.size ∧ wB.cell? ⟨bb, ob + k * 3, none⟩ = some (.bool u.neg) ∧ wB.cell? ⟨bb, ob + k * 3 + 1, none⟩ = some (.slice b1 u.num.length b2) ∧ wB.cell? ⟨bb, ob + k * 3 + 2, none⟩ = some (.slice b3 u.den.length b4) ∧ RdR wB (.agg #[.bool u.neg, .slice b1 u.num.length b2, .slice b3 u.den.length b4]) u) := Lib.hid ⟨hbb, n0, n1, n2, hrb⟩
      clear hlt2 hbs hks has lp lq hsa2 hsc2 hba m0 m1 m2 hra hbb n0 n1 n2 hrb hp hu hff hfg hadd hcmp hlim htt hcc
      have q1 : (k : Int) < (va.length : Int) := by omega
      have q2 : (0 : Int) ≤ (k : Int) := by omega
      go_wp2_with fail
      refine wp_region_each_float 13 11 (btJ (some ⟨ba, oa, none⟩) (some ⟨bb, ob, none⟩) ca cb va.length k ba oa bb ob p u t et wk) rfl (by kernel_rfl) (by kernel_rfl) (by kernel_rfl) (fun _ _ _ _ h x => btJ_ext h x) (fun _ _ d _ _ h => by cases d <;> exact h) ?_ ?_ ?_
      · refine ⟨?_, ?_, ?_, ?_, ?_, ?_, ?_, ?_, ?_, ?_, ?_, ?_, ?_, trivial⟩
        · intro a W hW hB hD K hK
          have b1 := hB 1 rfl
          simp only [Array.getD_eq_getD_getElem?, List.getElem?_toArray, List.getElem?_cons_succ, List.getElem?_cons_zero, Option.getD_some] at b1
          go_simp
          exact hK _ _ (Ext.refl _) rfl
        · intro a W hW hB hD K hK
          have b16 := hB 16 rfl
          simp only [Array.getD_eq_getD_getElem?, List.getElem?_toArray, List.getElem?_cons_succ, List.getElem?_cons_zero, Option.getD_some] at b16
          go_simp
          exact hK _ _ (Ext.refl _) rfl
        · intro a W hW hB hD K hK
          obtain ⟨v89, e89⟩ : ∃ x, a.tmps.getD 89 undef = x := ⟨_, rfl⟩
          have h89 := hD 0 _ 89 rfl rfl (by kernel_rfl)
          rw [e89] at h89
          simp only [Array.getD_eq_getD_getElem?] at e89
          obtain rfl := h89
          obtain ⟨v90, e90⟩ : ∃ x, a.tmps.getD 90 undef = x := ⟨_, rfl⟩
          have h90 := hD 1 _ 90 rfl rfl (by kernel_rfl)
          rw [e90] at h90
          simp only [Array.getD_eq_getD_getElem?] at e90
          obtain rfl := h90
          go_simp
          exact hK _ _ (Ext.refl _) rfl
        · intro a W hW hB hD K hK
          obtain ⟨v91, e91⟩ : ∃ x, a.tmps.getD 91 undef = x := ⟨_, rfl⟩
          have h91 := hD 2 _ 91 rfl rfl (by kernel_rfl)
          rw [e91] at h91
          simp only [Array.getD_eq_getD_getElem?] at e91
          obtain rfl := h91
          have m0 := ((X.out.trans hW).cell (p := ⟨ba, oa + k * 3, none⟩) CA.out.1).trans CA.out.2.1
          have m1 := ((X.out.trans hW).cell (p := ⟨ba, oa + k * 3 + 1, none⟩) CA.out.1).trans CA.out.2.2.1
          have m2 := ((X.out.trans hW).cell (p := ⟨ba, oa + k * 3 + 2, none⟩) CA.out.1).trans CA.out.2.2.2.1
          have ml := Nat.lt_of_lt_of_le CA.out.1 (X.out.trans hW).size
          go_simp
          exact hK _ _ (Ext.refl _) ⟨_, _, _, _, rfl, CA.out.2.2.2.2.ext (X.out.trans hW)⟩
        · intro a W hW hB hD K hK
          have b2 := hB 2 rfl
          simp only [Array.getD_eq_getD_getElem?, List.getElem?_toArray, List.getElem?_cons_succ, List.getElem?_cons_zero, Option.getD_some] at b2
          go_simp
          exact hK _ _ (Ext.refl _) rfl
        · intro a W hW hB hD K hK
          have b16 := hB 16 rfl
          simp only [Array.getD_eq_getD_getElem?, List.getElem?_toArray, List.getElem?_cons_succ, List.getElem?_cons_zero, Option.getD_some] at b16
          go_simp
          exact hK _ _ (Ext.refl _) rfl
        · intro a W hW hB hD K hK
          obtain ⟨v93, e93⟩ : ∃ x, a.tmps.getD 93 undef = x := ⟨_, rfl⟩
          have h93 := hD 4 _ 93 rfl rfl (by kernel_rfl)
          rw [e93] at h93
          simp only [Array.getD_eq_getD_getElem?] at e93
          obtain rfl := h93
          obtain ⟨v94, e94⟩ : ∃ x, a.tmps.getD 94 undef = x := ⟨_, rfl⟩
          have h94 := hD 5 _ 94 rfl rfl (by kernel_rfl)
          rw [e94] at h94
          simp only [Array.getD_eq_getD_getElem?] at e94
          obtain rfl := h94
          go_simp
          exact hK _ _ (Ext.refl _) rfl
        · intro a W hW hB hD K hK
          obtain ⟨v95, e95⟩ : ∃ x, a.tmps.getD 95 undef = x := ⟨_, rfl⟩
          have h95 := hD 6 _ 95 rfl rfl (by kernel_rfl)
          rw [e95] at h95
          simp only [Array.getD_eq_getD_getElem?] at e95
          obtain rfl := h95
          have m0 := ((X.out.trans hW).cell (p := ⟨bb, ob + k * 3, none⟩) CB.out.1).trans CB.out.2.1
          have m1 := ((X.out.trans hW).cell (p := ⟨bb, ob + k * 3 + 1, none⟩) CB.out.1).trans CB.out.2.2.1
          have m2 := ((X.out.trans hW).cell (p := ⟨bb, ob + k * 3 + 2, none⟩) CB.out.1).trans CB.out.2.2.2.1
          have ml := Nat.lt_of_lt_of_le CB.out.1 (X.out.trans hW).size
          go_simp
          exact hK _ _ (Ext.refl _) ⟨_, _, _, _, rfl, CB.out.2.2.2.2.ext (X.out.trans hW)⟩
        · intro a W hW hB hD K hK
          obtain ⟨v92, e92⟩ : ∃ x, a.tmps.getD 92 undef = x := ⟨_, rfl⟩
          have h92 := hD 3 _ 92 rfl rfl (by kernel_rfl)
          rw [e92] at h92
          simp only [Array.getD_eq_getD_getElem?] at e92
          obtain ⟨d1, d2, d3, d4, rfl, dh⟩ := h92
          obtain ⟨v96, e96⟩ : ∃ x, a.tmps.getD 96 undef = x := ⟨_, rfl⟩
          have h96 := hD 7 _ 96 rfl rfl (by kernel_rfl)
          rw [e96] at h96
          simp only [Array.getD_eq_getD_getElem?] at e96
          obtain ⟨e1, e2, e3, e4, rfl, eh⟩ := h96
          go_simp
          refine (HAD.out _ _ _ dh eh).mono ?_
          rintro e w9 ⟨⟨v, rfl, nn⟩, hx⟩
          obtain ⟨s1, s2, s3, s4, rfl⟩ := nn.shape
          exact hK _ _ hx ⟨_, _, _, _, rfl, nn.from hW⟩
        · intro a W hW hB hD K hK
          obtain ⟨v97, e97⟩ : ∃ x, a.tmps.getD 97 undef = x := ⟨_, rfl⟩
          have h97 := hD 8 _ 97 rfl rfl (by kernel_rfl)
          rw [e97] at h97
          simp only [Array.getD_eq_getD_getElem?] at e97
          obtain ⟨d1, d2, d3, d4, rfl, dh⟩ := h97
          go_simp
          exact hK _ _ (Ext.refl _) ⟨_, _, _, _, rfl, dh⟩
        · intro a W hW hB hD K hK
          obtain ⟨v88, e88⟩ : ∃ x, a.tmps.getD 88 undef = x := ⟨_, rfl⟩
          have h88 := hD 9 _ 88 rfl rfl (by kernel_rfl)
          rw [e88] at h88
          simp only [Array.getD_eq_getD_getElem?] at e88
          obtain ⟨d1, d2, d3, d4, rfl, dh⟩ := h88
          go_simp
          exact hK _ _ (Ext.refl _) ⟨_, _, _, _, rfl, dh⟩
        · intro a W hW hB hD K hK
          obtain ⟨v88, e88⟩ : ∃ x, a.tmps.getD 88 undef = x := ⟨_, rfl⟩
          have h88 := hD 9 _ 88 rfl rfl (by kernel_rfl)
          rw [e88] at h88
          simp only [Array.getD_eq_getD_getElem?] at e88
          obtain ⟨d1, d2, d3, d4, rfl, dh⟩ := h88
          go_simp
          exact hK _ _ (Ext.refl _) rfl
        · intro a W hW hB hD K hK
          go_simp
          exact hK _ _ ((Ext.refl _).alloc _) ⟨_, rfl, hW.size, Blk.new _ _ _⟩
      · intro a W hW hB hD
        have h88 := hD 9 _ 88 rfl rfl (by kernel_rfl)
        obtain ⟨v88, e88⟩ : ∃ x, a.tmps.getD 88 undef = x := ⟨_, rfl⟩
        rw [e88] at h88
        obtain ⟨d1, d2, d3, d4, rfl, dh⟩ := h88
        exact ⟨.int .i64 et, fun w9 => run_extract9 e88 rfl rfl w9, rfl⟩
      intro w7 hx
      simp only [Vals, List.take_succ_cons, List.take_zero, List.drop_succ_cons, List.drop_zero]
      rintro u0 - u1 - u2 - u3 - u4 - u5 - u6 - u7 - u8 - u9 - u10 h10 u11 h11 u12 h12
      obtain ⟨t1, t2, t3, t4, rfl, ht⟩ := h10
      obtain rfl : u11 = .int .i64 et := h11
      obtain ⟨bp, rfl, hge, hbp⟩ := h12
      simp only [Act.put, List.setIfInBounds_toArray, List.set_cons_zero, List.set_cons_succ]
      have HT := Lib.hid ht; have BP := Lib.hid hbp; have HGE := Lib.hid hge; have XI := Lib.hid hx
      clear ht hbp hge hx
      have qS := BP.out.cell; have fS := BP.out.free; have lS := BP.out.lt
      go_wp2_with fail
      clear qS fS lS
      have hnt : NewR wk (((w7.setCell ⟨bp, 0, none⟩ (.bool t.neg)).setCell ⟨bp, 1, none⟩ (.slice t1 t.num.length t2)).setCell ⟨bp, 2, none⟩ (.slice t3 t.den.length t4)) (.agg #[.bool t.neg, .slice t1 t.num.length t2, .slice t3 t.den.length t4]) t := HT.out.set3b BP.out (by decide) _ _ _
      have hsb : Blk (((w7.setCell ⟨bp, 0, none⟩ (.bool t.neg)).setCell ⟨bp, 1, none⟩ (.slice t1 t.num.length t2)).setCell ⟨bp, 2, none⟩ (.slice t3 t.den.length t4)) bp #[.bool t.neg, .slice t1 t.num.length t2, .slice t3 t.den.length t4] 35 := BP.out.all3 _ _ _
      have hx : Ext wB (((w7.setCell ⟨bp, 0, none⟩ (.bool t.neg)).setCell ⟨bp, 1, none⟩ (.slice t1 t.num.length t2)).setCell ⟨bp, 2, none⟩ (.slice t3 t.den.length t4)) := ext_put3 (o := 0) (X.out.trans XI.out) (Nat.le_trans X.out.size HGE.out)
      have hx2 : Ext wk (((w7.setCell ⟨bp, 0, none⟩ (.bool t.neg)).setCell ⟨bp, 1, none⟩ (.slice t1 t.num.length t2)).setCell ⟨bp, 2, none⟩ (.slice t3 t.den.length t4)) := ext_put3 (o := 0) XI.out HGE.out
      obtain ⟨w6, hw6⟩ : ∃ W, W = (((w7.setCell ⟨bp, 0, none⟩ (.bool t.neg)).setCell ⟨bp, 1, none⟩ (.slice t1 t.num.length t2)).setCell ⟨bp, 2, none⟩ (.slice t3 t.den.length t4)) := ⟨_, rfl⟩
      rw [← hw6] at hnt hsb hx hx2 ⊢
      have NT := Lib.hid hnt; have SB := Lib.hid hsb; have XK := Lib.hid hx2; have XB := Lib.hid hx
      clear hnt hsb hx hx2 HT BP HGE XI hw6 HAD
      have X : Hid (Ext wB w6) := XB
      refine wp_region_each_float 9 8 (bcJ (some ⟨ba, oa, none⟩) ca va.length k ba oa p y c ec) rfl (by kernel_rfl) (by kernel_rfl) (by kernel_rfl) (fun _ _ _ _ h x => bcJ_ext h x) (fun _ _ d _ _ h => by cases d <;> exact h) ?_ ?_ ?_
      · refine ⟨?_, ?_, ?_, ?_, ?_, ?_, ?_, ?_, ?_, trivial⟩
        · intro a W hW hB hD K hK
          have b1 := hB 1 rfl
          simp only [Array.getD_eq_getD_getElem?, List.getElem?_toArray, List.getElem?_cons_succ, List.getElem?_cons_zero, Option.getD_some] at b1
          go_simp
          exact hK _ _ (Ext.refl _) rfl
        · intro a W hW hB hD K hK
          have b16 := hB 16 rfl
          simp only [Array.getD_eq_getD_getElem?, List.getElem?_toArray, List.getElem?_cons_succ, List.getElem?_cons_zero, Option.getD_some] at b16
          go_simp
          exact hK _ _ (Ext.refl _) rfl
        · intro a W hW hB hD K hK
          obtain ⟨v101, e101⟩ : ∃ x, a.tmps.getD 101 undef = x := ⟨_, rfl⟩
          have h101 := hD 0 _ 101 rfl rfl (by kernel_rfl)
          rw [e101] at h101
          simp only [Array.getD_eq_getD_getElem?] at e101
          obtain rfl := h101
          obtain ⟨v102, e102⟩ : ∃ x, a.tmps.getD 102 undef = x := ⟨_, rfl⟩
          have h102 := hD 1 _ 102 rfl rfl (by kernel_rfl)
          rw [e102] at h102
          simp only [Array.getD_eq_getD_getElem?] at e102
          obtain rfl := h102
          go_simp
          exact hK _ _ (Ext.refl _) rfl
        · intro a W hW hB hD K hK
          obtain ⟨v103, e103⟩ : ∃ x, a.tmps.getD 103 undef = x := ⟨_, rfl⟩
          have h103 := hD 2 _ 103 rfl rfl (by kernel_rfl)
          rw [e103] at h103
          simp only [Array.getD_eq_getD_getElem?] at e103
          obtain rfl := h103
          have m0 := ((X.out.trans hW).cell (p := ⟨ba, oa + k * 3, none⟩) CA.out.1).trans CA.out.2.1
          have m1 := ((X.out.trans hW).cell (p := ⟨ba, oa + k * 3 + 1, none⟩) CA.out.1).trans CA.out.2.2.1
          have m2 := ((X.out.trans hW).cell (p := ⟨ba, oa + k * 3 + 2, none⟩) CA.out.1).trans CA.out.2.2.2.1
          have ml := Nat.lt_of_lt_of_le CA.out.1 (X.out.trans hW).size
          go_simp
          exact hK _ _ (Ext.refl _) ⟨_, _, _, _, rfl, CA.out.2.2.2.2.ext (X.out.trans hW)⟩
        · intro a W hW hB hD K hK
          have b9 := hB 9 rfl
          simp only [Array.getD_eq_getD_getElem?, List.getElem?_toArray, List.getElem?_cons_succ, List.getElem?_cons_zero, Option.getD_some] at b9
          have q9 := (BY.out.ext (X.out.trans hW)).cell; have l9 := (BY.out.ext (X.out.trans hW)).lt
          go_simp
          exact hK _ _ (Ext.refl _) ⟨_, _, _, _, rfl, Ny.out.ext (X.out.trans hW)⟩
        · intro a W hW hB hD K hK
          obtain ⟨v104, e104⟩ : ∃ x, a.tmps.getD 104 undef = x := ⟨_, rfl⟩
          have h104 := hD 3 _ 104 rfl rfl (by kernel_rfl)
          rw [e104] at h104
          simp only [Array.getD_eq_getD_getElem?] at e104
          obtain ⟨d1, d2, d3, d4, rfl, dh⟩ := h104
          obtain ⟨v105, e105⟩ : ∃ x, a.tmps.getD 105 undef = x := ⟨_, rfl⟩
          have h105 := hD 4 _ 105 rfl rfl (by kernel_rfl)
          rw [e105] at h105
          simp only [Array.getD_eq_getD_getElem?] at e105
          obtain ⟨e1, e2, e3, e4, rfl, eh⟩ := h105
          go_simp
          refine (HCM.out _ _ _ dh eh).mono ?_
          rintro e w9 ⟨rfl, hx⟩
          exact hK _ _ hx rfl
        · intro a W hW hB hD K hK
          obtain ⟨v106, e106⟩ : ∃ x, a.tmps.getD 106 undef = x := ⟨_, rfl⟩
          have h106 := hD 5 _ 106 rfl rfl (by kernel_rfl)
          rw [e106] at h106
          simp only [Array.getD_eq_getD_getElem?] at e106
          obtain rfl := h106
          go_simp
          exact hK _ _ (Ext.refl _) rfl
        · intro a W hW hB hD K hK
          obtain ⟨v100, e100⟩ : ∃ x, a.tmps.getD 100 undef = x := ⟨_, rfl⟩
          have h100 := hD 6 _ 100 rfl rfl (by kernel_rfl)
          rw [e100] at h100
          simp only [Array.getD_eq_getD_getElem?] at e100
          obtain rfl := h100
          go_simp
          exact hK _ _ (Ext.refl _) rfl
        · intro a W hW hB hD K hK
          obtain ⟨v100, e100⟩ : ∃ x, a.tmps.getD 100 undef = x := ⟨_, rfl⟩
          have h100 := hD 6 _ 100 rfl rfl (by kernel_rfl)
          rw [e100] at h100
          simp only [Array.getD_eq_getD_getElem?] at e100
          obtain rfl := h100
          go_simp
          exact hK _ _ (Ext.refl _) rfl
      · intro a W hW hB hD
        have h100 := hD 6 _ 100 rfl rfl (by kernel_rfl)
        obtain ⟨v100, e100⟩ : ∃ x, a.tmps.getD 100 undef = x := ⟨_, rfl⟩
        rw [e100] at h100
        obtain rfl := h100
        exact ⟨.int .i64 ec, fun w9 => run_extract9 e100 rfl rfl w9, rfl⟩
      intro w5 hx
      simp only [Vals, List.take_succ_cons, List.take_zero, List.drop_succ_cons, List.drop_zero]
      rintro u0 - u1 - u2 - u3 - u4 - u5 - u6 - u7 h7 u8 h8
      obtain rfl : u7 = .int .i64 c := h7
      obtain rfl : u8 = .int .i64 ec := h8
      simp only [Act.put, List.setIfInBounds_toArray, List.set_cons_zero, List.set_cons_succ]
      have XB := Lib.hid (X.out.trans hx); have XK := Lib.hid (XK.out.trans hx); have NT := Lib.hid (NT.out.ext hx); have SB := Lib.hid (SB.out.ext hx)
      clear hx X HCM CA CB
      by_cases e1 : et = 0
      rotate_left
      · have q3 : (et != 0) = true := bne_iff_ne.2 e1
        clear e1
        go_wp2_with fail
        go_ret
        exact ⟨rfl, XA.out.trans XB.out⟩
      subst e1
      by_cases e2 : ec = 0
      rotate_left
      · have q3 : (ec != 0) = true := bne_iff_ne.2 e2
        clear e2
        go_wp2_with fail
        go_ret
        exact ⟨rfl, XA.out.trans XB.out⟩
      subst e2
      have qS := SB.out.cell; have fS := SB.out.free; have lS := SB.out.lt
      have hnb : Blk (w5.alloc (.cells #[.bool t.neg, .slice t1 t.num.length t2, .slice t3 t.den.length t4] 35)) w5.heap.size #[.bool t.neg, .slice t1 t.num.length t2, .slice t3 t.den.length t4] 35 := Blk.new w5 _ _
      have hx : Ext w5 (w5.alloc (.cells #[.bool t.neg, .slice t1 t.num.length t2, .slice t3 t.den.length t4] 35)) := (Ext.refl _).alloc _
      have HO1 := Lib.hid (OwRs.ext' HO.out (XK.out.trans hx)); have XR1 := Lib.hid (XB.out.trans hx); have HE := Lib.hid (ElR.new (B := wB.heap.size) (NT.out.ext hx)); have HBN := Lib.hid hnb
      have hz1 := Lib.hid XR1.out.size
      have HLK := Lib.hid (addK_len va vb k)
      clear hnb hx NT SB XK XB
      go_wp2_with (at_builtin; (refine wpList_append_rowB (w5.alloc (.cells #[.bool t.neg, .slice t1 t.num.length t2, .slice t3 t.den.length t4] 35)) rfl _ _ 36 rfl wB.heap.size 35 (.agg #[.bool false, .slice none 0 0, .slice none 0 0]) 3 56 Try.underlying36 Try.infoR rfl (by decide) (ElR.keeps (by decide)) _ _ HO1.out rfl [.bool t.neg, .slice t1 t.num.length t2, .slice t3 t.den.length t4] rfl (by simp [Value.oneCell']) t HE.out w5.heap.size HBN.out rfl (by have := HLK.out; omega) (by have := HLK.out; omega) hz1.out ?_))
      intro g9 cap2 w99 hown2 hk2
      clear qS fS lS
      have HO2 := Lib.hid hown2; have XR2 := Lib.hid (Below.trans XR1.out (hk2.below hz1.out))
      clear hown2 hk2 hz1
      rw [← HKS.out] at HO2
      obtain ⟨be, hbe⟩ : ∃ b, b = belowK va y k := ⟨_, rfl⟩
      obtain ⟨ab, hab⟩ : ∃ b, b = aboveK va y k := ⟨_, rfl⟩
      rw [← hbe, ← hab]
      rw [← hbe] at HBS
      rw [← hab] at HAS
      clear hbe hab
      cases be <;> cases ab
      · go_wp2_with fail
        go_roundw
        case rel => exact ⟨k + 1, by omega, by go_num, by rw [HBS.out]; simp, by rw [HAS.out]; simp, HSA2.out (by first | trivial | rfl), HSC2.out (by first | trivial | rfl), HO2.out, XR2.out⟩
        case measure => simp [intOf]; omega
      · go_wp2_with fail
        go_roundw
        case rel => exact ⟨k + 1, by omega, by go_num, by rw [HBS.out]; simp, by rw [HAS.out]; simp, HSA2.out (by first | trivial | rfl), HSC2.out (by first | trivial | rfl), HO2.out, XR2.out⟩
        case measure => simp [intOf]; omega
      · go_wp2_with fail
        go_roundw
        case rel => exact ⟨k + 1, by omega, by go_num, by rw [HBS.out]; simp, by rw [HAS.out]; simp, HSA2.out (by first | trivial | rfl), HSC2.out (by first | trivial | rfl), HO2.out, XR2.out⟩
        case measure => simp [intOf]; omega
      · go_wp2_with fail
        go_roundw
        case rel => exact ⟨k + 1, by omega, by go_num, by rw [HBS.out]; simp, by rw [HAS.out]; simp, HSA2.out (by first | trivial | rfl), HSC2.out (by first | trivial | rfl), HO2.out, XR2.out⟩
        case measure => simp [intOf]; omega
    · obtain rfl : k = va.length := by omega
      have q1 : ¬ (va.length : Int) < (va.length : Int) := by omega
      obtain ⟨l1, l2, l3⟩ := HLAW.out (by first | trivial | rfl) (by first | trivial | rfl) HE3.out HSA.out HSC.out
      rw [l1, l2]
      have RS := Lib.hid (OwRs.rd HO.out)
      have hsl := fun W (e : Ext wk W) => HVSC.out W _ (HG.out.ext (X.out.trans e)) (RS.out.ext e) (HXI.out.ext (X.out.trans e))
      have had := fun W v1 v2 (e1 : RdR W v1 y) (e2 : RdR W v2 z) => addR_any v1 v2 y z W e1 e2 LMY.out LMZ.out
      obtain ⟨ra, hra⟩ : ∃ r, r = valueS g (addK va vb va.length) x := ⟨_, rfl⟩
      obtain ⟨rb, hrb⟩ : ∃ r, r = addR y z := ⟨_, rfl⟩
      rw [← hra] at hsl l3
      rw [← hrb] at had l3
      obtain ⟨u, eu⟩ := ra
      obtain ⟨v, ev⟩ := rb
      dsimp only at hsl had l3
      have HSL := Lib.hid hsl; have HAD := Lib.hid had; have L3 := Lib.hid l3
      clear l1 l2 l3 hsl had hra hrb
      have X0 := X; have X : Hid (Ext wk wk) := Lib.hid (Ext.refl _)
      go_wp2_with fail
      refine (HSL.out _ X.out).mono ?_
      rintro e w201 ⟨⟨v, rfl, nn⟩, hx⟩
      have X := Lib.hid (X.out.trans hx)
      obtain ⟨u1, u2, u3, u4, rfl⟩ := nn.shape
      have Nu := Lib.hid nn.rd
      clear nn hx
      have qS := (BY.out.ext (X0.out.trans X.out)).cell; have fS := (BY.out.ext (X0.out.trans X.out)).free; have lS := (BY.out.ext (X0.out.trans X.out)).lt; have qT := (BZ.out.ext (X0.out.trans X.out)).cell; have fT := (BZ.out.ext (X0.out.trans X.out)).free; have lT := (BZ.out.ext (X0.out.trans X.out)).lt
      go_wp2_with fail
      clear qS fS lS qT fT lT
      have bb0 := (Blk.new w201 #[.bool u.neg, .slice u1 u.num.length u2, .slice u3 u.den.length u4] 35)
      have hx : Ext w201 (w201.alloc (.cells #[.bool u.neg, .slice u1 u.num.length u2, .slice u3 u.den.length u4] 35)) := ((Ext.refl w201).alloc _)
      obtain ⟨w302, hw302⟩ : ∃ W, W = (w201.alloc (.cells #[.bool u.neg, .slice u1 u.num.length u2, .slice u3 u.den.length u4] 35)) := ⟨_, rfl⟩
      rw [← hw302] at hx bb0 ⊢; clear hw302
      obtain ⟨BUn, hBUn⟩ : ∃ n, n = w201.heap.size := ⟨_, rfl⟩
      rw [← hBUn] at bb0 ⊢; clear hBUn
      have Nu := Lib.hid (Nu.out.ext hx); have X := Lib.hid (X.out.trans hx)
      clear hx
      have BU := Lib.hid bb0; clear bb0
      refine (HAD.out _ _ _ (Ny.out.ext (X0.out.trans X.out)) (Nz.out.ext (X0.out.trans X.out))).mono ?_
      rintro e w203 ⟨⟨v, rfl, nn⟩, hx⟩
      have Nu := Lib.hid (Nu.out.ext hx); have BU := Lib.hid (BU.out.ext hx); have X := Lib.hid (X.out.trans hx)
      obtain ⟨v1, v2, v3, v4, rfl⟩ := nn.shape
      have Nv := Lib.hid nn.rd
      clear nn hx
      by_cases e1 : eu = 4
      · subst e1
        go_wp2_with fail
        go_ret
        exact ⟨rfl, XA.out.trans (X0.out.trans (X.out.alloc _))⟩
      by_cases e2 : ev = 4
      · subst e2
        have q2 : (eu == 4) = false := beq_eq_false_iff_ne.2 e1
        clear e1
        go_wp2_with fail
        go_ret
        exact ⟨rfl, XA.out.trans (X0.out.trans (X.out.alloc _))⟩
      have l3 : eu = 0 ∧ ev = 0 ∧ u = v := by
        rcases L3.out with h | h | h
        · exact absurd h e1
        · exact absurd h e2
        · exact h
      obtain ⟨l31, l32, l33⟩ := l3
      subst l31; subst l32; subst l33
      clear e1 e2
      have bv := Blk.new w203 #[.bool u.neg, .slice v1 u.num.length v2, .slice v3 u.den.length v4] 35
      have bu := BU.out.alloc (.cells #[.bool u.neg, .slice v1 u.num.length v2, .slice v3 u.den.length v4] 35)
      have hx : Ext w203 (w203.alloc (.cells #[.bool u.neg, .slice v1 u.num.length v2, .slice v3 u.den.length v4] 35)) := (Ext.refl _).alloc _
      have qV := bv.cell; have fV := bv.free; have lV := bv.lt; have qU := bu.cell; have fU := bu.free; have lU := bu.lt
      have HX := Lib.hid hx
      clear bv bu hx
      go_wp2_with fail
      refine (equalRat_any _ _ _ _ _ (Nu.out.ext HX.out) (Nv.out.ext HX.out)).mono ?_
      rintro e w9 ⟨rfl, hx⟩
      have X := Lib.hid (X.out.trans (HX.out.trans hx))
      clear hx qV fV lV qU fU lU
      rw [decide_eq_true rfl]
      go_wp2_with fail
      go_ret
      exact ⟨rfl, XA.out.trans (X0.out.trans X.out)⟩

end Go.Proofs.Ytlbppdgijjbjbaa
