/- Walks of of and lowest of layer 6. Conditions: as each states. -/
import Derived.Test.YtebdmmlniohhgaaRatA
namespace Go.Proofs.Ytebdmmlniohhgaa
set_option linter.unusedSimpArgs false
set_option linter.unusedVariables false
open Go.RowKit

/-- A denominator that is written out. -/
def dl (l : List Int) : List Int := if l = [] then [1] else l
theorem nv_dl (l : List Int) : nv (dl l) = dnv l := by unfold dl dnv; split <;> rfl
theorem lim_dl {l : List Int} (h : Lim l) : Lim (dl l) := by
  unfold dl; split
  · intro x hx; rw [List.mem_singleton.1 hx]; omega
  · exact h
theorem noZ_dl {l : List Int} (h : NoZ l) : NoZ (dl l) := by
  unfold dl; split
  · simp [NoZ]
  · exact h
theorem len_dl {l : List Int} {k : Nat} (h : l.length ≤ k) (hk : 1 ≤ k) : (dl l).length ≤ k := by
  unfold dl; split
  · exact hk
  · exact h

/-- v is a value that reads x. -/
def RdV (w : World) (v : Value) (b : Bool) (ln ld : List Int) : Prop := ∃ vn vd, v = .agg #[vn, vd, .bool b] ∧ RdI .u32 w vn ln ∧ RdI .u32 w vd ld
theorem RdV.ext {w w' : World} {v : Value} {b : Bool} {ln ld : List Int} (h : RdV w v b ln ld) (e : Ext w w') : RdV w' v b ln ld := by
  obtain ⟨vn, vd, h1, h2, h3⟩ := h; exact ⟨vn, vd, h1, h2.ext e, h3.ext e⟩

set_option maxHeartbeats 1000000 in
theorem ofR_any (v : Value) (r : RR) (w : World) (h : RdR w v r) :
    Calls Try.prog 80 #[v] w fun e w' => (∃ v', e = .returned v' ∧ RdV w' v' r.neg r.num (dl r.den)) ∧ Ext w w' := by
  obtain ⟨vn, vd, rfl, hn, hd⟩ := h
  obtain ⟨an, cn, rfl⟩ := rdU_shape hn
  obtain ⟨ad, cd, rfl⟩ := rdU_shape hd
  have HN := Lib.hid hn; have HD := Lib.hid hd
  clear hn hd
  obtain ⟨b, ln, ld⟩ := r
  dsimp only at *
  by_cases h0 : ld = []
  · subst h0
    go_enter Try.func80, Try.ntmps80
    go_wp2_with fail
    refine bodyPost_ret (v := .agg #[.slice an ln.length cn, .slice (some ⟨w.heap.size + 1 + 1 + 1, 0, none⟩) 1 1, .bool b]) (by simp only [results, Try.results80]; go_simp) rfl ⟨⟨_, rfl, _, _, rfl, HN.out.ext (by (repeat (first | (with_reducible exact Ext.refl _) | (with_reducible assumption) | (with_reducible refine Ext.alloc ?_ _) | ((with_reducible refine Ext.setp ?_ ?_); focus (dsimp only; omega)) | (with_reducible refine Ext.drew ?_) | (with_reducible refine Ext.drewN ?_ _) | (with_reducible refine Ext.trans ?_ (by assumption))))), ?_⟩, by (repeat (first | (with_reducible exact Ext.refl _) | (with_reducible assumption) | (with_reducible refine Ext.alloc ?_ _) | ((with_reducible refine Ext.setp ?_ ?_); focus (dsimp only; omega)) | (with_reducible refine Ext.drew ?_) | (with_reducible refine Ext.drewN ?_ _) | (with_reducible refine Ext.trans ?_ (by assumption))))⟩
    have h1 := rdU_new ((((w.alloc (.cells #[.bool b, .slice an ln.length cn, .slice ad 0 cd] 26)).alloc (.cells #[.slice an ln.length cn, .slice (some ⟨w.heap.size + 1 + 1 + 1, 0, none⟩) 1 1, .bool b] 76)).alloc (.cells #[.slice an ln.length cn, .slice (some ⟨w.heap.size + 1 + 1 + 1, 0, none⟩) 1 1, .bool b] 76))) [1] (by simp)
    simp only [World.size_alloc] at h1
    exact h1
  · have hl : ¬ ld.length = 0 := fun e => h0 (List.length_eq_zero_iff.1 e)
    have e : dl ld = ld := by unfold dl; rw [if_neg h0]
    rw [e]
    have hl' : ((ld.length : Int) == 0) = false := by simpa using hl
    clear h0 e
    go_enter Try.func80, Try.ntmps80
    go_wp2_with fail
    exact bodyPost_ret (v := .agg #[.slice an ln.length cn, .slice ad ld.length cd, .bool b]) (by simp only [results, Try.results80]; go_simp) rfl ⟨⟨_, rfl, _, _, rfl, HN.out.ext (by (repeat (first | (with_reducible exact Ext.refl _) | (with_reducible assumption) | (with_reducible refine Ext.alloc ?_ _) | ((with_reducible refine Ext.setp ?_ ?_); focus (dsimp only; omega)) | (with_reducible refine Ext.drew ?_) | (with_reducible refine Ext.drewN ?_ _) | (with_reducible refine Ext.trans ?_ (by assumption))))), HD.out.ext (by (repeat (first | (with_reducible exact Ext.refl _) | (with_reducible assumption) | (with_reducible refine Ext.alloc ?_ _) | ((with_reducible refine Ext.setp ?_ ?_); focus (dsimp only; omega)) | (with_reducible refine Ext.drew ?_) | (with_reducible refine Ext.drewN ?_ _) | (with_reducible refine Ext.trans ?_ (by assumption)))))⟩, by (repeat (first | (with_reducible exact Ext.refl _) | (with_reducible assumption) | (with_reducible refine Ext.alloc ?_ _) | ((with_reducible refine Ext.setp ?_ ?_); focus (dsimp only; omega)) | (with_reducible refine Ext.drew ?_) | (with_reducible refine Ext.drewN ?_ _) | (with_reducible refine Ext.trans ?_ (by assumption))))⟩

/-- A store into a block of another kind. -/
theorem OwB.setBlk {A : World} {B : Nat} {v : Value} {l : List Int} (h : OwB A B v l) {bx : Nat} {c : Array Value} {t : TypeId} (hb : Blk A bx c t) (ht : t ≠ 46) (o : Nat) (u : Value) : OwB (A.setCell ⟨bx, o, none⟩ u) B v l := by
  obtain ⟨q, h1, h2⟩ := h
  refine ⟨q, ?_, h2⟩
  rcases h1 with h | ⟨g, cap, ho, hv, hr⟩
  · exact .inl h
  · refine .inr ⟨g, cap, ho, hv, hr.setOther ?_ u⟩
    intro e
    obtain ⟨cur, h3, _⟩ := hr.blk
    have e2 : g = bx := by first | exact e | exact Eq.symm e
    rw [e2] at h3
    unfold Blk at hb h3
    rw [hb] at h3
    injection h3 with h3
    injection h3 with _ h4
    exact ht h4

/-- .. a reading, likewise. -/
theorem rdI_setBlk {A : World} {v : Value} {l : List Int} (h : RdI .u32 A v l) {bx : Nat} {c : Array Value} {t : TypeId} (hb : Blk A bx c t) (ht : ∀ x ∈ c, ∀ n, x ≠ .int .u32 n) (o : Nat) (u : Value) : RdI .u32 (A.setCell ⟨bx, o, none⟩ u) v l := by
  obtain ⟨a, cap, rfl, h1, h2, h3⟩ := rdU h
  refine RdA.to (p := fun _ => True) ⟨a, cap, rfl, h1, h2, fun i hi => ?_⟩
  obtain ⟨b, off, e1, e2, e3⟩ := h3 i hi
  have hne : b ≠ bx := by
    intro e
    rw [e, hb.cell] at e3
    exact ht _ (Array.mem_of_getElem? e3) _ rfl
  refine ⟨b, off, e1, trivial, by simpa [World.setCell] using e2, ?_⟩
  rw [← e3]
  exact World.cell?_of_block (Below.heap_setCell _ _ _ _ hne)

/-- A block of three cells, for regions: the block, and its cells. -/
def S3 (b : Nat) (x y z : Value) (t : TypeId) (W : World) : Prop := Blk W b #[x, y, z] t ∧ W.cell? ⟨b, 0, none⟩ = some x ∧ W.cell? ⟨b, 1, none⟩ = some y ∧ W.cell? ⟨b, 2, none⟩ = some z
theorem Blk.s3 {b : Nat} {x y z : Value} {t : TypeId} {W : World} (h : Blk W b #[x, y, z] t) : Blk W b #[x, y, z] t ∧ W.cell? ⟨b, 0, none⟩ = some x ∧ W.cell? ⟨b, 1, none⟩ = some y ∧ W.cell? ⟨b, 2, none⟩ = some z :=
  ⟨h, by simpa using h.cell 0, by simpa using h.cell 1, by simpa using h.cell 2⟩

set_option maxHeartbeats 1000000 in
theorem low_any (v : Value) (b : Bool) (ln ld : List Int) (w : World) (h : RdV w v b ln ld) (hn : Lim ln) (hd : Lim ld) (zn : NoZ ln) (zd : NoZ ld) (sn : ln.length ≤ 512) (sd : ld.length ≤ 512) (h0 : nv ld ≠ 0) :
    Calls Try.prog 67 #[v] w fun e w' => (∃ v', e = .returned v' ∧ NewR w w' v' (rep (mkRat (sg b (nv ln)) (nv ld)))) ∧ Ext w w' := by
  obtain ⟨vn, vd, rfl, hrn, hrd⟩ := h
  obtain ⟨an, cn, rfl⟩ := rdU_shape hrn
  obtain ⟨ad, cd, rfl⟩ := rdU_shape hrd
  have HN := Lib.hid hrn; have HD := Lib.hid hrd
  have LN := Lib.hid hn; have LD := Lib.hid hd; have ZN := Lib.hid zn; have ZD := Lib.hid zd
  clear hrn hrd hn hd zn zd
  by_cases hz : nv ln = 0
  · have hl : ln.length = 0 := (nv_zero_iff LN.out ZN.out).1 hz
    have e : rep (mkRat (sg b (nv ln)) (nv ld)) = zR := by rw [hz]; exact low_zero _ _
    rw [e]
    clear e hz
    go_enter Try.func67, Try.ntmps67
    go_wp2_with fail
    exact bodyPost_ret (v := .agg #[.bool false, .slice none 0 0, .slice none 0 0]) (by simp only [results, Try.results67]; go_simp) rfl ⟨⟨_, rfl, NewR.zero _ _⟩, by (repeat (first | (with_reducible exact Ext.refl _) | (with_reducible assumption) | (with_reducible refine Ext.alloc ?_ _) | ((with_reducible refine Ext.setp ?_ ?_); focus (dsimp only; omega)) | (with_reducible refine Ext.drew ?_) | (with_reducible refine Ext.drewN ?_ _) | (with_reducible refine Ext.trans ?_ (by assumption))))⟩
  · have hl : ¬ ln.length = 0 := fun e => hz ((nv_zero_iff LN.out ZN.out).2 e)
    have e := low_spec b hz h0
    rw [e]
    clear e
    obtain ⟨g, hg⟩ : ∃ g, g = Nat.gcd (nv ln) (nv ld) := ⟨_, rfl⟩
    have hgp : g ≠ 0 := by rw [hg]; exact Nat.ne_of_gt (Nat.gcd_pos_of_pos_left _ (Nat.pos_of_ne_zero hz))
    have hgl : g ≤ nv ln := by rw [hg]; exact Nat.gcd_le_left _ (Nat.pos_of_ne_zero hz)
    have hg5 : (lim g).length ≤ 512 := Nat.le_trans (lim_len_le.2 (Nat.lt_of_le_of_lt hgl (nv_lt LN.out))) sn
    have hgs : gcdS ln ld = (lim g, 0) := by unfold gcdS; rw [opS_ok (chk2_ok sn ZN.out sd ZD.out), hg]
    rw [← hg]
    have hl' : ((ln.length : Int) == 0) = false := by simpa using hl
    have HGS := Lib.hid hgs
    clear hg hgs
    obtain ⟨RS, hRS⟩ : ∃ RS, RS = RR.mk b (lim (nv ln / g)) (if nv ld / g = 1 then [] else lim (nv ld / g)) := ⟨_, rfl⟩
    rw [← hRS]
    have HRS := Lib.hid hRS
    clear hRS
    have b0 := (Blk.new w #[.slice an ln.length cn, .slice ad ld.length cd, .bool b] 76).alloc (.cells #[.bool false, .slice none 0 0, .slice none 0 0] 26)
    have b1 := Blk.new (w.alloc (.cells #[.slice an ln.length cn, .slice ad ld.length cd, .bool b] 76)) #[.bool false, .slice none 0 0, .slice none 0 0] 26
    rw [World.size_alloc] at b1
    have x0 : Ext w ((w.alloc (.cells #[.slice an ln.length cn, .slice ad ld.length cd, .bool b] 76)).alloc (.cells #[.bool false, .slice none 0 0, .slice none 0 0] 26)) := ((Ext.refl w).alloc _).alloc _
    have B0 := Lib.hid b0; have B1 := Lib.hid b1; have X0 := Lib.hid x0
    clear b0 b1 x0
    go_enter Try.func67, Try.ntmps67
    go_wp2_with fail
    refine (gcd_any _ _ ln ld _ (HN.out.ext X0.out) (HD.out.ext X0.out) LN.out LD.out).mono ?_
    rw [HGS.out]
    rintro e w2 ⟨⟨v2, rfl, n2⟩, hx2⟩
    obtain ⟨a2, c2, rfl⟩ := n2.shape
    have N2 := Lib.hid n2.rd; have X2 := Lib.hid (X0.out.trans hx2); have B0' := Lib.hid (B0.out.ext hx2); have B1' := Lib.hid (B1.out.ext hx2)
    clear n2 hx2 B0 B1 X0
    go_wp2_with fail
    refine (unitR_any _ (lim g) _ N2.out).mono ?_
    by_cases hg1 : g = 1
    · have e1 : decide (lim g = [1]) = true := by rw [hg1]; rfl
      have hrep : RR.mk b (lim (nv ln / g)) (if nv ld / g = 1 then [] else lim (nv ld / g)) = RR.mk b ln (if ld = [1] then [] else ld) := by
        rw [hg1, Nat.div_one, Nat.div_one, lim_nv LN.out ZN.out, lim_nv LD.out ZD.out]
        have : nv ld = 1 ↔ ld = [1] := ⟨fun e => by rw [← lim_nv LD.out ZD.out, e]; rfl, fun e => by rw [e]; rfl⟩
        simp only [this]
      rw [e1]
      have HREP := Lib.hid (HRS.out.trans hrep)
      rintro e w3 ⟨rfl, hx3⟩
      have X3 := Lib.hid (X2.out.trans hx3); have P0 := Lib.hid (B0'.out.ext hx3); have P1 := Lib.hid (B1'.out.ext hx3)
      clear hx3 e1 hrep
      have c0 := P0.out.cell; have f0 := P0.out.free
      have HNN := Lib.hid (HN.out.ext X3.out); have HDD := Lib.hid (HD.out.ext X3.out)
      go_wp2_with fail
      have hmx : Try.prog.follows .mixedOrders = true := by kernel_rfl
      have x3 := X3.out
      have lt0 := P0.out.lt; have lt1 := P1.out.lt
      go_region_held3 (fun W => Blk W w.heap.size #[.slice an ln.length cn, .slice ad ld.length cd, .bool b] 76 ∧ W.cell? ⟨w.heap.size, 0, none⟩ = some (.slice an ln.length cn) ∧ W.cell? ⟨w.heap.size, 1, none⟩ = some (.slice ad ld.length cd) ∧ W.cell? ⟨w.heap.size, 2, none⟩ = some (.bool b))
        ((refine Blk.s3 ?_; (repeat (first | exact P0.out | exact k4 | refine Blk.setOther ?_ (by dsimp only; omega) _ | refine Blk.alloc ?_ _ | refine Blk.drew ?_))))
        (first | (go_at_call 79; refine (clone_any _ ln _ (HNN.out.ext (by (repeat (first | (with_reducible exact Ext.refl _) | (with_reducible assumption) | (with_reducible refine Ext.alloc ?_ _) | ((with_reducible refine Ext.setp ?_ ?_); focus (dsimp only; omega)) | (with_reducible refine Ext.drew ?_) | (with_reducible refine Ext.drewN ?_ _) | (with_reducible refine Ext.trans ?_ (by assumption)))))) (by omega)).mono ?_; rintro e w4 ⟨⟨v4, rfl, n4⟩, hx4⟩; obtain ⟨a4, c4, rfl⟩ := n4.shape; have N4 := Lib.hid n4; have z4 := hx4.size; have e4 : Ext w3 w4 := Ext.trans (by (repeat (first | (with_reducible exact Ext.refl _) | (with_reducible assumption) | (with_reducible refine Ext.alloc ?_ _) | ((with_reducible refine Ext.setp ?_ ?_); focus (dsimp only; omega)) | (with_reducible refine Ext.drew ?_) | (with_reducible refine Ext.drewN ?_ _) | (with_reducible refine Ext.trans ?_ (by assumption))))) hx4; have k4 := P0.out.ext e4; have qc := fun h => (hx4.block_at (b := w3.heap.size) h).1; have qf := fun h => (hx4.block_at (b := w3.heap.size) h).2; (try simp only [World.size_alloc, World.size_drew] at qc qf z4); clear n4))
      · have B5 : Hid (Blk (w4.alloc (.cells #[.bool b, .slice a4 ln.length c4, .slice none 0 0] 26)) w4.heap.size #[.bool b, .slice a4 ln.length c4, .slice none 0 0] 26) := Lib.hid (Blk.new _ _ _)
        have K5 := Lib.hid (k4.alloc (.cells #[.bool b, .slice a4 ln.length c4, .slice none 0 0] 26))
        have R5 := Lib.hid ((P1.out.ext e4).alloc (.cells #[.bool b, .slice a4 ln.length c4, .slice none 0 0] 26))
        have Y5 := Lib.hid (e4.alloc (.cells #[.bool b, .slice a4 ln.length c4, .slice none 0 0] 26))
        have X5 := Lib.hid ((x3.trans e4).alloc (.cells #[.bool b, .slice a4 ln.length c4, .slice none 0 0] 26))
        have V5 : Hid (OwB (w4.alloc (.cells #[.bool b, .slice a4 ln.length c4, .slice none 0 0] 26)) (w.heap.size + 1 + 1) (.slice a4 ln.length c4) ln) := Lib.hid ((OwB.mono N4.out (B' := w.heap.size + 1 + 1) (by (try simp only [World.size_alloc, World.size_drew]); omega)).ext ((Ext.refl w4).alloc (.cells #[.bool b, .slice a4 ln.length c4, .slice none 0 0] 26)))
        clear hx4 qc qf N4 k4
        generalize hbx : w4.heap.size = bx at *
        generalize w4.alloc (.cells #[.bool b, .slice a4 ln.length c4, .slice none 0 0] 26) = w5 at *

        have b5 := B5.out.cell; have fb5 := B5.out.free; have lb5 := B5.out.lt; have r5 := R5.out.cell; have fr5 := R5.out.free; have lr5 := R5.out.lt; have k5 := K5.out.cell; have lk5 := K5.out.lt
        go_wp2_with fail
        refine (unitR_any _ ld w5 (HDD.out.ext Y5.out)).mono ?_
        clear b5 fb5 r5 fr5 k5
        by_cases hu : ld = [1]
        · rw [decide_eq_true hu]
          have HU := Lib.hid hu
          clear hu
          rintro e w6 ⟨rfl, hx6⟩
          have B6 := B5.out.ext hx6; have R6 := R5.out.ext hx6; have X6 := Lib.hid (X5.out.trans hx6); have V6 := Lib.hid (V5.out.ext hx6)
          have b6 := B6.cell; have fb6 := B6.free; have lb6 := B6.lt; have r6 := R6.cell; have fr6 := R6.free; have lr6 := R6.lt
          clear hx6 B6 R6
          go_wp2_with fail
          exact bodyPost_ret (v := .agg #[.bool b, .slice a4 ln.length c4, .slice none 0 0]) (by simp only [results, Try.results67]; go_simp) rfl ⟨⟨_, rfl, by rw [HREP.out, if_pos HU.out]; exact ⟨_, _, rfl, OwB.mono (((V6.out.setBelow (by dsimp only; omega) _).setBelow (by dsimp only; omega) _).setBelow (by dsimp only; omega) _) (by omega), NewV.nil _ _⟩⟩, by have := X6.out; (repeat (first | (with_reducible exact Ext.refl _) | (with_reducible assumption) | (with_reducible refine Ext.alloc ?_ _) | ((with_reducible refine Ext.setp ?_ ?_); focus (dsimp only; omega)) | (with_reducible refine Ext.drew ?_) | (with_reducible refine Ext.drewN ?_ _) | (with_reducible refine Ext.trans ?_ (by assumption))))⟩
        · rw [decide_eq_false hu]
          have HU := Lib.hid hu
          rintro e w6 ⟨rfl, hx6⟩
          have B6 := Lib.hid (B5.out.ext hx6); have K6 := (K5.out.ext hx6); have R6 := Lib.hid (R5.out.ext hx6); have X6 := Lib.hid (X5.out.trans hx6); have Y6 := Lib.hid (Y5.out.trans hx6); have V6 := Lib.hid (V5.out.ext hx6)
          have k6 := K6.cell; have fk6 := K6.free; have lk6 := K6.lt; have lb6 := B6.out.lt; have lr6 := R6.out.lt
          clear hx6 K6 hu
          go_wp2_with fail
          refine (clone_any _ ld w6 (HDD.out.ext Y6.out) (by omega)).mono ?_
          rintro e w7 ⟨⟨v7, rfl, n7⟩, hx7⟩
          obtain ⟨a7, c7, rfl⟩ := n7.shape
          have N7 : Hid (OwB w7 w6.heap.size (.slice a7 ld.length c7) ld) := Lib.hid n7; have B7 := B6.out.ext hx7; have BB7 := Lib.hid B7; have R7 := R6.out.ext hx7; have X7 := Lib.hid (X6.out.trans hx7); have V7 := Lib.hid (V6.out.ext hx7)
          have b7 := B7.cell; have fb7 := B7.free; have lb7 := B7.lt; have r7 := R7.cell; have fr7 := R7.free; have lr7 := R7.lt
          clear hx7 B7 R7 k6 fk6 n7
          go_wp2_with fail
          refine bodyPost_ret (v := .agg #[.bool b, .slice a4 ln.length c4, .slice a7 ld.length c7]) (by simp only [results, Try.results67]; go_simp) rfl ⟨⟨_, rfl, ?_⟩, ?_⟩
          · rw [HREP.out, if_neg HU.out]
            exact ⟨_, _, rfl, OwB.mono ((((V7.out.setBlk BB7.out (by decide) _ _).setBelow (by dsimp only; omega) _).setBelow (by dsimp only; omega) _).setBelow (by dsimp only; omega) _) (by omega),
              OwB.mono ((((N7.out.setBelow (by dsimp only; omega) _).setBelow (by dsimp only; omega) _).setBelow (by dsimp only; omega) _).setBelow (by dsimp only; omega) _) (by omega)⟩
          · have := X7.out; (repeat (first | (with_reducible exact Ext.refl _) | (with_reducible assumption) | (with_reducible refine Ext.alloc ?_ _) | ((with_reducible refine Ext.setp ?_ ?_); focus (dsimp only; omega)) | (with_reducible refine Ext.drew ?_) | (with_reducible refine Ext.drewN ?_ _) | (with_reducible refine Ext.trans ?_ (by assumption))))
      · have B5 : Hid (Blk (((w4.setCell ⟨w3.heap.size, 0, none⟩ (.bool b)).setCell ⟨w3.heap.size, 1, none⟩ (.slice a4 ln.length c4)).setCell ⟨w3.heap.size, 2, none⟩ (.slice none 0 0)) w3.heap.size #[.bool b, .slice a4 ln.length c4, .slice none 0 0] 26) := by
          have h1 := ((Blk.new w3 #[.bool false, .slice none 0 0, .slice none 0 0] 26).drew).ext hx4
          have h2 := ((h1.set 0 (.bool b)).set 1 (.slice a4 ln.length c4)).set 2 (.slice none 0 0)
          exact Lib.hid (by simpa using h2)
        have K5 := Lib.hid (((k4.setOther (a := ⟨w3.heap.size, 0, none⟩) (by dsimp only; omega) (.bool b)).setOther (a := ⟨w3.heap.size, 1, none⟩) (by dsimp only; omega) (.slice a4 ln.length c4)).setOther (a := ⟨w3.heap.size, 2, none⟩) (by dsimp only; omega) (.slice none 0 0))
        have R5 := Lib.hid ((((P1.out.ext e4).setOther (a := ⟨w3.heap.size, 0, none⟩) (by dsimp only; omega) (.bool b)).setOther (a := ⟨w3.heap.size, 1, none⟩) (by dsimp only; omega) (.slice a4 ln.length c4)).setOther (a := ⟨w3.heap.size, 2, none⟩) (by dsimp only; omega) (.slice none 0 0))
        have Y5 := Lib.hid (((e4.set (p := ⟨w3.heap.size, 0, none⟩) (Nat.le_refl _) (.bool b)).set (p := ⟨w3.heap.size, 1, none⟩) (Nat.le_refl _) (.slice a4 ln.length c4)).set (p := ⟨w3.heap.size, 2, none⟩) (Nat.le_refl _) (.slice none 0 0))
        have X5 := Lib.hid ((((x3.trans e4).set (p := ⟨w3.heap.size, 0, none⟩) (by dsimp only; omega) (.bool b)).set (p := ⟨w3.heap.size, 1, none⟩) (by dsimp only; omega) (.slice a4 ln.length c4)).set (p := ⟨w3.heap.size, 2, none⟩) (by dsimp only; omega) (.slice none 0 0))
        have V5 := Lib.hid (((((OwB.mono N4.out (B' := w3.heap.size + 1) (by (try simp only [World.size_alloc, World.size_drew]); omega)).setBelow (p := ⟨w3.heap.size, 0, none⟩) (by dsimp only; omega) (.bool b)).setBelow (p := ⟨w3.heap.size, 1, none⟩) (by dsimp only; omega) (.slice a4 ln.length c4)).setBelow (p := ⟨w3.heap.size, 2, none⟩) (by dsimp only; omega) (.slice none 0 0)).mono (B' := w.heap.size + 1 + 1) (by omega))
        clear hx4 qc qf N4 k4
        generalize ((w4.setCell ⟨w3.heap.size, 0, none⟩ (.bool b)).setCell ⟨w3.heap.size, 1, none⟩ (.slice a4 ln.length c4)).setCell ⟨w3.heap.size, 2, none⟩ (.slice none 0 0) = w5 at *
        generalize hbx : w3.heap.size = bx at *

        have b5 := B5.out.cell; have fb5 := B5.out.free; have lb5 := B5.out.lt; have r5 := R5.out.cell; have fr5 := R5.out.free; have lr5 := R5.out.lt; have k5 := K5.out.cell; have lk5 := K5.out.lt
        go_wp2_with fail
        refine (unitR_any _ ld w5 (HDD.out.ext Y5.out)).mono ?_
        clear b5 fb5 r5 fr5 k5
        by_cases hu : ld = [1]
        · rw [decide_eq_true hu]
          have HU := Lib.hid hu
          clear hu
          rintro e w6 ⟨rfl, hx6⟩
          have B6 := B5.out.ext hx6; have R6 := R5.out.ext hx6; have X6 := Lib.hid (X5.out.trans hx6); have V6 := Lib.hid (V5.out.ext hx6)
          have b6 := B6.cell; have fb6 := B6.free; have lb6 := B6.lt; have r6 := R6.cell; have fr6 := R6.free; have lr6 := R6.lt
          clear hx6 B6 R6
          go_wp2_with fail
          exact bodyPost_ret (v := .agg #[.bool b, .slice a4 ln.length c4, .slice none 0 0]) (by simp only [results, Try.results67]; go_simp) rfl ⟨⟨_, rfl, by rw [HREP.out, if_pos HU.out]; exact ⟨_, _, rfl, OwB.mono (((V6.out.setBelow (by dsimp only; omega) _).setBelow (by dsimp only; omega) _).setBelow (by dsimp only; omega) _) (by omega), NewV.nil _ _⟩⟩, by have := X6.out; (repeat (first | (with_reducible exact Ext.refl _) | (with_reducible assumption) | (with_reducible refine Ext.alloc ?_ _) | ((with_reducible refine Ext.setp ?_ ?_); focus (dsimp only; omega)) | (with_reducible refine Ext.drew ?_) | (with_reducible refine Ext.drewN ?_ _) | (with_reducible refine Ext.trans ?_ (by assumption))))⟩
        · rw [decide_eq_false hu]
          have HU := Lib.hid hu
          rintro e w6 ⟨rfl, hx6⟩
          have B6 := Lib.hid (B5.out.ext hx6); have K6 := (K5.out.ext hx6); have R6 := Lib.hid (R5.out.ext hx6); have X6 := Lib.hid (X5.out.trans hx6); have Y6 := Lib.hid (Y5.out.trans hx6); have V6 := Lib.hid (V5.out.ext hx6)
          have k6 := K6.cell; have fk6 := K6.free; have lk6 := K6.lt; have lb6 := B6.out.lt; have lr6 := R6.out.lt
          clear hx6 K6 hu
          go_wp2_with fail
          refine (clone_any _ ld w6 (HDD.out.ext Y6.out) (by omega)).mono ?_
          rintro e w7 ⟨⟨v7, rfl, n7⟩, hx7⟩
          obtain ⟨a7, c7, rfl⟩ := n7.shape
          have N7 : Hid (OwB w7 w6.heap.size (.slice a7 ld.length c7) ld) := Lib.hid n7; have B7 := B6.out.ext hx7; have BB7 := Lib.hid B7; have R7 := R6.out.ext hx7; have X7 := Lib.hid (X6.out.trans hx7); have V7 := Lib.hid (V6.out.ext hx7)
          have b7 := B7.cell; have fb7 := B7.free; have lb7 := B7.lt; have r7 := R7.cell; have fr7 := R7.free; have lr7 := R7.lt
          clear hx7 B7 R7 k6 fk6 n7
          go_wp2_with fail
          refine bodyPost_ret (v := .agg #[.bool b, .slice a4 ln.length c4, .slice a7 ld.length c7]) (by simp only [results, Try.results67]; go_simp) rfl ⟨⟨_, rfl, ?_⟩, ?_⟩
          · rw [HREP.out, if_neg HU.out]
            exact ⟨_, _, rfl, OwB.mono ((((V7.out.setBlk BB7.out (by decide) _ _).setBelow (by dsimp only; omega) _).setBelow (by dsimp only; omega) _).setBelow (by dsimp only; omega) _) (by omega),
              OwB.mono ((((N7.out.setBelow (by dsimp only; omega) _).setBelow (by dsimp only; omega) _).setBelow (by dsimp only; omega) _).setBelow (by dsimp only; omega) _) (by omega)⟩
          · have := X7.out; (repeat (first | (with_reducible exact Ext.refl _) | (with_reducible assumption) | (with_reducible refine Ext.alloc ?_ _) | ((with_reducible refine Ext.setp ?_ ?_); focus (dsimp only; omega)) | (with_reducible refine Ext.drew ?_) | (with_reducible refine Ext.drewN ?_ _) | (with_reducible refine Ext.trans ?_ (by assumption))))
    · have e1 : decide (lim g = [1]) = false := decide_eq_false (fun e => hg1 (by rw [← nv_lim g, e]; rfl))
      obtain ⟨l1, hl1⟩ : ∃ l1, l1 = lim (nv ln / g) := ⟨_, rfl⟩
      obtain ⟨l2, hl2⟩ : ∃ l2, l2 = lim (nv ld / g) := ⟨_, rfl⟩
      have hs1 : l1.length ≤ 512 := by rw [hl1]; exact Nat.le_trans (lim_len_le.2 (Nat.lt_of_le_of_lt (Nat.div_le_self _ _) (nv_lt LN.out))) sn
      have hs2 : l2.length ≤ 512 := by rw [hl2]; exact Nat.le_trans (lim_len_le.2 (Nat.lt_of_le_of_lt (Nat.div_le_self _ _) (nv_lt LD.out))) sd
      have hd1 : divS ln (lim g) = (l1, lim (nv ln % g), 0) := by rw [divS_ok sn ZN.out hg5 (lim_noZ _) (by rw [nv_lim]; exact hgp), nv_lim, hl1]
      have hd2 : divS ld (lim g) = (l2, lim (nv ld % g), 0) := by rw [divS_ok sd ZD.out hg5 (lim_noZ _) (by rw [nv_lim]; exact hgp), nv_lim, hl2]
      have hrep : RR.mk b (lim (nv ln / g)) (if nv ld / g = 1 then [] else lim (nv ld / g)) = RR.mk b l1 (if l2 = [1] then [] else l2) := by
        have : nv ld / g = 1 ↔ l2 = [1] := ⟨fun e => by rw [hl2, e]; rfl, fun e => by rw [← nv_lim (nv ld / g), ← hl2, e]; rfl⟩
        rw [hl1, ← hl2]
        simp only [this]
      have HREP := Lib.hid (HRS.out.trans hrep)
      have HD1 := Lib.hid hd1; have HD2 := Lib.hid hd2
      clear hrep hl1 hl2 hd1 hd2
      rw [e1]
      rintro e wa ⟨rfl, hxa⟩
      have XA := Lib.hid (X2.out.trans hxa); have PA := Lib.hid (B0'.out.ext hxa); have QA' := Lib.hid (B1'.out.ext hxa); have NA := Lib.hid (N2.out.ext hxa)
      clear hxa e1
      have c0 := PA.out.cell; have f0 := PA.out.free; have l0 := PA.out.lt
      go_wp2_with fail
      refine (divMod_any _ _ ln (lim g) _ (HN.out.ext XA.out) NA.out LN.out (lim_lim _)).mono ?_
      rw [HD1.out]
      rintro e wb ⟨⟨vq, vr, rfl, nq, nr⟩, hxb⟩
      obtain ⟨aq, cq, rfl⟩ := nq.shape
      have hpb := PA.out.ext hxb
      have c1 := hpb.cell; have f1 := hpb.free; have l1' := hpb.lt
      have NQ : Hid (OwB wb (w.heap.size + 1 + 1) (.slice aq l1.length cq) l1) := Lib.hid (OwB.mono nq (by have := QA'.out.lt; omega))
      have XB := Lib.hid (XA.out.trans hxb); have QB := Lib.hid (QA'.out.ext hxb); have NB := Lib.hid (NA.out.ext hxb); have PB := Lib.hid hpb
      clear nq nr hxb hpb c0 f0 l0
      go_wp2_with fail
      have hpc : Blk (wb.setCell ⟨w.heap.size, 0, none⟩ (.slice aq l1.length cq)) w.heap.size #[.slice aq l1.length cq, .slice ad ld.length cd, .bool b] 76 := by
        have := PB.out.set 0 (.slice aq l1.length cq); simpa using this
      have hqc := QB.out.setOther (a := ⟨w.heap.size, 0, none⟩) (by dsimp only; omega) (.slice aq l1.length cq)
      have hnc : RdI .u32 (wb.setCell ⟨w.heap.size, 0, none⟩ (.slice aq l1.length cq)) (.slice a2 (lim g).length c2) (lim g) := rdI_setBlk NB.out PB.out (by intro x hx n; simp at hx; rcases hx with rfl | rfl | rfl <;> simp) 0 _
      have hvc := NQ.out.setBelow (p := ⟨w.heap.size, 0, none⟩) (by dsimp only; omega) (.slice aq l1.length cq)
      have hxc := XB.out.set (p := ⟨w.heap.size, 0, none⟩) (Nat.le_refl _) (.slice aq l1.length cq)
      have PC := Lib.hid hpc; have QC := Lib.hid hqc; have NC := Lib.hid hnc; have VC := Lib.hid hvc; have XC := Lib.hid hxc
      clear hpc hqc hnc hvc hxc PB QB NB NQ XB c1 f1 l1'
      generalize wb.setCell ⟨w.heap.size, 0, none⟩ (.slice aq l1.length cq) = wc at *
      have c0 := PC.out.cell; have f0 := PC.out.free; have l0 := PC.out.lt
      go_wp2_with fail
      refine (divMod_any _ _ ld (lim g) _ (HD.out.ext XC.out) NC.out LD.out (lim_lim _)).mono ?_
      rw [HD2.out]
      rintro e wd ⟨⟨vq, vr, rfl, nq, nr⟩, hxd⟩
      obtain ⟨ar, cr, rfl⟩ := nq.shape
      have hpb := PC.out.ext hxd
      have c1 := hpb.cell; have f1 := hpb.free; have l1' := hpb.lt
      have ND : Hid (OwB wd (w.heap.size + 1 + 1) (.slice ar l2.length cr) l2) := Lib.hid (OwB.mono nq (by have := QC.out.lt; omega))
      have XD := Lib.hid (XC.out.trans hxd); have QD := Lib.hid (QC.out.ext hxd); have VD := Lib.hid (VC.out.ext hxd); have PD := Lib.hid hpb
      clear nq nr hxd hpb c0 f0 l0
      go_wp2_with fail
      have hpc : Blk (wd.setCell ⟨w.heap.size, 1, none⟩ (.slice ar l2.length cr)) w.heap.size #[.slice aq l1.length cq, .slice ar l2.length cr, .bool b] 76 := by
        have := PD.out.set 1 (.slice ar l2.length cr); simpa using this
      have hqc := QD.out.setOther (a := ⟨w.heap.size, 1, none⟩) (by dsimp only; omega) (.slice ar l2.length cr)
      have hnc := (ND.out.setBelow (p := ⟨w.heap.size, 1, none⟩) (by dsimp only; omega) (.slice ar l2.length cr)).rd
      have hvc := (VD.out.setBelow (p := ⟨w.heap.size, 1, none⟩) (by dsimp only; omega) (.slice ar l2.length cr)).rd
      have hxc := XD.out.set (p := ⟨w.heap.size, 1, none⟩) (Nat.le_refl _) (.slice ar l2.length cr)
      have P0 := Lib.hid hpc; have P1 := Lib.hid hqc; have HDD := Lib.hid hnc; have HNN := Lib.hid hvc; have X3 := Lib.hid hxc
      clear hpc hqc hnc hvc hxc PD QD ND VD XD c1 f1 l1'
      generalize wd.setCell ⟨w.heap.size, 1, none⟩ (.slice ar l2.length cr) = w3 at *
      have c0 := P0.out.cell; have f0 := P0.out.free
      go_wp2_with fail
      have hmx : Try.prog.follows .mixedOrders = true := by kernel_rfl
      have x3 := X3.out
      have lt0 := P0.out.lt; have lt1 := P1.out.lt
      go_region_held3 (fun W => Blk W w.heap.size #[.slice aq l1.length cq, .slice ar l2.length cr, .bool b] 76 ∧ W.cell? ⟨w.heap.size, 0, none⟩ = some (.slice aq l1.length cq) ∧ W.cell? ⟨w.heap.size, 1, none⟩ = some (.slice ar l2.length cr) ∧ W.cell? ⟨w.heap.size, 2, none⟩ = some (.bool b))
        ((refine Blk.s3 ?_; (repeat (first | exact P0.out | exact k4 | refine Blk.setOther ?_ (by dsimp only; omega) _ | refine Blk.alloc ?_ _ | refine Blk.drew ?_))))
        (first | (go_at_call 79; refine (clone_any _ l1 _ (HNN.out.ext (by (repeat (first | (with_reducible exact Ext.refl _) | (with_reducible assumption) | (with_reducible refine Ext.alloc ?_ _) | ((with_reducible refine Ext.setp ?_ ?_); focus (dsimp only; omega)) | (with_reducible refine Ext.drew ?_) | (with_reducible refine Ext.drewN ?_ _) | (with_reducible refine Ext.trans ?_ (by assumption)))))) (by omega)).mono ?_; rintro e w4 ⟨⟨v4, rfl, n4⟩, hx4⟩; obtain ⟨a4, c4, rfl⟩ := n4.shape; have N4 := Lib.hid n4; have z4 := hx4.size; have e4 : Ext w3 w4 := Ext.trans (by (repeat (first | (with_reducible exact Ext.refl _) | (with_reducible assumption) | (with_reducible refine Ext.alloc ?_ _) | ((with_reducible refine Ext.setp ?_ ?_); focus (dsimp only; omega)) | (with_reducible refine Ext.drew ?_) | (with_reducible refine Ext.drewN ?_ _) | (with_reducible refine Ext.trans ?_ (by assumption))))) hx4; have k4 := P0.out.ext e4; have qc := fun h => (hx4.block_at (b := w3.heap.size) h).1; have qf := fun h => (hx4.block_at (b := w3.heap.size) h).2; (try simp only [World.size_alloc, World.size_drew] at qc qf z4); clear n4))
      · have B5 : Hid (Blk (w4.alloc (.cells #[.bool b, .slice a4 l1.length c4, .slice none 0 0] 26)) w4.heap.size #[.bool b, .slice a4 l1.length c4, .slice none 0 0] 26) := Lib.hid (Blk.new _ _ _)
        have K5 := Lib.hid (k4.alloc (.cells #[.bool b, .slice a4 l1.length c4, .slice none 0 0] 26))
        have R5 := Lib.hid ((P1.out.ext e4).alloc (.cells #[.bool b, .slice a4 l1.length c4, .slice none 0 0] 26))
        have Y5 := Lib.hid (e4.alloc (.cells #[.bool b, .slice a4 l1.length c4, .slice none 0 0] 26))
        have X5 := Lib.hid ((x3.trans e4).alloc (.cells #[.bool b, .slice a4 l1.length c4, .slice none 0 0] 26))
        have V5 : Hid (OwB (w4.alloc (.cells #[.bool b, .slice a4 l1.length c4, .slice none 0 0] 26)) (w.heap.size + 1 + 1) (.slice a4 l1.length c4) l1) := Lib.hid ((OwB.mono N4.out (B' := w.heap.size + 1 + 1) (by (try simp only [World.size_alloc, World.size_drew]); omega)).ext ((Ext.refl w4).alloc (.cells #[.bool b, .slice a4 l1.length c4, .slice none 0 0] 26)))
        clear hx4 qc qf N4 k4
        generalize hbx : w4.heap.size = bx at *
        generalize w4.alloc (.cells #[.bool b, .slice a4 l1.length c4, .slice none 0 0] 26) = w5 at *

        have b5 := B5.out.cell; have fb5 := B5.out.free; have lb5 := B5.out.lt; have r5 := R5.out.cell; have fr5 := R5.out.free; have lr5 := R5.out.lt; have k5 := K5.out.cell; have lk5 := K5.out.lt
        go_wp2_with fail
        refine (unitR_any _ l2 w5 (HDD.out.ext Y5.out)).mono ?_
        clear b5 fb5 r5 fr5 k5
        by_cases hu : l2 = [1]
        · rw [decide_eq_true hu]
          have HU := Lib.hid hu
          clear hu
          rintro e w6 ⟨rfl, hx6⟩
          have B6 := B5.out.ext hx6; have R6 := R5.out.ext hx6; have X6 := Lib.hid (X5.out.trans hx6); have V6 := Lib.hid (V5.out.ext hx6)
          have b6 := B6.cell; have fb6 := B6.free; have lb6 := B6.lt; have r6 := R6.cell; have fr6 := R6.free; have lr6 := R6.lt
          clear hx6 B6 R6
          go_wp2_with fail
          exact bodyPost_ret (v := .agg #[.bool b, .slice a4 l1.length c4, .slice none 0 0]) (by simp only [results, Try.results67]; go_simp) rfl ⟨⟨_, rfl, by rw [HREP.out, if_pos HU.out]; exact ⟨_, _, rfl, OwB.mono (((V6.out.setBelow (by dsimp only; omega) _).setBelow (by dsimp only; omega) _).setBelow (by dsimp only; omega) _) (by omega), NewV.nil _ _⟩⟩, by have := X6.out; (repeat (first | (with_reducible exact Ext.refl _) | (with_reducible assumption) | (with_reducible refine Ext.alloc ?_ _) | ((with_reducible refine Ext.setp ?_ ?_); focus (dsimp only; omega)) | (with_reducible refine Ext.drew ?_) | (with_reducible refine Ext.drewN ?_ _) | (with_reducible refine Ext.trans ?_ (by assumption))))⟩
        · rw [decide_eq_false hu]
          have HU := Lib.hid hu
          rintro e w6 ⟨rfl, hx6⟩
          have B6 := Lib.hid (B5.out.ext hx6); have K6 := (K5.out.ext hx6); have R6 := Lib.hid (R5.out.ext hx6); have X6 := Lib.hid (X5.out.trans hx6); have Y6 := Lib.hid (Y5.out.trans hx6); have V6 := Lib.hid (V5.out.ext hx6)
          have k6 := K6.cell; have fk6 := K6.free; have lk6 := K6.lt; have lb6 := B6.out.lt; have lr6 := R6.out.lt
          clear hx6 K6 hu
          go_wp2_with fail
          refine (clone_any _ l2 w6 (HDD.out.ext Y6.out) (by omega)).mono ?_
          rintro e w7 ⟨⟨v7, rfl, n7⟩, hx7⟩
          obtain ⟨a7, c7, rfl⟩ := n7.shape
          have N7 : Hid (OwB w7 w6.heap.size (.slice a7 l2.length c7) l2) := Lib.hid n7; have B7 := B6.out.ext hx7; have BB7 := Lib.hid B7; have R7 := R6.out.ext hx7; have X7 := Lib.hid (X6.out.trans hx7); have V7 := Lib.hid (V6.out.ext hx7)
          have b7 := B7.cell; have fb7 := B7.free; have lb7 := B7.lt; have r7 := R7.cell; have fr7 := R7.free; have lr7 := R7.lt
          clear hx7 B7 R7 k6 fk6 n7
          go_wp2_with fail
          refine bodyPost_ret (v := .agg #[.bool b, .slice a4 l1.length c4, .slice a7 l2.length c7]) (by simp only [results, Try.results67]; go_simp) rfl ⟨⟨_, rfl, ?_⟩, ?_⟩
          · rw [HREP.out, if_neg HU.out]
            exact ⟨_, _, rfl, OwB.mono ((((V7.out.setBlk BB7.out (by decide) _ _).setBelow (by dsimp only; omega) _).setBelow (by dsimp only; omega) _).setBelow (by dsimp only; omega) _) (by omega),
              OwB.mono ((((N7.out.setBelow (by dsimp only; omega) _).setBelow (by dsimp only; omega) _).setBelow (by dsimp only; omega) _).setBelow (by dsimp only; omega) _) (by omega)⟩
          · have := X7.out; (repeat (first | (with_reducible exact Ext.refl _) | (with_reducible assumption) | (with_reducible refine Ext.alloc ?_ _) | ((with_reducible refine Ext.setp ?_ ?_); focus (dsimp only; omega)) | (with_reducible refine Ext.drew ?_) | (with_reducible refine Ext.drewN ?_ _) | (with_reducible refine Ext.trans ?_ (by assumption))))
      · have B5 : Hid (Blk (((w4.setCell ⟨w3.heap.size, 0, none⟩ (.bool b)).setCell ⟨w3.heap.size, 1, none⟩ (.slice a4 l1.length c4)).setCell ⟨w3.heap.size, 2, none⟩ (.slice none 0 0)) w3.heap.size #[.bool b, .slice a4 l1.length c4, .slice none 0 0] 26) := by
          have h1 := ((Blk.new w3 #[.bool false, .slice none 0 0, .slice none 0 0] 26).drew).ext hx4
          have h2 := ((h1.set 0 (.bool b)).set 1 (.slice a4 l1.length c4)).set 2 (.slice none 0 0)
          exact Lib.hid (by simpa using h2)
        have K5 := Lib.hid (((k4.setOther (a := ⟨w3.heap.size, 0, none⟩) (by dsimp only; omega) (.bool b)).setOther (a := ⟨w3.heap.size, 1, none⟩) (by dsimp only; omega) (.slice a4 l1.length c4)).setOther (a := ⟨w3.heap.size, 2, none⟩) (by dsimp only; omega) (.slice none 0 0))
        have R5 := Lib.hid ((((P1.out.ext e4).setOther (a := ⟨w3.heap.size, 0, none⟩) (by dsimp only; omega) (.bool b)).setOther (a := ⟨w3.heap.size, 1, none⟩) (by dsimp only; omega) (.slice a4 l1.length c4)).setOther (a := ⟨w3.heap.size, 2, none⟩) (by dsimp only; omega) (.slice none 0 0))
        have Y5 := Lib.hid (((e4.set (p := ⟨w3.heap.size, 0, none⟩) (Nat.le_refl _) (.bool b)).set (p := ⟨w3.heap.size, 1, none⟩) (Nat.le_refl _) (.slice a4 l1.length c4)).set (p := ⟨w3.heap.size, 2, none⟩) (Nat.le_refl _) (.slice none 0 0))
        have X5 := Lib.hid ((((x3.trans e4).set (p := ⟨w3.heap.size, 0, none⟩) (by dsimp only; omega) (.bool b)).set (p := ⟨w3.heap.size, 1, none⟩) (by dsimp only; omega) (.slice a4 l1.length c4)).set (p := ⟨w3.heap.size, 2, none⟩) (by dsimp only; omega) (.slice none 0 0))
        have V5 := Lib.hid (((((OwB.mono N4.out (B' := w3.heap.size + 1) (by (try simp only [World.size_alloc, World.size_drew]); omega)).setBelow (p := ⟨w3.heap.size, 0, none⟩) (by dsimp only; omega) (.bool b)).setBelow (p := ⟨w3.heap.size, 1, none⟩) (by dsimp only; omega) (.slice a4 l1.length c4)).setBelow (p := ⟨w3.heap.size, 2, none⟩) (by dsimp only; omega) (.slice none 0 0)).mono (B' := w.heap.size + 1 + 1) (by omega))
        clear hx4 qc qf N4 k4
        generalize ((w4.setCell ⟨w3.heap.size, 0, none⟩ (.bool b)).setCell ⟨w3.heap.size, 1, none⟩ (.slice a4 l1.length c4)).setCell ⟨w3.heap.size, 2, none⟩ (.slice none 0 0) = w5 at *
        generalize hbx : w3.heap.size = bx at *

        have b5 := B5.out.cell; have fb5 := B5.out.free; have lb5 := B5.out.lt; have r5 := R5.out.cell; have fr5 := R5.out.free; have lr5 := R5.out.lt; have k5 := K5.out.cell; have lk5 := K5.out.lt
        go_wp2_with fail
        refine (unitR_any _ l2 w5 (HDD.out.ext Y5.out)).mono ?_
        clear b5 fb5 r5 fr5 k5
        by_cases hu : l2 = [1]
        · rw [decide_eq_true hu]
          have HU := Lib.hid hu
          clear hu
          rintro e w6 ⟨rfl, hx6⟩
          have B6 := B5.out.ext hx6; have R6 := R5.out.ext hx6; have X6 := Lib.hid (X5.out.trans hx6); have V6 := Lib.hid (V5.out.ext hx6)
          have b6 := B6.cell; have fb6 := B6.free; have lb6 := B6.lt; have r6 := R6.cell; have fr6 := R6.free; have lr6 := R6.lt
          clear hx6 B6 R6
          go_wp2_with fail
          exact bodyPost_ret (v := .agg #[.bool b, .slice a4 l1.length c4, .slice none 0 0]) (by simp only [results, Try.results67]; go_simp) rfl ⟨⟨_, rfl, by rw [HREP.out, if_pos HU.out]; exact ⟨_, _, rfl, OwB.mono (((V6.out.setBelow (by dsimp only; omega) _).setBelow (by dsimp only; omega) _).setBelow (by dsimp only; omega) _) (by omega), NewV.nil _ _⟩⟩, by have := X6.out; (repeat (first | (with_reducible exact Ext.refl _) | (with_reducible assumption) | (with_reducible refine Ext.alloc ?_ _) | ((with_reducible refine Ext.setp ?_ ?_); focus (dsimp only; omega)) | (with_reducible refine Ext.drew ?_) | (with_reducible refine Ext.drewN ?_ _) | (with_reducible refine Ext.trans ?_ (by assumption))))⟩
        · rw [decide_eq_false hu]
          have HU := Lib.hid hu
          rintro e w6 ⟨rfl, hx6⟩
          have B6 := Lib.hid (B5.out.ext hx6); have K6 := (K5.out.ext hx6); have R6 := Lib.hid (R5.out.ext hx6); have X6 := Lib.hid (X5.out.trans hx6); have Y6 := Lib.hid (Y5.out.trans hx6); have V6 := Lib.hid (V5.out.ext hx6)
          have k6 := K6.cell; have fk6 := K6.free; have lk6 := K6.lt; have lb6 := B6.out.lt; have lr6 := R6.out.lt
          clear hx6 K6 hu
          go_wp2_with fail
          refine (clone_any _ l2 w6 (HDD.out.ext Y6.out) (by omega)).mono ?_
          rintro e w7 ⟨⟨v7, rfl, n7⟩, hx7⟩
          obtain ⟨a7, c7, rfl⟩ := n7.shape
          have N7 : Hid (OwB w7 w6.heap.size (.slice a7 l2.length c7) l2) := Lib.hid n7; have B7 := B6.out.ext hx7; have BB7 := Lib.hid B7; have R7 := R6.out.ext hx7; have X7 := Lib.hid (X6.out.trans hx7); have V7 := Lib.hid (V6.out.ext hx7)
          have b7 := B7.cell; have fb7 := B7.free; have lb7 := B7.lt; have r7 := R7.cell; have fr7 := R7.free; have lr7 := R7.lt
          clear hx7 B7 R7 k6 fk6 n7
          go_wp2_with fail
          refine bodyPost_ret (v := .agg #[.bool b, .slice a4 l1.length c4, .slice a7 l2.length c7]) (by simp only [results, Try.results67]; go_simp) rfl ⟨⟨_, rfl, ?_⟩, ?_⟩
          · rw [HREP.out, if_neg HU.out]
            exact ⟨_, _, rfl, OwB.mono ((((V7.out.setBlk BB7.out (by decide) _ _).setBelow (by dsimp only; omega) _).setBelow (by dsimp only; omega) _).setBelow (by dsimp only; omega) _) (by omega),
              OwB.mono ((((N7.out.setBelow (by dsimp only; omega) _).setBelow (by dsimp only; omega) _).setBelow (by dsimp only; omega) _).setBelow (by dsimp only; omega) _) (by omega)⟩
          · have := X7.out; (repeat (first | (with_reducible exact Ext.refl _) | (with_reducible assumption) | (with_reducible refine Ext.alloc ?_ _) | ((with_reducible refine Ext.setp ?_ ?_); focus (dsimp only; omega)) | (with_reducible refine Ext.drew ?_) | (with_reducible refine Ext.drewN ?_ _) | (with_reducible refine Ext.trans ?_ (by assumption))))

end Go.Proofs.Ytebdmmlniohhgaa
