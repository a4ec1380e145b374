/- Overwriting of results of layer 6. Conditions: rows of the call's own. -/
import Derived.Test.YthkfkfbfblppeaaGreatGJ
import Derived.Test.YthkfkfbfblppeaaGreatBigOv
namespace Go.Proofs.YthkfkfbfblppeaaGreat
set_option linter.unusedSimpArgs false
set_option linter.unusedVariables false
open Go.RowKit

/-- A block of limbs that holds at least n of them. -/
def Rowy (w : World) (g n : Nat) : Prop := ∃ cur, Blk w g cur 206 ∧ n ≤ cur.size
/-- A slice that may be written. -/
def Wry (w : World) (A B : Nat) (v : Value) (n : Nat) : Prop := (n = 0 ∧ ∃ a c, v = .slice a 0 c) ∨ ∃ g c, v = .slice (some ⟨g, 0, none⟩) n c ∧ Rowy w g n ∧ A ≤ g ∧ g < B
/-- Nothing is changed but blocks in [A, B), and these only in their contents. -/
structure GrX (A B : Nat) (W W' : World) : Prop where
  os : W'.os = W.os
  tape : W'.tape = W.tape
  output : W'.output = W.output
  size : W.heap.size ≤ W'.heap.size
  block : ∀ i, i < W.heap.size → (i < A ∨ B ≤ i) → W'.heap[i]? = W.heap[i]?
  rows : ∀ g n, Rowy W g n → Rowy W' g n

theorem Rowy.ext {w w' : World} {g n : Nat} (h : Rowy w g n) (x : Ext w w') : Rowy w' g n := by
  obtain ⟨c, h1, h2⟩ := h; exact ⟨c, h1.ext x, h2⟩
theorem GrX.of_ext {A B : Nat} {W W' : World} (x : Ext W W') : GrX A B W W' := ⟨x.os, x.tape, x.output, x.size, fun i hi _ => x.block i hi, fun _ _ h => h.ext x⟩
theorem GrX.trans {A B : Nat} {a b c : World} (h : GrX A B a b) (k : GrX A B b c) : GrX A B a c :=
  ⟨k.os.trans h.os, k.tape.trans h.tape, k.output.trans h.output, Nat.le_trans h.size k.size, fun i hi hh => (k.block i (Nat.lt_of_lt_of_le hi h.size) hh).trans (h.block i hi hh), fun g n r => k.rows g n (h.rows g n r)⟩
theorem GrX.ext {A B : Nat} {w W W' : World} (x : Ext w W) (k : GrX A B W W') (h : w.heap.size ≤ A) : Ext w W' :=
  ⟨k.os.trans x.os, k.tape.trans x.tape, k.output.trans x.output, Nat.le_trans x.size k.size, fun i hi => (k.block i (Nat.lt_of_lt_of_le hi x.size) (.inl (by omega))).trans (x.block i hi)⟩
theorem Wry.gr {A B C D : Nat} {W W' : World} {v : Value} {n : Nat} (h : Wry W A B v n) (k : GrX C D W W') : Wry W' A B v n := by
  rcases h with h | ⟨g, c, h1, h2, h3⟩
  · exact .inl h
  · exact .inr ⟨g, c, h1, k.rows g n h2, h3⟩
theorem Wry.ext {A B : Nat} {W W' : World} {v : Value} {n : Nat} (h : Wry W A B v n) (k : Ext W W') : Wry W' A B v n := h.gr (GrX.of_ext (A := A) (B := B) k)

theorem Wry.new {w w' : World} {v : Value} {l : List Int} (h : NewV w w' v l) : Wry w' w.heap.size w'.heap.size v l.length := by
  obtain ⟨o, h1, h2⟩ := h
  rcases h1 with ⟨_, rfl, a, ha, rfl⟩ | ⟨g, cap, ho, rfl, hr⟩
  · exact .inl ⟨rfl, _, _, rfl⟩
  · obtain ⟨cur, hb, hs, ht⟩ := hr.blk
    exact .inr ⟨g, cap, rfl, ⟨cur, hb, by rw [hs]; exact hr.le⟩, h2 g ho, hr.lt⟩

theorem overLimbsW_any (v : Value) (n A B : Nat) (w : World) (h : Wry w A B v n) (hn : n ≤ 1000000000) :
    Calls Tryz.prog 159 #[v] w fun e w' => e = .returned (.tuple #[]) ∧ GrX A B w w' := by
  rcases h with ⟨rfl, a, c, rfl⟩ | ⟨g, cap, rfl, h, hA, hB⟩
  · go_enter Tryz.func159, Tryz.ntmps159
    go_wp2_with fail
    go_loopw [2] (fun i wr => i = .int .i64 0 ∧ wr = w) (fun _ _ => 0)
    case atStart => exact ⟨rfl, rfl⟩
    case round =>
      obtain ⟨rfl, rfl⟩ := hrel
      go_wp2
      go_end0
      exact ⟨rfl, GrX.of_ext (Ext.refl _)⟩
  · obtain ⟨cur, hb, hs⟩ := h
    have HB := Lib.hid hb; clear hb
    go_enter Tryz.func159, Tryz.ntmps159
    go_wp2_with fail
    go_loopw [2] (fun i wr => ∃ (k : Nat) (ck : Array Value), k ≤ n ∧ i = .int .i64 k ∧ Gr (some g) w wr ∧ ck.size = cur.size ∧ Blk wr g ck 206) (fun i _ => n - (intOf i).toNat)
    case atStart => exact ⟨0, cur, by omega, rfl, Gr.refl _ _, rfl, HB.out⟩
    case round =>
      obtain ⟨k, ck, hk, rfl, hgr, hck, hbk⟩ := hrel
      by_cases hlt : k < n
      · have c1 := hbk.cell k
        rw [Array.getElem?_eq_getElem (by omega : k < ck.size)] at c1
        have f1 := hbk.free; have l1 := hbk.lt
        have q1 : (0 : Int) ≤ (k : Int) := by omega
        have q2 : (k : Int) < (n : Int) := by omega
        obtain ⟨y, hy⟩ : ∃ y, y = ck[k] := ⟨_, rfl⟩
        rw [← hy] at c1
        have HG := Lib.hid hgr; have HR := Lib.hid hbk; have HK := Lib.hid hck
        clear hgr hbk hck hy
        go_wp2_with fail
        go_roundw
        case rel => exact ⟨k + 1, ck.setIfInBounds k (.int .u32 77), by omega, by go_num, HG.out.set _ _, (Array.size_setIfInBounds).trans HK.out, HR.out.set k _⟩
        case measure => simp [intOf]; omega
      · have HG := Lib.hid hgr; have HR := Lib.hid hbk; have HK := Lib.hid hck
        clear hgr hbk hck
        go_wp2
        go_end0
        refine ⟨rfl, HG.out.os, HG.out.tape, HG.out.output, HG.out.size, fun i hi hh => HG.out.block i hi (fun e => by cases e; omega), fun g' m hr => ?_⟩
        obtain ⟨c', h1, h2⟩ := hr
        by_cases e : g' = g
        · subst e
          have e2 : c' = cur := by
            have a1 : w.heap[g']? = _ := h1
            have a2 : w.heap[g']? = _ := HB.out
            rw [a1] at a2
            injection a2 with a2
            injection a2
          subst e2
          exact ⟨ck, HR.out, by rw [HK.out]; exact h2⟩
        · exact ⟨c', (HG.out.block g' h1.lt (fun h => e (Option.some.inj h))).trans h1, h2⟩

theorem overNatW_any (v : Value) (n A B : Nat) (w : World) (h : Wry w A B v n) (hn : n ≤ 1000000000) :
    Calls Tryz.prog 102 #[v] w fun e w' => e = .returned (.tuple #[]) ∧ GrX A B w w' := by
  have H := Lib.hid h
  have hv : ∃ a n c, v = .slice a n c := by
    rcases h with ⟨_, a, c, rfl⟩ | ⟨g, cap, rfl, _⟩
    · exact ⟨_, _, _, rfl⟩
    · exact ⟨_, _, _, rfl⟩
  obtain ⟨a, m, c, rfl⟩ := hv
  clear h
  go_enter Tryz.func102, Tryz.ntmps102
  go_wp2_with fail
  refine (overLimbsW_any _ n A B _ H.out hn).mono ?_
  rintro e w1 ⟨rfl, hx1⟩
  have HX := Lib.hid hx1; clear hx1
  go_wp2
  go_end0
  exact ⟨rfl, HX.out⟩

/-- A result whose slices may be written. -/
def KpR (W : World) (A B : Nat) (v : Value) (r : RR) : Prop := ∃ vn vd, v = .agg #[.bool r.neg, vn, vd] ∧ (RdI .u32 W vn r.num ∧ Wry W A B vn r.num.length) ∧ (RdI .u32 W vd r.den ∧ Wry W A B vd r.den.length)
theorem KpR.new {w w' : World} {v : Value} {r : RR} (h : NewR w w' v r) : KpR w' w.heap.size w'.heap.size v r := by
  obtain ⟨vn, vd, rfl, h1, h2⟩ := h
  exact ⟨vn, vd, rfl, ⟨h1.rd, Wry.new h1⟩, h2.rd, Wry.new h2⟩
theorem KpR.ext {W W' : World} {A B : Nat} {v : Value} {r : RR} (h : KpR W A B v r) (x : Ext W W') : KpR W' A B v r := by
  obtain ⟨vn, vd, rfl, ⟨h1, h2⟩, h3, h4⟩ := h
  exact ⟨vn, vd, rfl, ⟨h1.ext x, h2.ext x⟩, h3.ext x, h4.ext x⟩
theorem KpR.rd {W : World} {A B : Nat} {v : Value} {r : RR} (h : KpR W A B v r) : RdR W v r := by
  obtain ⟨vn, vd, rfl, ⟨h1, _⟩, h3, _⟩ := h
  exact ⟨vn, vd, rfl, h1, h3⟩
/-- A slice of limbs is left alone, if its block is. -/
theorem rdI_gr {A B : Nat} {W W' : World} {v : Value} {l : List Int} (h : RdI .u32 W v l) (k : GrX A B W W') (hk : ∀ a n c, v = .slice (some a) n c → 0 < n → a.block < A ∨ B ≤ a.block) : RdI .u32 W' v l := by
  obtain ⟨a, cap, rfl, h1, h2, h3⟩ := rdU h
  refine RdA.to (p := fun _ => True) ⟨a, cap, rfl, h1, h2, fun i hi => ?_⟩
  obtain ⟨b, off, e1, e2, e3⟩ := h3 i hi
  subst e1
  refine ⟨b, off, rfl, trivial, Nat.lt_of_lt_of_le e2 k.size, ?_⟩
  rw [← e3]
  exact World.cell?_of_block (k.block b e2 (hk ⟨b, off, none⟩ _ _ rfl (by omega)))
theorem Wry.at {W : World} {A B : Nat} {v : Value} {n : Nat} (h : Wry W A B v n) : ∀ a m c, v = .slice (some a) m c → 0 < m → A ≤ a.block ∧ a.block < B := by
  intro a m c e hm
  rcases h with ⟨_, a', c', e'⟩ | ⟨g, c', e', _, h3⟩
  · rw [e'] at e; injection e with _ e2 _; omega
  · rw [e'] at e; injection e with e1 _ _; injection e1 with e1; subst e1; exact h3
theorem KpR.gr {W W' : World} {A B C D : Nat} {v : Value} {r : RR} (h : KpR W A B v r) (k : GrX C D W W') (hd : D ≤ A ∨ B ≤ C) : KpR W' A B v r := by
  obtain ⟨vn, vd, rfl, ⟨h1, h2⟩, h3, h4⟩ := h
  exact ⟨vn, vd, rfl, ⟨rdI_gr h1 k (fun a n c e hn => by have := h2.at a n c e hn; omega), h2.gr k⟩, rdI_gr h3 k (fun a n c e hn => by have := h4.at a n c e hn; omega), h4.gr k⟩

theorem equalTrue2_any (v1 v2 : Value) (r1 r2 : RR) (e : r1 = r2) (w : World) (h1 : RdR w v1 r1) (h2 : RdR w v2 r2) :
    Calls Tryz.prog 39 #[v1, v2] w fun e w' => e = .returned (.bool true) ∧ Ext w w' := by
  have := equalRat_any v1 v2 r1 r2 w h1 h2
  rwa [decide_eq_true e] at this

set_option maxHeartbeats 1000000 in
theorem overRat_any (v : Value) (r : RR) (A B : Nat) (w : World) (h : KpR w A B v r) (hB : B ≤ w.heap.size) (hs : r.num.length ≤ 1000000 ∧ r.den.length ≤ 1000000) :
    Calls Tryz.prog 42 #[v] w fun e w' => e = .returned (.tuple #[]) ∧ GrX A B w w' := by
  obtain ⟨vn, vd, rfl, ⟨h1, h2⟩, h3, h4⟩ := h
  obtain ⟨a1, c1, rfl⟩ := rdU_shape h1
  obtain ⟨a2, c2, rfl⟩ := rdU_shape h3
  have H2 := Lib.hid h2; have H4 := Lib.hid h4
  clear h1 h2 h3 h4
  have B0 := Lib.hid (Blk.new w #[.bool r.neg, .slice a1 r.num.length c1, .slice a2 r.den.length c2] 62)
  have X0 := Lib.hid ((Ext.refl w).alloc (.cells #[.bool r.neg, .slice a1 r.num.length c1, .slice a2 r.den.length c2] 62))
  go_enter Tryz.func42, Tryz.ntmps42
  go_wp2_with fail
  refine (overNatW_any _ _ A B _ (H2.out.ext X0.out) (by omega)).mono ?_
  rintro e w1 ⟨rfl, hg1⟩
  have B1 : Hid (Blk w1 w.heap.size #[.bool r.neg, .slice a1 r.num.length c1, .slice a2 r.den.length c2] 62) := Lib.hid ((hg1.block _ B0.out.lt (.inr hB)).trans B0.out)
  have G1 := Lib.hid ((GrX.of_ext (A := A) (B := B) X0.out).trans hg1)
  have H4 := Lib.hid ((H4.out.ext X0.out).gr hg1)
  clear hg1
  have k0 := B1.out.cell; have l0 := B1.out.lt
  go_wp2_with fail
  refine (overNatW_any _ _ A B _ H4.out (by omega)).mono ?_
  rintro e w2 ⟨rfl, hg2⟩
  have G2 := Lib.hid (G1.out.trans hg2)
  clear hg2 k0 l0
  go_wp2_with fail
  go_end0
  exact ⟨rfl, G2.out⟩

end Go.Proofs.YthkfkfbfblppeaaGreat
