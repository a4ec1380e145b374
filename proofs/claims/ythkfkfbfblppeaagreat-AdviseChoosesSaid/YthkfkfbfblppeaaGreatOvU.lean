/- Overwriting of rows of numbers: what is kept. Conditions: rows of the call's own. -/
import Derived.Test.YthkfkfbfblppeaaGreatRatOv
import Derived.Test.YthkfkfbfblppeaaGreatRatLs
namespace Go.Proofs.YthkfkfbfblppeaaGreat
set_option linter.unusedSimpArgs false
set_option linter.unusedVariables false
open Go.RowKit

/-- Blocks below A, and rows of other types than limbs, are as they were; rows of limbs keep their lengths. -/
structure GrU (A : Nat) (W W' : World) : Prop where
  keeps : Keeps A 206 W W'
  rows : ∀ g n, Rowy W g n → Rowy W' g n
theorem GrU.of_ext {A : Nat} {W W' : World} (x : Ext W W') : GrU A W W' := ⟨Keeps.ext x, fun _ _ h => h.ext x⟩
theorem GrU.trans {A : Nat} {a b c : World} (h : GrU A a b) (k : GrU A b c) : GrU A a c := ⟨h.keeps.trans k.keeps, fun g n r => k.rows g n (h.rows g n r)⟩
theorem GrU.mono {A B : Nat} {a b : World} (h : GrU A a b) (hB : B ≤ A) : GrU B a b := ⟨h.keeps.mono hB, h.rows⟩
theorem GrU.ext {A : Nat} {w W W' : World} (x : Ext w W) (k : GrU A W W') (h : w.heap.size ≤ A) : Ext w W' :=
  Below.trans x ((k.keeps.mono h).below x.size)
/-- A slice of limbs behind A that may be written. -/
def WrU (w : World) (A : Nat) (v : Value) (n : Nat) : Prop := (n = 0 ∧ ∃ a c, v = .slice a 0 c) ∨ ∃ g c, v = .slice (some ⟨g, 0, none⟩) n c ∧ Rowy w g n ∧ A ≤ g
theorem WrU.gr {A C : Nat} {W W' : World} {v : Value} {n : Nat} (h : WrU W A v n) (k : GrU C W W') : WrU W' A v n := by
  rcases h with h | ⟨g, c, h1, h2, h3⟩
  · exact .inl h
  · exact .inr ⟨g, c, h1, k.rows g n h2, h3⟩
theorem WrU.ext {A : Nat} {W W' : World} {v : Value} {n : Nat} (h : WrU W A v n) (k : Ext W W') : WrU W' A v n := h.gr (GrU.of_ext (A := A) k)
theorem WrU.mono {A B : Nat} {W : World} {v : Value} {n : Nat} (h : WrU W A v n) (hB : B ≤ A) : WrU W B v n := by
  rcases h with h | ⟨g, c, h1, h2, h3⟩
  · exact .inl h
  · exact .inr ⟨g, c, h1, h2, Nat.le_trans hB h3⟩
theorem SfW.wr {B : Nat} {w : World} {v : Value} {l : List Int} (h : SfW B w v l) : WrU w B v l.length := by
  rcases h.2 with h | ⟨g, c, cur, e, hb, hs, hB⟩
  · exact .inl h
  · exact .inr ⟨g, c, e, ⟨cur, hb, hs⟩, hB⟩
theorem WrU.new {A : Nat} {w w' : World} {v : Value} {l : List Int} (h : NewV w w' v l) (hA : A ≤ w.heap.size) : WrU w' A v l.length := (SfW.new h hA).wr

theorem overLimbsU_any (v : Value) (n A : Nat) (w : World) (h : WrU w A v n) (hn : n ≤ 1000000000) :
    Calls Tryz.prog 159 #[v] w fun e w' => e = .returned (.tuple #[]) ∧ GrU A w w' := by
  rcases h with ⟨rfl, a, c, rfl⟩ | ⟨g, cap, rfl, h, hA⟩
  · go_enter Tryz.func159, Tryz.ntmps159
    go_wp2_with fail
    go_loopw [2] (fun i wr => i = .int .i64 0 ∧ wr = w) (fun _ _ => 0)
    case atStart => exact ⟨rfl, rfl⟩
    case round =>
      obtain ⟨rfl, rfl⟩ := hrel
      go_wp2
      go_end0
      exact ⟨rfl, GrU.of_ext (Ext.refl _)⟩
  · obtain ⟨cur, hb, hs⟩ := h
    have HB := Lib.hid hb; clear hb
    go_enter Tryz.func159, Tryz.ntmps159
    go_wp2_with fail
    go_loopw [2] (fun i wr => ∃ (k : Nat) (ck : Array Value), k ≤ n ∧ i = .int .i64 k ∧ Gr (some g) w wr ∧ ck.size = cur.size ∧ Blk wr g ck 206) (fun i _ => n - (intOf i).toNat)
    case atStart => exact ⟨0, cur, by omega, rfl, Gr.refl _ _, rfl, HB.out⟩
    case round =>
      obtain ⟨k, ck, hk, rfl, hgr, hck, hbk⟩ := hrel
      by_cases hlt : k < n
      · have c1 := hbk.cell k
        rw [Array.getElem?_eq_getElem (by omega : k < ck.size)] at c1
        have f1 := hbk.free; have l1 := hbk.lt
        have q1 : (0 : Int) ≤ (k : Int) := by omega
        have q2 : (k : Int) < (n : Int) := by omega
        obtain ⟨y, hy⟩ : ∃ y, y = ck[k] := ⟨_, rfl⟩
        rw [← hy] at c1
        have HG := Lib.hid hgr; have HR := Lib.hid hbk; have HK := Lib.hid hck
        clear hgr hbk hck hy
        go_wp2_with fail
        go_roundw
        case rel => exact ⟨k + 1, ck.setIfInBounds k (.int .u32 77), by omega, by go_num, HG.out.set _ _, (Array.size_setIfInBounds).trans HK.out, HR.out.set k _⟩
        case measure => simp [intOf]; omega
      · have HG := Lib.hid hgr; have HR := Lib.hid hbk; have HK := Lib.hid hck
        clear hgr hbk hck
        go_wp2
        go_end0
        refine ⟨rfl, ⟨⟨⟨HG.out.os, HG.out.tape, HG.out.output, HG.out.size, fun i hi => by omega⟩, fun i hi ho => HG.out.block i hi (fun e => ?_)⟩, fun g' m hr => ?_⟩⟩
        · cases e
          rcases ho with ho | ⟨c2, u, h5, h6⟩
          · omega
          · have hg2 := HB.out
            unfold Blk at hg2 h5
            rw [hg2] at h5
            injection h5 with h5
            injection h5 with _ h7
            exact h6 h7.symm
        obtain ⟨c', h1, h2⟩ := hr
        by_cases e : g' = g
        · subst e
          have e2 : c' = cur := by
            have a1 : w.heap[g']? = _ := h1
            have a2 : w.heap[g']? = _ := HB.out
            rw [a1] at a2
            injection a2 with a2
            injection a2
          subst e2
          exact ⟨ck, HR.out, by rw [HK.out]; exact h2⟩
        · exact ⟨c', (HG.out.block g' h1.lt (fun h => e (Option.some.inj h))).trans h1, h2⟩

theorem overNatU_any (v : Value) (n A : Nat) (w : World) (h : WrU w A v n) (hn : n ≤ 1000000000) :
    Calls Tryz.prog 102 #[v] w fun e w' => e = .returned (.tuple #[]) ∧ GrU A w w' := by
  have H := Lib.hid h
  have hv : ∃ a n c, v = .slice a n c := by
    rcases h with ⟨_, a, c, rfl⟩ | ⟨g, cap, rfl, _⟩
    · exact ⟨_, _, _, rfl⟩
    · exact ⟨_, _, _, rfl⟩
  obtain ⟨a, m, c, rfl⟩ := hv
  clear h
  go_enter Tryz.func102, Tryz.ntmps102
  go_wp2_with fail
  refine (overLimbsU_any _ n A _ H.out hn).mono ?_
  rintro e w1 ⟨rfl, hx1⟩
  have HX := Lib.hid hx1; clear hx1
  go_wp2
  go_end0
  exact ⟨rfl, HX.out⟩

set_option maxHeartbeats 1000000 in
theorem overRatU_any (b : Bool) (vn vd : Value) (n d A : Nat) (w : World) (h2 : WrU w A vn n) (h4 : WrU w A vd d) (hs : n ≤ 1000000 ∧ d ≤ 1000000) :
    Calls Tryz.prog 42 #[.agg #[.bool b, vn, vd]] w fun e w' => e = .returned (.tuple #[]) ∧ GrU A w w' := by
  have sh : ∀ {v : Value} {n : Nat}, WrU w A v n → ∃ a c, v = .slice a n c := fun h => by
    rcases h with ⟨rfl, a, c, rfl⟩ | ⟨g, cap, rfl, _⟩
    · exact ⟨_, _, rfl⟩
    · exact ⟨_, _, rfl⟩
  obtain ⟨a1, c1, rfl⟩ := sh h2
  obtain ⟨a2, c2, rfl⟩ := sh h4
  have H2 := Lib.hid h2; have H4 := Lib.hid h4
  clear h2 h4 sh
  have B0 := Lib.hid (Blk.new w #[.bool b, .slice a1 n c1, .slice a2 d c2] 62)
  have X0 := Lib.hid ((Ext.refl w).alloc (.cells #[.bool b, .slice a1 n c1, .slice a2 d c2] 62))
  go_enter Tryz.func42, Tryz.ntmps42
  go_wp2_with fail
  refine (overNatU_any _ _ A _ (H2.out.ext X0.out) (by omega)).mono ?_
  rintro e w1 ⟨rfl, hg1⟩
  have B1 : Hid (Blk w1 w.heap.size #[.bool b, .slice a1 n c1, .slice a2 d c2] 62) := Lib.hid (B0.out.keeps hg1.keeps (by decide))
  have G1 := Lib.hid ((GrU.of_ext (A := A) X0.out).trans hg1)
  have H4 := Lib.hid ((H4.out.ext X0.out).gr hg1)
  clear hg1
  have k0 := B1.out.cell; have l0 := B1.out.lt
  go_wp2_with fail
  refine (overNatU_any _ _ A _ H4.out (by omega)).mono ?_
  rintro e w2 ⟨rfl, hg2⟩
  have G2 := Lib.hid (G1.out.trans hg2)
  clear hg2 k0 l0
  go_wp2_with fail
  go_end0
  exact ⟨rfl, G2.out⟩

end Go.Proofs.YthkfkfbfblppeaaGreat
