/- Part of the proof of nodL_holds: what the row needs of LawNoD. Conditions: as each theorem states. -/
import Derived.Test.YtbnalhmcbolngaaSnAdvM
import Derived.Test.YtbnalhmcbolngaaSnAdvN
import Derived.Test.YtbnalhmcbolngaaSnEq
import Derived.Test.YtbnalhmcbolngaaSnNoDP
import Derived.Test.YtbnalhmcbolngaaSnRatLs
import Derived.Test.YtbnalhmcbolngaaSnAwake
import Derived.Test.YtbnalhmcbolngaaSnTame
import Derived.Test.YtbnalhmcbolngaaSnEach
import Derived.Test.YtbnalhmcbolngaaSnAppB
import Derived.Test.YtbnalhmcbolngaaSnLawRuns
namespace Go.Proofs.Ytbnalhmcbolngaa
set_option linter.unusedSimpArgs false
set_option linter.unusedVariables false
open Go.RowKit
theorem wrap_64 (x : Int) : IntKind.i64.wrap x = wrap64 x := by first | rfl | (rw [IntKind.wrap_i64]; rfl) | (rw [IntKind.wrap_i64]; unfold wrap64; omega)
theorem own_setBlk {w : World} {B : Nat} {e : TypeId} {size : Nat} {v : Value} {n : Nat} {xs : List Value} (h : w.ownsRow B e size v n xs) {bx : Nat} {c : Array Value} {t : TypeId} (hb : Blk w bx c t) (ht : t ≠ e) (o : Nat) (u : Value) : (w.setCell ⟨bx, o, none⟩ u).ownsRow B e size v n xs := by
  refine ⟨h.1, ?_⟩
  rcases h.2 with hn | ⟨g, cap, cur, rfl, h1, hg, rest⟩
  · exact .inl hn
  · have hne : g ≠ bx := fun e => by
      subst e
      have h2 : Blk w g cur _ := hg
      unfold Blk at h2 hb
      rw [hb] at h2
      injection h2 with h2
      injection h2 with _ h3
      exact ht h3
    exact .inr ⟨g, cap, cur, rfl, h1, Blk.setOther (show Blk w g cur _ from hg) (a := ⟨bx, o, none⟩) hne u, rest⟩
def OwnZ (w : World) (v : Value) (l : List Int) : Prop := ∃ B, w.ownsRow B 3 1 v l.length (l.map (Value.int .i64))
theorem OwnZ.mk {w : World} {B : Nat} {v : Value} {l : List Int} (h : OwI w B v l) : OwnZ w v l := ⟨B, h⟩
theorem OwnZ.ext {w w' : World} {v : Value} {l : List Int} (h : OwnZ w v l) (x : Ext w w') : OwnZ w' v l := h.imp fun _ h => own_ext h x
theorem OwnZ.set {w : World} {v : Value} {l : List Int} (h : OwnZ w v l) {bx : Nat} {c : Array Value} {t : TypeId} (hb : Blk w bx c t) (ht : t ≠ 3) (o : Nat) (u : Value) : OwnZ (w.setCell ⟨bx, o, none⟩ u) v l := h.imp fun _ h => own_setBlk h hb ht o u
theorem OwnZ.rd {w : World} {v : Value} {l : List Int} (h : OwnZ w v l) : RdI .i64 w v l := by obtain ⟨B, h⟩ := h; exact own_rd (B := B) (e := 3) (by rw [List.length_map]; exact h)
theorem OwnZ.at {w : World} {a : Option Addr} {n c : Nat} {l : List Int} (h : OwnZ w (.slice a n c) l) {i : Nat} (hi : i < l.length) : ∃ b off, a = some ⟨b, off, none⟩ ∧ b < w.heap.size ∧ w.cell? ⟨b, off + i, none⟩ = some (.int .i64 (l.getD i 0)) := by
  obtain ⟨a', cap, hv, _, _, hr⟩ := h.rd.get
  injection hv with e1 e2 e3
  subst e1
  exact hr i hi
def OwnK (w : World) (v : Value) (l : List BlkD) : Prop := ∃ B, OwBk w B v l
theorem OwnK.mk {w : World} {B : Nat} {v : Value} {l : List BlkD} (h : OwBk w B v l) : OwnK w v l := ⟨B, h⟩
theorem OwnK.ext {w w' : World} {v : Value} {l : List BlkD} (h : OwnK w v l) (x : Ext w w') : OwnK w' v l := h.imp fun _ h => own_ext h x
theorem OwnK.set {w : World} {v : Value} {l : List BlkD} (h : OwnK w v l) {bx : Nat} {c : Array Value} {t : TypeId} (hb : Blk w bx c t) (ht : t ≠ 78) (o : Nat) (u : Value) : OwnK (w.setCell ⟨bx, o, none⟩ u) v l := h.imp fun _ h => own_setBlk h hb ht o u
theorem OwnK.rd {w : World} {v : Value} {l : List BlkD} (h : OwnK w v l) : RdBlk w v l := by obtain ⟨B, h⟩ := h; exact own_rdBlk h
theorem OwnK.at {w : World} {a : Option Addr} {n c : Nat} {l : List BlkD} (h : OwnK w (.slice a n c) l) {i : Nat} (hi : i < l.length) : ∃ b off x, a = some ⟨b, off, none⟩ ∧ b < w.heap.size ∧ l[i]? = some x ∧ w.cell? ⟨b, off + i * 3, none⟩ = some (.bool x.1) ∧ w.cell? ⟨b, off + i * 3 + 1, none⟩ = some (.bool x.2.1) ∧ w.cell? ⟨b, off + i * 3 + 2, none⟩ = some (.bool x.2.2) := by
  have h' := h.rd
  obtain ⟨a', cap, hv, _, _, hr⟩ := h'
  injection hv with e1 e2 e3
  subst e1
  obtain ⟨b, off, ha, hb, hx⟩ := hr i (by rw [List.length_map]; exact hi)
  have e : (l.map blkCells).getD i [] = blkCells l[i] := by simp [hi]
  rw [e] at hx
  exact ⟨b, off, l[i], ha, hb, List.getElem?_eq_getElem hi, hx 0 (by omega), hx 1 (by omega), hx 2 (by omega)⟩
def OwnM (w : World) (v : Value) (l : List Bool) : Prop := ∃ B, OwBo w B v l
theorem OwnM.mk {w : World} {B : Nat} {v : Value} {l : List Bool} (h : OwBo w B v l) : OwnM w v l := ⟨B, h⟩
theorem OwnM.ext {w w' : World} {v : Value} {l : List Bool} (h : OwnM w v l) (x : Ext w w') : OwnM w' v l := h.imp fun _ h => own_ext h x
theorem OwnM.rd {w : World} {v : Value} {l : List Bool} (h : OwnM w v l) : Rd w v (l.map Value.bool) := by obtain ⟨B, h⟩ := h; exact OwBo.rd h
theorem OwnM.shape {w : World} {v : Value} {l : List Bool} (h : OwnM w v l) : ∃ a c, v = .slice a l.length c := by
  obtain ⟨a, c, hv, _⟩ := h.rd
  exact ⟨a, c, by rw [hv, List.length_map]⟩
theorem OwnM.at {w : World} {a : Option Addr} {n c : Nat} {l : List Bool} (h : OwnM w (.slice a n c) l) {i : Nat} (hi : i < l.length) : ∃ b off, a = some ⟨b, off, none⟩ ∧ b < w.heap.size ∧ w.cell? ⟨b, off + i, none⟩ = some (.bool (l.getD i false)) := by
  obtain ⟨a', cap, hv, _, _, hr⟩ := h.rd
  injection hv with e1 e2 e3
  subst e1
  obtain ⟨b, off, h1, h2, h3⟩ := hr i (by rw [List.length_map]; exact hi)
  exact ⟨b, off, h1, h2, by rw [h3]; simp [hi]⟩
theorem bnd_at {w : World} {a : Option Addr} {n c : Nat} {l : List Bnd} (h : RdBnd w (.slice a n c) l) {i : Nat} {y : Bnd} (hy : l[i]? = some y) : ∃ b off, a = some ⟨b, off, none⟩ ∧ b < w.heap.size ∧ w.cell? ⟨b, off + i * 3 + 2, none⟩ = some (.int .i64 y.2.2) := by
  obtain ⟨a', cap, hv, _, _, hr⟩ := h.get
  injection hv with e1 e2 e3
  subst e1
  obtain ⟨b, off, h1, h2, _, _, h3⟩ := hr i y hy
  exact ⟨b, off, h1, h2, h3⟩
def CellI (w : World) (b o : Nat) (z : Int) : Prop := b < w.heap.size ∧ w.cell? ⟨b, o, none⟩ = some (.int .i64 z)
theorem CellI.ext {w w' : World} {b o : Nat} {z : Int} (h : CellI w b o z) (x : Ext w w') : CellI w' b o z := ⟨Nat.lt_of_lt_of_le h.1 x.size, (x.cell (p := ⟨b, o, none⟩) h.1).trans h.2⟩
def CellB (w : World) (b o : Nat) (x y z : Bool) : Prop := b < w.heap.size ∧ w.cell? ⟨b, o, none⟩ = some (.bool x) ∧ w.cell? ⟨b, o + 1, none⟩ = some (.bool y) ∧ w.cell? ⟨b, o + 2, none⟩ = some (.bool z)
theorem CellB.ext {w w' : World} {b o : Nat} {x y z : Bool} (h : CellB w b o x y z) (e : Ext w w') : CellB w' b o x y z := ⟨Nat.lt_of_lt_of_le h.1 e.size, (e.cell (p := ⟨b, o, none⟩) h.1).trans h.2.1, (e.cell (p := ⟨b, o + 1, none⟩) h.1).trans h.2.2.1, (e.cell (p := ⟨b, o + 2, none⟩) h.1).trans h.2.2.2⟩
def nodJ (pa p bk ok tt n ck : Nat) (al : Option Addr) (cl : Nat) (l : List Bnd) (g0 g1 g2 g3 g4 g5 g6 : Int) (x1 x2 x3 : Bool) (j : Nat) (v : Value) (W : World) : Prop :=
  match j with
  | 0 => v = .pointer (some ⟨pa, 0, none⟩)
  | 1 => v = .slice al l.length cl
  | 2 => v = .agg #[.int .i64 g0, .int .i64 g1, .int .i64 g2, .int .i64 g3, .int .i64 g4, .int .i64 g5, .int .i64 g6]
  | 3 => v = .slice (some ⟨bk, ok, none⟩) n ck
  | 4 => v = .int .i64 tt
  | 5 => v = .pointer (some ⟨bk, ok + tt * 3, none⟩)
  | 6 => v = .agg #[.bool x1, .bool x2, .bool x3]
  | 7 => ∃ u, v = .tuple #[u, .int .i64 0] ∧ OwnM W u (mskL g6 x1 x2 x3 l)
  | 8 => ∃ u, v = .tuple #[u, .int .i64 0] ∧ OwnM W u (mskL g6 x1 x2 x3 l)
  | 9 => OwnM W v (mskL g6 x1 x2 x3 l)
  | 10 => v = .int .i64 0
  | 11 => OwnM W v (mskL g6 x1 x2 x3 l)
  | 12 => v = .int .i64 0
  | _ => True
theorem nodJ_ext {pa p bk ok tt n ck : Nat} {al : Option Addr} {cl : Nat} {l : List Bnd} {g0 g1 g2 g3 g4 g5 g6 : Int} {x1 x2 x3 : Bool} {j : Nat} {v : Value} {W W' : World} (h : nodJ pa p bk ok tt n ck al cl l g0 g1 g2 g3 g4 g5 g6 x1 x2 x3 j v W) (x : Ext W W') : nodJ pa p bk ok tt n ck al cl l g0 g1 g2 g3 g4 g5 g6 x1 x2 x3 j v W' := by
  match j, h with
  | 0, h => exact h
  | 1, h => exact h
  | 2, h => exact h
  | 3, h => exact h
  | 4, h => exact h
  | 5, h => exact h
  | 6, h => exact h
  | 7, ⟨u, h1, h2⟩ => exact ⟨u, h1, h2.ext x⟩
  | 8, ⟨u, h1, h2⟩ => exact ⟨u, h1, h2.ext x⟩
  | 9, h => exact OwnM.ext h x
  | 10, h => exact h
  | 11, h => exact OwnM.ext h x
  | 12, h => exact h
  | _ + 13, _ => trivial
def CellU (w : World) (b o : Nat) (z : Int) : Prop := b < w.heap.size ∧ w.cell? ⟨b, o, none⟩ = some (.int .u8 z)
theorem CellU.ext {w w' : World} {b o : Nat} {z : Int} (h : CellU w b o z) (x : Ext w w') : CellU w' b o z := ⟨Nat.lt_of_lt_of_le h.1 x.size, (x.cell (p := ⟨b, o, none⟩) h.1).trans h.2⟩
def nodP (v0 : Value) (pa tt k jj bc oc : Nat) (al : Option Addr) (cl cc n m : Nat) (c : Int) (R : RR) (wB : World) (j : Nat) (v : Value) (W : World) : Prop :=
  match j with
  | 0 => v = v0
  | 1 => v = .pointer (some ⟨pa, 2, none⟩)
  | 2 => v = .slice (some ⟨bc, oc, none⟩) m cc
  | 3 => v = .int .i64 tt
  | 4 => v = .pointer (some ⟨pa, 0, none⟩)
  | 5 => v = .slice al n cl
  | 6 => v = .int .i64 n
  | 7 => v = .int .i64 (IntKind.i64.wrap ((tt : Int) * (n : Int)))
  | 8 => v = .int .i64 k
  | 9 => v = .int .i64 (IntKind.i64.wrap (IntKind.i64.wrap ((tt : Int) * (n : Int)) + (k : Int)))
  | 10 => v = .pointer (some ⟨pa, 2, none⟩)
  | 11 => v = .slice (some ⟨bc, oc, none⟩) m cc
  | 12 => v = .int .i64 m
  | 13 => v = .int .i64 jj
  | 14 => v = .pointer (some ⟨bc, oc + jj, none⟩)
  | 15 => v = .int .u8 c
  | 16 => v = .int .i64 c
  | 17 => ∃ s1 s2 s3 s4, v = .agg #[.bool R.neg, .slice s1 R.num.length s2, .slice s3 R.den.length s4] ∧ NewR wB W (.agg #[.bool R.neg, .slice s1 R.num.length s2, .slice s3 R.den.length s4]) R
  | 18 => ∃ b s1 s2 s3 s4, v = .slice (some ⟨b, 0, none⟩) 1 1 ∧ Blk W b [.bool R.neg, .slice s1 R.num.length s2, .slice s3 R.den.length s4].toArray 35 ∧ NewR wB W (.agg #[.bool R.neg, .slice s1 R.num.length s2, .slice s3 R.den.length s4]) R
  | _ => True
theorem nodP_ext {v0 : Value} {pa tt k jj bc oc : Nat} {al : Option Addr} {cl cc n m : Nat} {c : Int} {R : RR} {wB : World} {j : Nat} {v : Value} {W W' : World} (h : nodP v0 pa tt k jj bc oc al cl cc n m c R wB j v W) (x : Ext W W') : nodP v0 pa tt k jj bc oc al cl cc n m c R wB j v W' := by
  match j, h with
  | 0, h => exact h
  | 1, h => exact h
  | 2, h => exact h
  | 3, h => exact h
  | 4, h => exact h
  | 5, h => exact h
  | 6, h => exact h
  | 7, h => exact h
  | 8, h => exact h
  | 9, h => exact h
  | 10, h => exact h
  | 11, h => exact h
  | 12, h => exact h
  | 13, h => exact h
  | 14, h => exact h
  | 15, h => exact h
  | 16, h => exact h
  | 17, ⟨s1, s2, s3, s4, h1, h2⟩ => exact ⟨s1, s2, s3, s4, h1, h2.ext x⟩
  | 18, ⟨b, s1, s2, s3, s4, h1, h2, h3⟩ => exact ⟨b, s1, s2, s3, s4, h1, h2.ext x, h3.ext x⟩
  | _ + 19, _ => trivial
def CellBo (w : World) (b o : Nat) (z : Bool) : Prop := b < w.heap.size ∧ w.cell? ⟨b, o, none⟩ = some (.bool z)
theorem CellBo.ext {w w' : World} {b o : Nat} {z : Bool} (h : CellBo w b o z) (x : Ext w w') : CellBo w' b o z := ⟨Nat.lt_of_lt_of_le h.1 x.size, (x.cell (p := ⟨b, o, none⟩) h.1).trans h.2⟩
theorem cells7 {W : World} {b : Nat} {c0 c1 c2 c3 c4 c5 c6 : Value} {t : TypeId} (h : Blk W b #[c0, c1, c2, c3, c4, c5, c6] t) :
    W.cell? ⟨b, 0, none⟩ = some c0 ∧ W.cell? ⟨b, 1, none⟩ = some c1 ∧ W.cell? ⟨b, 2, none⟩ = some c2 ∧ W.cell? ⟨b, 3, none⟩ = some c3 ∧ W.cell? ⟨b, 4, none⟩ = some c4 ∧ W.cell? ⟨b, 5, none⟩ = some c5 ∧ W.cell? ⟨b, 6, none⟩ = some c6 :=
  ⟨h.cell 0, h.cell 1, h.cell 2, h.cell 3, h.cell 4, h.cell 5, h.cell 6⟩
theorem cells3 {W : World} {b : Nat} {c0 c1 c2 : Value} {t : TypeId} (h : Blk W b #[c0, c1, c2] t) : W.cell? ⟨b, 0, none⟩ = some c0 ∧ W.cell? ⟨b, 1, none⟩ = some c1 ∧ W.cell? ⟨b, 2, none⟩ = some c2 := ⟨h.cell 0, h.cell 1, h.cell 2⟩
set_option maxRecDepth 100000 in
set_option maxHeartbeats 8000000 in
theorem nodL_any (de dl se sl ae aq r : Int) (vz : Value) (zs0 : List Int) (vl vc : Value) (l : List Bnd) (nw : Int) (cs : List Int) (w : World) (hz : RdI .i64 w vz zs0) (hl : RdBnd w vl l) (hc : RdI .u8 w vc cs) (hn : 0 ≤ nw ∧ nw ≤ 255) (hcs : ∀ y ∈ cs, 0 ≤ y ∧ y ≤ 255) :
    Calls Try.prog 7 #[.agg #[.int .i64 de, .int .i64 dl, .int .i64 se, .int .i64 sl, .int .i64 ae, .int .i64 aq, .int .i64 r], vz, .agg #[vl, .int .u8 nw, vc]] w fun e w' => e = .returned (.bool true) ∧ Ext w w' := by
  have HL := Lib.hid hl; have HC := Lib.hid hc; have HZ := Lib.hid hz; have HCS := Lib.hid hcs
  have hck := fun W h => achk_any vl l W h
  obtain ⟨al, cl, rfl, hlc, hlm1, -⟩ := hl.get
  obtain ⟨ac, cc, rfl, hcc, hcm, hr⟩ := hc.get
  obtain ⟨az, cz, rfl, hzc, hzm, -⟩ := hz.get
  obtain ⟨ak, hak⟩ : ∃ x, x = achk l := ⟨_, rfl⟩
  rw [← hak] at hck
  have HCK := Lib.hid hck; have HAK := Lib.hid hak; have HR := Lib.hid hr
  clear hl hc hz hck hak hcs hr
  have bb0 := ((Blk.new w #[.int .i64 de, .int .i64 dl, .int .i64 se, .int .i64 sl, .int .i64 ae, .int .i64 aq, .int .i64 r] 61).alloc (.cells #[.slice al l.length cl, .int .u8 nw, .slice ac cs.length cc] 65))
  have bb1 := (Blk.new (w.alloc (.cells #[.int .i64 de, .int .i64 dl, .int .i64 se, .int .i64 sl, .int .i64 ae, .int .i64 aq, .int .i64 r] 61)) #[.slice al l.length cl, .int .u8 nw, .slice ac cs.length cc] 65)
  rw [World.size_alloc] at bb1
  have x0 : Ext w ((w.alloc (.cells #[.int .i64 de, .int .i64 dl, .int .i64 se, .int .i64 sl, .int .i64 ae, .int .i64 aq, .int .i64 r] 61)).alloc (.cells #[.slice al l.length cl, .int .u8 nw, .slice ac cs.length cc] 65)) := (((Ext.refl w).alloc _).alloc _)
  have A0 := Lib.hid bb0; have A1 := Lib.hid bb1; have X := Lib.hid x0
  clear x0 bb0 bb1
  have HL0 := HL; have HC0 := HC; have HL := Lib.hid (HL.out.ext X.out); have HC := Lib.hid (HC.out.ext X.out); have HZ := Lib.hid (HZ.out.ext X.out)
  by_cases h1 : 20 < l.length
  · have q1 : (20 : Int) < (l.length : Int) := by omega
    clear h1
    go_enter Try.func7, Try.ntmps7
    have qA1 := A1.out.cell; have fA1 := A1.out.free; have lA1 := A1.out.lt
    go_wp2_with fail
    refine (awake30_any _).mono ?_
    rintro e w1 ⟨rfl, hx⟩
    clear qA1 fA1 lA1
    have HL := Lib.hid (HL.out.ext hx); have HC := Lib.hid (HC.out.ext hx); have HZ := Lib.hid (HZ.out.ext hx); have A0 := Lib.hid (A0.out.ext hx); have A1 := Lib.hid (A1.out.ext hx); have X := Lib.hid (X.out.trans hx)
    clear hx
    go_wp2_with fail
    go_ret
    exact ⟨rfl, X.out⟩
  · have q1 : ¬ (20 : Int) < (l.length : Int) := by omega
    by_cases h2 : ak = 0
    · by_cases h3 : cs.length = 0
      · have q3 : ((cs.length : Int) == 0) = true := by simp [h3]
        subst h2
        clear h1 h3
        go_enter Try.func7, Try.ntmps7
        have qA1 := A1.out.cell; have fA1 := A1.out.free; have lA1 := A1.out.lt
        go_wp2_with fail
        refine (HCK.out _ HL.out).mono ?_
        rintro e w1 ⟨rfl, hx⟩
        clear qA1 fA1 lA1
        have HL := Lib.hid (HL.out.ext hx); have HC := Lib.hid (HC.out.ext hx); have HZ := Lib.hid (HZ.out.ext hx); have A0 := Lib.hid (A0.out.ext hx); have A1 := Lib.hid (A1.out.ext hx); have X := Lib.hid (X.out.trans hx)
        clear hx
        have qA1 := A1.out.cell; have fA1 := A1.out.free; have lA1 := A1.out.lt
        go_wp2_with fail
        refine (awake30_any _).mono ?_
        rintro e w2 ⟨rfl, hx⟩
        clear qA1 fA1 lA1
        have HL := Lib.hid (HL.out.ext hx); have HC := Lib.hid (HC.out.ext hx); have HZ := Lib.hid (HZ.out.ext hx); have A0 := Lib.hid (A0.out.ext hx); have A1 := Lib.hid (A1.out.ext hx); have X := Lib.hid (X.out.trans hx)
        clear hx
        go_wp2_with fail
        go_ret
        exact ⟨rfl, X.out⟩
      · have q3 : ((cs.length : Int) == 0) = false := by simp; exact fun h => h3 (by rw [h]; rfl)
        subst h2
        have hac : achk l = 0 := HAK.out.symm
        have hl0 : 0 < l.length := by
          have h := hac
          unfold achk at h
          split at h
          · cases h
          · omega
        have t3 : 0 < cs.length := Nat.pos_of_ne_zero h3
        have HAC := Lib.hid hac
        clear h1 h3 HAK hac
        go_enter Try.func7, Try.ntmps7
        have qA1 := A1.out.cell; have fA1 := A1.out.free; have lA1 := A1.out.lt
        go_wp2_with fail
        refine (HCK.out _ HL.out).mono ?_
        rintro e w1 ⟨rfl, hx⟩
        clear qA1 fA1 lA1
        have HL := Lib.hid (HL.out.ext hx); have HC := Lib.hid (HC.out.ext hx); have HZ := Lib.hid (HZ.out.ext hx); have A0 := Lib.hid (A0.out.ext hx); have A1 := Lib.hid (A1.out.ext hx); have X := Lib.hid (X.out.trans hx)
        clear hx
        have qA1 := A1.out.cell; have fA1 := A1.out.free; have lA1 := A1.out.lt
        go_wp2_with fail
        refine (awake30_any _).mono ?_
        rintro e w2 ⟨rfl, hx⟩
        clear qA1 fA1 lA1
        have HL := Lib.hid (HL.out.ext hx); have HC := Lib.hid (HC.out.ext hx); have HZ := Lib.hid (HZ.out.ext hx); have A0 := Lib.hid (A0.out.ext hx); have A1 := Lib.hid (A1.out.ext hx); have X := Lib.hid (X.out.trans hx)
        clear hx
        have htm := fun W => tame_any de dl se sl ae aq r W
        have hck := tame_chk de dl se sl ae aq r
        generalize umod de 2000 + umod dl 500 = g1 at htm hck
        generalize umod se 2000 + umod sl 500 = g3 at htm hck
        generalize umod ae 2000 + umod aq 500 = g5 at htm hck
        generalize umod de 2000 = g0 at htm hck
        generalize umod se 2000 = g2 at htm hck
        generalize umod ae 2000 = g4 at htm hck
        generalize umod r 101 = g6 at htm hck
        have HT := Lib.hid htm; have HK := Lib.hid hck
        have hnat : nw = ((nw.toNat : Nat) : Int) := by omega
        obtain ⟨nn, hnn⟩ : ∃ n, n = nw.toNat % l.length := ⟨_, rfl⟩
        have hnl : nn < l.length := by rw [hnn]; exact Nat.mod_lt _ hl0
        have hwr : IntKind.i64.wrap nw = nw := by rw [IntKind.wrap_i64]; omega
        have hmod : (IntKind.i64.wrap nw).tmod (l.length : Int) = (nn : Int) := by
          rw [hwr, hnn]
          have h9 : ((nw.toNat : Nat) : Int).tmod (l.length : Int) = ((nw.toNat % l.length : Nat) : Int) := rfl
          rwa [← hnat] at h9
        have gL : l.length ≤ 20 := by omega
        have q4 : (0 : Int) < (l.length : Int) := by omega
        have q5 : l ≠ [] := List.ne_nil_of_length_pos hl0
        clear htm hck hnat hnn hwr
        have qA0 := A0.out.cell; have fA0 := A0.out.free; have lA0 := A0.out.lt; have qA1 := A1.out.cell; have fA1 := A1.out.free; have lA1 := A1.out.lt
        go_wp2_with fail
        clear qA0 fA0 lA0 qA1 fA1 lA1
        have B0 := A0; have B1 := A1; have XB := X; have SZ : Hid (w.heap.size ≤ w2.heap.size) := Lib.hid X.out.size; have SA : Hid (w.heap.size + 1 < w2.heap.size) := Lib.hid A1.out.lt
        refine wp_region_held_drew (S := (fun W => (W.cell? ⟨w.heap.size, 0, none⟩ = some (.int .i64 de) ∧ W.cell? ⟨w.heap.size, 1, none⟩ = some (.int .i64 dl) ∧ W.cell? ⟨w.heap.size, 2, none⟩ = some (.int .i64 se) ∧ W.cell? ⟨w.heap.size, 3, none⟩ = some (.int .i64 sl) ∧ W.cell? ⟨w.heap.size, 4, none⟩ = some (.int .i64 ae) ∧ W.cell? ⟨w.heap.size, 5, none⟩ = some (.int .i64 aq) ∧ W.cell? ⟨w.heap.size, 6, none⟩ = some (.int .i64 r)) ∧ (W.cell? ⟨(w.heap.size + 1), 0, none⟩ = some (.slice al l.length cl) ∧ W.cell? ⟨(w.heap.size + 1), 1, none⟩ = some (.int .u8 nw) ∧ W.cell? ⟨(w.heap.size + 1), 2, none⟩ = some (.slice ac cs.length cc)))) (by kernel_rfl) ?_ (fun hHeld => ?_)
        · exact ⟨cells7 (B0.out.ext (Ext.drew (Ext.refl _))), cells3 (B1.out.ext (Ext.drew (Ext.refl _)))⟩
        refine wpAnyH_take (i := 0) (v := ?_) rfl (by kernel_rfl) (by kernel_rfl) (by kernel_rfl) (fun _ _ _ h => h) (Or.inl ⟨by rfl, ?_⟩) (by assumption) ?_
        rotate_left
        · (intro w hSw; (try dsimp only at hSw); go_simp; first | done | with_reducible rfl)
        (try simp only [Act.put, List.getElem_toArray, List.getElem_cons_zero, List.getElem_cons_succ, List.setIfInBounds_toArray, List.set_cons_zero, List.set_cons_succ])
        refine wpAnyH_take (i := 2) (v := ?_) rfl (by kernel_rfl) (by kernel_rfl) (by kernel_rfl) (fun _ _ _ h => h) (Or.inl ⟨by rfl, ?_⟩) (by assumption) ?_
        rotate_left
        · (intro w hSw; (try dsimp only at hSw); go_simp; first | done | with_reducible rfl)
        (try simp only [Act.put, List.getElem_toArray, List.getElem_cons_zero, List.getElem_cons_succ, List.setIfInBounds_toArray, List.set_cons_zero, List.set_cons_succ])
        refine wpAnyH_take (i := 3) (v := ?_) rfl (by kernel_rfl) (by kernel_rfl) (by kernel_rfl) (fun _ _ _ h => h) (Or.inl ⟨by rfl, ?_⟩) (by assumption) ?_
        rotate_left
        · (intro w hSw; (try dsimp only at hSw); go_simp; first | done | with_reducible rfl)
        (try simp only [Act.put, List.getElem_toArray, List.getElem_cons_zero, List.getElem_cons_succ, List.setIfInBounds_toArray, List.set_cons_zero, List.set_cons_succ])
        refine wpAnyH_take (i := 4) (v := ?_) rfl (by kernel_rfl) (by kernel_rfl) (by kernel_rfl) (fun _ _ _ h => h) (Or.inl ⟨by rfl, ?_⟩) (by assumption) ?_
        rotate_left
        · (intro w hSw; (try dsimp only at hSw); go_simp; first | done | with_reducible rfl)
        (try simp only [Act.put, List.getElem_toArray, List.getElem_cons_zero, List.getElem_cons_succ, List.setIfInBounds_toArray, List.set_cons_zero, List.set_cons_succ])
        refine wpAnyH_take (i := 5) (v := ?_) rfl (by kernel_rfl) (by kernel_rfl) (by kernel_rfl) (fun _ _ _ h => h) (Or.inl ⟨by rfl, ?_⟩) (by assumption) ?_
        rotate_left
        · (intro w hSw; (try dsimp only at hSw); go_simp; first | done | with_reducible rfl)
        (try simp only [Act.put, List.getElem_toArray, List.getElem_cons_zero, List.getElem_cons_succ, List.setIfInBounds_toArray, List.set_cons_zero, List.set_cons_succ])
        refine wpAnyH_take (i := 6) (v := ?_) rfl (by kernel_rfl) (by kernel_rfl) (by kernel_rfl) (fun _ _ _ h => h) (Or.inl ⟨by rfl, ?_⟩) (by assumption) ?_
        rotate_left
        · (intro w hSw; (try dsimp only at hSw); go_simp; first | done | with_reducible rfl)
        (try simp only [Act.put, List.getElem_toArray, List.getElem_cons_zero, List.getElem_cons_succ, List.setIfInBounds_toArray, List.set_cons_zero, List.set_cons_succ])
        refine wpAnyH_take (i := 7) (v := ?_) rfl (by kernel_rfl) (by kernel_rfl) (by kernel_rfl) (fun _ _ _ h => h) (Or.inl ⟨by rfl, ?_⟩) (by assumption) ?_
        rotate_left
        · (intro w hSw; (try dsimp only at hSw); go_simp; first | done | with_reducible rfl)
        (try simp only [Act.put, List.getElem_toArray, List.getElem_cons_zero, List.getElem_cons_succ, List.setIfInBounds_toArray, List.set_cons_zero, List.set_cons_succ])
        refine wpAnyH_take (i := 8) (v := ?_) rfl (by kernel_rfl) (by kernel_rfl) (by kernel_rfl) (fun _ _ _ h => h) (Or.inl ⟨by rfl, ?_⟩) (by assumption) ?_
        rotate_left
        · (intro w hSw; (try dsimp only at hSw); go_simp; first | done | with_reducible rfl)
        (try simp only [Act.put, List.getElem_toArray, List.getElem_cons_zero, List.getElem_cons_succ, List.setIfInBounds_toArray, List.set_cons_zero, List.set_cons_succ])
        refine wpAnyH_take (i := 9) (v := ?_) rfl (by kernel_rfl) (by kernel_rfl) (by kernel_rfl) (fun _ _ _ h => h) (Or.inl ⟨by rfl, ?_⟩) (by assumption) ?_
        rotate_left
        · (intro w hSw; (try dsimp only at hSw); go_simp; first | done | with_reducible rfl)
        (try simp only [Act.put, List.getElem_toArray, List.getElem_cons_zero, List.getElem_cons_succ, List.setIfInBounds_toArray, List.set_cons_zero, List.set_cons_succ])
        have XW : Hid (Ext w2 w2) := Lib.hid (Ext.refl _)
        apply via3 (F := fun W p q => Ext w2 W ∧ Blk W p #[.int .i64 0, .int .i64 0, .int .i64 0, .int .i64 0, .int .i64 0, .int .i64 0, .int .i64 0] 61 ∧ Blk W q #[.int .i64 0, .int .i64 0, .int .i64 0] 69 ∧ p ≠ q ∧ w2.heap.size ≤ p ∧ w2.heap.size ≤ q)
        · intro HV
          refine wpAnyH_ready (rs := [1, 10, 11]) (by kernel_rfl) (by simp) ?_
          refine AllReadyH.cons rfl (fun K hK => ?_) (AllReadyH.cons rfl (fun K hK => ?_) (AllReadyH.cons rfl (fun K hK => ?_) AllReadyH.nil))
          · go_simp
            refine (HT.out _).mono ?_
            rintro e w3 ⟨rfl, hx⟩
            have hx := Ext.trans (show Ext w2 _ from by first | exact Ext.refl _ | exact (Ext.refl _).drew) hx
            have HL := Lib.hid (HL.out.ext hx); have HC := Lib.hid (HC.out.ext hx); have HZ := Lib.hid (HZ.out.ext hx); have A0 := Lib.hid (A0.out.ext hx); have A1 := Lib.hid (A1.out.ext hx); have X := Lib.hid (X.out.trans hx)
            have XW := Lib.hid (XW.out.trans hx)
            clear hx
            first | refine hK.out _ _ ?_ (fun hHeld => ?_) | (go_wp2_with fail; refine hK.out _ _ ?_ (fun hHeld => ?_))
            · exact ⟨cells7 (B0.out.ext (show Ext w2 _ from by have x9 := XW.out; (repeat (first | (with_reducible exact Ext.refl _) | (with_reducible assumption) | (with_reducible refine Ext.alloc ?_ _) | ((with_reducible refine Ext.setp ?_ ?_); focus (dsimp only; omega)) | (with_reducible refine Ext.drew ?_) | (with_reducible refine Ext.drewN ?_ _) | (with_reducible refine Ext.trans ?_ (by assumption)))))), cells3 (B1.out.ext (show Ext w2 _ from by have x9 := XW.out; (repeat (first | (with_reducible exact Ext.refl _) | (with_reducible assumption) | (with_reducible refine Ext.alloc ?_ _) | ((with_reducible refine Ext.setp ?_ ?_); focus (dsimp only; omega)) | (with_reducible refine Ext.drew ?_) | (with_reducible refine Ext.drewN ?_ _) | (with_reducible refine Ext.trans ?_ (by assumption))))))⟩
            clear hK K
            (try simp only [Act.put, List.getElem_toArray, List.getElem_cons_zero, List.getElem_cons_succ, List.setIfInBounds_toArray, List.set_cons_zero, List.set_cons_succ])
            refine wpAnyH_ready (rs := [10, 11]) (by kernel_rfl) (by simp) ?_
            refine AllReadyH.cons rfl (fun K hK => ?_) (AllReadyH.cons rfl (fun K hK => ?_) AllReadyH.nil)
            · go_simp
              have hx : Ext w3 ((w3.alloc (.cells #[.int .i64 0, .int .i64 0, .int .i64 0, .int .i64 0, .int .i64 0, .int .i64 0, .int .i64 0] 61))) := (Ext.refl _).alloc _
              have bz : Blk ((w3.alloc (.cells #[.int .i64 0, .int .i64 0, .int .i64 0, .int .i64 0, .int .i64 0, .int .i64 0, .int .i64 0] 61))) w3.heap.size #[.int .i64 0, .int .i64 0, .int .i64 0, .int .i64 0, .int .i64 0, .int .i64 0, .int .i64 0] 61 := Blk.new w3 #[.int .i64 0, .int .i64 0, .int .i64 0, .int .i64 0, .int .i64 0, .int .i64 0, .int .i64 0] 61
              obtain ⟨w4, hww4⟩ : ∃ W, W = (w3.alloc (.cells #[.int .i64 0, .int .i64 0, .int .i64 0, .int .i64 0, .int .i64 0, .int .i64 0, .int .i64 0] 61)) := ⟨_, rfl⟩
              rw [← hww4] at hx bz ⊢
              obtain ⟨PPn, hPPn⟩ : ∃ n, n = w3.heap.size := ⟨_, rfl⟩
              have hlw : w2.heap.size ≤ PPn := by rw [hPPn]; exact XW.out.size
              rw [← hPPn] at bz  ⊢
              have LPP := Lib.hid hlw
              have XW := Lib.hid (XW.out.trans hx)
              have HL := Lib.hid (HL.out.ext hx); have HC := Lib.hid (HC.out.ext hx); have HZ := Lib.hid (HZ.out.ext hx); have A0 := Lib.hid (A0.out.ext hx); have A1 := Lib.hid (A1.out.ext hx); have X := Lib.hid (X.out.trans hx)
              have PP := Lib.hid bz
              clear hx bz hlw hww4 hPPn
              first | refine hK.out _ _ ?_ (fun hHeld => ?_) | (go_wp2_with fail; refine hK.out _ _ ?_ (fun hHeld => ?_))
              · exact ⟨cells7 (B0.out.ext (show Ext w2 _ from by have x9 := XW.out; (repeat (first | (with_reducible exact Ext.refl _) | (with_reducible assumption) | (with_reducible refine Ext.alloc ?_ _) | ((with_reducible refine Ext.setp ?_ ?_); focus (dsimp only; omega)) | (with_reducible refine Ext.drew ?_) | (with_reducible refine Ext.drewN ?_ _) | (with_reducible refine Ext.trans ?_ (by assumption)))))), cells3 (B1.out.ext (show Ext w2 _ from by have x9 := XW.out; (repeat (first | (with_reducible exact Ext.refl _) | (with_reducible assumption) | (with_reducible refine Ext.alloc ?_ _) | ((with_reducible refine Ext.setp ?_ ?_); focus (dsimp only; omega)) | (with_reducible refine Ext.drew ?_) | (with_reducible refine Ext.drewN ?_ _) | (with_reducible refine Ext.trans ?_ (by assumption))))))⟩
              clear hK K
              (try simp only [Act.put, List.getElem_toArray, List.getElem_cons_zero, List.getElem_cons_succ, List.setIfInBounds_toArray, List.set_cons_zero, List.set_cons_succ])
              refine wpAnyH_ready (rs := [11]) (by kernel_rfl) (by simp) ?_
              refine AllReadyH.cons rfl (fun K hK => ?_) ?_
              rotate_left
              · exact AllReadyH.nil
              go_simp
              have hlo : PPn < w4.heap.size := PP.out.lt
              have hx : Ext w4 ((w4.alloc (.cells #[.int .i64 0, .int .i64 0, .int .i64 0] 69))) := (Ext.refl _).alloc _
              have bz : Blk ((w4.alloc (.cells #[.int .i64 0, .int .i64 0, .int .i64 0] 69))) w4.heap.size #[.int .i64 0, .int .i64 0, .int .i64 0] 69 := Blk.new w4 #[.int .i64 0, .int .i64 0, .int .i64 0] 69
              obtain ⟨w5, hww5⟩ : ∃ W, W = (w4.alloc (.cells #[.int .i64 0, .int .i64 0, .int .i64 0] 69)) := ⟨_, rfl⟩
              rw [← hww5] at hx bz ⊢
              obtain ⟨QQn, hQQn⟩ : ∃ n, n = w4.heap.size := ⟨_, rfl⟩
              have hlw : w2.heap.size ≤ QQn := by rw [hQQn]; exact XW.out.size
              rw [← hQQn] at bz hlo ⊢
              have LQQ := Lib.hid hlw; have LO := Lib.hid hlo
              have XW := Lib.hid (XW.out.trans hx)
              have HL := Lib.hid (HL.out.ext hx); have HC := Lib.hid (HC.out.ext hx); have HZ := Lib.hid (HZ.out.ext hx); have A0 := Lib.hid (A0.out.ext hx); have A1 := Lib.hid (A1.out.ext hx); have PP := Lib.hid (PP.out.ext hx); have X := Lib.hid (X.out.trans hx)
              have QQ := Lib.hid bz
              clear hx bz hlw hww5 hQQn hlo
              first | refine hK.out _ _ ?_ (fun hHeld => ?_) | (go_wp2_with fail; refine hK.out _ _ ?_ (fun hHeld => ?_))
              · exact ⟨cells7 (B0.out.ext (show Ext w2 _ from by have x9 := XW.out; (repeat (first | (with_reducible exact Ext.refl _) | (with_reducible assumption) | (with_reducible refine Ext.alloc ?_ _) | ((with_reducible refine Ext.setp ?_ ?_); focus (dsimp only; omega)) | (with_reducible refine Ext.drew ?_) | (with_reducible refine Ext.drewN ?_ _) | (with_reducible refine Ext.trans ?_ (by assumption)))))), cells3 (B1.out.ext (show Ext w2 _ from by have x9 := XW.out; (repeat (first | (with_reducible exact Ext.refl _) | (with_reducible assumption) | (with_reducible refine Ext.alloc ?_ _) | ((with_reducible refine Ext.setp ?_ ?_); focus (dsimp only; omega)) | (with_reducible refine Ext.drew ?_) | (with_reducible refine Ext.drewN ?_ _) | (with_reducible refine Ext.trans ?_ (by assumption))))))⟩
              clear hK K
              (try simp only [Act.put, List.getElem_toArray, List.getElem_cons_zero, List.getElem_cons_succ, List.setIfInBounds_toArray, List.set_cons_zero, List.set_cons_succ])
              exact HV w5 PPn QQn ⟨XW.out, PP.out, QQ.out, Nat.ne_of_lt LO.out, LPP.out, LQQ.out⟩
            · go_simp
              have hx : Ext w3 ((w3.alloc (.cells #[.int .i64 0, .int .i64 0, .int .i64 0] 69))) := (Ext.refl _).alloc _
              have bz : Blk ((w3.alloc (.cells #[.int .i64 0, .int .i64 0, .int .i64 0] 69))) w3.heap.size #[.int .i64 0, .int .i64 0, .int .i64 0] 69 := Blk.new w3 #[.int .i64 0, .int .i64 0, .int .i64 0] 69
              obtain ⟨w4, hww4⟩ : ∃ W, W = (w3.alloc (.cells #[.int .i64 0, .int .i64 0, .int .i64 0] 69)) := ⟨_, rfl⟩
              rw [← hww4] at hx bz ⊢
              obtain ⟨QQn, hQQn⟩ : ∃ n, n = w3.heap.size := ⟨_, rfl⟩
              have hlw : w2.heap.size ≤ QQn := by rw [hQQn]; exact XW.out.size
              rw [← hQQn] at bz  ⊢
              have LQQ := Lib.hid hlw
              have XW := Lib.hid (XW.out.trans hx)
              have HL := Lib.hid (HL.out.ext hx); have HC := Lib.hid (HC.out.ext hx); have HZ := Lib.hid (HZ.out.ext hx); have A0 := Lib.hid (A0.out.ext hx); have A1 := Lib.hid (A1.out.ext hx); have X := Lib.hid (X.out.trans hx)
              have QQ := Lib.hid bz
              clear hx bz hlw hww4 hQQn
              first | refine hK.out _ _ ?_ (fun hHeld => ?_) | (go_wp2_with fail; refine hK.out _ _ ?_ (fun hHeld => ?_))
              · exact ⟨cells7 (B0.out.ext (show Ext w2 _ from by have x9 := XW.out; (repeat (first | (with_reducible exact Ext.refl _) | (with_reducible assumption) | (with_reducible refine Ext.alloc ?_ _) | ((with_reducible refine Ext.setp ?_ ?_); focus (dsimp only; omega)) | (with_reducible refine Ext.drew ?_) | (with_reducible refine Ext.drewN ?_ _) | (with_reducible refine Ext.trans ?_ (by assumption)))))), cells3 (B1.out.ext (show Ext w2 _ from by have x9 := XW.out; (repeat (first | (with_reducible exact Ext.refl _) | (with_reducible assumption) | (with_reducible refine Ext.alloc ?_ _) | ((with_reducible refine Ext.setp ?_ ?_); focus (dsimp only; omega)) | (with_reducible refine Ext.drew ?_) | (with_reducible refine Ext.drewN ?_ _) | (with_reducible refine Ext.trans ?_ (by assumption))))))⟩
              clear hK K
              (try simp only [Act.put, List.getElem_toArray, List.getElem_cons_zero, List.getElem_cons_succ, List.setIfInBounds_toArray, List.set_cons_zero, List.set_cons_succ])
              refine wpAnyH_ready (rs := [10]) (by kernel_rfl) (by simp) ?_
              refine AllReadyH.cons rfl (fun K hK => ?_) ?_
              rotate_left
              · exact AllReadyH.nil
              go_simp
              have hlo : QQn < w4.heap.size := QQ.out.lt
              have hx : Ext w4 ((w4.alloc (.cells #[.int .i64 0, .int .i64 0, .int .i64 0, .int .i64 0, .int .i64 0, .int .i64 0, .int .i64 0] 61))) := (Ext.refl _).alloc _
              have bz : Blk ((w4.alloc (.cells #[.int .i64 0, .int .i64 0, .int .i64 0, .int .i64 0, .int .i64 0, .int .i64 0, .int .i64 0] 61))) w4.heap.size #[.int .i64 0, .int .i64 0, .int .i64 0, .int .i64 0, .int .i64 0, .int .i64 0, .int .i64 0] 61 := Blk.new w4 #[.int .i64 0, .int .i64 0, .int .i64 0, .int .i64 0, .int .i64 0, .int .i64 0, .int .i64 0] 61
              obtain ⟨w5, hww5⟩ : ∃ W, W = (w4.alloc (.cells #[.int .i64 0, .int .i64 0, .int .i64 0, .int .i64 0, .int .i64 0, .int .i64 0, .int .i64 0] 61)) := ⟨_, rfl⟩
              rw [← hww5] at hx bz ⊢
              obtain ⟨PPn, hPPn⟩ : ∃ n, n = w4.heap.size := ⟨_, rfl⟩
              have hlw : w2.heap.size ≤ PPn := by rw [hPPn]; exact XW.out.size
              rw [← hPPn] at bz hlo ⊢
              have LPP := Lib.hid hlw; have LO := Lib.hid hlo
              have XW := Lib.hid (XW.out.trans hx)
              have HL := Lib.hid (HL.out.ext hx); have HC := Lib.hid (HC.out.ext hx); have HZ := Lib.hid (HZ.out.ext hx); have A0 := Lib.hid (A0.out.ext hx); have A1 := Lib.hid (A1.out.ext hx); have QQ := Lib.hid (QQ.out.ext hx); have X := Lib.hid (X.out.trans hx)
              have PP := Lib.hid bz
              clear hx bz hlw hww5 hPPn hlo
              first | refine hK.out _ _ ?_ (fun hHeld => ?_) | (go_wp2_with fail; refine hK.out _ _ ?_ (fun hHeld => ?_))
              · exact ⟨cells7 (B0.out.ext (show Ext w2 _ from by have x9 := XW.out; (repeat (first | (with_reducible exact Ext.refl _) | (with_reducible assumption) | (with_reducible refine Ext.alloc ?_ _) | ((with_reducible refine Ext.setp ?_ ?_); focus (dsimp only; omega)) | (with_reducible refine Ext.drew ?_) | (with_reducible refine Ext.drewN ?_ _) | (with_reducible refine Ext.trans ?_ (by assumption)))))), cells3 (B1.out.ext (show Ext w2 _ from by have x9 := XW.out; (repeat (first | (with_reducible exact Ext.refl _) | (with_reducible assumption) | (with_reducible refine Ext.alloc ?_ _) | ((with_reducible refine Ext.setp ?_ ?_); focus (dsimp only; omega)) | (with_reducible refine Ext.drew ?_) | (with_reducible refine Ext.drewN ?_ _) | (with_reducible refine Ext.trans ?_ (by assumption))))))⟩
              clear hK K
              (try simp only [Act.put, List.getElem_toArray, List.getElem_cons_zero, List.getElem_cons_succ, List.setIfInBounds_toArray, List.set_cons_zero, List.set_cons_succ])
              exact HV w5 PPn QQn ⟨XW.out, PP.out, QQ.out, Nat.ne_of_gt LO.out, LPP.out, LQQ.out⟩
          · go_simp
            have hx : Ext w2 ((w2.alloc (.cells #[.int .i64 0, .int .i64 0, .int .i64 0, .int .i64 0, .int .i64 0, .int .i64 0, .int .i64 0] 61)).drew) := ((Ext.refl _).alloc _).drew
            have bz : Blk ((w2.alloc (.cells #[.int .i64 0, .int .i64 0, .int .i64 0, .int .i64 0, .int .i64 0, .int .i64 0, .int .i64 0] 61)).drew) w2.heap.size #[.int .i64 0, .int .i64 0, .int .i64 0, .int .i64 0, .int .i64 0, .int .i64 0, .int .i64 0] 61 := (Blk.new w2 #[.int .i64 0, .int .i64 0, .int .i64 0, .int .i64 0, .int .i64 0, .int .i64 0, .int .i64 0] 61).drew
            obtain ⟨w3, hww3⟩ : ∃ W, W = (w2.alloc (.cells #[.int .i64 0, .int .i64 0, .int .i64 0, .int .i64 0, .int .i64 0, .int .i64 0, .int .i64 0] 61)).drew := ⟨_, rfl⟩
            rw [← hww3] at hx bz ⊢
            obtain ⟨PPn, hPPn⟩ : ∃ n, n = w2.heap.size := ⟨_, rfl⟩
            have hlw : w2.heap.size ≤ PPn := by rw [hPPn]; exact XW.out.size
            rw [← hPPn] at bz  ⊢
            have LPP := Lib.hid hlw
            have XW := Lib.hid (XW.out.trans hx)
            have HL := Lib.hid (HL.out.ext hx); have HC := Lib.hid (HC.out.ext hx); have HZ := Lib.hid (HZ.out.ext hx); have A0 := Lib.hid (A0.out.ext hx); have A1 := Lib.hid (A1.out.ext hx); have X := Lib.hid (X.out.trans hx)
            have PP := Lib.hid bz
            clear hx bz hlw hww3 hPPn
            first | refine hK.out _ _ ?_ (fun hHeld => ?_) | (go_wp2_with fail; refine hK.out _ _ ?_ (fun hHeld => ?_))
            · exact ⟨cells7 (B0.out.ext (show Ext w2 _ from by have x9 := XW.out; (repeat (first | (with_reducible exact Ext.refl _) | (with_reducible assumption) | (with_reducible refine Ext.alloc ?_ _) | ((with_reducible refine Ext.setp ?_ ?_); focus (dsimp only; omega)) | (with_reducible refine Ext.drew ?_) | (with_reducible refine Ext.drewN ?_ _) | (with_reducible refine Ext.trans ?_ (by assumption)))))), cells3 (B1.out.ext (show Ext w2 _ from by have x9 := XW.out; (repeat (first | (with_reducible exact Ext.refl _) | (with_reducible assumption) | (with_reducible refine Ext.alloc ?_ _) | ((with_reducible refine Ext.setp ?_ ?_); focus (dsimp only; omega)) | (with_reducible refine Ext.drew ?_) | (with_reducible refine Ext.drewN ?_ _) | (with_reducible refine Ext.trans ?_ (by assumption))))))⟩
            clear hK K
            (try simp only [Act.put, List.getElem_toArray, List.getElem_cons_zero, List.getElem_cons_succ, List.setIfInBounds_toArray, List.set_cons_zero, List.set_cons_succ])
            refine wpAnyH_ready (rs := [1, 11]) (by kernel_rfl) (by simp) ?_
            refine AllReadyH.cons rfl (fun K hK => ?_) (AllReadyH.cons rfl (fun K hK => ?_) AllReadyH.nil)
            · go_simp
              refine (HT.out _).mono ?_
              rintro e w4 ⟨rfl, hx⟩
              have hx := Ext.trans (show Ext w3 _ from by first | exact Ext.refl _ | exact (Ext.refl _).drew) hx
              have HL := Lib.hid (HL.out.ext hx); have HC := Lib.hid (HC.out.ext hx); have HZ := Lib.hid (HZ.out.ext hx); have A0 := Lib.hid (A0.out.ext hx); have A1 := Lib.hid (A1.out.ext hx); have PP := Lib.hid (PP.out.ext hx); have X := Lib.hid (X.out.trans hx)
              have XW := Lib.hid (XW.out.trans hx)
              clear hx
              first | refine hK.out _ _ ?_ (fun hHeld => ?_) | (go_wp2_with fail; refine hK.out _ _ ?_ (fun hHeld => ?_))
              · exact ⟨cells7 (B0.out.ext (show Ext w2 _ from by have x9 := XW.out; (repeat (first | (with_reducible exact Ext.refl _) | (with_reducible assumption) | (with_reducible refine Ext.alloc ?_ _) | ((with_reducible refine Ext.setp ?_ ?_); focus (dsimp only; omega)) | (with_reducible refine Ext.drew ?_) | (with_reducible refine Ext.drewN ?_ _) | (with_reducible refine Ext.trans ?_ (by assumption)))))), cells3 (B1.out.ext (show Ext w2 _ from by have x9 := XW.out; (repeat (first | (with_reducible exact Ext.refl _) | (with_reducible assumption) | (with_reducible refine Ext.alloc ?_ _) | ((with_reducible refine Ext.setp ?_ ?_); focus (dsimp only; omega)) | (with_reducible refine Ext.drew ?_) | (with_reducible refine Ext.drewN ?_ _) | (with_reducible refine Ext.trans ?_ (by assumption))))))⟩
              clear hK K
              (try simp only [Act.put, List.getElem_toArray, List.getElem_cons_zero, List.getElem_cons_succ, List.setIfInBounds_toArray, List.set_cons_zero, List.set_cons_succ])
              refine wpAnyH_ready (rs := [11]) (by kernel_rfl) (by simp) ?_
              refine AllReadyH.cons rfl (fun K hK => ?_) ?_
              rotate_left
              · exact AllReadyH.nil
              go_simp
              have hlo : PPn < w4.heap.size := PP.out.lt
              have hx : Ext w4 ((w4.alloc (.cells #[.int .i64 0, .int .i64 0, .int .i64 0] 69))) := (Ext.refl _).alloc _
              have bz : Blk ((w4.alloc (.cells #[.int .i64 0, .int .i64 0, .int .i64 0] 69))) w4.heap.size #[.int .i64 0, .int .i64 0, .int .i64 0] 69 := Blk.new w4 #[.int .i64 0, .int .i64 0, .int .i64 0] 69
              obtain ⟨w5, hww5⟩ : ∃ W, W = (w4.alloc (.cells #[.int .i64 0, .int .i64 0, .int .i64 0] 69)) := ⟨_, rfl⟩
              rw [← hww5] at hx bz ⊢
              obtain ⟨QQn, hQQn⟩ : ∃ n, n = w4.heap.size := ⟨_, rfl⟩
              have hlw : w2.heap.size ≤ QQn := by rw [hQQn]; exact XW.out.size
              rw [← hQQn] at bz hlo ⊢
              have LQQ := Lib.hid hlw; have LO := Lib.hid hlo
              have XW := Lib.hid (XW.out.trans hx)
              have HL := Lib.hid (HL.out.ext hx); have HC := Lib.hid (HC.out.ext hx); have HZ := Lib.hid (HZ.out.ext hx); have A0 := Lib.hid (A0.out.ext hx); have A1 := Lib.hid (A1.out.ext hx); have PP := Lib.hid (PP.out.ext hx); have X := Lib.hid (X.out.trans hx)
              have QQ := Lib.hid bz
              clear hx bz hlw hww5 hQQn hlo
              first | refine hK.out _ _ ?_ (fun hHeld => ?_) | (go_wp2_with fail; refine hK.out _ _ ?_ (fun hHeld => ?_))
              · exact ⟨cells7 (B0.out.ext (show Ext w2 _ from by have x9 := XW.out; (repeat (first | (with_reducible exact Ext.refl _) | (with_reducible assumption) | (with_reducible refine Ext.alloc ?_ _) | ((with_reducible refine Ext.setp ?_ ?_); focus (dsimp only; omega)) | (with_reducible refine Ext.drew ?_) | (with_reducible refine Ext.drewN ?_ _) | (with_reducible refine Ext.trans ?_ (by assumption)))))), cells3 (B1.out.ext (show Ext w2 _ from by have x9 := XW.out; (repeat (first | (with_reducible exact Ext.refl _) | (with_reducible assumption) | (with_reducible refine Ext.alloc ?_ _) | ((with_reducible refine Ext.setp ?_ ?_); focus (dsimp only; omega)) | (with_reducible refine Ext.drew ?_) | (with_reducible refine Ext.drewN ?_ _) | (with_reducible refine Ext.trans ?_ (by assumption))))))⟩
              clear hK K
              (try simp only [Act.put, List.getElem_toArray, List.getElem_cons_zero, List.getElem_cons_succ, List.setIfInBounds_toArray, List.set_cons_zero, List.set_cons_succ])
              exact HV w5 PPn QQn ⟨XW.out, PP.out, QQ.out, Nat.ne_of_lt LO.out, LPP.out, LQQ.out⟩
            · go_simp
              have hlo : PPn < w3.heap.size := PP.out.lt
              have hx : Ext w3 ((w3.alloc (.cells #[.int .i64 0, .int .i64 0, .int .i64 0] 69))) := (Ext.refl _).alloc _
              have bz : Blk ((w3.alloc (.cells #[.int .i64 0, .int .i64 0, .int .i64 0] 69))) w3.heap.size #[.int .i64 0, .int .i64 0, .int .i64 0] 69 := Blk.new w3 #[.int .i64 0, .int .i64 0, .int .i64 0] 69
              obtain ⟨w4, hww4⟩ : ∃ W, W = (w3.alloc (.cells #[.int .i64 0, .int .i64 0, .int .i64 0] 69)) := ⟨_, rfl⟩
              rw [← hww4] at hx bz ⊢
              obtain ⟨QQn, hQQn⟩ : ∃ n, n = w3.heap.size := ⟨_, rfl⟩
              have hlw : w2.heap.size ≤ QQn := by rw [hQQn]; exact XW.out.size
              rw [← hQQn] at bz hlo ⊢
              have LQQ := Lib.hid hlw; have LO := Lib.hid hlo
              have XW := Lib.hid (XW.out.trans hx)
              have HL := Lib.hid (HL.out.ext hx); have HC := Lib.hid (HC.out.ext hx); have HZ := Lib.hid (HZ.out.ext hx); have A0 := Lib.hid (A0.out.ext hx); have A1 := Lib.hid (A1.out.ext hx); have PP := Lib.hid (PP.out.ext hx); have X := Lib.hid (X.out.trans hx)
              have QQ := Lib.hid bz
              clear hx bz hlw hww4 hQQn hlo
              first | refine hK.out _ _ ?_ (fun hHeld => ?_) | (go_wp2_with fail; refine hK.out _ _ ?_ (fun hHeld => ?_))
              · exact ⟨cells7 (B0.out.ext (show Ext w2 _ from by have x9 := XW.out; (repeat (first | (with_reducible exact Ext.refl _) | (with_reducible assumption) | (with_reducible refine Ext.alloc ?_ _) | ((with_reducible refine Ext.setp ?_ ?_); focus (dsimp only; omega)) | (with_reducible refine Ext.drew ?_) | (with_reducible refine Ext.drewN ?_ _) | (with_reducible refine Ext.trans ?_ (by assumption)))))), cells3 (B1.out.ext (show Ext w2 _ from by have x9 := XW.out; (repeat (first | (with_reducible exact Ext.refl _) | (with_reducible assumption) | (with_reducible refine Ext.alloc ?_ _) | ((with_reducible refine Ext.setp ?_ ?_); focus (dsimp only; omega)) | (with_reducible refine Ext.drew ?_) | (with_reducible refine Ext.drewN ?_ _) | (with_reducible refine Ext.trans ?_ (by assumption))))))⟩
              clear hK K
              (try simp only [Act.put, List.getElem_toArray, List.getElem_cons_zero, List.getElem_cons_succ, List.setIfInBounds_toArray, List.set_cons_zero, List.set_cons_succ])
              refine wpAnyH_ready (rs := [1]) (by kernel_rfl) (by simp) ?_
              refine AllReadyH.cons rfl (fun K hK => ?_) ?_
              rotate_left
              · exact AllReadyH.nil
              go_simp
              refine (HT.out _).mono ?_
              rintro e w5 ⟨rfl, hx⟩
              have hx := Ext.trans (show Ext w4 _ from by first | exact Ext.refl _ | exact (Ext.refl _).drew) hx
              have HL := Lib.hid (HL.out.ext hx); have HC := Lib.hid (HC.out.ext hx); have HZ := Lib.hid (HZ.out.ext hx); have A0 := Lib.hid (A0.out.ext hx); have A1 := Lib.hid (A1.out.ext hx); have PP := Lib.hid (PP.out.ext hx); have QQ := Lib.hid (QQ.out.ext hx); have X := Lib.hid (X.out.trans hx)
              have XW := Lib.hid (XW.out.trans hx)
              clear hx
              first | refine hK.out _ _ ?_ (fun hHeld => ?_) | (go_wp2_with fail; refine hK.out _ _ ?_ (fun hHeld => ?_))
              · exact ⟨cells7 (B0.out.ext (show Ext w2 _ from by have x9 := XW.out; (repeat (first | (with_reducible exact Ext.refl _) | (with_reducible assumption) | (with_reducible refine Ext.alloc ?_ _) | ((with_reducible refine Ext.setp ?_ ?_); focus (dsimp only; omega)) | (with_reducible refine Ext.drew ?_) | (with_reducible refine Ext.drewN ?_ _) | (with_reducible refine Ext.trans ?_ (by assumption)))))), cells3 (B1.out.ext (show Ext w2 _ from by have x9 := XW.out; (repeat (first | (with_reducible exact Ext.refl _) | (with_reducible assumption) | (with_reducible refine Ext.alloc ?_ _) | ((with_reducible refine Ext.setp ?_ ?_); focus (dsimp only; omega)) | (with_reducible refine Ext.drew ?_) | (with_reducible refine Ext.drewN ?_ _) | (with_reducible refine Ext.trans ?_ (by assumption))))))⟩
              clear hK K
              (try simp only [Act.put, List.getElem_toArray, List.getElem_cons_zero, List.getElem_cons_succ, List.setIfInBounds_toArray, List.set_cons_zero, List.set_cons_succ])
              exact HV w5 PPn QQn ⟨XW.out, PP.out, QQ.out, Nat.ne_of_lt LO.out, LPP.out, LQQ.out⟩
          · go_simp
            have hx : Ext w2 ((w2.alloc (.cells #[.int .i64 0, .int .i64 0, .int .i64 0] 69)).drew) := ((Ext.refl _).alloc _).drew
            have bz : Blk ((w2.alloc (.cells #[.int .i64 0, .int .i64 0, .int .i64 0] 69)).drew) w2.heap.size #[.int .i64 0, .int .i64 0, .int .i64 0] 69 := (Blk.new w2 #[.int .i64 0, .int .i64 0, .int .i64 0] 69).drew
            obtain ⟨w3, hww3⟩ : ∃ W, W = (w2.alloc (.cells #[.int .i64 0, .int .i64 0, .int .i64 0] 69)).drew := ⟨_, rfl⟩
            rw [← hww3] at hx bz ⊢
            obtain ⟨QQn, hQQn⟩ : ∃ n, n = w2.heap.size := ⟨_, rfl⟩
            have hlw : w2.heap.size ≤ QQn := by rw [hQQn]; exact XW.out.size
            rw [← hQQn] at bz  ⊢
            have LQQ := Lib.hid hlw
            have XW := Lib.hid (XW.out.trans hx)
            have HL := Lib.hid (HL.out.ext hx); have HC := Lib.hid (HC.out.ext hx); have HZ := Lib.hid (HZ.out.ext hx); have A0 := Lib.hid (A0.out.ext hx); have A1 := Lib.hid (A1.out.ext hx); have X := Lib.hid (X.out.trans hx)
            have QQ := Lib.hid bz
            clear hx bz hlw hww3 hQQn
            first | refine hK.out _ _ ?_ (fun hHeld => ?_) | (go_wp2_with fail; refine hK.out _ _ ?_ (fun hHeld => ?_))
            · exact ⟨cells7 (B0.out.ext (show Ext w2 _ from by have x9 := XW.out; (repeat (first | (with_reducible exact Ext.refl _) | (with_reducible assumption) | (with_reducible refine Ext.alloc ?_ _) | ((with_reducible refine Ext.setp ?_ ?_); focus (dsimp only; omega)) | (with_reducible refine Ext.drew ?_) | (with_reducible refine Ext.drewN ?_ _) | (with_reducible refine Ext.trans ?_ (by assumption)))))), cells3 (B1.out.ext (show Ext w2 _ from by have x9 := XW.out; (repeat (first | (with_reducible exact Ext.refl _) | (with_reducible assumption) | (with_reducible refine Ext.alloc ?_ _) | ((with_reducible refine Ext.setp ?_ ?_); focus (dsimp only; omega)) | (with_reducible refine Ext.drew ?_) | (with_reducible refine Ext.drewN ?_ _) | (with_reducible refine Ext.trans ?_ (by assumption))))))⟩
            clear hK K
            (try simp only [Act.put, List.getElem_toArray, List.getElem_cons_zero, List.getElem_cons_succ, List.setIfInBounds_toArray, List.set_cons_zero, List.set_cons_succ])
            refine wpAnyH_ready (rs := [1, 10]) (by kernel_rfl) (by simp) ?_
            refine AllReadyH.cons rfl (fun K hK => ?_) (AllReadyH.cons rfl (fun K hK => ?_) AllReadyH.nil)
            · go_simp
              refine (HT.out _).mono ?_
              rintro e w4 ⟨rfl, hx⟩
              have hx := Ext.trans (show Ext w3 _ from by first | exact Ext.refl _ | exact (Ext.refl _).drew) hx
              have HL := Lib.hid (HL.out.ext hx); have HC := Lib.hid (HC.out.ext hx); have HZ := Lib.hid (HZ.out.ext hx); have A0 := Lib.hid (A0.out.ext hx); have A1 := Lib.hid (A1.out.ext hx); have QQ := Lib.hid (QQ.out.ext hx); have X := Lib.hid (X.out.trans hx)
              have XW := Lib.hid (XW.out.trans hx)
              clear hx
              first | refine hK.out _ _ ?_ (fun hHeld => ?_) | (go_wp2_with fail; refine hK.out _ _ ?_ (fun hHeld => ?_))
              · exact ⟨cells7 (B0.out.ext (show Ext w2 _ from by have x9 := XW.out; (repeat (first | (with_reducible exact Ext.refl _) | (with_reducible assumption) | (with_reducible refine Ext.alloc ?_ _) | ((with_reducible refine Ext.setp ?_ ?_); focus (dsimp only; omega)) | (with_reducible refine Ext.drew ?_) | (with_reducible refine Ext.drewN ?_ _) | (with_reducible refine Ext.trans ?_ (by assumption)))))), cells3 (B1.out.ext (show Ext w2 _ from by have x9 := XW.out; (repeat (first | (with_reducible exact Ext.refl _) | (with_reducible assumption) | (with_reducible refine Ext.alloc ?_ _) | ((with_reducible refine Ext.setp ?_ ?_); focus (dsimp only; omega)) | (with_reducible refine Ext.drew ?_) | (with_reducible refine Ext.drewN ?_ _) | (with_reducible refine Ext.trans ?_ (by assumption))))))⟩
              clear hK K
              (try simp only [Act.put, List.getElem_toArray, List.getElem_cons_zero, List.getElem_cons_succ, List.setIfInBounds_toArray, List.set_cons_zero, List.set_cons_succ])
              refine wpAnyH_ready (rs := [10]) (by kernel_rfl) (by simp) ?_
              refine AllReadyH.cons rfl (fun K hK => ?_) ?_
              rotate_left
              · exact AllReadyH.nil
              go_simp
              have hlo : QQn < w4.heap.size := QQ.out.lt
              have hx : Ext w4 ((w4.alloc (.cells #[.int .i64 0, .int .i64 0, .int .i64 0, .int .i64 0, .int .i64 0, .int .i64 0, .int .i64 0] 61))) := (Ext.refl _).alloc _
              have bz : Blk ((w4.alloc (.cells #[.int .i64 0, .int .i64 0, .int .i64 0, .int .i64 0, .int .i64 0, .int .i64 0, .int .i64 0] 61))) w4.heap.size #[.int .i64 0, .int .i64 0, .int .i64 0, .int .i64 0, .int .i64 0, .int .i64 0, .int .i64 0] 61 := Blk.new w4 #[.int .i64 0, .int .i64 0, .int .i64 0, .int .i64 0, .int .i64 0, .int .i64 0, .int .i64 0] 61
              obtain ⟨w5, hww5⟩ : ∃ W, W = (w4.alloc (.cells #[.int .i64 0, .int .i64 0, .int .i64 0, .int .i64 0, .int .i64 0, .int .i64 0, .int .i64 0] 61)) := ⟨_, rfl⟩
              rw [← hww5] at hx bz ⊢
              obtain ⟨PPn, hPPn⟩ : ∃ n, n = w4.heap.size := ⟨_, rfl⟩
              have hlw : w2.heap.size ≤ PPn := by rw [hPPn]; exact XW.out.size
              rw [← hPPn] at bz hlo ⊢
              have LPP := Lib.hid hlw; have LO := Lib.hid hlo
              have XW := Lib.hid (XW.out.trans hx)
              have HL := Lib.hid (HL.out.ext hx); have HC := Lib.hid (HC.out.ext hx); have HZ := Lib.hid (HZ.out.ext hx); have A0 := Lib.hid (A0.out.ext hx); have A1 := Lib.hid (A1.out.ext hx); have QQ := Lib.hid (QQ.out.ext hx); have X := Lib.hid (X.out.trans hx)
              have PP := Lib.hid bz
              clear hx bz hlw hww5 hPPn hlo
              first | refine hK.out _ _ ?_ (fun hHeld => ?_) | (go_wp2_with fail; refine hK.out _ _ ?_ (fun hHeld => ?_))
              · exact ⟨cells7 (B0.out.ext (show Ext w2 _ from by have x9 := XW.out; (repeat (first | (with_reducible exact Ext.refl _) | (with_reducible assumption) | (with_reducible refine Ext.alloc ?_ _) | ((with_reducible refine Ext.setp ?_ ?_); focus (dsimp only; omega)) | (with_reducible refine Ext.drew ?_) | (with_reducible refine Ext.drewN ?_ _) | (with_reducible refine Ext.trans ?_ (by assumption)))))), cells3 (B1.out.ext (show Ext w2 _ from by have x9 := XW.out; (repeat (first | (with_reducible exact Ext.refl _) | (with_reducible assumption) | (with_reducible refine Ext.alloc ?_ _) | ((with_reducible refine Ext.setp ?_ ?_); focus (dsimp only; omega)) | (with_reducible refine Ext.drew ?_) | (with_reducible refine Ext.drewN ?_ _) | (with_reducible refine Ext.trans ?_ (by assumption))))))⟩
              clear hK K
              (try simp only [Act.put, List.getElem_toArray, List.getElem_cons_zero, List.getElem_cons_succ, List.setIfInBounds_toArray, List.set_cons_zero, List.set_cons_succ])
              exact HV w5 PPn QQn ⟨XW.out, PP.out, QQ.out, Nat.ne_of_gt LO.out, LPP.out, LQQ.out⟩
            · go_simp
              have hlo : QQn < w3.heap.size := QQ.out.lt
              have hx : Ext w3 ((w3.alloc (.cells #[.int .i64 0, .int .i64 0, .int .i64 0, .int .i64 0, .int .i64 0, .int .i64 0, .int .i64 0] 61))) := (Ext.refl _).alloc _
              have bz : Blk ((w3.alloc (.cells #[.int .i64 0, .int .i64 0, .int .i64 0, .int .i64 0, .int .i64 0, .int .i64 0, .int .i64 0] 61))) w3.heap.size #[.int .i64 0, .int .i64 0, .int .i64 0, .int .i64 0, .int .i64 0, .int .i64 0, .int .i64 0] 61 := Blk.new w3 #[.int .i64 0, .int .i64 0, .int .i64 0, .int .i64 0, .int .i64 0, .int .i64 0, .int .i64 0] 61
              obtain ⟨w4, hww4⟩ : ∃ W, W = (w3.alloc (.cells #[.int .i64 0, .int .i64 0, .int .i64 0, .int .i64 0, .int .i64 0, .int .i64 0, .int .i64 0] 61)) := ⟨_, rfl⟩
              rw [← hww4] at hx bz ⊢
              obtain ⟨PPn, hPPn⟩ : ∃ n, n = w3.heap.size := ⟨_, rfl⟩
              have hlw : w2.heap.size ≤ PPn := by rw [hPPn]; exact XW.out.size
              rw [← hPPn] at bz hlo ⊢
              have LPP := Lib.hid hlw; have LO := Lib.hid hlo
              have XW := Lib.hid (XW.out.trans hx)
              have HL := Lib.hid (HL.out.ext hx); have HC := Lib.hid (HC.out.ext hx); have HZ := Lib.hid (HZ.out.ext hx); have A0 := Lib.hid (A0.out.ext hx); have A1 := Lib.hid (A1.out.ext hx); have QQ := Lib.hid (QQ.out.ext hx); have X := Lib.hid (X.out.trans hx)
              have PP := Lib.hid bz
              clear hx bz hlw hww4 hPPn hlo
              first | refine hK.out _ _ ?_ (fun hHeld => ?_) | (go_wp2_with fail; refine hK.out _ _ ?_ (fun hHeld => ?_))
              · exact ⟨cells7 (B0.out.ext (show Ext w2 _ from by have x9 := XW.out; (repeat (first | (with_reducible exact Ext.refl _) | (with_reducible assumption) | (with_reducible refine Ext.alloc ?_ _) | ((with_reducible refine Ext.setp ?_ ?_); focus (dsimp only; omega)) | (with_reducible refine Ext.drew ?_) | (with_reducible refine Ext.drewN ?_ _) | (with_reducible refine Ext.trans ?_ (by assumption)))))), cells3 (B1.out.ext (show Ext w2 _ from by have x9 := XW.out; (repeat (first | (with_reducible exact Ext.refl _) | (with_reducible assumption) | (with_reducible refine Ext.alloc ?_ _) | ((with_reducible refine Ext.setp ?_ ?_); focus (dsimp only; omega)) | (with_reducible refine Ext.drew ?_) | (with_reducible refine Ext.drewN ?_ _) | (with_reducible refine Ext.trans ?_ (by assumption))))))⟩
              clear hK K
              (try simp only [Act.put, List.getElem_toArray, List.getElem_cons_zero, List.getElem_cons_succ, List.setIfInBounds_toArray, List.set_cons_zero, List.set_cons_succ])
              refine wpAnyH_ready (rs := [1]) (by kernel_rfl) (by simp) ?_
              refine AllReadyH.cons rfl (fun K hK => ?_) ?_
              rotate_left
              · exact AllReadyH.nil
              go_simp
              refine (HT.out _).mono ?_
              rintro e w5 ⟨rfl, hx⟩
              have hx := Ext.trans (show Ext w4 _ from by first | exact Ext.refl _ | exact (Ext.refl _).drew) hx
              have HL := Lib.hid (HL.out.ext hx); have HC := Lib.hid (HC.out.ext hx); have HZ := Lib.hid (HZ.out.ext hx); have A0 := Lib.hid (A0.out.ext hx); have A1 := Lib.hid (A1.out.ext hx); have QQ := Lib.hid (QQ.out.ext hx); have PP := Lib.hid (PP.out.ext hx); have X := Lib.hid (X.out.trans hx)
              have XW := Lib.hid (XW.out.trans hx)
              clear hx
              first | refine hK.out _ _ ?_ (fun hHeld => ?_) | (go_wp2_with fail; refine hK.out _ _ ?_ (fun hHeld => ?_))
              · exact ⟨cells7 (B0.out.ext (show Ext w2 _ from by have x9 := XW.out; (repeat (first | (with_reducible exact Ext.refl _) | (with_reducible assumption) | (with_reducible refine Ext.alloc ?_ _) | ((with_reducible refine Ext.setp ?_ ?_); focus (dsimp only; omega)) | (with_reducible refine Ext.drew ?_) | (with_reducible refine Ext.drewN ?_ _) | (with_reducible refine Ext.trans ?_ (by assumption)))))), cells3 (B1.out.ext (show Ext w2 _ from by have x9 := XW.out; (repeat (first | (with_reducible exact Ext.refl _) | (with_reducible assumption) | (with_reducible refine Ext.alloc ?_ _) | ((with_reducible refine Ext.setp ?_ ?_); focus (dsimp only; omega)) | (with_reducible refine Ext.drew ?_) | (with_reducible refine Ext.drewN ?_ _) | (with_reducible refine Ext.trans ?_ (by assumption))))))⟩
              clear hK K
              (try simp only [Act.put, List.getElem_toArray, List.getElem_cons_zero, List.getElem_cons_succ, List.setIfInBounds_toArray, List.set_cons_zero, List.set_cons_succ])
              exact HV w5 PPn QQn ⟨XW.out, PP.out, QQ.out, Nat.ne_of_gt LO.out, LPP.out, LQQ.out⟩
        · intro W p q hW
          obtain ⟨xW, bp, bq, hne, lp, lq⟩ := hW
          have QP := Lib.hid bp; have QQ := Lib.hid bq; have XQ := Lib.hid xW; have NE := Lib.hid hne; have LP := Lib.hid lp; have LQ := Lib.hid lq
          clear bp bq xW hne lp lq XW
          have kp := QP.out.cell; have fp := QP.out.free; have lp := QP.out.lt
          refine wpAnyH_ready (rs := [12]) (by kernel_rfl) (by simp) ?_
          refine AllReadyH.cons rfl (fun K hK => ?_) ?_
          rotate_left
          · exact AllReadyH.nil
          go_simp
          first | refine hK.out _ _ ?_ (fun hHeld => ?_) | (go_wp2_with fail; refine hK.out _ _ ?_ (fun hHeld => ?_))
          · exact ⟨cells7 (B0.out.ext (show Ext w2 _ from by have x9 := XQ.out; have y1 := LP.out; have y2 := LQ.out; (repeat (first | (with_reducible exact Ext.refl _) | (with_reducible assumption) | (with_reducible refine Ext.alloc ?_ _) | ((with_reducible refine Ext.setp ?_ ?_); focus (dsimp only; omega)) | (with_reducible refine Ext.drew ?_) | (with_reducible refine Ext.drewN ?_ _) | (with_reducible refine Ext.trans ?_ (by assumption)))))), cells3 (B1.out.ext (show Ext w2 _ from by have x9 := XQ.out; have y1 := LP.out; have y2 := LQ.out; (repeat (first | (with_reducible exact Ext.refl _) | (with_reducible assumption) | (with_reducible refine Ext.alloc ?_ _) | ((with_reducible refine Ext.setp ?_ ?_); focus (dsimp only; omega)) | (with_reducible refine Ext.drew ?_) | (with_reducible refine Ext.drewN ?_ _) | (with_reducible refine Ext.trans ?_ (by assumption))))))⟩
          clear hK K
          (try simp only [Act.put, List.getElem_toArray, List.getElem_cons_zero, List.getElem_cons_succ, List.setIfInBounds_toArray, List.set_cons_zero, List.set_cons_succ])
          clear kp fp lp
          have bq2 := ((((((((QQ.out).setOther (a := ⟨p, 0, none⟩) (Ne.symm NE.out) (.int .i64 g0)).setOther (a := ⟨p, 1, none⟩) (Ne.symm NE.out) (.int .i64 g1)).setOther (a := ⟨p, 2, none⟩) (Ne.symm NE.out) (.int .i64 g2)).setOther (a := ⟨p, 3, none⟩) (Ne.symm NE.out) (.int .i64 g3)).setOther (a := ⟨p, 4, none⟩) (Ne.symm NE.out) (.int .i64 g4)).setOther (a := ⟨p, 5, none⟩) (Ne.symm NE.out) (.int .i64 g5)).setOther (a := ⟨p, 6, none⟩) (Ne.symm NE.out) (.int .i64 g6))
          have kq := bq2.cell; have fq := bq2.free; have lq := bq2.lt; clear bq2
          refine wpAnyH_ready (rs := [13]) (by kernel_rfl) (by simp) ?_
          refine AllReadyH.cons rfl (fun K hK => ?_) ?_
          rotate_left
          · exact AllReadyH.nil
          go_simp
          first | refine hK.out _ _ ?_ (fun hHeld => ?_) | (go_wp2_with fail; refine hK.out _ _ ?_ (fun hHeld => ?_))
          · exact ⟨cells7 (B0.out.ext (show Ext w2 _ from by have x9 := XQ.out; have y1 := LP.out; have y2 := LQ.out; (repeat (first | (with_reducible exact Ext.refl _) | (with_reducible assumption) | (with_reducible refine Ext.alloc ?_ _) | ((with_reducible refine Ext.setp ?_ ?_); focus (dsimp only; omega)) | (with_reducible refine Ext.drew ?_) | (with_reducible refine Ext.drewN ?_ _) | (with_reducible refine Ext.trans ?_ (by assumption)))))), cells3 (B1.out.ext (show Ext w2 _ from by have x9 := XQ.out; have y1 := LP.out; have y2 := LQ.out; (repeat (first | (with_reducible exact Ext.refl _) | (with_reducible assumption) | (with_reducible refine Ext.alloc ?_ _) | ((with_reducible refine Ext.setp ?_ ?_); focus (dsimp only; omega)) | (with_reducible refine Ext.drew ?_) | (with_reducible refine Ext.drewN ?_ _) | (with_reducible refine Ext.trans ?_ (by assumption))))))⟩
          clear hK K
          (try simp only [Act.put, List.getElem_toArray, List.getElem_cons_zero, List.getElem_cons_succ, List.setIfInBounds_toArray, List.set_cons_zero, List.set_cons_succ])
          refine wpAnyH_done (by kernel_rfl) ?_ _
          clear kq fq lq
          obtain ⟨wz, hwz⟩ : ∃ Z, Z = ((((((((((W.setCell ⟨p, 0, none⟩ (.int .i64 g0)).setCell ⟨p, 1, none⟩ (.int .i64 g1)).setCell ⟨p, 2, none⟩ (.int .i64 g2)).setCell ⟨p, 3, none⟩ (.int .i64 g3)).setCell ⟨p, 4, none⟩ (.int .i64 g4)).setCell ⟨p, 5, none⟩ (.int .i64 g5)).setCell ⟨p, 6, none⟩ (.int .i64 g6)).setCell ⟨q, 0, none⟩ (.int .i64 nn)).setCell ⟨q, 1, none⟩ (.int .i64 0)).setCell ⟨q, 2, none⟩ (.int .i64 0)) := ⟨_, rfl⟩
          obtain ⟨hx, bp, bq, -, -, -⟩ := two_sets QP.out QQ.out NE.out XQ.out LP.out LQ.out (.int .i64 g0) (.int .i64 g1) (.int .i64 g2) (.int .i64 g3) (.int .i64 g4) (.int .i64 g5) (.int .i64 g6) (.int .i64 nn) (.int .i64 0) (.int .i64 0) hwz
          rw [← hwz]
          clear hwz QP QQ
          have HL := Lib.hid (HL.out.ext hx); have HC := Lib.hid (HC.out.ext hx); have HZ := Lib.hid (HZ.out.ext hx); have A0 := Lib.hid (A0.out.ext hx); have A1 := Lib.hid (A1.out.ext hx); have X := Lib.hid (X.out.trans hx)
          have GP := Lib.hid bp; have GQ := Lib.hid bq; clear hx bp bq XQ B0 B1 XB
          have LPw := Lib.hid (Nat.le_trans SZ.out LP.out); have LQw := Lib.hid (Nat.le_trans SZ.out LQ.out); have NEA := Lib.hid (Nat.ne_of_lt (Nat.lt_of_lt_of_le SA.out LQ.out)); clear LP LQ SZ SA
          obtain ⟨pa, hpa⟩ : ∃ n, n = w.heap.size + 1 := ⟨_, rfl⟩
          rw [← hpa] at A1 NEA ⊢
          clear hpa
          go_wp2_with fail
          obtain ⟨ZS, hZS⟩ : ∃ z, z = cutL zs0 := ⟨_, rfl⟩
          have hZl : ZS.length ≤ 60 := by rw [hZS, cutL_len]; omega
          have hZb : ∀ x ∈ ZS, -200 ≤ x ∧ x < 2800 := fun x hx => cutL_bd (by rw [← hZS]; exact hx)
          have hcut := fun W v h => cut30_any v zs0 W h
          rw [← hZS] at hcut
          have hrun := fun W v h => run_any g0 g1 g2 g3 g4 g5 g6 v ZS W h
          rw [runR_0 HK.out (by omega) (any_wrong_no fun x hx => by have := hZb x hx; omega)] at hrun
          obtain ⟨RS, hRS⟩ : ∃ z, z = sts (stp g0 g1 g2 g3 g4 g5) (false, false, false) ZS := ⟨_, rfl⟩
          have hRl : RS.length = ZS.length := by rw [hRS, sts_len]
          rw [← hRS] at hrun
          have HCT := Lib.hid hcut; have HRN := Lib.hid hrun; have HRS := Lib.hid hRS; have HRL := Lib.hid hRl; have HZB := Lib.hid hZb
          clear hcut hrun hRS hRl hZb hZS
          refine (HCT.out _ _ HZ.out).mono ?_
          rintro e w3 ⟨u, rfl, ow, hx⟩
          have HL := Lib.hid (HL.out.ext hx); have HC := Lib.hid (HC.out.ext hx); have HZ := Lib.hid (HZ.out.ext hx); have A1 := Lib.hid (A1.out.ext hx); have GP := Lib.hid (GP.out.ext hx); have GQ := Lib.hid (GQ.out.ext hx); have X := Lib.hid (X.out.trans hx)
          have OZ := Lib.hid (OwnZ.mk ow)
          obtain ⟨ai, ci, rfl, -⟩ := OZ.out.rd.get
          clear hx ow
          have qGP := GP.out.cell; have fGP := GP.out.free; have lGP := GP.out.lt
          go_wp2_with fail
          refine (HRN.out _ _ OZ.out.rd).mono ?_
          rintro e w4 ⟨⟨v, rfl, ow⟩, hx⟩
          clear qGP fGP lGP
          have HL := Lib.hid (HL.out.ext hx); have HC := Lib.hid (HC.out.ext hx); have HZ := Lib.hid (HZ.out.ext hx); have A1 := Lib.hid (A1.out.ext hx); have GP := Lib.hid (GP.out.ext hx); have GQ := Lib.hid (GQ.out.ext hx); have OZ := Lib.hid (OZ.out.ext hx); have X := Lib.hid (X.out.trans hx)
          have OK := Lib.hid (OwnK.mk ow)
          obtain ⟨ar, cr, rfl, -⟩ := OK.out.rd.get
          rw [HRL.out] at OK ⊢
          clear hx ow
          go_wp2_with fail
          generalize IntKind.i64.wrap nw = wnw
          go_loopw [12] (fun i wo => ∃ (tt now : Nat) (age rev : Int), tt ≤ ZS.length ∧ now < l.length ∧ (0 ≤ age ∧ age ≤ tt) ∧ (0 ≤ rev ∧ rev ≤ tt) ∧ i = .int .i64 tt ∧ Ext w wo ∧ Blk wo pa #[.slice al l.length cl, .int .u8 nw, .slice ac cs.length cc] 65 ∧ Blk wo p #[.int .i64 g0, .int .i64 g1, .int .i64 g2, .int .i64 g3, .int .i64 g4, .int .i64 g5, .int .i64 g6] 61 ∧ Blk wo q #[.int .i64 now, .int .i64 age, .int .i64 rev] 69 ∧ OwnZ wo (.slice ai ZS.length ci) ZS ∧ OwnK wo (.slice ar ZS.length cr) RS) (fun i _ => ZS.length - (intOf i).toNat)
          case atStart => exact ⟨0, nn, 0, 0, Nat.zero_le _, hnl, ⟨by omega, by omega⟩, ⟨by omega, by omega⟩, rfl, X.out, A1.out, GP.out, GQ.out, OZ.out, OK.out⟩
          case round =>
            obtain ⟨tt, now, age, rev, ht, hnow, hage, hrev, rfl, hx, ha1, hgp, hgq, hoz, hok⟩ := hrel
            clear X A1 GP GQ OZ OK HL HC HZ
            obtain ⟨wo, rfl⟩ : ∃ W, W = wr := ⟨_, rfl⟩
            have X := Lib.hid hx; have A1 := Lib.hid ha1; have GP := Lib.hid hgp; have GQ := Lib.hid hgq; have OZ := Lib.hid hoz; have OK := Lib.hid hok
            have HL := Lib.hid (HL0.out.ext hx); have HC := Lib.hid (HC0.out.ext hx)
            clear hx ha1 hgp hgq hoz hok
            by_cases hlt : tt < ZS.length
            · obtain ⟨bi, oi, rfl, hbi, zi⟩ := OZ.out.at hlt
              obtain ⟨bk, ok, x, rfl, hbk, hxs, k0, k1, k2⟩ := OK.out.at (by rw [HRL.out]; exact hlt)
              obtain ⟨zz, hzz⟩ : ∃ z, z = ZS.getD tt 0 := ⟨_, rfl⟩
              rw [← hzz] at zi
              have hzs : ZS[tt]? = some zz := by rw [hzz, List.getD_eq_getElem?_getD, List.getElem?_eq_getElem hlt]; rfl
              have hst := sts_at (stp g0 g1 g2 g3 g4 g5) ZS (false, false, false) x tt zz (by rw [← HRS.out]; exact hxs) hzs
              obtain ⟨bp, hst⟩ := hst
              obtain ⟨x1, x2, x3⟩ := x
              dsimp only at k0 k1 k2
              have ZI : Hid (CellI wo bi (oi + tt) zz) := Lib.hid ⟨hbi, zi⟩
              have BKc : Hid (CellB wo bk (ok + tt * 3) x1 x2 x3) := Lib.hid ⟨hbk, k0, k1, k2⟩
              have HST := Lib.hid hst
              have hmk := fun W v h => mask_any v g0 g1 g2 g3 g4 g5 g6 x1 x2 x3 l W h
              rw [mskR_0 HAC.out HK.out] at hmk
              have HMK := Lib.hid hmk
              have r1 : (0 : Int) ≤ (tt : Int) := by omega
              have r2 : (tt : Int) < (ZS.length : Int) := by omega
              clear hxs hzs hst zi k0 k1 k2 hbi hbk hmk hzz
              go_wp2_with fail
              refine wp_region_each (nodJ pa p bk ok tt ZS.length cr al cl l g0 g1 g2 g3 g4 g5 g6 x1 x2 x3) (by kernel_rfl) (by kernel_rfl) (by kernel_rfl) (fun _ _ _ _ => nodJ_ext) ?_ ?_
              · refine ⟨?_, ?_, ?_, ?_, ?_, ?_, ?_, ?_, ?_, ?_, ?_, ?_, ?_, trivial⟩
                · intro a W hW hB hD K hK
                  have b5 := hB 5 rfl
                  simp only [Array.getD_eq_getD_getElem?, List.getElem?_toArray, List.getElem?_cons_succ, List.getElem?_cons_zero, Option.getD_some] at b5
                  go_simp
                  exact hK _ _ (Ext.refl _) rfl
                · intro a W hW hB hD K hK
                  obtain ⟨v76, e76⟩ : ∃ x, a.tmps.getD 76 undef = x := ⟨_, rfl⟩
                  have h76 := hD 0 _ 76 rfl rfl (by kernel_rfl)
                  rw [e76] at h76
                  simp only [Array.getD_eq_getD_getElem?] at e76
                  obtain rfl := h76
                  have q9 := (A1.out.ext hW).cell
                  go_simp
                  exact hK _ _ (Ext.refl _) rfl
                · intro a W hW hB hD K hK
                  have b7 := hB 7 rfl
                  simp only [Array.getD_eq_getD_getElem?, List.getElem?_toArray, List.getElem?_cons_succ, List.getElem?_cons_zero, Option.getD_some] at b7
                  have q9 := (GP.out.ext hW).cell
                  go_simp
                  exact hK _ _ (Ext.refl _) rfl
                · intro a W hW hB hD K hK
                  have b10 := hB 10 rfl
                  simp only [Array.getD_eq_getD_getElem?, List.getElem?_toArray, List.getElem?_cons_succ, List.getElem?_cons_zero, Option.getD_some] at b10
                  go_simp
                  exact hK _ _ (Ext.refl _) rfl
                · intro a W hW hB hD K hK
                  have b12 := hB 12 rfl
                  simp only [Array.getD_eq_getD_getElem?, List.getElem?_toArray, List.getElem?_cons_succ, List.getElem?_cons_zero, Option.getD_some] at b12
                  go_simp
                  exact hK _ _ (Ext.refl _) rfl
                · intro a W hW hB hD K hK
                  obtain ⟨v79, e79⟩ : ∃ x, a.tmps.getD 79 undef = x := ⟨_, rfl⟩
                  have h79 := hD 3 _ 79 rfl rfl (by kernel_rfl)
                  rw [e79] at h79
                  simp only [Array.getD_eq_getD_getElem?] at e79
                  obtain rfl := h79
                  obtain ⟨v80, e80⟩ : ∃ x, a.tmps.getD 80 undef = x := ⟨_, rfl⟩
                  have h80 := hD 4 _ 80 rfl rfl (by kernel_rfl)
                  rw [e80] at h80
                  simp only [Array.getD_eq_getD_getElem?] at e80
                  obtain rfl := h80
                  go_simp
                  exact hK _ _ (Ext.refl _) rfl
                · intro a W hW hB hD K hK
                  obtain ⟨v81, e81⟩ : ∃ x, a.tmps.getD 81 undef = x := ⟨_, rfl⟩
                  have h81 := hD 5 _ 81 rfl rfl (by kernel_rfl)
                  rw [e81] at h81
                  simp only [Array.getD_eq_getD_getElem?] at e81
                  obtain rfl := h81
                  obtain ⟨-, j0, j1, j2⟩ := BKc.out.ext hW
                  go_simp
                  exact hK _ _ (Ext.refl _) rfl
                · intro a W hW hB hD K hK
                  obtain ⟨v77, e77⟩ : ∃ x, a.tmps.getD 77 undef = x := ⟨_, rfl⟩
                  have h77 := hD 1 _ 77 rfl rfl (by kernel_rfl)
                  rw [e77] at h77
                  simp only [Array.getD_eq_getD_getElem?] at e77
                  obtain rfl := h77
                  obtain ⟨v78, e78⟩ : ∃ x, a.tmps.getD 78 undef = x := ⟨_, rfl⟩
                  have h78 := hD 2 _ 78 rfl rfl (by kernel_rfl)
                  rw [e78] at h78
                  simp only [Array.getD_eq_getD_getElem?] at e78
                  obtain rfl := h78
                  obtain ⟨v82, e82⟩ : ∃ x, a.tmps.getD 82 undef = x := ⟨_, rfl⟩
                  have h82 := hD 6 _ 82 rfl rfl (by kernel_rfl)
                  rw [e82] at h82
                  simp only [Array.getD_eq_getD_getElem?] at e82
                  obtain rfl := h82
                  go_simp
                  refine (HMK.out _ _ (HL.out.ext hW)).mono ?_
                  rintro e w9 ⟨⟨v, rfl, ow⟩, hx⟩
                  exact hK _ _ hx ⟨_, rfl, OwnM.mk ow⟩
                · intro a W hW hB hD K hK
                  obtain ⟨v83, e83⟩ : ∃ x, a.tmps.getD 83 undef = x := ⟨_, rfl⟩
                  have h83 := hD 7 _ 83 rfl rfl (by kernel_rfl)
                  rw [e83] at h83
                  simp only [Array.getD_eq_getD_getElem?] at e83
                  obtain ⟨u, rfl, k1⟩ := h83
                  go_simp
                  exact hK _ _ (Ext.refl _) ⟨_, rfl, k1⟩
                · intro a W hW hB hD K hK
                  obtain ⟨v75, e75⟩ : ∃ x, a.tmps.getD 75 undef = x := ⟨_, rfl⟩
                  have h75 := hD 8 _ 75 rfl rfl (by kernel_rfl)
                  rw [e75] at h75
                  simp only [Array.getD_eq_getD_getElem?] at e75
                  obtain ⟨u, rfl, k1⟩ := h75
                  go_simp
                  exact hK _ _ (Ext.refl _) k1
                · intro a W hW hB hD K hK
                  obtain ⟨v75, e75⟩ : ∃ x, a.tmps.getD 75 undef = x := ⟨_, rfl⟩
                  have h75 := hD 8 _ 75 rfl rfl (by kernel_rfl)
                  rw [e75] at h75
                  simp only [Array.getD_eq_getD_getElem?] at e75
                  obtain ⟨u, rfl, k1⟩ := h75
                  go_simp
                  exact hK _ _ (Ext.refl _) rfl
                · intro a W hW hB hD K hK
                  obtain ⟨v84, e84⟩ : ∃ x, a.tmps.getD 84 undef = x := ⟨_, rfl⟩
                  have h84 := hD 9 _ 84 rfl rfl (by kernel_rfl)
                  rw [e84] at h84
                  simp only [Array.getD_eq_getD_getElem?] at e84
                  go_simp
                  exact hK _ _ (Ext.refl _) h84
                · intro a W hW hB hD K hK
                  obtain ⟨v85, e85⟩ : ∃ x, a.tmps.getD 85 undef = x := ⟨_, rfl⟩
                  have h85 := hD 10 _ 85 rfl rfl (by kernel_rfl)
                  rw [e85] at h85
                  simp only [Array.getD_eq_getD_getElem?] at e85
                  obtain rfl := h85
                  go_simp
                  exact hK _ _ (Ext.refl _) rfl
              intro w9 hx
              simp only [Vals]
              intro v0 _ v1 _ v2 _ v3 _ v4 _ v5 _ v6 _ v7 _ v8 _ v9 _ v10 _ v11 h11 v12 h12
              obtain rfl : v12 = .int .i64 0 := h12
              have h11 : OwnM w9 v11 (mskL g6 x1 x2 x3 l) := h11
              obtain ⟨am, cm, hv11⟩ := h11.shape
              subst hv11
              have OM := Lib.hid h11; clear h11
              simp only [Act.put, List.setIfInBounds_toArray, List.set_cons_zero, List.set_cons_succ]
              have HL := Lib.hid (HL.out.ext hx); have HC := Lib.hid (HC.out.ext hx); have A1 := Lib.hid (A1.out.ext hx); have GP := Lib.hid (GP.out.ext hx); have GQ := Lib.hid (GQ.out.ext hx); have OZ := Lib.hid (OZ.out.ext hx); have OK := Lib.hid (OK.out.ext hx); have ZI := Lib.hid (ZI.out.ext hx); have BKc := Lib.hid (BKc.out.ext hx); have X := Lib.hid (X.out.trans hx)
              clear hx
              go_wp2_with fail
              obtain ⟨wB, hwB⟩ : ∃ W, W = w9 := ⟨_, rfl⟩
              rw [← hwB] at HL HC A1 GP GQ OZ OK ZI BKc OM X ⊢
              clear hwB
              obtain ⟨P, hP⟩ : ∃ x, x = prices cs l.length tt := ⟨_, rfl⟩
              have hPl : P.length = l.length := by rw [hP, prices_len]
              have hPg : ∀ k, k < l.length → P.getD k zR = rep ((cs.getD ((tt * l.length + k) % cs.length) 0 : Int) : Rat) := fun k hk => by rw [hP]; exact prices_get hk
              have HP := Lib.hid hP; have HPL := Lib.hid hPl; have HPG := Lib.hid hPg
              clear hP hPl hPg
              go_loopw [15, 16] (fun v i wi => ∃ k : Nat, k ≤ l.length ∧ i = .int .i64 k ∧ OwRs wB.heap.size wi v (P.take k) ∧ Ext wB wi) (fun _ i _ => l.length - (intOf i).toNat)
              case atStart => exact ⟨0, Nat.zero_le _, rfl, OwRow.nil _ _ _ _ _, Ext.refl wB⟩
              case round =>
                obtain ⟨k, hk, rfl, hown, hext⟩ := hrel
                have HO := Lib.hid hown
                have XR := Lib.hid hext
                have XI := Lib.hid (X.out.trans hext); have A1i := Lib.hid (A1.out.ext hext); have HLi := Lib.hid (HL.out.ext hext)
                clear hown hext
                by_cases hlk : k < l.length
                · have hts := take_snocD P k zR (by rw [HPL.out]; exact hlk)
                  rw [HPG.out k hlk] at hts
                  have hlk2 := List.length_take_of_le (l := P) (i := k) (by rw [HPL.out]; omega)
                  have hjl : (tt * l.length + k) % cs.length < cs.length := Nat.mod_lt _ (by omega)
                  obtain ⟨j, hj⟩ : ∃ j, j = (tt * l.length + k) % cs.length := ⟨_, rfl⟩
                  rw [← hj] at hjl hts
                  obtain ⟨bc, oc, rfl, hbc, z0⟩ := HR.out j hjl
                  have hin : cs.getD j 0 ∈ cs := by rw [List.getD_eq_getElem?_getD, List.getElem?_eq_getElem hjl]; exact List.getElem_mem hjl
                  have hcb := HCS.out _ hin
                  clear hin
                  obtain ⟨c, hc⟩ : ∃ x, x = cs.getD j 0 := ⟨_, rfl⟩
                  rw [← hc] at z0 hcb hts
                  have ZC : Hid (CellU wr bc (oc + j) c) := Lib.hid ⟨Nat.lt_of_lt_of_le hbc XI.out.size, (XI.out.cell (p := ⟨bc, oc + j, none⟩) hbc).trans z0⟩
                  obtain ⟨R, hR⟩ : ∃ y, y = rep ((c : Int) : Rat) := ⟨_, rfl⟩
                  have hfr := fun W => fromR_any c W (by omega) (by omega)
                  rw [← hR] at hfr hts
                  have HF := Lib.hid hfr; have hwc : wrap64 c = c := by unfold wrap64; omega
                  have hwd : IntKind.i64.wrap c = c := by rw [IntKind.wrap_i64]; omega
                  have HT9 := Lib.hid hts; have HLK2 := Lib.hid hlk2; have HJ := Lib.hid hj; have HCB := Lib.hid hcb
                  have q1 : (k : Int) < (l.length : Int) := by omega
                  have q7 : (0 : Int) ≤ (j : Int) := by omega
                  have q8 : (j : Int) < (cs.length : Int) := by omega
                  have q9 : cs ≠ [] := List.ne_nil_of_length_pos t3
                  have hE : (IntKind.i64.wrap (IntKind.i64.wrap ((tt : Int) * (l.length : Int)) + (k : Int))).tmod (cs.length : Int) = (j : Int) := by rw [wrap_64, wrap_64, hj]; exact idx_at (by omega) gL hlk
                  clear hfr hts hlk2 hj hcb hc z0 hbc hR
                  have qA1i := A1i.out.cell; have fA1i := A1i.out.free; have lA1i := A1i.out.lt
                  go_wp2_with fail
                  clear qA1i fA1i lA1i
                  refine wp_region_each_tail 19 (nodP u15 pa tt k j bc oc al cl cc l.length cs.length c R wB) (by kernel_rfl) (by kernel_rfl) (by kernel_rfl) (fun _ _ _ _ => nodP_ext) ?_ ?_
                  · refine ⟨?_, ?_, ?_, ?_, ?_, ?_, ?_, ?_, ?_, ?_, ?_, ?_, ?_, ?_, ?_, ?_, ?_, ?_, ?_, trivial⟩
                    · intro a W hW hB hD K hK
                      have b15 := hB 15 rfl
                      simp only [Array.getD_eq_getD_getElem?, List.getElem?_toArray, List.getElem?_cons_succ, List.getElem?_cons_zero, Option.getD_some] at b15
                      go_simp
                      exact hK _ _ (Ext.refl _) rfl
                    · intro a W hW hB hD K hK
                      have b5 := hB 5 rfl
                      simp only [Array.getD_eq_getD_getElem?, List.getElem?_toArray, List.getElem?_cons_succ, List.getElem?_cons_zero, Option.getD_some] at b5
                      go_simp
                      exact hK _ _ (Ext.refl _) rfl
                    · intro a W hW hB hD K hK
                      obtain ⟨v94, e94⟩ : ∃ x, a.tmps.getD 94 undef = x := ⟨_, rfl⟩
                      have h94 := hD 1 _ 94 rfl rfl (by kernel_rfl)
                      rw [e94] at h94
                      simp only [Array.getD_eq_getD_getElem?] at e94
                      obtain rfl := h94
                      have q99 := (A1i.out.ext hW).cell
                      go_simp
                      exact hK _ _ (Ext.refl _) rfl
                    · intro a W hW hB hD K hK
                      have b12 := hB 12 rfl
                      simp only [Array.getD_eq_getD_getElem?, List.getElem?_toArray, List.getElem?_cons_succ, List.getElem?_cons_zero, Option.getD_some] at b12
                      go_simp
                      exact hK _ _ (Ext.refl _) rfl
                    · intro a W hW hB hD K hK
                      have b5 := hB 5 rfl
                      simp only [Array.getD_eq_getD_getElem?, List.getElem?_toArray, List.getElem?_cons_succ, List.getElem?_cons_zero, Option.getD_some] at b5
                      go_simp
                      exact hK _ _ (Ext.refl _) rfl
                    · intro a W hW hB hD K hK
                      obtain ⟨v97, e97⟩ : ∃ x, a.tmps.getD 97 undef = x := ⟨_, rfl⟩
                      have h97 := hD 4 _ 97 rfl rfl (by kernel_rfl)
                      rw [e97] at h97
                      simp only [Array.getD_eq_getD_getElem?] at e97
                      obtain rfl := h97
                      have q99 := (A1i.out.ext hW).cell
                      go_simp
                      exact hK _ _ (Ext.refl _) rfl
                    · intro a W hW hB hD K hK
                      obtain ⟨v98, e98⟩ : ∃ x, a.tmps.getD 98 undef = x := ⟨_, rfl⟩
                      have h98 := hD 5 _ 98 rfl rfl (by kernel_rfl)
                      rw [e98] at h98
                      simp only [Array.getD_eq_getD_getElem?] at e98
                      obtain rfl := h98
                      go_simp
                      exact hK _ _ (Ext.refl _) rfl
                    · intro a W hW hB hD K hK
                      obtain ⟨v96, e96⟩ : ∃ x, a.tmps.getD 96 undef = x := ⟨_, rfl⟩
                      have h96 := hD 3 _ 96 rfl rfl (by kernel_rfl)
                      rw [e96] at h96
                      simp only [Array.getD_eq_getD_getElem?] at e96
                      obtain rfl := h96
                      obtain ⟨v99, e99⟩ : ∃ x, a.tmps.getD 99 undef = x := ⟨_, rfl⟩
                      have h99 := hD 6 _ 99 rfl rfl (by kernel_rfl)
                      rw [e99] at h99
                      simp only [Array.getD_eq_getD_getElem?] at e99
                      obtain rfl := h99
                      go_simp
                      exact hK _ _ (Ext.refl _) rfl
                    · intro a W hW hB hD K hK
                      have b16 := hB 16 rfl
                      simp only [Array.getD_eq_getD_getElem?, List.getElem?_toArray, List.getElem?_cons_succ, List.getElem?_cons_zero, Option.getD_some] at b16
                      go_simp
                      exact hK _ _ (Ext.refl _) rfl
                    · intro a W hW hB hD K hK
                      obtain ⟨v100, e100⟩ : ∃ x, a.tmps.getD 100 undef = x := ⟨_, rfl⟩
                      have h100 := hD 7 _ 100 rfl rfl (by kernel_rfl)
                      rw [e100] at h100
                      simp only [Array.getD_eq_getD_getElem?] at e100
                      obtain rfl := h100
                      obtain ⟨v101, e101⟩ : ∃ x, a.tmps.getD 101 undef = x := ⟨_, rfl⟩
                      have h101 := hD 8 _ 101 rfl rfl (by kernel_rfl)
                      rw [e101] at h101
                      simp only [Array.getD_eq_getD_getElem?] at e101
                      obtain rfl := h101
                      go_simp
                      exact hK _ _ (Ext.refl _) rfl
                    · intro a W hW hB hD K hK
                      have b5 := hB 5 rfl
                      simp only [Array.getD_eq_getD_getElem?, List.getElem?_toArray, List.getElem?_cons_succ, List.getElem?_cons_zero, Option.getD_some] at b5
                      go_simp
                      exact hK _ _ (Ext.refl _) rfl
                    · intro a W hW hB hD K hK
                      obtain ⟨v103, e103⟩ : ∃ x, a.tmps.getD 103 undef = x := ⟨_, rfl⟩
                      have h103 := hD 10 _ 103 rfl rfl (by kernel_rfl)
                      rw [e103] at h103
                      simp only [Array.getD_eq_getD_getElem?] at e103
                      obtain rfl := h103
                      have q99 := (A1i.out.ext hW).cell
                      go_simp
                      exact hK _ _ (Ext.refl _) rfl
                    · intro a W hW hB hD K hK
                      obtain ⟨v104, e104⟩ : ∃ x, a.tmps.getD 104 undef = x := ⟨_, rfl⟩
                      have h104 := hD 11 _ 104 rfl rfl (by kernel_rfl)
                      rw [e104] at h104
                      simp only [Array.getD_eq_getD_getElem?] at e104
                      obtain rfl := h104
                      go_simp
                      exact hK _ _ (Ext.refl _) rfl
                    · intro a W hW hB hD K hK
                      obtain ⟨v102, e102⟩ : ∃ x, a.tmps.getD 102 undef = x := ⟨_, rfl⟩
                      have h102 := hD 9 _ 102 rfl rfl (by kernel_rfl)
                      rw [e102] at h102
                      simp only [Array.getD_eq_getD_getElem?] at e102
                      obtain rfl := h102
                      obtain ⟨v105, e105⟩ : ∃ x, a.tmps.getD 105 undef = x := ⟨_, rfl⟩
                      have h105 := hD 12 _ 105 rfl rfl (by kernel_rfl)
                      rw [e105] at h105
                      simp only [Array.getD_eq_getD_getElem?] at e105
                      obtain rfl := h105
                      go_simp
                      exact hK _ _ (Ext.refl _) rfl
                    · intro a W hW hB hD K hK
                      obtain ⟨v95, e95⟩ : ∃ x, a.tmps.getD 95 undef = x := ⟨_, rfl⟩
                      have h95 := hD 2 _ 95 rfl rfl (by kernel_rfl)
                      rw [e95] at h95
                      simp only [Array.getD_eq_getD_getElem?] at e95
                      obtain rfl := h95
                      obtain ⟨v106, e106⟩ : ∃ x, a.tmps.getD 106 undef = x := ⟨_, rfl⟩
                      have h106 := hD 13 _ 106 rfl rfl (by kernel_rfl)
                      rw [e106] at h106
                      simp only [Array.getD_eq_getD_getElem?] at e106
                      obtain rfl := h106
                      go_simp
                      exact hK _ _ (Ext.refl _) rfl
                    · intro a W hW hB hD K hK
                      obtain ⟨v107, e107⟩ : ∃ x, a.tmps.getD 107 undef = x := ⟨_, rfl⟩
                      have h107 := hD 14 _ 107 rfl rfl (by kernel_rfl)
                      rw [e107] at h107
                      simp only [Array.getD_eq_getD_getElem?] at e107
                      obtain rfl := h107
                      obtain ⟨-, j0⟩ := ZC.out.ext hW
                      go_simp
                      exact hK _ _ (Ext.refl _) rfl
                    · intro a W hW hB hD K hK
                      obtain ⟨v108, e108⟩ : ∃ x, a.tmps.getD 108 undef = x := ⟨_, rfl⟩
                      have h108 := hD 15 _ 108 rfl rfl (by kernel_rfl)
                      rw [e108] at h108
                      simp only [Array.getD_eq_getD_getElem?] at e108
                      obtain rfl := h108
                      go_simp
                      exact hK _ _ (Ext.refl _) rfl
                    · intro a W hW hB hD K hK
                      obtain ⟨v109, e109⟩ : ∃ x, a.tmps.getD 109 undef = x := ⟨_, rfl⟩
                      have h109 := hD 16 _ 109 rfl rfl (by kernel_rfl)
                      rw [e109] at h109
                      simp only [Array.getD_eq_getD_getElem?] at e109
                      obtain rfl := h109
                      go_simp
                      refine (HF.out _).mono ?_
                      rintro e w9 ⟨⟨v, rfl, nn⟩, hx⟩
                      obtain ⟨s1, s2, s3, s4, rfl⟩ := nn.shape
                      exact hK _ _ hx ⟨_, _, _, _, rfl, nn.from (XR.out.trans hW)⟩
                    · intro a W hW hB hD K hK
                      obtain ⟨v110, e110⟩ : ∃ x, a.tmps.getD 110 undef = x := ⟨_, rfl⟩
                      have h110 := hD 17 _ 110 rfl rfl (by kernel_rfl)
                      rw [e110] at h110
                      simp only [Array.getD_eq_getD_getElem?] at e110
                      obtain ⟨s1, s2, s3, s4, rfl, nn⟩ := h110
                      go_simp
                      exact hK _ _ ((Ext.refl _).alloc _) ⟨_, _, _, _, _, rfl, Blk.new _ _ _, nn.ext ((Ext.refl _).alloc _)⟩
                  intro w5 hx
                  simp only [Vals, List.take_succ_cons, List.take_zero, List.drop_succ_cons, List.drop_zero]
                  intro y0 h0 y1 _ y2 _ y3 _ y4 _ y5 _ y6 _ y7 _ y8 _ y9 _ y10 _ y11 _ y12 _ y13 _ y14 _ y15 _ y16 _ y17 _ y18 h18
                  obtain rfl : y0 = _ := h0
                  obtain ⟨bn, s1, s2, s3, s4, rfl, hbn, nn⟩ := h18
                  simp only [Act.put, List.setIfInBounds_toArray, List.set_cons_zero, List.set_cons_succ]
                  have HO1 := Lib.hid (OwRs.ext' HO.out hx); have XR1 := Lib.hid (XR.out.trans hx); have HE := Lib.hid (ElR.new (B := wB.heap.size) nn); have HBN := Lib.hid hbn
                  have hz1 := XR1.out.size
                  clear nn hx hE hbn
                  go_wp2_with (at_builtin; (refine wpList_append_rowB w5 rfl _ _ 36 rfl wB.heap.size 35 (.agg #[.bool false, .slice none 0 0, .slice none 0 0]) 3 56 Try.underlying36 Try.infoR rfl (by decide) (ElR.keeps (by decide)) _ _ HO1.out rfl [.bool R.neg, .slice s1 R.num.length s2, .slice s3 R.den.length s4] rfl (by simp [Value.oneCell']) R HE.out bn HBN.out rfl (by have := HLK2.out; omega) (by have := HLK2.out; omega) hz1 ?_))
                  intro g9 cap2 w99 hown2 hk2
                  have HO2 := Lib.hid hown2; have XR2 := Lib.hid (Below.trans XR1.out (hk2.below hz1))
                  clear hown2 hk2
                  go_wp2
                  go_roundw
                  case rel =>
                    refine ⟨k + 1, by omega, by go_num, ?_, XR2.out⟩
                    rw [HT9.out]
                    exact HO2.out
                  case measure => simp [intOf]; omega
                · obtain rfl : k = l.length := by omega
                  have q1 : ¬ (l.length : Int) < (l.length : Int) := by omega
                  have hx := XR.out
                  have hown := HO.out
                  rw [List.take_of_length_le (by rw [HPL.out]; exact Nat.le_refl _)] at hown
                  have RP := Lib.hid (OwRs.rd hown)
                  clear hown HO
                  have HL := Lib.hid (HL.out.ext hx); have HC := Lib.hid (HC.out.ext hx); have A1 := Lib.hid (A1.out.ext hx); have GP := Lib.hid (GP.out.ext hx); have GQ := Lib.hid (GQ.out.ext hx); have OZ := Lib.hid (OZ.out.ext hx); have OK := Lib.hid (OK.out.ext hx); have ZI := Lib.hid (ZI.out.ext hx); have BKc := Lib.hid (BKc.out.ext hx); have OM := Lib.hid (OM.out.ext hx); have X := Lib.hid (X.out.trans hx)
                  clear hx XI A1i HLi
                  have hlim : LimRs P := fun i hi => by rw [HPG.out i (by rw [HPL.out] at hi; exact hi)]; exact limR_rep _
                  have hck : chkRs P = 0 := chkRs_ok fun i hi => by
                    have hi' : i < l.length := by rw [HPL.out] at hi; exact hi
                    rw [HPG.out i hi']
                    have hjl : (tt * l.length + i) % cs.length < cs.length := Nat.mod_lt _ t3
                    have hin : cs.getD ((tt * l.length + i) % cs.length) 0 ∈ cs := by rw [List.getD_eq_getElem?_getD, List.getElem?_eq_getElem hjl]; exact List.getElem_mem hjl
                    have := HCS.out _ hin
                    exact chk_rep (small_int (by omega) (by omega))
                  obtain ⟨b, a', r', hb, hbm, he, ha', hr', hd1, hd2⟩ := nod_step (l := l) (P := P) HAC.out hnow HST.out hage hrev (by omega) HPL.out hck
                  dsimp only at hbm he hd1
                  have hch := choose_any _ _ _ l now age rev P (mskL g6 x1 x2 x3 l) 1 3 wr HL.out RP.out OM.out.rd hlim (by omega) (by omega)
                  rw [he] at hch
                  obtain ⟨r, hr⟩ : ∃ r, r = P.getD b zR := ⟨_, rfl⟩
                  obtain ⟨K, hK⟩ : ∃ K, K = chg l now b := ⟨_, rfl⟩
                  rw [← hr, ← hK] at hch
                  unfold ResC at hch
                  dsimp only at hch
                  have HCH := Lib.hid hch; have HBM := Lib.hid hbm; have HD1 := Lib.hid hd1; have HD2 := Lib.hid hd2; have HA := Lib.hid ha'; have HRV := Lib.hid hr'
                  have s1 : (b : Int) < (l.length : Int) := by omega
                  have s2 : ¬ (b : Int) < 0 := by omega
                  have s3 : ¬ (l.length : Int) ≤ (b : Int) := by omega
                  clear hlim hck hbm he hd1 hd2 hch hr hK ha' hr' RP
                  have qA1 := A1.out.cell; have fA1 := A1.out.free; have lA1 := A1.out.lt; have qGQ := GQ.out.cell; have fGQ := GQ.out.free; have lGQ := GQ.out.lt
                  go_wp2_with fail
                  refine (HCH.out).mono ?_
                  rintro e w5 ⟨⟨vn, vd, rfl, nn1, nn2⟩, hx⟩
                  clear qA1 fA1 lA1 qGQ fGQ lGQ
                  have HL := Lib.hid (HL.out.ext hx); have HC := Lib.hid (HC.out.ext hx); have A1 := Lib.hid (A1.out.ext hx); have GP := Lib.hid (GP.out.ext hx); have GQ := Lib.hid (GQ.out.ext hx); have OZ := Lib.hid (OZ.out.ext hx); have OK := Lib.hid (OK.out.ext hx); have ZI := Lib.hid (ZI.out.ext hx); have BKc := Lib.hid (BKc.out.ext hx); have OM := Lib.hid (OM.out.ext hx); have X := Lib.hid (X.out.trans hx)
                  obtain ⟨d1, d2, rfl⟩ := nn1.shape; obtain ⟨d3, d4, rfl⟩ := nn2.shape
                  clear nn1 nn2 hx
                  have qA1 := A1.out.cell; have fA1 := A1.out.free; have lA1 := A1.out.lt
                  have ml : (mskL g6 x1 x2 x3 l).length = l.length := mskL_len _ _ _ _ _
                  go_wp2_with fail
                  clear qA1 fA1 lA1
                  have bb0 := ((Blk.new w5 #[.int .i64 b, .int .u8 K, .bool r.neg, .slice d1 r.num.length d2, .slice d3 r.den.length d4] 80).alloc (.cells #[.int .i64 b, .int .i64 a', .int .i64 r'] 69))
                  have bb1 := (Blk.new (w5.alloc (.cells #[.int .i64 b, .int .u8 K, .bool r.neg, .slice d1 r.num.length d2, .slice d3 r.den.length d4] 80)) #[.int .i64 b, .int .i64 a', .int .i64 r'] 69)
                  rw [World.size_alloc] at bb1
                  have hx : Ext w5 ((w5.alloc (.cells #[.int .i64 b, .int .u8 K, .bool r.neg, .slice d1 r.num.length d2, .slice d3 r.den.length d4] 80)).alloc (.cells #[.int .i64 b, .int .i64 a', .int .i64 r'] 69)) := (((Ext.refl w5).alloc _).alloc _)
                  obtain ⟨w106, hw106⟩ : ∃ W, W = ((w5.alloc (.cells #[.int .i64 b, .int .u8 K, .bool r.neg, .slice d1 r.num.length d2, .slice d3 r.den.length d4] 80)).alloc (.cells #[.int .i64 b, .int .i64 a', .int .i64 r'] 69)) := ⟨_, rfl⟩
                  rw [← hw106] at hx bb0 bb1 ⊢; clear hw106
                  obtain ⟨MMn, hMMn⟩ : ∃ n, n = w5.heap.size + 1 := ⟨_, rfl⟩
                  rw [← hMMn] at bb1 ⊢; clear hMMn
                  obtain ⟨DDn, hDDn⟩ : ∃ n, n = w5.heap.size := ⟨_, rfl⟩
                  rw [← hDDn] at bb0 ⊢; clear hDDn
                  have HL := Lib.hid (HL.out.ext hx); have HC := Lib.hid (HC.out.ext hx); have A1 := Lib.hid (A1.out.ext hx); have GP := Lib.hid (GP.out.ext hx); have GQ := Lib.hid (GQ.out.ext hx); have OZ := Lib.hid (OZ.out.ext hx); have OK := Lib.hid (OK.out.ext hx); have ZI := Lib.hid (ZI.out.ext hx); have BKc := Lib.hid (BKc.out.ext hx); have OM := Lib.hid (OM.out.ext hx); have X := Lib.hid (X.out.trans hx)
                  clear hx
                  have DD := Lib.hid bb0; clear bb0
                  have MM := Lib.hid bb1; clear bb1
                  obtain ⟨wS, hwS⟩ : ∃ W, W = w106 := ⟨_, rfl⟩
                  rw [← hwS] at HL HC A1 GP GQ OZ OK ZI BKc OM DD MM X ⊢
                  clear hwS
                  go_loopw [20] (fun i wq => ∃ k : Nat, 1 ≤ k ∧ k ≤ l.length ∧ i = .int .i64 k ∧ Ext wS wq) (fun i _ => l.length - (intOf i).toNat)
                  case atStart => exact ⟨1, Nat.le_refl _, hl0, rfl, Ext.refl _⟩
                  case round =>
                    obtain ⟨k, hk1, hk, rfl, hx⟩ := hrel
                    have XS := Lib.hid hx
                    have HL := Lib.hid (HL.out.ext hx); have HC := Lib.hid (HC.out.ext hx); have A1 := Lib.hid (A1.out.ext hx); have GP := Lib.hid (GP.out.ext hx); have GQ := Lib.hid (GQ.out.ext hx); have OZ := Lib.hid (OZ.out.ext hx); have OK := Lib.hid (OK.out.ext hx); have ZI := Lib.hid (ZI.out.ext hx); have BKc := Lib.hid (BKc.out.ext hx); have OM := Lib.hid (OM.out.ext hx); have DD := Lib.hid (DD.out.ext hx); have MM := Lib.hid (MM.out.ext hx); have X := Lib.hid (X.out.trans hx)
                    clear hx
                    by_cases hkl : k < l.length
                    · obtain ⟨y, hy⟩ : ∃ y, l[k]? = some y := ⟨_, List.getElem?_eq_getElem hkl⟩
                      obtain ⟨mk, hmk⟩ : ∃ m, m = (mskL g6 x1 x2 x3 l).getD k false := ⟨_, rfl⟩
                      obtain ⟨yh, hyh⟩ : ∃ z, z = y.2.2 := ⟨_, rfl⟩
                      have q1 : (k : Int) < (l.length : Int) := by omega
                      have q0 : (0 : Int) ≤ (k : Int) := by omega
                      by_cases hz : zz < g0
                      · have hd := HD1.out hz k y hy hk1
                        rw [← hmk, ← hyh] at hd
                        have hbm : b = k → mk = true := fun e => by rw [hmk, ← e]; exact HBM.out
                        obtain ⟨bm, om, ham, hbm1, hbm2⟩ := OM.out.at (i := k) (by rw [ml]; exact hkl)
                        rw [← hmk] at hbm2
                        obtain ⟨bL, oL, hal, hbL1, hbL2⟩ := bnd_at HL.out hy
                        rw [← hyh] at hbL2
                        have MC : Hid (CellBo wr bm (om + k) mk) := Lib.hid ⟨hbm1, hbm2⟩
                        have LC : Hid (CellI wr bL (oL + k * 3 + 2) yh) := Lib.hid ⟨hbL1, hbL2⟩
                        have HDk := Lib.hid hd; have HBk := Lib.hid hbm
                        clear hbm1 hbm2 hbL1 hbL2 hmk hyh hy hd hbm
                        obtain ⟨zi1, zi2⟩ := ZI.out
                        have qGP := GP.out.cell; have fGP := GP.out.free; have lGP := GP.out.lt
                        go_wp2_with fail
                        (refine wp_region_quietE (by kernel_rfl) (by kernel_rfl) ?_; (repeat (go_big_quiet_step ((fail)))); refine wpQuiet_nil ?_; rintro w1 ⟨⟨_, hx1⟩, rfl⟩; (try dsimp only))
                        clear qGP fGP lGP
                        clear zi1 zi2
                        have hx := hx1; clear hx1
                        have HL := Lib.hid (HL.out.ext hx); have HC := Lib.hid (HC.out.ext hx); have A1 := Lib.hid (A1.out.ext hx); have GP := Lib.hid (GP.out.ext hx); have GQ := Lib.hid (GQ.out.ext hx); have OZ := Lib.hid (OZ.out.ext hx); have OK := Lib.hid (OK.out.ext hx); have ZI := Lib.hid (ZI.out.ext hx); have BKc := Lib.hid (BKc.out.ext hx); have OM := Lib.hid (OM.out.ext hx); have DD := Lib.hid (DD.out.ext hx); have MM := Lib.hid (MM.out.ext hx); have MC := Lib.hid (MC.out.ext hx); have LC := Lib.hid (LC.out.ext hx); have X := Lib.hid (X.out.trans hx)
                        have XS := Lib.hid (XS.out.trans hx); clear hx
                        have hd := HDk.out; have hbm := HBk.out
                        rcases Bool.eq_false_or_eq_true mk with hm | hm
                        rotate_left
                        · subst hm
                          have q3 : ((b : Int) == (k : Int)) = false := by
                            have : b ≠ k := fun e => by cases hbm e
                            simp; omega
                          clear hd hbm HDk HBk
                          obtain ⟨mc1, mc2⟩ := MC.out; obtain ⟨lc1, lc2⟩ := LC.out
                          have qA1 := A1.out.cell; have fA1 := A1.out.free; have lA1 := A1.out.lt; have qDD := DD.out.cell; have fDD := DD.out.free; have lDD := DD.out.lt
                          go_wp2_with fail
                          go_roundw
                          case rel => exact ⟨k + 1, by omega, by omega, by go_num, XS.out⟩
                          case measure => simp [intOf]; omega
                        · subst hm
                          have q4 : ¬ yh < 0 := by have := hd rfl; omega
                          clear hd hbm HDk HBk
                          by_cases hbk : b = k
                          · have q3 : ((b : Int) == (k : Int)) = true := by simp; omega
                            clear hbk
                            obtain ⟨mc1, mc2⟩ := MC.out; obtain ⟨lc1, lc2⟩ := LC.out
                            have qA1 := A1.out.cell; have fA1 := A1.out.free; have lA1 := A1.out.lt; have qDD := DD.out.cell; have fDD := DD.out.free; have lDD := DD.out.lt
                            go_wp2_with fail
                            go_roundw
                            case rel => exact ⟨k + 1, by omega, by omega, by go_num, XS.out⟩
                            case measure => simp [intOf]; omega
                          · have q3 : ((b : Int) == (k : Int)) = false := by simp; omega
                            clear hbk
                            obtain ⟨mc1, mc2⟩ := MC.out; obtain ⟨lc1, lc2⟩ := LC.out
                            have qA1 := A1.out.cell; have fA1 := A1.out.free; have lA1 := A1.out.lt; have qDD := DD.out.cell; have fDD := DD.out.free; have lDD := DD.out.lt
                            go_wp2_with fail
                            go_roundw
                            case rel => exact ⟨k + 1, by omega, by omega, by go_num, XS.out⟩
                            case measure => simp [intOf]; omega
                      · clear hmk hyh hy
                        obtain ⟨zi1, zi2⟩ := ZI.out
                        have qGP := GP.out.cell; have fGP := GP.out.free; have lGP := GP.out.lt
                        go_wp2_with fail
                        (refine wp_region_quietE (by kernel_rfl) (by kernel_rfl) ?_; (repeat (go_big_quiet_step ((fail)))); refine wpQuiet_nil ?_; rintro w1 ⟨⟨_, hx1⟩, rfl⟩; (try dsimp only))
                        clear qGP fGP lGP
                        clear zi1 zi2
                        have hx := hx1; clear hx1
                        have HL := Lib.hid (HL.out.ext hx); have HC := Lib.hid (HC.out.ext hx); have A1 := Lib.hid (A1.out.ext hx); have GP := Lib.hid (GP.out.ext hx); have GQ := Lib.hid (GQ.out.ext hx); have OZ := Lib.hid (OZ.out.ext hx); have OK := Lib.hid (OK.out.ext hx); have ZI := Lib.hid (ZI.out.ext hx); have BKc := Lib.hid (BKc.out.ext hx); have OM := Lib.hid (OM.out.ext hx); have DD := Lib.hid (DD.out.ext hx); have MM := Lib.hid (MM.out.ext hx); have X := Lib.hid (X.out.trans hx)
                        clear hx
                        obtain ⟨zi1, zi2⟩ := ZI.out
                        by_cases hz4 : zz < g4
                        · have hb0 : b = 0 := HD2.out hz4
                          have q6 : ((b : Int) != 0) = false := by simp; omega
                          have q7 : (b : Int) = 0 := by omega
                          clear hb0
                          have qGP := GP.out.cell; have fGP := GP.out.free; have lGP := GP.out.lt; have qDD := DD.out.cell; have fDD := DD.out.free; have lDD := DD.out.lt
                          go_wp2_with fail
                          (refine wp_region_quietE (by kernel_rfl) (by kernel_rfl) ?_; (repeat (go_big_quiet_step ((fail)))); refine wpQuiet_nil ?_; rintro w1 ⟨⟨_, hx1⟩, rfl⟩; (try dsimp only))
                          clear qGP fGP lGP qDD fDD lDD
                          clear q6 q7
                          clear zi1 zi2
                          have hx := hx1; clear hx1
                          have HL := Lib.hid (HL.out.ext hx); have HC := Lib.hid (HC.out.ext hx); have A1 := Lib.hid (A1.out.ext hx); have GP := Lib.hid (GP.out.ext hx); have GQ := Lib.hid (GQ.out.ext hx); have OZ := Lib.hid (OZ.out.ext hx); have OK := Lib.hid (OK.out.ext hx); have ZI := Lib.hid (ZI.out.ext hx); have BKc := Lib.hid (BKc.out.ext hx); have OM := Lib.hid (OM.out.ext hx); have DD := Lib.hid (DD.out.ext hx); have MM := Lib.hid (MM.out.ext hx); have X := Lib.hid (X.out.trans hx)
                          clear hx
                          have qMM := MM.out.cell; have fMM := MM.out.free; have lMM := MM.out.lt; have qGQ := GQ.out.cell; have fGQ := GQ.out.free; have lGQ := GQ.out.lt
                          go_wp2_with fail
                          clear qMM fMM lMM qGQ fGQ lGQ
                          have hgq := ((GQ.out.set 0 (.int .i64 b)).set 1 (.int .i64 a')).set 2 (.int .i64 r')
                          simp only [List.setIfInBounds_toArray, List.set_cons_zero, List.set_cons_succ] at hgq
                          have hgp := ((GP.out.setOther (a := ⟨q, 0, none⟩) NE.out (.int .i64 b)).setOther (a := ⟨q, 1, none⟩) NE.out (.int .i64 a')).setOther (a := ⟨q, 2, none⟩) NE.out (.int .i64 r')
                          have ha1 := ((A1.out.setOther (a := ⟨q, 0, none⟩) NEA.out (.int .i64 b)).setOther (a := ⟨q, 1, none⟩) NEA.out (.int .i64 a')).setOther (a := ⟨q, 2, none⟩) NEA.out (.int .i64 r')
                          have hoz := ((OZ.out.set GQ.out (by decide) 0 (.int .i64 b)).set (GQ.out.set 0 (.int .i64 b)) (by decide) 1 (.int .i64 a')).set ((GQ.out.set 0 (.int .i64 b)).set 1 (.int .i64 a')) (by decide) 2 (.int .i64 r')
                          have hok := ((OK.out.set GQ.out (by decide) 0 (.int .i64 b)).set (GQ.out.set 0 (.int .i64 b)) (by decide) 1 (.int .i64 a')).set ((GQ.out.set 0 (.int .i64 b)).set 1 (.int .i64 a')) (by decide) 2 (.int .i64 r')
                          have hxx := ((X.out.set (p := ⟨q, 0, none⟩) LQw.out (.int .i64 b)).set (p := ⟨q, 1, none⟩) LQw.out (.int .i64 a')).set (p := ⟨q, 2, none⟩) LQw.out (.int .i64 r')
                          have H1 := Lib.hid hgq; have H2 := Lib.hid hgp; have H3 := Lib.hid ha1; have H4 := Lib.hid hoz; have H5 := Lib.hid hok; have H6 := Lib.hid hxx
                          clear hgq hgp ha1 hoz hok hxx
                          have ha := HA.out; have hr := HRV.out
                          go_roundw
                          case rel =>
                            exact ⟨tt + 1, b, a', r', by omega, hb, ⟨ha.1, by omega⟩, ⟨hr.1, by omega⟩, by go_num, H6.out, H3.out, H2.out, H1.out, H4.out, H5.out⟩
                          case measure => simp [intOf]; omega
                        · have q9 : decide (zz < g4) = false := decide_eq_false hz4
                          have qGP := GP.out.cell; have fGP := GP.out.free; have lGP := GP.out.lt; have qDD := DD.out.cell; have fDD := DD.out.free; have lDD := DD.out.lt
                          go_wp2_with fail
                          (refine wp_region_quietE (by kernel_rfl) (by kernel_rfl) ?_; (repeat (go_big_quiet_step ((fail)))); refine wpQuiet_nil ?_; rintro w1 ⟨⟨_, hx1⟩, rfl⟩; (try dsimp only))
                          clear qGP fGP lGP qDD fDD lDD
                          clear zi1 zi2
                          have hx := hx1; clear hx1
                          have HL := Lib.hid (HL.out.ext hx); have HC := Lib.hid (HC.out.ext hx); have A1 := Lib.hid (A1.out.ext hx); have GP := Lib.hid (GP.out.ext hx); have GQ := Lib.hid (GQ.out.ext hx); have OZ := Lib.hid (OZ.out.ext hx); have OK := Lib.hid (OK.out.ext hx); have ZI := Lib.hid (ZI.out.ext hx); have BKc := Lib.hid (BKc.out.ext hx); have OM := Lib.hid (OM.out.ext hx); have DD := Lib.hid (DD.out.ext hx); have MM := Lib.hid (MM.out.ext hx); have X := Lib.hid (X.out.trans hx)
                          clear hx
                          have qMM := MM.out.cell; have fMM := MM.out.free; have lMM := MM.out.lt; have qGQ := GQ.out.cell; have fGQ := GQ.out.free; have lGQ := GQ.out.lt
                          go_wp2_with fail
                          clear qMM fMM lMM qGQ fGQ lGQ
                          have hgq := ((GQ.out.set 0 (.int .i64 b)).set 1 (.int .i64 a')).set 2 (.int .i64 r')
                          simp only [List.setIfInBounds_toArray, List.set_cons_zero, List.set_cons_succ] at hgq
                          have hgp := ((GP.out.setOther (a := ⟨q, 0, none⟩) NE.out (.int .i64 b)).setOther (a := ⟨q, 1, none⟩) NE.out (.int .i64 a')).setOther (a := ⟨q, 2, none⟩) NE.out (.int .i64 r')
                          have ha1 := ((A1.out.setOther (a := ⟨q, 0, none⟩) NEA.out (.int .i64 b)).setOther (a := ⟨q, 1, none⟩) NEA.out (.int .i64 a')).setOther (a := ⟨q, 2, none⟩) NEA.out (.int .i64 r')
                          have hoz := ((OZ.out.set GQ.out (by decide) 0 (.int .i64 b)).set (GQ.out.set 0 (.int .i64 b)) (by decide) 1 (.int .i64 a')).set ((GQ.out.set 0 (.int .i64 b)).set 1 (.int .i64 a')) (by decide) 2 (.int .i64 r')
                          have hok := ((OK.out.set GQ.out (by decide) 0 (.int .i64 b)).set (GQ.out.set 0 (.int .i64 b)) (by decide) 1 (.int .i64 a')).set ((GQ.out.set 0 (.int .i64 b)).set 1 (.int .i64 a')) (by decide) 2 (.int .i64 r')
                          have hxx := ((X.out.set (p := ⟨q, 0, none⟩) LQw.out (.int .i64 b)).set (p := ⟨q, 1, none⟩) LQw.out (.int .i64 a')).set (p := ⟨q, 2, none⟩) LQw.out (.int .i64 r')
                          have H1 := Lib.hid hgq; have H2 := Lib.hid hgp; have H3 := Lib.hid ha1; have H4 := Lib.hid hoz; have H5 := Lib.hid hok; have H6 := Lib.hid hxx
                          clear hgq hgp ha1 hoz hok hxx
                          have ha := HA.out; have hr := HRV.out
                          go_roundw
                          case rel =>
                            exact ⟨tt + 1, b, a', r', by omega, hb, ⟨ha.1, by omega⟩, ⟨hr.1, by omega⟩, by go_num, H6.out, H3.out, H2.out, H1.out, H4.out, H5.out⟩
                          case measure => simp [intOf]; omega
                    · obtain rfl : k = l.length := by omega
                      have q1 : ¬ (l.length : Int) < (l.length : Int) := by omega
                      go_wp2_with fail
                      (refine wp_region_quietE (by kernel_rfl) (by kernel_rfl) ?_; (repeat (go_big_quiet_step ((fail)))); refine wpQuiet_nil ?_; rintro w1 ⟨⟨_, hx1⟩, rfl⟩; (try dsimp only))
                      have hx := hx1; clear hx1
                      have HL := Lib.hid (HL.out.ext hx); have HC := Lib.hid (HC.out.ext hx); have A1 := Lib.hid (A1.out.ext hx); have GP := Lib.hid (GP.out.ext hx); have GQ := Lib.hid (GQ.out.ext hx); have OZ := Lib.hid (OZ.out.ext hx); have OK := Lib.hid (OK.out.ext hx); have ZI := Lib.hid (ZI.out.ext hx); have BKc := Lib.hid (BKc.out.ext hx); have OM := Lib.hid (OM.out.ext hx); have DD := Lib.hid (DD.out.ext hx); have MM := Lib.hid (MM.out.ext hx); have X := Lib.hid (X.out.trans hx)
                      clear hx
                      obtain ⟨zi1, zi2⟩ := ZI.out
                      by_cases hz4 : zz < g4
                      · have hb0 : b = 0 := HD2.out hz4
                        have q6 : ((b : Int) != 0) = false := by simp; omega
                        have q7 : (b : Int) = 0 := by omega
                        clear hb0
                        have qGP := GP.out.cell; have fGP := GP.out.free; have lGP := GP.out.lt; have qDD := DD.out.cell; have fDD := DD.out.free; have lDD := DD.out.lt
                        go_wp2_with fail
                        (refine wp_region_quietE (by kernel_rfl) (by kernel_rfl) ?_; (repeat (go_big_quiet_step ((fail)))); refine wpQuiet_nil ?_; rintro w1 ⟨⟨_, hx1⟩, rfl⟩; (try dsimp only))
                        clear qGP fGP lGP qDD fDD lDD
                        clear q6 q7
                        clear zi1 zi2
                        have hx := hx1; clear hx1
                        have HL := Lib.hid (HL.out.ext hx); have HC := Lib.hid (HC.out.ext hx); have A1 := Lib.hid (A1.out.ext hx); have GP := Lib.hid (GP.out.ext hx); have GQ := Lib.hid (GQ.out.ext hx); have OZ := Lib.hid (OZ.out.ext hx); have OK := Lib.hid (OK.out.ext hx); have ZI := Lib.hid (ZI.out.ext hx); have BKc := Lib.hid (BKc.out.ext hx); have OM := Lib.hid (OM.out.ext hx); have DD := Lib.hid (DD.out.ext hx); have MM := Lib.hid (MM.out.ext hx); have X := Lib.hid (X.out.trans hx)
                        clear hx
                        have qMM := MM.out.cell; have fMM := MM.out.free; have lMM := MM.out.lt; have qGQ := GQ.out.cell; have fGQ := GQ.out.free; have lGQ := GQ.out.lt
                        go_wp2_with fail
                        clear qMM fMM lMM qGQ fGQ lGQ
                        have hgq := ((GQ.out.set 0 (.int .i64 b)).set 1 (.int .i64 a')).set 2 (.int .i64 r')
                        simp only [List.setIfInBounds_toArray, List.set_cons_zero, List.set_cons_succ] at hgq
                        have hgp := ((GP.out.setOther (a := ⟨q, 0, none⟩) NE.out (.int .i64 b)).setOther (a := ⟨q, 1, none⟩) NE.out (.int .i64 a')).setOther (a := ⟨q, 2, none⟩) NE.out (.int .i64 r')
                        have ha1 := ((A1.out.setOther (a := ⟨q, 0, none⟩) NEA.out (.int .i64 b)).setOther (a := ⟨q, 1, none⟩) NEA.out (.int .i64 a')).setOther (a := ⟨q, 2, none⟩) NEA.out (.int .i64 r')
                        have hoz := ((OZ.out.set GQ.out (by decide) 0 (.int .i64 b)).set (GQ.out.set 0 (.int .i64 b)) (by decide) 1 (.int .i64 a')).set ((GQ.out.set 0 (.int .i64 b)).set 1 (.int .i64 a')) (by decide) 2 (.int .i64 r')
                        have hok := ((OK.out.set GQ.out (by decide) 0 (.int .i64 b)).set (GQ.out.set 0 (.int .i64 b)) (by decide) 1 (.int .i64 a')).set ((GQ.out.set 0 (.int .i64 b)).set 1 (.int .i64 a')) (by decide) 2 (.int .i64 r')
                        have hxx := ((X.out.set (p := ⟨q, 0, none⟩) LQw.out (.int .i64 b)).set (p := ⟨q, 1, none⟩) LQw.out (.int .i64 a')).set (p := ⟨q, 2, none⟩) LQw.out (.int .i64 r')
                        have H1 := Lib.hid hgq; have H2 := Lib.hid hgp; have H3 := Lib.hid ha1; have H4 := Lib.hid hoz; have H5 := Lib.hid hok; have H6 := Lib.hid hxx
                        clear hgq hgp ha1 hoz hok hxx
                        have ha := HA.out; have hr := HRV.out
                        go_roundw
                        case rel =>
                          exact ⟨tt + 1, b, a', r', by omega, hb, ⟨ha.1, by omega⟩, ⟨hr.1, by omega⟩, by go_num, H6.out, H3.out, H2.out, H1.out, H4.out, H5.out⟩
                        case measure => simp [intOf]; omega
                      · have q9 : decide (zz < g4) = false := decide_eq_false hz4
                        have qGP := GP.out.cell; have fGP := GP.out.free; have lGP := GP.out.lt; have qDD := DD.out.cell; have fDD := DD.out.free; have lDD := DD.out.lt
                        go_wp2_with fail
                        (refine wp_region_quietE (by kernel_rfl) (by kernel_rfl) ?_; (repeat (go_big_quiet_step ((fail)))); refine wpQuiet_nil ?_; rintro w1 ⟨⟨_, hx1⟩, rfl⟩; (try dsimp only))
                        clear qGP fGP lGP qDD fDD lDD
                        clear zi1 zi2
                        have hx := hx1; clear hx1
                        have HL := Lib.hid (HL.out.ext hx); have HC := Lib.hid (HC.out.ext hx); have A1 := Lib.hid (A1.out.ext hx); have GP := Lib.hid (GP.out.ext hx); have GQ := Lib.hid (GQ.out.ext hx); have OZ := Lib.hid (OZ.out.ext hx); have OK := Lib.hid (OK.out.ext hx); have ZI := Lib.hid (ZI.out.ext hx); have BKc := Lib.hid (BKc.out.ext hx); have OM := Lib.hid (OM.out.ext hx); have DD := Lib.hid (DD.out.ext hx); have MM := Lib.hid (MM.out.ext hx); have X := Lib.hid (X.out.trans hx)
                        clear hx
                        have qMM := MM.out.cell; have fMM := MM.out.free; have lMM := MM.out.lt; have qGQ := GQ.out.cell; have fGQ := GQ.out.free; have lGQ := GQ.out.lt
                        go_wp2_with fail
                        clear qMM fMM lMM qGQ fGQ lGQ
                        have hgq := ((GQ.out.set 0 (.int .i64 b)).set 1 (.int .i64 a')).set 2 (.int .i64 r')
                        simp only [List.setIfInBounds_toArray, List.set_cons_zero, List.set_cons_succ] at hgq
                        have hgp := ((GP.out.setOther (a := ⟨q, 0, none⟩) NE.out (.int .i64 b)).setOther (a := ⟨q, 1, none⟩) NE.out (.int .i64 a')).setOther (a := ⟨q, 2, none⟩) NE.out (.int .i64 r')
                        have ha1 := ((A1.out.setOther (a := ⟨q, 0, none⟩) NEA.out (.int .i64 b)).setOther (a := ⟨q, 1, none⟩) NEA.out (.int .i64 a')).setOther (a := ⟨q, 2, none⟩) NEA.out (.int .i64 r')
                        have hoz := ((OZ.out.set GQ.out (by decide) 0 (.int .i64 b)).set (GQ.out.set 0 (.int .i64 b)) (by decide) 1 (.int .i64 a')).set ((GQ.out.set 0 (.int .i64 b)).set 1 (.int .i64 a')) (by decide) 2 (.int .i64 r')
                        have hok := ((OK.out.set GQ.out (by decide) 0 (.int .i64 b)).set (GQ.out.set 0 (.int .i64 b)) (by decide) 1 (.int .i64 a')).set ((GQ.out.set 0 (.int .i64 b)).set 1 (.int .i64 a')) (by decide) 2 (.int .i64 r')
                        have hxx := ((X.out.set (p := ⟨q, 0, none⟩) LQw.out (.int .i64 b)).set (p := ⟨q, 1, none⟩) LQw.out (.int .i64 a')).set (p := ⟨q, 2, none⟩) LQw.out (.int .i64 r')
                        have H1 := Lib.hid hgq; have H2 := Lib.hid hgp; have H3 := Lib.hid ha1; have H4 := Lib.hid hoz; have H5 := Lib.hid hok; have H6 := Lib.hid hxx
                        clear hgq hgp ha1 hoz hok hxx
                        have ha := HA.out; have hr := HRV.out
                        go_roundw
                        case rel =>
                          exact ⟨tt + 1, b, a', r', by omega, hb, ⟨ha.1, by omega⟩, ⟨hr.1, by omega⟩, by go_num, H6.out, H3.out, H2.out, H1.out, H4.out, H5.out⟩
                        case measure => simp [intOf]; omega
            · obtain rfl : tt = ZS.length := by omega
              have r2 : ¬ (ZS.length : Int) < (ZS.length : Int) := by omega
              go_wp2_with fail
              go_ret
              exact ⟨rfl, X.out⟩
    · have q2 : (ak != 0) = true := by simpa using h2
      clear h1 h2
      go_enter Try.func7, Try.ntmps7
      have qA1 := A1.out.cell; have fA1 := A1.out.free; have lA1 := A1.out.lt
      go_wp2_with fail
      refine (HCK.out _ HL.out).mono ?_
      rintro e w1 ⟨rfl, hx⟩
      clear qA1 fA1 lA1
      have HL := Lib.hid (HL.out.ext hx); have HC := Lib.hid (HC.out.ext hx); have HZ := Lib.hid (HZ.out.ext hx); have A0 := Lib.hid (A0.out.ext hx); have A1 := Lib.hid (A1.out.ext hx); have X := Lib.hid (X.out.trans hx)
      clear hx
      have qA1 := A1.out.cell; have fA1 := A1.out.free; have lA1 := A1.out.lt
      go_wp2_with fail
      refine (awake30_any _).mono ?_
      rintro e w2 ⟨rfl, hx⟩
      clear qA1 fA1 lA1
      have HL := Lib.hid (HL.out.ext hx); have HC := Lib.hid (HC.out.ext hx); have HZ := Lib.hid (HZ.out.ext hx); have A0 := Lib.hid (A0.out.ext hx); have A1 := Lib.hid (A1.out.ext hx); have X := Lib.hid (X.out.trans hx)
      clear hx
      go_wp2_with fail
      go_ret
      exact ⟨rfl, X.out⟩
end Go.Proofs.Ytbnalhmcbolngaa
