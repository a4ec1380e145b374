/- Part of the proof of imatL_holds: what the row needs of GM. Conditions: as each theorem states. -/
import Derived.Test.YthkfkfbfblppeaaGreatSwOwRows
import Derived.Test.YthkfkfbfblppeaaGreatSwGL
import Derived.Test.YthkfkfbfblppeaaGreatSwGK
import Derived.Test.YthkfkfbfblppeaaGreatSwRatDt
import Derived.Test.YthkfkfbfblppeaaGreatSwRatLs
namespace Go.Proofs.YthkfkfbfblppeaaGreat
set_option linter.unusedSimpArgs false
set_option linter.unusedVariables false
open Go.RowKit
theorem wpList_append_rowG {P : Program} (W : World) {ops : Array Oper} {rest : List Oper} {o : Oper} {a : Act} {Q : Exit → Act → World → Prop} (hgd : o.guard = none) (s x : Operand) (t : TypeId)
    (ho : o.op = .call { callee := .builtin .append, args := #[s, x], argTypes := #[t, t] })
    (B : Nat) (e : TypeId) (z : Value) (size bytes : Nat) (ht : P.underlying t = some (.slice e)) (hinfo : (P.info? e).map (fun i => (i.zero, i.size, i.bytes)) = some (some z, size, bytes))
    (hzs : z.cells.size = size) (hsz : 0 < size) {α : Type} {El : World → List Value → α → Prop} (hEl : ∀ w w' h y, El w h y → Keeps B e w w' → El w' h y) (v : Value) (l : List α) (hown : OwRow e size El B W v l) (hs : a.eval s = v)
    (cs : List Value) (hcs : cs.length = size) (h1c : ∀ u ∈ cs, u.oneCell' = true) (y : α) (hy : El W cs y) (bn : Nat) (hbn : Blk W bn cs.toArray e) (hx : a.eval x = .slice (some ⟨bn, 0, none⟩) 1 1)
    (h63 : l.length + 1 ≤ 9223372036854775807) (hbytes : (l.length + 1) * bytes ≤ 140737488355328) (hB : B ≤ W.heap.size)
    (ny : Nat) (yc : Array Value) (hny : Blk W ny yc e) (hys : yc.size = size) (hno : v.ownBlock ≠ some ny) (hnil : l = [] → v = .slice none 0 0)
    (h : ∀ g cap w', OwRow e size El B w' (.slice (some ⟨g, 0, none⟩) (l.length + 1) cap) (l ++ [y]) → Keeps B e W w' → Blk w' ny yc e → g ≠ ny → wpList P ops Q rest (a.put o.dst (.slice (some ⟨g, 0, none⟩) (l.length + 1) cap)) w') :
    wpList P ops Q (o :: rest) a W := by
  obtain ⟨i0, hi, hz0, hz1, hz2⟩ := info_parts hinfo
  obtain ⟨hs0, h1, h2, h3, h4⟩ := hown
  obtain ⟨B0, hB0, hB1, hown0, hB2⟩ : ∃ B0, B ≤ B0 ∧ B0 ≤ W.heap.size ∧ W.ownsRow B0 e size v l.length hs0.flatten ∧ (l = [] → ny < B0) := by
    by_cases hl : l = []
    · refine ⟨W.heap.size, hB, Nat.le_refl _, ?_, fun _ => hny.lt⟩
      refine ⟨h1.1, .inl ⟨hnil hl, by rw [hl]; rfl⟩⟩
    · exact ⟨B, Nat.le_refl _, hB, h1, fun h => absurd h hl⟩
  refine wpList_append_own _ hgd s x t ho B0 e i0 z size bytes ht hi hz0 hz1 hz2 hzs hsz v l.length hs0.flatten hs hown0 ⟨bn, 0, none⟩ 1 1 cs hx (by simp [hcs]) ?_ h1c (by unfold maxLen; omega) hbytes hB1 ?_
  · intro j u hj
    have hlt : j < cs.length := (List.getElem?_eq_some_iff.1 hj).1
    have hadd : (⟨bn, 0, none⟩ : Addr).add j = ⟨bn, j, none⟩ := by unfold Addr.add; split <;> simp_all
    rw [hadd, hbn.cell]
    simpa using hj
  · intro v' w' hown1 hgrow _
    have hown' := own_mono hown1 hB0
    have hbox : Blk w' ny yc e := (hgrow.block ny hny.lt (fun e => hno e.symm)).trans hny
    have hk : Keeps B e W w' := by
      refine ⟨⟨hgrow.os, hgrow.tape, hgrow.output, hgrow.size, fun i hi => by omega⟩, fun i hi ho => hgrow.block i hi ?_⟩
      intro heq
      rcases h1.2 with ⟨rfl, _⟩ | ⟨g, cap, cur, rfl, hb, hg, _⟩
      · simp [Value.ownBlock] at heq
      · simp [Value.ownBlock] at heq
        subst heq
        have hg2 : Blk W i cur e := hg
        rcases ho with ho | ⟨c2, u, h5, h6⟩
        · omega
        · unfold Blk at hg2 h5
          rw [hg2] at h5
          injection h5 with h5
          injection h5 with _ h7
          exact h6 h7.symm
    have hrow : OwRow e size El B w' v' (l ++ [y]) := by
      refine ⟨hs0 ++ [cs], ?_, by simp [h2], ?_, ?_⟩
      · rw [List.flatten_append, List.length_append]; simpa using hown'
      · intro q hq
        rcases List.mem_append.1 hq with hq | hq
        · exact h3 q hq
        · rw [List.mem_singleton.1 hq]; exact hcs
      · intro i x0 hi0
        by_cases hlt : i < l.length
        · rw [List.getElem?_append_left hlt] at hi0
          obtain ⟨q, e1, e2⟩ := h4 i x0 hi0
          exact ⟨q, by rw [List.getElem?_append_left (by omega)]; exact e1, hEl _ _ _ _ e2 hk⟩
        · have hil : i = l.length := by
            have := (List.getElem?_eq_some_iff.1 hi0).1
            simp at this; omega
          subst hil
          rw [List.getElem?_append_right (Nat.le_refl _)] at hi0
          simp at hi0
          subst hi0
          exact ⟨cs, by rw [List.getElem?_append_right (by omega), h2]; simp, hEl _ _ _ _ hy hk⟩
    have h5 := hown1.2
    rcases h5 with ⟨_, h0⟩ | ⟨g, cap, cur, rfl, hbg, hg, hnc, _, hcs2, _⟩
    · omega
    · refine h g cap w' hrow hk hbox fun e2 => ?_
      subst e2
      by_cases hl : l = []
      · have := hB2 hl; omega
      · have hg2 : Blk w' g cur e := hg
        unfold Blk at hg2 hbox
        rw [hbox] at hg2
        injection hg2 with hg2
        injection hg2 with h7 _
        have hl1 := List.length_pos_iff.2 hl
        have : 2 * size ≤ cap * size := Nat.mul_le_mul_right _ (by omega)
        rw [← hcs2, ← h7, hys] at this
        omega
end Go.Proofs.YthkfkfbfblppeaaGreat
namespace Go.Proofs.YthkfkfbfblppeaaGreat
set_option linter.unusedSimpArgs false
set_option linter.unusedVariables false
open Go.RowKit
theorem bd_one : bd 1 1 := ⟨by decide, by decide⟩
theorem bd_ratio {p q : Int} (h0 : 0 ≤ p) (h1 : 0 < q) (h2 : p < 4294967296) (h3 : q < 4294967296) : bd ((p : Rat) / (q : Rat)) 1 := by
  have e : ((p : Rat) / (q : Rat)) = vq (false, p.toNat, q.toNat) := by
    unfold vq sg
    dsimp only
    rw [if_neg (by decide), Rat.mkRat_eq_div]
    have e1 : ((p.toNat : Nat) : Int) = p := by omega
    have e2 : ((q.toNat : Nat) : Int) = q := by omega
    rw [e1, ← Rat.intCast_natCast, e2]
  rw [e]
  exact bd_vq (by dsimp only; omega) (by dsimp only; omega) (by dsimp only; omega)
def SmallC (c : List Int) : Prop := ∀ i, i < c.length → -1073741824 ≤ c.getD i 0 ∧ c.getD i 0 ≤ 1073741824
theorem share_bd {c : List Int} (h : Asc c) (hb : SmallC c) {x : Int} (h0 : c.getD 0 0 ≤ x) (h1 : x ≤ c.getD (c.length - 1) 0) (hc : 0 < c.length) {s : Nat × Rat} (hs : s ∈ shareL c x) : bd s.2 1 := by
  rcases share_cases h h0 h1 hc with ⟨i, hi, hx, e⟩ | ⟨i, hi, h2, h3, e⟩
  · rw [e, List.mem_singleton] at hs
    rw [hs]; exact bd_one
  · have b1 := hb i (by omega)
    have b2 := hb (i + 1) hi
    rw [e] at hs
    rcases List.mem_cons.1 hs with rfl | hs
    · exact bd_ratio (by omega) (by omega) (by omega) (by omega)
    · rw [List.mem_singleton] at hs
      rw [hs]
      exact bd_ratio (by omega) (by omega) (by omega) (by omega)
def xsOf (g : List (List Int)) (x : List Int) (k : Nat) : Int := clampS (g.getD k []) (x.getD k 0)
theorem in_of {g : List (List Int)} (ok : GridOk g) (x : List Int) : In g (xsOf g x) := fun k hk => by
  obtain ⟨a1, a2, a3, a4⟩ := ok.ax k hk
  exact ⟨a3, a1, clamp_in a3 a1 _⟩
theorem wts_bd {g : List (List Int)} (ok : GridOk g) (x : List Int) : ∀ k, k ≤ g.length → ∀ y ∈ wtsL g (xsOf g x) k, bd y.2 (k + 1)
  | 0, _, y, h => by
    simp only [wtsL, List.mem_singleton] at h
    rw [h]; exact bd_one
  | k + 1, hk, y, h => by
    simp only [wtsL] at h
    obtain ⟨z, hz, hs⟩ := List.mem_flatMap.1 h
    obtain ⟨s, hs2, rfl⟩ := List.mem_map.1 hs
    obtain ⟨a1, a2, a3, a4⟩ := ok.ax k hk
    obtain ⟨i1, i2⟩ := clamp_in a3 a1 (x.getD k 0)
    have := bd_mul (wts_bd ok x k (by omega) z hz) (share_bd a3 a4 i1 i2 a1 hs2)
    rwa [Nat.add_assoc] at this
def repL (l : List (Nat × Rat)) : List (Nat × RR) := l.map fun y => (y.1, rep y.2)
def stepL (c : List Int) (X : Int) (y : Nat × Rat) : List (Nat × Rat) := (shareL c X).map fun s => (y.1 * c.length + s.1, y.2 * s.2)
theorem wtsL_succ (g : List (List Int)) (xs : Nat → Int) (k : Nat) : wtsL g xs (k + 1) = (wtsL g xs k).flatMap (stepL (g.getD k []) (xs k)) := rfl
def weightsS (g : List (List Int)) (x : List Int) : List (Nat × RR) × Int :=
  if gridE g = 0 then (if x.length = g.length then (repL (wtsL g (xsOf g x) g.length), 0) else ([], 16)) else ([], gridE g)
def ResW (w w' : World) (e : Ending) (r : List (Nat × RR) × Int) : Prop := ∃ v B, e = .returned (.tuple #[v, .int .i64 r.2]) ∧ w.heap.size ≤ B ∧ OwS 107 B w' v r.1
theorem ResW.mk {w w' : World} {v : Value} {l : List (Nat × RR)} {x : Int} {B : Nat} {r : List (Nat × RR) × Int} (hB : w.heap.size ≤ B) (h : OwS 107 B w' v l) (e : r = (l, x)) : ResW w w' (.returned (.tuple #[v, .int .i64 x])) r := by subst e; exact ⟨v, B, rfl, hB, h⟩
theorem OwS.one {e : TypeId} {W : World} {B b : Nat} {cs : List Value} {y : Nat × RR} (h : ElS B W cs y) (hb : Blk W b cs.toArray e) (hB : B ≤ b) : OwS e B W (.slice (some ⟨b, 0, none⟩) 1 1) [y] := by
  have hl : cs.length = 4 := by obtain ⟨a1, c1, a2, c2, rfl, _⟩ := h; rfl
  refine ⟨[cs], ⟨by simp [hl], .inr ⟨b, 1, cs.toArray, rfl, hB, hb, Nat.le_refl _, by decide, by simp [hl], ?_⟩⟩, rfl, fun x hx => by rw [List.mem_singleton.1 hx]; exact hl, fun i x hi => ?_⟩
  · simp only [List.flatten_cons, List.flatten_nil, List.append_nil]
    exact List.take_of_length_le (by simp [hl])
  · cases i with
    | zero => simp at hi; subst hi; exact ⟨cs, rfl, h⟩
    | succ i => simp at hi
theorem OwS.keeps {e t : TypeId} {B C : Nat} {w w' : World} {v : Value} {l : List (Nat × RR)} (h : OwS e B w v l) (k : Keeps C t w w') (ht : e ≠ t) (hu : 206 ≠ t) : OwS e B w' v l := by
  obtain ⟨hs, h1, h2, h3, h4⟩ := h
  refine ⟨hs, ⟨h1.1, ?_⟩, h2, h3, fun i y hi => by obtain ⟨h, e1, e2⟩ := h4 i y hi; exact ⟨h, e1, e2.keeps0 hu _ _ _ _ k⟩⟩
  rcases h1.2 with hn | ⟨g, cap, cur, rfl, hb, hg, rest⟩
  · exact .inl hn
  · exact .inr ⟨g, cap, cur, rfl, hb, Blk.keeps (show Blk w g cur e from hg) k ht, rest⟩
theorem OwS.at {e : TypeId} {B : Nat} {w : World} {a : Option Addr} {n c : Nat} {l : List (Nat × RR)} (h : OwS e B w (.slice a n c) l) {i : Nat} {y : Nat × RR} (hi : l[i]? = some y) :
    ∃ b a1 c1 a2 c2, a = some ⟨b, 0, none⟩ ∧ b < w.heap.size ∧ w.cell? ⟨b, i * 4, none⟩ = some (.int .i64 (y.1 : Nat)) ∧ w.cell? ⟨b, i * 4 + 1, none⟩ = some (.bool y.2.neg) ∧ w.cell? ⟨b, i * 4 + 2, none⟩ = some (.slice a1 y.2.num.length c1) ∧ w.cell? ⟨b, i * 4 + 3, none⟩ = some (.slice a2 y.2.den.length c2) ∧
      RdR w (.agg #[.bool y.2.neg, .slice a1 y.2.num.length c1, .slice a2 y.2.den.length c2]) y.2 := by
  obtain ⟨a', cap, e1, _, _, hr⟩ := OwRow.rdN h
  injection e1 with e1 _ _
  subst e1
  obtain ⟨b, q, e2, _, hb, _, hc, he⟩ := hr i y hi
  obtain ⟨a1, c1, a2, c2, rfl, hrd⟩ := he.rd
  exact ⟨b, a1, c1, a2, c2, e2, hb, hc 0 (by decide), hc 1 (by decide), hc 2 (by decide), hc 3 (by decide), hrd⟩
theorem OwS.bound {e : TypeId} {B : Nat} {w : World} {a : Option Addr} {n c : Nat} {l : List (Nat × RR)} (h : OwS e B w (.slice a n c) l) : n = l.length ∧ l.length ≤ 9223372036854775807 := by
  obtain ⟨a', cap, e1, h1, h2, _⟩ := OwRow.rdN h
  injection e1 with _ e2 _
  exact ⟨e2, by omega⟩
theorem OwS.own_lt {e : TypeId} {B : Nat} {w : World} {v : Value} {l : List (Nat × RR)} (h : OwS e B w v l) {q : Nat} (hq : w.heap.size ≤ q) : v.ownBlock ≠ some q := by
  obtain ⟨hs, h1, _⟩ := h
  rcases h1.2 with ⟨rfl, _⟩ | ⟨g, cap, cur, rfl, hb, hg, _⟩
  · intro e; cases e
  · intro e
    have h2 : g < w.heap.size := (Array.getElem?_eq_some_iff.1 hg).1
    injection e with e
    dsimp only at e
    omega
theorem repL_app (a b : List (Nat × Rat)) : repL (a ++ b) = repL a ++ repL b := by unfold repL; rw [List.map_append]
theorem repL_at {l : List (Nat × Rat)} {i : Nat} {y : Nat × Rat} (h : l[i]? = some y) : (repL l)[i]? = some (y.1, rep y.2) := by unfold repL; rw [List.getElem?_map, h]; rfl
theorem take_snocE {α : Type} {l : List α} {i : Nat} {y : α} (h : l[i]? = some y) : l.take (i + 1) = l.take i ++ [y] := by
  have hi := (List.getElem?_eq_some_iff.1 h).1
  rw [List.take_succ_eq_append_getElem hi]
  rw [(List.getElem?_eq_some_iff.1 h).2]
theorem step_at {c : List Int} {X : Int} {y s : Nat × Rat} {i : Nat} (h : (shareL c X)[i]? = some s) : (stepL c X y)[i]? = some (y.1 * c.length + s.1, y.2 * s.2) := by unfold stepL; rw [List.getElem?_map, h]; rfl
theorem step_len (c : List Int) (X : Int) (y : Nat × Rat) : (stepL c X y).length = (shareL c X).length := by unfold stepL; rw [List.length_map]
theorem mem_of_at {α : Type} {l : List α} {i : Nat} {y : α} (h : l[i]? = some y) : y ∈ l := List.mem_of_getElem? h
set_option maxRecDepth 100000 in
set_option maxHeartbeats 8000000 in
theorem weights7_any (gv xv : Value) (g : List (List Int)) (x : List Int) (w : World) (h : RdG w gv g) (hx : RdI .i64 w xv x) (hxb : ∀ i, i < x.length → -9223372036854775808 ≤ x.getD i 0 ∧ x.getD i 0 ≤ 9223372036854775807) :
    Calls Tryz.prog 21 #[gv, xv] w fun e w' => ResW w w' e (weightsS g x) ∧ Ext w w' := by
  have HG := Lib.hid h; have HXV := Lib.hid hx; have HXB := Lib.hid hxb
  have HCK := Lib.hid (fun W (x : Ext w W) => check7_any gv g W (h.ext x))
  obtain ⟨a, cap, rfl, hgl⟩ := h.shape
  obtain ⟨ax, cx, rfl, hcx, hmx, _⟩ := hx.get
  have hxl : x.length ≤ 9223372036854775807 := by omega
  clear h hx hxb hcx hmx
  go_enter Tryz.func21, Tryz.ntmps21
  go_wp2_with fail
  refine (HCK.out _ (Ext.refl w)).mono ?_
  rintro e w1 ⟨rfl, hx⟩
  have X := Lib.hid hx
  by_cases h0 : gridE g = 0
  rotate_left
  · have E := Lib.hid (show weightsS g x = ([], gridE g) from if_neg h0)
    obtain ⟨c, hc⟩ : ∃ c, c = gridE g := ⟨_, rfl⟩
    rw [← hc] at E h0 ⊢
    have q1 : (c != 0) = true := by simpa using h0
    clear hx h0 hc
    go_wp2_with fail
    go_ret2
    exact ⟨ResW.mk (Nat.le_refl _) (OwRow.nil _ _ _ _ _) E.out, X.out⟩
  by_cases hl : x.length = g.length
  rotate_left
  · have E := Lib.hid (show weightsS g x = ([], 16) from (if_pos h0).trans (if_neg hl))
    rw [h0]
    have q1 : ((x.length : Int) != (g.length : Int)) = true := bne_iff_ne.2 (by omega)
    clear hx h0 hl
    go_wp2_with fail
    go_ret2
    exact ⟨ResW.mk (Nat.le_refl _) (OwRow.nil _ _ _ _ _) E.out, X.out⟩
  have ok := gridE_ok h0
  have E := Lib.hid (show weightsS g x = (repL (wtsL g (xsOf g x) g.length), 0) from (if_pos h0).trans (if_pos hl))
  have hin := in_of ok x
  rw [h0]
  have q1 : ((x.length : Int) != (g.length : Int)) = false := by rw [hl]; simp
  have HL := Lib.hid hl; have HIN := Lib.hid hin
  clear hx h0 hl hin
  have hg4 := ok.le
  have hfr := fun W => fromR_any 1 W (by decide) (by decide)
  obtain ⟨R1, hR1⟩ : ∃ R, R = rep ((1 : Int) : Rat) := ⟨_, rfl⟩
  rw [← hR1] at hfr
  have HFR := Lib.hid hfr; have HR1 := Lib.hid hR1
  clear hfr hR1
  go_wp2_with fail
  refine (HFR.out _).mono ?_
  rintro e w2 ⟨⟨u, rfl, hu⟩, hx2⟩
  obtain ⟨u1, u2, u3, u4, rfl⟩ := hu.shape
  have hX2 := X.out.trans hx2
  obtain ⟨W3, hW3⟩ : ∃ W, W = w2.alloc (.cells #[.int .i64 0, .bool R1.neg, .slice u1 R1.num.length u2, .slice u3 R1.den.length u4] 107) := ⟨_, rfl⟩
  have hx3 : Ext w2 W3 := by rw [hW3]; exact (Ext.refl _).alloc _
  have hl0 : OwS 107 w1.heap.size W3 (.slice (some ⟨w2.heap.size, 0, none⟩) 1 1) (repL (wtsL g (xsOf g x) 0)) := by
    rw [show repL (wtsL g (xsOf g x) 0) = [(0, R1)] by rw [HR1.out]; rfl]
    refine OwS.one (ElS.new (i := 0) (hu.ext hx3) (Nat.le_refl _)) ?_ hx2.size
    rw [hW3]; exact Blk.new _ _ _
  have OW := Lib.hid hl0; have X3 := Lib.hid (hX2.trans hx3); have HW3 := Lib.hid hW3; have SZ := Lib.hid X.out.size
  clear hu hx2 hX2 hW3 hx3 hl0 X
  go_wp2_with fail
  rw [← HW3.out]
  go_loopw [7, 34] (fun v i wr => ∃ (k B : Nat), k ≤ g.length ∧ i = .int .i64 k ∧ w.heap.size ≤ B ∧ OwS 107 B wr v (repL (wtsL g (xsOf g x) k)) ∧ Ext w wr) (fun _ i _ => g.length - (intOf i).toNat)
  case atStart => exact ⟨0, _, Nat.zero_le _, rfl, SZ.out, OW.out, X3.out⟩
  case round =>
    obtain ⟨wk, hwk⟩ : ∃ W, W = wr := ⟨_, rfl⟩
    subst hwk
    obtain ⟨k, B, hk, rfl, hB, hown, hx⟩ := hrel
    have XR := Lib.hid hx; have OWR := Lib.hid hown
    obtain ⟨va, vc, rfl⟩ := hown.shape
    clear q1 OW X3 SZ HW3
    by_cases hlt : k < g.length
    · obtain ⟨b, off, ai, ci, rfl, r1, r2, r3⟩ := (HG.out.ext hx).at hlt
      have hlx : k < x.length := by have := HL.out; omega
      obtain ⟨bx, ox, rfl, s1, s2⟩ := rdI_at (HXV.out.ext hx) hlx
      have hxz := HXB.out k hlx
      obtain ⟨p1, p2, p3, p4⟩ := ok.ax k hlt
      obtain ⟨j1, j2⟩ := clamp_in p3 p1 (x.getD k 0)
      have hsz := shrt_lt ok.shrt (show k ≤ g.length by omega)
      have hLL := wtsL_len HIN.out k (Nat.le_of_lt hlt)
      have hp16 : 2 ^ k ≤ 16 := Nat.le_trans (Nat.pow_le_pow_right (by decide) (show k ≤ 4 by omega)) (by decide)
      have hmem := fun (y : Nat × Rat) (hy : y ∈ wtsL g (xsOf g x) k) => And.intro (wtsL_mem (Nat.le_of_lt hlt) hy).1 (wts_bd ok x k (Nat.le_of_lt hlt) y hy)
      have hsb := fun (s : Nat × Rat) (hs : s ∈ shareL (g.getD k []) (clampS (g.getD k []) (x.getD k 0))) => And.intro (shareL_mem hs).1 (share_bd p3 p4 j1 j2 p1 hs)
      have hsl := share_len p3 j1 j2 p1
      have hfin := wtsL_succ g (xsOf g x) k
      rw [show xsOf g x k = clampS (g.getD k []) (x.getD k 0) from rfl] at hfin
      have hshr := fun W (e : Ext wk W) => shares7_any (.slice ai (g.getD k []).length ci) (g.getD k []) (x.getD k 0) W (r3.ext e) p3 p1 p2 p4 hxz.1 hxz.2
      unfold shareR at hshr
      obtain ⟨LK, hLK⟩ : ∃ l, l = wtsL g (xsOf g x) k := ⟨_, rfl⟩
      obtain ⟨c, hc⟩ : ∃ c, c = g.getD k [] := ⟨_, rfl⟩
      obtain ⟨z, hz⟩ : ∃ z, z = x.getD k 0 := ⟨_, rfl⟩
      rw [← hLK] at OWR hmem hfin hLL hown ⊢
      rw [← hc] at r2 hsb hsl hfin hshr p2
      rw [← hz] at s2 hsb hsl hfin hshr
      rw [show (repL LK).length = LK.length by simp [repL]] at *
      obtain ⟨SL, hSL⟩ : ∃ l, l = shareL c (clampS c z) := ⟨_, rfl⟩
      obtain ⟨Y, hY⟩ : ∃ Y, Y = clampS c z := ⟨_, rfl⟩
      rw [← hSL] at hsb hsl hshr
      rw [← hY] at hfin hSL
      have R3 := Lib.hid r3; have MEM := Lib.hid hmem; have HSB := Lib.hid hsb; have HFIN := Lib.hid hfin; have HSHR := Lib.hid hshr; have HSL := Lib.hid hSL; have HSLN := Lib.hid hsl; have HLL := Lib.hid (Nat.le_trans hLL hp16); have HSZ := Lib.hid hsz
      have HCL := Lib.hid p2
      have HBx := Lib.hid hB
      clear r3 hmem hsb hfin hshr hSL hsl hLL hsz p1 p2 p3 p4 j1 j2 hxz hx hown hLK hc hz hY hp16 hB
      have q1 : (0 : Int) ≤ (k : Int) := by omega
      have q2 : (k : Int) < (g.length : Int) := by omega
      have q3 : (k : Int) < (x.length : Int) := by omega
      go_wp2_with fail
      go_loopw [10, 41] (fun v i wq => ∃ j : Nat, j ≤ LK.length ∧ i = .int .i64 j ∧ OwS 107 wk.heap.size wq v (repL ((LK.take j).flatMap (stepL c Y))) ∧ (repL ((LK.take j).flatMap (stepL c Y)) = [] → v = .slice none 0 0) ∧ Ext wk wq) (fun _ i _ => LK.length - (intOf i).toNat)
      case atStart => exact ⟨0, Nat.zero_le _, rfl, OwRow.nil _ _ _ _ _, fun _ => rfl, Ext.refl wk⟩
      case round =>
        obtain ⟨wq, hwq⟩ : ∃ W, W = wr := ⟨_, rfl⟩
        subst hwq
        obtain ⟨j, hj, rfl, hown, hnil, hx⟩ := hrel
        have XQ := Lib.hid hx; have OQ := Lib.hid hown; have NQ := Lib.hid hnil
        obtain ⟨na, nc, rfl⟩ := hown.shape
        clear hown hnil
        by_cases hjl : j < LK.length
        · obtain ⟨y, hy⟩ : ∃ y, LK[j]? = some y := ⟨_, List.getElem?_eq_getElem hjl⟩
          obtain ⟨bv, a1, c1, a2, c2, rfl, u0, u1', u2', u3', u4', v5⟩ := OWR.out.at (repL_at hy)
          dsimp only at u1' u2' u3' u4' v5
          have v0 := Nat.lt_of_lt_of_le u0 hx.size
          have v1 := (hx.cell (p := ⟨bv, j * 4, none⟩) u0).trans u1'; have v2 := (hx.cell (p := ⟨bv, j * 4 + 1, none⟩) u0).trans u2'; have v3 := (hx.cell (p := ⟨bv, j * 4 + 2, none⟩) u0).trans u3'; have v4 := (hx.cell (p := ⟨bv, j * 4 + 3, none⟩) u0).trans u4'
          clear u0 u1' u2' u3' u4'
          obtain ⟨m1, m2⟩ := MEM.out y (mem_of_at hy)
          have hyt := take_snocE hy
          obtain ⟨ry, hry⟩ : ∃ r, r = rep y.2 := ⟨_, rfl⟩
          rw [← hry] at v2 v3 v4 v5
          have HRY := Lib.hid hry; have HYT := Lib.hid hyt; have M1 := Lib.hid m1; have M2 := Lib.hid m2
          have r2' := (hx.cell (p := ⟨b, off + k, none⟩) r1).trans r2
          have s2' := (hx.cell (p := ⟨bx, ox + k, none⟩) s1).trans s2
          have r1' := Nat.lt_of_lt_of_le r1 hx.size
          have s1' := Nat.lt_of_lt_of_le s1 hx.size
          have q4 : (0 : Int) ≤ (j : Int) := by omega
          have q5 : (j : Int) < (LK.length : Int) := by omega
          obtain ⟨wy, hwy⟩ : ∃ W, W = wq.alloc (.cells #[.int .i64 (y.1 : Nat), .bool ry.neg, .slice a1 ry.num.length c1, .slice a2 ry.den.length c2] 107) := ⟨_, rfl⟩
          have xy : Ext wq wy := by rw [hwy]; exact (Ext.refl _).alloc _
          have by0 : Blk wy wq.heap.size #[.int .i64 (y.1 : Nat), .bool ry.neg, .slice a1 ry.num.length c1, .slice a2 ry.den.length c2] 107 := by rw [hwy]; exact Blk.new _ _ _
          have RK := Lib.hid v5; have BY := Lib.hid by0; have XY := Lib.hid (hx.trans xy); have HWY := Lib.hid hwy; have OY := Lib.hid (OQ.out.ext' xy); have OLT := Lib.hid (OQ.out.own_lt (Nat.le_refl _))
          have SHC := Lib.hid (HSHR.out wy (hx.trans xy))
          clear hx hy hry hyt m1 m2 v5 hwy xy by0 r1 r2 s1 s2
          go_wp2_with fail
          rw [← HWY.out]
          refine SHC.out.mono ?_
          rintro e w5 ⟨⟨u, rfl, hu⟩, hx5⟩
          obtain ⟨ua, uc, rfl⟩ := hu.shape
          have hsl2 : (SL.map fun s => (s.1, rep s.2)).length = SL.length := by simp
          rw [hsl2] at hu ⊢
          obtain ⟨ny, hny⟩ : ∃ n, n = wq.heap.size := ⟨_, rfl⟩
          rw [← hny] at BY OLT ⊢
          have BY := Lib.hid (BY.out.ext hx5); have XY := Lib.hid (XY.out.trans hx5); have OY := Lib.hid (OY.out.ext' hx5); have OU := Lib.hid hu
          clear hu hx5 hsl2 hny v0 v1 v2 v3 v4
          go_wp2_with fail
          go_loopw [10, 52] (fun v i w6 => ∃ (i3 : Nat), i3 ≤ SL.length ∧ i = .int .i64 i3 ∧ OwS 107 wk.heap.size w6 v (repL ((LK.take j).flatMap (stepL c Y) ++ (stepL c Y y).take i3)) ∧ (repL ((LK.take j).flatMap (stepL c Y) ++ (stepL c Y y).take i3) = [] → v = .slice none 0 0) ∧
            v.ownBlock ≠ some ny ∧ Blk w6 ny #[.int .i64 (y.1 : Nat), .bool ry.neg, .slice a1 ry.num.length c1, .slice a2 ry.den.length c2] 107 ∧ OwS 119 wy.heap.size w6 (.slice ua SL.length uc) (SL.map fun s => (s.1, rep s.2)) ∧ Ext wk w6) (fun _ i _ => SL.length - (intOf i).toNat)
          case atStart => exact ⟨0, Nat.zero_le _, rfl, by rw [List.take_zero, List.append_nil]; exact OY.out, by rw [List.take_zero, List.append_nil]; exact NQ.out, OLT.out, BY.out, OU.out, XY.out⟩
          case round =>
            obtain ⟨w6, hw6⟩ : ∃ W, W = wr := ⟨_, rfl⟩
            subst hw6
            obtain ⟨i3, hi3, rfl, hown, hnil, hob, hby, hou, hx⟩ := hrel
            have XS := Lib.hid hx; have OS := Lib.hid hown; have NS := Lib.hid hnil; have OB := Lib.hid hob; have BS := Lib.hid hby; have US := Lib.hid hou
            obtain ⟨na, nc, rfl⟩ := hown.shape
            clear hown hnil hob hby hx OY OLT BY OU XY SHC HWY
            by_cases hil : i3 < SL.length
            · obtain ⟨s, hs⟩ : ∃ s, SL[i3]? = some s := ⟨_, List.getElem?_eq_getElem hil⟩
              obtain ⟨bu, d1, e1, d2, e2, rfl, t0, t1, t2, t3, t4, t5⟩ := US.out.at (l := SL.map fun s => (s.1, rep s.2)) (y := (s.1, rep s.2)) (by rw [List.getElem?_map, hs]; rfl)
              dsimp only at t1 t2 t3 t4 t5
              have hs2 := hs
              rw [HSL.out] at hs2
              have hst := take_snocE (step_at (y := y) hs2)
              obtain ⟨n1, n2⟩ := HSB.out s (mem_of_at hs)
              have hmulb : bd (y.2 * s.2) 6 := bd_mono (bd_mul M2.out n2) (by omega)
              have hmul : mulR (rep y.2) (rep s.2) = (rep (y.2 * s.2), 0) := mul_rep (small_of_bd M2.out (by omega)) (small_of_bd n2 (by decide)) (small_of_bd hmulb (by decide))
              have hmc := fun W v1 v2 h1 h2 => mulR_any v1 v2 (rep y.2) (rep s.2) W h1 h2 (limR_rep _) (limR_rep _)
              rw [hmul] at hmc
              obtain ⟨rs, hrs⟩ : ∃ r, r = rep s.2 := ⟨_, rfl⟩
              obtain ⟨P, hP⟩ : ∃ r, r = rep (y.2 * s.2) := ⟨_, rfl⟩
              rw [← HRY.out, ← hrs, ← hP] at hmc
              rw [← hrs] at t2 t3 t4 t5
              have hm1 := M1.out; have hsz1 := HSZ.out; have hcl := HCL.out
              obtain ⟨V, hV⟩ : ∃ V, V = y.1 * c.length + s.1 := ⟨_, rfl⟩
              obtain ⟨M, hM⟩ : ∃ M, M = y.1 * c.length := ⟨_, rfl⟩
              have hMb : M ≤ 1048576 * 32 := by rw [hM]; exact Nat.mul_le_mul (by omega) hcl
              have w1e : IntKind.i64.wrap ((y.1 : Int) * (c.length : Int)) = (M : Int) := by rw [hM, Int.natCast_mul]; rw [← Int.natCast_mul, ← hM]; exact wrapL (by omega) (by omega)
              have w2e : IntKind.i64.wrap ((M : Int) + (s.1 : Int)) = (V : Int) := by rw [wrapL (by omega) (by omega), hV, hM]; omega
              have hadd : repL ((LK.take j).flatMap (stepL c Y) ++ (stepL c Y y).take (i3 + 1)) = repL ((LK.take j).flatMap (stepL c Y) ++ (stepL c Y y).take i3) ++ [(V, P)] := by
                rw [hst, ← List.append_assoc, repL_app, hV, hP]; rfl
              have hlen : (repL ((LK.take j).flatMap (stepL c Y) ++ (stepL c Y y).take i3)).length ≤ 100 := by
                have h1 := flat_len (f := stepL c Y) (n := 2) (LK.take j) (fun z _ => by rw [step_len, ← HSL.out]; exact HSLN.out)
                have h2 : (LK.take j).length ≤ 16 := Nat.le_trans (List.length_take_le' _ _) HLL.out
                have h3 : ((stepL c Y y).take i3).length ≤ 2 := Nat.le_trans (List.length_take_le' _ _) (by rw [step_len, ← HSL.out]; exact HSLN.out)
                unfold repL
                rw [List.length_map, List.length_append]
                omega
              have HADD := Lib.hid hadd; have HLEN := Lib.hid hlen; have HMC := Lib.hid hmc
              have RT := Lib.hid t5
              obtain ⟨ws, hws⟩ : ∃ W, W = w6.alloc (.cells #[.int .i64 (s.1 : Nat), .bool rs.neg, .slice d1 rs.num.length e1, .slice d2 rs.den.length e2] 119) := ⟨_, rfl⟩
              have xs6 : Ext w6 ws := by rw [hws]; exact (Ext.refl _).alloc _
              have bs0 : Blk ws w6.heap.size #[.int .i64 (s.1 : Nat), .bool rs.neg, .slice d1 rs.num.length e1, .slice d2 rs.den.length e2] 119 := by rw [hws]; exact Blk.new _ _ _
              have XS := Lib.hid (XS.out.trans xs6); have OS := Lib.hid (OS.out.ext' xs6); have BS := Lib.hid (BS.out.ext xs6); have US := Lib.hid (US.out.ext' xs6); have RT := Lib.hid (RT.out.ext xs6); have BT := Lib.hid bs0; have HWS := Lib.hid hws
              obtain ⟨ns, hns⟩ : ∃ n, w6.heap.size = n := ⟨_, rfl⟩
              have by0 := BS.out.lt
              have k1 : (w6.alloc (.cells #[.int .i64 (s.1 : Nat), .bool rs.neg, .slice d1 rs.num.length e1, .slice d2 rs.den.length e2] 119)).cell? ⟨ny, 0, none⟩ = some (.int .i64 (y.1 : Nat)) ∧ (w6.alloc (.cells #[.int .i64 (s.1 : Nat), .bool rs.neg, .slice d1 rs.num.length e1, .slice d2 rs.den.length e2] 119)).cell? ⟨ny, 1, none⟩ = some (.bool ry.neg) ∧ (w6.alloc (.cells #[.int .i64 (s.1 : Nat), .bool rs.neg, .slice d1 rs.num.length e1, .slice d2 rs.den.length e2] 119)).cell? ⟨ny, 2, none⟩ = some (.slice a1 ry.num.length c1) ∧ (w6.alloc (.cells #[.int .i64 (s.1 : Nat), .bool rs.neg, .slice d1 rs.num.length e1, .slice d2 rs.den.length e2] 119)).cell? ⟨ny, 3, none⟩ = some (.slice a2 ry.den.length c2) := by
                rw [← hws]; exact ⟨BS.out.cell 0, BS.out.cell 1, BS.out.cell 2, BS.out.cell 3⟩
              obtain ⟨k1, k2, k3, k4⟩ := k1
              have q6 : (0 : Int) ≤ (i3 : Int) := by omega
              have q7 : (i3 : Int) < (SL.length : Int) := by omega
              clear hs hs2 hst n1 n2 hmulb hmul hmc hrs hP hm1 hsz1 hcl hV hM hMb hadd hlen t5 xs6 bs0 hws hns by0 hou
              have SZS := Lib.hid XS.out.size
              go_wp2_with fail
              rw [← HWS.out]
              refine (HMC.out ws _ _ (RK.out.ext XS.out) RT.out).mono ?_
              rintro e w7 ⟨⟨pv, rfl, hp⟩, hx7⟩
              obtain ⟨p1, p2, p3, p4, rfl⟩ := hp.shape
              dsimp only at hp ⊢
              have XS := Lib.hid (XS.out.trans hx7); have OS := Lib.hid (OS.out.ext' hx7); have BS := Lib.hid (BS.out.ext hx7); have US := Lib.hid (US.out.ext' hx7); have BT := Lib.hid (BT.out.ext hx7); have NP := Lib.hid hp
              clear hp hx7 k1 k2 k3 k4 t0 t1 t2 t3 t4 q6 q7
              obtain ⟨ns, hns⟩ : ∃ n, n = w6.heap.size := ⟨_, rfl⟩
              rw [← hns] at BT ⊢
              clear hns
              have k1 := BS.out.cell 0; have k2 := BS.out.lt; have k3 := BT.out.cell 0; have k4 := BT.out.lt
              simp only [List.getElem?_toArray, List.getElem?_cons_zero] at k1 k3
              have xw : Ext w7 ((w7.alloc (.cells #[.bool P.neg, .slice p1 P.num.length p2, .slice p3 P.den.length p4] 62)).alloc (.cells #[.int .i64 (V : Nat), .bool P.neg, .slice p1 P.num.length p2, .slice p3 P.den.length p4] 107)) := ((Ext.refl w7).alloc _).alloc _
              have OA := Lib.hid (OS.out.ext' xw); have HE := Lib.hid (ElS.new (i := V) (B := wk.heap.size) (NP.out.ext xw) SZS.out); have BY2 := Lib.hid (BS.out.ext xw)
              have hz2 : wk.heap.size ≤ ((w7.alloc (.cells #[.bool P.neg, .slice p1 P.num.length p2, .slice p3 P.den.length p4] 62)).alloc (.cells #[.int .i64 (V : Nat), .bool P.neg, .slice p1 P.num.length p2, .slice p3 P.den.length p4] 107)).heap.size := by rw [World.size_alloc, World.size_alloc]; have := XS.out.size; omega
              have hbn : Blk ((w7.alloc (.cells #[.bool P.neg, .slice p1 P.num.length p2, .slice p3 P.den.length p4] 62)).alloc (.cells #[.int .i64 (V : Nat), .bool P.neg, .slice p1 P.num.length p2, .slice p3 P.den.length p4] 107)) (w7.heap.size + 1) [.int .i64 (V : Nat), .bool P.neg, .slice p1 P.num.length p2, .slice p3 P.den.length p4].toArray 107 := by have := Blk.new (w7.alloc (.cells #[.bool P.neg, .slice p1 P.num.length p2, .slice p3 P.den.length p4] 62)) #[.int .i64 (V : Nat), .bool P.neg, .slice p1 P.num.length p2, .slice p3 P.den.length p4] 107; rwa [World.size_alloc] at this
              have HBN := Lib.hid hbn; have XA := Lib.hid (XS.out.trans xw); have UA := Lib.hid (US.out.ext' xw); have HZ2 := Lib.hid hz2
              clear xw hbn hz2
              go_wp2_with (at_builtin; (refine wpList_append_rowG ((w7.alloc (.cells #[.bool P.neg, .slice p1 P.num.length p2, .slice p3 P.den.length p4] 62)).alloc (.cells #[.int .i64 (V : Nat), .bool P.neg, .slice p1 P.num.length p2, .slice p3 P.den.length p4] 107)) rfl _ _ 35 rfl wk.heap.size 107 (.agg #[.int .i64 0, .bool false, .slice none 0 0, .slice none 0 0]) 4 64 Tryz.underlying35 Tryz.infoWe rfl (by decide) (ElS.keeps0 (by decide)) _ _ OA.out rfl [.int .i64 (V : Nat), .bool P.neg, .slice p1 P.num.length p2, .slice p3 P.den.length p4] rfl (by simp [Value.oneCell']) (V, P) HE.out (w7.heap.size + 1) HBN.out rfl (by have := HLEN.out; omega) (by have := HLEN.out; omega) HZ2.out ny _ BY2.out rfl OB.out NS.out ?_))
              intro g9 cap9 w8 hown hkp hbox hne
              have X8 := Lib.hid (Below.trans XA.out (hkp.below HZ2.out)); have U8 := Lib.hid (OwS.keeps UA.out hkp (by decide) (by decide)); have O8 := Lib.hid hown; have B8 := Lib.hid hbox; have NE8 := Lib.hid hne
              clear hown hkp hbox hne k1 k2 k3 k4
              have hsn := HSLN.out
              go_wp2_with fail
              go_roundw
              case rel =>
                refine ⟨i3 + 1, by omega, by have := HSLN.out; go_num, ?_, ?_, ?_, B8.out, U8.out, X8.out⟩
                · rw [HADD.out]; exact O8.out
                · rw [HADD.out]; intro h; simp at h
                · intro h; injection h with h; exact NE8.out h
              case measure => simp [intOf]; have := HSLN.out; omega
            · obtain rfl : i3 = SL.length := by omega
              have q6 : ¬ (SL.length : Int) < (SL.length : Int) := by omega
              have hfl : (LK.take j).flatMap (stepL c Y) ++ (stepL c Y y).take SL.length = (LK.take (j + 1)).flatMap (stepL c Y) := by
                have h9 : (stepL c Y y).take SL.length = stepL c Y y := List.take_of_length_le (by rw [step_len, ← HSL.out]; exact Nat.le_refl _)
                rw [h9, HYT.out, List.flatMap_append, List.flatMap_cons, List.flatMap_nil, List.append_nil]
              rw [hfl] at OS NS ⊢
              have hll := HLL.out
              clear hou hfl
              go_wp2_with fail
              go_roundw
              case rel => exact ⟨j + 1, by omega, by go_num, OS.out, NS.out, XS.out⟩
              case measure => simp [intOf]; omega
        · obtain rfl : j = LK.length := by omega
          have q4 : ¬ (LK.length : Int) < (LK.length : Int) := by omega
          have hfl : repL ((LK.take LK.length).flatMap (stepL c Y)) = repL (wtsL g (xsOf g x) (k + 1)) := by rw [List.take_length, HFIN.out]
          rw [hfl] at OQ ⊢
          have hxx := XR.out.trans XQ.out
          have hsz0 := XR.out.size
          have OQ2 := Lib.hid OQ.out; have XX := Lib.hid hxx; have HZ := Lib.hid hsz0
          clear hx hfl hxx hsz0
          go_wp2_with fail
          go_roundw
          case rel => exact ⟨k + 1, _, by omega, by go_num, HZ.out, OQ2.out, XX.out⟩
          case measure => simp [intOf]; omega
    · obtain rfl : k = g.length := by omega
      have q1 : ¬ (g.length : Int) < (g.length : Int) := by omega
      clear hx hown
      go_wp2_with fail
      go_ret2
      exact ⟨ResW.mk hB OWR.out E.out, XR.out⟩
end Go.Proofs.YthkfkfbfblppeaaGreat
namespace Go.Proofs.YthkfkfbfblppeaaGreat
set_option linter.unusedSimpArgs false
set_option linter.unusedVariables false
open Go.RowKit
theorem run_append_fresh {P : Program} (w : World) (base : Nat) (t ty e : TypeId) (i : TypeInfo) (z : Value) (size bytes : Nat) (ht : P.underlying t = some (.slice e)) (hi : P.info? e = some i) (hz : i.zero = some z)
    (hsize : i.size = size) (hby : i.bytes = bytes) (hzs : z.cells.size = size) (hsz : 0 < size)
    (v : Value) (n : Nat) (xs : List Value) (hown : w.ownsRow base e size v n xs)
    (a : Addr) (c : Nat) (news : List Value) (hl : news.length = 1 * size) (hnews : ∀ j u, news[j]? = some u → w.cell? (a.add j) = some u) (h1 : ∀ u ∈ news, u.oneCell' = true)
    (h63 : n + 1 ≤ maxLen) (hbytes : (n + 1) * bytes ≤ 140737488355328) (hbase : base ≤ w.heap.size) :
    ∃ v' w', (Builtin.append_ #[t, t] ty #[v, .slice (some a) 1 c]).run P w = .ok v' w' ∧ w'.ownsRow base e size v' (n + 1) (xs ++ news) ∧ w.grownBy w' v.ownBlock ∧ (∀ q, v'.ownBlock = some q → v.ownBlock = some q ∨ w.heap.size ≤ q) := by
  obtain ⟨v', w', hr, h2, h3, _⟩ := run_append_own (P := P) w base t ty e i z size bytes ht hi hz hsize hby hzs hsz v n xs hown a 1 c news hl hnews h1 h63 hbytes hbase
  refine ⟨v', w', hr, h2, h3, ?_⟩
  have hsmall : n + 1 ≤ 9223372036854775807 := by simp only [maxLen] at h63; omega
  subst hsize
  subst hby
  rcases hown.2 with ⟨rfl, rfl⟩ | ⟨g, cap, cur, rfl, hbg, hg, hnc, hcm, hcs, htake⟩
  · have hr2 := run_append_nil (P := P) w t ty e i z ht hi hz a 1 c news hl hnews (by omega) (by omega) (by have hb := hbytes; simp only [Nat.zero_add] at hb; omega)
    rw [hr] at hr2
    injection hr2 with e1 _
    subst e1
    intro q hq
    injection hq with hq
    exact .inr (Nat.le_of_eq hq)
  · by_cases hroom : n + 1 ≤ cap
    · have hfit : n * i.size + news.length ≤ cur.size := by rw [hl, hcs, ← Nat.add_mul]; exact Nat.mul_le_mul_right _ hroom
      have hr2 := run_append_room (P := P) w t ty e i ht hi g n cap cur hg a 1 c news hl hnews h1 hroom hfit
      rw [hr] at hr2
      injection hr2 with e1 _
      subst e1
      intro q hq
      exact .inl hq
    · have holds : ∀ j u, xs[j]? = some u → w.cell? ((⟨g, 0, none⟩ : Addr).add j) = some u := hown.cells (g := g) rfl
      have hr2 := run_append_grow (P := P) w t ty e i z ht hi hz ⟨g, 0, none⟩ n cap xs hown.1 holds a 1 c news hl hnews (by omega) (by omega) (growslice_fits (by omega) hbytes)
      rw [hr] at hr2
      injection hr2 with e1 _
      subst e1
      intro q hq
      injection hq with hq
      exact .inr (Nat.le_of_eq hq)
theorem wp_append_rowF {P : Program} (W : World) {o : Oper} {a : Act} {K : Act → World → Prop} {Q : Exit → Act → World → Prop} (s x : Operand) (t : TypeId)
    (ho : o.op = .call { callee := .builtin .append, args := #[s, x], argTypes := #[t, t] })
    (B : Nat) (e : TypeId) (z : Value) (size bytes : Nat) (ht : P.underlying t = some (.slice e)) (hinfo : (P.info? e).map (fun i => (i.zero, i.size, i.bytes)) = some (some z, size, bytes))
    (hzs : z.cells.size = size) (hsz : 0 < size) {α : Type} {El : World → List Value → α → Prop} (hEl : ∀ w w' h y, El w h y → Keeps B e w w' → El w' h y) (v : Value) (l : List α) (hown : OwRow e size El B W v l) (hs : a.eval s = v)
    (cs : List Value) (hcs : cs.length = size) (h1c : ∀ u ∈ cs, u.oneCell' = true) (y : α) (hy : El W cs y) (bn : Nat) (hbn : Blk W bn cs.toArray e) (hx : a.eval x = .slice (some ⟨bn, 0, none⟩) 1 1)
    (h63 : l.length + 1 ≤ 9223372036854775807) (hbytes : (l.length + 1) * bytes ≤ 140737488355328) (hB : B ≤ W.heap.size)
    (h : ∀ g cap w', OwRow e size El B w' (.slice (some ⟨g, 0, none⟩) (l.length + 1) cap) (l ++ [y]) → W.grownBy w' v.ownBlock → (v.ownBlock = some g ∨ W.heap.size ≤ g) → K (a.put o.dst (.slice (some ⟨g, 0, none⟩) (l.length + 1) cap)) w') :
    o.wp P a W K Q := by
  obtain ⟨i0, hi, hz0, hz1, hz2⟩ := info_parts hinfo
  obtain ⟨hs0, h1, h2, h3, h4⟩ := hown
  have hnews : ∀ j u, cs[j]? = some u → W.cell? ((⟨bn, 0, none⟩ : Addr).add j) = some u := by
    intro j u hj
    have hlt : j < cs.length := (List.getElem?_eq_some_iff.1 hj).1
    have hadd : (⟨bn, 0, none⟩ : Addr).add j = ⟨bn, j, none⟩ := by unfold Addr.add; split <;> simp_all
    rw [hadd, hbn.cell]
    simpa using hj
  obtain ⟨v', w', hr, hown', hgrow, hfr⟩ := run_append_fresh (P := P) W B t o.type e i0 z size bytes ht hi hz0 hz1 hz2 hzs hsz v l.length hs0.flatten h1 ⟨bn, 0, none⟩ 1 cs (by simp [hcs]) hnews h1c (by unfold maxLen; omega) hbytes hB
  unfold Oper.wp execOp
  simp only [ho, resolve, invoke, builtin, Sem.run_bind, Sem.run_pure, Result.andThen_ok, List.map_toArray, List.map_cons, List.map_nil, hs, hx, hr]
  have hk : Keeps B e W w' := by
    refine ⟨⟨hgrow.os, hgrow.tape, hgrow.output, hgrow.size, fun i hi => by omega⟩, fun i hi ho => hgrow.block i hi ?_⟩
    intro heq
    rcases h1.2 with ⟨rfl, _⟩ | ⟨g, cap, cur, rfl, hb, hg, _⟩
    · simp [Value.ownBlock] at heq
    · simp [Value.ownBlock] at heq
      subst heq
      have hg2 : Blk W i cur e := hg
      rcases ho with ho | ⟨c2, u, h5, h6⟩
      · omega
      · unfold Blk at hg2 h5
        rw [hg2] at h5
        injection h5 with h5
        injection h5 with _ h7
        exact h6 h7.symm
  have hrow : OwRow e size El B w' v' (l ++ [y]) := by
    refine ⟨hs0 ++ [cs], ?_, by simp [h2], ?_, ?_⟩
    · rw [List.flatten_append, List.length_append]; simpa using hown'
    · intro q hq
      rcases List.mem_append.1 hq with hq | hq
      · exact h3 q hq
      · rw [List.mem_singleton.1 hq]; exact hcs
    · intro i x0 hi0
      by_cases hlt : i < l.length
      · rw [List.getElem?_append_left hlt] at hi0
        obtain ⟨q, e1, e2⟩ := h4 i x0 hi0
        exact ⟨q, by rw [List.getElem?_append_left (by omega)]; exact e1, hEl _ _ _ _ e2 hk⟩
      · have hil : i = l.length := by
          have := (List.getElem?_eq_some_iff.1 hi0).1
          simp at this; omega
        subst hil
        rw [List.getElem?_append_right (Nat.le_refl _)] at hi0
        simp at hi0
        subst hi0
        exact ⟨cs, by rw [List.getElem?_append_right (by omega), h2]; simp, hEl _ _ _ _ hy hk⟩
  have h5 := hown'.2
  rcases h5 with ⟨_, h0⟩ | ⟨g, cap, cur, rfl, _⟩
  · omega
  · exact h g cap w' hrow hgrow (hfr g rfl)
end Go.Proofs.YthkfkfbfblppeaaGreat
namespace Go.Proofs.YthkfkfbfblppeaaGreat
set_option linter.unusedSimpArgs false
set_option linter.unusedVariables false
open Go.RowKit
def valueS (g : List (List Int)) (vals : List RR) (x : List Int) : RR × Int :=
  if (weightsS g x).2 = 0 then (if vals.length = gsize g then dotR ((weightsS g x).1.map (·.2)) ((weightsS g x).1.map fun y => vals.getD y.1 zR) else (zR, 16)) else (zR, (weightsS g x).2)
theorem weightsS_0 {g : List (List Int)} {x : List Int} (h : (weightsS g x).2 = 0) : gridE g = 0 ∧ x.length = g.length ∧ weightsS g x = (repL (wtsL g (xsOf g x) g.length), 0) := by
  by_cases h0 : gridE g = 0
  · by_cases hl : x.length = g.length
    · exact ⟨h0, hl, (if_pos h0).trans (if_pos hl)⟩
    · rw [show weightsS g x = ([], 16) from (if_pos h0).trans (if_neg hl)] at h; cases h
  · rw [show weightsS g x = ([], gridE g) from if_neg h0] at h; exact absurd h h0
theorem c4b {W : World} {b : Nat} {c0 c1 c2 c3 : Value} {t : TypeId} (h : Blk W b #[c0, c1, c2, c3] t) : W.cell? ⟨b, 0, none⟩ = some c0 ∧ W.cell? ⟨b, 1, none⟩ = some c1 ∧ W.cell? ⟨b, 2, none⟩ = some c2 ∧ W.cell? ⟨b, 3, none⟩ = some c3 := ⟨h.cell 0, h.cell 1, h.cell 2, h.cell 3⟩
theorem viaWVV {Goal : Prop} {G : World → Value → Value → Nat → Nat → Prop} (F : World → Value → Value → Prop) (h1 : (∀ W x y n m, F W x y → G W x y n m) → Goal) (h2 : ∀ W x y n m, F W x y → G W x y n m) : Goal := h1 h2
theorem OwRs.kept {B : Nat} {w w' : World} {v : Value} {l : List RR} {row : Option Nat} (h : OwRs B w v l) (hg : w.grownBy w' row) (hne : v.ownBlock = none ∨ v.ownBlock ≠ row) (hB : ∀ q, row = some q → ∃ cur, Blk w q cur 62 ∧ B ≤ q) : OwRs B w' v l := by
  obtain ⟨hs, h1, h2, h3, h4⟩ := h
  have hk : Keeps B 62 w w' := ⟨⟨hg.os, hg.tape, hg.output, hg.size, fun i hi => by omega⟩, fun i hi ho => hg.block i hi (fun e => by
    obtain ⟨cur, hb, hq⟩ := hB i e.symm
    rcases ho with ho | ⟨c2, u, h5, h6⟩
    · omega
    · unfold Blk at hb h5
      rw [hb] at h5
      injection h5 with h5
      injection h5 with _ h7
      exact h6 h7.symm)⟩
  exact ⟨hs, World.ownsRow.kept h1 hg hne, h2, h3, fun i y hi => by obtain ⟨q, e1, e2⟩ := h4 i y hi; exact ⟨q, e1, ElR.keeps (by decide) _ _ _ _ e2 hk⟩⟩
theorem OwRs.shape {B : Nat} {w : World} {v : Value} {l : List RR} (h : OwRs B w v l) : ∃ a c, v = .slice a l.length c := by
  obtain ⟨a, c, h, _⟩ := OwRow.rdN h
  exact ⟨a, c, h⟩
theorem OwRs.own_at {B : Nat} {w : World} {v : Value} {l : List RR} (h : OwRs B w v l) {q : Nat} (hq : v.ownBlock = some q) : (∃ cur, Blk w q cur 62) ∧ B ≤ q ∧ q < w.heap.size := by
  obtain ⟨hs, h1, _⟩ := h
  rcases h1.2 with ⟨rfl, _⟩ | ⟨g, cap, cur, rfl, hb, hg, _⟩
  · cases hq
  · injection hq with hq
    dsimp only at hq
    subst hq
    exact ⟨⟨cur, hg⟩, hb, (Array.getElem?_eq_some_iff.1 hg).1⟩
theorem OwRs.gKeeps {B : Nat} {w w' : World} {v : Value} {l : List RR} (h : OwRs B w v l) (hg : w.grownBy w' v.ownBlock) : Keeps B 62 w w' :=
  ⟨⟨hg.os, hg.tape, hg.output, hg.size, fun i hi => by omega⟩, fun i hi ho => hg.block i hi (fun e => by
    obtain ⟨⟨cur, hb⟩, hq, _⟩ := h.own_at e.symm
    rcases ho with ho | ⟨c2, u, h5, h6⟩
    · omega
    · unfold Blk at hb h5
      rw [hb] at h5
      injection h5 with h5
      injection h5 with _ h7
      exact h6 h7.symm)⟩
theorem dj_ne {a b : Option Nat} (h : ∀ q, a = some q → b ≠ some q) : b = none ∨ b ≠ a := by
  cases b with
  | none => exact .inl rfl
  | some q => exact .inr fun e => h q e.symm rfl
theorem dj_symm {a b : Option Nat} (h : ∀ q, a = some q → b ≠ some q) : ∀ q, b = some q → a ≠ some q := fun q hb ha => h q ha hb
theorem dj_step {va vb va2 : Option Nat} {g n : Nat} (hd : ∀ q, va = some q → vb ≠ some q) (hb : ∀ q, vb = some q → q < n) (h2 : va2 = some g) (hf : va = some g ∨ n ≤ g) : ∀ q, va2 = some q → vb ≠ some q := by
  intro q hq hv
  rw [h2] at hq
  injection hq with hq
  subst hq
  rcases hf with hf | hf
  · exact hd g hf hv
  · have := hb g hv; omega
set_option maxRecDepth 100000 in
set_option maxHeartbeats 8000000 in
theorem value7_any (gv vv xv : Value) (g : List (List Int)) (vals : List RR) (x : List Int) (w : World) (h : RdG w gv g) (hv : RdRs w vv vals) (hlv : LimL vals) (hx : RdI .i64 w xv x) (hxb : ∀ i, i < x.length → -9223372036854775808 ≤ x.getD i 0 ∧ x.getD i 0 ≤ 9223372036854775807) :
    Calls Tryz.prog 63 #[gv, vv, xv] w fun e w' => ResR w w' e (valueS g vals x) ∧ Ext w w' := by
  have HWT := Lib.hid (fun W (e : Ext w W) => weights7_any gv xv g x W (h.ext e) (hx.ext e) hxb)
  have HSZ := Lib.hid (fun W (e : Ext w W) => size7_any gv g W (h.ext e))
  have HG := Lib.hid h; have HV := Lib.hid hv; have HLV := Lib.hid hlv
  obtain ⟨a, cap, rfl, hgl⟩ := h.shape
  obtain ⟨av, cv, rfl, hvc, hvm, fv, hvf⟩ := hv.get
  obtain ⟨ax, cx, rfl, hcx, hmx, _⟩ := hx.get
  have hvl : vals.length ≤ 9223372036854775807 := by omega
  have HVF := Lib.hid hvf
  clear h hv hlv hx hxb hvc hvm hcx hmx hvf
  have bb0 := (Blk.new w #[.bool false, .slice none 0 0, .slice none 0 0] 62)
  have x0 : Ext w (w.alloc (.cells #[.bool false, .slice none 0 0, .slice none 0 0] 62)) := ((Ext.refl w).alloc _)
  have A0 := Lib.hid bb0; have X := Lib.hid x0
  clear x0 bb0
  go_enter Tryz.func63, Tryz.ntmps63
  go_wp2_with fail
  obtain ⟨ws, hws⟩ : ∃ r, r = weightsS g x := ⟨_, rfl⟩
  have HWT2 := HWT.out _ X.out
  rw [← hws] at HWT2
  obtain ⟨WL, we⟩ := ws
  (try dsimp only at HWT2)
  refine (HWT2).mono ?_
  rintro e w1 ⟨⟨lv, B0, rfl, hB0, hown⟩, hx⟩
  have A0 := Lib.hid (A0.out.ext hx); have X := Lib.hid (X.out.trans hx)
  dsimp only at hown ⊢
  have OL := Lib.hid hown; clear hown hx
  by_cases h0 : we = 0
  rotate_left
  · have E := Lib.hid (show valueS g vals x = (zR, we) by unfold valueS; rw [← hws]; exact if_neg h0)
    have q1 : (we != 0) = true := by simpa using h0
    obtain ⟨la, lc, rfl⟩ := OL.out.shape
    clear hws h0
    have qA0 := A0.out.cell; have fA0 := A0.out.free; have lA0 := A0.out.lt
    go_wp2_with fail
    clear qA0 fA0 lA0
    have hb6 := A0.out.all3 (.bool false) (.slice none 0 0) (.slice none 0 0)
    have hx6 : Ext w (((w1.setCell ⟨w.heap.size, 0, none⟩ (.bool false)).setCell ⟨w.heap.size, 1, none⟩ (.slice none 0 0)).setCell ⟨w.heap.size, 2, none⟩ (.slice none 0 0)) := (((X.out.set (p := ⟨w.heap.size, 0, none⟩) (Nat.le_refl _) _).set (p := ⟨w.heap.size, 1, none⟩) (Nat.le_refl _) _).set (p := ⟨w.heap.size, 2, none⟩) (Nat.le_refl _) _)
    obtain ⟨W6, hW6⟩ : ∃ W, W = (((w1.setCell ⟨w.heap.size, 0, none⟩ (.bool false)).setCell ⟨w.heap.size, 1, none⟩ (.slice none 0 0)).setCell ⟨w.heap.size, 2, none⟩ (.slice none 0 0)) := ⟨_, rfl⟩
    rw [← hW6] at hb6 hx6 ⊢
    clear hW6
    have HX6 := Lib.hid hx6; clear hx6
    refine bodyPost_ret (v := .tuple #[.agg #[.bool false, .slice none 0 0, .slice none 0 0], .int .i64 we]) (by have k1 := hb6.cell; have k2 := hb6.free; have k3 := hb6.lt; clear hb6; simp only [results, Tryz.results63]; go_simp) rfl ⟨ResR.mk (l := zR) (NewR.zero _ _) E.out, HX6.out⟩
  subst h0
  have hw0 : (weightsS g x).2 = 0 := by rw [← hws]
  obtain ⟨g0, gl, gw⟩ := weightsS_0 hw0
  have ok := gridE_ok g0
  have hin := in_of ok x
  have hWL : WL = repL (wtsL g (xsOf g x) g.length) := by have := hws.trans gw; injection this
  have hVS : valueS g vals x = if vals.length = gsize g then dotR (WL.map (·.2)) (WL.map fun y => vals.getD y.1 zR) else (zR, 16) := by unfold valueS; rw [if_pos hw0, ← hws]
  have hlen : WL.length ≤ 16 := by
    rw [hWL]; unfold repL; rw [List.length_map]
    exact Nat.le_trans (wtsL_len hin _ (Nat.le_refl _)) (Nat.le_trans (Nat.pow_le_pow_right (by decide) ok.le) (by decide))
  have hmem : ∀ (i : Nat) (y : Nat × RR), WL[i]? = some y → y.1 < gsize g ∧ ∃ q : Rat, y.2 = rep q := by
    intro i y hy
    rw [hWL] at hy
    unfold repL at hy
    rw [List.getElem?_map] at hy
    obtain ⟨z, hz, rfl⟩ := Option.map_eq_some_iff.1 hy
    have := (wtsL_mem (Nat.le_refl _) (mem_of_at hz)).1
    rw [List.take_length] at this
    exact ⟨this, z.2, rfl⟩
  have HLEN := Lib.hid hlen; have HMEM := Lib.hid hmem; have HVS := Lib.hid hVS; have HS := Lib.hid (fun W (e : Ext w W) => HSZ.out W e ok.shrt)
  have hgs := ok.size
  obtain ⟨la, lc, rfl⟩ := OL.out.shape
  clear hlen hmem hVS hWL hws hw0 g0 gl gw ok hin HWT
  have qA0 := A0.out.cell; have fA0 := A0.out.free; have lA0 := A0.out.lt
  go_wp2_with fail
  clear qA0 fA0 lA0
  refine (HS.out _ X.out).mono ?_
  rintro e w2 ⟨rfl, hx⟩
  have A0 := Lib.hid (A0.out.ext hx); have X := Lib.hid (X.out.trans hx)
  have OL := Lib.hid (OL.out.ext' hx); clear hx
  by_cases hl : vals.length = gsize g
  rotate_left
  · have E := Lib.hid (HVS.out.trans (if_neg hl))
    have q1 : ((vals.length : Int) != (gsize g : Int)) = true := bne_iff_ne.2 (by omega)
    clear hl
    have qA0 := A0.out.cell; have fA0 := A0.out.free; have lA0 := A0.out.lt
    go_wp2_with fail
    clear qA0 fA0 lA0
    have hb6 := A0.out.all3 (.bool false) (.slice none 0 0) (.slice none 0 0)
    have hx6 : Ext w (((w2.setCell ⟨w.heap.size, 0, none⟩ (.bool false)).setCell ⟨w.heap.size, 1, none⟩ (.slice none 0 0)).setCell ⟨w.heap.size, 2, none⟩ (.slice none 0 0)) := (((X.out.set (p := ⟨w.heap.size, 0, none⟩) (Nat.le_refl _) _).set (p := ⟨w.heap.size, 1, none⟩) (Nat.le_refl _) _).set (p := ⟨w.heap.size, 2, none⟩) (Nat.le_refl _) _)
    obtain ⟨W6, hW6⟩ : ∃ W, W = (((w2.setCell ⟨w.heap.size, 0, none⟩ (.bool false)).setCell ⟨w.heap.size, 1, none⟩ (.slice none 0 0)).setCell ⟨w.heap.size, 2, none⟩ (.slice none 0 0)) := ⟨_, rfl⟩
    rw [← hW6] at hb6 hx6 ⊢
    clear hW6
    have HX6 := Lib.hid hx6; clear hx6
    refine bodyPost_ret (v := .tuple #[.agg #[.bool false, .slice none 0 0, .slice none 0 0], .int .i64 16]) (by have k1 := hb6.cell; have k2 := hb6.free; have k3 := hb6.lt; clear hb6; simp only [results, Tryz.results63]; go_simp) rfl ⟨ResR.mk (l := zR) (NewR.zero _ _) E.out, HX6.out⟩
  have E := Lib.hid (HVS.out.trans (if_pos hl))
  have q1 : ((vals.length : Int) != (gsize g : Int)) = false := by rw [hl]; simp
  have HL := Lib.hid hl
  clear hl
  have qA0 := A0.out.cell; have fA0 := A0.out.free; have lA0 := A0.out.lt
  go_wp2_with fail
  clear qA0 fA0 lA0
  obtain ⟨wl, hwl⟩ : ∃ W, W = w2 := ⟨_, rfl⟩
  subst hwl
  go_loopw [10, 11, 34] (fun va vb i wr => ∃ k : Nat, k ≤ WL.length ∧ i = .int .i64 k ∧ OwRs wl.heap.size wr va ((WL.map (·.2)).take k) ∧ OwRs wl.heap.size wr vb ((WL.map fun y => vals.getD y.1 zR).take k) ∧ (∀ q, va.ownBlock = some q → vb.ownBlock ≠ some q) ∧ Ext wl wr) (fun _ _ i _ => WL.length - (intOf i).toNat)
  case atStart => exact ⟨0, Nat.zero_le _, rfl, OwRow.nil _ _ _ _ _, OwRow.nil _ _ _ _ _, (fun q h => by cases h), Ext.refl _⟩
  case round =>
    obtain ⟨wq, hwq⟩ : ∃ W, W = wr := ⟨_, rfl⟩
    subst hwq
    obtain ⟨k, hk, rfl, hoa, hob, hdj, hx⟩ := hrel
    obtain ⟨aa, ac, rfl⟩ := OwRs.shape hoa
    obtain ⟨ba, bc, rfl⟩ := OwRs.shape hob
    have XK := Lib.hid hx; have OA := Lib.hid hoa; have OB := Lib.hid hob; have DJ := Lib.hid hdj
    have hlen := HLEN.out
    clear hx hoa hob hdj
    by_cases hlt : k < WL.length
    · obtain ⟨y, hy⟩ : ∃ y, WL[k]? = some y := ⟨_, List.getElem?_eq_getElem hlt⟩
      obtain ⟨bv, a1, c1, a2, c2, rfl, v0, v1, v2, v3, v4, v5⟩ := OL.out.at hy
      obtain ⟨m1, mq, m2⟩ := HMEM.out k y hy
      have hvl2 : y.1 < vals.length := by rw [HL.out]; exact m1
      obtain ⟨bw, ow, rfl, u0, u1, u2, u3, u4⟩ := HVF.out y.1 hvl2
      have htA : (WL.map (·.2)).take (k + 1) = (WL.map (·.2)).take k ++ [y.2] := take_snocE (by rw [List.getElem?_map, hy]; rfl)
      have htB : (WL.map fun y => vals.getD y.1 zR).take (k + 1) = (WL.map fun y => vals.getD y.1 zR).take k ++ [vals.getD y.1 zR] := take_snocE (by rw [List.getElem?_map, hy]; rfl)
      have hlA : ((WL.map (·.2)).take k).length = k := by rw [List.length_take, List.length_map]; omega
      have hlB : ((WL.map fun y => vals.getD y.1 zR).take k).length = k := by rw [List.length_take, List.length_map]; omega
      obtain ⟨yi, ry⟩ := y
      dsimp only at v1 v2 v3 v4 v5 m1 hvl2 u1 u2 u3 u4 htA htB
      obtain ⟨rz, hrz⟩ : ∃ r, r = vals.getD yi zR := ⟨_, rfl⟩
      rw [← hrz] at u1 u2 u3 u4 htB
      obtain ⟨fk, hfk⟩ : ∃ f, f = fv yi := ⟨_, rfl⟩
      rw [← hfk] at u2 u3 u4
      obtain ⟨⟨z1, z2⟩, ⟨z3, z4⟩⟩ := fk
      dsimp only at u2 u3 u4
      have eA := ElR.old v5 (Nat.le_refl _)
      have eB := ElR.old (u4.ext X.out) (Nat.le_refl _)
      have VC : Hid (RdAt wl bw (ow + yi * 3) rz z1 z2 z3 z4) := Lib.hid ⟨Nat.lt_of_lt_of_le u0 X.out.size, (X.out.cell (p := ⟨bw, ow + yi * 3, none⟩) u0).trans u1, (X.out.cell (p := ⟨bw, ow + yi * 3 + 1, none⟩) u0).trans u2, (X.out.cell (p := ⟨bw, ow + yi * 3 + 2, none⟩) u0).trans u3⟩
      have EA := Lib.hid eA; have EB := Lib.hid eB; have TA := Lib.hid htA; have TB := Lib.hid htB; have LA := Lib.hid hlA; have LB := Lib.hid hlB
      have w0 := Nat.lt_of_lt_of_le v0 XK.out.size
      have w1 := (XK.out.cell (p := ⟨bv, k * 4, none⟩) v0).trans v1; have w2 := (XK.out.cell (p := ⟨bv, k * 4 + 1, none⟩) v0).trans v2; have w3 := (XK.out.cell (p := ⟨bv, k * 4 + 2, none⟩) v0).trans v3; have w4 := (XK.out.cell (p := ⟨bv, k * 4 + 3, none⟩) v0).trans v4
      have q2 : (0 : Int) ≤ (k : Int) := by omega
      have q3 : (k : Int) < (WL.length : Int) := by omega
      have q4 : (0 : Int) ≤ (yi : Int) := by omega
      have q5 : (yi : Int) < (vals.length : Int) := by omega
      rw [LA.out, LB.out]
      clear v0 v1 v2 v3 v4 v5 u0 u1 u2 u3 u4 eA eB htA htB hlA hlB hrz hfk m1 m2 hvl2 hy
      go_wp2_with fail
      obtain ⟨wb, hwb⟩ : ∃ W, W = wq.alloc (.cells #[.int .i64 (yi : Nat), .bool ry.neg, .slice a1 ry.num.length c1, .slice a2 ry.den.length c2] 107) := ⟨_, rfl⟩
      have xb : Ext wq wb := by rw [hwb]; exact (Ext.refl _).alloc _
      have by0 : Blk wb wq.heap.size #[.int .i64 (yi : Nat), .bool ry.neg, .slice a1 ry.num.length c1, .slice a2 ry.den.length c2] 107 := by rw [hwb]; exact Blk.new _ _ _
      rw [← hwb]
      obtain ⟨ny, hny⟩ : ∃ n, n = wq.heap.size := ⟨_, rfl⟩
      rw [← hny] at by0 ⊢
      have BY := Lib.hid by0; have XW := Lib.hid (XK.out.trans xb); have OA := Lib.hid (OwRs.ext' OA.out xb); have OB := Lib.hid (OwRs.ext' OB.out xb)
      have EA := Lib.hid (EA.out.ext XW.out); have EB := Lib.hid (EB.out.ext XW.out)
      have KW : Hid (Keeps wl.heap.size 62 wb wb) := Lib.hid (Keeps.ext (Ext.refl _))
      have gAl : aa.isNone = true ∨ aa.isNone = false := by cases aa <;> simp
      clear xb by0 hwb hny w0 w1 w2 w3 w4 gAl
      refine wp_region_held_drew (S := (fun W => (W.cell? ⟨ny, 0, none⟩ = some (.int .i64 (yi : Nat)) ∧ W.cell? ⟨ny, 1, none⟩ = some (.bool ry.neg) ∧ W.cell? ⟨ny, 2, none⟩ = some (.slice a1 ry.num.length c1) ∧ W.cell? ⟨ny, 3, none⟩ = some (.slice a2 ry.den.length c2)) ∧ (W.cell? ⟨bw, ow + yi * 3, none⟩ = some (.bool rz.neg) ∧ W.cell? ⟨bw, ow + yi * 3 + 1, none⟩ = some (.slice z1 rz.num.length z2) ∧ W.cell? ⟨bw, ow + yi * 3 + 2, none⟩ = some (.slice z3 rz.den.length z4)))) (by kernel_rfl) ?_ (fun hHeld => ?_)
      · exact ⟨c4b BY.out.drew, VC.out.c3 XW.out.drew⟩
      refine wpAnyH_take (i := 0) (v := ?_) rfl (by kernel_rfl) (by kernel_rfl) (by kernel_rfl) (fun _ _ _ h => h) (Or.inl ⟨by rfl, ?_⟩) (by assumption) ?_
      rotate_left
      · (intro w hSw; (try dsimp only at hSw); go_simp; first | done | with_reducible rfl)
      (try simp only [Act.put, List.getElem_toArray, List.getElem_cons_zero, List.getElem_cons_succ, List.setIfInBounds_toArray, List.set_cons_zero, List.set_cons_succ])
      refine wpAnyH_take (i := 1) (v := ?_) rfl (by kernel_rfl) (by kernel_rfl) (by kernel_rfl) (fun _ _ _ h => h) (Or.inl ⟨by rfl, ?_⟩) (by assumption) ?_
      rotate_left
      · (intro w hSw; (try dsimp only at hSw); go_simp; first | done | with_reducible rfl)
      (try simp only [Act.put, List.getElem_toArray, List.getElem_cons_zero, List.getElem_cons_succ, List.setIfInBounds_toArray, List.set_cons_zero, List.set_cons_succ])
      refine wpAnyH_take (i := 2) (v := ?_) rfl (by kernel_rfl) (by kernel_rfl) (by kernel_rfl) (fun _ _ _ h => h) (Or.inl ⟨by rfl, ?_⟩) (by assumption) ?_
      rotate_left
      · (intro w hSw; (try dsimp only at hSw); go_simp; first | done | with_reducible rfl)
      (try simp only [Act.put, List.getElem_toArray, List.getElem_cons_zero, List.getElem_cons_succ, List.setIfInBounds_toArray, List.set_cons_zero, List.set_cons_succ])
      refine wpAnyH_take (i := 5) (v := ?_) rfl (by kernel_rfl) (by kernel_rfl) (by kernel_rfl) (fun _ _ _ h => h) (Or.inl ⟨by rfl, ?_⟩) (by assumption) ?_
      rotate_left
      · (intro w hSw; (try dsimp only at hSw); go_simp; first | done | with_reducible rfl)
      (try simp only [Act.put, List.getElem_toArray, List.getElem_cons_zero, List.getElem_cons_succ, List.setIfInBounds_toArray, List.set_cons_zero, List.set_cons_succ])
      refine wpAnyH_take (i := 6) (v := ?_) rfl (by kernel_rfl) (by kernel_rfl) (by kernel_rfl) (fun _ _ _ h => h) (Or.inl ⟨by rfl, ?_⟩) (by assumption) ?_
      rotate_left
      · (intro w hSw; (try dsimp only at hSw); go_simp; first | done | with_reducible rfl)
      (try simp only [Act.put, List.getElem_toArray, List.getElem_cons_zero, List.getElem_cons_succ, List.setIfInBounds_toArray, List.set_cons_zero, List.set_cons_succ])
      refine wpAnyH_take (i := 7) (v := ?_) rfl (by kernel_rfl) (by kernel_rfl) (by kernel_rfl) (fun _ _ _ h => h) (Or.inl ⟨by rfl, ?_⟩) (by assumption) ?_
      rotate_left
      · (intro w hSw; (try dsimp only at hSw); go_simp; first | done | with_reducible rfl)
      (try simp only [Act.put, List.getElem_toArray, List.getElem_cons_zero, List.getElem_cons_succ, List.setIfInBounds_toArray, List.set_cons_zero, List.set_cons_succ])
      refine wpAnyH_take (i := 8) (v := ?_) rfl (by kernel_rfl) (by kernel_rfl) (by kernel_rfl) (fun _ _ _ h => h) (Or.inl ⟨by rfl, ?_⟩) (by assumption) ?_
      rotate_left
      · (intro w hSw; (try dsimp only at hSw); go_simp; first | done | with_reducible rfl)
      (try simp only [Act.put, List.getElem_toArray, List.getElem_cons_zero, List.getElem_cons_succ, List.setIfInBounds_toArray, List.set_cons_zero, List.set_cons_succ])
      refine wpAnyH_take (i := 9) (v := ?_) rfl (by kernel_rfl) (by kernel_rfl) (by kernel_rfl) (fun _ _ _ h => h) (Or.inl ⟨by rfl, ?_⟩) (by assumption) ?_
      rotate_left
      · (intro w hSw; (try dsimp only at hSw); go_simp; first | done | with_reducible rfl)
      (try simp only [Act.put, List.getElem_toArray, List.getElem_cons_zero, List.getElem_cons_succ, List.setIfInBounds_toArray, List.set_cons_zero, List.set_cons_succ])
      refine wpAnyH_take (i := 10) (v := ?_) rfl (by kernel_rfl) (by kernel_rfl) (by kernel_rfl) (fun _ _ _ h => h) (Or.inl ⟨by rfl, ?_⟩) (by assumption) ?_
      rotate_left
      · (intro w hSw; (try dsimp only at hSw); go_simp; first | done | with_reducible rfl)
      (try simp only [Act.put, List.getElem_toArray, List.getElem_cons_zero, List.getElem_cons_succ, List.setIfInBounds_toArray, List.set_cons_zero, List.set_cons_succ])
      obtain ⟨va, hva⟩ : ∃ v, v = Value.slice aa k ac := ⟨_, rfl⟩
      obtain ⟨vb, hvb⟩ : ∃ v, v = Value.slice ba k bc := ⟨_, rfl⟩
      rw [LA.out] at OA DJ; rw [LB.out] at OB DJ
      rw [← hva] at OA DJ ⊢
      rw [← hvb] at OB DJ ⊢
      clear hva hvb
      have ALT := Lib.hid (fun n (h : va.ownBlock = some n) => (OwRs.own_at OA.out h).2.2); have BLT := Lib.hid (fun n (h : vb.ownBlock = some n) => (OwRs.own_at OB.out h).2.2)
      have XB : Hid (wb.heap.size ≤ wb.heap.size) := Lib.hid (Nat.le_refl _)
      apply viaWVV (F := fun W x y => OwRs wl.heap.size W x (((WL.map (·.2)).take k) ++ [ry]) ∧ OwRs wl.heap.size W y (((WL.map fun y => vals.getD y.1 zR).take k) ++ [rz]) ∧ (∀ q, x.ownBlock = some q → y.ownBlock ≠ some q) ∧ Ext wl W ∧ (fun W => (W.cell? ⟨ny, 0, none⟩ = some (.int .i64 (yi : Nat)) ∧ W.cell? ⟨ny, 1, none⟩ = some (.bool ry.neg) ∧ W.cell? ⟨ny, 2, none⟩ = some (.slice a1 ry.num.length c1) ∧ W.cell? ⟨ny, 3, none⟩ = some (.slice a2 ry.den.length c2)) ∧ (W.cell? ⟨bw, ow + yi * 3, none⟩ = some (.bool rz.neg) ∧ W.cell? ⟨bw, ow + yi * 3 + 1, none⟩ = some (.slice z1 rz.num.length z2) ∧ W.cell? ⟨bw, ow + yi * 3 + 2, none⟩ = some (.slice z3 rz.den.length z4))) W)
      · intro HV
        refine wpAnyH_ready (rs := [3, 11]) (by kernel_rfl) (by simp) ?_
        refine AllReadyH.cons rfl (fun K hK => ?_) (AllReadyH.cons rfl (fun K hK => ?_) AllReadyH.nil)
        · go_simp
          have hx : Ext wb ((wb.alloc (.cells #[.bool ry.neg, .slice a1 ry.num.length c1, .slice a2 ry.den.length c2] 62)).drew) := ((Ext.refl _).alloc _).drew
          have bz : Blk ((wb.alloc (.cells #[.bool ry.neg, .slice a1 ry.num.length c1, .slice a2 ry.den.length c2] 62)).drew) wb.heap.size [.bool ry.neg, .slice a1 ry.num.length c1, .slice a2 ry.den.length c2].toArray 62 := (Blk.new wb #[.bool ry.neg, .slice a1 ry.num.length c1, .slice a2 ry.den.length c2] 62).drew
          obtain ⟨e3, hwe3⟩ : ∃ W, W = (wb.alloc (.cells #[.bool ry.neg, .slice a1 ry.num.length c1, .slice a2 ry.den.length c2] 62)).drew := ⟨_, rfl⟩
          rw [← hwe3] at hx bz ⊢
          obtain ⟨N1n, hN1n⟩ : ∃ n, n = wb.heap.size := ⟨_, rfl⟩
          rw [← hN1n] at bz ⊢
          have hnb : wb.heap.size ≤ N1n := by rw [hN1n]; exact XB.out
          have OA := Lib.hid (OwRs.ext' OA.out hx); have OB := Lib.hid (OwRs.ext' OB.out hx); have EA := Lib.hid (EA.out.ext hx); have EB := Lib.hid (EB.out.ext hx); have KW := Lib.hid (KW.out.trans (Keeps.ext hx)); have XW := Lib.hid (Ext.to XW.out hx XW.out.size)
          have LN1 := Lib.hid hnb; have XB : Hid (wb.heap.size ≤ e3.heap.size) := Lib.hid (Nat.le_trans hnb (Nat.le_of_lt bz.lt))
          have N1 := Lib.hid bz; clear hx bz hwe3 hN1n hnb
          first | refine hK.out _ _ ?_ (fun hHeld => ?_) | (go_wp2_with fail; refine hK.out _ _ ?_ (fun hHeld => ?_))
          · exact ⟨c4b (BY.out.keeps KW.out (by decide)), VC.out.c3 XW.out⟩
          clear hK K
          (try simp only [Act.put, List.getElem_toArray, List.getElem_cons_zero, List.getElem_cons_succ, List.setIfInBounds_toArray, List.set_cons_zero, List.set_cons_succ])
          refine wpAnyH_ready (rs := [4, 11]) (by kernel_rfl) (by simp) ?_
          refine AllReadyH.cons rfl (fun K hK => ?_) (AllReadyH.cons rfl (fun K hK => ?_) AllReadyH.nil)
          · rw [if_pos (wanted_none rfl)]
            refine wp_append_rowF e3 _ _ _ rfl wl.heap.size 62 (.agg #[.bool false, .slice none 0 0, .slice none 0 0]) 3 56 Tryz.underlying48 Tryz.infoR rfl (by decide) (ElR.keeps (by decide)) _ _ OA.out rfl [.bool ry.neg, .slice a1 ry.num.length c1, .slice a2 ry.den.length c2] rfl (by simp [Value.oneCell']) ry EA.out N1n N1.out rfl (by rw [LA.out]; omega) (by rw [LA.out]; omega) XW.out.size ?_
            intro g4 cap4 e4 hrow hgr hfr
            have hk := OwRs.gKeeps OA.out hgr
            have hown : (Value.slice (some ⟨g4, 0, none⟩) (((WL.map (·.2)).take k).length + 1) cap4).ownBlock = some g4 := rfl
            obtain ⟨ua, hu⟩ : ∃ u, u = Value.slice (some ⟨g4, 0, none⟩) (((WL.map (·.2)).take k).length + 1) cap4 := ⟨_, rfl⟩
            rw [← hu] at hrow hown ⊢
            clear hu
            have hd := dj_step DJ.out BLT.out hown (hfr.imp id (Nat.le_trans XB.out))
            have OB := Lib.hid (OwRs.kept OB.out hgr (dj_ne DJ.out) (fun n hn => by obtain ⟨h1, h2, _⟩ := OwRs.own_at OA.out hn; exact ⟨h1.choose, h1.choose_spec, h2⟩))
            have EB := Lib.hid (ElR.keeps (by decide) _ _ _ _ EB.out hk)
            have DJ := Lib.hid hd; have OA := Lib.hid hrow; have ALT : Hid (∀ n, ua.ownBlock = some n → n < e4.heap.size) := Lib.hid (fun n (h : ua.ownBlock = some n) => (OwRs.own_at hrow h).2.2)
            have KW := Lib.hid (KW.out.trans hk); have XW := Lib.hid (Below.trans XW.out (hk.below XW.out.size)); have XB : Hid (wb.heap.size ≤ e4.heap.size) := Lib.hid (Nat.le_trans XB.out hgr.size)
            have EA9 := EA
            clear hrow hgr hfr hk hown hd EA9
            first | refine hK.out _ _ ?_ (fun hHeld => ?_) | (go_wp2_with fail; refine hK.out _ _ ?_ (fun hHeld => ?_))
            · exact ⟨c4b (BY.out.keeps KW.out (by decide)), VC.out.c3 XW.out⟩
            clear hK K
            (try simp only [Act.put, List.getElem_toArray, List.getElem_cons_zero, List.getElem_cons_succ, List.setIfInBounds_toArray, List.set_cons_zero, List.set_cons_succ])
            refine wpAnyH_ready (rs := [11]) (by kernel_rfl) (by simp) ?_
            refine AllReadyH.cons rfl (fun K hK => ?_) ?_
            rotate_left
            · exact AllReadyH.nil
            go_simp
            have hx : Ext e4 ((e4.alloc (.cells #[.bool rz.neg, .slice z1 rz.num.length z2, .slice z3 rz.den.length z4] 62))) := (Ext.refl _).alloc _
            have bz : Blk ((e4.alloc (.cells #[.bool rz.neg, .slice z1 rz.num.length z2, .slice z3 rz.den.length z4] 62))) e4.heap.size [.bool rz.neg, .slice z1 rz.num.length z2, .slice z3 rz.den.length z4].toArray 62 := Blk.new e4 #[.bool rz.neg, .slice z1 rz.num.length z2, .slice z3 rz.den.length z4] 62
            obtain ⟨e5, hwe5⟩ : ∃ W, W = (e4.alloc (.cells #[.bool rz.neg, .slice z1 rz.num.length z2, .slice z3 rz.den.length z4] 62)) := ⟨_, rfl⟩
            rw [← hwe5] at hx bz ⊢
            obtain ⟨N2n, hN2n⟩ : ∃ n, n = e4.heap.size := ⟨_, rfl⟩
            rw [← hN2n] at bz ⊢
            have hnb : wb.heap.size ≤ N2n := by rw [hN2n]; exact XB.out
            have OA := Lib.hid (OwRs.ext' OA.out hx); have OB := Lib.hid (OwRs.ext' OB.out hx); have EB := Lib.hid (EB.out.ext hx); have KW := Lib.hid (KW.out.trans (Keeps.ext hx)); have XW := Lib.hid (Ext.to XW.out hx XW.out.size)
            have ALT : Hid (∀ n, ua.ownBlock = some n → n < e5.heap.size) := Lib.hid (fun n h => Nat.lt_of_lt_of_le (ALT.out n h) hx.size)
            have LN2 := Lib.hid hnb; have XB : Hid (wb.heap.size ≤ e5.heap.size) := Lib.hid (Nat.le_trans hnb (Nat.le_of_lt bz.lt))
            have N2 := Lib.hid bz; clear hx bz hwe5 hN2n hnb
            first | refine hK.out _ _ ?_ (fun hHeld => ?_) | (go_wp2_with fail; refine hK.out _ _ ?_ (fun hHeld => ?_))
            · exact ⟨c4b (BY.out.keeps KW.out (by decide)), VC.out.c3 XW.out⟩
            clear hK K
            (try simp only [Act.put, List.getElem_toArray, List.getElem_cons_zero, List.getElem_cons_succ, List.setIfInBounds_toArray, List.set_cons_zero, List.set_cons_succ])
            refine wpAnyH_ready (rs := [12]) (by kernel_rfl) (by simp) ?_
            refine AllReadyH.cons rfl (fun K hK => ?_) ?_
            rotate_left
            · exact AllReadyH.nil
            rw [if_pos (wanted_none rfl)]
            refine wp_append_rowF e5 _ _ _ rfl wl.heap.size 62 (.agg #[.bool false, .slice none 0 0, .slice none 0 0]) 3 56 Tryz.underlying48 Tryz.infoR rfl (by decide) (ElR.keeps (by decide)) _ _ OB.out rfl [.bool rz.neg, .slice z1 rz.num.length z2, .slice z3 rz.den.length z4] rfl (by simp [Value.oneCell']) rz EB.out N2n N2.out rfl (by rw [LB.out]; omega) (by rw [LB.out]; omega) XW.out.size ?_
            intro g6 cap6 e6 hrow hgr hfr
            have hk := OwRs.gKeeps OB.out hgr
            have hown : (Value.slice (some ⟨g6, 0, none⟩) (((WL.map fun y => vals.getD y.1 zR).take k).length + 1) cap6).ownBlock = some g6 := rfl
            obtain ⟨ub, hu⟩ : ∃ u, u = Value.slice (some ⟨g6, 0, none⟩) (((WL.map fun y => vals.getD y.1 zR).take k).length + 1) cap6 := ⟨_, rfl⟩
            rw [← hu] at hrow hown ⊢
            clear hu
            have hd := dj_symm (dj_step (dj_symm DJ.out) ALT.out hown hfr)
            have OA := Lib.hid (OwRs.kept OA.out hgr (dj_ne (dj_symm DJ.out)) (fun n hn => by obtain ⟨h1, h2, _⟩ := OwRs.own_at OB.out hn; exact ⟨h1.choose, h1.choose_spec, h2⟩))
            have DJ := Lib.hid hd; have OB := Lib.hid hrow
            have KW := Lib.hid (KW.out.trans hk); have XW := Lib.hid (Below.trans XW.out (hk.below XW.out.size)); have XB : Hid (wb.heap.size ≤ e6.heap.size) := Lib.hid (Nat.le_trans XB.out hgr.size)
            clear hrow hgr hfr hk hown hd
            first | refine hK.out _ _ ?_ (fun hHeld => ?_) | (go_wp2_with fail; refine hK.out _ _ ?_ (fun hHeld => ?_))
            · exact ⟨c4b (BY.out.keeps KW.out (by decide)), VC.out.c3 XW.out⟩
            clear hK K
            (try simp only [Act.put, List.getElem_toArray, List.getElem_cons_zero, List.getElem_cons_succ, List.setIfInBounds_toArray, List.set_cons_zero, List.set_cons_succ])
            exact HV e6 ua ub N1n N2n ⟨OA.out, OB.out, DJ.out, XW.out, ⟨c4b (BY.out.keeps KW.out (by decide)), VC.out.c3 XW.out⟩⟩
          · go_simp
            have hx : Ext e3 ((e3.alloc (.cells #[.bool rz.neg, .slice z1 rz.num.length z2, .slice z3 rz.den.length z4] 62))) := (Ext.refl _).alloc _
            have bz : Blk ((e3.alloc (.cells #[.bool rz.neg, .slice z1 rz.num.length z2, .slice z3 rz.den.length z4] 62))) e3.heap.size [.bool rz.neg, .slice z1 rz.num.length z2, .slice z3 rz.den.length z4].toArray 62 := Blk.new e3 #[.bool rz.neg, .slice z1 rz.num.length z2, .slice z3 rz.den.length z4] 62
            obtain ⟨e4, hwe4⟩ : ∃ W, W = (e3.alloc (.cells #[.bool rz.neg, .slice z1 rz.num.length z2, .slice z3 rz.den.length z4] 62)) := ⟨_, rfl⟩
            rw [← hwe4] at hx bz ⊢
            obtain ⟨N2n, hN2n⟩ : ∃ n, n = e3.heap.size := ⟨_, rfl⟩
            rw [← hN2n] at bz ⊢
            have hnb : wb.heap.size ≤ N2n := by rw [hN2n]; exact XB.out
            have OA := Lib.hid (OwRs.ext' OA.out hx); have OB := Lib.hid (OwRs.ext' OB.out hx); have EA := Lib.hid (EA.out.ext hx); have EB := Lib.hid (EB.out.ext hx); have KW := Lib.hid (KW.out.trans (Keeps.ext hx)); have XW := Lib.hid (Ext.to XW.out hx XW.out.size)
            have N1 := Lib.hid (N1.out.ext hx)
            have LN2 := Lib.hid hnb; have XB : Hid (wb.heap.size ≤ e4.heap.size) := Lib.hid (Nat.le_trans hnb (Nat.le_of_lt bz.lt))
            have N2 := Lib.hid bz; clear hx bz hwe4 hN2n hnb
            first | refine hK.out _ _ ?_ (fun hHeld => ?_) | (go_wp2_with fail; refine hK.out _ _ ?_ (fun hHeld => ?_))
            · exact ⟨c4b (BY.out.keeps KW.out (by decide)), VC.out.c3 XW.out⟩
            clear hK K
            (try simp only [Act.put, List.getElem_toArray, List.getElem_cons_zero, List.getElem_cons_succ, List.setIfInBounds_toArray, List.set_cons_zero, List.set_cons_succ])
            refine wpAnyH_ready (rs := [4]) (by kernel_rfl) (by simp) ?_
            refine AllReadyH.cons rfl (fun K hK => ?_) ?_
            rotate_left
            · exact AllReadyH.nil
            rw [if_pos (wanted_none rfl)]
            refine wp_append_rowF e4 _ _ _ rfl wl.heap.size 62 (.agg #[.bool false, .slice none 0 0, .slice none 0 0]) 3 56 Tryz.underlying48 Tryz.infoR rfl (by decide) (ElR.keeps (by decide)) _ _ OA.out rfl [.bool ry.neg, .slice a1 ry.num.length c1, .slice a2 ry.den.length c2] rfl (by simp [Value.oneCell']) ry EA.out N1n N1.out rfl (by rw [LA.out]; omega) (by rw [LA.out]; omega) XW.out.size ?_
            intro g5 cap5 e5 hrow hgr hfr
            have hk := OwRs.gKeeps OA.out hgr
            have hown : (Value.slice (some ⟨g5, 0, none⟩) (((WL.map (·.2)).take k).length + 1) cap5).ownBlock = some g5 := rfl
            obtain ⟨ua, hu⟩ : ∃ u, u = Value.slice (some ⟨g5, 0, none⟩) (((WL.map (·.2)).take k).length + 1) cap5 := ⟨_, rfl⟩
            rw [← hu] at hrow hown ⊢
            clear hu
            have hd := dj_step DJ.out BLT.out hown (hfr.imp id (Nat.le_trans XB.out))
            have OB := Lib.hid (OwRs.kept OB.out hgr (dj_ne DJ.out) (fun n hn => by obtain ⟨h1, h2, _⟩ := OwRs.own_at OA.out hn; exact ⟨h1.choose, h1.choose_spec, h2⟩))
            have EB := Lib.hid (ElR.keeps (by decide) _ _ _ _ EB.out hk)
            have N2 : Hid (Blk e5 N2n [.bool rz.neg, .slice z1 rz.num.length z2, .slice z3 rz.den.length z4].toArray 62) := Lib.hid ((hgr.block _ N2.out.lt (fun e => by have := ALT.out _ e.symm; have := LN2.out; omega)).trans N2.out)
            have DJ := Lib.hid hd; have OA := Lib.hid hrow; have ALT : Hid (∀ n, ua.ownBlock = some n → n < e5.heap.size) := Lib.hid (fun n (h : ua.ownBlock = some n) => (OwRs.own_at hrow h).2.2)
            have KW := Lib.hid (KW.out.trans hk); have XW := Lib.hid (Below.trans XW.out (hk.below XW.out.size)); have XB : Hid (wb.heap.size ≤ e5.heap.size) := Lib.hid (Nat.le_trans XB.out hgr.size)
            have EA9 := EA
            clear hrow hgr hfr hk hown hd EA9
            first | refine hK.out _ _ ?_ (fun hHeld => ?_) | (go_wp2_with fail; refine hK.out _ _ ?_ (fun hHeld => ?_))
            · exact ⟨c4b (BY.out.keeps KW.out (by decide)), VC.out.c3 XW.out⟩
            clear hK K
            (try simp only [Act.put, List.getElem_toArray, List.getElem_cons_zero, List.getElem_cons_succ, List.setIfInBounds_toArray, List.set_cons_zero, List.set_cons_succ])
            refine wpAnyH_ready (rs := [12]) (by kernel_rfl) (by simp) ?_
            refine AllReadyH.cons rfl (fun K hK => ?_) ?_
            rotate_left
            · exact AllReadyH.nil
            rw [if_pos (wanted_none rfl)]
            refine wp_append_rowF e5 _ _ _ rfl wl.heap.size 62 (.agg #[.bool false, .slice none 0 0, .slice none 0 0]) 3 56 Tryz.underlying48 Tryz.infoR rfl (by decide) (ElR.keeps (by decide)) _ _ OB.out rfl [.bool rz.neg, .slice z1 rz.num.length z2, .slice z3 rz.den.length z4] rfl (by simp [Value.oneCell']) rz EB.out N2n N2.out rfl (by rw [LB.out]; omega) (by rw [LB.out]; omega) XW.out.size ?_
            intro g6 cap6 e6 hrow hgr hfr
            have hk := OwRs.gKeeps OB.out hgr
            have hown : (Value.slice (some ⟨g6, 0, none⟩) (((WL.map fun y => vals.getD y.1 zR).take k).length + 1) cap6).ownBlock = some g6 := rfl
            obtain ⟨ub, hu⟩ : ∃ u, u = Value.slice (some ⟨g6, 0, none⟩) (((WL.map fun y => vals.getD y.1 zR).take k).length + 1) cap6 := ⟨_, rfl⟩
            rw [← hu] at hrow hown ⊢
            clear hu
            have hd := dj_symm (dj_step (dj_symm DJ.out) ALT.out hown hfr)
            have OA := Lib.hid (OwRs.kept OA.out hgr (dj_ne (dj_symm DJ.out)) (fun n hn => by obtain ⟨h1, h2, _⟩ := OwRs.own_at OB.out hn; exact ⟨h1.choose, h1.choose_spec, h2⟩))
            have DJ := Lib.hid hd; have OB := Lib.hid hrow
            have KW := Lib.hid (KW.out.trans hk); have XW := Lib.hid (Below.trans XW.out (hk.below XW.out.size)); have XB : Hid (wb.heap.size ≤ e6.heap.size) := Lib.hid (Nat.le_trans XB.out hgr.size)
            clear hrow hgr hfr hk hown hd
            first | refine hK.out _ _ ?_ (fun hHeld => ?_) | (go_wp2_with fail; refine hK.out _ _ ?_ (fun hHeld => ?_))
            · exact ⟨c4b (BY.out.keeps KW.out (by decide)), VC.out.c3 XW.out⟩
            clear hK K
            (try simp only [Act.put, List.getElem_toArray, List.getElem_cons_zero, List.getElem_cons_succ, List.setIfInBounds_toArray, List.set_cons_zero, List.set_cons_succ])
            exact HV e6 ua ub N1n N2n ⟨OA.out, OB.out, DJ.out, XW.out, ⟨c4b (BY.out.keeps KW.out (by decide)), VC.out.c3 XW.out⟩⟩
        · go_simp
          have hx : Ext wb ((wb.alloc (.cells #[.bool rz.neg, .slice z1 rz.num.length z2, .slice z3 rz.den.length z4] 62)).drew) := ((Ext.refl _).alloc _).drew
          have bz : Blk ((wb.alloc (.cells #[.bool rz.neg, .slice z1 rz.num.length z2, .slice z3 rz.den.length z4] 62)).drew) wb.heap.size [.bool rz.neg, .slice z1 rz.num.length z2, .slice z3 rz.den.length z4].toArray 62 := (Blk.new wb #[.bool rz.neg, .slice z1 rz.num.length z2, .slice z3 rz.den.length z4] 62).drew
          obtain ⟨e3, hwe3⟩ : ∃ W, W = (wb.alloc (.cells #[.bool rz.neg, .slice z1 rz.num.length z2, .slice z3 rz.den.length z4] 62)).drew := ⟨_, rfl⟩
          rw [← hwe3] at hx bz ⊢
          obtain ⟨N2n, hN2n⟩ : ∃ n, n = wb.heap.size := ⟨_, rfl⟩
          rw [← hN2n] at bz ⊢
          have hnb : wb.heap.size ≤ N2n := by rw [hN2n]; exact XB.out
          have OA := Lib.hid (OwRs.ext' OA.out hx); have OB := Lib.hid (OwRs.ext' OB.out hx); have EA := Lib.hid (EA.out.ext hx); have EB := Lib.hid (EB.out.ext hx); have KW := Lib.hid (KW.out.trans (Keeps.ext hx)); have XW := Lib.hid (Ext.to XW.out hx XW.out.size)
          have LN2 := Lib.hid hnb; have XB : Hid (wb.heap.size ≤ e3.heap.size) := Lib.hid (Nat.le_trans hnb (Nat.le_of_lt bz.lt))
          have N2 := Lib.hid bz; clear hx bz hwe3 hN2n hnb
          first | refine hK.out _ _ ?_ (fun hHeld => ?_) | (go_wp2_with fail; refine hK.out _ _ ?_ (fun hHeld => ?_))
          · exact ⟨c4b (BY.out.keeps KW.out (by decide)), VC.out.c3 XW.out⟩
          clear hK K
          (try simp only [Act.put, List.getElem_toArray, List.getElem_cons_zero, List.getElem_cons_succ, List.setIfInBounds_toArray, List.set_cons_zero, List.set_cons_succ])
          refine wpAnyH_ready (rs := [3]) (by kernel_rfl) (by simp) ?_
          refine AllReadyH.cons rfl (fun K hK => ?_) ?_
          rotate_left
          · exact AllReadyH.nil
          go_simp
          have hx : Ext e3 ((e3.alloc (.cells #[.bool ry.neg, .slice a1 ry.num.length c1, .slice a2 ry.den.length c2] 62))) := (Ext.refl _).alloc _
          have bz : Blk ((e3.alloc (.cells #[.bool ry.neg, .slice a1 ry.num.length c1, .slice a2 ry.den.length c2] 62))) e3.heap.size [.bool ry.neg, .slice a1 ry.num.length c1, .slice a2 ry.den.length c2].toArray 62 := Blk.new e3 #[.bool ry.neg, .slice a1 ry.num.length c1, .slice a2 ry.den.length c2] 62
          obtain ⟨e4, hwe4⟩ : ∃ W, W = (e3.alloc (.cells #[.bool ry.neg, .slice a1 ry.num.length c1, .slice a2 ry.den.length c2] 62)) := ⟨_, rfl⟩
          rw [← hwe4] at hx bz ⊢
          obtain ⟨N1n, hN1n⟩ : ∃ n, n = e3.heap.size := ⟨_, rfl⟩
          rw [← hN1n] at bz ⊢
          have hnb : wb.heap.size ≤ N1n := by rw [hN1n]; exact XB.out
          have OA := Lib.hid (OwRs.ext' OA.out hx); have OB := Lib.hid (OwRs.ext' OB.out hx); have EA := Lib.hid (EA.out.ext hx); have EB := Lib.hid (EB.out.ext hx); have KW := Lib.hid (KW.out.trans (Keeps.ext hx)); have XW := Lib.hid (Ext.to XW.out hx XW.out.size)
          have N2 := Lib.hid (N2.out.ext hx)
          have LN1 := Lib.hid hnb; have XB : Hid (wb.heap.size ≤ e4.heap.size) := Lib.hid (Nat.le_trans hnb (Nat.le_of_lt bz.lt))
          have N1 := Lib.hid bz; clear hx bz hwe4 hN1n hnb
          first | refine hK.out _ _ ?_ (fun hHeld => ?_) | (go_wp2_with fail; refine hK.out _ _ ?_ (fun hHeld => ?_))
          · exact ⟨c4b (BY.out.keeps KW.out (by decide)), VC.out.c3 XW.out⟩
          clear hK K
          (try simp only [Act.put, List.getElem_toArray, List.getElem_cons_zero, List.getElem_cons_succ, List.setIfInBounds_toArray, List.set_cons_zero, List.set_cons_succ])
          refine wpAnyH_ready (rs := [4]) (by kernel_rfl) (by simp) ?_
          refine AllReadyH.cons rfl (fun K hK => ?_) ?_
          rotate_left
          · exact AllReadyH.nil
          rw [if_pos (wanted_none rfl)]
          refine wp_append_rowF e4 _ _ _ rfl wl.heap.size 62 (.agg #[.bool false, .slice none 0 0, .slice none 0 0]) 3 56 Tryz.underlying48 Tryz.infoR rfl (by decide) (ElR.keeps (by decide)) _ _ OA.out rfl [.bool ry.neg, .slice a1 ry.num.length c1, .slice a2 ry.den.length c2] rfl (by simp [Value.oneCell']) ry EA.out N1n N1.out rfl (by rw [LA.out]; omega) (by rw [LA.out]; omega) XW.out.size ?_
          intro g5 cap5 e5 hrow hgr hfr
          have hk := OwRs.gKeeps OA.out hgr
          have hown : (Value.slice (some ⟨g5, 0, none⟩) (((WL.map (·.2)).take k).length + 1) cap5).ownBlock = some g5 := rfl
          obtain ⟨ua, hu⟩ : ∃ u, u = Value.slice (some ⟨g5, 0, none⟩) (((WL.map (·.2)).take k).length + 1) cap5 := ⟨_, rfl⟩
          rw [← hu] at hrow hown ⊢
          clear hu
          have hd := dj_step DJ.out BLT.out hown (hfr.imp id (Nat.le_trans XB.out))
          have OB := Lib.hid (OwRs.kept OB.out hgr (dj_ne DJ.out) (fun n hn => by obtain ⟨h1, h2, _⟩ := OwRs.own_at OA.out hn; exact ⟨h1.choose, h1.choose_spec, h2⟩))
          have EB := Lib.hid (ElR.keeps (by decide) _ _ _ _ EB.out hk)
          have N2 : Hid (Blk e5 N2n [.bool rz.neg, .slice z1 rz.num.length z2, .slice z3 rz.den.length z4].toArray 62) := Lib.hid ((hgr.block _ N2.out.lt (fun e => by have := ALT.out _ e.symm; have := LN2.out; omega)).trans N2.out)
          have DJ := Lib.hid hd; have OA := Lib.hid hrow; have ALT : Hid (∀ n, ua.ownBlock = some n → n < e5.heap.size) := Lib.hid (fun n (h : ua.ownBlock = some n) => (OwRs.own_at hrow h).2.2)
          have KW := Lib.hid (KW.out.trans hk); have XW := Lib.hid (Below.trans XW.out (hk.below XW.out.size)); have XB : Hid (wb.heap.size ≤ e5.heap.size) := Lib.hid (Nat.le_trans XB.out hgr.size)
          have EA9 := EA
          clear hrow hgr hfr hk hown hd EA9
          first | refine hK.out _ _ ?_ (fun hHeld => ?_) | (go_wp2_with fail; refine hK.out _ _ ?_ (fun hHeld => ?_))
          · exact ⟨c4b (BY.out.keeps KW.out (by decide)), VC.out.c3 XW.out⟩
          clear hK K
          (try simp only [Act.put, List.getElem_toArray, List.getElem_cons_zero, List.getElem_cons_succ, List.setIfInBounds_toArray, List.set_cons_zero, List.set_cons_succ])
          refine wpAnyH_ready (rs := [12]) (by kernel_rfl) (by simp) ?_
          refine AllReadyH.cons rfl (fun K hK => ?_) ?_
          rotate_left
          · exact AllReadyH.nil
          rw [if_pos (wanted_none rfl)]
          refine wp_append_rowF e5 _ _ _ rfl wl.heap.size 62 (.agg #[.bool false, .slice none 0 0, .slice none 0 0]) 3 56 Tryz.underlying48 Tryz.infoR rfl (by decide) (ElR.keeps (by decide)) _ _ OB.out rfl [.bool rz.neg, .slice z1 rz.num.length z2, .slice z3 rz.den.length z4] rfl (by simp [Value.oneCell']) rz EB.out N2n N2.out rfl (by rw [LB.out]; omega) (by rw [LB.out]; omega) XW.out.size ?_
          intro g6 cap6 e6 hrow hgr hfr
          have hk := OwRs.gKeeps OB.out hgr
          have hown : (Value.slice (some ⟨g6, 0, none⟩) (((WL.map fun y => vals.getD y.1 zR).take k).length + 1) cap6).ownBlock = some g6 := rfl
          obtain ⟨ub, hu⟩ : ∃ u, u = Value.slice (some ⟨g6, 0, none⟩) (((WL.map fun y => vals.getD y.1 zR).take k).length + 1) cap6 := ⟨_, rfl⟩
          rw [← hu] at hrow hown ⊢
          clear hu
          have hd := dj_symm (dj_step (dj_symm DJ.out) ALT.out hown hfr)
          have OA := Lib.hid (OwRs.kept OA.out hgr (dj_ne (dj_symm DJ.out)) (fun n hn => by obtain ⟨h1, h2, _⟩ := OwRs.own_at OB.out hn; exact ⟨h1.choose, h1.choose_spec, h2⟩))
          have DJ := Lib.hid hd; have OB := Lib.hid hrow
          have KW := Lib.hid (KW.out.trans hk); have XW := Lib.hid (Below.trans XW.out (hk.below XW.out.size)); have XB : Hid (wb.heap.size ≤ e6.heap.size) := Lib.hid (Nat.le_trans XB.out hgr.size)
          clear hrow hgr hfr hk hown hd
          first | refine hK.out _ _ ?_ (fun hHeld => ?_) | (go_wp2_with fail; refine hK.out _ _ ?_ (fun hHeld => ?_))
          · exact ⟨c4b (BY.out.keeps KW.out (by decide)), VC.out.c3 XW.out⟩
          clear hK K
          (try simp only [Act.put, List.getElem_toArray, List.getElem_cons_zero, List.getElem_cons_succ, List.setIfInBounds_toArray, List.set_cons_zero, List.set_cons_succ])
          exact HV e6 ua ub N1n N2n ⟨OA.out, OB.out, DJ.out, XW.out, ⟨c4b (BY.out.keeps KW.out (by decide)), VC.out.c3 XW.out⟩⟩
      · intro W xa yb n1 n2 hW
        obtain ⟨oa, ob, dj, xx, hSW⟩ := hW
        have O1 := Lib.hid oa; have O2 := Lib.hid ob; have D9 := Lib.hid dj; have X9 := Lib.hid xx
        clear oa ob dj xx
        refine wpAnyH_take (i := 13) (v := ?_) rfl (by kernel_rfl) (by kernel_rfl) (by kernel_rfl) (fun _ _ _ h => h) (Or.inl ⟨by rfl, ?_⟩) (by assumption) ?_
        rotate_left
        · (intro w hSw; (try dsimp only at hSw); go_simp; first | done | with_reducible rfl)
        (try simp only [Act.put, List.getElem_toArray, List.getElem_cons_zero, List.getElem_cons_succ, List.setIfInBounds_toArray, List.set_cons_zero, List.set_cons_succ])
        refine wpAnyH_take (i := 14) (v := ?_) rfl (by kernel_rfl) (by kernel_rfl) (by kernel_rfl) (fun _ _ _ h => h) (Or.inl ⟨by rfl, ?_⟩) (by assumption) ?_
        rotate_left
        · (intro w hSw; (try dsimp only at hSw); go_simp; first | done | with_reducible rfl)
        (try simp only [Act.put, List.getElem_toArray, List.getElem_cons_zero, List.getElem_cons_succ, List.setIfInBounds_toArray, List.set_cons_zero, List.set_cons_succ])
        refine wpAnyH_done (by kernel_rfl) ?_ _
        go_wp2_with fail
        go_roundw
        case rel => exact ⟨k + 1, by omega, by go_num, by rw [TA.out]; exact O1.out, by rw [TB.out]; exact O2.out, D9.out, X9.out⟩
        case measure => simp [intOf]; omega
    · obtain rfl : k = WL.length := by omega
      have tA : (WL.map (·.2)).take WL.length = WL.map (·.2) := List.take_of_length_le (by rw [List.length_map]; exact Nat.le_refl _)
      have tB : (WL.map fun y => vals.getD y.1 zR).take WL.length = WL.map fun y => vals.getD y.1 zR := List.take_of_length_le (by rw [List.length_map]; exact Nat.le_refl _)
      rw [tA] at OA ⊢
      rw [tB] at OB ⊢
      clear DJ tA tB
      have r1 := OA.out.rd
      have r2 := OB.out.rd
      rw [List.length_map] at r1 r2
      have l1 : LimL (WL.map (·.2)) := by
        intro i hi
        rw [List.length_map] at hi
        rw [List.getD_eq_getElem?_getD, List.getElem?_map, List.getElem?_eq_getElem hi]
        obtain ⟨_, p, hp⟩ := HMEM.out i _ (List.getElem?_eq_getElem hi)
        dsimp only [Option.map_some, Option.getD_some]
        rw [hp]
        exact limR_rep p
      have l2 : LimL (WL.map fun y => vals.getD y.1 zR) := by
        intro i hi
        rw [List.length_map] at hi
        rw [List.getD_eq_getElem?_getD, List.getElem?_map, List.getElem?_eq_getElem hi]
        have := (HMEM.out i _ (List.getElem?_eq_getElem hi)).1
        exact HLV.out _ (by rw [HL.out]; exact this)
      obtain ⟨LA, hLA⟩ : ∃ L, L = WL.map (·.2) := ⟨_, rfl⟩
      obtain ⟨LB, hLB⟩ : ∃ L, L = WL.map fun y => vals.getD y.1 zR := ⟨_, rfl⟩
      have n1 : LA.length = WL.length := by rw [hLA, List.length_map]
      have n2 : LB.length = WL.length := by rw [hLB, List.length_map]
      rw [← hLA] at r1 l1 E ⊢
      rw [← hLB] at r2 l2 E ⊢
      have hd := dotR_any _ _ LA LB wq r1 r2 l1 l2
      rw [n1, n2]
      obtain ⟨⟨t, te⟩, ht⟩ : ∃ r, r = dotR LA LB := ⟨_, rfl⟩
      rw [← ht] at hd E
      have HD := Lib.hid hd
      have A0 := Lib.hid (A0.out.ext XK.out)
      have X := Lib.hid (X.out.trans XK.out); have X0 := X
      clear hd ht n1 n2 hLA hLB r1 r2 l1 l2 OA OB
      go_wp2_with fail
      refine (HD.out).mono ?_
      rintro e w3 ⟨⟨v, hv9, nn⟩, hx⟩
      have A0 := Lib.hid (A0.out.ext hx); have X := Lib.hid (X.out.trans hx)
      dsimp only at hv9 nn
      subst hv9
      obtain ⟨s1, s2, s3, s4, rfl⟩ := nn.shape
      have NS := Lib.hid (NewR.from nn X0.out); clear nn hx
      have qA0 := A0.out.cell; have fA0 := A0.out.free; have lA0 := A0.out.lt
      go_wp2_with fail
      clear qA0 fA0 lA0
      have hb2 := A0.out.all3 (.bool t.neg) (.slice s1 t.num.length s2) (.slice s3 t.den.length s4)
      have hn2 := NS.out.set3b A0.out (by decide) (.bool t.neg) (.slice s1 t.num.length s2) (.slice s3 t.den.length s4)
      have hx2 : Ext w _ := ((X.out.set (p := ⟨w.heap.size, 0, none⟩) (Nat.le_refl _) (.bool t.neg)).set (p := ⟨w.heap.size, 1, none⟩) (Nat.le_refl _) (.slice s1 t.num.length s2)).set (p := ⟨w.heap.size, 2, none⟩) (Nat.le_refl _) (.slice s3 t.den.length s4)
      have HN2 := Lib.hid hn2; have HX2 := Lib.hid hx2
      clear hn2 hx2
      refine bodyPost_ret (v := .tuple #[.agg #[.bool t.neg, .slice s1 t.num.length s2, .slice s3 t.den.length s4], .int .i64 te]) (by have k1 := hb2.cell; have k2 := hb2.free; have k3 := hb2.lt; clear hb2; simp only [results, Tryz.results63]; go_simp) rfl ⟨ResR.mk (l := t) HN2.out E.out, HX2.out⟩
end Go.Proofs.YthkfkfbfblppeaaGreat
namespace Go.Proofs.YthkfkfbfblppeaaGreat
set_option linter.unusedSimpArgs false
set_option linter.unusedVariables false
open Go.RowKit
theorem placeS_0 {g : List (List Int)} {v : Int} (h : (placeS g v).2 = 0) : gridE g = 0 ∧ (0 ≤ v ∧ v < (gsize g : Int)) ∧ placeS g v = (plK g v.toNat 0, 0) := by
  by_cases h0 : gridE g = 0
  · by_cases hv : 0 ≤ v ∧ v < (gsize g : Int)
    · exact ⟨h0, hv, (if_pos h0).trans (if_pos hv)⟩
    · rw [show placeS g v = ([], 8) from (if_pos h0).trans (if_neg hv)] at h; cases h
  · rw [show placeS g v = ([], gridE g) from if_neg h0] at h; exact absurd h h0
theorem placeS_bad {g : List (List Int)} {v : Int} (h : (placeS g v).2 ≠ 0) : (placeS g v).1 = [] := by
  by_cases h0 : gridE g = 0
  · by_cases hv : 0 ≤ v ∧ v < (gsize g : Int)
    · rw [show placeS g v = (plK g v.toNat 0, 0) from (if_pos h0).trans (if_pos hv)] at h; exact absurd rfl h
    · rw [show placeS g v = ([], 8) from (if_pos h0).trans (if_neg hv)]
  · rw [show placeS g v = ([], gridE g) from if_neg h0]
theorem pos_of {g : List (List Int)} (ok : GridOk g) : ∀ k, k < g.length → 0 < (g.getD k []).length := fun k hk => (ok.ax k hk).1
theorem pointS_ok {g : List (List Int)} {v : Int} (h0 : gridE g = 0) (hv : 0 ≤ v ∧ v < (gsize g : Int)) : pointS g v = (ptK g v.toNat g.length, 0) := (if_pos h0).trans (if_pos hv)
set_option maxHeartbeats 1000000 in
theorem long7_any (v : Value) (g : List (List Int)) (w : World) (h : RdG w v g) :
    Calls Tryz.prog 8 #[v] w fun e w' => (∃ r, e = .returned (.bool r) ∧ (r = false → g.length ≤ 8 ∧ ∀ k, k < g.length → (g.getD k []).length ≤ 40)) ∧ Ext w w' := by
  have HG := Lib.hid h
  obtain ⟨a, cap, rfl, hgl⟩ := h.shape
  clear h
  by_cases h8 : 8 < g.length
  · go_enter Tryz.func8, Tryz.ntmps8
    go_wp2_with fail
    go_ret
    exact ⟨⟨_, rfl, fun h => by cases h⟩, Ext.refl _⟩
  · go_enter Tryz.func8, Tryz.ntmps8
    go_wp2_with fail
    go_loopw [3] (fun i wr => ∃ k : Nat, k ≤ g.length ∧ i = .int .i64 k ∧ (∀ j, j < k → (g.getD j []).length ≤ 40) ∧ Ext w wr) (fun i _ => g.length - (intOf i).toNat)
    case atStart => exact ⟨0, Nat.zero_le _, rfl, fun j hj => by omega, Ext.refl w⟩
    case round =>
      obtain ⟨wk, hwk⟩ : ∃ W, W = wr := ⟨_, rfl⟩
      subst hwk
      obtain ⟨k, hk, rfl, hall, hext⟩ := hrel
      have HA := Lib.hid hall; have HX := Lib.hid hext
      clear hall hext
      by_cases hlt : k < g.length
      · obtain ⟨b, off, ai, ci, rfl, hb, hc, hr⟩ := HG.out.at hlt
        have x1 := (HX.out.cell (p := ⟨b, off + k, none⟩) hb).trans hc
        obtain ⟨_, _, e1, hl1, hl2, _⟩ := hr.get
        injection e1 with _ _ e3
        subst e3
        obtain ⟨c, hcc⟩ : ∃ c, c = g.getD k [] := ⟨_, rfl⟩
        rw [← hcc] at x1 hl1
        have HCC := Lib.hid hcc
        have q1 : (0 : Int) ≤ (k : Int) := by omega
        have q2 : (k : Int) < (g.length : Int) := by omega
        clear hc hr hcc
        by_cases h40 : 40 < c.length
        · go_wp2_with fail
          refine bodyPost_ret (v := .bool true) (by simp only [results, Tryz.results8]; go_simp) rfl ?_
          first | exact ⟨⟨_, rfl, fun h => by cases h⟩, HX.out⟩ | exact ⟨.inr rfl, HX.out⟩
        · go_wp2_with fail
          go_roundw
          case rel => exact ⟨k + 1, by omega, by go_num, fun j hj => by
            by_cases e : j = k
            · rw [e, ← HCC.out]; omega
            · exact HA.out j (by omega), HX.out⟩
          case measure => simp [intOf]; omega
      · go_wp2_with fail
        go_ret
        exact ⟨⟨_, rfl, fun _ => ⟨by omega, fun j hj => HA.out j (by omega)⟩⟩, HX.out⟩
end Go.Proofs.YthkfkfbfblppeaaGreat
namespace Go.Proofs.YthkfkfbfblppeaaGreat
set_option linter.unusedSimpArgs false
set_option linter.unusedVariables false
open Go.RowKit
end Go.Proofs.YthkfkfbfblppeaaGreat
