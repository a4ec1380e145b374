/- Lists of api.Rats: reading, copying, comparing. Conditions: the lists read as slices. -/
import Derived.Test.YthkfkfbfblppeaaGreatGJ
import Derived.Test.YthkfkfbfblppeaaGreatGG
import Derived.Test.YthkfkfbfblppeaaGreatOwRows
namespace Go.Proofs.YthkfkfbfblppeaaGreat
set_option linter.unusedSimpArgs false
set_option linter.unusedVariables false
open Go.RowKit

/-- v is a slice of api.Rats that reads l. -/
def RdRs (w : World) (v : Value) (l : List RR) : Prop :=
  ∃ a cap, v = .slice a l.length cap ∧ l.length ≤ cap ∧ cap ≤ 9223372036854775807 ∧
    ∀ i, i < l.length → ∃ b off a1 c1 a2 c2, a = some ⟨b, off, none⟩ ∧ b < w.heap.size ∧
      w.cell? ⟨b, off + i * 3, none⟩ = some (.bool (l.getD i zR).neg) ∧ w.cell? ⟨b, off + i * 3 + 1, none⟩ = some (.slice a1 (l.getD i zR).num.length c1) ∧ w.cell? ⟨b, off + i * 3 + 2, none⟩ = some (.slice a2 (l.getD i zR).den.length c2) ∧
      RdI .u32 w (.slice a1 (l.getD i zR).num.length c1) (l.getD i zR).num ∧ RdI .u32 w (.slice a2 (l.getD i zR).den.length c2) (l.getD i zR).den
theorem RdRs.ext {w w' : World} {v : Value} {l : List RR} (h : RdRs w v l) (e : Ext w w') : RdRs w' v l := by
  obtain ⟨a, cap, hv, hc, hm, hr⟩ := h
  refine ⟨a, cap, hv, hc, hm, fun i hi => ?_⟩
  obtain ⟨b, off, a1, c1, a2, c2, ha, hb, x0, x1, x2, r1, r2⟩ := hr i hi
  exact ⟨b, off, a1, c1, a2, c2, ha, Nat.lt_of_lt_of_le hb e.size, (e.cell (p := ⟨b, off + i * 3, none⟩) hb).trans x0, (e.cell (p := ⟨b, off + i * 3 + 1, none⟩) hb).trans x1, (e.cell (p := ⟨b, off + i * 3 + 2, none⟩) hb).trans x2, r1.ext e, r2.ext e⟩
theorem RdRs.nil (w : World) (a : Option Addr) : RdRs w (.slice a 0 0) [] := ⟨a, 0, rfl, Nat.le_refl _, by omega, fun i hi => by cases hi⟩
/-- The headers, as functions of the index. -/
theorem RdRs.get {w : World} {v : Value} {l : List RR} (h : RdRs w v l) : ∃ a cap, v = .slice a l.length cap ∧ l.length ≤ cap ∧ cap ≤ 9223372036854775807 ∧
    ∃ f : Nat → (Option Addr × Nat) × (Option Addr × Nat), ∀ i, i < l.length → ∃ b off, a = some ⟨b, off, none⟩ ∧ b < w.heap.size ∧
      w.cell? ⟨b, off + i * 3, none⟩ = some (.bool (l.getD i zR).neg) ∧ w.cell? ⟨b, off + i * 3 + 1, none⟩ = some (.slice (f i).1.1 (l.getD i zR).num.length (f i).1.2) ∧ w.cell? ⟨b, off + i * 3 + 2, none⟩ = some (.slice (f i).2.1 (l.getD i zR).den.length (f i).2.2) ∧
      RdR w (.agg #[.bool (l.getD i zR).neg, .slice (f i).1.1 (l.getD i zR).num.length (f i).1.2, .slice (f i).2.1 (l.getD i zR).den.length (f i).2.2]) (l.getD i zR) := by
  obtain ⟨a, cap, hv, hc, hm, hr⟩ := h
  have h2 : ∀ i : Nat, ∃ y : (Option Addr × Nat) × (Option Addr × Nat), i < l.length → ∃ b off, a = some ⟨b, off, none⟩ ∧ b < w.heap.size ∧
      w.cell? ⟨b, off + i * 3, none⟩ = some (.bool (l.getD i zR).neg) ∧ w.cell? ⟨b, off + i * 3 + 1, none⟩ = some (.slice y.1.1 (l.getD i zR).num.length y.1.2) ∧ w.cell? ⟨b, off + i * 3 + 2, none⟩ = some (.slice y.2.1 (l.getD i zR).den.length y.2.2) ∧
      RdR w (.agg #[.bool (l.getD i zR).neg, .slice y.1.1 (l.getD i zR).num.length y.1.2, .slice y.2.1 (l.getD i zR).den.length y.2.2]) (l.getD i zR) := by
    intro i
    by_cases hi : i < l.length
    · obtain ⟨b, off, a1, c1, a2, c2, ha, hb, x0, x1, x2, r1, r2⟩ := hr i hi
      exact ⟨((a1, c1), (a2, c2)), fun _ => ⟨b, off, ha, hb, x0, x1, x2, _, _, rfl, r1, r2⟩⟩
    · exact ⟨((none, 0), (none, 0)), fun h => absurd h hi⟩
  exact ⟨a, cap, hv, hc, hm, fun i => Classical.choose (h2 i), fun i hi => Classical.choose_spec (h2 i) hi⟩

-- WALKS (written by mkls.py)
set_option maxHeartbeats 1000000 in
theorem copyRat_any (v : Value) (r : RR) (w : World) (h : RdR w v r) (hs : r.num.length ≤ 1000000 ∧ r.den.length ≤ 1000000) :
    Calls Tryz.prog 35 #[v] w fun e w' => (∃ v', e = .returned v' ∧ NewR w w' v' r) ∧ Ext w w' := by
  obtain ⟨a1, c1, a2, c2, rfl, hn, hd⟩ := h.parts
  obtain ⟨b, l1, l2⟩ := r
  dsimp only at hn hd hs ⊢
  obtain ⟨hs1, hs2⟩ := hs
  have HN := Lib.hid hn; have HD := Lib.hid hd
  clear hn hd h
  have bb0 := ((Blk.new w #[.bool b, .slice a1 l1.length c1, .slice a2 l2.length c2] 62).alloc (.cells #[.bool false, .slice none 0 0, .slice none 0 0] 62))
  have bb1 := (Blk.new (w.alloc (.cells #[.bool b, .slice a1 l1.length c1, .slice a2 l2.length c2] 62)) #[.bool false, .slice none 0 0, .slice none 0 0] 62)
  rw [World.size_alloc] at bb1
  have x0 : Ext w ((w.alloc (.cells #[.bool b, .slice a1 l1.length c1, .slice a2 l2.length c2] 62)).alloc (.cells #[.bool false, .slice none 0 0, .slice none 0 0] 62)) := (((Ext.refl w).alloc _).alloc _)
  have A0 := Lib.hid bb0; have A1 := Lib.hid bb1; have X := Lib.hid x0
  clear x0 bb0 bb1
  have HN := Lib.hid (HN.out.ext X.out); have HD := Lib.hid (HD.out.ext X.out)
  go_enter Tryz.func35, Tryz.ntmps35
  go_wp2_with fail
  refine wp_region_held_drew (S := (fun W => (Blk W w.heap.size #[.bool b, .slice a1 l1.length c1, .slice a2 l2.length c2] 62 ∧ W.cell? ⟨w.heap.size, 0, none⟩ = some (.bool b) ∧ W.cell? ⟨w.heap.size, 1, none⟩ = some (.slice a1 l1.length c1) ∧ W.cell? ⟨w.heap.size, 2, none⟩ = some (.slice a2 l2.length c2)))) (by kernel_rfl) ?_ (fun hHeld => ?_)
  · exact Blk.s3 A0.out.drew
  refine wpAnyH_take (i := 0) (v := ?_) rfl (by kernel_rfl) (by kernel_rfl) (by kernel_rfl) (fun _ _ _ h => h) (Or.inl ⟨by rfl, ?_⟩) (by assumption) ?_
  rotate_left
  · (intro w hSw; (try dsimp only at hSw); go_simp; first | done | with_reducible rfl)
  (try simp only [Act.put, List.getElem_toArray, List.getElem_cons_zero, List.getElem_cons_succ, List.setIfInBounds_toArray, List.set_cons_zero, List.set_cons_succ])
  refine wpAnyH_take (i := 1) (v := ?_) rfl (by kernel_rfl) (by kernel_rfl) (by kernel_rfl) (fun _ _ _ h => h) (Or.inl ⟨by rfl, ?_⟩) (by assumption) ?_
  rotate_left
  · (intro w hSw; (try dsimp only at hSw); go_simp; first | done | with_reducible rfl)
  (try simp only [Act.put, List.getElem_toArray, List.getElem_cons_zero, List.getElem_cons_succ, List.setIfInBounds_toArray, List.set_cons_zero, List.set_cons_succ])
  refine wpAnyH_take (i := 2) (v := ?_) rfl (by kernel_rfl) (by kernel_rfl) (by kernel_rfl) (fun _ _ _ h => h) (Or.inl ⟨by rfl, ?_⟩) (by assumption) ?_
  rotate_left
  · (intro w hSw; (try dsimp only at hSw); go_simp; first | done | with_reducible rfl)
  (try simp only [Act.put, List.getElem_toArray, List.getElem_cons_zero, List.getElem_cons_succ, List.setIfInBounds_toArray, List.set_cons_zero, List.set_cons_succ])
  refine wpAnyH_take (i := 3) (v := ?_) rfl (by kernel_rfl) (by kernel_rfl) (by kernel_rfl) (fun _ _ _ h => h) (Or.inl ⟨by rfl, ?_⟩) (by assumption) ?_
  rotate_left
  · (intro w hSw; (try dsimp only at hSw); go_simp; first | done | with_reducible rfl)
  (try simp only [Act.put, List.getElem_toArray, List.getElem_cons_zero, List.getElem_cons_succ, List.setIfInBounds_toArray, List.set_cons_zero, List.set_cons_succ])
  refine wpAnyH_take (i := 5) (v := ?_) rfl (by kernel_rfl) (by kernel_rfl) (by kernel_rfl) (fun _ _ _ h => h) (Or.inl ⟨by rfl, ?_⟩) (by assumption) ?_
  rotate_left
  · (intro w hSw; (try dsimp only at hSw); go_simp; first | done | with_reducible rfl)
  (try simp only [Act.put, List.getElem_toArray, List.getElem_cons_zero, List.getElem_cons_succ, List.setIfInBounds_toArray, List.set_cons_zero, List.set_cons_succ])
  refine wpAnyH_take (i := 6) (v := ?_) rfl (by kernel_rfl) (by kernel_rfl) (by kernel_rfl) (fun _ _ _ h => h) (Or.inl ⟨by rfl, ?_⟩) (by assumption) ?_
  rotate_left
  · (intro w hSw; (try dsimp only at hSw); go_simp; first | done | with_reducible rfl)
  (try simp only [Act.put, List.getElem_toArray, List.getElem_cons_zero, List.getElem_cons_succ, List.setIfInBounds_toArray, List.set_cons_zero, List.set_cons_succ])
  have x1 := X.out
  refine wpAnyH_ready (rs := [4]) (by kernel_rfl) (by simp) ?_
  refine AllReadyH.cons rfl (fun K hK => ?_) ?_
  rotate_left
  · exact AllReadyH.nil
  go_simp
  refine (copyNat_any (.slice a1 l1.length c1) l1 _ (HN.out.ext (by first | exact Ext.refl _ | exact (Ext.refl _).drew)) (by omega)).mono ?_
  rintro e w1 ⟨⟨v, rfl, nn⟩, hx⟩
  have hx := Ext.trans (show Ext ((w.alloc (.cells #[.bool b, .slice a1 l1.length c1, .slice a2 l2.length c2] 62)).alloc (.cells #[.bool false, .slice none 0 0, .slice none 0 0] 62)) _ from by first | exact Ext.refl _ | exact (Ext.refl _).drew) hx
  have A0 := Lib.hid (A0.out.ext hx); have A1 := Lib.hid (A1.out.ext hx); have HN := Lib.hid (HN.out.ext hx); have HD := Lib.hid (HD.out.ext hx); have X := Lib.hid (X.out.trans hx)
  obtain ⟨n1, n2, rfl⟩ := nn.shape
  have On := Lib.hid (nn.from (Ext.trans x1 (by (repeat (first | (with_reducible exact Ext.refl _) | (with_reducible assumption) | (with_reducible refine Ext.alloc ?_ _) | ((with_reducible refine Ext.setp ?_ ?_); focus (dsimp only; omega)) | (with_reducible refine Ext.drew ?_) | (with_reducible refine Ext.drewN ?_ _) | (with_reducible refine Ext.trans ?_ (by assumption)))))))
  clear nn hx x1
  first | refine hK.out _ _ ?_ (fun hHeld => ?_) | (go_wp2_with fail; refine hK.out _ _ ?_ (fun hHeld => ?_))
  · exact Blk.s3 A0.out
  clear hK K
  (try simp only [Act.put, List.getElem_toArray, List.getElem_cons_zero, List.getElem_cons_succ, List.setIfInBounds_toArray, List.set_cons_zero, List.set_cons_succ])
  have x1 := X.out
  refine wpAnyH_ready (rs := [7]) (by kernel_rfl) (by simp) ?_
  refine AllReadyH.cons rfl (fun K hK => ?_) ?_
  rotate_left
  · exact AllReadyH.nil
  go_simp
  refine (copyNat_any (.slice a2 l2.length c2) l2 _ (HD.out.ext (by first | exact Ext.refl _ | exact (Ext.refl _).drew)) (by omega)).mono ?_
  rintro e w2 ⟨⟨v, rfl, nn⟩, hx⟩
  have hx := Ext.trans (show Ext w1 _ from by first | exact Ext.refl _ | exact (Ext.refl _).drew) hx
  have A0 := Lib.hid (A0.out.ext hx); have A1 := Lib.hid (A1.out.ext hx); have HN := Lib.hid (HN.out.ext hx); have HD := Lib.hid (HD.out.ext hx); have On := Lib.hid (On.out.ext hx); have X := Lib.hid (X.out.trans hx)
  obtain ⟨d1, d2, rfl⟩ := nn.shape
  have Od := Lib.hid (nn.from (Ext.trans x1 (by (repeat (first | (with_reducible exact Ext.refl _) | (with_reducible assumption) | (with_reducible refine Ext.alloc ?_ _) | ((with_reducible refine Ext.setp ?_ ?_); focus (dsimp only; omega)) | (with_reducible refine Ext.drew ?_) | (with_reducible refine Ext.drewN ?_ _) | (with_reducible refine Ext.trans ?_ (by assumption)))))))
  clear nn hx x1
  first | refine hK.out _ _ ?_ (fun hHeld => ?_) | (go_wp2_with fail; refine hK.out _ _ ?_ (fun hHeld => ?_))
  · exact Blk.s3 A0.out
  clear hK K
  (try simp only [Act.put, List.getElem_toArray, List.getElem_cons_zero, List.getElem_cons_succ, List.setIfInBounds_toArray, List.set_cons_zero, List.set_cons_succ])
  refine wpAnyH_take (i := 8) (v := ?_) rfl (by kernel_rfl) (by kernel_rfl) (by kernel_rfl) (fun _ _ _ h => h) (Or.inl ⟨by rfl, ?_⟩) (by assumption) ?_
  rotate_left
  · (intro w hSw; (try dsimp only at hSw); go_simp; first | done | with_reducible rfl)
  (try simp only [Act.put, List.getElem_toArray, List.getElem_cons_zero, List.getElem_cons_succ, List.setIfInBounds_toArray, List.set_cons_zero, List.set_cons_succ])
  have q2 := A1.out.cell; have f2 := A1.out.free; have l2' := A1.out.lt
  refine wpAnyH_ready (rs := [9]) (by kernel_rfl) (by simp) ?_
  refine AllReadyH.cons rfl (fun K hK => ?_) ?_
  rotate_left
  · exact AllReadyH.nil
  go_simp
  first | refine hK.out _ _ ?_ (fun hHeld => ?_) | (go_wp2_with fail; refine hK.out _ _ ?_ (fun hHeld => ?_))
  · ((try dsimp only); (refine Blk.s3 ?_ <;> (repeat (first | exact A0.out | refine Blk.setOther ?_ (by dsimp only; omega) _ | refine Blk.alloc ?_ _ | refine Blk.drew ?_))))
  clear hK K
  (try simp only [Act.put, List.getElem_toArray, List.getElem_cons_zero, List.getElem_cons_succ, List.setIfInBounds_toArray, List.set_cons_zero, List.set_cons_succ])
  refine wpAnyH_done (by kernel_rfl) ?_ _
  go_wp2_with fail
  refine bodyPost_ret (v := .agg #[.bool b, .slice n1 l1.length n2, .slice d1 l2.length d2]) (by simp only [results, Tryz.results35]; go_simp) rfl ⟨⟨_, rfl, ?_⟩, ?_⟩
  · exact ⟨_, _, rfl, OwB.set3 On.out A1.out (by decide) _ _ _, OwB.set3 Od.out A1.out (by decide) _ _ _⟩
  · have := X.out; (repeat (first | (with_reducible exact Ext.refl _) | (with_reducible assumption) | (with_reducible refine Ext.alloc ?_ _) | ((with_reducible refine Ext.setp ?_ ?_); focus (dsimp only; omega)) | (with_reducible refine Ext.drew ?_) | (with_reducible refine Ext.drewN ?_ _) | (with_reducible refine Ext.trans ?_ (by assumption))))

/-- An element of a row of api.Rats. -/
def ElR (B : Nat) (w : World) (h : List Value) (r : RR) : Prop := ∃ a1 c1 a2 c2, h = [.bool r.neg, .slice a1 r.num.length c1, .slice a2 r.den.length c2] ∧ SfU B w (.slice a1 r.num.length c1) r.num ∧ SfU B w (.slice a2 r.den.length c2) r.den
theorem ElR.keeps {B : Nat} {t : TypeId} (ht : 206 ≠ t) (w w' : World) (h : List Value) (r : RR) (e : ElR B w h r) (k : Keeps B t w w') : ElR B w' h r := by
  obtain ⟨a1, c1, a2, c2, e1, e2, e3⟩ := e
  exact ⟨a1, c1, a2, c2, e1, e2.keeps k ht, e3.keeps k ht⟩
theorem ElR.ext {B : Nat} {w w' : World} {h : List Value} {r : RR} (e : ElR B w h r) (k : Ext w w') : ElR B w' h r := by
  obtain ⟨a1, c1, a2, c2, e1, e2, e3⟩ := e
  exact ⟨a1, c1, a2, c2, e1, e2.ext k, e3.ext k⟩
theorem ElR.new {B : Nat} {w0 w : World} {a1 a2 : Option Addr} {c1 c2 : Nat} {r : RR} (h : NewR w0 w (.agg #[.bool r.neg, .slice a1 r.num.length c1, .slice a2 r.den.length c2]) r) : ElR B w [.bool r.neg, .slice a1 r.num.length c1, .slice a2 r.den.length c2] r := by
  obtain ⟨vn, vd, e, h1, h2⟩ := h
  injection e with e
  simp only [Array.mk.injEq, List.cons.injEq, and_true, true_and] at e
  obtain ⟨rfl, rfl⟩ := e
  exact ⟨a1, c1, a2, c2, rfl, SfU.new h1, SfU.new h2⟩
/-- .. of old memory. -/
theorem ElR.old {B : Nat} {w : World} {a1 a2 : Option Addr} {c1 c2 : Nat} {r : RR} (h : RdR w (.agg #[.bool r.neg, .slice a1 r.num.length c1, .slice a2 r.den.length c2]) r) (hB : w.heap.size ≤ B) : ElR B w [.bool r.neg, .slice a1 r.num.length c1, .slice a2 r.den.length c2] r := by
  obtain ⟨vn, vd, e, h1, h2⟩ := h
  injection e with e
  simp only [Array.mk.injEq, List.cons.injEq, and_true, true_and] at e
  obtain ⟨rfl, rfl⟩ := e
  exact ⟨a1, c1, a2, c2, rfl, SfU.old h1 hB, SfU.old h2 hB⟩
/-- A row of api.Rats that append built. -/
abbrev OwRs (B : Nat) (w : World) (v : Value) (l : List RR) : Prop := OwRow 62 3 (ElR B) B w v l
theorem OwRs.ext' {B : Nat} {w w' : World} {v : Value} {l : List RR} (h : OwRs B w v l) (x : Ext w w') : OwRs B w' v l := OwRow.ext h x (fun _ _ e => e.ext x)
theorem OwRs.rd {B : Nat} {w : World} {v : Value} {l : List RR} (h : OwRs B w v l) : RdRs w v l := by
  obtain ⟨a, cap, hv, hc, hm, hr⟩ := OwRow.rdN h
  refine ⟨a, cap, hv, hc, hm, fun i hi => ?_⟩
  have hl : l[i]? = some (l.getD i zR) := by rw [List.getD_eq_getElem?_getD, List.getElem?_eq_getElem hi]; rfl
  obtain ⟨b, h, e1, _, e2, e3, e4, a1, c1, a2, c2, e5, e6, e7⟩ := hr i _ hl
  subst e5
  refine ⟨b, 0, a1, c1, a2, c2, e1, e2, ?_, ?_, ?_, e6.rd, e7.rd⟩
  · rw [Nat.zero_add]; exact e4 0 (by omega)
  · rw [Nat.zero_add]; exact e4 1 (by omega)
  · rw [Nat.zero_add]; exact e4 2 (by omega)
theorem Tryz.infoR : (Tryz.prog.info? 62).map (fun i => (i.zero, i.size, i.bytes)) = some (some (.agg #[.bool false, .slice none 0 0, .slice none 0 0]), 3, 56) := by kernel_rfl
theorem take_snocD {α : Type} (l : List α) (k : Nat) (d : α) (h : k < l.length) : l.take (k + 1) = l.take k ++ [l.getD k d] := by
  rw [List.take_succ_eq_append_getElem h, List.getD_eq_getElem?_getD, List.getElem?_eq_getElem h]; rfl

set_option maxHeartbeats 2000000 in
theorem copyRats_any (v : Value) (l : List RR) (w : World) (h : RdRs w v l) (hs : l.length ≤ 1000000000) (hl : ∀ i, i < l.length → (l.getD i zR).num.length ≤ 1000000 ∧ (l.getD i zR).den.length ≤ 1000000) :
    Calls Tryz.prog 31 #[v] w fun e w' => (∃ v', e = .returned v' ∧ OwRs w.heap.size w' v' l) ∧ Ext w w' := by
  obtain ⟨a, cap, rfl, hc, hm, f, hr⟩ := h.get
  have HR := Lib.hid hr; have HL := Lib.hid hl
  clear h hr hl
  go_enter Tryz.func31, Tryz.ntmps31
  go_wp2_with fail
  go_loopw [3, 4] (fun v i wr => ∃ k : Nat, k ≤ l.length ∧ i = .int .i64 k ∧ OwRs w.heap.size wr v (l.take k) ∧ Ext w wr) (fun _ i _ => l.length - (intOf i).toNat)
  case atStart => exact ⟨0, Nat.zero_le _, rfl, OwRow.nil _ _ _ _ _, Ext.refl w⟩
  case round =>
    obtain ⟨k, hk, rfl, hown, hext⟩ := hrel
    by_cases hlt : k < l.length
    · obtain ⟨b, off, rfl, hb, x0, x1, x2, hrd⟩ := HR.out k hlt
      have y0 := (hext.cell (p := ⟨b, off + k * 3, none⟩) hb).trans x0
      have y1 := (hext.cell (p := ⟨b, off + k * 3 + 1, none⟩) hb).trans x1
      have y2 := (hext.cell (p := ⟨b, off + k * 3 + 2, none⟩) hb).trans x2
      have hcp := copyRat_any _ _ wr (hrd.ext hext) (HL.out k hlt)
      have hts := take_snocD l k zR hlt
      have hlk := List.length_take_of_le (Nat.le_of_lt hlt)
      obtain ⟨r, hrr⟩ : ∃ r, r = l.getD k zR := ⟨_, rfl⟩
      rw [← hrr] at y0 y1 y2 hcp hts
      have HC := Lib.hid hcp; have HO := Lib.hid hown; have HX := Lib.hid hext; have HT := Lib.hid hts; have HLK := Lib.hid hlk
      have hz := hext.size
      have q1 : (0 : Int) ≤ (k : Int) := by omega
      have q2 : (k : Int) < (l.length : Int) := by omega
      clear hcp hown hext hts hrd x0 x1 x2 hlk hrr
      go_wp2_with fail
      refine HC.out.mono ?_
      rintro e w1 ⟨⟨v1, rfl, nn⟩, hx⟩
      obtain ⟨n1, n2, n3, n4, rfl⟩ := nn.shape
      have HO1 := Lib.hid (OwRs.ext' HO.out hx); have HX1 := Lib.hid (HX.out.trans hx); have HE := Lib.hid (ElR.new (B := w.heap.size) nn)
      have hz1 := HX1.out.size
      clear nn hx y0 y1 y2
      go_wp2_with (at_builtin; (refine wpList_append_row w1 rfl _ _ 48 rfl w.heap.size 62 (.agg #[.bool false, .slice none 0 0, .slice none 0 0]) 3 56 Tryz.underlying48 Tryz.infoR rfl (by decide) (ElR.keeps (by decide)) _ _ HO1.out rfl [.bool r.neg, .slice n1 r.num.length n2, .slice n3 r.den.length n4] rfl (by simp [Value.oneCell']) r HE.out rfl (by have := HLK.out; omega) (by have := HLK.out; omega) hz1 ?_))
      intro g cap2 w2 hown2 hk2
      have HO2 := Lib.hid hown2; have HX2 := Lib.hid (Below.trans HX1.out (hk2.below hz1))
      clear hown2 hk2
      go_wp2
      go_roundw
      case rel =>
        refine ⟨k + 1, by omega, by go_num, ?_, HX2.out⟩
        rw [HT.out]
        exact HO2.out
      case measure => simp [intOf]; omega
    · rw [List.take_of_length_le (by omega)] at hown
      have HO := Lib.hid hown; have HX := Lib.hid hext
      clear hown hext
      go_wp2
      go_ret
      exact ⟨⟨_, rfl, HO.out⟩, HX.out⟩

set_option maxHeartbeats 2000000 in
theorem equalRats_any (v1 v2 : Value) (l1 l2 : List RR) (w : World) (h1 : RdRs w v1 l1) (h2 : RdRs w v2 l2) :
    Calls Tryz.prog 40 #[v1, v2] w fun e w' => e = .returned (.bool (decide (l1 = l2))) ∧ Ext w w' := by
  obtain ⟨a1, c1, rfl, hc1, hm1, f1, hr1⟩ := h1.get
  obtain ⟨a2, c2, rfl, hc2, hm2, f2, hr2⟩ := h2.get
  clear h1 h2
  by_cases hlen : l1.length = l2.length
  · have H1 := Lib.hid hr1; clear hr1
    have H2 := Lib.hid hr2; clear hr2
    rw [← hlen]
    rw [← hlen] at H2 hc2
    have HL := Lib.hid hlen; clear hlen
    go_enter Tryz.func40, Tryz.ntmps40
    go_wp2
    go_loopw [5] (fun i wr => ∃ k : Nat, k ≤ l1.length ∧ i = .int .i64 k ∧ l1.take k = l2.take k ∧ Ext w wr) (fun i _ => l1.length - (intOf i).toNat)
    case atStart => exact ⟨0, Nat.zero_le _, rfl, rfl, Ext.refl w⟩
    case round =>
      obtain ⟨k, hk, rfl, htake, hext⟩ := hrel
      have HT := Lib.hid htake; clear htake
      by_cases hlt : k < l1.length
      · obtain ⟨b1, o1, rfl, hb1, x0, x1, x2, hrd1⟩ := H1.out k hlt
        obtain ⟨b2, o2, rfl, hb2, z0, z1, z2, hrd2⟩ := H2.out k hlt
        have y0 := (hext.cell (p := ⟨b1, o1 + k * 3, none⟩) hb1).trans x0
        have y1 := (hext.cell (p := ⟨b1, o1 + k * 3 + 1, none⟩) hb1).trans x1
        have y2 := (hext.cell (p := ⟨b1, o1 + k * 3 + 2, none⟩) hb1).trans x2
        have y3 := (hext.cell (p := ⟨b2, o2 + k * 3, none⟩) hb2).trans z0
        have y4 := (hext.cell (p := ⟨b2, o2 + k * 3 + 1, none⟩) hb2).trans z1
        have y5 := (hext.cell (p := ⟨b2, o2 + k * 3 + 2, none⟩) hb2).trans z2
        have heq := fun W (x : Ext wr W) => equalRat_any _ _ _ _ W (hrd1.ext (hext.trans x)) (hrd2.ext (hext.trans x))
        have g1 : l1.take (k + 1) = l1.take k ++ [l1.getD k zR] := take_snocD l1 k zR hlt
        have g2 : l2.take (k + 1) = l2.take k ++ [l2.getD k zR] := take_snocD l2 k zR (HL.out ▸ hlt)
        obtain ⟨r1, hr1⟩ : ∃ r, r = l1.getD k zR := ⟨_, rfl⟩
        obtain ⟨r2, hr2⟩ : ∃ r, r = l2.getD k zR := ⟨_, rfl⟩
        rw [← hr1] at y0 y1 y2 heq g1
        rw [← hr2] at y3 y4 y5 heq g2
        have q1 : (0 : Int) ≤ (k : Int) := by omega
        have q2 : (k : Int) < (l1.length : Int) := by omega
        have hz := hext.size
        have lb1 : b1 < wr.heap.size := by have := hext.size; omega
        have lb2 : b2 < wr.heap.size := by have := hext.size; omega
        have G1 := Lib.hid g1; have G2 := Lib.hid g2; have HX := Lib.hid hext
        clear x0 x1 x2 z0 z1 z2 hrd1 hrd2 hr1 hr2 g1 g2 hext
        by_cases he : r1 = r2
        · rw [decide_eq_true he] at heq
          have HE := Lib.hid he; have HQ := Lib.hid heq
          clear he heq
          go_wp2_with fail
          (refine wp_region_quietE (by kernel_rfl) (by kernel_rfl) ?_; (repeat (go_big_quiet_step ((go_at_call 39; exact quietE (HQ.out _ (Later.ext _)))))); refine wpQuiet_nil ?_; rintro w1 ⟨⟨_, hx1⟩, rfl⟩; (try dsimp only); have hz1 := hx1.size; (try simp only [World.size_alloc, World.size_setCell, World.size_drew, size_drewN] at hz1); obtain ⟨hc1, hf1⟩ := hx1.old (B := w.heap.size) (by (try simp only [World.size_alloc, World.size_setCell, World.size_drew, size_drewN]); omega))
          have HX1 := Lib.hid (HX.out.trans hx1)
          clear hx1
          go_wp2
          go_roundw
          case rel => exact ⟨k + 1, by omega, by go_num, by rw [G1.out, G2.out, HT.out, HE.out], HX1.out⟩
          case measure => simp [intOf]; omega
        · rw [decide_eq_false he] at heq
          have HE := Lib.hid he; have HQ := Lib.hid heq
          clear he heq
          go_wp2_with fail
          (refine wp_region_quietE (by kernel_rfl) (by kernel_rfl) ?_; (repeat (go_big_quiet_step ((go_at_call 39; exact quietE (HQ.out _ (Later.ext _)))))); refine wpQuiet_nil ?_; rintro w1 ⟨⟨_, hx1⟩, rfl⟩; (try dsimp only); have hz1 := hx1.size; (try simp only [World.size_alloc, World.size_setCell, World.size_drew, size_drewN] at hz1); obtain ⟨hc1, hf1⟩ := hx1.old (B := w.heap.size) (by (try simp only [World.size_alloc, World.size_setCell, World.size_drew, size_drewN]); omega))
          have HX1 := Lib.hid (HX.out.trans hx1)
          clear hx1
          go_wp2
          go_ret
          refine ⟨ret_bool ?_, HX1.out⟩
          rw [eq_comm, decide_eq_false_iff_not]
          rintro rfl
          have := G1.out.symm.trans G2.out
          have := List.append_cancel_left this
          exact HE.out (by injection this)
      · have HX := Lib.hid hext; clear hext
        go_wp2
        go_ret
        refine ⟨ret_bool ?_, HX.out⟩
        have := HT.out
        rw [List.take_of_length_le (by omega), List.take_of_length_le (by have := HL.out; omega)] at this
        simp [this]
  · have hb : (l1.length != l2.length) = true := by simpa using hlen
    go_enter Tryz.func40, Tryz.ntmps40
    go_wp2
    go_ret
    refine ⟨ret_bool ?_, Ext.refl w⟩
    rw [eq_comm, decide_eq_false_iff_not]
    rintro rfl
    exact hlen rfl

end Go.Proofs.YthkfkfbfblppeaaGreat
