/- Part of the proof of mat6_holds: what the row needs of RatLs. Conditions: as each theorem states. -/
import Derived.Test.YtbnalhmcbolngaaGreatSmGJ
import Derived.Test.YtbnalhmcbolngaaGreatSmGG
import Derived.Test.YtbnalhmcbolngaaGreatSmOwRows
namespace Go.Proofs.YtbnalhmcbolngaaGreat
set_option linter.unusedSimpArgs false
set_option linter.unusedVariables false
open Go.RowKit
def RdRs (w : World) (v : Value) (l : List RR) : Prop :=
  ∃ a cap, v = .slice a l.length cap ∧ l.length ≤ cap ∧ cap ≤ 9223372036854775807 ∧
    ∀ i, i < l.length → ∃ b off a1 c1 a2 c2, a = some ⟨b, off, none⟩ ∧ b < w.heap.size ∧
      w.cell? ⟨b, off + i * 3, none⟩ = some (.bool (l.getD i zR).neg) ∧ w.cell? ⟨b, off + i * 3 + 1, none⟩ = some (.slice a1 (l.getD i zR).num.length c1) ∧ w.cell? ⟨b, off + i * 3 + 2, none⟩ = some (.slice a2 (l.getD i zR).den.length c2) ∧
      RdI .u32 w (.slice a1 (l.getD i zR).num.length c1) (l.getD i zR).num ∧ RdI .u32 w (.slice a2 (l.getD i zR).den.length c2) (l.getD i zR).den
theorem RdRs.ext {w w' : World} {v : Value} {l : List RR} (h : RdRs w v l) (e : Ext w w') : RdRs w' v l := by
  obtain ⟨a, cap, hv, hc, hm, hr⟩ := h
  refine ⟨a, cap, hv, hc, hm, fun i hi => ?_⟩
  obtain ⟨b, off, a1, c1, a2, c2, ha, hb, x0, x1, x2, r1, r2⟩ := hr i hi
  exact ⟨b, off, a1, c1, a2, c2, ha, Nat.lt_of_lt_of_le hb e.size, (e.cell (p := ⟨b, off + i * 3, none⟩) hb).trans x0, (e.cell (p := ⟨b, off + i * 3 + 1, none⟩) hb).trans x1, (e.cell (p := ⟨b, off + i * 3 + 2, none⟩) hb).trans x2, r1.ext e, r2.ext e⟩
theorem RdRs.nil (w : World) (a : Option Addr) : RdRs w (.slice a 0 0) [] := ⟨a, 0, rfl, Nat.le_refl _, by omega, fun i hi => by cases hi⟩
theorem RdRs.get {w : World} {v : Value} {l : List RR} (h : RdRs w v l) : ∃ a cap, v = .slice a l.length cap ∧ l.length ≤ cap ∧ cap ≤ 9223372036854775807 ∧
    ∃ f : Nat → (Option Addr × Nat) × (Option Addr × Nat), ∀ i, i < l.length → ∃ b off, a = some ⟨b, off, none⟩ ∧ b < w.heap.size ∧
      w.cell? ⟨b, off + i * 3, none⟩ = some (.bool (l.getD i zR).neg) ∧ w.cell? ⟨b, off + i * 3 + 1, none⟩ = some (.slice (f i).1.1 (l.getD i zR).num.length (f i).1.2) ∧ w.cell? ⟨b, off + i * 3 + 2, none⟩ = some (.slice (f i).2.1 (l.getD i zR).den.length (f i).2.2) ∧
      RdR w (.agg #[.bool (l.getD i zR).neg, .slice (f i).1.1 (l.getD i zR).num.length (f i).1.2, .slice (f i).2.1 (l.getD i zR).den.length (f i).2.2]) (l.getD i zR) := by
  obtain ⟨a, cap, hv, hc, hm, hr⟩ := h
  have h2 : ∀ i : Nat, ∃ y : (Option Addr × Nat) × (Option Addr × Nat), i < l.length → ∃ b off, a = some ⟨b, off, none⟩ ∧ b < w.heap.size ∧
      w.cell? ⟨b, off + i * 3, none⟩ = some (.bool (l.getD i zR).neg) ∧ w.cell? ⟨b, off + i * 3 + 1, none⟩ = some (.slice y.1.1 (l.getD i zR).num.length y.1.2) ∧ w.cell? ⟨b, off + i * 3 + 2, none⟩ = some (.slice y.2.1 (l.getD i zR).den.length y.2.2) ∧
      RdR w (.agg #[.bool (l.getD i zR).neg, .slice y.1.1 (l.getD i zR).num.length y.1.2, .slice y.2.1 (l.getD i zR).den.length y.2.2]) (l.getD i zR) := by
    intro i
    by_cases hi : i < l.length
    · obtain ⟨b, off, a1, c1, a2, c2, ha, hb, x0, x1, x2, r1, r2⟩ := hr i hi
      exact ⟨((a1, c1), (a2, c2)), fun _ => ⟨b, off, ha, hb, x0, x1, x2, _, _, rfl, r1, r2⟩⟩
    · exact ⟨((none, 0), (none, 0)), fun h => absurd h hi⟩
  exact ⟨a, cap, hv, hc, hm, fun i => Classical.choose (h2 i), fun i hi => Classical.choose_spec (h2 i) hi⟩
-- WALKS (written by mkls.py)
set_option maxHeartbeats 1000000 in
theorem copyRat_any (v : Value) (r : RR) (w : World) (h : RdR w v r) (hs : r.num.length ≤ 1000000 ∧ r.den.length ≤ 1000000) :
    Calls Tryz.prog 41 #[v] w fun e w' => (∃ v', e = .returned v' ∧ NewR w w' v' r) ∧ Ext w w' := by
  obtain ⟨a1, c1, a2, c2, rfl, hn, hd⟩ := h.parts
  obtain ⟨b, l1, l2⟩ := r
  dsimp only at hn hd hs ⊢
  obtain ⟨hs1, hs2⟩ := hs
  have HN := Lib.hid hn; have HD := Lib.hid hd
  clear hn hd h
  have bb0 := ((Blk.new w #[.bool b, .slice a1 l1.length c1, .slice a2 l2.length c2] 33).alloc (.cells #[.bool false, .slice none 0 0, .slice none 0 0] 33))
  have bb1 := (Blk.new (w.alloc (.cells #[.bool b, .slice a1 l1.length c1, .slice a2 l2.length c2] 33)) #[.bool false, .slice none 0 0, .slice none 0 0] 33)
  rw [World.size_alloc] at bb1
  have x0 : Ext w ((w.alloc (.cells #[.bool b, .slice a1 l1.length c1, .slice a2 l2.length c2] 33)).alloc (.cells #[.bool false, .slice none 0 0, .slice none 0 0] 33)) := (((Ext.refl w).alloc _).alloc _)
  have A0 := Lib.hid bb0; have A1 := Lib.hid bb1; have X := Lib.hid x0
  clear x0 bb0 bb1
  have HN := Lib.hid (HN.out.ext X.out); have HD := Lib.hid (HD.out.ext X.out)
  go_enter Tryz.func41, Tryz.ntmps41
  go_wp2_with fail
  refine wp_region_held_drew (S := (fun W => (Blk W w.heap.size #[.bool b, .slice a1 l1.length c1, .slice a2 l2.length c2] 33 ∧ W.cell? ⟨w.heap.size, 0, none⟩ = some (.bool b) ∧ W.cell? ⟨w.heap.size, 1, none⟩ = some (.slice a1 l1.length c1) ∧ W.cell? ⟨w.heap.size, 2, none⟩ = some (.slice a2 l2.length c2)))) (by kernel_rfl) ?_ (fun hHeld => ?_)
  · exact Blk.s3 A0.out.drew
  refine wpAnyH_take (i := 0) (v := ?_) rfl (by kernel_rfl) (by kernel_rfl) (by kernel_rfl) (fun _ _ _ h => h) (Or.inl ⟨by rfl, ?_⟩) (by assumption) ?_
  rotate_left
  · (intro w hSw; (try dsimp only at hSw); go_simp; first | done | with_reducible rfl)
  (try simp only [Act.put, List.getElem_toArray, List.getElem_cons_zero, List.getElem_cons_succ, List.setIfInBounds_toArray, List.set_cons_zero, List.set_cons_succ])
  refine wpAnyH_take (i := 1) (v := ?_) rfl (by kernel_rfl) (by kernel_rfl) (by kernel_rfl) (fun _ _ _ h => h) (Or.inl ⟨by rfl, ?_⟩) (by assumption) ?_
  rotate_left
  · (intro w hSw; (try dsimp only at hSw); go_simp; first | done | with_reducible rfl)
  (try simp only [Act.put, List.getElem_toArray, List.getElem_cons_zero, List.getElem_cons_succ, List.setIfInBounds_toArray, List.set_cons_zero, List.set_cons_succ])
  refine wpAnyH_take (i := 2) (v := ?_) rfl (by kernel_rfl) (by kernel_rfl) (by kernel_rfl) (fun _ _ _ h => h) (Or.inl ⟨by rfl, ?_⟩) (by assumption) ?_
  rotate_left
  · (intro w hSw; (try dsimp only at hSw); go_simp; first | done | with_reducible rfl)
  (try simp only [Act.put, List.getElem_toArray, List.getElem_cons_zero, List.getElem_cons_succ, List.setIfInBounds_toArray, List.set_cons_zero, List.set_cons_succ])
  refine wpAnyH_take (i := 3) (v := ?_) rfl (by kernel_rfl) (by kernel_rfl) (by kernel_rfl) (fun _ _ _ h => h) (Or.inl ⟨by rfl, ?_⟩) (by assumption) ?_
  rotate_left
  · (intro w hSw; (try dsimp only at hSw); go_simp; first | done | with_reducible rfl)
  (try simp only [Act.put, List.getElem_toArray, List.getElem_cons_zero, List.getElem_cons_succ, List.setIfInBounds_toArray, List.set_cons_zero, List.set_cons_succ])
  refine wpAnyH_take (i := 5) (v := ?_) rfl (by kernel_rfl) (by kernel_rfl) (by kernel_rfl) (fun _ _ _ h => h) (Or.inl ⟨by rfl, ?_⟩) (by assumption) ?_
  rotate_left
  · (intro w hSw; (try dsimp only at hSw); go_simp; first | done | with_reducible rfl)
  (try simp only [Act.put, List.getElem_toArray, List.getElem_cons_zero, List.getElem_cons_succ, List.setIfInBounds_toArray, List.set_cons_zero, List.set_cons_succ])
  refine wpAnyH_take (i := 6) (v := ?_) rfl (by kernel_rfl) (by kernel_rfl) (by kernel_rfl) (fun _ _ _ h => h) (Or.inl ⟨by rfl, ?_⟩) (by assumption) ?_
  rotate_left
  · (intro w hSw; (try dsimp only at hSw); go_simp; first | done | with_reducible rfl)
  (try simp only [Act.put, List.getElem_toArray, List.getElem_cons_zero, List.getElem_cons_succ, List.setIfInBounds_toArray, List.set_cons_zero, List.set_cons_succ])
  have x1 := X.out
  refine wpAnyH_ready (rs := [4]) (by kernel_rfl) (by simp) ?_
  refine AllReadyH.cons rfl (fun K hK => ?_) ?_
  rotate_left
  · exact AllReadyH.nil
  go_simp
  refine (copyNat_any (.slice a1 l1.length c1) l1 _ (HN.out.ext (by first | exact Ext.refl _ | exact (Ext.refl _).drew)) (by omega)).mono ?_
  rintro e w1 ⟨⟨v, rfl, nn⟩, hx⟩
  have hx := Ext.trans (show Ext ((w.alloc (.cells #[.bool b, .slice a1 l1.length c1, .slice a2 l2.length c2] 33)).alloc (.cells #[.bool false, .slice none 0 0, .slice none 0 0] 33)) _ from by first | exact Ext.refl _ | exact (Ext.refl _).drew) hx
  have A0 := Lib.hid (A0.out.ext hx); have A1 := Lib.hid (A1.out.ext hx); have HN := Lib.hid (HN.out.ext hx); have HD := Lib.hid (HD.out.ext hx); have X := Lib.hid (X.out.trans hx)
  obtain ⟨n1, n2, rfl⟩ := nn.shape
  have On := Lib.hid (nn.from (Ext.trans x1 (by (repeat (first | (with_reducible exact Ext.refl _) | (with_reducible assumption) | (with_reducible refine Ext.alloc ?_ _) | ((with_reducible refine Ext.setp ?_ ?_); focus (dsimp only; omega)) | (with_reducible refine Ext.drew ?_) | (with_reducible refine Ext.drewN ?_ _) | (with_reducible refine Ext.trans ?_ (by assumption)))))))
  clear nn hx x1
  first | refine hK.out _ _ ?_ (fun hHeld => ?_) | (go_wp2_with fail; refine hK.out _ _ ?_ (fun hHeld => ?_))
  · exact Blk.s3 A0.out
  clear hK K
  (try simp only [Act.put, List.getElem_toArray, List.getElem_cons_zero, List.getElem_cons_succ, List.setIfInBounds_toArray, List.set_cons_zero, List.set_cons_succ])
  have x1 := X.out
  refine wpAnyH_ready (rs := [7]) (by kernel_rfl) (by simp) ?_
  refine AllReadyH.cons rfl (fun K hK => ?_) ?_
  rotate_left
  · exact AllReadyH.nil
  go_simp
  refine (copyNat_any (.slice a2 l2.length c2) l2 _ (HD.out.ext (by first | exact Ext.refl _ | exact (Ext.refl _).drew)) (by omega)).mono ?_
  rintro e w2 ⟨⟨v, rfl, nn⟩, hx⟩
  have hx := Ext.trans (show Ext w1 _ from by first | exact Ext.refl _ | exact (Ext.refl _).drew) hx
  have A0 := Lib.hid (A0.out.ext hx); have A1 := Lib.hid (A1.out.ext hx); have HN := Lib.hid (HN.out.ext hx); have HD := Lib.hid (HD.out.ext hx); have On := Lib.hid (On.out.ext hx); have X := Lib.hid (X.out.trans hx)
  obtain ⟨d1, d2, rfl⟩ := nn.shape
  have Od := Lib.hid (nn.from (Ext.trans x1 (by (repeat (first | (with_reducible exact Ext.refl _) | (with_reducible assumption) | (with_reducible refine Ext.alloc ?_ _) | ((with_reducible refine Ext.setp ?_ ?_); focus (dsimp only; omega)) | (with_reducible refine Ext.drew ?_) | (with_reducible refine Ext.drewN ?_ _) | (with_reducible refine Ext.trans ?_ (by assumption)))))))
  clear nn hx x1
  first | refine hK.out _ _ ?_ (fun hHeld => ?_) | (go_wp2_with fail; refine hK.out _ _ ?_ (fun hHeld => ?_))
  · exact Blk.s3 A0.out
  clear hK K
  (try simp only [Act.put, List.getElem_toArray, List.getElem_cons_zero, List.getElem_cons_succ, List.setIfInBounds_toArray, List.set_cons_zero, List.set_cons_succ])
  refine wpAnyH_take (i := 8) (v := ?_) rfl (by kernel_rfl) (by kernel_rfl) (by kernel_rfl) (fun _ _ _ h => h) (Or.inl ⟨by rfl, ?_⟩) (by assumption) ?_
  rotate_left
  · (intro w hSw; (try dsimp only at hSw); go_simp; first | done | with_reducible rfl)
  (try simp only [Act.put, List.getElem_toArray, List.getElem_cons_zero, List.getElem_cons_succ, List.setIfInBounds_toArray, List.set_cons_zero, List.set_cons_succ])
  have q2 := A1.out.cell; have f2 := A1.out.free; have l2' := A1.out.lt
  refine wpAnyH_ready (rs := [9]) (by kernel_rfl) (by simp) ?_
  refine AllReadyH.cons rfl (fun K hK => ?_) ?_
  rotate_left
  · exact AllReadyH.nil
  go_simp
  first | refine hK.out _ _ ?_ (fun hHeld => ?_) | (go_wp2_with fail; refine hK.out _ _ ?_ (fun hHeld => ?_))
  · ((try dsimp only); (refine Blk.s3 ?_ <;> (repeat (first | exact A0.out | refine Blk.setOther ?_ (by dsimp only; omega) _ | refine Blk.alloc ?_ _ | refine Blk.drew ?_))))
  clear hK K
  (try simp only [Act.put, List.getElem_toArray, List.getElem_cons_zero, List.getElem_cons_succ, List.setIfInBounds_toArray, List.set_cons_zero, List.set_cons_succ])
  refine wpAnyH_done (by kernel_rfl) ?_ _
  go_wp2_with fail
  refine bodyPost_ret (v := .agg #[.bool b, .slice n1 l1.length n2, .slice d1 l2.length d2]) (by simp only [results, Tryz.results41]; go_simp) rfl ⟨⟨_, rfl, ?_⟩, ?_⟩
  · exact ⟨_, _, rfl, OwB.set3 On.out A1.out (by decide) _ _ _, OwB.set3 Od.out A1.out (by decide) _ _ _⟩
  · have := X.out; (repeat (first | (with_reducible exact Ext.refl _) | (with_reducible assumption) | (with_reducible refine Ext.alloc ?_ _) | ((with_reducible refine Ext.setp ?_ ?_); focus (dsimp only; omega)) | (with_reducible refine Ext.drew ?_) | (with_reducible refine Ext.drewN ?_ _) | (with_reducible refine Ext.trans ?_ (by assumption))))
def ElR (B : Nat) (w : World) (h : List Value) (r : RR) : Prop := ∃ a1 c1 a2 c2, h = [.bool r.neg, .slice a1 r.num.length c1, .slice a2 r.den.length c2] ∧ SfU B w (.slice a1 r.num.length c1) r.num ∧ SfU B w (.slice a2 r.den.length c2) r.den
theorem ElR.ext {B : Nat} {w w' : World} {h : List Value} {r : RR} (e : ElR B w h r) (k : Ext w w') : ElR B w' h r := by
  obtain ⟨a1, c1, a2, c2, e1, e2, e3⟩ := e
  exact ⟨a1, c1, a2, c2, e1, e2.ext k, e3.ext k⟩
theorem ElR.new {B : Nat} {w0 w : World} {a1 a2 : Option Addr} {c1 c2 : Nat} {r : RR} (h : NewR w0 w (.agg #[.bool r.neg, .slice a1 r.num.length c1, .slice a2 r.den.length c2]) r) : ElR B w [.bool r.neg, .slice a1 r.num.length c1, .slice a2 r.den.length c2] r := by
  obtain ⟨vn, vd, e, h1, h2⟩ := h
  injection e with e
  simp only [Array.mk.injEq, List.cons.injEq, and_true, true_and] at e
  obtain ⟨rfl, rfl⟩ := e
  exact ⟨a1, c1, a2, c2, rfl, SfU.new h1, SfU.new h2⟩
theorem ElR.old {B : Nat} {w : World} {a1 a2 : Option Addr} {c1 c2 : Nat} {r : RR} (h : RdR w (.agg #[.bool r.neg, .slice a1 r.num.length c1, .slice a2 r.den.length c2]) r) (hB : w.heap.size ≤ B) : ElR B w [.bool r.neg, .slice a1 r.num.length c1, .slice a2 r.den.length c2] r := by
  obtain ⟨vn, vd, e, h1, h2⟩ := h
  injection e with e
  simp only [Array.mk.injEq, List.cons.injEq, and_true, true_and] at e
  obtain ⟨rfl, rfl⟩ := e
  exact ⟨a1, c1, a2, c2, rfl, SfU.old h1 hB, SfU.old h2 hB⟩
abbrev OwRs (B : Nat) (w : World) (v : Value) (l : List RR) : Prop := OwRow 33 3 (ElR B) B w v l
theorem OwRs.rd {B : Nat} {w : World} {v : Value} {l : List RR} (h : OwRs B w v l) : RdRs w v l := by
  obtain ⟨a, cap, hv, hc, hm, hr⟩ := OwRow.rdN h
  refine ⟨a, cap, hv, hc, hm, fun i hi => ?_⟩
  have hl : l[i]? = some (l.getD i zR) := by rw [List.getD_eq_getElem?_getD, List.getElem?_eq_getElem hi]; rfl
  obtain ⟨b, h, e1, _, e2, e3, e4, a1, c1, a2, c2, e5, e6, e7⟩ := hr i _ hl
  subst e5
  refine ⟨b, 0, a1, c1, a2, c2, e1, e2, ?_, ?_, ?_, e6.rd, e7.rd⟩
  · rw [Nat.zero_add]; exact e4 0 (by omega)
  · rw [Nat.zero_add]; exact e4 1 (by omega)
  · rw [Nat.zero_add]; exact e4 2 (by omega)
end Go.Proofs.YtbnalhmcbolngaaGreat
