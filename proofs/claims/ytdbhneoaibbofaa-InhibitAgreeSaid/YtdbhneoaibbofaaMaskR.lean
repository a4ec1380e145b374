/- Walk of the reference's Mask of layer 30. Conditions: the advisories read as a slice. -/
import Derived.Test.YtdbhneoaibbofaaAdvR
import Derived.Test.YtdbhneoaibbofaaInhB
import Derived.Test.YtdbhneoaibbofaaSpecM
import Derived.Test.YtdbhneoaibbofaaBase2
import Derived.Test.YtdbhneoaibbofaaReg3
namespace Go.Proofs.Ytdbhneoaibbofaa
set_option linter.unusedSimpArgs false
set_option linter.unusedVariables false
open Go.RowKit

theorem Try.infoBool : (Try.prog.info? 4).map (fun i => (i.zero, i.size, i.bytes)) = some (some (.bool false), 1, 1) := by kernel_rfl
abbrev OwBo (w : World) (B : Nat) (v : Value) (l : List Bool) : Prop := w.ownsRow B 4 1 v l.length (l.map Value.bool)

def MkRel (w : World) (de dl se sl ae al r : Int) (bd bs ba : Bool) (l : List Bnd) (k : Nat) (v : Value) (wr : World) : Prop :=
  Ext w wr ∧ Blk wr w.heap.size #[.int .i64 de, .int .i64 dl, .int .i64 se, .int .i64 sl, .int .i64 ae, .int .i64 al, .int .i64 r] 25 ∧
  Blk wr (w.heap.size + 1) #[.bool bd, .bool bs, .bool ba] 27 ∧ OwBo wr (w.heap.size + 2) v (mskL r bd bs ba (l.take k))

set_option maxRecDepth 100000 in
set_option maxHeartbeats 4000000 in
theorem refMask_0 (v1 : Value) (de dl se sl ae al r : Int) (bd bs ba : Bool) (l : List Bnd) (w : World) (h1 : RdBnd w v1 l) (ha : achk l = 0) (hc : chk de dl se sl ae al r = 0) :
    Calls Try.prog 10 #[v1, .agg #[.int .i64 de, .int .i64 dl, .int .i64 se, .int .i64 sl, .int .i64 ae, .int .i64 al, .int .i64 r], .agg #[.bool bd, .bool bs, .bool ba]] w fun en w' =>
      (∃ v, en = .returned (.tuple #[v, .int .i64 0]) ∧ OwBo w' w.heap.size v (mskL r bd bs ba l)) ∧ Ext w w' := by
  have hrd := h1
  obtain ⟨a, cap, rfl, hca, hm, hr⟩ := h1.get
  clear h1
  have HR := Lib.hid hr; have H1 := Lib.hid hrd; clear hr hrd
  obtain ⟨_, _, _, hr0, hr1⟩ := chk_ok hc
  obtain ⟨hl0, hl6⟩ := achk_len ha
  have HA := Lib.hid ha; have HC := Lib.hid hc; clear ha hc
  go_enter Try.func10, Try.ntmps10
  go_wp2_with fail
  refine (refAchk_any _ l _ (H1.out.ext (((Ext.refl w).alloc _).alloc _))).mono ?_
  rintro e w1 ⟨rfl, hx1⟩
  have hX : Ext w w1 := (((Ext.refl w).alloc _).alloc _).trans hx1
  have hB0 := ((Blk.new w #[.int .i64 de, .int .i64 dl, .int .i64 se, .int .i64 sl, .int .i64 ae, .int .i64 al, .int .i64 r] 25).alloc (.cells #[.bool bd, .bool bs, .bool ba] 27)).ext hx1
  have hB1 := (Blk.new (w.alloc (.cells #[.int .i64 de, .int .i64 dl, .int .i64 se, .int .i64 sl, .int .i64 ae, .int .i64 al, .int .i64 r] 25)) #[.bool bd, .bool bs, .bool ba] 27).ext hx1
  rw [World.size_alloc] at hB1
  have c0 := hB0.cell
  have GX := Lib.hid hX; have G0 := Lib.hid hB0; have G1 := Lib.hid hB1; clear hX hB0 hB1 hx1
  rw [HA.out]
  go_wp2_with fail
  refine (refCheck_any _ _ _ _ _ _ _ _).mono ?_
  rintro e w2 ⟨rfl, hx2⟩
  have hR : MkRel w de dl se sl ae al r bd bs ba l 0 (.slice none 0 0) w2 := ⟨GX.out.trans hx2, G0.out.ext hx2, G1.out.ext hx2, World.ownsRow_nil _ _ _ _⟩
  have HX := Lib.hid hR; clear hR hx2 GX G0 G1
  rw [HC.out]
  go_wp2_with fail
  go_loopw [9, 10] (fun v i wr => ∃ k : Nat, k ≤ l.length ∧ i = .int .i64 k ∧ MkRel w de dl se sl ae al r bd bs ba l k v wr) (fun _ i _ => l.length - (intOf i).toNat)
  case atStart => exact ⟨0, by omega, rfl, HX.out⟩
  case round =>
    obtain ⟨k, hk, rfl, hext, hb0, hb1, hown⟩ := hrel
    by_cases hlt : k < l.length
    · obtain ⟨x, hx⟩ : ∃ x, l[k]? = some x := ⟨l[k], List.getElem?_eq_getElem hlt⟩
      obtain ⟨b, off, rfl, hb, hy1, hy2, hy3⟩ := HR.out k x hx
      have p3 := (hext.cell (p := ⟨b, off + k * 3 + 2, none⟩) hb).trans hy3
      clear hy1 hy2 hy3
      have hz := hext.size
      have hbr : b < wr.heap.size := by omega
      have c1 := hb0.cell; have c2 := hb1.cell; have l0 := hb0.lt; have l1 := hb1.lt
      unfold OwBo at hown
      rw [mskL_len, List.length_take_of_le (by omega)] at hown
      have q1 : (0 : Int) ≤ (k : Int) := by omega
      have q2 : (k : Int) < (l.length : Int) := by omega
      have hcase := maskCase hr0 bd bs ba k x.2.2
      obtain ⟨s, lo, hi⟩ := x
      dsimp only at p3 hcase
      have hE := mskL_take (r := r) (bd := bd) (bs := bs) (ba := ba) hx
      dsimp only at hE
      obtain ⟨mk, hmk⟩ : ∃ mk, mk = mskE r bd bs ba k hi := ⟨_, rfl⟩
      rw [← hmk] at hE hcase
      have HXX := Lib.hid hx; have HE := Lib.hid hE; have HO := Lib.hid hown; have HXT := Lib.hid hext; have HB0 := Lib.hid hb0; have HB1 := Lib.hid hb1
      clear hmk hx hE hown hext hb0 hb1
      cases hcase
      case first h =>
        go_wp2_with fail
        (refine wp_region_pqtE 1 37 (by kernel_rfl) (by kernel_rfl) (fun _ _ d _ _ h => by cases d <;> exact h) ?_; simp only [Nat.reduceAdd, Nat.reduceSub, List.take_succ_cons, List.take_zero, List.take_nil, List.drop_succ_cons, List.drop_zero]; (repeat (go_big_quiet_step (fail))); refine wpQuiet_nil ?_; (try dsimp only); (repeat (go_big_quiet_step ((fail)))); refine wpQuiet_nil ?_; rintro w1 ⟨⟨_, hx1⟩, rfl⟩; (try dsimp only); have hz1 := hx1.size; (try simp only [World.size_alloc, World.size_setCell, World.size_drew, size_drewN] at hz1); obtain ⟨hc1, hf1⟩ := hx1.old (B := w.heap.size) (by (try simp only [World.size_alloc, World.size_setCell, World.size_drew, size_drewN]); omega); have hs0 : w.heap.size < w1.heap.size := (by omega); have hl0 : w.heap.size ≤ w1.heap.size := (by omega); have hm0 : w.heap.size ≤ w1.heap.size + 1 := (by omega); obtain ⟨hcb0, hfb0⟩ := hx1.block_at (b := w.heap.size) (by (try simp only [World.size_alloc, World.size_setCell, World.size_drew, size_drewN]); omega); have hs1 : w.heap.size + 1 < w1.heap.size := (by omega); have hl1 : w.heap.size + 1 ≤ w1.heap.size := (by omega); have hm1 : w.heap.size + 1 ≤ w1.heap.size + 1 := (by omega); obtain ⟨hcb1, hfb1⟩ := hx1.block_at (b := w.heap.size + 1) (by (try simp only [World.size_alloc, World.size_setCell, World.size_drew, size_drewN]); omega))
        have hE1 := HXT.out.trans hx1
        have hO := own_ext HO.out hx1
        have hB0 := HB0.out.ext hx1; have hB1 := HB1.out.ext hx1
        have GE1 := Lib.hid hE1; have GO := Lib.hid hO; have GB0 := Lib.hid hB0; have GB1 := Lib.hid hB1
        clear hE1 hO hB0 hB1
        go_wp2_with (at_builtin; refine wpList_append_at w1 w1.heap.size rfl rfl _ _ 34 rfl (w.heap.size + 2) 4 (.bool false) 1 1 Try.underlying34 Try.infoBool rfl (by decide) _ _ _ GO.out rfl [_] rfl (by simp [Value.oneCell']) rfl (by omega) (by omega) (by omega) ?_)
        intro g cap' w3 hown3 hb3
        have hE3 : Ext w w3 := Below.trans GE1.out (hb3.mono (by omega))
        have hG0 := GB0.out.below hb3 (by omega)
        have hG1 := GB1.out.below hb3 (by omega)
        have HE3 := Lib.hid hE3; have HG0 := Lib.hid hG0; have HG1 := Lib.hid hG1; have HO3 := Lib.hid hown3
        clear hE3 hG0 hG1 hown3 hb3
        go_wp2
        go_roundw
        case rel =>
          refine ⟨k + 1, by omega, by go_num, HE3.out, HG0.out, HG1.out, ?_⟩
          unfold OwBo
          rw [mskL_len, List.length_take_of_le (by omega), HE.out, List.map_append]
          exact HO3.out
        case measure => simp [intOf]; omega
      case all h h1 =>
        subst h1
        go_wp2_with fail
        (refine wp_region_pqtE 1 37 (by kernel_rfl) (by kernel_rfl) (fun _ _ d _ _ h => by cases d <;> exact h) ?_; simp only [Nat.reduceAdd, Nat.reduceSub, List.take_succ_cons, List.take_zero, List.take_nil, List.drop_succ_cons, List.drop_zero]; (repeat (go_big_quiet_step (fail))); refine wpQuiet_nil ?_; (try dsimp only); (repeat (go_big_quiet_step ((fail)))); refine wpQuiet_nil ?_; rintro w1 ⟨⟨_, hx1⟩, rfl⟩; (try dsimp only); have hz1 := hx1.size; (try simp only [World.size_alloc, World.size_setCell, World.size_drew, size_drewN] at hz1); obtain ⟨hc1, hf1⟩ := hx1.old (B := w.heap.size) (by (try simp only [World.size_alloc, World.size_setCell, World.size_drew, size_drewN]); omega); have hs0 : w.heap.size < w1.heap.size := (by omega); have hl0 : w.heap.size ≤ w1.heap.size := (by omega); have hm0 : w.heap.size ≤ w1.heap.size + 1 := (by omega); obtain ⟨hcb0, hfb0⟩ := hx1.block_at (b := w.heap.size) (by (try simp only [World.size_alloc, World.size_setCell, World.size_drew, size_drewN]); omega); have hs1 : w.heap.size + 1 < w1.heap.size := (by omega); have hl1 : w.heap.size + 1 ≤ w1.heap.size := (by omega); have hm1 : w.heap.size + 1 ≤ w1.heap.size + 1 := (by omega); obtain ⟨hcb1, hfb1⟩ := hx1.block_at (b := w.heap.size + 1) (by (try simp only [World.size_alloc, World.size_setCell, World.size_drew, size_drewN]); omega))
        have hE1 := HXT.out.trans hx1
        have hO := own_ext HO.out hx1
        have hB0 := HB0.out.ext hx1; have hB1 := HB1.out.ext hx1
        have GE1 := Lib.hid hE1; have GO := Lib.hid hO; have GB0 := Lib.hid hB0; have GB1 := Lib.hid hB1
        clear hE1 hO hB0 hB1
        go_wp2_with (at_builtin; refine wpList_append_at w1 w1.heap.size rfl rfl _ _ 34 rfl (w.heap.size + 2) 4 (.bool false) 1 1 Try.underlying34 Try.infoBool rfl (by decide) _ _ _ GO.out rfl [_] rfl (by simp [Value.oneCell']) rfl (by omega) (by omega) (by omega) ?_)
        intro g cap' w3 hown3 hb3
        have hE3 : Ext w w3 := Below.trans GE1.out (hb3.mono (by omega))
        have hG0 := GB0.out.below hb3 (by omega)
        have hG1 := GB1.out.below hb3 (by omega)
        have HE3 := Lib.hid hE3; have HG0 := Lib.hid hG0; have HG1 := Lib.hid hG1; have HO3 := Lib.hid hown3
        clear hE3 hG0 hG1 hown3 hb3
        go_wp2
        go_roundw
        case rel =>
          refine ⟨k + 1, by omega, by go_num, HE3.out, HG0.out, HG1.out, ?_⟩
          unfold OwBo
          rw [mskL_len, List.length_take_of_le (by omega), HE.out, List.map_append]
          exact HO3.out
        case measure => simp [intOf]; omega
      case desc h h1 h2 h3 =>
        subst h1
        subst h2
        have hd3 : decide (hi < 0) = true := by simpa using h3
        go_wp2_with fail
        (refine wp_region_pqtE 1 37 (by kernel_rfl) (by kernel_rfl) (fun _ _ d _ _ h => by cases d <;> exact h) ?_; simp only [Nat.reduceAdd, Nat.reduceSub, List.take_succ_cons, List.take_zero, List.take_nil, List.drop_succ_cons, List.drop_zero]; (repeat (go_big_quiet_step (fail))); refine wpQuiet_nil ?_; (try dsimp only); (repeat (go_big_quiet_step ((fail)))); refine wpQuiet_nil ?_; rintro w1 ⟨⟨_, hx1⟩, rfl⟩; (try dsimp only); have hz1 := hx1.size; (try simp only [World.size_alloc, World.size_setCell, World.size_drew, size_drewN] at hz1); obtain ⟨hc1, hf1⟩ := hx1.old (B := w.heap.size) (by (try simp only [World.size_alloc, World.size_setCell, World.size_drew, size_drewN]); omega); have hs0 : w.heap.size < w1.heap.size := (by omega); have hl0 : w.heap.size ≤ w1.heap.size := (by omega); have hm0 : w.heap.size ≤ w1.heap.size + 1 := (by omega); obtain ⟨hcb0, hfb0⟩ := hx1.block_at (b := w.heap.size) (by (try simp only [World.size_alloc, World.size_setCell, World.size_drew, size_drewN]); omega); have hs1 : w.heap.size + 1 < w1.heap.size := (by omega); have hl1 : w.heap.size + 1 ≤ w1.heap.size := (by omega); have hm1 : w.heap.size + 1 ≤ w1.heap.size + 1 := (by omega); obtain ⟨hcb1, hfb1⟩ := hx1.block_at (b := w.heap.size + 1) (by (try simp only [World.size_alloc, World.size_setCell, World.size_drew, size_drewN]); omega))
        have hE1 := HXT.out.trans hx1
        have hO := own_ext HO.out hx1
        have hB0 := HB0.out.ext hx1; have hB1 := HB1.out.ext hx1
        have GE1 := Lib.hid hE1; have GO := Lib.hid hO; have GB0 := Lib.hid hB0; have GB1 := Lib.hid hB1
        clear hE1 hO hB0 hB1
        go_wp2_with (at_builtin; refine wpList_append_at w1 w1.heap.size rfl rfl _ _ 34 rfl (w.heap.size + 2) 4 (.bool false) 1 1 Try.underlying34 Try.infoBool rfl (by decide) _ _ _ GO.out rfl [_] rfl (by simp [Value.oneCell']) rfl (by omega) (by omega) (by omega) ?_)
        intro g cap' w3 hown3 hb3
        have hE3 : Ext w w3 := Below.trans GE1.out (hb3.mono (by omega))
        have hG0 := GB0.out.below hb3 (by omega)
        have hG1 := GB1.out.below hb3 (by omega)
        have HE3 := Lib.hid hE3; have HG0 := Lib.hid hG0; have HG1 := Lib.hid hG1; have HO3 := Lib.hid hown3
        clear hE3 hG0 hG1 hown3 hb3
        go_wp2
        go_roundw
        case rel =>
          refine ⟨k + 1, by omega, by go_num, HE3.out, HG0.out, HG1.out, ?_⟩
          unfold OwBo
          rw [mskL_len, List.length_take_of_le (by omega), HE.out, List.map_append]
          exact HO3.out
        case measure => simp [intOf]; omega
      case d1 h h1 h2 h3 h4 h5 =>
        subst h1
        subst h2
        subst h4
        have hd3 : decide (hi < 0) = false := by simp; omega
        have hd5 : decide (hi < -r) = false := by simp; omega
        go_wp2_with fail
        (refine wp_region_pqtE 1 37 (by kernel_rfl) (by kernel_rfl) (fun _ _ d _ _ h => by cases d <;> exact h) ?_; simp only [Nat.reduceAdd, Nat.reduceSub, List.take_succ_cons, List.take_zero, List.take_nil, List.drop_succ_cons, List.drop_zero]; (repeat (go_big_quiet_step (fail))); refine wpQuiet_nil ?_; (try dsimp only); (repeat (go_big_quiet_step ((fail)))); refine wpQuiet_nil ?_; rintro w1 ⟨⟨_, hx1⟩, rfl⟩; (try dsimp only); have hz1 := hx1.size; (try simp only [World.size_alloc, World.size_setCell, World.size_drew, size_drewN] at hz1); obtain ⟨hc1, hf1⟩ := hx1.old (B := w.heap.size) (by (try simp only [World.size_alloc, World.size_setCell, World.size_drew, size_drewN]); omega); have hs0 : w.heap.size < w1.heap.size := (by omega); have hl0 : w.heap.size ≤ w1.heap.size := (by omega); have hm0 : w.heap.size ≤ w1.heap.size + 1 := (by omega); obtain ⟨hcb0, hfb0⟩ := hx1.block_at (b := w.heap.size) (by (try simp only [World.size_alloc, World.size_setCell, World.size_drew, size_drewN]); omega); have hs1 : w.heap.size + 1 < w1.heap.size := (by omega); have hl1 : w.heap.size + 1 ≤ w1.heap.size := (by omega); have hm1 : w.heap.size + 1 ≤ w1.heap.size + 1 := (by omega); obtain ⟨hcb1, hfb1⟩ := hx1.block_at (b := w.heap.size + 1) (by (try simp only [World.size_alloc, World.size_setCell, World.size_drew, size_drewN]); omega))
        have hE1 := HXT.out.trans hx1
        have hO := own_ext HO.out hx1
        have hB0 := HB0.out.ext hx1; have hB1 := HB1.out.ext hx1
        have GE1 := Lib.hid hE1; have GO := Lib.hid hO; have GB0 := Lib.hid hB0; have GB1 := Lib.hid hB1
        clear hE1 hO hB0 hB1
        go_wp2_with (at_builtin; refine wpList_append_at w1 w1.heap.size rfl rfl _ _ 34 rfl (w.heap.size + 2) 4 (.bool false) 1 1 Try.underlying34 Try.infoBool rfl (by decide) _ _ _ GO.out rfl [_] rfl (by simp [Value.oneCell']) rfl (by omega) (by omega) (by omega) ?_)
        intro g cap' w3 hown3 hb3
        have hE3 : Ext w w3 := Below.trans GE1.out (hb3.mono (by omega))
        have hG0 := GB0.out.below hb3 (by omega)
        have hG1 := GB1.out.below hb3 (by omega)
        have HE3 := Lib.hid hE3; have HG0 := Lib.hid hG0; have HG1 := Lib.hid hG1; have HO3 := Lib.hid hown3
        clear hE3 hG0 hG1 hown3 hb3
        go_wp2
        go_roundw
        case rel =>
          refine ⟨k + 1, by omega, by go_num, HE3.out, HG0.out, HG1.out, ?_⟩
          unfold OwBo
          rw [mskL_len, List.length_take_of_le (by omega), HE.out, List.map_append]
          exact HO3.out
        case measure => simp [intOf]; omega
      case d2 h h1 h2 h3 h4 =>
        subst h1
        subst h2
        subst h4
        have hd3 : decide (hi < 0) = false := by simp; omega
        go_wp2_with fail
        (refine wp_region_pqtE 1 37 (by kernel_rfl) (by kernel_rfl) (fun _ _ d _ _ h => by cases d <;> exact h) ?_; simp only [Nat.reduceAdd, Nat.reduceSub, List.take_succ_cons, List.take_zero, List.take_nil, List.drop_succ_cons, List.drop_zero]; (repeat (go_big_quiet_step (fail))); refine wpQuiet_nil ?_; (try dsimp only); (repeat (go_big_quiet_step ((fail)))); refine wpQuiet_nil ?_; rintro w1 ⟨⟨_, hx1⟩, rfl⟩; (try dsimp only); have hz1 := hx1.size; (try simp only [World.size_alloc, World.size_setCell, World.size_drew, size_drewN] at hz1); obtain ⟨hc1, hf1⟩ := hx1.old (B := w.heap.size) (by (try simp only [World.size_alloc, World.size_setCell, World.size_drew, size_drewN]); omega); have hs0 : w.heap.size < w1.heap.size := (by omega); have hl0 : w.heap.size ≤ w1.heap.size := (by omega); have hm0 : w.heap.size ≤ w1.heap.size + 1 := (by omega); obtain ⟨hcb0, hfb0⟩ := hx1.block_at (b := w.heap.size) (by (try simp only [World.size_alloc, World.size_setCell, World.size_drew, size_drewN]); omega); have hs1 : w.heap.size + 1 < w1.heap.size := (by omega); have hl1 : w.heap.size + 1 ≤ w1.heap.size := (by omega); have hm1 : w.heap.size + 1 ≤ w1.heap.size + 1 := (by omega); obtain ⟨hcb1, hfb1⟩ := hx1.block_at (b := w.heap.size + 1) (by (try simp only [World.size_alloc, World.size_setCell, World.size_drew, size_drewN]); omega))
        have hE1 := HXT.out.trans hx1
        have hO := own_ext HO.out hx1
        have hB0 := HB0.out.ext hx1; have hB1 := HB1.out.ext hx1
        have GE1 := Lib.hid hE1; have GO := Lib.hid hO; have GB0 := Lib.hid hB0; have GB1 := Lib.hid hB1
        clear hE1 hO hB0 hB1
        go_wp2_with (at_builtin; refine wpList_append_at w1 w1.heap.size rfl rfl _ _ 34 rfl (w.heap.size + 2) 4 (.bool false) 1 1 Try.underlying34 Try.infoBool rfl (by decide) _ _ _ GO.out rfl [_] rfl (by simp [Value.oneCell']) rfl (by omega) (by omega) (by omega) ?_)
        intro g cap' w3 hown3 hb3
        have hE3 : Ext w w3 := Below.trans GE1.out (hb3.mono (by omega))
        have hG0 := GB0.out.below hb3 (by omega)
        have hG1 := GB1.out.below hb3 (by omega)
        have HE3 := Lib.hid hE3; have HG0 := Lib.hid hG0; have HG1 := Lib.hid hG1; have HO3 := Lib.hid hown3
        clear hE3 hG0 hG1 hown3 hb3
        go_wp2
        go_roundw
        case rel =>
          refine ⟨k + 1, by omega, by go_num, HE3.out, HG0.out, HG1.out, ?_⟩
          unfold OwBo
          rw [mskL_len, List.length_take_of_le (by omega), HE.out, List.map_append]
          exact HO3.out
        case measure => simp [intOf]; omega
      case s0 h h1 h2 h4 h5 =>
        subst h1
        subst h2
        subst h4
        have hd5 : decide (hi < -r) = true := by simpa using h5
        go_wp2_with fail
        (refine wp_region_pqtE 1 37 (by kernel_rfl) (by kernel_rfl) (fun _ _ d _ _ h => by cases d <;> exact h) ?_; simp only [Nat.reduceAdd, Nat.reduceSub, List.take_succ_cons, List.take_zero, List.take_nil, List.drop_succ_cons, List.drop_zero]; (repeat (go_big_quiet_step (fail))); refine wpQuiet_nil ?_; (try dsimp only); (repeat (go_big_quiet_step ((fail)))); refine wpQuiet_nil ?_; rintro w1 ⟨⟨_, hx1⟩, rfl⟩; (try dsimp only); have hz1 := hx1.size; (try simp only [World.size_alloc, World.size_setCell, World.size_drew, size_drewN] at hz1); obtain ⟨hc1, hf1⟩ := hx1.old (B := w.heap.size) (by (try simp only [World.size_alloc, World.size_setCell, World.size_drew, size_drewN]); omega); have hs0 : w.heap.size < w1.heap.size := (by omega); have hl0 : w.heap.size ≤ w1.heap.size := (by omega); have hm0 : w.heap.size ≤ w1.heap.size + 1 := (by omega); obtain ⟨hcb0, hfb0⟩ := hx1.block_at (b := w.heap.size) (by (try simp only [World.size_alloc, World.size_setCell, World.size_drew, size_drewN]); omega); have hs1 : w.heap.size + 1 < w1.heap.size := (by omega); have hl1 : w.heap.size + 1 ≤ w1.heap.size := (by omega); have hm1 : w.heap.size + 1 ≤ w1.heap.size + 1 := (by omega); obtain ⟨hcb1, hfb1⟩ := hx1.block_at (b := w.heap.size + 1) (by (try simp only [World.size_alloc, World.size_setCell, World.size_drew, size_drewN]); omega))
        have hE1 := HXT.out.trans hx1
        have hO := own_ext HO.out hx1
        have hB0 := HB0.out.ext hx1; have hB1 := HB1.out.ext hx1
        have GE1 := Lib.hid hE1; have GO := Lib.hid hO; have GB0 := Lib.hid hB0; have GB1 := Lib.hid hB1
        clear hE1 hO hB0 hB1
        go_wp2_with (at_builtin; refine wpList_append_at w1 w1.heap.size rfl rfl _ _ 34 rfl (w.heap.size + 2) 4 (.bool false) 1 1 Try.underlying34 Try.infoBool rfl (by decide) _ _ _ GO.out rfl [_] rfl (by simp [Value.oneCell']) rfl (by omega) (by omega) (by omega) ?_)
        intro g cap' w3 hown3 hb3
        have hE3 : Ext w w3 := Below.trans GE1.out (hb3.mono (by omega))
        have hG0 := GB0.out.below hb3 (by omega)
        have hG1 := GB1.out.below hb3 (by omega)
        have HE3 := Lib.hid hE3; have HG0 := Lib.hid hG0; have HG1 := Lib.hid hG1; have HO3 := Lib.hid hown3
        clear hE3 hG0 hG1 hown3 hb3
        go_wp2
        go_roundw
        case rel =>
          refine ⟨k + 1, by omega, by go_num, HE3.out, HG0.out, HG1.out, ?_⟩
          unfold OwBo
          rw [mskL_len, List.length_take_of_le (by omega), HE.out, List.map_append]
          exact HO3.out
        case measure => simp [intOf]; omega
      case s1 h h1 h2 h4 h5 =>
        subst h1
        subst h2
        subst h4
        have hd5 : decide (hi < -r) = false := by simp; omega
        go_wp2_with fail
        (refine wp_region_pqtE 1 37 (by kernel_rfl) (by kernel_rfl) (fun _ _ d _ _ h => by cases d <;> exact h) ?_; simp only [Nat.reduceAdd, Nat.reduceSub, List.take_succ_cons, List.take_zero, List.take_nil, List.drop_succ_cons, List.drop_zero]; (repeat (go_big_quiet_step (fail))); refine wpQuiet_nil ?_; (try dsimp only); (repeat (go_big_quiet_step ((fail)))); refine wpQuiet_nil ?_; rintro w1 ⟨⟨_, hx1⟩, rfl⟩; (try dsimp only); have hz1 := hx1.size; (try simp only [World.size_alloc, World.size_setCell, World.size_drew, size_drewN] at hz1); obtain ⟨hc1, hf1⟩ := hx1.old (B := w.heap.size) (by (try simp only [World.size_alloc, World.size_setCell, World.size_drew, size_drewN]); omega); have hs0 : w.heap.size < w1.heap.size := (by omega); have hl0 : w.heap.size ≤ w1.heap.size := (by omega); have hm0 : w.heap.size ≤ w1.heap.size + 1 := (by omega); obtain ⟨hcb0, hfb0⟩ := hx1.block_at (b := w.heap.size) (by (try simp only [World.size_alloc, World.size_setCell, World.size_drew, size_drewN]); omega); have hs1 : w.heap.size + 1 < w1.heap.size := (by omega); have hl1 : w.heap.size + 1 ≤ w1.heap.size := (by omega); have hm1 : w.heap.size + 1 ≤ w1.heap.size + 1 := (by omega); obtain ⟨hcb1, hfb1⟩ := hx1.block_at (b := w.heap.size + 1) (by (try simp only [World.size_alloc, World.size_setCell, World.size_drew, size_drewN]); omega))
        have hE1 := HXT.out.trans hx1
        have hO := own_ext HO.out hx1
        have hB0 := HB0.out.ext hx1; have hB1 := HB1.out.ext hx1
        have GE1 := Lib.hid hE1; have GO := Lib.hid hO; have GB0 := Lib.hid hB0; have GB1 := Lib.hid hB1
        clear hE1 hO hB0 hB1
        go_wp2_with (at_builtin; refine wpList_append_at w1 w1.heap.size rfl rfl _ _ 34 rfl (w.heap.size + 2) 4 (.bool false) 1 1 Try.underlying34 Try.infoBool rfl (by decide) _ _ _ GO.out rfl [_] rfl (by simp [Value.oneCell']) rfl (by omega) (by omega) (by omega) ?_)
        intro g cap' w3 hown3 hb3
        have hE3 : Ext w w3 := Below.trans GE1.out (hb3.mono (by omega))
        have hG0 := GB0.out.below hb3 (by omega)
        have hG1 := GB1.out.below hb3 (by omega)
        have HE3 := Lib.hid hE3; have HG0 := Lib.hid hG0; have HG1 := Lib.hid hG1; have HO3 := Lib.hid hown3
        clear hE3 hG0 hG1 hown3 hb3
        go_wp2
        go_roundw
        case rel =>
          refine ⟨k + 1, by omega, by go_num, HE3.out, HG0.out, HG1.out, ?_⟩
          unfold OwBo
          rw [mskL_len, List.length_take_of_le (by omega), HE.out, List.map_append]
          exact HO3.out
        case measure => simp [intOf]; omega
      case s2 h h1 h2 h4 =>
        subst h1
        subst h2
        subst h4
        go_wp2_with fail
        (refine wp_region_pqtE 1 37 (by kernel_rfl) (by kernel_rfl) (fun _ _ d _ _ h => by cases d <;> exact h) ?_; simp only [Nat.reduceAdd, Nat.reduceSub, List.take_succ_cons, List.take_zero, List.take_nil, List.drop_succ_cons, List.drop_zero]; (repeat (go_big_quiet_step (fail))); refine wpQuiet_nil ?_; (try dsimp only); (repeat (go_big_quiet_step ((fail)))); refine wpQuiet_nil ?_; rintro w1 ⟨⟨_, hx1⟩, rfl⟩; (try dsimp only); have hz1 := hx1.size; (try simp only [World.size_alloc, World.size_setCell, World.size_drew, size_drewN] at hz1); obtain ⟨hc1, hf1⟩ := hx1.old (B := w.heap.size) (by (try simp only [World.size_alloc, World.size_setCell, World.size_drew, size_drewN]); omega); have hs0 : w.heap.size < w1.heap.size := (by omega); have hl0 : w.heap.size ≤ w1.heap.size := (by omega); have hm0 : w.heap.size ≤ w1.heap.size + 1 := (by omega); obtain ⟨hcb0, hfb0⟩ := hx1.block_at (b := w.heap.size) (by (try simp only [World.size_alloc, World.size_setCell, World.size_drew, size_drewN]); omega); have hs1 : w.heap.size + 1 < w1.heap.size := (by omega); have hl1 : w.heap.size + 1 ≤ w1.heap.size := (by omega); have hm1 : w.heap.size + 1 ≤ w1.heap.size + 1 := (by omega); obtain ⟨hcb1, hfb1⟩ := hx1.block_at (b := w.heap.size + 1) (by (try simp only [World.size_alloc, World.size_setCell, World.size_drew, size_drewN]); omega))
        have hE1 := HXT.out.trans hx1
        have hO := own_ext HO.out hx1
        have hB0 := HB0.out.ext hx1; have hB1 := HB1.out.ext hx1
        have GE1 := Lib.hid hE1; have GO := Lib.hid hO; have GB0 := Lib.hid hB0; have GB1 := Lib.hid hB1
        clear hE1 hO hB0 hB1
        go_wp2_with (at_builtin; refine wpList_append_at w1 w1.heap.size rfl rfl _ _ 34 rfl (w.heap.size + 2) 4 (.bool false) 1 1 Try.underlying34 Try.infoBool rfl (by decide) _ _ _ GO.out rfl [_] rfl (by simp [Value.oneCell']) rfl (by omega) (by omega) (by omega) ?_)
        intro g cap' w3 hown3 hb3
        have hE3 : Ext w w3 := Below.trans GE1.out (hb3.mono (by omega))
        have hG0 := GB0.out.below hb3 (by omega)
        have hG1 := GB1.out.below hb3 (by omega)
        have HE3 := Lib.hid hE3; have HG0 := Lib.hid hG0; have HG1 := Lib.hid hG1; have HO3 := Lib.hid hown3
        clear hE3 hG0 hG1 hown3 hb3
        go_wp2
        go_roundw
        case rel =>
          refine ⟨k + 1, by omega, by go_num, HE3.out, HG0.out, HG1.out, ?_⟩
          unfold OwBo
          rw [mskL_len, List.length_take_of_le (by omega), HE.out, List.map_append]
          exact HO3.out
        case measure => simp [intOf]; omega
    · go_wp2
      go_ret2
      have htk : l.take k = l := List.take_of_length_le (by omega)
      rw [htk] at hown
      exact ⟨⟨_, rfl, own_mono hown (by omega)⟩, hext⟩

set_option maxHeartbeats 2000000 in
theorem refMask_any (v1 : Value) (de dl se sl ae al r : Int) (bd bs ba : Bool) (l : List Bnd) (w : World) (h1 : RdBnd w v1 l) :
    Calls Try.prog 10 #[v1, .agg #[.int .i64 de, .int .i64 dl, .int .i64 se, .int .i64 sl, .int .i64 ae, .int .i64 al, .int .i64 r], .agg #[.bool bd, .bool bs, .bool ba]] w fun en w' =>
      (∃ v, en = .returned (.tuple #[v, .int .i64 (mskR de dl se sl ae al r bd bs ba l).2]) ∧ OwBo w' w.heap.size v (mskR de dl se sl ae al r bd bs ba l).1) ∧ Ext w w' := by
  by_cases ha : achk l = 0
  · rcases chk_01 (de := de) (dl := dl) (se := se) (sl := sl) (ae := ae) (al := al) (r := r) with h | h
    · rw [mskR_0 ha h]
      exact refMask_0 v1 de dl se sl ae al r bd bs ba l w h1 ha h
    · rw [mskR_1 ha h]
      have H1 := Lib.hid h1
      obtain ⟨a, cap, rfl, hca, hm, hr⟩ := h1.get
      clear h1 hr
      have HA := Lib.hid ha; have HC := Lib.hid h; clear ha h
      go_enter Try.func10, Try.ntmps10
      go_wp2_with fail
      refine (refAchk_any _ l _ (H1.out.ext (((Ext.refl w).alloc _).alloc _))).mono ?_
      rintro e w1 ⟨rfl, hx1⟩; have hz1 := hx1.size; (try simp only [World.size_alloc, World.size_setCell, World.size_drew, size_drewN] at hz1); obtain ⟨hc1, hf1⟩ := hx1.old (B := w.heap.size) (by (try simp only [World.size_alloc, World.size_setCell, World.size_drew, size_drewN]); omega); have hs0 : w.heap.size < w1.heap.size := (by omega); have hl0 : w.heap.size ≤ w1.heap.size := (by omega); have hm0 : w.heap.size ≤ w1.heap.size + 1 := (by omega); obtain ⟨hcb0, hfb0⟩ := hx1.block_at (b := w.heap.size) (by (try simp only [World.size_alloc, World.size_setCell, World.size_drew, size_drewN]); omega); have hs1 : w.heap.size + 1 < w1.heap.size := (by omega); have hl1 : w.heap.size + 1 ≤ w1.heap.size := (by omega); have hm1 : w.heap.size + 1 ≤ w1.heap.size + 1 := (by omega); obtain ⟨hcb1, hfb1⟩ := hx1.block_at (b := w.heap.size + 1) (by (try simp only [World.size_alloc, World.size_setCell, World.size_drew, size_drewN]); omega)
      rw [HA.out]
      go_wp2_with fail
      have hX : Ext w w1 := (((Ext.refl w).alloc _).alloc _).trans hx1
      have GX := Lib.hid hX
      clear hX hx1 hz1 hc1 hf1 hs0 hl0 hm0 hcb0 hfb0 hs1 hl1 hm1 hcb1 hfb1
      refine (refCheck_any _ _ _ _ _ _ _ _).mono ?_
      rintro e w2 ⟨rfl, hx2⟩
      rw [HC.out]
      go_wp2_with fail
      go_ret2
      have := GX.out
      exact ⟨⟨_, rfl, World.ownsRow_nil _ _ _ _⟩, by (repeat (first | (with_reducible exact Ext.refl _) | (with_reducible assumption) | (with_reducible refine Ext.alloc ?_ _) | ((with_reducible refine Ext.setp ?_ ?_); focus (dsimp only; omega)) | (with_reducible refine Ext.drew ?_) | (with_reducible refine Ext.drewN ?_ _) | (with_reducible refine Ext.trans ?_ (by assumption))))⟩
  · rw [mskR_a ha]
    have H1 := Lib.hid h1
    obtain ⟨a, cap, rfl, hca, hm, hr⟩ := h1.get
    clear h1 hr
    have hb1 : (achk l == 0) = false := by simpa using ha
    have hb2 : (achk l != 0) = true := by simpa using ha
    clear ha
    go_enter Try.func10, Try.ntmps10
    go_wp2_with fail
    refine (refAchk_any _ l _ (H1.out.ext (((Ext.refl w).alloc _).alloc _))).mono ?_
    rintro e w1 ⟨rfl, hx1⟩
    go_wp2_with fail
    go_ret2
    exact ⟨⟨_, rfl, World.ownsRow_nil _ _ _ _⟩, by (repeat (first | (with_reducible exact Ext.refl _) | (with_reducible assumption) | (with_reducible refine Ext.alloc ?_ _) | ((with_reducible refine Ext.setp ?_ ?_); focus (dsimp only; omega)) | (with_reducible refine Ext.drew ?_) | (with_reducible refine Ext.drewN ?_ _) | (with_reducible refine Ext.trans ?_ (by assumption))))⟩

end Go.Proofs.Ytdbhneoaibbofaa
