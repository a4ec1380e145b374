/- Walks of add and subtract of layer 5. Conditions: rows of limbs; the sum fits; the difference is no less than 0. -/
import Derived.Test.YtoicjiiifffciaaBigD
import Derived.Test.YtoicjiiifffciaaBigM
import Derived.Test.YtoicjiiifffciaaReg6
namespace Go.Proofs.Ytoicjiiifffciaa
set_option linter.unusedSimpArgs false
set_option linter.unusedVariables false
open Go.RowKit

/-- Frame: w' is w but for the blocks of p and new blocks. -/
structure Fr (p : Nat → Prop) (w w' : World) : Prop where
  zero : Below 0 w w'
  block : ∀ k, k < w.heap.size → ¬ p k → w'.heap[k]? = w.heap[k]?

theorem Fr.ext {p : Nat → Prop} {w w' : World} (h : Ext w w') : Fr p w w' := ⟨h.mono (Nat.zero_le _), fun k hk _ => h.block k hk⟩
theorem Fr.set {p : Nat → Prop} {a b : World} (h : Fr p a b) {x : Addr} (hp : p x.block) (v : Value) : Fr p a (b.setCell x v) :=
  ⟨h.zero.setCell (Nat.zero_le _) v, fun k hk hn => (Below.heap_setCell _ _ _ _ (fun e => hn (by rw [e]; exact hp))).trans (h.block k hk hn)⟩
theorem Fr.gr {p : Nat → Prop} {o : Option Nat} {a b c : World} (g : Gr o a b) (h : Fr p b c) (hp : ∀ k, k < a.heap.size → p k → o = some k) : Gr o a c :=
  ⟨h.zero.os.trans g.os, h.zero.tape.trans g.tape, h.zero.output.trans g.output, Nat.le_trans g.size h.zero.size,
    fun k hk hn => (h.block k (Nat.lt_of_lt_of_le hk g.size) (fun hpk => hn (hp k hk hpk).symm)).trans (g.block k hk hn)⟩
theorem Blk.fr {p : Nat → Prop} {w w' : World} {b : Nat} {c : Array Value} {t : TypeId} (h : Blk w b c t) (e : Fr p w w') (hn : ¬ p b) : Blk w' b c t := (e.block b h.lt hn).trans h
theorem RowU.fr {p : Nat → Prop} {w w' : World} {g cap : Nat} {l : List Int} (h : RowU w g cap l) (e : Fr p w w') (hn : ¬ p g) : RowU w' g cap l := by
  obtain ⟨cur, hb, hs, ht⟩ := h.blk
  exact ⟨⟨cur, hb.fr e hn, hs, ht⟩, h.le, h.most⟩
theorem RowU.setOther {w : World} {g cap : Nat} {l : List Int} (h : RowU w g cap l) {x : Addr} (hx : x.block ≠ g) (v : Value) : RowU (w.setCell x v) g cap l := by
  obtain ⟨cur, hb, hs, ht⟩ := h.blk
  exact ⟨⟨cur, hb.setOther (Ne.symm hx) v, hs, ht⟩, h.le, h.most⟩

set_option maxHeartbeats 1000000 in
theorem put_any (g cap : Nat) (l : List Int) (ba bc : Nat) (i : Nat) (x c : Int) (w : World) (h : RowU w g cap l) (hl : Lim l)
    (ha : Blk w ba #[.slice (some ⟨g, 0, none⟩) l.length cap] 23) (hc : Blk w bc #[.int .u32 c] 50) (hi : i < l.length) (hx : 0 ≤ x ∧ x < 4294967296) (hc1 : 0 ≤ c ∧ c ≤ 1) (hbc : bc ≠ g) :
    Calls Try.prog 73 #[.int .i64 i, .int .u32 x, .pointer (some ⟨ba, 0, none⟩), .pointer (some ⟨bc, 0, none⟩)] w fun e w' => e = .returned (.tuple #[]) ∧
      RowU w' g cap (l.set i ((l.getD i 0 + x + c) % 4294967296)) ∧ Blk w' bc #[.int .u32 ((l.getD i 0 + x + c) / 4294967296)] 50 ∧ Fr (fun k => k = g ∨ k = bc) w w' := by
  have hyl := getD_lim hl i
  have hle := h.le; have hmost := h.most
  have c1 := ha.cell; have c2 := hc.cell; have c3 := h.cell hi; have f1 := h.free; have f2 := hc.free
  have l1 := ha.lt; have l2 := hc.lt; have l3 := h.lt
  have q1 : (0 : Int) ≤ (i : Int) := by omega
  have q2 : (i : Int) < (l.length : Int) := by omega
  obtain ⟨y, hy⟩ : ∃ y, y = l.getD i 0 := ⟨_, rfl⟩
  rw [← hy] at c3 hyl
  have HY := Lib.hid hy; have H := Lib.hid h; have HC := Lib.hid hc
  clear hy h hc ha hl
  go_enter Try.func73, Try.ntmps73
  go_wp2_with fail
  (refine wp_region_qxtE 10 2 1 (by kernel_rfl) (by kernel_rfl) (fun _ _ d _ _ h => by cases d <;> exact h) ?_; simp only [Nat.reduceAdd, Nat.reduceSub, List.take_succ_cons, List.take_zero, List.take_nil, List.drop_succ_cons, List.drop_zero]; (repeat (go_big_quiet_step ((go_at_call 74; exact quietE (add32_any _ _ _ _ hyl hx hc1))))); refine wpQuiet_nil ?_; (try dsimp only); (repeat (go_big_quiet_step (fail))); refine wpQuiet_nil ?_; (try dsimp only); (repeat (go_big_quiet_step (fail))); refine wpQuiet_nil ?_; rintro w1 ⟨⟨_, hx1⟩, rfl⟩; (try dsimp only); have hz1 := hx1.size; (try simp only [World.size_alloc, World.size_setCell, World.size_drew, size_drewN] at hz1); obtain ⟨hc1, hf1⟩ := hx1.old (B := w.heap.size) (by (try simp only [World.size_alloc, World.size_setCell, World.size_drew, size_drewN]); omega))
  go_wp2
  go_end0
  rw [← HY.out]
  refine ⟨rfl, ?_, ?_, ?_⟩
  · exact ((H.out.ext hx1).set i _ hi).setOther hbc _
  · have := ((HC.out.ext hx1).setOther (a := ⟨g, i, none⟩) hbc (.int .u32 ((y + x + c) % 4294967296))).set 0 (.int .u32 ((y + x + c) / 4294967296))
    simpa using this
  · exact ((Fr.ext hx1).set (.inl rfl) _).set (.inr rfl) _

/-- What the loops of add keep: i limbs on, the sum is T. -/
def AddRel (w : World) (g cap : Nat) (l : List Int) (T : Nat) (i : Nat) (wr : World) (c : Int) : Prop :=
  ∃ lk, lk.length = l.length ∧ Lim lk ∧ nv lk + 4294967296 ^ i * c.toNat = T ∧ RowU wr g cap lk ∧ Blk wr (w.heap.size + 1) #[.int .u32 c] 50 ∧ Gr (some g) w wr ∧ Blk wr w.heap.size #[.slice (some ⟨g, 0, none⟩) l.length cap] 23

set_option maxHeartbeats 2000000 in
theorem add_any (g cap : Nat) (l : List Int) (vb : Value) (lb : List Int) (s : Nat) (w : World) (h : RowU w g cap l) (hl : Lim l) (hb : RdA (· ≠ g) w vb lb) (hlb : Lim lb)
    (hs : lb.length + s ≤ l.length) (hfit : nv l + 4294967296 ^ s * nv lb < 4294967296 ^ l.length) :
    Calls Try.prog 47 #[.slice (some ⟨g, 0, none⟩) l.length cap, vb, .int .i64 s] w fun e w' => e = .returned (.tuple #[]) ∧
      (∃ l', l'.length = l.length ∧ Lim l' ∧ nv l' = nv l + 4294967296 ^ s * nv lb ∧ RowU w' g cap l') ∧ Gr (some g) w w' := by
  have hle := h.le; have hmost := h.most; have hg := h.lt
  obtain ⟨a, capb, rfl, hc2, hm2, hr⟩ := hb
  have hA : Blk ((w.alloc (.cells #[.slice (some ⟨g, 0, none⟩) l.length cap] 23)).alloc (.cells #[.int .u32 0] 50)) w.heap.size #[.slice (some ⟨g, 0, none⟩) l.length cap] 23 := (Blk.new w _ _).alloc _
  have hC : Blk ((w.alloc (.cells #[.slice (some ⟨g, 0, none⟩) l.length cap] 23)).alloc (.cells #[.int .u32 0] 50)) (w.heap.size + 1) #[.int .u32 0] 50 := by
    have := Blk.new (w.alloc (.cells #[.slice (some ⟨g, 0, none⟩) l.length cap] 23)) #[.int .u32 0] 50
    rwa [World.size_alloc] at this
  have hG : Gr (some g) w ((w.alloc (.cells #[.slice (some ⟨g, 0, none⟩) l.length cap] 23)).alloc (.cells #[.int .u32 0] 50)) := ((Gr.refl _ w).alloc _).alloc _
  have hR : RowU ((w.alloc (.cells #[.slice (some ⟨g, 0, none⟩) l.length cap] 23)).alloc (.cells #[.int .u32 0] 50)) g cap l := h.ext (((Ext.refl w).alloc _).alloc _)
  have H := Lib.hid h; have HL := Lib.hid hl; have HB := Lib.hid hr; have HLB := Lib.hid hlb; have HF := Lib.hid hfit; have HA := Lib.hid hA; have HC := Lib.hid hC; have HG := Lib.hid hG; have HR := Lib.hid hR
  clear h hl hr hlb hfit hA hC hG hR
  go_enter Try.func47, Try.ntmps47
  go_wp2_with fail
  go_loopw [8, 9, 14] (fun _ _ i wr => ∃ (k : Nat) (c : Int), k ≤ lb.length ∧ i = .int .i64 k ∧ 0 ≤ c ∧ c ≤ 1 ∧ AddRel w g cap l (nv l + 4294967296 ^ s * nv (lb.take k)) (k + s) wr c)
    (fun _ _ i _ => lb.length - (intOf i).toNat)
  case atStart => exact ⟨0, 0, Nat.zero_le _, rfl, by omega, by omega, l, rfl, HL.out, by simp [nv], HR.out, HC.out, HG.out, HA.out⟩
  case round =>
    obtain ⟨k, c, hk, rfl, c0, c1, hrel⟩ := hrel
    by_cases hlt : k < lb.length
    · obtain ⟨b, off, rfl, hbg, hbl, hx⟩ := HB.out k hlt
      obtain ⟨lk, e1, e2, e3, e4, e5, e6, e7⟩ := hrel
      have hxl := getD_lim HLB.out k
      have hx' : wr.cell? ⟨b, off + k, none⟩ = some (.int .u32 (lb.getD k 0)) := (e6.cell (p := ⟨b, off + k, none⟩) hbl (by simpa using hbg)).trans hx
      have ht := nv_takeD hlt
      obtain ⟨x, hxx⟩ : ∃ x, x = lb.getD k 0 := ⟨_, rfl⟩
      rw [← hxx] at hx' ht hxl
      have G1 := Lib.hid e1; have G2 := Lib.hid e2; have G3 := Lib.hid e3; have G4 := Lib.hid e4; have G5 := Lib.hid e5; have G6 := Lib.hid e6; have G7 := Lib.hid e7; have GT := Lib.hid ht
      clear e1 e2 e3 e4 e5 e6 e7 hx ht hxx
      go_wp2_with fail
      rw [show ((k : Int) + (s : Int)) = ((k + s : Nat) : Int) by omega]
      rw [← G1.out] at G7 ⊢
      refine (put_any g cap lk w.heap.size (w.heap.size + 1) (k + s) x c wr G4.out G2.out G7.out G5.out (by have := G1.out; omega) hxl ⟨c0, c1⟩ (by omega)).mono ?_
      rintro e w1 ⟨rfl, r1, r2, r3⟩
      have P1 := Lib.hid r1; have P2 := Lib.hid r2; have P3 := Lib.hid r3
      clear r1 r2 r3
      have hst := Lib.hid (add_step (x := x) (c := c) G2.out (show k + s < lk.length by have := G1.out; omega) hxl.1 c0)
      have hcb := carry_bd (getD_lim G2.out (k + s)) hxl ⟨c0, c1⟩
      rw [G1.out] at G7 ⊢
      go_wp2_with fail
      go_roundw
      case rel =>
        refine ⟨k + 1, _, by omega, by go_num, hcb.1, hcb.2, _, (List.length_set).trans G1.out, lim_setMod G2.out _ _, ?_, P1.out, P2.out, Fr.gr G6.out P3.out (fun j hj hp => by rcases hp with rfl | rfl <;> first | rfl | omega), G7.out.fr P3.out (by omega)⟩
        rw [GT.out, show k + 1 + s = k + s + 1 by omega, hst.out]
        have := G3.out
        rw [Nat.mul_add, Nat.mul_add, ← Nat.mul_assoc, ← Nat.pow_add, Nat.add_comm s k]
        omega
      case measure => simp [intOf]; omega
    · obtain rfl : k = lb.length := by omega
      rw [List.take_length] at hrel
      have HREL := Lib.hid hrel; clear hrel
      go_wp2_with fail
      obtain ⟨wo, hwo⟩ : ∃ wo : World, wo = wr := ⟨_, rfl⟩
      rw [← hwo] at HREL ⊢
      clear hwo
      go_loopw [10] (fun i wq => ∃ (j : Nat) (c : Int), j ≤ l.length ∧ i = .int .i64 j ∧ 0 ≤ c ∧ c ≤ 1 ∧ AddRel w g cap l (nv l + 4294967296 ^ s * nv lb) j wq c)
        (fun i _ => l.length - (intOf i).toNat)
      case atStart => exact ⟨lb.length + s, c, by omega, by go_num, c0, c1, HREL.out⟩
      case round =>
        clear HREL
        obtain ⟨j, c, hj, rfl, c0, c1, lk, e1, e2, e3, e4, e5, e6, e7⟩ := hrel
        have cc := e5.cell
        have G1 := Lib.hid e1; have G2 := Lib.hid e2; have G3 := Lib.hid e3; have G4 := Lib.hid e4; have G5 := Lib.hid e5; have G6 := Lib.hid e6; have G7 := Lib.hid e7
        by_cases hcz : c = 0
        · subst hcz
          clear e1 e2 e3 e4 e5 e6 e7
          go_wp2_with fail
          go_end0
          exact ⟨rfl, ⟨lk, G1.out, G2.out, by simpa using G3.out, G4.out⟩, G6.out⟩
        · have hcz' : (c != 0) = true := by simpa using hcz
          have hjl : j < l.length := by
            have h1 := HF.out
            rw [← e3] at h1
            refine lt_of_pow_le (n := nv lk + 4294967296 ^ j * c.toNat) ?_ h1
            have : 4294967296 ^ j * 1 ≤ 4294967296 ^ j * c.toNat := Nat.mul_le_mul_left _ (by omega)
            omega
          clear e1 e2 e3 e4 e5 e6 e7
          go_wp2_with fail
          rw [← G1.out] at G7 ⊢
          refine (put_any g cap lk w.heap.size (w.heap.size + 1) j 0 c wr G4.out G2.out G7.out G5.out (by have := G1.out; omega) (by omega) ⟨c0, c1⟩ (by omega)).mono ?_
          rintro e w1 ⟨rfl, r1, r2, r3⟩
          have P1 := Lib.hid r1; have P2 := Lib.hid r2; have P3 := Lib.hid r3
          clear r1 r2 r3
          have hst := Lib.hid (add_step (x := 0) (c := c) G2.out (show j < lk.length by have := G1.out; omega) (by omega) c0)
          have hcb := carry_bd (getD_lim G2.out j) (x := 0) (by omega) ⟨c0, c1⟩
          rw [G1.out] at G7 ⊢
          go_wp2_with fail
          go_roundw
          case rel =>
            refine ⟨j + 1, _, by omega, by go_num, hcb.1, hcb.2, _, (List.length_set).trans G1.out, lim_setMod G2.out _ _, ?_, P1.out, P2.out, Fr.gr G6.out P3.out (fun j hj hp => by rcases hp with rfl | rfl <;> first | rfl | omega), G7.out.fr P3.out (by omega)⟩
            rw [hst.out]
            have := G3.out
            simpa using this
          case measure => simp [intOf]; omega

end Go.Proofs.Ytoicjiiifffciaa
