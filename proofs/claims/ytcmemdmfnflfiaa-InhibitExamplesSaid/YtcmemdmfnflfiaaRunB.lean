/- Walk of the iterator of states: it yields the state after each height, and keeps its state in a block of its own. Conditions: the heights read as a slice of ints outside the block that the rounds write. -/
import Derived.Test.YtcmemdmfnflfiaaRange
import Derived.Test.YtcmemdmfnflfiaaInhE
import Derived.Test.YtcmemdmfnflfiaaRunA
import Derived.Test.YtcmemdmfnflfiaaSpecR
namespace Go.Proofs.Ytcmemdmfnflfiaa
set_option linter.unusedSimpArgs false
set_option linter.unusedVariables false
open Go.RowKit Go.Shelf
attribute [local go_sem] Oper.semAt_some

/-- What the loop of the iterator keeps. -/
def StRel (O m H : Nat) (W1 : World) (st : BlkD) (wr : World) : Prop :=
  (∀ i, i < m → i ≠ O → wr.heap[i]? = W1.heap[i]?) ∧ Blk wr (m + 2) #[.bool st.1, .bool st.2.1, .bool st.2.2] 31

theorem blk_of {O m : Nat} {W1 wr : World} (h : ∀ i, i < m → i ≠ O → wr.heap[i]? = W1.heap[i]?) {b : Nat} {c : Array Value} {t : TypeId} (hb : Blk W1 b c t) (h1 : b < m) (h2 : b ≠ O) : Blk wr b c t := (h b h1 h2).trans hb

set_option maxRecDepth 100000 in
set_option maxHeartbeats 2000000 in
theorem states1_seq (n : Nat) (hn : 1 ≤ n) (de dl se sl ae al r : Int) (a : Option Addr) (c : Nat) (l : List Int) (H O m : Nat) (W1 : World) (hm : W1.heap.size = m + 2)
    (hH : H + 1 < m) (hOH : O ≠ H) (hOH1 : O ≠ H + 1) (hO : O < m) (hl : l.length ≤ c) (hc : c ≤ 9223372036854775807)
    (hb0 : Blk W1 H #[.int .i64 de, .int .i64 dl, .int .i64 se, .int .i64 sl, .int .i64 ae, .int .i64 al, .int .i64 r] 26)
    (hb1 : Blk W1 (H + 1) #[.slice a l.length c] 49)
    (hr : ∀ i, i < l.length → ∃ b off, a = some ⟨b, off, none⟩ ∧ b < m ∧ b ≠ O ∧ W1.cell? ⟨b, off + i, none⟩ = some (.int .i64 (l.getD i 0))) :
    StSeq Fence.wide n Try.prog 77 #[.pointer (some ⟨H + 1, 0, none⟩), .pointer (some ⟨H, 0, none⟩)] (fun x : BlkD => #[.agg #[.bool x.1, .bool x.2.1, .bool x.2.2]]) O m l.length
      (fun xs => xs = sts (stp de dl se sl ae al) (false, false, false) l) W1 := by
  intro J hJ hY h0
  refine callsIn_of_wp Try.func77 rfl trivial ?_ rfl
  simp only [Try.ntmps77, List.size_toArray, List.length_cons, List.length_nil, Nat.reduceAdd, Nat.reduceSub, Array.replicate_succ, Array.replicate_zero, List.push_toArray, List.append_toArray, List.nil_append, List.cons_append]
  have d1 := (hb1.alloc (.cells #[.bool false, .bool false, .bool false] 31)).cell
  gi_wp2
  gi_loopw [9] (fun i wr => ∃ k : Nat, k ≤ l.length ∧ i = .int .i64 k ∧ J (sts (stp de dl se sl ae al) (false, false, false) (l.take k)) wr ∧ StRel O m H W1 ((l.take k).foldl (stp de dl se sl ae al) (false, false, false)) wr) (fun i _ => l.length - (intOf i).toNat)
  case atStart =>
    refine ⟨0, by omega, rfl, hJ _ _ _ h0 (.ext ((Ext.refl W1).alloc _)), fun i hi _ => Below.heap_alloc W1 _ i (by omega), ?_⟩
    have := Blk.new W1 #[.bool false, .bool false, .bool false] 31
    rwa [hm] at this
  case round =>
    obtain ⟨k, hk, rfl, hj, hkeep, hbs⟩ := hrel
    by_cases hlt : k < l.length
    · obtain ⟨b1, o1, rfl, hbl, hbO, hx1⟩ := hr k hlt
      have hx2 : wr.cell? ⟨b1, o1 + k, none⟩ = some (.int .i64 (l.getD k 0)) := by rw [← hx1]; simp only [World.cell?, hkeep b1 hbl hbO]
      have q1 : (0 : Int) ≤ (k : Int) := by omega
      have q2 : (k : Int) < (l.length : Int) := by omega
      obtain ⟨zk, hzk⟩ : ∃ zk, zk = l[k] := ⟨_, rfl⟩
      have hx3 : wr.cell? ⟨b1, o1 + k, none⟩ = some (.int .i64 zk) := by rw [hx2, hzk]; simp [hlt]
      have HZ := Lib.hid hzk; clear hzk hx2 hx1
      obtain ⟨st, hst⟩ : ∃ st, st = (l.take k).foldl (stp de dl se sl ae al) (false, false, false) := ⟨_, rfl⟩
      rw [← hst] at hbs
      have HS := Lib.hid hst; clear hst
      obtain ⟨x, y, z⟩ := st
      dsimp only at hbs
      have hbh := blk_of hkeep hb0 (by omega) (by omega)
      have e0 := hbh.cell; have e1 := hbs.cell; have f1 := hbs.free; have l0 := hbh.lt; have l1 := hbs.lt
      have HK := Lib.hid hkeep; have HJ := Lib.hid hj; have HB := Lib.hid hbs
      clear hkeep hj hbs hbh d1
      gi_wp2_with fail
      refine ⟨trivial, (callsIn_wide.2 (update_any de dl se sl ae al r x y z zk wr)).mono ?_⟩
      rintro e w1 ⟨rfl, hx1⟩
      have hB := HB.out.ext hx1
      have b1' := hB.cell; have b2' := hB.free; have b3' := hB.lt
      obtain ⟨W2, hW2⟩ : ∃ W2, W2 = ((w1.setCell ⟨m + 2, 0, none⟩ (.bool (flg de dl x zk))).setCell ⟨m + 2, 1, none⟩ (.bool (flg se sl y zk))).setCell ⟨m + 2, 2, none⟩ (.bool (flg ae al z zk)) := ⟨_, rfl⟩
      have hB2 : Blk W2 (m + 2) #[.bool (flg de dl x zk), .bool (flg se sl y zk), .bool (flg ae al z zk)] 31 := by
        rw [hW2]; have := ((hB.set 0 (.bool (flg de dl x zk))).set 1 (.bool (flg se sl y zk))).set 2 (.bool (flg ae al z zk)); simpa using this
      have hkj : Kj m wr W2 := by rw [hW2]; exact (((Kj.ext hx1).set _ _).set _ _).set _ _
      have hJ2 := hJ _ _ _ HJ.out hkj
      have hz2 : m + 2 < W2.heap.size := hB2.lt
      have hk2 : ∀ i, i < m → i ≠ O → W2.heap[i]? = W1.heap[i]? := fun i hi ho => (hkj.block i (by omega) (by omega)).trans (HK.out i hi ho)
      obtain ⟨fn, tmps, assign, body, hy, hR⟩ := hY _ (flg de dl x zk, flg se sl y zk, flg ae al z zk) W2 hJ2 hz2 (by rw [sts_len, List.length_take_of_le (by omega)]; exact hlt)
      have c2 := hB2.cell
      have HB2 := Lib.hid hB2; have HK2 := Lib.hid hk2
      clear hJ2 hB2 hk2 hkj
      dsimp only at hy
      rw [hW2] at hy c2
      gi_wp2
      rw [← hW2]
      refine hR.mono ?_
      rintro e W3 ⟨rfl, hJ3, hk3⟩
      have hB3 : Blk W3 (m + 2) #[.bool (flg de dl x zk), .bool (flg se sl y zk), .bool (flg ae al z zk)] 31 := (hk3.2 (m + 2) (.inr rfl) (by omega)).trans HB2.out
      have hkeep3 : ∀ i, i < m → i ≠ O → W3.heap[i]? = W1.heap[i]? := fun i hi ho => (hk3.2 i (.inl hi) ho).trans (HK2.out i hi ho)
      have GB3 := Lib.hid hB3; have GK3 := Lib.hid hkeep3; have GJ3 := Lib.hid hJ3
      clear hB3 hkeep3 hJ3 hk3
      gi_wp2
      go_roundw
      case rel =>
        have ht : l.take (k + 1) = l.take k ++ [l[k]] := List.take_succ_eq_append_getElem hlt
        have hf : (l.take (k + 1)).foldl (stp de dl se sl ae al) (false, false, false) = (flg de dl x zk, flg se sl y zk, flg ae al z zk) := by
          rw [ht, List.foldl_append, ← HS.out, ← HZ.out]; rfl
        have hs : sts (stp de dl se sl ae al) (false, false, false) (l.take (k + 1)) = sts (stp de dl se sl ae al) (false, false, false) (l.take k) ++ [(flg de dl x zk, flg se sl y zk, flg ae al z zk)] := by
          rw [ht, sts_snoc, ← HS.out, ← HZ.out]; rfl
        refine ⟨k + 1, by omega, by go_num, ?_, GK3.out, ?_⟩
        · rw [hs]; exact GJ3.out
        · rw [hf]; exact GB3.out
      case measure => simp [intOf]; omega
    · gi_wp2
      go_end0
      rw [List.take_of_length_le (by omega)] at hj
      exact ⟨⟨_, rfl⟩, _, rfl, hj⟩

end Go.Proofs.Ytcmemdmfnflfiaa
