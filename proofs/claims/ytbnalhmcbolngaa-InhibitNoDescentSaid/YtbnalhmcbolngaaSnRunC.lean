/- Texts of this claim, laid together: SnRunA SnRunB SnRunC. Conditions: as each states. -/
import Derived.Test.YtbnalhmcbolngaaSnInhC
import Derived.Test.YtbnalhmcbolngaaSnSpecR
import Derived.Test.YtbnalhmcbolngaaSnGA
import Derived.Test.YtbnalhmcbolngaaSnRange
import Derived.Test.YtbnalhmcbolngaaSnInhE
import Derived.Test.YtbnalhmcbolngaaSnRunR
/- Part of the proof of nodL_holds: what the row needs of RunA. Conditions: as each theorem states. -/
namespace Go.Proofs.Ytbnalhmcbolngaa
set_option linter.unusedSimpArgs false
set_option linter.unusedVariables false
open Go.RowKit
theorem wrongC (z : Int) (W : World) : Calls Try.prog 59 #[.int .i64 z] W fun e w' => e = .returned (.bool (wrongB z)) ∧ Ext W w' := wrong30_any z W
set_option maxHeartbeats 1000000 in
theorem indexFunc30_any (v1 : Value) (l : List Int) (w : World) (h1 : RdI .i64 w v1 l) :
    Calls Try.prog 92 #[v1, fnV 59] w fun en w' => (∃ x : Int, en = .returned (.int .i64 x) ∧ decide (0 ≤ x) = l.any wrongB) ∧ Ext w w' := by
  obtain ⟨a1, c1, rfl, hc1, hm1, hr1⟩ := h1.get
  clear h1
  have H1 := Lib.hid hr1; clear hr1
  go_enter Try.func92, Try.ntmps92
  go_wp2
  go_loopw [8] (fun i wr => ∃ k : Nat, k ≤ l.length ∧ i = .int .i64 k ∧ (l.take k).any wrongB = false ∧ Ext w wr) (fun i _ => l.length - (intOf i).toNat)
  case atStart => exact ⟨0, Nat.zero_le _, rfl, rfl, Ext.refl w⟩
  case round =>
    obtain ⟨k, hk, rfl, hok, hext⟩ := hrel
    by_cases hlt : k < l.length
    · obtain ⟨b1, o1, rfl, hb1, hx1⟩ := H1.out k hlt
      have hx2 := (hext.cell (p := ⟨b1, o1 + k, none⟩) hb1).trans hx1
      clear hx1
      have hzr := hext.size
      have hbr : b1 < wr.heap.size := by omega
      have HE := Lib.hid hext; have HK := Lib.hid hok
      clear hext hok
      have q1 : (0 : Int) ≤ (k : Int) := by omega
      have q2 : (k : Int) < (l.length : Int) := by omega
      obtain ⟨zk, hzk⟩ : ∃ zk, zk = l[k] := ⟨_, rfl⟩
      have hx3 : wr.cell? ⟨b1, o1 + k, none⟩ = some (.int .i64 zk) := by rw [hx2, hzk]; simp [hlt]
      have HZ := Lib.hid hzk; clear hzk hx2
      rcases hw : wrongB zk with _ | _
      · have hcall := fun W => wrongC zk W
        rw [hw] at hcall
        have HC := Lib.hid hcall; clear hcall
        go_wp2_with fail
        refine (HC.out _).mono ?_
        rintro e w1 ⟨rfl, hx1⟩
        have hE := HE.out.trans hx1
        go_wp2
        go_roundw
        case rel => exact ⟨k + 1, by omega, by go_num, by rw [any_take hlt, HK.out, ← HZ.out, hw]; rfl, hE⟩
        case measure => simp [intOf]; omega
      · have hcall := fun W => wrongC zk W
        rw [hw] at hcall
        have HC := Lib.hid hcall; clear hcall
        go_wp2_with fail
        refine (HC.out _).mono ?_
        rintro e w1 ⟨rfl, hx1⟩
        have hE := HE.out.trans hx1
        go_wp2
        go_ret
        refine ⟨⟨_, rfl, ?_⟩, hE⟩
        rw [any_hit hlt (HZ.out ▸ hw)]
        simp
    · go_wp2
      go_ret
      rw [List.take_of_length_le (by omega)] at hok
      exact ⟨⟨_, rfl, by rw [hok]; rfl⟩, hext⟩
set_option maxHeartbeats 1000000 in
theorem containsFunc30_any (v1 : Value) (l : List Int) (w : World) (h1 : RdI .i64 w v1 l) :
    Calls Try.prog 58 #[v1, fnV 59] w fun en w' => en = .returned (.bool (l.any wrongB)) ∧ Ext w w' := by
  go_enter Try.func58, Try.ntmps58
  go_wp2_with (go_at_call 92; refine (indexFunc30_any v1 l w h1).mono ?_; rintro e w1 ⟨⟨x, rfl, hx⟩, hx1⟩; have HX := Lib.hid hx; clear hx)
  go_ret
  exact ⟨ret_bool HX.out, hx1⟩
set_option maxHeartbeats 1000000 in
theorem states_any (x1 x2 x3 x4 x5 x6 x7 : Value) (a : Option Addr) (n c : Nat) (w : World) :
    Calls Try.prog 60 #[.agg #[x1, x2, x3, x4, x5, x6, x7], .slice a n c] w fun en w' => en = .returned (.func (.func 93) #[] #[.pointer (some ⟨w.heap.size + 1, 0, none⟩), .pointer (some ⟨w.heap.size, 0, none⟩)]) ∧ w' = (w.alloc (.cells #[x1, x2, x3, x4, x5, x6, x7] 61)).alloc (.cells #[.slice a n c] 24) := by
  go_enter Try.func60, Try.ntmps60
  go_wp2
  go_ret
  exact ⟨rfl, rfl⟩
end Go.Proofs.Ytbnalhmcbolngaa

/- Part of the proof of nodL_holds: what the row needs of RunB. Conditions: as each theorem states. -/
namespace Go.Proofs.Ytbnalhmcbolngaa
set_option linter.unusedSimpArgs false
set_option linter.unusedVariables false
open Go.RowKit Go.Shelf
attribute [local go_sem] Oper.semAt_some
def StRel (O m H : Nat) (W1 : World) (st : BlkD) (wr : World) : Prop :=
  (∀ i, i < m → i ≠ O → wr.heap[i]? = W1.heap[i]?) ∧ Blk wr (m + 2) #[.bool st.1, .bool st.2.1, .bool st.2.2] 78
theorem blk_of {O m : Nat} {W1 wr : World} (h : ∀ i, i < m → i ≠ O → wr.heap[i]? = W1.heap[i]?) {b : Nat} {c : Array Value} {t : TypeId} (hb : Blk W1 b c t) (h1 : b < m) (h2 : b ≠ O) : Blk wr b c t := (h b h1 h2).trans hb
set_option maxRecDepth 100000 in
set_option maxHeartbeats 2000000 in
theorem states1_seq (n : Nat) (hn : 1 ≤ n) (de dl se sl ae al r : Int) (a : Option Addr) (c : Nat) (l : List Int) (H O m : Nat) (W1 : World) (hm : W1.heap.size = m + 2)
    (hH : H + 1 < m) (hOH : O ≠ H) (hOH1 : O ≠ H + 1) (hO : O < m) (hl : l.length ≤ c) (hc : c ≤ 9223372036854775807)
    (hb0 : Blk W1 H #[.int .i64 de, .int .i64 dl, .int .i64 se, .int .i64 sl, .int .i64 ae, .int .i64 al, .int .i64 r] 61)
    (hb1 : Blk W1 (H + 1) #[.slice a l.length c] 24)
    (hr : ∀ i, i < l.length → ∃ b off, a = some ⟨b, off, none⟩ ∧ b < m ∧ b ≠ O ∧ W1.cell? ⟨b, off + i, none⟩ = some (.int .i64 (l.getD i 0))) :
    StSeq Fence.wide n Try.prog 93 #[.pointer (some ⟨H + 1, 0, none⟩), .pointer (some ⟨H, 0, none⟩)] (fun x : BlkD => #[.agg #[.bool x.1, .bool x.2.1, .bool x.2.2]]) O m l.length
      (fun xs => xs = sts (stp de dl se sl ae al) (false, false, false) l) W1 := by
  intro J hJ hY h0
  refine callsIn_of_wp Try.func93 rfl trivial ?_ rfl
  simp only [Try.ntmps93, List.size_toArray, List.length_cons, List.length_nil, Nat.reduceAdd, Nat.reduceSub, Array.replicate_succ, Array.replicate_zero, List.push_toArray, List.append_toArray, List.nil_append, List.cons_append]
  have d1 := (hb1.alloc (.cells #[.bool false, .bool false, .bool false] 78)).cell
  gi_wp2
  gi_loopw [9] (fun i wr => ∃ k : Nat, k ≤ l.length ∧ i = .int .i64 k ∧ J (sts (stp de dl se sl ae al) (false, false, false) (l.take k)) wr ∧ StRel O m H W1 ((l.take k).foldl (stp de dl se sl ae al) (false, false, false)) wr) (fun i _ => l.length - (intOf i).toNat)
  case atStart =>
    refine ⟨0, by omega, rfl, hJ _ _ _ h0 (.ext ((Ext.refl W1).alloc _)), fun i hi _ => Below.heap_alloc W1 _ i (by omega), ?_⟩
    have := Blk.new W1 #[.bool false, .bool false, .bool false] 78
    rwa [hm] at this
  case round =>
    obtain ⟨k, hk, rfl, hj, hkeep, hbs⟩ := hrel
    by_cases hlt : k < l.length
    · obtain ⟨b1, o1, rfl, hbl, hbO, hx1⟩ := hr k hlt
      have hx2 : wr.cell? ⟨b1, o1 + k, none⟩ = some (.int .i64 (l.getD k 0)) := by rw [← hx1]; simp only [World.cell?, hkeep b1 hbl hbO]
      have q1 : (0 : Int) ≤ (k : Int) := by omega
      have q2 : (k : Int) < (l.length : Int) := by omega
      obtain ⟨zk, hzk⟩ : ∃ zk, zk = l[k] := ⟨_, rfl⟩
      have hx3 : wr.cell? ⟨b1, o1 + k, none⟩ = some (.int .i64 zk) := by rw [hx2, hzk]; simp [hlt]
      have HZ := Lib.hid hzk; clear hzk hx2 hx1
      obtain ⟨st, hst⟩ : ∃ st, st = (l.take k).foldl (stp de dl se sl ae al) (false, false, false) := ⟨_, rfl⟩
      rw [← hst] at hbs
      have HS := Lib.hid hst; clear hst
      obtain ⟨x, y, z⟩ := st
      dsimp only at hbs
      have hbh := blk_of hkeep hb0 (by omega) (by omega)
      have e0 := hbh.cell; have e1 := hbs.cell; have f1 := hbs.free; have l0 := hbh.lt; have l1 := hbs.lt
      have HK := Lib.hid hkeep; have HJ := Lib.hid hj; have HB := Lib.hid hbs
      clear hkeep hj hbs hbh d1
      gi_wp2_with fail
      refine ⟨trivial, (callsIn_wide.2 (update_any de dl se sl ae al r x y z zk wr)).mono ?_⟩
      rintro e w1 ⟨rfl, hx1⟩
      have hB := HB.out.ext hx1
      have b1' := hB.cell; have b2' := hB.free; have b3' := hB.lt
      obtain ⟨W2, hW2⟩ : ∃ W2, W2 = ((w1.setCell ⟨m + 2, 0, none⟩ (.bool (flg de dl x zk))).setCell ⟨m + 2, 1, none⟩ (.bool (flg se sl y zk))).setCell ⟨m + 2, 2, none⟩ (.bool (flg ae al z zk)) := ⟨_, rfl⟩
      have hB2 : Blk W2 (m + 2) #[.bool (flg de dl x zk), .bool (flg se sl y zk), .bool (flg ae al z zk)] 78 := by
        rw [hW2]; have := ((hB.set 0 (.bool (flg de dl x zk))).set 1 (.bool (flg se sl y zk))).set 2 (.bool (flg ae al z zk)); simpa using this
      have hkj : Kj m wr W2 := by rw [hW2]; exact (((Kj.ext hx1).set _ _).set _ _).set _ _
      have hJ2 := hJ _ _ _ HJ.out hkj
      have hz2 : m + 2 < W2.heap.size := hB2.lt
      have hk2 : ∀ i, i < m → i ≠ O → W2.heap[i]? = W1.heap[i]? := fun i hi ho => (hkj.block i (by omega) (by omega)).trans (HK.out i hi ho)
      obtain ⟨fn, tmps, assign, body, hy, hR⟩ := hY _ (flg de dl x zk, flg se sl y zk, flg ae al z zk) W2 hJ2 hz2 (by rw [sts_len, List.length_take_of_le (by omega)]; exact hlt)
      have c2 := hB2.cell
      have HB2 := Lib.hid hB2; have HK2 := Lib.hid hk2
      clear hJ2 hB2 hk2 hkj
      dsimp only at hy
      rw [hW2] at hy c2
      gi_wp2
      rw [← hW2]
      refine hR.mono ?_
      rintro e W3 ⟨rfl, hJ3, hk3⟩
      have hB3 : Blk W3 (m + 2) #[.bool (flg de dl x zk), .bool (flg se sl y zk), .bool (flg ae al z zk)] 78 := (hk3.2 (m + 2) (.inr rfl) (by omega)).trans HB2.out
      have hkeep3 : ∀ i, i < m → i ≠ O → W3.heap[i]? = W1.heap[i]? := fun i hi ho => (hk3.2 i (.inl hi) ho).trans (HK2.out i hi ho)
      have GB3 := Lib.hid hB3; have GK3 := Lib.hid hkeep3; have GJ3 := Lib.hid hJ3
      clear hB3 hkeep3 hJ3 hk3
      gi_wp2
      go_roundw
      case rel =>
        have ht : l.take (k + 1) = l.take k ++ [l[k]] := List.take_succ_eq_append_getElem hlt
        have hf : (l.take (k + 1)).foldl (stp de dl se sl ae al) (false, false, false) = (flg de dl x zk, flg se sl y zk, flg ae al z zk) := by
          rw [ht, List.foldl_append, ← HS.out, ← HZ.out]; rfl
        have hs : sts (stp de dl se sl ae al) (false, false, false) (l.take (k + 1)) = sts (stp de dl se sl ae al) (false, false, false) (l.take k) ++ [(flg de dl x zk, flg se sl y zk, flg ae al z zk)] := by
          rw [ht, sts_snoc, ← HS.out, ← HZ.out]; rfl
        refine ⟨k + 1, by omega, by go_num, ?_, GK3.out, ?_⟩
        · rw [hs]; exact GJ3.out
        · rw [hf]; exact GB3.out
      case measure => simp [intOf]; omega
    · gi_wp2
      go_end0
      rw [List.take_of_length_le (by omega)] at hj
      exact ⟨⟨_, rfl⟩, _, rfl, hj⟩
end Go.Proofs.Ytbnalhmcbolngaa

/- Part of the proof of nodL_holds: what the row needs of RunC. Conditions: as each theorem states. -/
namespace Go.Proofs.Ytbnalhmcbolngaa
set_option linter.unusedSimpArgs false
set_option linter.unusedVariables false
open Go.RowKit Go.Shelf
attribute [local go_sem] Oper.semAt_some
theorem below_kx {n m : Nat} {w A B : World} (h : Below n w A) (k : Kx m A B) (hn : n ≤ w.heap.size) (hm : n ≤ m) : Below n w B :=
  h.trans ⟨k.zero.os, k.zero.tape, k.zero.output, k.size, fun i hi => k.block i (Nat.lt_of_lt_of_le (Nat.lt_of_lt_of_le hi hn) h.size) (.inl (by omega))⟩
theorem Kx.putObj0 {m : Nat} (A : World) (o : Obj) : Kx m A (A.putObj m o) :=
  ⟨⟨rfl, rfl, rfl, by simp, fun i hi => by omega⟩, fun i _ ho => World.putObj_heap_other (by omega)⟩
theorem blk_kx {m : Nat} {A B : World} {b : Nat} {c : Array Value} {t : TypeId} (h : Blk A b c t) (k : Kx m A B) (hb : b < m) : Blk B b c t := (k.block b h.lt (.inl hb)).trans h
theorem blk_kx2 {m : Nat} {A B : World} {b : Nat} {c : Array Value} {t : TypeId} (h : Blk A b c t) (k : Kx m A B) (hb : m + 2 < b) : Blk B b c t := (k.block b h.lt (.inr hb)).trans h
theorem own_kx {w w' : World} {m : Nat} {e : TypeId} {size : Nat} {v : Value} {n : Nat} {xs : List Value} (h : w.ownsRow (m + 3) e size v n xs) (x : Kx m w w') : w'.ownsRow (m + 3) e size v n xs := by
  refine ⟨h.1, ?_⟩
  rcases h.2 with hn | ⟨g, cap, cur, rfl, hb, hg, rest⟩
  · exact .inl hn
  · exact .inr ⟨g, cap, cur, rfl, hb, (x.block g (Array.getElem?_eq_some_iff.1 hg).1 (.inr (by omega))).trans hg, rest⟩
theorem wpListIn_append_new {F : Fence} {nf : Nat} {P : Program} (W : World) {ops : Array Oper} {rest : List Oper} {o : Oper} {a : Act} {Q : Exit → Act → World → Prop} (hgd : o.guard = none) (s x : Operand) (t : TypeId)
    (ho : o.op = .call { callee := .builtin .append, args := #[s, x], argTypes := #[t, t] })
    (B : Nat) (e : TypeId) (z : Value) (size bytes : Nat) (ht : P.underlying t = some (.slice e)) (hinfo : (P.info? e).map (fun i => (i.zero, i.size, i.bytes)) = some (some z, size, bytes))
    (hzs : z.cells.size = size) (hsz : 0 < size) (v : Value) (n : Nat) (xs : List Value) (hown : W.ownsRow B e size v n xs) (hs : a.eval s = v)
    (cs : List Value) (hcs : cs.length = size) (h1c : ∀ u ∈ cs, u.oneCell' = true) (hx : a.eval x = .slice (some ⟨W.heap.size, 0, none⟩) 1 1)
    (h63 : n + 1 ≤ 9223372036854775807) (hbytes : (n + 1) * bytes ≤ 140737488355328) (hB : B ≤ W.heap.size)
    (h : ∀ g cap w', w'.ownsRow B e size (.slice (some ⟨g, 0, none⟩) (n + 1) cap) (n + 1) (xs ++ cs) → Below B W w' → wpListIn F nf P ops Q rest (a.put o.dst (.slice (some ⟨g, 0, none⟩) (n + 1) cap)) w') :
    wpListIn F nf P ops Q (o :: rest) a (W.alloc (.cells cs.toArray e)) := by
  obtain ⟨i0, hi, hz0, hz1, hz2⟩ := info_parts hinfo
  refine wpListIn_append_own _ hgd s x t ho B e i0 z size bytes ht hi hz0 hz1 hz2 hzs hsz v n xs hs (hown.alloc _) ⟨W.heap.size, 0, none⟩ 1 1 cs hx (by simp [hcs]) ?_ h1c (by unfold maxLen; omega) hbytes (by simp; omega) ?_
  · intro j u hj
    have hlt : j < cs.length := (List.getElem?_eq_some_iff.1 hj).1
    have hadd : (⟨W.heap.size, 0, none⟩ : Addr).add j = ⟨W.heap.size, j, none⟩ := by unfold Addr.add; split <;> simp_all
    rw [hadd, World.cell?_alloc_at _ _ _ _ rfl]
    simpa using hj
  · intro v' w' hown' hgrow _
    have hb : Below B W w' := ((Below.refl B W).alloc hB _).grown hgrow (by simp; omega) (fun k hk => (hown.lt k hk).1)
    have h2 := hown'.2
    rcases h2 with ⟨_, h0⟩ | ⟨g, cap, cur, rfl, _⟩
    · omega
    · exact h g cap w' hown' hb
def RunI (w : World) (O m : Nat) (pre : List BlkD) (W : World) : Prop :=
  Below w.heap.size w W ∧ ∃ (va : Option Addr) (vn vc : Nat), Blk W O #[.slice va vn vc] 71 ∧ OwBk W (m + 3) (.slice va vn vc) pre
def RunAx (w : World) (O m N : Nat) (pre : List BlkD) (x : BlkD) (a : Act) (W : World) : Prop :=
  RunI w O m pre W ∧ pre.length < N ∧ ∃ bx, m + 2 < bx ∧ Blk W bx #[.bool x.1, .bool x.2.1, .bool x.2.2] 78 ∧ ∃ t0 t1 t2 t3 t5 t6 t8 t9 t10 t11 t12 t13 t14 t15 t16 t17 t18 t19 t20 t21 t22 t23 t24 t25 t26 t27 t28 : Value, a = { tmps := #[t0, t1, t2, t3, .pointer (some ⟨O, 0, none⟩), t5, t6, .pointer (some ⟨bx, 0, none⟩), t8, t9, t10, t11, t12, t13, t14, t15, t16, t17, t18, t19, t20, t21, t22, t23, t24, t25, t26, t27, t28], defers := [] }
set_option maxRecDepth 100000 in
set_option maxHeartbeats 2000000 in
theorem run_0 (de dl se sl ae al r : Int) (v1 : Value) (l : List Int) (w : World) (h1 : RdI .i64 w v1 l) (hc0 : chk de dl se sl ae al r = 0) (hlen : l.length ≤ 1024) (hw : l.any wrongB = false) :
    Calls Try.prog 28 #[.agg #[.int .i64 de, .int .i64 dl, .int .i64 se, .int .i64 sl, .int .i64 ae, .int .i64 al, .int .i64 r], v1] w fun en w' =>
      (∃ v, en = .returned (.tuple #[v, .int .i64 0]) ∧ OwBk w' w.heap.size v (sts (stp de dl se sl ae al) (false, false, false) l)) ∧ Ext w w' := by
  have hrd := h1
  obtain ⟨a1, c1, rfl, hc1, hm1, hr1⟩ := h1.get
  clear h1
  have H1 := Lib.hid hr1; clear hr1
  have HR := Lib.hid hrd; clear hrd
  have HC := Lib.hid hc0; clear hc0
  have HW := Lib.hid hw; clear hw
  have hd : decide (1024 < (l.length : Int)) = false := by simp; omega
  refine (callsIn_wide (n := 8)).1 ?_
  refine callsIn_of_wp_marks Try.func28 rfl trivial ?_ rfl
  simp only [Try.ntmps28, List.size_toArray, List.length_cons, List.length_nil, Nat.reduceAdd, Nat.reduceSub, Array.replicate_succ, Array.replicate_zero, List.push_toArray, List.append_toArray, List.nil_append, List.cons_append]
  gi_wp2_with fail
  refine ⟨trivial, (callsIn_wide.2 (check_any _ _ _ _ _ _ _ _)).mono ?_⟩
  rintro e w1 ⟨rfl, hx1⟩
  have hX1 : Ext w w1 := (((Ext.refl w).alloc _).alloc _).trans hx1
  have hB0 := ((Blk.new w #[.int .i64 de, .int .i64 dl, .int .i64 se, .int .i64 sl, .int .i64 ae, .int .i64 al, .int .i64 r] 61).alloc (.cells #[.slice none 0 0] 71)).ext hx1
  have hB1 := (Blk.new (w.alloc (.cells #[.int .i64 de, .int .i64 dl, .int .i64 se, .int .i64 sl, .int .i64 ae, .int .i64 al, .int .i64 r] 61)) #[.slice none 0 0] 71).ext hx1
  rw [World.size_alloc] at hB1
  have GX := Lib.hid hX1; have G0 := Lib.hid hB0; have G1 := Lib.hid hB1
  clear hX1 hB0 hB1 hx1
  rw [HC.out]
  gi_wp2_with fail
  refine ⟨trivial, (callsIn_wide.2 (containsFunc30_any _ l w1 (HR.out.ext GX.out))).mono ?_⟩
  rintro e w2 ⟨rfl, hx2⟩
  have hX1 := GX.out.trans hx2
  have hB0 := G0.out.ext hx2
  have hB1 := G1.out.ext hx2
  have c0 := hB0.cell
  have GX2 := Lib.hid hX1; have J0 := Lib.hid hB0; have J1 := Lib.hid hB1
  clear hX1 hB0 hB1 hx2 GX G0 G1
  rw [HW.out]
  gi_wp2_with fail
  refine ⟨trivial, (callsIn_wide.2 (states_any _ _ _ _ _ _ _ _ _ _ _)).mono ?_⟩
  rintro e w3 ⟨rfl, hw3⟩
  have hm : w3.heap.size = w2.heap.size + 2 := by rw [hw3]; simp
  have hx3 : Ext w2 w3 := by rw [hw3]; exact ((Ext.refl w2).alloc _).alloc _
  have hS0 : Blk w3 w2.heap.size #[.int .i64 de, .int .i64 dl, .int .i64 se, .int .i64 sl, .int .i64 ae, .int .i64 al, .int .i64 r] 61 := by rw [hw3]; exact (Blk.new w2 _ _).alloc _
  have hS1 : Blk w3 (w2.heap.size + 1) #[.slice a1 l.length c1] 24 := by
    rw [hw3]; have := Blk.new (w2.alloc (.cells #[.int .i64 de, .int .i64 dl, .int .i64 se, .int .i64 sl, .int .i64 ae, .int .i64 al, .int .i64 r] 61)) #[.slice a1 l.length c1] 24; rwa [World.size_alloc] at this
  have hO := (J1.out.ext hx3)
  have hOlt := J1.out.lt
  have hX3 := GX2.out.trans hx3
  have GX3 := Lib.hid hX3; have K0 := Lib.hid hS0; have K1 := Lib.hid hS1; have KO := Lib.hid hO
  clear hw3 hx3 hS0 hS1 hO hX3 GX2 J0 J1 c0
  gi_wp2_with fail
  have hzw := GX3.out.size
  have hseq : ∀ W1, Ext w3 W1 → W1.heap.size = w3.heap.size + 2 → StSeq Fence.wide 7 Try.prog 93 #[.pointer (some ⟨w2.heap.size + 1, 0, none⟩), .pointer (some ⟨w2.heap.size, 0, none⟩)] (fun x : BlkD => #[.agg #[.bool x.1, .bool x.2.1, .bool x.2.2]]) (w.heap.size + 1) w3.heap.size l.length
      (fun xs => xs = sts (stp de dl se sl ae al) (false, false, false) l) W1 := by
    intro W1 hx hs
    refine states1_seq 7 (by omega) de dl se sl ae al r a1 c1 l w2.heap.size (w.heap.size + 1) w3.heap.size W1 hs (by omega) (by omega) (by omega) (by omega) hc1 hm1 (K0.out.ext hx) (K1.out.ext hx) ?_
    intro i hi
    obtain ⟨b, off, ha, hb, hc⟩ := H1.out i hi
    exact ⟨b, off, ha, by omega, by omega, by rw [← hc]; exact (GX3.out.trans hx).cell (p := ⟨b, off + i, none⟩) hb⟩
  refine wpIn_range_st rfl (by omega) (gf := 93) (lb := #[.pointer (some ⟨w2.heap.size + 1, 0, none⟩), .pointer (some ⟨w2.heap.size, 0, none⟩)]) rfl trivial (enters_of Try.func93 (by kernel_rfl) rfl) (encs := fun x : BlkD => #[.agg #[.bool x.1, .bool x.2.1, .bool x.2.2]]) (w.heap.size + 1) l.length (by omega)
    hseq (fun _ => rfl)
    (RunI w (w.heap.size + 1) w3.heap.size) ?hI ?h0 (RunAx w (w.heap.size + 1) w3.heap.size l.length) ?hAx ?hassign ?hbody ?hdone
  case hI =>
    rintro pre A B ⟨h1, va, vn, vc, h2, h4⟩ k
    exact ⟨below_kx h1 k (Nat.le_refl _) (by omega), va, vn, vc, blk_kx h2 k (by omega), own_kx h4 k⟩
  case h0 => exact ⟨GX3.out, none, 0, 0, KO.out, World.ownsRow_nil _ _ _ _⟩
  case hAx =>
    rintro pre x a A B ⟨⟨h1, va, vn, vc, h2, h4⟩, hp, bx, hb, h5, rest⟩ k
    exact ⟨⟨below_kx h1 k (Nat.le_refl _) (by omega), va, vn, vc, blk_kx h2 k (by omega), own_kx h4 k⟩, hp, bx, hb, blk_kx2 h5 k hb, rest⟩
  case hassign =>
    rintro ll pre x W K ⟨h1, va, vn, vc, h2, h4⟩ hlt hp hK
    gi_wp2
    refine hK _ _ ((Ext.refl W).alloc _) ⟨⟨h1.alloc h1.size _, va, vn, vc, h2.alloc _, own_ext h4 ((Ext.refl W).alloc _)⟩, hp, W.heap.size, hlt, Blk.new W _ _, _, _, _, _, _, _, _, _, _, _, _, _, _, _, _, _, _, _, _, _, _, _, _, _, _, _, _, rfl⟩
  case hbody =>
    rintro ll pre x a W ⟨⟨h1, va, vn, vc, h2, h4⟩, hp, bx, hb, h5, t0, t1, t2, t3, t5, t6, t8, t9, t10, t11, t12, t13, t14, t15, t16, t17, t18, t19, t20, t21, t22, t23, t24, t25, t26, t27, t28, rfl⟩ hlt
    have d0 := h2.cell; have d1 := h2.free; have d2 := h2.lt; have e0 := h5.cell
    have HO := Lib.hid h4
    have h1s := h1.size
    clear h4
    gi_wp2_with (gi_at_builtin; refine wpListIn_append_new W rfl _ _ 71 rfl (w3.heap.size + 3) 78 (.agg #[.bool false, .bool false, .bool false]) 3 3 Try.underlying71 Try.infoBlk rfl (by decide) _ _ _ HO.out rfl [_, _, _] rfl (by simp [Value.oneCell']) rfl (by omega) (by omega) (by omega) ?_)
    intro g cap w4 hown4 hb4
    have hO4 := h2.below hb4 (by omega)
    have d3 := hO4.cell; have d4 := hO4.free; have d5 := hO4.lt
    have HB4 := Lib.hid hb4; have HO4 := Lib.hid hown4
    clear hb4 hown4
    gi_wp2
    refine ⟨⟨by have := HB4.out.size; simpa using this, fun i hi ho => (Below.heap_setCell _ _ _ _ ho).trans (HB4.out.block i (by omega))⟩, (h1.trans (HB4.out.mono (by omega))).setCell (by dsimp only; omega) _, _, _, _, hO4.set 0 _, ?_⟩
    have := own_setBelow HO4.out (a := ⟨w.heap.size + 1, 0, none⟩) (by dsimp only; omega) (.slice (some ⟨g, 0, none⟩) (pre.length + 1) cap)
    unfold OwBk
    rw [List.length_append, List.flatMap_append]
    simpa using this
  case hdone =>
    rintro xs W rfl ⟨h1, va, vn, vc, h2, h4⟩ hD
    have d0 := h2.cell; have d1 := h2.free; have d2 := h2.lt
    gi_wp2
    have hBW := h2.set 0 (.slice va vn vc)
    have hDW : (W.setCell ⟨w.heap.size + 1, 0, none⟩ (.slice va vn vc)).heap[w3.heap.size]? = some (.deferred (some [])) := (Below.heap_setCell _ _ _ _ (by dsimp only; omega)).trans hD
    have hBV : Blk ((W.setCell ⟨w.heap.size + 1, 0, none⟩ (.slice va vn vc)).putObj w3.heap.size (.deferred none)) (w.heap.size + 1) #[.slice va vn vc] 71 := (World.putObj_heap_other (by omega)).trans hBW
    have cV := hBV.cell
    rw [hm] at cV
    refine ⟨by simp, .inl ⟨_, _, rfl, run_takeDeferred hDW, ?_⟩⟩
    refine ⟨.tuple #[.slice va vn vc, .int .i64 0], by (simp only [results, Try.results28]; go_simp), ⟨_, rfl, ?_⟩, ?_⟩
    · exact own_mono (own_kx (own_setBelow h4 (a := ⟨w.heap.size + 1, 0, none⟩) (by dsimp only; omega) _) (Kx.putObj0 _ _)) (by omega)
    · exact below_kx (h1.setCell (p := ⟨w.heap.size + 1, 0, none⟩) (by dsimp only; omega) _) (Kx.putObj0 _ _) (Nat.le_refl _) (by omega)
set_option maxRecDepth 100000 in
set_option maxHeartbeats 2000000 in
theorem run_any (de dl se sl ae al r : Int) (v1 : Value) (l : List Int) (w : World) (h1 : RdI .i64 w v1 l) :
    Calls Try.prog 28 #[.agg #[.int .i64 de, .int .i64 dl, .int .i64 se, .int .i64 sl, .int .i64 ae, .int .i64 al, .int .i64 r], v1] w fun en w' =>
      (∃ v, en = .returned (.tuple #[v, .int .i64 (runR de dl se sl ae al r l).2]) ∧ OwBk w' w.heap.size v (runR de dl se sl ae al r l).1) ∧ Ext w w' := by
  rcases chk_01 (de := de) (dl := dl) (se := se) (sl := sl) (ae := ae) (al := al) (r := r) with h | h
  · by_cases hlen : 1024 < l.length
    · rw [runR_4 h hlen]
      obtain ⟨a1, c1, rfl, hc1, hm1, hr1⟩ := h1.get
      clear h1 hr1
      have HC := Lib.hid h; clear h
      have hd : decide (1024 < (l.length : Int)) = true := by simp; omega
      refine (callsIn_wide (n := 8)).1 ?_
      refine callsIn_of_wp_marks Try.func28 rfl trivial ?_ rfl
      simp only [Try.ntmps28, List.size_toArray, List.length_cons, List.length_nil, Nat.reduceAdd, Nat.reduceSub, Array.replicate_succ, Array.replicate_zero, List.push_toArray, List.append_toArray, List.nil_append, List.cons_append]
      gi_wp2_with fail
      refine ⟨trivial, (callsIn_wide.2 (check_any _ _ _ _ _ _ _ _)).mono ?_⟩
      rintro e w1 ⟨rfl, hx1⟩; have hz1 := hx1.size; (try simp only [World.size_alloc, World.size_setCell, World.size_drew, size_drewN] at hz1); obtain ⟨hc1, hf1⟩ := hx1.old (B := w.heap.size) (by (try simp only [World.size_alloc, World.size_setCell, World.size_drew, size_drewN]); omega); have hs0 : w.heap.size < w1.heap.size := (by omega); have hl0 : w.heap.size ≤ w1.heap.size := (by omega); have hm0 : w.heap.size ≤ w1.heap.size + 1 := (by omega); obtain ⟨hcb0, hfb0⟩ := hx1.block_at (b := w.heap.size) (by (try simp only [World.size_alloc, World.size_setCell, World.size_drew, size_drewN]); omega); have hs1 : w.heap.size + 1 < w1.heap.size := (by omega); have hl1 : w.heap.size + 1 ≤ w1.heap.size := (by omega); have hm1 : w.heap.size + 1 ≤ w1.heap.size + 1 := (by omega); obtain ⟨hcb1, hfb1⟩ := hx1.block_at (b := w.heap.size + 1) (by (try simp only [World.size_alloc, World.size_setCell, World.size_drew, size_drewN]); omega)
      rw [HC.out]
      gi_wp2_with fail
      refine ⟨.tuple #[.slice none 0 0, .int .i64 4], by (simp only [results, Try.results28]; go_simp), ⟨_, rfl, World.ownsRow_nil _ _ _ _⟩, by (repeat (first | (with_reducible exact Ext.refl _) | (with_reducible assumption) | (with_reducible refine Ext.alloc ?_ _) | ((with_reducible refine Ext.setp ?_ ?_); focus (dsimp only; omega)) | (with_reducible refine Ext.drew ?_) | (with_reducible refine Ext.drewN ?_ _) | (with_reducible refine Ext.trans ?_ (by assumption))))⟩
    · rcases hw : l.any wrongB with _ | _
      · rw [runR_0 h (by omega) hw]
        exact run_0 de dl se sl ae al r v1 l w h1 h (by omega) hw
      · rw [runR_w h (by omega) hw]
        have HR := Lib.hid h1
        obtain ⟨a1, c1, rfl, hc1, hm1, hr1⟩ := h1.get
        clear h1 hr1
        have HC := Lib.hid h; clear h
        have HW := Lib.hid hw; clear hw
        have hd : decide (1024 < (l.length : Int)) = false := by simp; omega
        refine (callsIn_wide (n := 8)).1 ?_
        refine callsIn_of_wp_marks Try.func28 rfl trivial ?_ rfl
        simp only [Try.ntmps28, List.size_toArray, List.length_cons, List.length_nil, Nat.reduceAdd, Nat.reduceSub, Array.replicate_succ, Array.replicate_zero, List.push_toArray, List.append_toArray, List.nil_append, List.cons_append]
        gi_wp2_with fail
        refine ⟨trivial, (callsIn_wide.2 (check_any _ _ _ _ _ _ _ _)).mono ?_⟩
        rintro e w1 ⟨rfl, hx1⟩; have hz1 := hx1.size; (try simp only [World.size_alloc, World.size_setCell, World.size_drew, size_drewN] at hz1); obtain ⟨hc1, hf1⟩ := hx1.old (B := w.heap.size) (by (try simp only [World.size_alloc, World.size_setCell, World.size_drew, size_drewN]); omega); have hs0 : w.heap.size < w1.heap.size := (by omega); have hl0 : w.heap.size ≤ w1.heap.size := (by omega); have hm0 : w.heap.size ≤ w1.heap.size + 1 := (by omega); obtain ⟨hcb0, hfb0⟩ := hx1.block_at (b := w.heap.size) (by (try simp only [World.size_alloc, World.size_setCell, World.size_drew, size_drewN]); omega); have hs1 : w.heap.size + 1 < w1.heap.size := (by omega); have hl1 : w.heap.size + 1 ≤ w1.heap.size := (by omega); have hm1 : w.heap.size + 1 ≤ w1.heap.size + 1 := (by omega); obtain ⟨hcb1, hfb1⟩ := hx1.block_at (b := w.heap.size + 1) (by (try simp only [World.size_alloc, World.size_setCell, World.size_drew, size_drewN]); omega)
        rw [HC.out]
        have hX1 : Ext w w1 := (((Ext.refl w).alloc _).alloc _).trans hx1
        have GX := Lib.hid hX1; clear hX1
        have c2 := hcb1 0; have f2 := hfb1 0
        have hB1 := (Blk.new (w.alloc (.cells #[.int .i64 de, .int .i64 dl, .int .i64 se, .int .i64 sl, .int .i64 ae, .int .i64 al, .int .i64 r] 61)) #[.slice none 0 0] 71).ext hx1
        rw [World.size_alloc] at hB1
        have G1 := Lib.hid hB1
        clear hB1 hcb0 hcb1 hfb0 hfb1 hx1 c2 f2
        gi_wp2_with fail
        refine ⟨trivial, (callsIn_wide.2 (containsFunc30_any _ l w1 (HR.out.ext GX.out))).mono ?_⟩
        rintro e w2 ⟨rfl, hx2⟩
        have hB1 := G1.out.ext hx2
        have c1 := hB1.cell; have f1 := hB1.free; have l1 := hB1.lt
        have hX2 := GX.out.trans hx2
        have GX2 := Lib.hid hX2; clear hX2 hB1 hx2
        rw [HW.out]
        gi_wp2_with fail
        refine ⟨.tuple #[.slice none 0 0, .int .i64 1], by (simp only [results, Try.results28]; go_simp), ⟨_, rfl, World.ownsRow_nil _ _ _ _⟩, by have := GX2.out; (repeat (first | (with_reducible exact Ext.refl _) | (with_reducible assumption) | (with_reducible refine Ext.alloc ?_ _) | ((with_reducible refine Ext.setp ?_ ?_); focus (dsimp only; omega)) | (with_reducible refine Ext.drew ?_) | (with_reducible refine Ext.drewN ?_ _) | (with_reducible refine Ext.trans ?_ (by assumption))))⟩
  · rw [runR_1 h]
    have HC := Lib.hid h; clear h
    refine (callsIn_wide (n := 8)).1 ?_
    refine callsIn_of_wp_marks Try.func28 rfl trivial ?_ rfl
    simp only [Try.ntmps28, List.size_toArray, List.length_cons, List.length_nil, Nat.reduceAdd, Nat.reduceSub, Array.replicate_succ, Array.replicate_zero, List.push_toArray, List.append_toArray, List.nil_append, List.cons_append]
    gi_wp2_with fail
    refine ⟨trivial, (callsIn_wide.2 (check_any _ _ _ _ _ _ _ _)).mono ?_⟩
    rintro e w1 ⟨rfl, hx1⟩; have hz1 := hx1.size; (try simp only [World.size_alloc, World.size_setCell, World.size_drew, size_drewN] at hz1); obtain ⟨hc1, hf1⟩ := hx1.old (B := w.heap.size) (by (try simp only [World.size_alloc, World.size_setCell, World.size_drew, size_drewN]); omega); have hs0 : w.heap.size < w1.heap.size := (by omega); have hl0 : w.heap.size ≤ w1.heap.size := (by omega); have hm0 : w.heap.size ≤ w1.heap.size + 1 := (by omega); obtain ⟨hcb0, hfb0⟩ := hx1.block_at (b := w.heap.size) (by (try simp only [World.size_alloc, World.size_setCell, World.size_drew, size_drewN]); omega); have hs1 : w.heap.size + 1 < w1.heap.size := (by omega); have hl1 : w.heap.size + 1 ≤ w1.heap.size := (by omega); have hm1 : w.heap.size + 1 ≤ w1.heap.size + 1 := (by omega); obtain ⟨hcb1, hfb1⟩ := hx1.block_at (b := w.heap.size + 1) (by (try simp only [World.size_alloc, World.size_setCell, World.size_drew, size_drewN]); omega)
    rw [HC.out]
    gi_wp2_with fail
    refine ⟨.tuple #[.slice none 0 0, .int .i64 1], by (simp only [results, Try.results28]; go_simp), ⟨_, rfl, World.ownsRow_nil _ _ _ _⟩, by (repeat (first | (with_reducible exact Ext.refl _) | (with_reducible assumption) | (with_reducible refine Ext.alloc ?_ _) | ((with_reducible refine Ext.setp ?_ ?_); focus (dsimp only; omega)) | (with_reducible refine Ext.drew ?_) | (with_reducible refine Ext.drewN ?_ _) | (with_reducible refine Ext.trans ?_ (by assumption))))⟩
end Go.Proofs.Ytbnalhmcbolngaa

