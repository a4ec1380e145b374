/- Part of the proof of mat6_holds: what the row needs of GE. Conditions: as each theorem states. -/
import Derived.Test.YtbnalhmcbolngaaGreatSmGD
import Derived.Shelf.RegionOpenPlain
import Derived.Sort.WalkB12
import Derived.Lib.SlicesMore
import Derived.Lib.OwnBridge
import Derived.Laws.BytesArg
namespace Go.Proofs.YtbnalhmcbolngaaGreat
set_option linter.unusedSimpArgs false
set_option linter.unusedVariables false
open Go.RowKit Go.Shelf Go.Sort
abbrev OwY (w : World) (B : Nat) (v : Value) (l : List Int) : Prop := w.ownsRow B 5 1 v l.length (l.map (Value.int .u8))
abbrev encY : Int → Value := fun x => Value.int .u8 x
set_option maxRecDepth 100000 in
set_option maxHeartbeats 1600000 in
theorem reverse_arr (blk cap : Nat) (d : Array Int) (w : World) (hH : Holds encY w blk 0 d) (hsz : d.size ≤ 9223372036854775807) :
    Calls Tryz.prog 172 #[.slice (some ⟨blk, 0, none⟩) d.size cap] w fun e w' => e = .returned (.tuple #[]) ∧ ∃ n, w' = putRow encY (Sort.ahead w n) blk 0 d.reverse := by
  have mixed : Tryz.prog.follows .mixedOrders = true := by kernel_rfl
  go_enter Tryz.func172, Tryz.ntmps172
  go_wp2
  go_loopg [2, 3] d.size (fun k s2 s3 wr => ∃ (i jn : Nat) (jz : Int) (dk : Array Int) (n : Nat), s2 = .int .i64 i ∧ s3 = .int .i64 jz ∧ ((i : Int) < jz → jz = jn ∧ jn < d.size) ∧ (¬ (i : Int) < jz → ¬ i < jn) ∧ jn - i ≤ k ∧
    dk.size = d.size ∧ wr = putRow encY (Sort.ahead w n) blk 0 dk ∧ reverseLoop i jn dk = reverseLoop 0 (d.size - 1) d)
  case atStart => exact ⟨0, d.size - 1, (d.size : Int) - 1, d, 0, rfl, rfl, fun h => ⟨by omega, by omega⟩, fun h => by omega, by omega, rfl, (putRow_self encY w blk 0 d hH).symm, rfl⟩
  case round =>
    obtain ⟨i, jn, jz, dk, n, rfl, rfl, h1, h2, hk, hds, hwr, heq⟩ := hrel
    by_cases hlt : (i : Int) < jz
    · obtain ⟨rfl, hjn⟩ := h1 hlt
      have hij : i < jn := by omega
      have hHk : Holds encY wr blk 0 dk := by rw [hwr]; exact holds_putRow encY _ blk 0 d dk (holds_ahead encY w n blk 0 d hH) hds
      obtain ⟨ci, fi⟩ := hHk i (by omega)
      obtain ⟨cj, fj⟩ := hHk jn (by omega)
      rw [Nat.zero_add] at ci fi cj fj
      have A : Aside (wr = putRow encY (Sort.ahead w n) blk 0 dk) := hwr
      clear hwr hHk hH h1 h2
      go_wp2_with fail
      go_region_o
      go_wp2
      go_roundg (jn - 1 - (i + 1))
      case measure => omega
      case rel =>
        rw [reverseLoop, if_pos hij] at heq
        have hsw := swap_world encY (i := i) (j := jn) (by omega) (by omega) A.out (x := .int .u8 dk[jn]!) (y := .int .u8 dk[i]!) rfl rfl
        rw [Nat.zero_add, Nat.zero_add] at hsw
        refine ⟨i + 1, jn - 1, (jn : Int) - 1, swp dk i jn, n + 1, by simp, rfl, fun h => ⟨by omega, by omega⟩, fun h => by omega, Nat.le_refl _, by rw [size_swp]; exact hds, ?_, heq⟩
        rw [getElem!_pos dk jn (by omega)] at hsw
        exact hsw
    · have hnot := h2 hlt
      go_wp2
      go_end0
      refine ⟨rfl, n, ?_⟩
      rw [reverseLoop, if_neg hnot] at heq
      rw [← Lib.reverseLoop_reverse, ← heq]
theorem reverse_any (B : Nat) (v : Value) (l : List Int) (w : World) (h : OwY w B v l) (h0 : l ≠ []) :
    Calls Tryz.prog 172 #[v] w fun e w' => e = .returned (.tuple #[]) ∧ OwY w' B v l.reverse ∧ Below B w w' ∧ Gr v.ownBlock w w' := by
  have hv : v ≠ .slice none 0 0 := by
    rintro rfl
    rcases h.2 with ⟨_, h1⟩ | ⟨g, cap, cur, e, _⟩
    · exact h0 (List.length_eq_zero_iff.1 h1)
    · cases e
  obtain ⟨g, cap, rfl, hg, hgl, hn, hm, hl, hH⟩ := Lib.holds_of_ownsRow (enc := encY) h hv
  have := reverse_arr g cap l.toArray w hH (by simp; unfold maxLen at hm; omega)
  simp only [List.size_toArray] at this
  refine this.mono ?_
  rintro e w' ⟨rfl, n, rfl⟩
  have hb := Lib.below_putRow (enc := encY) (q := n) (d := l.toArray.reverse) (Below.refl B w) hg
  refine ⟨rfl, ?_, hb, ⟨hb.os, hb.tape, hb.output, hb.size, fun i hi hn => ?_⟩⟩
  case refine_2 =>
    have hne : g ≠ i := fun e => hn (by simp [Value.ownBlock, e])
    simp [putRow, mapBlock, Sort.ahead, Array.getElem?_modify, hne]
  have hx := Lib.ownsRow_putRow (enc := encY) (q := n) (ys := l.reverse) h (by simp) (Nat.le_refl _)
  rw [List.take_of_length_le (by simp)] at hx
  rw [show l.toArray.reverse = l.reverse.toArray by simp]
  rw [OwY, List.length_reverse]
  exact hx
theorem infoY : (Tryz.prog.info? 5).map (fun i => (i.zero, i.size, i.bytes)) = some (some (.int .u8 0), 1, 1) := by kernel_rfl
theorem und51 : Tryz.prog.underlying 187 = some (.slice 5) := by kernel_rfl
theorem und5 : Tryz.prog.underlying 5 = some (.int .u8) := by kernel_rfl
theorem und9 : Tryz.prog.underlying 9 = some .string := by kernel_rfl
theorem textOf (w : World) (B : Nat) (v : Value) (l : List Int) (h : OwY w B v l) (h0 : l ≠ []) : (convert 187 9 v).run Tryz.prog w = .ok (.string (strOfNums l)) w := by
  rcases h.2 with ⟨_, h1⟩ | ⟨g, cap, cur, rfl, hg, hh, hn, hm, hs, ht⟩
  · exact absurd (List.length_eq_zero_iff.1 h1) h0
  · refine run_convert_bytes_arg w 187 5 und51 und5 g 0 l.length cap l rfl (fun i hi => ?_) _ und9
    have := h.cellAt i (by simpa using hi)
    rw [Nat.zero_add, this]
    simp [List.getD, List.getElem?_eq_getElem hi]
def decR (n : Nat) : List Nat := if h : n = 0 then [] else n % 10 :: decR (n / 10)
termination_by n
decreasing_by omega
theorem decR_zero : decR 0 = [] := by rw [decR, dif_pos rfl]
theorem decR_pos {n : Nat} (h : n ≠ 0) : decR n = n % 10 :: decR (n / 10) := by rw [decR, dif_neg h]
def decT (n : Nat) : ByteArray := if n = 0 then ⟨#[48]⟩ else strOfNums ((decR n).map (fun d => ((48 + d : Nat) : Int))).reverse
def textS (l : List Int) : ByteArray × Int := if chkE l = 0 then (decT (nv l), 0) else (⟨#[]⟩, chkE l)
theorem dec_step (x h : Nat) : (x + 4294967296 * h) / 10 = (x + 4294967296 * (h % 10)) / 10 + 4294967296 * (h / 10) ∧ (x + 4294967296 * h) % 10 = (x + 4294967296 * (h % 10)) % 10 ∧ (x < 4294967296 → (x + 4294967296 * (h % 10)) / 10 < 4294967296) := by omega
end Go.Proofs.YtbnalhmcbolngaaGreat
namespace Go.Proofs.YtbnalhmcbolngaaGreat
set_option linter.unusedSimpArgs false
set_option linter.unusedVariables false
open Go.RowKit Go.Shelf
attribute [local go_sem] Oper.semAt_some
theorem wpListIn_append_y {F : Fence} {n : Nat} {ops : Array Oper} {rest : List Oper} {o : Oper} {a : Act} {Q : Exit → Act → World → Prop} (W : World) (hgd : o.guard = none) (s x : Operand)
    (ho : o.op = .call { callee := .builtin .append, args := #[s, x], argTypes := #[187, 187] }) (B : Nat) (v : Value) (l : List Int) (hown : OwY W B v l) (hs : a.eval s = v) (c : Int)
    (hx : a.eval x = .slice (some ⟨W.heap.size, 0, none⟩) 1 1) (hl : l.length ≤ 1000000000) (hB : B ≤ W.heap.size)
    (h : ∀ v' w', OwY w' B v' (l ++ [c]) → Gr v.ownBlock W w' → wpListIn F n Tryz.prog ops Q rest (a.put o.dst v') w') :
    wpListIn F n Tryz.prog ops Q (o :: rest) a (W.alloc (.cells #[.int .u8 c] 5)) := by
  obtain ⟨i0, hi, hz0, hz1, hz2⟩ := info_parts infoY
  refine wpListIn_append_own _ hgd s x 187 ho B 5 i0 (.int .u8 0) 1 1 und51 hi hz0 hz1 hz2 (by simp [Value.cells]) (by omega) v l.length (l.map (Value.int .u8)) hs (hown.alloc _) ⟨W.heap.size, 0, none⟩ 1 1 [.int .u8 c] hx rfl ?_ (by simp [Value.oneCell']) (by unfold maxLen; omega) (by omega) (by simp; omega) ?_
  · intro j u hj
    have hlt : j < 1 := (List.getElem?_eq_some_iff.1 hj).1
    have hadd : (⟨W.heap.size, 0, none⟩ : Addr).add j = ⟨W.heap.size, j, none⟩ := by unfold Addr.add; split <;> simp_all
    rw [hadd, World.cell?_alloc_at _ _ _ _ rfl]
    simpa using hj
  · intro v' w' hown' hgrow _
    refine h v' w' ?_ (((Gr.refl _ W).alloc _).trans hgrow)
    rw [OwY, List.length_append, List.map_append]
    exact hown'
theorem Marks.bytes {H B : Nat} {ds : List Deferred} {W W' : World} {v : Value} {l : List Int} (h : Marks H ds W) (hv : OwY W B v l) (e : Gr v.ownBlock W W') : Marks H ds W' := by
  obtain ⟨rs, h1, h2, h3⟩ := h
  refine ⟨rs, h1, h2, fun r hr => ⟨(h3 r hr).1, ?_⟩⟩
  rw [← (h3 r hr).2]
  refine e.block r (Array.getElem?_eq_some_iff.1 (h3 r hr).2).1 (fun e2 => ?_)
  rcases hv.2 with ⟨rfl, _⟩ | ⟨g, cap, cur, rfl, hb, hg, _⟩
  · simp [Value.ownBlock] at e2
  · have e3 : r = g := by simpa [Value.ownBlock] using e2
    have := (h3 r hr).2
    rw [e3, hg] at this
    cases this
theorem OwY.fr {W W' : World} {B : Nat} {v : Value} {l : List Int} (h : OwY W B v l) (e : ∀ i, B ≤ i → i < W.heap.size → W'.heap[i]? = W.heap[i]?) : OwY W' B v l := by
  rcases h.2 with h1 | ⟨g, cap, cur, h0, hb, hg, hr⟩
  · exact ⟨h.1, .inl h1⟩
  · exact ⟨h.1, .inr ⟨g, cap, cur, h0, hb, (e g hb (Array.getElem?_eq_some_iff.1 hg).1).trans hg, hr⟩⟩
theorem OwY.own_le {W : World} {B : Nat} {v : Value} {l : List Int} (h : OwY W B v l) {i : Nat} (hi : v.ownBlock = some i) : B ≤ i := by
  rcases h.2 with ⟨rfl, _⟩ | ⟨g, cap, cur, rfl, hb, _⟩
  · simp [Value.ownBlock] at hi
  · have : g = i := by simpa [Value.ownBlock] using hi
    omega
theorem decR_len : ∀ (n : Nat), (decR n).length ≤ blen n := by
  intro n
  induction n using Nat.strongRecOn with
  | ind n ih =>
    by_cases h : n = 0
    · subst h; rw [decR_zero]; simp
    · rw [decR_pos h, List.length_cons, blen_half h]
      have h1 := ih (n / 10) (by omega)
      have h2 : blen (n / 10) ≤ blen (n / 2) := blen_le.2 (by have := blen_le.1 (Nat.le_refl (blen (n / 2))); omega)
      omega
def TxtI (w0 : World) (lk : List Int) (g cap Rb k : Nat) (W : World) : Prop :=
  ∃ lj : List Int, lj.length = lk.length ∧ Lim lj ∧ lj.take k = lk.take k ∧ nv (lj.drop k) = nv (lk.drop k) / 10 ∧ RowU W g cap lj ∧ Blk W Rb #[.int .u64 ((nv (lk.drop k) % 10 : Nat) : Int)] 144 ∧
    Fr (fun i => i = g ∨ i = Rb) w0 W
def TxtAx (w0 : World) (lk : List Int) (g cap Rb H k : Nat) (x : Int) (a1 : Act) (W : World) : Prop :=
  k < lk.length ∧ TxtI w0 lk g cap Rb (k + 1) W ∧ x = lk.getD k 0 ∧ w0.heap.size + 1 < W.heap.size ∧ ∃ t0 t2 t3 t4 t5 t9 t10 t11 t12 t13 t14 t15 t16 t17 t18 t19 t20 t21 t22 t23 t24 t25 t26 t27 t28 t29 t30 t31 t32 t33 t34 t35 t36 t37 t38 t39 t40 t41 t42 t43 t44 t45 t46 t47 t48 t49 t50 : Value,
    a1 = { tmps := #[t0, .pointer (some ⟨H, 0, none⟩), t2, t3, t4, t5, .pointer (some ⟨Rb, 0, none⟩), .int .i64 k, .int .u32 x, t9, t10, t11, t12, t13, t14, t15, t16, t17, t18, t19, t20, t21, t22, t23, t24, t25, t26, t27, t28, t29, t30, t31, t32, t33, t34, t35, t36, t37, t38, t39, t40, t41, t42, t43, t44, t45, t46, t47, t48, t49, t50], defers := [] }
theorem TxtI.kz {w0 : World} {lk : List Int} {g cap Rb k : Nat} {A B : World} (h : TxtI w0 lk g cap Rb k A) (z : Kz w0.heap.size A B) (hg : g < w0.heap.size) (hb : Rb < w0.heap.size) : TxtI w0 lk g cap Rb k B := by
  obtain ⟨lj, h1, h2, h3, h4, h5, h6, h7⟩ := h
  exact ⟨lj, h1, h2, h3, h4, h5.kz z (.inl hg), h6.kz z (.inl hb), h7.kz z (Nat.le_refl _)⟩
theorem shl_or (r : Nat) (x : Int) (hr : r < 10) (hx : 0 ≤ x ∧ x < 4294967296) : bits .or .u64 ((r : Int) * 4294967296) x = ((x.toNat + 4294967296 * r : Nat) : Int) := by
  obtain ⟨a, rfl⟩ := Int.eq_ofNat_of_zero_le hx.1
  rw [Int.toNat_natCast, show ((r : Int) * 4294967296) = ((r * 4294967296 : Nat) : Int) by omega, (bits_u64 (r * 4294967296) a (by omega) (by omega)).2.1]
  rw [or_add (r * 4294967296) a 32 (by omega) (by omega)]
  omega
def TxtO (w w0 : World) (l : List Int) (g cap H B : Nat) (N : Nat) (sv : Value) (ds : List Deferred) (W : World) : Prop :=
  ∃ (lk : List Int) (L : List Nat), N = nv lk ∧ Lim lk ∧ NoZ lk ∧ lk.length ≤ l.length ∧ decR (nv l) = L ++ decR (nv lk) ∧ RowU W g cap lk ∧ Blk W H #[.slice (some ⟨g, 0, none⟩) lk.length cap] 31 ∧
    OwY W B sv (L.map (fun d => ((48 + d : Nat) : Int))) ∧ Ext w W ∧ Marks (B - 1) ds W ∧ B ≤ W.heap.size
set_option maxRecDepth 100000 in
set_option maxHeartbeats 8000000 in
theorem text_any (v : Value) (l : List Int) (w : World) (h : RdI .u32 w v l) (hl : Lim l) :
    Calls Tryz.prog 134 #[v] w fun e w' => e = .returned (.tuple #[.string (textS l).1, .int .i64 (textS l).2]) ∧ Ext w w' := by
  have HR := Lib.hid h; have HL := Lib.hid hl
  obtain ⟨a, ca, rfl, hca, hma, hra⟩ := rdU h
  clear h hl hra
  have hbx : Blk (w.alloc (.cells #[.slice a l.length ca] 31)) w.heap.size #[.slice a l.length ca] 31 := Blk.new w _ _
  have GB := Lib.hid hbx; clear hbx
  have HX0 : Hid (Ext w (w.alloc (.cells #[.slice a l.length ca] 31))) := Lib.hid ((Ext.refl w).alloc _)
  by_cases hc : chkE l = 0
  · have e1 : textS l = (decT (nv l), 0) := by unfold textS; rw [if_pos hc]
    obtain ⟨g1, z1⟩ := chkE_0 hc
    have HC := Lib.hid hc; have E1 := Lib.hid e1; have HZ := Lib.hid z1
    clear hc e1 z1
    refine (callsIn_wide (n := 8)).1 ?_
    refine callsIn_of_wp_marks Tryz.func134 rfl trivial ?_ rfl
    simp only [Tryz.ntmps134, List.size_toArray, List.length_cons, List.length_nil, Nat.reduceAdd, Nat.reduceSub, Array.replicate_succ, Array.replicate_zero, List.push_toArray, List.append_toArray, List.nil_append, List.cons_append]
    gi_wp2_with fail
    refine ⟨trivial, (callsIn_wide.2 (check1_any _ l _ (HR.out.ext HX0.out))).mono ?_⟩
    rintro e w1 ⟨rfl, hx1⟩
    rw [HC.out]
    have B1 := Lib.hid (GB.out.ext hx1); have X1 := Lib.hid (HX0.out.trans hx1)
    clear hx1 GB
    have b1 := B1.out.cell 0; have b2 := B1.out.lt; have b3 := B1.out.free 0
    simp only [List.getElem?_toArray, List.getElem?_cons_zero] at b1
    by_cases h0 : l.length = 0
    · obtain rfl : l = [] := List.length_eq_zero_iff.1 h0
      clear h0
      gi_wp2_with fail
      refine ⟨.tuple #[.string ⟨#[48]⟩, .int .i64 0], by simp only [results, Tryz.results134]; go_simp, ?_, X1.out⟩
      rw [E1.out]
      rfl
    · have hq : ((l.length : Int) == 0) = false := by simp; intro h; subst h; simp at h0
      gi_wp2_with fail
      refine ⟨trivial, (callsIn_wide.2 (clone_any _ l _ (HR.out.ext X1.out) (by omega))).mono ?_⟩
      rintro e w2 ⟨⟨u, rfl, hu⟩, hx2⟩
      obtain ⟨o, hu, hof⟩ := hu
      obtain ⟨g, cap, ho, rfl, hrow⟩ := hu.isRow (by omega)
      have hg := hof g ho
      have B2 := B1.out.ext hx2
      have c1 := B2.cell 0; have c2 := B2.lt; have c3 := B2.free 0
      have hgl := hrow.lt
      have X2 := Lib.hid (X1.out.trans hx2); have R2 := Lib.hid hrow; have B3 := Lib.hid B2
      clear hx2 hu hof hrow B2 b1 b3 ho
      gi_wp2_with fail
      have hB3 : Blk (w2.setCell ⟨w.heap.size, 0, none⟩ (.slice (some ⟨g, 0, none⟩) l.length cap)) w.heap.size #[.slice (some ⟨g, 0, none⟩) l.length cap] 31 := by
        have := B3.out.set 0 (.slice (some ⟨g, 0, none⟩) l.length cap); simpa using this
      have hR3 := R2.out.setOther (x := ⟨w.heap.size, 0, none⟩) (by have := X1.out.size; dsimp only; omega) (.slice (some ⟨g, 0, none⟩) l.length cap)
      have hX3 := X2.out.set (p := ⟨w.heap.size, 0, none⟩) (Nat.le_refl _) (.slice (some ⟨g, 0, none⟩) l.length cap)
      have hs3 : (w2.setCell ⟨w.heap.size, 0, none⟩ (.slice (some ⟨g, 0, none⟩) l.length cap)).heap.size = w2.heap.size := by simp [World.setCell]
      have hmost := R2.out.most
      have hgH : w.heap.size < g := by omega
      generalize w2.setCell ⟨w.heap.size, 0, none⟩ (.slice (some ⟨g, 0, none⟩) l.length cap) = w3 at *
      have B4 := Lib.hid hB3; have R4 := Lib.hid hR3; have X4 := Lib.hid hX3
      clear hB3 hR3 hX3 B3 R2 X2 c1 c2 c3
      refine wpIn_loop_ghost (fun N a W => ∃ (sv : Value) (ds : List Deferred), TxtO w w3 l g cap w.heap.size w3.heap.size N sv ds W ∧
        ∃ t0 t2 t3 t4 t6 t7 t8 t9 t10 t11 t12 t13 t14 t15 t16 t17 t18 t19 t20 t21 t22 t23 t24 t25 t26 t27 t28 t29 t30 t31 t32 t33 t34 t35 t36 t37 t38 t39 t40 t41 t42 t43 t44 t45 t46 t47 t48 t49 t50 : Value, a = { tmps := #[t0, .pointer (some ⟨w.heap.size, 0, none⟩), t2, t3, t4, sv, t6, t7, t8, t9, t10, t11, t12, t13, t14, t15, t16, t17, t18, t19, t20, t21, t22, t23, t24, t25, t26, t27, t28, t29, t30, t31, t32, t33, t34, t35, t36, t37, t38, t39, t40, t41, t42, t43, t44, t45, t46, t47, t48, t49, t50], defers := ds }) (nv l) ?h0 ?round
      case h0 =>
        exact ⟨.slice none 0 0, [], ⟨l, [], rfl, HL.out, HZ.out, Nat.le_refl _, rfl, R4.out, B4.out, World.ownsRow_nil _ _ _ _, X4.out, Marks.nil _ _, Nat.le_refl _⟩, _, _, _, _, _, _, _, _, _, _, _, _, _, _, _, _, _, _, _, _, _, _, _, _, _, _, _, _, _, _, _, _, _, _, _, _, _, _, _, _, _, _, _, _, _, _, _, _, _, rfl⟩
      case round =>
        rintro N a W ⟨sv, ds, ⟨lk, L, rfl, k1, k2, k3, k4, k5, k6, k7, k8, k9, k10⟩, t0, t2, t3, t4, t6, t7, t8, t9, t10, t11, t12, t13, t14, t15, t16, t17, t18, t19, t20, t21, t22, t23, t24, t25, t26, t27, t28, t29, t30, t31, t32, t33, t34, t35, t36, t37, t38, t39, t40, t41, t42, t43, t44, t45, t46, t47, t48, t49, t50, rfl⟩
        have hc0 := k6.cell 0; have hlb := k6.lt; have hfb := k6.free 0
        simp only [List.getElem?_toArray, List.getElem?_cons_zero] at hc0
        have hlc := k5.le
        have hLl : L.length ≤ 16384 := by
          have h1 := decR_len (nv l)
          have h2 : blen (nv l) ≤ 32 * l.length := blen_le.2 (by rw [← pow_two]; exact nv_lt HL.out)
          rw [k4, List.length_append] at h1
          omega
        have G1 := Lib.hid k1; have G2 := Lib.hid k2; have G3 := Lib.hid k3; have G4 := Lib.hid k4; have G5 := Lib.hid k5; have G6 := Lib.hid k6; have G7 := Lib.hid k7; have G8 := Lib.hid k8; have G9 := Lib.hid k9
        clear k1 k2 k3 k4 k5 k6 k7 k8 k9
        by_cases hne : 0 < lk.length
        · have q0 : (0 : Int) < (lk.length : Int) := by omega
          gi_wp2_with fail
          refine ⟨trivial, (callsIn_wide.2 (backward_any _ lk.length cap _)).mono ?_⟩
          rintro e w5 ⟨rfl, hw5⟩
          have hxW : Ext W w5 := by rw [hw5]; exact ((Ext.refl W).alloc _).alloc _
          have hs5 : w5.heap.size = W.heap.size + 1 + 1 := by rw [hw5]; simp
          have hRb : Blk w5 W.heap.size #[.int .u64 0] 144 := by rw [hw5]; exact (Blk.new W _ _).alloc _
          have hBx : Blk w5 (W.heap.size + 1) #[.slice (some ⟨g, 0, none⟩) lk.length cap] 31 := by
            rw [hw5]; have := Blk.new (W.alloc (.cells #[.int .u64 0] 144)) #[.slice (some ⟨g, 0, none⟩) lk.length cap] 31; rwa [World.size_alloc] at this
          have KX := Lib.hid hxW; have KC := Lib.hid hRb; have KB := Lib.hid hBx; have KR := Lib.hid (G5.out.ext hxW); have KH := Lib.hid (G6.out.ext hxW)
          clear hw5 hxW hRb hBx hc0 hfb
          gi_wp2_with fail
          have hseq : ∀ W1, Ext w5 W1 → DownSeq Fence.wide 7 Tryz.prog 189 #[.pointer (some ⟨W.heap.size + 1, 0, none⟩)] lk.length (fun k (x : Int) => #[.int .i64 k, .int .u32 x]) (RdBk (W.heap.size + 1) (.slice (some ⟨g, 0, none⟩) lk.length cap)) (w5.heap.size + 1) W1 :=
            fun W1 hx => back1_seq 7 (by omega) _ lk.length cap (W.heap.size + 1) _ W1 (by have := (KB.out.ext hx).cell 0; simpa using this) hlc hmost
          refine wpIn_range_down rfl (by omega) (gf := 189) (lb := #[.pointer (some ⟨W.heap.size + 1, 0, none⟩)]) rfl trivial (enters_of Tryz.func189 (by kernel_rfl) rfl) lk.length hseq (fun _ _ => rfl)
            (fun k W2 => TxtI w5 lk g cap W.heap.size k W2)
            (fun c k W => False)
            (fun k A B h z => h.kz z (by omega) (by omega))
            (fun c k A B h z => h)
            ?hIr ?h0
            (TxtAx w5 lk g cap W.heap.size w.heap.size) ?hAx ?hassign ?hbody ?hdone ?hstop
          case hIr =>
            rintro j W2 hj ⟨lj, e1, e2, e3, e4, e5, e6, e7⟩
            exact ⟨lj.getD j 0, by have := (KB.out.fr e7 (by omega)).cell 0; simpa using this, _, _, _, _, rfl, by rw [Nat.zero_add]; exact e5.getD (by omega) rfl⟩
          case h0 =>
            refine ⟨lk, rfl, G1.out, rfl, ?_, KR.out, ?_, Fr.ext (Ext.refl _)⟩
            · rw [List.drop_length]; rfl
            · rw [List.drop_length]; exact KC.out
          case hAx =>
            rintro j y a1 A B ⟨h1, h2, h3, h4, h5⟩ z
            exact ⟨h1, h2.kz z (by omega) (by omega), h3, by have := z.size; omega, h5⟩
          case hassign =>
            rintro ll j y W2 K hj h1 ⟨_, b, off, n1, cap1, e, h2⟩ hlt hK
            injection e with e en ec
            injection e with e
            injection e with e3 e4
            subst e3; subst e4
            clear en ec
            obtain ⟨lj, e1, e2, e3, e4, e5, e6, e7⟩ := h1
            have h3 := e5.getD (i := j) (by omega) rfl
            rw [Nat.zero_add] at h2
            rw [h3] at h2
            injection h2 with h2
            injection h2 with _ h2
            have h4 : y = lk.getD j 0 := by rw [← h2]; exact getD_take e3
            have HI : Hid (TxtI w5 lk g cap W.heap.size (j + 1) W2) := Lib.hid ⟨lj, e1, e2, e3, e4, e5, e6, e7⟩
            have H4 := Lib.hid h4
            clear e1 e2 e3 e4 e5 e6 e7 h2 h3 h4
            gi_wp2
            refine hK _ _ (Ext.refl W2) ⟨hj, HI.out, H4.out, hlt, _, _, _, _, _, _, _, _, _, _, _, _, _, _, _, _, _, _, _, _, _, _, _, _, _, _, _, _, _, _, _, _, _, _, _, _, _, _, _, _, _, _, _, _, _, _, _, rfl⟩
          case hbody =>
            rintro ll j y a1 W2 hj ⟨_, ⟨lj, e1, e2, e3, e4, e5, e6, e7⟩, hy, hlt, t0, t2, t3, t4, t5, t9, t10, t11, t12, t13, t14, t15, t16, t17, t18, t19, t20, t21, t22, t23, t24, t25, t26, t27, t28, t29, t30, t31, t32, t33, t34, t35, t36, t37, t38, t39, t40, t41, t42, t43, t44, t45, t46, t47, t48, t49, t50, rfl⟩ _
            have hyl := getD_lim G1.out j
            rw [← hy] at hyl
            have hnd := nv_drop_succ lk j hj
            rw [← hy] at hnd
            have hr10 : nv (lk.drop (j + 1)) % 10 < 10 := Nat.mod_lt _ (by omega)
            have hor := shl_or (nv (lk.drop (j + 1)) % 10) y hr10 hyl
            obtain ⟨hs1, hs2, hs3'⟩ := dec_step y.toNat (nv (lk.drop (j + 1)))
            rw [← hnd] at hs1 hs2
            obtain ⟨r, hr⟩ : ∃ r : Int, r = ((nv (lk.drop (j + 1)) % 10 : Nat) : Int) := ⟨_, rfl⟩
            rw [← hr] at hor e6
            obtain ⟨cur, hcur⟩ : ∃ cur : Int, cur = ((y.toNat + 4294967296 * (nv (lk.drop (j + 1)) % 10) : Nat) : Int) := ⟨_, rfl⟩
            rw [← hcur] at hor
            have hcb : 0 ≤ cur ∧ cur < 42949672960 := by omega
            have hq1 : cur / 10 = (((y.toNat + 4294967296 * (nv (lk.drop (j + 1)) % 10)) / 10 : Nat) : Int) := by rw [hcur]; omega
            have hq2 : cur % 10 = ((nv (lk.drop j) % 10 : Nat) : Int) := by rw [hcur, hs2]; omega
            have hq3 := hs3' (by omega)
            have hrb : 0 ≤ r ∧ r < 10 := by omega
            have hH : Blk W2 w.heap.size #[.slice (some ⟨g, 0, none⟩) lk.length cap] 31 := KH.out.fr e7 (by omega)
            have r1 := hH.cell 0; have r2 := e6.cell 0; have r3 := e6.free 0; have r4 := e6.lt; have r5 := hH.lt; have r6 := e5.free j; have r7 := e5.lt
            simp only [List.getElem?_toArray, List.getElem?_cons_zero] at r1 r2
            obtain ⟨z9, hz9⟩ : ∃ z9, z9 = lj.getD j 0 := ⟨_, rfl⟩
            have r8 := e5.getD (i := j) (by rw [e1]; exact hj) hz9
            clear hz9
            have q1 : (0 : Int) ≤ (j : Int) := by omega
            have q2 : (j : Int) < (lk.length : Int) := by omega
            have E1 := Lib.hid e1; have E2 := Lib.hid e2; have E3 := Lib.hid e3; have E4 := Lib.hid e4; have E5 := Lib.hid e5; have E6 := Lib.hid e6; have E7 := Lib.hid e7
            have S1 := Lib.hid hs1; have S3 := Lib.hid hq3; have HOR := Lib.hid hor; have Q1 := Lib.hid hq1; have Q2 := Lib.hid hq2
            clear e1 e2 e3 e4 e5 e6 e7 hs1 hs2 hs3' hr hcur hor hH hnd hy hq1 hq2 hq3 hr10
            gi_wp2_with fail
            rw [HOR.out]
            have hfr3 : Fr (fun i => i = g ∨ i = W.heap.size) W2 (W2.setCell ⟨W.heap.size, 0, none⟩ (.int .u64 cur)) := (Fr.ext (Ext.refl W2)).set (.inr rfl) _
            have hH3 : Blk (W2.setCell ⟨W.heap.size, 0, none⟩ (.int .u64 cur)) w.heap.size #[.slice (some ⟨g, 0, none⟩) lk.length cap] 31 := (KH.out.fr E7.out (by omega)).fr hfr3 (by omega)
            have hR3 : Blk (W2.setCell ⟨W.heap.size, 0, none⟩ (.int .u64 cur)) W.heap.size #[.int .u64 cur] 144 := by have := E6.out.set 0 (.int .u64 cur); simpa using this
            have hG3 : RowU (W2.setCell ⟨W.heap.size, 0, none⟩ (.int .u64 cur)) g cap lj := E5.out.setOther (by dsimp only; omega) _
            have hs3' : (W2.setCell ⟨W.heap.size, 0, none⟩ (.int .u64 cur)).heap.size = W2.heap.size := by simp [World.setCell]
            generalize W2.setCell ⟨W.heap.size, 0, none⟩ (.int .u64 cur) = W3 at *
            clear r1 r2 r3 r4 r5 r6 r7 r8
            have r1 := hH3.cell 0; have r2 := hR3.cell 0; have r3 := hR3.free 0; have r4 := hR3.lt; have r5 := hH3.lt; have r6 := hG3.free j; have r7 := hG3.lt
            simp only [List.getElem?_toArray, List.getElem?_cons_zero] at r1 r2
            obtain ⟨z8, hz8⟩ : ∃ z8, z8 = lj.getD j 0 := ⟨_, rfl⟩
            have r8 := hG3.getD (i := j) (by rw [E1.out]; exact hj) hz8
            have n1 : W.heap.size ≠ g := by omega
            have n2 : g ≠ W.heap.size := by omega
            have n3 : w.heap.size ≠ g := by omega
            have n4 : g ≠ w.heap.size := by omega
            have n5 : w.heap.size ≠ W.heap.size := by omega
            have n6 : W.heap.size ≠ w.heap.size := by omega
            have F3 := Lib.hid hfr3; have T3 := Lib.hid hH3; have V3 := Lib.hid hR3; have Y3 := Lib.hid hG3; have HS3 := Lib.hid hs3'
            clear hfr3 hH3 hR3 hG3 hz8 hs3'
            have hw1 : IntKind.u32.wrap (IntKind.u64.wrap (cur.tdiv 10)) = cur / 10 := by
              rw [Int.tdiv_eq_ediv_of_nonneg hcb.1]
              have hx1 : 0 ≤ cur / 10 ∧ cur / 10 < 4294967296 := by have := S3.out; have := Q1.out; omega
              have a1 : IntKind.u64.wrap (cur / 10) = cur / 10 := by simp only [IntKind.wrap, IntKind.bits, IntKind.signed]; simp; omega
              have a2 : IntKind.u32.wrap (cur / 10) = cur / 10 := by simp only [IntKind.wrap, IntKind.bits, IntKind.signed]; simp; omega
              rw [a1, a2]
            have hw2 : cur.tmod 10 = cur % 10 := Int.tmod_eq_emod_of_nonneg hcb.1
            have hend : Kd w5.heap.size W2 (((W3.setCell ⟨g, j, none⟩ (.int .u32 (IntKind.u32.wrap (IntKind.u64.wrap (cur.tdiv 10))))).setCell ⟨W.heap.size, 0, none⟩ (.int .u64 (cur.tmod 10))).drew) ∧
                TxtI w5 lk g cap W.heap.size j (((W3.setCell ⟨g, j, none⟩ (.int .u32 (IntKind.u32.wrap (IntKind.u64.wrap (cur.tdiv 10))))).setCell ⟨W.heap.size, 0, none⟩ (.int .u64 (cur.tmod 10))).drew) := by
              rw [hw1, hw2]
              obtain ⟨u, hu⟩ : ∃ u, u = cur / 10 := ⟨_, rfl⟩
              have hu0 : 0 ≤ u ∧ u < 4294967296 := by have := S3.out; have := Q1.out; omega
              have hfr : Fr (fun i => i = g ∨ i = W.heap.size) W2 (((W3.setCell ⟨g, j, none⟩ (.int .u32 u)).setCell ⟨W.heap.size, 0, none⟩ (.int .u64 (cur % 10))).drew) := by
                have h1 := (F3.out.set (x := ⟨g, j, none⟩) (.inl rfl) (.int .u32 u)).set (x := ⟨W.heap.size, 0, none⟩) (.inr rfl) (.int .u64 (cur % 10))
                exact ⟨h1.zero.drew, h1.block⟩
              have hfr0 : Fr (fun i => i = g ∨ i = W.heap.size) w5 (((W3.setCell ⟨g, j, none⟩ (.int .u32 u)).setCell ⟨W.heap.size, 0, none⟩ (.int .u64 (cur % 10))).drew) :=
                ⟨E7.out.zero.trans hfr.zero, fun k hk hn => (hfr.block k (Nat.lt_of_lt_of_le hk E7.out.zero.size) hn).trans (E7.out.block k hk hn)⟩
              rw [← hu]
              refine ⟨Kd.of_fr hfr hlt (by omega) (by omega), lj.set j u, (List.length_set).trans E1.out, lim_set E2.out _ hu0.1 hu0.2, take_set_eq u E3.out, ?_, ?_, ?_, hfr0⟩
              · rw [drop_set_nv u (by rw [E1.out]; exact hj), E4.out, S1.out, hu, Q1.out, Int.toNat_natCast]
              · have h1 := (Y3.out.set j u (by rw [E1.out]; exact hj)).setOther (x := ⟨W.heap.size, 0, none⟩) (by dsimp only; omega) (.int .u64 (cur % 10))
                exact h1.ext ((Ext.refl _).drew)
              · have h1 := (V3.out.setOther (a := ⟨g, j, none⟩) (by dsimp only; omega) (.int .u32 u)).set 0 (.int .u64 (cur % 10))
                rw [← Q2.out]
                have h2 : Blk ((W3.setCell ⟨g, j, none⟩ (.int .u32 u)).setCell ⟨W.heap.size, 0, none⟩ (.int .u64 (cur % 10))) W.heap.size #[.int .u64 (cur % 10)] 144 := by simpa using h1
                exact h2
            have HEND := Lib.hid hend
            clear hend hw1 hw2
            have hmx : Tryz.prog.follows .mixedOrders = true := by kernel_rfl
            refine wpIn_region_any hmx ?_
            refine takeW (by first | exact Or.inr ⟨_, rfl⟩ | exact Or.inl rfl) (i := 1) (v := ?_) rfl (by kernel_rfl) (by kernel_rfl) (by kernel_rfl) (by kernel_rfl) (fun _ _ d _ _ h => by cases d <;> exact h) (Or.inl ⟨by rfl, ?_⟩) ?_
            rotate_left
            · (intro w; go_simp; first | done | with_reducible rfl)
            refine wpAnyIn_ready (rs := [0, 2, 5]) (by kernel_rfl) (by simp) ?_
            refine AllReadyIn.cons rfl (fun K hK => ?_) ?_
            · go_simp
              refine hK _ _ ?_
              clear hK K
              refine wpAnyIn_ready (rs := [2, 5]) (by kernel_rfl) (by simp) ?_
              refine AllReadyIn.cons rfl (fun K hK => ?_) ?_
              · go_simp
                refine hK _ _ ?_
                clear hK K
                refine takeW (by first | exact Or.inr ⟨_, rfl⟩ | exact Or.inl rfl) (i := 3) (v := ?_) rfl (by kernel_rfl) (by kernel_rfl) (by kernel_rfl) (by kernel_rfl) (fun _ _ d _ _ h => by cases d <;> exact h) (Or.inl ⟨by rfl, ?_⟩) ?_
                rotate_left
                · (intro w; go_simp; first | done | with_reducible rfl)
                refine takeW (by first | exact Or.inr ⟨_, rfl⟩ | exact Or.inl rfl) (i := 4) (v := ?_) rfl (by kernel_rfl) (by kernel_rfl) (by kernel_rfl) (by kernel_rfl) (fun _ _ d _ _ h => by cases d <;> exact h) (Or.inl ⟨by rfl, ?_⟩) ?_
                rotate_left
                · (intro w; go_simp; first | done | with_reducible rfl)
                refine takeW (by first | exact Or.inr ⟨_, rfl⟩ | exact Or.inl rfl) (i := 7) (v := ?_) rfl (by kernel_rfl) (by kernel_rfl) (by kernel_rfl) (by kernel_rfl) (fun _ _ d _ _ h => by cases d <;> exact h) (Or.inl ⟨by rfl, ?_⟩) ?_
                rotate_left
                · (intro w; go_simp; first | done | with_reducible rfl)
                refine wpAnyIn_ready (rs := [5, 8]) (by kernel_rfl) (by simp) ?_
                refine AllReadyIn.cons rfl (fun K hK => ?_) ?_
                · go_simp
                  refine hK _ _ ?_
                  clear hK K
                  refine takeW (by first | exact Or.inr ⟨_, rfl⟩ | exact Or.inl rfl) (i := 6) (v := ?_) rfl (by kernel_rfl) (by kernel_rfl) (by kernel_rfl) (by kernel_rfl) (fun _ _ d _ _ h => by cases d <;> exact h) (Or.inl ⟨by rfl, ?_⟩) ?_
                  rotate_left
                  · (intro w; go_simp; first | done | with_reducible rfl)
                  refine wpAnyIn_ready (rs := [8]) (by kernel_rfl) (by simp) ?_
                  refine AllReadyIn.cons rfl (fun K hK => ?_) ?_
                  · go_simp
                    refine hK _ _ ?_
                    clear hK K
                    refine wpAnyIn_ready (rs := [9]) (by kernel_rfl) (by simp) ?_
                    refine AllReadyIn.cons rfl (fun K hK => ?_) ?_
                    · go_simp
                      refine hK _ _ ?_
                      clear hK K
                      refine wpAnyIn_done (by kernel_rfl) ?_ _
                      gi_wp2
                      exact HEND.out
                    exact AllReadyIn.nil
                  exact AllReadyIn.nil
                refine AllReadyIn.cons rfl (fun K hK => ?_) ?_
                · go_simp
                  refine hK _ _ ?_
                  clear hK K
                  refine wpAnyIn_ready (rs := [5]) (by kernel_rfl) (by simp) ?_
                  refine AllReadyIn.cons rfl (fun K hK => ?_) ?_
                  · go_simp
                    refine hK _ _ ?_
                    clear hK K
                    refine takeW (by first | exact Or.inr ⟨_, rfl⟩ | exact Or.inl rfl) (i := 6) (v := ?_) rfl (by kernel_rfl) (by kernel_rfl) (by kernel_rfl) (by kernel_rfl) (fun _ _ d _ _ h => by cases d <;> exact h) (Or.inl ⟨by rfl, ?_⟩) ?_
                    rotate_left
                    · (intro w; go_simp; first | done | with_reducible rfl)
                    refine wpAnyIn_ready (rs := [9]) (by kernel_rfl) (by simp) ?_
                    refine AllReadyIn.cons rfl (fun K hK => ?_) ?_
                    · go_simp
                      refine hK _ _ ?_
                      clear hK K
                      refine wpAnyIn_done (by kernel_rfl) ?_ _
                      gi_wp2
                      exact HEND.out
                    exact AllReadyIn.nil
                  exact AllReadyIn.nil
                exact AllReadyIn.nil
              refine AllReadyIn.cons rfl (fun K hK => ?_) ?_
              · go_simp
                refine hK _ _ ?_
                clear hK K
                refine takeW (by first | exact Or.inr ⟨_, rfl⟩ | exact Or.inl rfl) (i := 6) (v := ?_) rfl (by kernel_rfl) (by kernel_rfl) (by kernel_rfl) (by kernel_rfl) (fun _ _ d _ _ h => by cases d <;> exact h) (Or.inl ⟨by rfl, ?_⟩) ?_
                rotate_left
                · (intro w; go_simp; first | done | with_reducible rfl)
                refine wpAnyIn_ready (rs := [2]) (by kernel_rfl) (by simp) ?_
                refine AllReadyIn.cons rfl (fun K hK => ?_) ?_
                · go_simp
                  refine hK _ _ ?_
                  clear hK K
                  refine takeW (by first | exact Or.inr ⟨_, rfl⟩ | exact Or.inl rfl) (i := 3) (v := ?_) rfl (by kernel_rfl) (by kernel_rfl) (by kernel_rfl) (by kernel_rfl) (fun _ _ d _ _ h => by cases d <;> exact h) (Or.inl ⟨by rfl, ?_⟩) ?_
                  rotate_left
                  · (intro w; go_simp; first | done | with_reducible rfl)
                  refine takeW (by first | exact Or.inr ⟨_, rfl⟩ | exact Or.inl rfl) (i := 4) (v := ?_) rfl (by kernel_rfl) (by kernel_rfl) (by kernel_rfl) (by kernel_rfl) (fun _ _ d _ _ h => by cases d <;> exact h) (Or.inl ⟨by rfl, ?_⟩) ?_
                  rotate_left
                  · (intro w; go_simp; first | done | with_reducible rfl)
                  refine takeW (by first | exact Or.inr ⟨_, rfl⟩ | exact Or.inl rfl) (i := 7) (v := ?_) rfl (by kernel_rfl) (by kernel_rfl) (by kernel_rfl) (by kernel_rfl) (fun _ _ d _ _ h => by cases d <;> exact h) (Or.inl ⟨by rfl, ?_⟩) ?_
                  rotate_left
                  · (intro w; go_simp; first | done | with_reducible rfl)
                  refine wpAnyIn_ready (rs := [8]) (by kernel_rfl) (by simp) ?_
                  refine AllReadyIn.cons rfl (fun K hK => ?_) ?_
                  · go_simp
                    refine hK _ _ ?_
                    clear hK K
                    refine wpAnyIn_ready (rs := [9]) (by kernel_rfl) (by simp) ?_
                    refine AllReadyIn.cons rfl (fun K hK => ?_) ?_
                    · go_simp
                      refine hK _ _ ?_
                      clear hK K
                      refine wpAnyIn_done (by kernel_rfl) ?_ _
                      gi_wp2
                      exact HEND.out
                    exact AllReadyIn.nil
                  exact AllReadyIn.nil
                exact AllReadyIn.nil
              exact AllReadyIn.nil
            refine AllReadyIn.cons rfl (fun K hK => ?_) ?_
            · go_simp
              refine hK _ _ ?_
              clear hK K
              refine takeW (by first | exact Or.inr ⟨_, rfl⟩ | exact Or.inl rfl) (i := 3) (v := ?_) rfl (by kernel_rfl) (by kernel_rfl) (by kernel_rfl) (by kernel_rfl) (fun _ _ d _ _ h => by cases d <;> exact h) (Or.inl ⟨by rfl, ?_⟩) ?_
              rotate_left
              · (intro w; go_simp; first | done | with_reducible rfl)
              refine takeW (by first | exact Or.inr ⟨_, rfl⟩ | exact Or.inl rfl) (i := 4) (v := ?_) rfl (by kernel_rfl) (by kernel_rfl) (by kernel_rfl) (by kernel_rfl) (fun _ _ d _ _ h => by cases d <;> exact h) (Or.inl ⟨by rfl, ?_⟩) ?_
              rotate_left
              · (intro w; go_simp; first | done | with_reducible rfl)
              refine wpAnyIn_ready (rs := [0, 5]) (by kernel_rfl) (by simp) ?_
              refine AllReadyIn.cons rfl (fun K hK => ?_) ?_
              · go_simp
                refine hK _ _ ?_
                clear hK K
                refine takeW (by first | exact Or.inr ⟨_, rfl⟩ | exact Or.inl rfl) (i := 7) (v := ?_) rfl (by kernel_rfl) (by kernel_rfl) (by kernel_rfl) (by kernel_rfl) (fun _ _ d _ _ h => by cases d <;> exact h) (Or.inl ⟨by rfl, ?_⟩) ?_
                rotate_left
                · (intro w; go_simp; first | done | with_reducible rfl)
                refine wpAnyIn_ready (rs := [5, 8]) (by kernel_rfl) (by simp) ?_
                refine AllReadyIn.cons rfl (fun K hK => ?_) ?_
                · go_simp
                  refine hK _ _ ?_
                  clear hK K
                  refine takeW (by first | exact Or.inr ⟨_, rfl⟩ | exact Or.inl rfl) (i := 6) (v := ?_) rfl (by kernel_rfl) (by kernel_rfl) (by kernel_rfl) (by kernel_rfl) (fun _ _ d _ _ h => by cases d <;> exact h) (Or.inl ⟨by rfl, ?_⟩) ?_
                  rotate_left
                  · (intro w; go_simp; first | done | with_reducible rfl)
                  refine wpAnyIn_ready (rs := [8]) (by kernel_rfl) (by simp) ?_
                  refine AllReadyIn.cons rfl (fun K hK => ?_) ?_
                  · go_simp
                    refine hK _ _ ?_
                    clear hK K
                    refine wpAnyIn_ready (rs := [9]) (by kernel_rfl) (by simp) ?_
                    refine AllReadyIn.cons rfl (fun K hK => ?_) ?_
                    · go_simp
                      refine hK _ _ ?_
                      clear hK K
                      refine wpAnyIn_done (by kernel_rfl) ?_ _
                      gi_wp2
                      exact HEND.out
                    exact AllReadyIn.nil
                  exact AllReadyIn.nil
                refine AllReadyIn.cons rfl (fun K hK => ?_) ?_
                · go_simp
                  refine hK _ _ ?_
                  clear hK K
                  refine wpAnyIn_ready (rs := [5]) (by kernel_rfl) (by simp) ?_
                  refine AllReadyIn.cons rfl (fun K hK => ?_) ?_
                  · go_simp
                    refine hK _ _ ?_
                    clear hK K
                    refine takeW (by first | exact Or.inr ⟨_, rfl⟩ | exact Or.inl rfl) (i := 6) (v := ?_) rfl (by kernel_rfl) (by kernel_rfl) (by kernel_rfl) (by kernel_rfl) (fun _ _ d _ _ h => by cases d <;> exact h) (Or.inl ⟨by rfl, ?_⟩) ?_
                    rotate_left
                    · (intro w; go_simp; first | done | with_reducible rfl)
                    refine wpAnyIn_ready (rs := [9]) (by kernel_rfl) (by simp) ?_
                    refine AllReadyIn.cons rfl (fun K hK => ?_) ?_
                    · go_simp
                      refine hK _ _ ?_
                      clear hK K
                      refine wpAnyIn_done (by kernel_rfl) ?_ _
                      gi_wp2
                      exact HEND.out
                    exact AllReadyIn.nil
                  exact AllReadyIn.nil
                exact AllReadyIn.nil
              refine AllReadyIn.cons rfl (fun K hK => ?_) ?_
              · go_simp
                refine hK _ _ ?_
                clear hK K
                refine takeW (by first | exact Or.inr ⟨_, rfl⟩ | exact Or.inl rfl) (i := 6) (v := ?_) rfl (by kernel_rfl) (by kernel_rfl) (by kernel_rfl) (by kernel_rfl) (fun _ _ d _ _ h => by cases d <;> exact h) (Or.inl ⟨by rfl, ?_⟩) ?_
                rotate_left
                · (intro w; go_simp; first | done | with_reducible rfl)
                refine wpAnyIn_ready (rs := [0]) (by kernel_rfl) (by simp) ?_
                refine AllReadyIn.cons rfl (fun K hK => ?_) ?_
                · go_simp
                  refine hK _ _ ?_
                  clear hK K
                  refine takeW (by first | exact Or.inr ⟨_, rfl⟩ | exact Or.inl rfl) (i := 7) (v := ?_) rfl (by kernel_rfl) (by kernel_rfl) (by kernel_rfl) (by kernel_rfl) (fun _ _ d _ _ h => by cases d <;> exact h) (Or.inl ⟨by rfl, ?_⟩) ?_
                  rotate_left
                  · (intro w; go_simp; first | done | with_reducible rfl)
                  refine wpAnyIn_ready (rs := [8]) (by kernel_rfl) (by simp) ?_
                  refine AllReadyIn.cons rfl (fun K hK => ?_) ?_
                  · go_simp
                    refine hK _ _ ?_
                    clear hK K
                    refine wpAnyIn_ready (rs := [9]) (by kernel_rfl) (by simp) ?_
                    refine AllReadyIn.cons rfl (fun K hK => ?_) ?_
                    · go_simp
                      refine hK _ _ ?_
                      clear hK K
                      refine wpAnyIn_done (by kernel_rfl) ?_ _
                      gi_wp2
                      exact HEND.out
                    exact AllReadyIn.nil
                  exact AllReadyIn.nil
                exact AllReadyIn.nil
              exact AllReadyIn.nil
            refine AllReadyIn.cons rfl (fun K hK => ?_) ?_
            · go_simp
              refine hK _ _ ?_
              clear hK K
              refine takeW (by first | exact Or.inr ⟨_, rfl⟩ | exact Or.inl rfl) (i := 6) (v := ?_) rfl (by kernel_rfl) (by kernel_rfl) (by kernel_rfl) (by kernel_rfl) (fun _ _ d _ _ h => by cases d <;> exact h) (Or.inl ⟨by rfl, ?_⟩) ?_
              rotate_left
              · (intro w; go_simp; first | done | with_reducible rfl)
              refine wpAnyIn_ready (rs := [0, 2]) (by kernel_rfl) (by simp) ?_
              refine AllReadyIn.cons rfl (fun K hK => ?_) ?_
              · go_simp
                refine hK _ _ ?_
                clear hK K
                refine wpAnyIn_ready (rs := [2]) (by kernel_rfl) (by simp) ?_
                refine AllReadyIn.cons rfl (fun K hK => ?_) ?_
                · go_simp
                  refine hK _ _ ?_
                  clear hK K
                  refine takeW (by first | exact Or.inr ⟨_, rfl⟩ | exact Or.inl rfl) (i := 3) (v := ?_) rfl (by kernel_rfl) (by kernel_rfl) (by kernel_rfl) (by kernel_rfl) (fun _ _ d _ _ h => by cases d <;> exact h) (Or.inl ⟨by rfl, ?_⟩) ?_
                  rotate_left
                  · (intro w; go_simp; first | done | with_reducible rfl)
                  refine takeW (by first | exact Or.inr ⟨_, rfl⟩ | exact Or.inl rfl) (i := 4) (v := ?_) rfl (by kernel_rfl) (by kernel_rfl) (by kernel_rfl) (by kernel_rfl) (fun _ _ d _ _ h => by cases d <;> exact h) (Or.inl ⟨by rfl, ?_⟩) ?_
                  rotate_left
                  · (intro w; go_simp; first | done | with_reducible rfl)
                  refine takeW (by first | exact Or.inr ⟨_, rfl⟩ | exact Or.inl rfl) (i := 7) (v := ?_) rfl (by kernel_rfl) (by kernel_rfl) (by kernel_rfl) (by kernel_rfl) (fun _ _ d _ _ h => by cases d <;> exact h) (Or.inl ⟨by rfl, ?_⟩) ?_
                  rotate_left
                  · (intro w; go_simp; first | done | with_reducible rfl)
                  refine wpAnyIn_ready (rs := [8]) (by kernel_rfl) (by simp) ?_
                  refine AllReadyIn.cons rfl (fun K hK => ?_) ?_
                  · go_simp
                    refine hK _ _ ?_
                    clear hK K
                    refine wpAnyIn_ready (rs := [9]) (by kernel_rfl) (by simp) ?_
                    refine AllReadyIn.cons rfl (fun K hK => ?_) ?_
                    · go_simp
                      refine hK _ _ ?_
                      clear hK K
                      refine wpAnyIn_done (by kernel_rfl) ?_ _
                      gi_wp2
                      exact HEND.out
                    exact AllReadyIn.nil
                  exact AllReadyIn.nil
                exact AllReadyIn.nil
              refine AllReadyIn.cons rfl (fun K hK => ?_) ?_
              · go_simp
                refine hK _ _ ?_
                clear hK K
                refine takeW (by first | exact Or.inr ⟨_, rfl⟩ | exact Or.inl rfl) (i := 3) (v := ?_) rfl (by kernel_rfl) (by kernel_rfl) (by kernel_rfl) (by kernel_rfl) (fun _ _ d _ _ h => by cases d <;> exact h) (Or.inl ⟨by rfl, ?_⟩) ?_
                rotate_left
                · (intro w; go_simp; first | done | with_reducible rfl)
                refine takeW (by first | exact Or.inr ⟨_, rfl⟩ | exact Or.inl rfl) (i := 4) (v := ?_) rfl (by kernel_rfl) (by kernel_rfl) (by kernel_rfl) (by kernel_rfl) (fun _ _ d _ _ h => by cases d <;> exact h) (Or.inl ⟨by rfl, ?_⟩) ?_
                rotate_left
                · (intro w; go_simp; first | done | with_reducible rfl)
                refine wpAnyIn_ready (rs := [0]) (by kernel_rfl) (by simp) ?_
                refine AllReadyIn.cons rfl (fun K hK => ?_) ?_
                · go_simp
                  refine hK _ _ ?_
                  clear hK K
                  refine takeW (by first | exact Or.inr ⟨_, rfl⟩ | exact Or.inl rfl) (i := 7) (v := ?_) rfl (by kernel_rfl) (by kernel_rfl) (by kernel_rfl) (by kernel_rfl) (fun _ _ d _ _ h => by cases d <;> exact h) (Or.inl ⟨by rfl, ?_⟩) ?_
                  rotate_left
                  · (intro w; go_simp; first | done | with_reducible rfl)
                  refine wpAnyIn_ready (rs := [8]) (by kernel_rfl) (by simp) ?_
                  refine AllReadyIn.cons rfl (fun K hK => ?_) ?_
                  · go_simp
                    refine hK _ _ ?_
                    clear hK K
                    refine wpAnyIn_ready (rs := [9]) (by kernel_rfl) (by simp) ?_
                    refine AllReadyIn.cons rfl (fun K hK => ?_) ?_
                    · go_simp
                      refine hK _ _ ?_
                      clear hK K
                      refine wpAnyIn_done (by kernel_rfl) ?_ _
                      gi_wp2
                      exact HEND.out
                    exact AllReadyIn.nil
                  exact AllReadyIn.nil
                exact AllReadyIn.nil
              exact AllReadyIn.nil
            exact AllReadyIn.nil
          case hdone =>
            rintro W2 ⟨lj, e1, e2, e3, e4, e5, e6, e7⟩ hD
            rw [List.drop_zero, List.drop_zero] at e4
            rw [List.drop_zero] at e6
            obtain ⟨d, hd⟩ : ∃ d : Int, d = ((nv lk % 10 : Nat) : Int) := ⟨_, rfl⟩
            rw [← hd] at e6
            have hd0 : 0 ≤ d ∧ d < 10 := by omega
            have hH : Blk W2 w.heap.size #[.slice (some ⟨g, 0, none⟩) lk.length cap] 31 := KH.out.fr e7 (by omega)
            have hsz2 := e7.zero.size
            have hO : OwY W2 w3.heap.size sv (L.map (fun d => ((48 + d : Nat) : Int))) := G7.out.fr (fun i h1 h2 => (e7.block i (by omega) (by omega)).trans (KX.out.block i h2))
            have hM : Marks (w3.heap.size - 1) ds W2 := G9.out.fr (fun i h1 h2 => (e7.block i (by omega) (by omega)).trans (KX.out.block i h1))
            have hM2 := hM.cons G9.out (by omega) (by omega) hD
            have hX5 := G8.out.trans KX.out
            have hX2 : Ext w W2 := ⟨e7.zero.os.trans hX5.os, e7.zero.tape.trans hX5.tape, e7.zero.output.trans hX5.output, Nat.le_trans hX5.size hsz2, fun i hi => (e7.block i (by have := hX5.size; omega) (by omega)).trans (hX5.block i hi)⟩
            have r1 := hH.cell 0; have r2 := e6.cell 0; have r4 := e6.lt; have r5 := hH.lt; have r7 := e5.lt
            simp only [List.getElem?_toArray, List.getElem?_cons_zero] at r1 r2
            have HH := Lib.hid hH; have HO := Lib.hid hO; have HM := Lib.hid hM2; have HX2 := Lib.hid hX2; have E1 := Lib.hid e1; have E2 := Lib.hid e2; have E4 := Lib.hid e4; have E5 := Lib.hid e5; have HD := Lib.hid hd
            clear hH hO hM hM2 hX5 hX2 e1 e2 e3 e4 e5 e6 e7 hD hd r1
            gi_wp2_with (with_reducible refine wpListIn_append_y W2 rfl _ _ rfl w3.heap.size sv (L.map (fun d => ((48 + d : Nat) : Int))) HO.out rfl _ rfl (by simp; omega) (by omega) ?_)
            intro v6 w6 hown6 hgr6
            have hsz6 := hgr6.size
            have hH6 : Blk w6 w.heap.size #[.slice (some ⟨g, 0, none⟩) lk.length cap] 31 := (hgr6.block _ (by omega) (fun e => by have := HO.out.own_le e.symm; omega)).trans HH.out
            have hR6 : RowU w6 g cap lj := E5.out.gr hgr6 (fun e => by have := HO.out.own_le e.symm; omega)
            have hM6 := HM.out.bytes HO.out hgr6
            have hX6 : Ext w w6 := ((Gr.of_ext (o := none) HX2.out).fresh hgr6 (fun i e => .inr (by have := HO.out.own_le e; omega))).ext
            have hcall := trim_row g cap lj w6 hR6 E2.out
            rw [E1.out, E4.out] at hcall
            have s1 := hH6.cell 0; have s2 := hH6.free 0; have s3 := hH6.lt
            simp only [List.getElem?_toArray, List.getElem?_cons_zero] at s1
            have VH := Lib.hid hH6; have VM := Lib.hid hM6; have VX := Lib.hid hX6; have VC := Lib.hid hcall; have VO : Hid (OwY w6 w3.heap.size v6 (L.map (fun d => ((48 + d : Nat) : Int)) ++ [48 + d])) := Lib.hid (by rw [hs3]; simpa using hown6)
            clear hown6 hgr6 hH6 hR6 hM6 hX6 hcall r2
            gi_wp2_with fail
            refine ⟨trivial, (callsIn_wide.2 VC.out).mono ?_⟩
            rintro e w7 ⟨rfl, hrow7, hx7⟩
            have b1 := (VH.out.ext hx7).cell 0; have b2 := (VH.out.ext hx7).free 0; have b3 := (VH.out.ext hx7).lt
            have Z1 := Lib.hid hrow7; have Z2 := Lib.hid hx7
            clear hrow7 hx7 s1 s2 s3
            gi_wp2_with fail
            have hpos : nv lk ≠ 0 := fun e => by have := (nv_zero_iff G1.out G2.out).1 e; omega
            have hB8 : Blk (w7.setCell ⟨w.heap.size, 0, none⟩ (.slice (some ⟨g, 0, none⟩) (lim (nv lk / 10)).length cap)) w.heap.size #[.slice (some ⟨g, 0, none⟩) (lim (nv lk / 10)).length cap] 31 := by
              have := (VH.out.ext Z2.out).set 0 (.slice (some ⟨g, 0, none⟩) (lim (nv lk / 10)).length cap); simpa using this
            have hk8 : ∀ i, w3.heap.size ≤ i → i < w6.heap.size → (w7.setCell ⟨w.heap.size, 0, none⟩ (.slice (some ⟨g, 0, none⟩) (lim (nv lk / 10)).length cap)).heap[i]? = w6.heap[i]? :=
              fun i h1 h2 => (Below.heap_setCell _ _ _ _ (by dsimp only; omega)).trans (Z2.out.block i h2)
            have hz8 : (w7.setCell ⟨w.heap.size, 0, none⟩ (.slice (some ⟨g, 0, none⟩) (lim (nv lk / 10)).length cap)).heap.size = w7.heap.size := by simp [World.setCell]
            have hz7 := Z2.out.size
            have hm8 : Marks (w3.heap.size - 1) ({ target := .collected (W.heap.size + 1 + 1), args := #[] } :: ds) (w7.setCell ⟨w.heap.size, 0, none⟩ (.slice (some ⟨g, 0, none⟩) (lim (nv lk / 10)).length cap)) := by
              have := VM.out.fr (W' := w7.setCell ⟨w.heap.size, 0, none⟩ (.slice (some ⟨g, 0, none⟩) (lim (nv lk / 10)).length cap)) (fun i h1 h2 => hk8 i (by omega) h1)
              rwa [hs5] at this
            refine ⟨nv lk / 10, by omega, v6, _, ⟨lim (nv lk / 10), L ++ [nv lk % 10], (nv_lim _).symm, lim_lim _, lim_noZ _, ?_, ?_, Z1.out.setOther (by dsimp only; omega) _, hB8, ?_, ?_, hm8, by omega⟩, _, _, _, _, _, _, _, _, _, _, _, _, _, _, _, _, _, _, _, _, _, _, _, _, _, _, _, _, _, _, _, _, _, _, _, _, _, _, _, _, _, _, _, _, _, _, _, _, _, rfl⟩
            · exact Nat.le_trans (lim_len_le.2 (Nat.lt_of_le_of_lt (Nat.div_le_self _ _) (nv_lt G1.out))) G3.out
            · rw [G4.out, decR_pos hpos, nv_lim, List.append_assoc]; rfl
            · have h1 := VO.out.fr (fun i h1 h2 => hk8 i h1 h2)
              rw [HD.out] at h1
              rw [List.map_append]
              have e1 : (48 : Int) + ((nv lk % 10 : Nat) : Int) = ((48 + nv lk % 10 : Nat) : Int) := by omega
              rw [e1] at h1
              exact h1
            · exact (VX.out.trans Z2.out).set (Nat.le_refl _) _
          case hstop =>
            rintro c j W2 hj h _
            exact h.elim
        · obtain rfl : lk = [] := List.length_eq_zero_iff.1 (by omega)
          have hpl : nv l ≠ 0 := fun e => h0 ((nv_zero_iff HL.out HZ.out).1 e)
          have hdL : decR (nv l) = L := by
            have := G4.out
            rw [show nv ([] : List Int) = 0 from rfl, decR_zero, List.append_nil] at this
            exact this
          have hL0 : L ≠ [] := fun e => by rw [decR_pos hpl, e] at hdL; cases hdL
          have HDL := Lib.hid hdL; have HPL := Lib.hid hpl
          have hcall := reverse_any w3.heap.size sv (L.map (fun d => ((48 + d : Nat) : Int))) W G7.out (by simpa using hL0)
          have HCALL := Lib.hid hcall
          clear hdL hpl hcall hs3
          gi_wp2_with fail
          refine ⟨trivial, (callsIn_wide.2 HCALL.out).mono ?_⟩
          rintro e w6 ⟨rfl, hv6, hb6, hg6⟩
          have htx := textOf w6 _ _ _ hv6 (by simpa using hL0)
          have hM6 : Marks (w3.heap.size - 1) ds w6 := G9.out.bytes G7.out hg6
          have hX6 : Ext w w6 := Below.trans (show Below w.heap.size w W from G8.out) (hb6.mono (by have := X4.out.size; omega))
          have HM := Lib.hid hM6; have HX := Lib.hid hX6
          clear hv6 hb6 hM6 hX6 hg6
          gi_wp2_with fail
          refine HM.out.leaves (fun W' hb => ?_)
          refine ⟨.tuple #[.string (strOfNums (L.map (fun d => ((48 + d : Nat) : Int))).reverse), .int .i64 0], by simp only [results, Tryz.results134]; go_simp, ?_, Below.trans (show Below w.heap.size w w6 from HX.out) (hb.mono (by have := X4.out.size; omega))⟩
          rw [E1.out]
          show _ = Ending.returned (.tuple #[.string (decT (nv l)), .int .i64 0])
          unfold decT
          rw [if_neg HPL.out, HDL.out]
  · have e1 : textS l = (⟨#[]⟩, chkE l) := by unfold textS; rw [if_neg hc]
    have hc' : (chkE l != 0) = true := by simpa using hc
    obtain ⟨c, hcc⟩ : ∃ c, c = chkE l := ⟨_, rfl⟩
    have hk := fun W h1 => check1_any (.slice a l.length ca) l W h1
    rw [← hcc] at hk hc' e1
    have HK := Lib.hid hk; have E1 := Lib.hid e1
    clear hc hcc hk e1
    refine (callsIn_wide (n := 8)).1 ?_
    refine callsIn_of_wp_marks Tryz.func134 rfl trivial ?_ rfl
    simp only [Tryz.ntmps134, List.size_toArray, List.length_cons, List.length_nil, Nat.reduceAdd, Nat.reduceSub, Array.replicate_succ, Array.replicate_zero, List.push_toArray, List.append_toArray, List.nil_append, List.cons_append]
    gi_wp2_with fail
    refine ⟨trivial, (callsIn_wide.2 (HK.out _ (HR.out.ext HX0.out))).mono ?_⟩
    rintro e w1 ⟨rfl, hx1⟩
    have X1 := Lib.hid (HX0.out.trans hx1)
    clear hx1
    gi_wp2_with fail
    refine ⟨.tuple #[.string ⟨#[]⟩, .int .i64 c], by simp only [results, Tryz.results134]; go_simp, ?_, X1.out⟩
    rw [E1.out]
end Go.Proofs.YtbnalhmcbolngaaGreat
