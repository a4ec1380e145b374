/- Texts of this claim, laid together: BigZ BigTx. Conditions: as each states. -/
import Derived.Test.YthkfkfbfblppeaaGreatGD
import Derived.Shelf.RegionOpenPlain
import Derived.Sort.WalkB12
import Derived.Lib.SlicesMore
import Derived.Lib.OwnBridge
import Derived.Laws.BytesArg
/- Bytes of layer 5: their reversal in place, and the text of them. Conditions: a row of bytes of the call's own. -/
namespace Go.Proofs.YthkfkfbfblppeaaGreat
set_option linter.unusedSimpArgs false
set_option linter.unusedVariables false
open Go.RowKit Go.Shelf Go.Sort

/-- Bytes of the call's own. -/
abbrev OwY (w : World) (B : Nat) (v : Value) (l : List Int) : Prop := w.ownsRow B 5 1 v l.length (l.map (Value.int .u8))

abbrev encY : Int → Value := fun x => Value.int .u8 x

theorem infoY : (Tryz.prog.info? 5).map (fun i => (i.zero, i.size, i.bytes)) = some (some (.int .u8 0), 1, 1) := by kernel_rfl
theorem und5 : Tryz.prog.underlying 5 = some (.int .u8) := by kernel_rfl
theorem und9 : Tryz.prog.underlying 9 = some .string := by kernel_rfl

/-- The decimal digits, the last one first. -/
def decR (n : Nat) : List Nat := if h : n = 0 then [] else n % 10 :: decR (n / 10)
termination_by n
decreasing_by omega
theorem decR_zero : decR 0 = [] := by rw [decR, dif_pos rfl]
theorem decR_pos {n : Nat} (h : n ≠ 0) : decR n = n % 10 :: decR (n / 10) := by rw [decR, dif_neg h]

/-- The text of a number. -/
def decT (n : Nat) : ByteArray := if n = 0 then ⟨#[48]⟩ else strOfNums ((decR n).map (fun d => ((48 + d : Nat) : Int))).reverse

/-- What Text returns. -/
def textS (l : List Int) : ByteArray × Int := if chkE l = 0 then (decT (nv l), 0) else (⟨#[]⟩, chkE l)

theorem dec_step (x h : Nat) : (x + 4294967296 * h) / 10 = (x + 4294967296 * (h % 10)) / 10 + 4294967296 * (h / 10) ∧ (x + 4294967296 * h) % 10 = (x + 4294967296 * (h % 10)) % 10 ∧ (x < 4294967296 → (x + 4294967296 * (h % 10)) / 10 < 4294967296) := by omega

end Go.Proofs.YthkfkfbfblppeaaGreat

/- Walk of Text of layer 5. Conditions: a slice of limbs. -/
namespace Go.Proofs.YthkfkfbfblppeaaGreat
set_option linter.unusedSimpArgs false
set_option linter.unusedVariables false
open Go.RowKit Go.Shelf
attribute [local go_sem] Oper.semAt_some

/-- The block of the bytes is no mark. -/
theorem Marks.bytes {H B : Nat} {ds : List Deferred} {W W' : World} {v : Value} {l : List Int} (h : Marks H ds W) (hv : OwY W B v l) (e : Gr v.ownBlock W W') : Marks H ds W' := by
  obtain ⟨rs, h1, h2, h3⟩ := h
  refine ⟨rs, h1, h2, fun r hr => ⟨(h3 r hr).1, ?_⟩⟩
  rw [← (h3 r hr).2]
  refine e.block r (Array.getElem?_eq_some_iff.1 (h3 r hr).2).1 (fun e2 => ?_)
  rcases hv.2 with ⟨rfl, _⟩ | ⟨g, cap, cur, rfl, hb, hg, _⟩
  · simp [Value.ownBlock] at e2
  · have e3 : r = g := by simpa [Value.ownBlock] using e2
    have := (h3 r hr).2
    rw [e3, hg] at this
    cases this

theorem OwY.fr {W W' : World} {B : Nat} {v : Value} {l : List Int} (h : OwY W B v l) (e : ∀ i, B ≤ i → i < W.heap.size → W'.heap[i]? = W.heap[i]?) : OwY W' B v l := by
  rcases h.2 with h1 | ⟨g, cap, cur, h0, hb, hg, hr⟩
  · exact ⟨h.1, .inl h1⟩
  · exact ⟨h.1, .inr ⟨g, cap, cur, h0, hb, (e g hb (Array.getElem?_eq_some_iff.1 hg).1).trans hg, hr⟩⟩
theorem OwY.own_le {W : World} {B : Nat} {v : Value} {l : List Int} (h : OwY W B v l) {i : Nat} (hi : v.ownBlock = some i) : B ≤ i := by
  rcases h.2 with ⟨rfl, _⟩ | ⟨g, cap, cur, rfl, hb, _⟩
  · simp [Value.ownBlock] at hi
  · have : g = i := by simpa [Value.ownBlock] using hi
    omega

theorem decR_len : ∀ (n : Nat), (decR n).length ≤ blen n := by
  intro n
  induction n using Nat.strongRecOn with
  | ind n ih =>
    by_cases h : n = 0
    · subst h; rw [decR_zero]; simp
    · rw [decR_pos h, List.length_cons, blen_half h]
      have h1 := ih (n / 10) (by omega)
      have h2 : blen (n / 10) ≤ blen (n / 2) := blen_le.2 (by have := blen_le.1 (Nat.le_refl (blen (n / 2))); omega)
      omega

/-- Between two rounds of the inner loop of Text. -/
def TxtI (w0 : World) (lk : List Int) (g cap Rb k : Nat) (W : World) : Prop :=
  ∃ lj : List Int, lj.length = lk.length ∧ Lim lj ∧ lj.take k = lk.take k ∧ nv (lj.drop k) = nv (lk.drop k) / 10 ∧ RowU W g cap lj ∧ Blk W Rb #[.int .u64 ((nv (lk.drop k) % 10 : Nat) : Int)] 211 ∧
    Fr (fun i => i = g ∨ i = Rb) w0 W

def TxtAx (w0 : World) (lk : List Int) (g cap Rb H k : Nat) (x : Int) (a1 : Act) (W : World) : Prop :=
  k < lk.length ∧ TxtI w0 lk g cap Rb (k + 1) W ∧ x = lk.getD k 0 ∧ w0.heap.size + 1 < W.heap.size ∧ ∃ t0 t2 t3 t4 t5 t9 t10 t11 t12 t13 t14 t15 t16 t17 t18 t19 t20 t21 t22 t23 t24 t25 t26 t27 t28 t29 t30 t31 t32 t33 t34 t35 t36 t37 t38 t39 t40 t41 t42 t43 t44 t45 t46 t47 t48 t49 t50 : Value,
    a1 = { tmps := #[t0, .pointer (some ⟨H, 0, none⟩), t2, t3, t4, t5, .pointer (some ⟨Rb, 0, none⟩), .int .i64 k, .int .u32 x, t9, t10, t11, t12, t13, t14, t15, t16, t17, t18, t19, t20, t21, t22, t23, t24, t25, t26, t27, t28, t29, t30, t31, t32, t33, t34, t35, t36, t37, t38, t39, t40, t41, t42, t43, t44, t45, t46, t47, t48, t49, t50], defers := [] }

theorem TxtI.kz {w0 : World} {lk : List Int} {g cap Rb k : Nat} {A B : World} (h : TxtI w0 lk g cap Rb k A) (z : Kz w0.heap.size A B) (hg : g < w0.heap.size) (hb : Rb < w0.heap.size) : TxtI w0 lk g cap Rb k B := by
  obtain ⟨lj, h1, h2, h3, h4, h5, h6, h7⟩ := h
  exact ⟨lj, h1, h2, h3, h4, h5.kz z (.inl hg), h6.kz z (.inl hb), h7.kz z (Nat.le_refl _)⟩

theorem shl_or (r : Nat) (x : Int) (hr : r < 10) (hx : 0 ≤ x ∧ x < 4294967296) : bits .or .u64 ((r : Int) * 4294967296) x = ((x.toNat + 4294967296 * r : Nat) : Int) := by
  obtain ⟨a, rfl⟩ := Int.eq_ofNat_of_zero_le hx.1
  rw [Int.toNat_natCast, show ((r : Int) * 4294967296) = ((r * 4294967296 : Nat) : Int) by omega, (bits_u64 (r * 4294967296) a (by omega) (by omega)).2.1]
  rw [or_add (r * 4294967296) a 32 (by omega) (by omega)]
  omega

/-- What is kept between two rounds of the outer loop. -/
def TxtO (w w0 : World) (l : List Int) (g cap H B : Nat) (N : Nat) (sv : Value) (ds : List Deferred) (W : World) : Prop :=
  ∃ (lk : List Int) (L : List Nat), N = nv lk ∧ Lim lk ∧ NoZ lk ∧ lk.length ≤ l.length ∧ decR (nv l) = L ++ decR (nv lk) ∧ RowU W g cap lk ∧ Blk W H #[.slice (some ⟨g, 0, none⟩) lk.length cap] 60 ∧
    OwY W B sv (L.map (fun d => ((48 + d : Nat) : Int))) ∧ Ext w W ∧ Marks (B - 1) ds W ∧ B ≤ W.heap.size

end Go.Proofs.YthkfkfbfblppeaaGreat
