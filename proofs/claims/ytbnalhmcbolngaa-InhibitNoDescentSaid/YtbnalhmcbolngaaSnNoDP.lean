/- Part of the proof of nodL_holds: what the row needs of NoDP. Conditions: as each theorem states. -/
import Derived.Test.YtbnalhmcbolngaaSnRunP
import Derived.Test.YtbnalhmcbolngaaSnSpecM
import Derived.Test.YtbnalhmcbolngaaSnSpecT
namespace Go.Proofs.Ytbnalhmcbolngaa
set_option linter.unusedSimpArgs false
set_option linter.unusedVariables false
open Go.RowKit
theorem sts_at (f : BlkD → Int → BlkD) : ∀ (l : List Int) (b x : BlkD) (i : Nat) (z : Int), (sts f b l)[i]? = some x → l[i]? = some z → ∃ b', x = f b' z
  | [], _, _, _, _, h, _ => by simp [sts] at h
  | _ :: _, b, x, 0, z, h, h2 => by
    simp [sts] at h h2
    exact ⟨b, by rw [← h, h2]⟩
  | y :: r, b, x, i + 1, z, h, h2 => by
    simp [sts] at h h2
    exact sts_at f r (f b y) x i z h h2
theorem mskL_get {r : Int} {bd bs ba : Bool} {l : List Bnd} {i : Nat} {y : Bnd} (h : l[i]? = some y) : (mskL r bd bs ba l).getD i false = mskE r bd bs ba i y.2.2 := by
  unfold mskL
  rw [List.getD_eq_getElem?_getD, List.getElem?_mapIdx, h]
  rfl
theorem next_rng {K age rev b t : Int} (ha : 0 ≤ age ∧ age ≤ t) (hr : 0 ≤ rev ∧ rev ≤ t) (ht : t < 60) : ∃ a' r' : Int, nextV K age rev b = (b, a', r') ∧ (0 ≤ a' ∧ a' ≤ t + 1) ∧ (0 ≤ r' ∧ r' ≤ t + 1) := by
  refine ⟨_, _, rfl, ?_, ?_⟩
  · split
    · split <;> omega
    · omega
  · split
    · omega
    · split
      · split <;> omega
      · omega
theorem nod_step {l : List Bnd} {P : List RR} {now : Nat} {age rev t g0 g1 g2 g3 g4 g5 g6 z : Int} {x b' : BlkD} (hac : achk l = 0) (hn : now < l.length) (hx : x = stp g0 g1 g2 g3 g4 g5 b' z)
    (ha : 0 ≤ age ∧ age ≤ t) (hr : 0 ≤ rev ∧ rev ≤ t) (ht : t < 60) (hP : P.length = l.length) (hck : chkRs P = 0) :
    ∃ (b : Nat) (a' r' : Int), b < l.length ∧ (mskL g6 x.1 x.2.1 x.2.2 l).getD b false = true ∧
      chooseS l now age rev P (mskL g6 x.1 x.2.1 x.2.2 l) 1 3 = (((b : Int), chg l now b, P.getD b zR), ((b : Int), a', r'), 0) ∧ (0 ≤ a' ∧ a' ≤ t + 1) ∧ (0 ≤ r' ∧ r' ≤ t + 1) ∧
      (z < g0 → ∀ i y, l[i]? = some y → 1 ≤ i → (mskL g6 x.1 x.2.1 x.2.2 l).getD i false = true → ¬ y.2.2 < 0) ∧ (z < g4 → b = 0) := by
  have h0 : 0 < l.length := by omega
  obtain ⟨y0, hy0⟩ : ∃ y, l[0]? = some y := ⟨_, List.getElem?_eq_getElem h0⟩
  obtain ⟨b, hb, hbm, _, he⟩ := choose_some (lr := 1) (lh := 3) hac hn (memE_0 (age := age) (rev := rev) (by omega) (by omega)) (limE_0 (by omega) (by omega)) hP (mskL_len g6 x.1 x.2.1 x.2.2 l) hck h0 (by rw [mskL_get hy0]; simp [mskE])
  obtain ⟨a', r', h1, h2, h3⟩ := next_rng (K := chg l now b) (b := (b : Int)) ha hr ht
  rw [h1] at he
  refine ⟨b, a', r', hb, hbm, he, h2, h3, fun hz i y hy hi hm hlt => ?_, fun hz => ?_⟩
  · rw [mskL_get hy] at hm
    have e : x.1 = true := by rw [hx]; exact flg_lo hz
    rw [e] at hm
    have hi' : (i == 0) = false := by simp; omega
    simp [mskE, hi', hlt] at hm
  · obtain ⟨y, hy⟩ : ∃ y, l[b]? = some y := ⟨_, List.getElem?_eq_getElem hb⟩
    rw [mskL_get hy] at hbm
    have e : x.2.2 = true := by rw [hx]; exact flg_lo hz
    rw [e] at hbm
    by_cases hb0 : b = 0
    · exact hb0
    · exfalso
      have hi' : (b == 0) = false := by simp; omega
      simp [mskE, hi'] at hbm
theorem via3 {Goal : Prop} {G : World → Nat → Nat → Prop} (F : World → Nat → Nat → Prop) (h1 : (∀ W p q, F W p q → G W p q) → Goal) (h2 : ∀ W p q, F W p q → G W p q) : Goal := h1 h2
theorem two_sets {A base : World} {p q : Nat} {t u : TypeId} {c0 c1 c2 c3 c4 c5 c6 d0 d1 d2 : Value} (hp : Blk A p #[c0, c1, c2, c3, c4, c5, c6] t) (hq : Blk A q #[d0, d1, d2] u) (hn : p ≠ q) (hx : Ext base A) (h1 : base.heap.size ≤ p) (h2 : base.heap.size ≤ q)
    (x0 x1 x2 x3 x4 x5 x6 y0 y1 y2 : Value) {W : World} (hW : W = ((((((((((A.setCell ⟨p, 0, none⟩ x0).setCell ⟨p, 1, none⟩ x1).setCell ⟨p, 2, none⟩ x2).setCell ⟨p, 3, none⟩ x3).setCell ⟨p, 4, none⟩ x4).setCell ⟨p, 5, none⟩ x5).setCell ⟨p, 6, none⟩ x6).setCell ⟨q, 0, none⟩ y0).setCell ⟨q, 1, none⟩ y1).setCell ⟨q, 2, none⟩ y2)) :
    Ext base W ∧ Blk W p #[x0, x1, x2, x3, x4, x5, x6] t ∧ Blk W q #[y0, y1, y2] u ∧ p ≠ q ∧ base.heap.size ≤ p ∧ base.heap.size ≤ q := by
  subst hW
  refine ⟨((((((((((hx.set h1 _).set h1 _).set h1 _).set h1 _).set h1 _).set h1 _).set h1 _).set h2 _).set h2 _).set h2 _), ?_, ?_, hn, h1, h2⟩
  · have := (((((((((hp.set 0 x0).set 1 x1).set 2 x2).set 3 x3).set 4 x4).set 5 x5).set 6 x6).setOther (a := ⟨q, 0, none⟩) hn y0).setOther (a := ⟨q, 1, none⟩) hn y1).setOther (a := ⟨q, 2, none⟩) hn y2
    simpa using this
  · have hm := Ne.symm hn
    have := (((((((((hq.setOther (a := ⟨p, 0, none⟩) hm x0).setOther (a := ⟨p, 1, none⟩) hm x1).setOther (a := ⟨p, 2, none⟩) hm x2).setOther (a := ⟨p, 3, none⟩) hm x3).setOther (a := ⟨p, 4, none⟩) hm x4).setOther (a := ⟨p, 5, none⟩) hm x5).setOther (a := ⟨p, 6, none⟩) hm x6).set 0 y0).set 1 y1).set 2 y2
    simpa using this
end Go.Proofs.Ytbnalhmcbolngaa
