/- Walks of fit, From, Add, Sub, Cmp of layer 5. Conditions: slices of limbs of bounded length. -/
import Derived.Test.YtoicjiiifffciaaBigV
import Derived.Test.YtoicjiiifffciaaBigG
namespace Go.Proofs.Ytoicjiiifffciaa
set_option linter.unusedSimpArgs false
set_option linter.unusedVariables false
open Go.RowKit

theorem fit_any (o : Option Nat) (v : Value) (l : List Int) (w : World) (h : OwV w o v l) (hl : Lim l) :
    Calls Try.prog 48 #[v] w fun e w' => (∃ v' o', e = .returned (.tuple #[v', .int .i64 (fitL (nv l)).2]) ∧ OwV w' o' v' (fitL (nv l)).1 ∧ (o' = o ∨ o' = none)) ∧ Ext w w' := by
  have hv : ∃ a n c, v = .slice a n c := by
    rcases h with ⟨_, _, a, ha, rfl⟩ | ⟨g, cap, _, rfl, _⟩
    · exact ⟨_, _, _, rfl⟩
    · exact ⟨_, _, _, rfl⟩
  obtain ⟨a, n, c, rfl⟩ := hv
  have H := Lib.hid h; have HL := Lib.hid hl; clear h hl
  by_cases hm : nv l < MAXN
  · have e1 := Lib.hid (fitL_ok hm)
    have hlen := len_max.2 hm
    clear hm
    go_enter Try.func48, Try.ntmps48
    go_wp2_with fail
    refine (trim_any o _ l _ H.out HL.out).mono ?_
    rintro e w1 ⟨v', rfl, h1, h2⟩
    have hv : ∃ a c, v' = .slice a (lim (nv l)).length c := by
      rcases h1 with ⟨_, h0, a, ha, rfl⟩ | ⟨g, cap, _, rfl, _⟩
      · rw [h0]; exact ⟨_, _, rfl⟩
      · exact ⟨_, _, rfl⟩
    obtain ⟨a', c', rfl⟩ := hv
    have P1 := Lib.hid h1; have P2 := Lib.hid h2; clear h1 h2
    have hd : decide (512 < ((lim (nv l)).length : Int)) = false := decide_eq_false (by omega)
    go_wp2_with fail
    go_ret2
    exact ⟨⟨_, o, by rw [e1.out]; rfl, by rw [e1.out]; exact P1.out, .inl rfl⟩, P2.out⟩
  · have e1 := Lib.hid (fitL_long hm)
    have hlen : 512 < (lim (nv l)).length := by
      rcases Nat.lt_or_ge 512 (lim (nv l)).length with h | h
      · exact h
      · exact absurd (len_max.1 h) hm
    clear hm
    go_enter Try.func48, Try.ntmps48
    go_wp2_with fail
    refine (trim_any o _ l _ H.out HL.out).mono ?_
    rintro e w1 ⟨v', rfl, h1, h2⟩
    have hv : ∃ a c, v' = .slice a (lim (nv l)).length c := by
      rcases h1 with ⟨_, h0, a, ha, rfl⟩ | ⟨g, cap, _, rfl, _⟩
      · rw [h0]; exact ⟨_, _, rfl⟩
      · exact ⟨_, _, rfl⟩
    obtain ⟨a', c', rfl⟩ := hv
    have P2 := Lib.hid h2; clear h1 h2
    have hd : decide (512 < ((lim (nv l)).length : Int)) = true := decide_eq_true (by omega)
    go_wp2_with fail
    go_ret2
    exact ⟨⟨_, none, by rw [e1.out]; rfl, by rw [e1.out]; exact OwV.nil _, .inr rfl⟩, P2.out⟩

theorem from_any (n : Nat) (w : World) (hn : n < 18446744073709551616) :
    Calls Try.prog 21 #[.int .u64 n] w fun e w' => (∃ v, e = .returned v ∧ NewV w w' v (lim n)) ∧ Ext w w' := by
  have h0 : (0 : Int) ≤ (n : Int) := by omega
  have h1 : (n : Int) < 18446744073709551616 := by omega
  have hl : Lim [(n : Int) % 4294967296, (n : Int) / 4294967296] := by
    intro x hx
    rcases List.mem_cons.1 hx with rfl | hx
    · omega
    · rw [List.mem_singleton.1 hx]; omega
  have hv : nv [(n : Int) % 4294967296, (n : Int) / 4294967296] = n := by simp only [nv]; omega
  have hr : RowU (w.alloc (.cells #[.int .u32 ((n : Int) % 4294967296), .int .u32 ((n : Int) / 4294967296)] 50)) w.heap.size 2 [(n : Int) % 4294967296, (n : Int) / 4294967296] := RowU.new w [(n : Int) % 4294967296, (n : Int) / 4294967296] (by simp)
  have HL := Lib.hid hl; have HV := Lib.hid hv; have HR := Lib.hid hr
  clear hl hv hr
  go_enter Try.func21, Try.ntmps21
  go_wp2_with fail
  refine (trim_row w.heap.size 2 [(n : Int) % 4294967296, (n : Int) / 4294967296] _ HR.out HL.out).mono ?_
  rintro e w1 ⟨rfl, h1, h2⟩
  have P1 := Lib.hid h1; have P2 := Lib.hid h2; clear h1 h2
  go_wp2_with fail
  go_ret
  refine ⟨⟨_, rfl, some w.heap.size, ?_, fun g hg => by cases hg; exact Nat.le_refl _⟩, ((Ext.refl w).alloc _).trans P2.out⟩
  have := OwV.row P1.out
  rw [HV.out] at this ⊢
  exact this

set_option maxHeartbeats 1000000 in
theorem add2_any (v1 v2 : Value) (l1 l2 : List Int) (w : World) (h1 : RdI .u32 w v1 l1) (h2 : RdI .u32 w v2 l2) (hl1 : Lim l1) (hl2 : Lim l2) :
    Calls Try.prog 17 #[v1, v2] w fun e w' => Res w w' e (addS l1 l2) ∧ Ext w w' := by
  have H1 := Lib.hid h1; have H2 := Lib.hid h2
  obtain ⟨a1, c1, rfl, hc1, hm1, hr1⟩ := rdU h1
  obtain ⟨a2, c2, rfl, hc2, hm2, hr2⟩ := rdU h2
  have HL1 := Lib.hid hl1; have HL2 := Lib.hid hl2
  clear h1 h2 hr1 hr2 hl1 hl2
  by_cases hc : chk2 l1 l2 = 0
  · have e1 := Lib.hid (show addS l1 l2 = fitL (nv l1 + nv l2) from opS_ok hc)
    have HC := Lib.hid hc
    obtain ⟨⟨g1, z1⟩, g2, z2⟩ := chk2_0 hc
    have Z1 := Lib.hid z1; have Z2 := Lib.hid z2
    clear hc z1 z2
    go_enter Try.func17, Try.ntmps17
    go_wp2_with fail
    refine (check2_any _ _ l1 l2 _ H1.out H2.out).mono ?_
    rintro e w1 ⟨rfl, hx1⟩
    rw [HC.out]
    have X1 := Lib.hid hx1; clear hx1
    have hmx : ∀ (m : Nat), l1.length ≤ m → l2.length ≤ m → nv l1 + 4294967296 ^ 0 * nv l2 < 4294967296 ^ (m + 1) := fun m h1 h2 => by
      rw [Nat.pow_zero, Nat.one_mul]; exact lt_max _ _ _ h1 h2 (nv_lt HL1.out) (nv_lt HL2.out)
    have HMX := Lib.hid hmx; clear hmx
    go_wp2_with (with_reducible refine wpList_make_u rfl _ _ rfl _ _ (max l1.length l2.length + 1) rfl rfl (by omega) (by omega) (by omega) ?_)
    all_goals
      intro w2 hrow2 hx2 hsz2
      have hM1 : l1.length ≤ max l1.length l2.length := by omega
      have hM2 : l2.length ≤ max l1.length l2.length := by omega
      have hM3 : max l1.length l2.length ≤ 512 := by omega
      have HR2 := Lib.hid hrow2; have X2 := Lib.hid (X1.out.trans hx2); have HS2 := Lib.hid hsz2
      have W1 : w1.heap.size < w2.heap.size := by omega
      have W0 := X1.out.size
      have D1 := Lib.hid (((RdA.of H1.out).ext X2.out).mono (q := (· ≠ w1.heap.size)) (fun b hb e => by omega))
      have D2 := Lib.hid (((RdA.of H2.out).ext X2.out).mono (q := (· ≠ w1.heap.size)) (fun b hb e => by omega))
      clear hrow2 hx2 hsz2
      generalize max l1.length l2.length = M at *
      have hrl : (List.replicate (M + 1) (0 : Int)).length = M + 1 := List.length_replicate
      have HRL := Lib.hid hrl; clear hrl
      go_wp2_with (refine wpList_copy_u rfl (.tmp 21) (.tmp 22) rfl w1.heap.size (M + 1) (List.replicate (M + 1) 0) l1 (.slice a1 l1.length c1) (by rw [HRL.out]; rfl) (by rfl) HR2.out D1.out.to (by rw [HRL.out]; omega) HS2.out ?_)
      intro w3 hrow3 hg3
      have HR3 := Lib.hid hrow3; have G3 := Lib.hid hg3
      clear hrow3 hg3
      have hz3 := Lib.hid (show (l1 ++ List.replicate (M + 1 - l1.length) (0 : Int)).length = M + 1 by rw [List.length_append, List.length_replicate]; omega)
      have hv3 := Lib.hid (show nv (l1 ++ List.replicate (M + 1 - l1.length) (0 : Int)) = nv l1 by rw [nv_append, nv_zeros]; simp)
      have hl3 := Lib.hid (show Lim (l1 ++ List.replicate (M + 1 - l1.length) (0 : Int)) from lim_app HL1.out (lim_zeros _))
      generalize l1 ++ List.replicate (M + 1 - l1.length) (0 : Int) = L3 at *
      have D3 := Lib.hid (D2.out.gr G3.out (fun b hb e => hb (by injection e)))
      go_wp2_with fail
      rw [← hz3.out] at HR3 ⊢
      refine (add_any w1.heap.size _ L3 (.slice a2 l2.length c2) l2 0 w3 HR3.out hl3.out D3.out HL2.out (by have := hz3.out; omega) (by rw [hv3.out, hz3.out]; exact HMX.out M hM1 hM2)).mono ?_
      rintro e w4 ⟨rfl, ⟨L4, q1, q2, q3, q4⟩, hg4⟩
      have HR4 := Lib.hid q4; have HL4 := Lib.hid q2; have HV4 := Lib.hid q3; have G4 := Lib.hid (G3.out.trans hg4)
      have HQ := Lib.hid q1
      clear q1 q2 q3 q4 hg4
      rw [← HQ.out] at HR4 ⊢
      go_wp2_with fail
      refine (fit_any (some w1.heap.size) _ L4 w4 (OwV.row HR4.out) HL4.out).mono ?_
      rintro e w5 ⟨⟨v', o', rfl, hO, ho'⟩, hx5⟩
      have HO := Lib.hid hO; have HO' := Lib.hid ho'; have X5 := Lib.hid hx5
      clear hO ho' hx5
      go_wp2_with fail
      go_ret2
      have hfin : fitL (nv L4) = addS l1 l2 := by rw [HV4.out, hv3.out, e1.out, Nat.pow_zero, Nat.one_mul]
      refine ⟨⟨v', by rw [← hfin]; rfl, o', by rw [← hfin]; exact HO.out, fun g hg => ?_⟩, ?_⟩
      · rcases HO'.out with rfl | rfl
        · cases hg; exact W0
        · cases hg
      · exact (((Gr.of_ext (o := none) X2.out).fresh G4.out (fun g hg => by right; cases hg; exact W0)).ext).trans X5.out
  · have e1 := Lib.hid (show addS l1 l2 = ([], chk2 l1 l2) from opS_err hc)
    have hc' : (chk2 l1 l2 != 0) = true := by simpa using hc
    obtain ⟨c, hcc⟩ : ∃ c, c = chk2 l1 l2 := ⟨_, rfl⟩
    have hk := fun W h1 h2 => check2_any (.slice a1 l1.length c1) (.slice a2 l2.length c2) l1 l2 W h1 h2
    rw [← hcc] at hk hc' e1
    have HK := Lib.hid hk
    clear hc hcc hk
    go_enter Try.func17, Try.ntmps17
    go_wp2_with fail
    refine (HK.out _ H1.out H2.out).mono ?_
    rintro e w1 ⟨rfl, hx1⟩
    have X1 := Lib.hid hx1; clear hx1
    go_wp2_with fail
    go_ret2
    exact ⟨Res.mk (NewV.nil _ _) e1.out, X1.out⟩

end Go.Proofs.Ytoicjiiifffciaa
