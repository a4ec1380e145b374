/- Walk of double of layer 5. Conditions: a number of the call's own without leading zeros; a bit. -/
import Derived.Test.YtoicjiiifffciaaBigP
namespace Go.Proofs.Ytoicjiiifffciaa
set_option linter.unusedSimpArgs false
set_option linter.unusedVariables false
open Go.RowKit

/-- v is a slice of the call's own, in a block from B on, that reads l. -/
def OwB (w : World) (B : Nat) (v : Value) (l : List Int) : Prop := ∃ o, OwV w o v l ∧ ∀ g, o = some g → B ≤ g

theorem OwB.own {w : World} {B : Nat} {v : Value} {l : List Int} (h : OwB w B v l) : OwU w B v l := by obtain ⟨o, h1, h2⟩ := h; exact h1.toOwn h2
theorem OwB.of {w : World} {B : Nat} {v : Value} {l : List Int} (h : OwU w B v l) : OwB w B v l := OwV.own h
theorem OwB.nil (w : World) (B : Nat) : OwB w B (.slice none 0 0) [] := ⟨none, .nil w, fun g h => by cases h⟩
theorem OwB.ext {w w' : World} {B : Nat} {v : Value} {l : List Int} (h : OwB w B v l) (x : Ext w w') : OwB w' B v l := by obtain ⟨o, h1, h2⟩ := h; exact ⟨o, h1.ext x, h2⟩
theorem OwB.rd {w : World} {B : Nat} {v : Value} {l : List Int} (h : OwB w B v l) : RdI .u32 w v l := by obtain ⟨o, h1, _⟩ := h; exact h1.rdI
theorem OwB.mono {w : World} {B B' : Nat} {v : Value} {l : List Int} (h : OwB w B v l) (hB : B' ≤ B) : OwB w B' v l := by obtain ⟨o, h1, h2⟩ := h; exact ⟨o, h1, fun g hg => Nat.le_trans hB (h2 g hg)⟩
theorem OwB.shape {w : World} {B : Nat} {v : Value} {l : List Int} (h : OwB w B v l) : ∃ a c, v = .slice a l.length c := by
  obtain ⟨o, h1, _⟩ := h
  rcases h1 with ⟨_, h0, a, ha, rfl⟩ | ⟨g, cap, _, rfl, _⟩
  · rw [h0]; exact ⟨_, _, rfl⟩
  · exact ⟨_, _, rfl⟩

theorem shl1 (y x : Int) (hy : 0 ≤ y ∧ y < 4294967296) (hx : 0 ≤ x ∧ x ≤ 1) : bits .or .u32 (y * 2 % 4294967296) x = (2 * y + x) % 4294967296 := by
  obtain ⟨a, rfl⟩ := Int.eq_ofNat_of_zero_le hy.1
  obtain ⟨b, rfl⟩ := Int.eq_ofNat_of_zero_le hx.1
  have ha : a < 4294967296 := by omega
  have hb : b ≤ 1 := by omega
  rw [show ((a : Int) * 2 % 4294967296) = ((a * 2 % 4294967296 : Nat) : Int) by omega, (bits_u32 (a * 2 % 4294967296) b (by omega) (by omega)).2.1, or_add (a * 2 % 4294967296) b 1 (by omega) (by omega)]
  omega

theorem dbl_step {l : List Int} {i : Nat} {x : Int} (hl : Lim l) (hi : i < l.length) (hx : 0 ≤ x) :
    nv (l.set i ((2 * l.getD i 0 + x) % 4294967296)) + 4294967296 ^ (i + 1) * ((2 * l.getD i 0 + x) / 4294967296).toNat = nv l + 4294967296 ^ i * ((l.getD i 0).toNat + x.toNat) := by
  have h2 := getD_lim hl i
  have := add_step (x := l.getD i 0) (c := x) hl hi h2.1 hx
  rw [show 2 * l.getD i 0 + x = l.getD i 0 + l.getD i 0 + x by omega]
  exact this

theorem noZ_of_ge {l : List Int} (hl : Lim l) (h : 4294967296 ^ (l.length - 1) ≤ nv l) : NoZ l := by
  intro e
  have hne : l ≠ [] := by intro h0; subst h0; cases e
  have hlen : 0 < l.length := List.length_pos_iff.2 hne
  rw [getLast_getD l hlen] at e
  injection e with e
  have h1 := nv_takeD (l := l) (k := l.length - 1) (by omega)
  rw [show l.length - 1 + 1 = l.length by omega, List.take_length, e, show (0 : Int).toNat = 0 from rfl, Nat.mul_zero, Nat.add_zero] at h1
  have h2 := nv_lt (lim_take hl (l.length - 1))
  rw [List.length_take_of_le (by omega)] at h2
  omega

theorem nv_dbl_noZ {l lk : List Int} {x : Nat} (hl : Lim l) (hz : NoZ l) (hk : Lim lk) (hlen : lk.length = l.length) (h : nv lk = 2 * nv l + x) : NoZ lk := by
  by_cases h0 : l = []
  · subst h0
    rw [List.length_eq_zero_iff.1 hlen]; simp [NoZ]
  · refine noZ_of_ge hk ?_
    have := nv_ge hl hz h0
    rw [hlen]; omega

set_option maxHeartbeats 1000000 in
theorem double_row (B g cap : Nat) (l : List Int) (x : Int) (w : World) (h : RowU w g cap l) (hl : Lim l) (hz : NoZ l) (hx : 0 ≤ x ∧ x ≤ 1) (hB : B ≤ w.heap.size) (hg : B ≤ g) (hs : l.length ≤ 1000000) :
    Calls Try.prog 45 #[.slice (some ⟨g, 0, none⟩) l.length cap, .int .u32 x] w fun e w' => (∃ v', e = .returned v' ∧ OwB w' B v' (lim (2 * nv l + x.toNat))) ∧ Below B w w' := by
  have hle := h.le; have hmost := h.most
  have H := Lib.hid h; have HL := Lib.hid hl; have HZ := Lib.hid hz; clear h hl hz
  obtain ⟨x0, hx0⟩ : ∃ x0, x0 = x := ⟨_, rfl⟩
  have HX0 := Lib.hid hx0; clear hx0
  go_enter Try.func45, Try.ntmps45
  go_wp2_with fail
  go_loopw [1, 5, 6, 9] (fun vx _ _ i wr => ∃ (k : Nat) (c : Int) (lk : List Int), k ≤ l.length ∧ i = .int .i64 k ∧ vx = .int .u32 c ∧ 0 ≤ c ∧ c ≤ 1 ∧ lk.length = l.length ∧ Lim lk ∧ lk.drop k = l.drop k ∧ nv lk + 4294967296 ^ k * c.toNat = nv l + nv (l.take k) + x0.toNat ∧ RowU wr g cap lk ∧ Gr (some g) w wr)
    (fun _ _ _ i _ => l.length - (intOf i).toNat)
  case atStart => exact ⟨0, x, l, Nat.zero_le _, rfl, rfl, hx.1, hx.2, rfl, HL.out, rfl, by rw [HX0.out]; simp [nv], H.out, Gr.refl _ _⟩
  case round =>
    obtain ⟨k, c, lk, hk, rfl, rfl, c0, c1, e1, e2, ed, e3, e4, e5⟩ := hrel
    by_cases hlt : k < l.length
    · have hxl := getD_lim HL.out k
      have hgk : lk.getD k 0 = l.getD k 0 := by
        have := congrArg (fun t => t.getD 0 0) ed
        simpa [List.getD_eq_getElem?_getD, List.getElem?_drop] using this
      have ht := nv_takeD hlt
      have hst := dbl_step (x := c) e2 (show k < lk.length by omega) c0
      rw [hgk] at hst
      obtain ⟨y, hyy⟩ : ∃ y, y = l.getD k 0 := ⟨_, rfl⟩
      have hy' := e4.getD (i := k) (by omega) (hyy.trans hgk.symm)
      rw [← hyy] at hst ht hxl
      have hor := shl1 y c hxl ⟨c0, c1⟩
      have fy := e4.free; have ly := e4.lt
      have hdk : (lk.set k ((2 * y + c) % 4294967296)).drop (k + 1) = l.drop (k + 1) := by
        rw [List.drop_set_of_lt (by omega)]
        have := congrArg (List.drop 1) ed
        simpa [List.drop_drop, Nat.add_comm] using this
      have G1 := Lib.hid e1; have G2 := Lib.hid e2; have G3 := Lib.hid e3; have G4 := Lib.hid e4; have G5 := Lib.hid e5; have GS := Lib.hid hst; have GT := Lib.hid ht; have GO := Lib.hid hor; have GD := Lib.hid hdk
      have q1 : (0 : Int) ≤ (k : Int) := by omega
      have q2 : (k : Int) < (l.length : Int) := by omega
      obtain ⟨y0, y1⟩ := hxl
      clear e1 e2 e3 e4 e5 ed hst ht hyy hgk hor hdk
      go_wp2_with fail
      go_roundw
      case rel =>
        refine ⟨k + 1, (2 * y + c) / 4294967296, lk.set k ((2 * y + c) % 4294967296), by omega, by go_num, ?_, by omega, by omega, (List.length_set).trans G1.out, lim_setMod G2.out _ _, GD.out, ?_, ?_, ?_⟩
        · congr 1; omega
        · have h1 := GS.out; have h2 := GT.out; have h3 := G3.out
          rw [Nat.mul_add] at h1
          omega
        · have := G4.out.set k ((2 * y + c) % 4294967296) (by have := G1.out; omega)
          rw [← GO.out] at this ⊢
          exact this
        · exact G5.out.set _ _
      case measure => simp [intOf]; omega
    · obtain rfl : k = l.length := by omega
      rw [List.take_length] at e3
      have hb5 := e5.below hB (fun g' hg' => by cases hg'; exact hg)
      have hsz := e5.size
      by_cases hc0 : c = 0
      · subst hc0
        have ev : nv lk = 2 * nv l + x.toNat := by rw [← HX0.out]; simp at e3; omega
        have ec := lim_nv e2 (nv_dbl_noZ HL.out HZ.out e2 e1 ev)
        rw [ev] at ec
        have G1 := Lib.hid e1; have G4 := Lib.hid e4; have GE := Lib.hid ec; have G5 := Lib.hid hb5
        clear e1 e2 e3 e4 e5 ed ev ec hb5
        go_wp2_with fail
        go_ret
        refine ⟨⟨_, rfl, some g, ?_, fun g' h => by cases h; exact hg⟩, G5.out⟩
        rw [GE.out, ← G1.out]
        exact OwV.row G4.out
      · have hc1 : c = 1 := by omega
        subst hc1
        have e2' : Lim (lk ++ [1]) := lim_snoc e2 (by omega) (by omega)
        have ev : nv (lk ++ [1]) = 2 * nv l + x.toNat := by
          rw [nv_snoc, e1, ← HX0.out]; rw [show (1 : Int).toNat = 1 from rfl] at e3 ⊢; omega
        have ec := lim_nv e2' (by simp [NoZ])
        rw [ev] at ec
        have hown := (OwV.row e4).toOwn (B := B) (fun g' h => by cases h; exact hg)
        rw [e1] at hown
        have G1 := Lib.hid e1; have G4 := Lib.hid hown; have GE := Lib.hid ec; have G5 := Lib.hid hb5
        clear e1 e2 e3 e4 e5 ed ev ec hb5 hown e2'
        go_wp2_with (at_builtin; (refine wpList_append_new wr rfl _ _ 23 rfl B 50 (.int .u32 0) 1 4 Try.underlying23 Try.infoU rfl (by decide) _ _ _ G4.out rfl [_] rfl (by simp [Value.oneCell']) rfl (by omega) (by omega) (by omega) ?_))
        intro g2 cap2 w3 hown3 hb3
        have O8 := Lib.hid hown3; have B8 := Lib.hid hb3; clear hown3 hb3
        go_wp2_with fail
        go_ret
        refine ⟨⟨_, rfl, OwB.of ?_⟩, G5.out.trans B8.out⟩
        have := O8.out
        unfold OwU
        rw [GE.out, List.length_append, G1.out, List.map_append]
        exact this

set_option maxHeartbeats 400000 in
theorem double_nil (B : Nat) (x : Int) (w : World) (hx : 0 ≤ x ∧ x ≤ 1) (hB : B ≤ w.heap.size) :
    Calls Try.prog 45 #[.slice none 0 0, .int .u32 x] w fun e w' => (∃ v', e = .returned v' ∧ OwB w' B v' (lim x.toNat)) ∧ Below B w w' := by
  by_cases h0 : x = 0
  · subst h0
    go_enter Try.func45, Try.ntmps45
    go_wp2_with fail
    refine wp_loop_rounds 1 ?_
    rw [rounds_succ]
    go_wp2
    go_ret
    exact ⟨⟨_, rfl, OwB.nil _ _⟩, Below.refl _ _⟩
  · have h1 : x = 1 := by omega
    subst h1
    go_enter Try.func45, Try.ntmps45
    go_wp2_with fail
    refine wp_loop_rounds 1 ?_
    rw [rounds_succ]
    go_wp2_with (at_builtin; (refine wpList_append_new w rfl _ _ 23 rfl B 50 (.int .u32 0) 1 4 Try.underlying23 Try.infoU rfl (by decide) _ _ _ (World.ownsRow_nil _ _ _ _) rfl [_] rfl (by simp [Value.oneCell']) rfl (by omega) (by omega) (by omega) ?_))
    intro g2 cap2 w3 hown3 hb3
    have O8 := Lib.hid hown3; have B8 := Lib.hid hb3; clear hown3 hb3
    go_wp2_with fail
    go_ret
    exact ⟨⟨_, rfl, OwB.of O8.out⟩, B8.out⟩

/-- double. -/
theorem double_any (B : Nat) (v : Value) (l : List Int) (x : Int) (w : World) (h : OwB w B v l) (hl : Lim l) (hz : NoZ l) (hx : 0 ≤ x ∧ x ≤ 1) (hB : B ≤ w.heap.size) (hs : l.length ≤ 1000000) :
    Calls Try.prog 45 #[v, .int .u32 x] w fun e w' => (∃ v', e = .returned v' ∧ OwB w' B v' (lim (2 * nv l + x.toNat))) ∧ Below B w w' := by
  obtain ⟨o, h1, h2⟩ := h
  rcases h1 with ⟨_, rfl, a, rfl, rfl⟩ | ⟨g, cap, ho, rfl, hr⟩
  · have := double_nil B x w hx hB
    simpa [nv] using this
  · exact double_row B g cap l x w hr hl hz hx hB (h2 g ho) hs

end Go.Proofs.Ytoicjiiifffciaa
