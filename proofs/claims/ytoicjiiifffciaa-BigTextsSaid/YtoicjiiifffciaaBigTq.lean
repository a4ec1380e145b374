/- Plain laws: the text of a number is read back, and the text of what was read is the text. Conditions: as each states. -/
import Derived.Test.YtoicjiiifffciaaBigPc
import Derived.Test.YtoicjiiifffciaaLawDiv
namespace Go.Proofs.Ytoicjiiifffciaa
set_option linter.unusedSimpArgs false
set_option linter.unusedVariables false

theorem byt_inj {s t : ByteArray} (h : byt s = byt t) : s = t := by
  have h1 : s.data.toList = t.data.toList := by
    unfold byt at h
    exact (List.map_inj_right (fun x y => UInt8.toNat_inj.1)).1 h
  have h2 : s.data = t.data := by
    rw [← Array.toArray_toList (xs := s.data), h1, Array.toArray_toList]
  cases s; cases t; simp_all

theorem byt_strOf (L : List Nat) (h : ∀ d ∈ L, d < 10) : byt (strOfNums (L.map (fun d => ((48 + d : Nat) : Int)))) = L.map (fun d => 48 + d) := by
  unfold byt
  rw [strOfNums_data, List.map_map, List.map_map]
  apply List.map_congr_left
  intro d hd
  have := h d hd
  simp
  omega

theorem decR_last (n : Nat) : (decR n).getLast? ≠ some 0 := by
  induction n using Nat.strongRecOn with
  | ind n ih =>
    by_cases h : n = 0
    · subst h; rw [decR_zero]; simp
    · rw [decR_pos h]
      by_cases h2 : n / 10 = 0
      · rw [h2, decR_zero]
        simp
        omega
      · have h3 := ih (n / 10) (by omega)
        have h4 : decR (n / 10) ≠ [] := by rw [decR_pos h2]; simp
        rw [List.getLast?_cons]
        cases h5 : (decR (n / 10)).getLast? with
        | none => exact absurd (List.getLast?_eq_none_iff.1 h5) h4
        | some x => rw [h5] at h3; simpa using h3

theorem byt_decT {n : Nat} (h : n ≠ 0) : byt (decT n) = ((decR n).reverse).map (fun d => 48 + d) := by
  unfold decT
  rw [if_neg h, ← List.map_reverse, byt_strOf]
  intro d hd
  exact decR_lt n d (List.mem_reverse.1 hd)
theorem byt_dec0 : byt (decT 0) = [48] := rfl

theorem horF_map (L : List Nat) : horF (L.reverse.map (fun d => 48 + d)) = horR L := by
  unfold horF
  rw [List.foldl_map]
  have : (fun (x y : Nat) => 10 * x + (48 + y - 48)) = (fun n d => 10 * n + d) := by
    funext x y
    omega
  rw [this, horR_foldl]

theorem horF_decT (n : Nat) : horF (byt (decT n)) = n := by
  by_cases h : n = 0
  · subst h; rw [byt_dec0]; rfl
  · rw [byt_decT h, horF_map, horR_decR]

theorem good_decT (n : Nat) : badT (decT n) = false := by
  unfold badT
  have hsz := byt_len (decT n)
  by_cases h : n = 0
  · subst h
    rw [byt_dec0] at hsz ⊢
    rw [← hsz]
    rfl
  · have h1 := byt_decT h
    have hne : decR n ≠ [] := by rw [decR_pos h]; simp
    have hl : 0 < (decR n).length := List.length_pos_iff.2 hne
    rw [h1] at hsz ⊢
    rw [List.length_map, List.length_reverse] at hsz
    have hhead : ((decR n).reverse.map (fun d => 48 + d)).head? ≠ some 48 := by
      rw [List.head?_map, List.head?_reverse]
      have := decR_last n
      cases hq : (decR n).getLast? with
      | none => simp
      | some x =>
        rw [hq] at this
        simp at this ⊢
        exact this
    have hall : ((decR n).reverse.map (fun d => 48 + d)).all isDig = true := by
      rw [List.all_eq_true]
      intro b hb
      obtain ⟨d, hd, rfl⟩ := List.mem_map.1 hb
      have := decR_lt n d (List.mem_reverse.1 hd)
      unfold isDig; simp; omega
    rw [hall]
    have h2 : ¬ (decT n).size = 0 := by omega
    simp [h2]
    exact fun e => absurd e (decR_last n)

/-- Parse inverts Text. -/
theorem parse_text {n : Nat} (h1 : n < MAXN) (h2 : (decT n).size ≤ 4096) : parseS (decT n) = (lim n, 0) := by
  unfold parseS
  rw [if_neg (by omega), good_decT, horF_decT, if_neg (by decide), fitL_ok h1]

theorem decT_size (n : Nat) : (decT n).size ≤ blen n + 1 := by
  rw [← byt_len]
  by_cases h : n = 0
  · subst h; rw [byt_dec0]; simp
  · rw [byt_decT h, List.length_map, List.length_reverse]
    have := decR_len n
    omega

/-- Text inverts Parse. -/
theorem text_parse {s : ByteArray} (hb : badT s = false) : decT (horF (byt s)) = s := by
  unfold badT at hb
  simp only [Bool.or_eq_false_iff, Bool.and_eq_false_iff, Bool.not_eq_false', decide_eq_false_iff_not] at hb
  obtain ⟨⟨h1, h2⟩, h3⟩ := hb
  have hlen := byt_len s
  apply byt_inj
  have hd : ∀ b ∈ byt s, 48 ≤ b ∧ b ≤ 57 := by
    intro b hb
    have := List.all_eq_true.1 h3 b hb
    unfold isDig at this
    simpa using this
  obtain ⟨L, hL⟩ : ∃ L, L = ((byt s).map (fun b => b - 48)).reverse := ⟨_, rfl⟩
  have e1 : byt s = L.reverse.map (fun d => 48 + d) := by
    rw [hL, List.reverse_reverse, List.map_map]
    conv => lhs; rw [← List.map_id (byt s)]
    apply List.map_congr_left
    intro b hb
    have := hd b hb
    simp; omega
  have hLd : ∀ d ∈ L, d < 10 := by
    intro d hd'
    rw [hL] at hd'
    obtain ⟨b, hb, rfl⟩ := List.mem_map.1 (List.mem_reverse.1 hd')
    have := hd b hb
    omega
  have hLne : L ≠ [] := by
    intro e
    rw [e] at e1
    rw [e1] at hlen
    simp at hlen
    omega
  by_cases hz : L.getLast? = some 0
  · have hh : (byt s).head? = some 48 := by
      rw [e1, List.head?_map, List.head?_reverse, hz]; rfl
    have hs1 : s.size = 1 := by
      rcases h2 with h2 | h2
      · exact absurd hh h2
      · omega
    have hb1 : byt s = [48] := by
      match hq : byt s, hlen with
      | [], hl => rw [hs1] at hl; cases hl
      | [a], _ => rw [hq] at hh; simp at hh; rw [hh]
      | a :: b :: t, hl => rw [hs1] at hl; simp at hl
    rw [hb1]
    rfl
  · have h4 := decR_horR L hLd hz
    have h5 : horR L ≠ 0 := by
      intro e
      rw [e, decR_zero] at h4
      exact hLne h4.symm
    rw [e1, horF_map, byt_decT h5, h4]

theorem blen_one {n : Nat} (h : n ≠ 0) : n / 2 ^ (blen n - 1) = 1 := by
  unfold blen
  rw [if_neg h, Nat.add_sub_cancel]
  have h1 := Nat.log2_self_le h
  have h2 : n < 2 ^ (n.log2 + 1) := Nat.lt_log2_self
  rw [Nat.pow_succ] at h2
  have h3 : 0 < 2 ^ n.log2 := Nat.pow_pos (by omega)
  apply Nat.le_antisymm
  · have : n / 2 ^ n.log2 < 2 := (Nat.div_lt_iff_lt_mul h3).2 (by omega)
    omega
  · exact (Nat.le_div_iff_mul_le h3).2 (by omega)

/-- What Parse returns, in two cases. -/
theorem parse_cases (s : ByteArray) : (∃ n, n < MAXN ∧ parseS s = (lim n, 0) ∧ decT n = s) ∨ (∃ c, c ≠ 0 ∧ parseS s = ([], c)) := by
  unfold parseS
  by_cases h1 : 4096 < s.size
  · right; rw [if_pos h1]; exact ⟨4, by decide, rfl⟩
  · rw [if_neg h1]
    cases hb : badT s with
    | true => right; rw [if_pos rfl]; exact ⟨2, by decide, rfl⟩
    | false =>
      rw [if_neg (by decide)]
      by_cases h2 : horF (byt s) < MAXN
      · left; exact ⟨_, h2, fitL_ok h2, text_parse hb⟩
      · right; exact ⟨4, by decide, fitL_long h2⟩

/-- One argument. -/
theorem long1_any (a1 : Option Addr) (n1 c1 : Nat) (w : World) :
    Calls Try.prog 10 #[.slice (some ⟨w.heap.size, 0, none⟩) 1 1] (w.alloc (.cells #[.slice a1 n1 c1] 23)) fun e w' => (∃ r, e = .returned (.bool r) ∧ (r = false → (n1 ≤ 20 ∨ 512 < n1))) ∧ Ext w w' := by
  have hb := Blk.new w #[.slice a1 n1 c1] 23
  refine (long_any w.heap.size [(a1, n1, c1)] _ (by simp) (fun i hi => ?_)).mono ?_
  · have := hb.cell i
    rw [this]
    match i, hi with
    | 0, _ => rfl
  · rintro e w' ⟨⟨r, h, hr⟩, hx⟩
    exact ⟨⟨r, h, fun e => hr e 0 (by simp)⟩, ((Ext.refl w).alloc _).trans hx⟩

end Go.Proofs.Ytoicjiiifffciaa
