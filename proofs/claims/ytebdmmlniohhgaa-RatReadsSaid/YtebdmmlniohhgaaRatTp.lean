/- Plain laws: the text of a rational number is read back, and the text of what was read is the text. Conditions: as each states. -/
import Derived.Test.YtebdmmlniohhgaaRatP
namespace Go.Proofs.Ytebdmmlniohhgaa
set_option linter.unusedSimpArgs false
set_option linter.unusedVariables false

theorem bext {s t : ByteArray} (h : s.data.toList = t.data.toList) : s = t := by
  obtain ⟨⟨a⟩⟩ := s; obtain ⟨⟨b⟩⟩ := t
  simp at h
  rw [h]
theorem dext (s : ByteArray) (a b : Nat) : (s.extract a b).data.toList = (s.data.toList.drop a).take (b - a) := by
  rw [← Lib.toList_data, Lib.extract_toList]
theorem dapp (s t : ByteArray) : (s ++ t).data.toList = s.data.toList ++ t.data.toList := by
  rw [ByteArray.data_append, Array.toList_append]
theorem dsize (s : ByteArray) : s.size = s.data.toList.length := Lib.size_eq s

/-- Digits. -/
def digs (l : List UInt8) : Prop := ∀ b ∈ l, 48 ≤ b.toNat ∧ b.toNat ≤ 57

theorem digs_decT (n : Nat) : digs (decT n).data.toList ∧ (decT n).data.toList ≠ [] := by
  have hne : (decT n).data.toList ≠ [] := by
    intro e
    have h1 := good_decT n
    unfold badT at h1
    rw [dsize, e] at h1
    simp at h1
  refine ⟨fun b hb => ?_, hne⟩
  have h1 := good_decT n
  unfold badT at h1
  simp only [Bool.or_eq_false_iff, Bool.not_eq_false'] at h1
  have := List.all_eq_true.1 h1.2 b.toNat (List.mem_map.2 ⟨b, hb, rfl⟩)
  unfold isDig at this
  simpa using this

theorem idx_no {l : List UInt8} (h : digs l) : Lib.indexByte l 47 = -1 := by
  induction l with
  | nil => rfl
  | cons b l ih =>
    unfold Lib.indexByte
    have hb := h b (by simp)
    have : (b == (47 : UInt8)) = false := by
      rw [beq_eq_false_iff_ne]
      rintro rfl
      exact absurd hb.1 (by decide)
    rw [this, ih (fun x hx => h x (List.mem_cons_of_mem _ hx))]
    rfl
theorem idx_at {l r : List UInt8} (h : digs l) : Lib.indexByte (l ++ 47 :: r) 47 = l.length := by
  induction l with
  | nil => rfl
  | cons b l ih =>
    rw [List.cons_append]
    unfold Lib.indexByte
    have hb := h b (by simp)
    have : (b == (47 : UInt8)) = false := by
      rw [beq_eq_false_iff_ne]
      rintro rfl
      exact absurd hb.1 (by decide)
    rw [this, ih (fun x hx => h x (List.mem_cons_of_mem _ hx))]
    have h2 : ((l.length : Int) == -1) = false := by rw [beq_eq_false_iff_ne]; omega
    simp [h2]

/-- What a text is put together of. -/
theorem cut_eq (t : ByteArray) : t = cutA t ++ (if cutI t = true then ⟨#[47]⟩ ++ cutB t else ⟨#[]⟩) := by
  apply bext
  rw [dapp]
  rcases sl_cases t with h | ⟨i, h, hi⟩
  · unfold cutA cutI
    rw [if_pos h, h, if_neg (by simp)]
    simp
  · have h1 := (Lib.indexByte_some h).1
    have h2 : (sl t).toNat = i := by omega
    unfold cutA cutI cutB
    rw [if_neg (by omega), if_pos (by simp; omega), if_neg (by omega), h2, dext, dapp, dext]
    have hl : i < t.data.toList.length := by rw [← dsize]; exact hi
    have e1 : t.data.toList = t.data.toList.take i ++ t.data.toList.drop i := (List.take_append_drop i _).symm
    have e2 : t.data.toList.drop i = 47 :: t.data.toList.drop (i + 1) := by
      rw [List.drop_eq_getElem_cons hl]
      rw [List.getElem?_eq_getElem hl] at h1
      injection h1 with h1
      rw [h1]
    conv => lhs; rw [e1, e2]
    congr 1
    show (47 : UInt8) :: _ = [47] ++ _
    rw [List.singleton_append]
    congr 1
    rw [List.take_of_length_le]
    rw [List.length_drop, dsize]
    omega
theorem body_eq (s : ByteArray) : s = (if negT s = true then ⟨#[45]⟩ ++ bodyT s else bodyT s) := by
  unfold bodyT
  cases h : negT s
  · simp
  · simp only [if_true]
    apply bext
    unfold negT at h
    simp only [Bool.and_eq_true, decide_eq_true_eq, beq_iff_eq] at h
    obtain ⟨h1, h2⟩ := h
    rw [Lib.extract_toList, List.drop_zero] at h2
    rw [dapp, dext]
    have e1 : s.data.toList = s.data.toList.take 1 ++ s.data.toList.drop 1 := (List.take_append_drop 1 _).symm
    conv => lhs; rw [e1]
    rw [show s.data.toList.take 1 = [45] from h2]
    congr 1
    rw [List.take_of_length_le]
    rw [List.length_drop, dsize]
    omega

theorem neg_yes (t : ByteArray) : negT (⟨#[45]⟩ ++ t) = true ∧ bodyT (⟨#[45]⟩ ++ t) = t := by
  have h : negT (⟨#[45]⟩ ++ t) = true := by
    unfold negT
    rw [Lib.extract_toList, dapp, dsize, dapp]
    simp
  refine ⟨h, ?_⟩
  unfold bodyT
  rw [if_pos h]
  apply bext
  rw [dext, dapp, dsize, dapp]
  show List.take _ (List.drop 1 ([45] ++ t.data.toList)) = _
  rw [List.drop_append_of_le_length (by simp)]
  show List.take _ ([] ++ t.data.toList) = _
  rw [List.nil_append, List.take_of_length_le]
  simp
theorem neg_no {t : ByteArray} {b : UInt8} {l : List UInt8} (h : t.data.toList = b :: l) (hb : 48 ≤ b.toNat) : negT t = false ∧ bodyT t = t := by
  have h1 : negT t = false := by
    unfold negT
    rw [Lib.extract_toList, h]
    have : b ≠ 45 := by rintro rfl; exact absurd hb (by decide)
    simp [this]
  refine ⟨h1, ?_⟩
  unfold bodyT
  rw [h1]; rfl

theorem cut_no {t : ByteArray} (h : digs t.data.toList) : cutA t = t ∧ cutI t = false := by
  have e : sl t = -1 := idx_no h
  unfold cutA cutI
  rw [if_pos e, e]
  exact ⟨rfl, rfl⟩
theorem cut_yes {t u : ByteArray} (h : digs t.data.toList) : cutA (t ++ (⟨#[47]⟩ ++ u)) = t ∧ cutB (t ++ (⟨#[47]⟩ ++ u)) = u ∧ cutI (t ++ (⟨#[47]⟩ ++ u)) = true := by
  have ed : (t ++ (⟨#[47]⟩ ++ u)).data.toList = t.data.toList ++ 47 :: u.data.toList := by rw [dapp, dapp]; rfl
  have e : sl (t ++ (⟨#[47]⟩ ++ u)) = t.data.toList.length := by unfold sl; rw [ed]; exact idx_at h
  refine ⟨?_, ?_, ?_⟩
  · unfold cutA
    rw [if_neg (by omega), e, Int.toNat_natCast]
    apply bext
    rw [dext, ed, List.drop_zero, Nat.sub_zero, List.take_left']
    rfl
  · unfold cutB
    rw [if_neg (by omega), e, Int.toNat_natCast]
    apply bext
    rw [dext, dsize, ed]
    rw [show t.data.toList.length + 1 = (t.data.toList ++ [47]).length by simp, show t.data.toList ++ 47 :: u.data.toList = (t.data.toList ++ [47]) ++ u.data.toList by simp, List.drop_left', List.take_of_length_le]
    · simp; omega
    · rfl
  · unfold cutI
    rw [e]
    simp

theorem parse_dec {l : List Int} (hl : Lim l) (hz : NoZ l) (h : l.length ≤ 6) : parseS (decT (nv l)) = (l, 0) ∧ (decT (nv l)).size ≤ 193 := by
  have h1 := nv_lt hl
  have h2 := decT_size (nv l)
  have h3 : blen (nv l) ≤ 32 * l.length := blen_le.2 (by rw [← pow_two]; exact h1)
  have h4 : nv l < MAXN := pow_max h1 (by omega)
  exact ⟨by rw [parse_text h4 (by omega), lim_nv hl hz], by omega⟩

/-- Parse inverts Text. -/
theorem parse_textQ {r : RR} (hl : LimR r) (hc : chkR r = 0) (h1 : okLen r.num.length) (h2 : okLen r.den.length) : ∃ T, textR r = (T, 0) ∧ parseQ T = (r, 0) := by
  obtain ⟨g1, g2, z1, z2, g5, g6, g7⟩ := chkR_0 hl hc
  unfold okLen at h1 h2
  obtain ⟨pn, sn⟩ := parse_dec hl.1 z1 (by omega)
  obtain ⟨pd, sd⟩ := parse_dec hl.2 z2 (by omega)
  obtain ⟨dn, en⟩ := digs_decT (nv r.num)
  obtain ⟨b, l, ebl⟩ : ∃ b l, (decT (nv r.num)).data.toList = b :: l := by
    cases hq : (decT (nv r.num)).data.toList with
    | nil => exact absurd hq en
    | cons b l => exact ⟨b, l, rfl⟩
  have hb : 48 ≤ b.toNat := (dn b (by rw [ebl]; simp)).1
  obtain ⟨N, hN⟩ : ∃ N, N = decT (nv r.num) := ⟨_, rfl⟩
  obtain ⟨D, hD⟩ : ∃ D, D = decT (nv r.den) := ⟨_, rfl⟩
  have hok : okQ r = (r, 0) := by unfold okQ; rw [if_pos hc]
  unfold textR
  rw [if_pos hc]
  refine ⟨_, rfl, ?_⟩
  rw [← hN] at pn sn dn ebl ⊢
  rw [← hD] at pd sd ⊢
  have b1 : (⟨#[45]⟩ : ByteArray).size = 1 := rfl
  have b2 : (⟨#[47]⟩ : ByteArray).size = 1 := rfl
  by_cases hd : r.den = []
  · rw [if_pos hd]
    obtain ⟨c1, c2⟩ := cut_no dn
    have key : ∀ T, bodyT T = N → negT T = r.neg → T.size ≤ 4096 → parseQ T = (r, 0) := fun T e1 e2 e3 => by
      unfold parseQ
      rw [if_neg (by omega), e1, e2, c1, c2, pn, if_neg (by simp), if_neg (by simp), ← hd]
      exact hok
    cases hs : r.neg
    · obtain ⟨k1, k2⟩ := neg_no ebl hb
      exact key _ k2 (by rw [hs]; exact k1) (by simp; omega)
    · obtain ⟨k1, k2⟩ := neg_yes N
      exact key _ k2 (by rw [hs]; exact k1) (by simp only [if_true]; rw [ByteArray.size_append]; omega)
  · rw [if_neg hd]
    obtain ⟨c1, c2, c3⟩ := cut_yes (t := N) (u := D) dn
    have key : ∀ T, bodyT T = N ++ (⟨#[47]⟩ ++ D) → negT T = r.neg → T.size ≤ 4096 → parseQ T = (r, 0) := fun T e1 e2 e3 => by
      unfold parseQ
      rw [if_neg (by omega), e1, e2, c1, c2, c3, pn, pd, if_neg (by simp), if_pos rfl, if_neg (by simp [hd])]
      exact hok
    cases hs : r.neg
    · obtain ⟨k1, k2⟩ := neg_no (t := N ++ (⟨#[47]⟩ ++ D)) (b := b) (l := l ++ (⟨#[47]⟩ ++ D : ByteArray).data.toList) (by rw [dapp, ebl]; rfl) hb
      exact key _ k2 (by rw [hs]; exact k1) (by simp only [Bool.false_eq_true, if_false]; rw [ByteArray.size_append, ByteArray.size_append]; omega)
    · obtain ⟨k1, k2⟩ := neg_yes (N ++ (⟨#[47]⟩ ++ D))
      have e : (⟨#[45]⟩ ++ N) ++ (⟨#[47]⟩ ++ D) = (⟨#[45]⟩ : ByteArray) ++ (N ++ (⟨#[47]⟩ ++ D)) := ByteArray.append_assoc
      simp only [if_true]
      rw [e]
      exact key _ k2 (by rw [hs]; exact k1) (by rw [ByteArray.size_append, ByteArray.size_append, ByteArray.size_append]; omega)

theorem okQ_cases (r : RR) : (okQ r = (r, 0) ∧ chkR r = 0) ∨ okQ r = (zR, 2) := by
  unfold okQ
  by_cases h : chkR r = 0
  · left; rw [if_pos h]; exact ⟨rfl, h⟩
  · right; rw [if_neg h]

/-- Text inverts Parse. -/
theorem text_parseQ (s : ByteArray) : (∃ r, parseQ s = (r, 0) ∧ chkR r = 0 ∧ LimR r ∧ textR r = (s, 0)) ∨ (∃ c, c ≠ 0 ∧ parseQ s = (zR, c)) := by
  unfold parseQ
  by_cases h1 : 4096 < s.size
  · right; rw [if_pos h1]; exact ⟨4, by decide, rfl⟩
  · rw [if_neg h1]
    have hs := body_eq s
    have ht := cut_eq (bodyT s)
    rcases parse_cases (cutA (bodyT s)) with ⟨n, hn, hp, hd⟩ | ⟨c, hc, hp⟩
    · rw [hp, if_neg (by simp)]
      dsimp only
      cases hI : cutI (bodyT s)
      · rw [if_neg (by decide)]
        rcases okQ_cases ⟨negT s, lim n, []⟩ with ⟨e, hc⟩ | e
        · left
          refine ⟨_, e, hc, ⟨lim_lim _, fun x hx => by cases hx⟩, ?_⟩
          unfold textR
          rw [if_pos hc, if_pos rfl]
          dsimp only
          rw [nv_lim, hd]
          rw [hI, if_neg (by decide)] at ht
          have ht2 : cutA (bodyT s) = bodyT s := by
            conv => rhs; rw [ht]
            exact (ByteArray.append_empty).symm
          rw [ht2, ← hs]
        · right; exact ⟨2, by decide, e⟩
      · rw [if_pos rfl]
        rcases parse_cases (cutB (bodyT s)) with ⟨m, hm, hq, he⟩ | ⟨c, hc, hq⟩
        · rw [hq]
          dsimp only
          by_cases h0 : lim m = []
          · right; rw [if_pos (.inr h0)]; exact ⟨2, by decide, rfl⟩
          · rw [if_neg (by rintro (h | h); exact h rfl; exact h0 h)]
            rcases okQ_cases ⟨negT s, lim n, lim m⟩ with ⟨e, hc⟩ | e
            · left
              refine ⟨_, e, hc, ⟨lim_lim _, lim_lim _⟩, ?_⟩
              unfold textR
              rw [if_pos hc, if_neg h0]
              dsimp only
              rw [nv_lim, nv_lim, hd, he]
              rw [hI, if_pos rfl] at ht
              cases hg : negT s
              · rw [hg, if_neg (by decide)] at hs
                rw [if_neg (by decide), ← ht, ← hs]
              · rw [hg, if_pos rfl] at hs
                rw [if_pos rfl, ByteArray.append_assoc, ← ht, ← hs]
            · right; exact ⟨2, by decide, e⟩
        · right; rw [hq, if_pos (.inl hc)]; exact ⟨2, by decide, rfl⟩
    · right; rw [hp, if_pos hc]; exact ⟨2, by decide, rfl⟩

end Go.Proofs.Ytebdmmlniohhgaa
