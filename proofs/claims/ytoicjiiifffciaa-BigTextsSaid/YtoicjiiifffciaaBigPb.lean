/- Walks of strings.ContainsFunc, IndexFunc and indexFunc over Parse's closure; what they say of a text. Conditions: none. -/
import Derived.Test.YtoicjiiifffciaaBigPa
import Derived.Test.YtoicjiiifffciaaBigTp
import Derived.Shelf.Strings.FuncGrows
namespace Go.Proofs.Ytoicjiiifffciaa
set_option linter.unusedSimpArgs false
set_option linter.unusedVariables false
open Go.RowKit Go.Shelf Go.Proofs

def nd (r : Nat) : Bool := noDig (r : Int)

theorem pred_nd (w : World) : PredGrows Try.prog 54 #[] nd w := fun W x _ _ => parse1_any (x : Int) W

set_option maxHeartbeats 2000000 in
set_option maxRecDepth 1000000 in
theorem indexFunc_any (s : ByteArray) (w : World) :
    Calls Try.prog 82 #[.string s, .func (.func 54) #[] #[], .bool true] w fun e w' => e = .returned (.int .i64 (Lib.idxFunc nd true s)) ∧ Ext w w' := by
  go_enter Try.func82, Try.ntmps82
  go_wp2
  go_loopg [] s.size (fun gf wx => ∃ pos : Nat, wx.heap[w.heap.size]? = some (.stringIter s pos) ∧ Below w.heap.size w wx ∧ Lib.idxFuncFrom nd true s gf pos = Lib.idxFunc nd true s ∧ s.size ≤ pos + gf)
  case atStart => exact ⟨0, World.iter_heap w s 0, (Below.refl _ w).alloc (Nat.le_refl _) _, rfl, by omega⟩
  case round =>
    obtain ⟨pos, hit, hbw, hleft, hfu⟩ := hrel
    by_cases hps : pos < s.size
    · obtain ⟨g', rfl⟩ : ∃ g', gk = g' + 1 := ⟨gk - 1, by omega⟩
      have hnx : ∀ ty, (Instr.next (.pointer (some ⟨w.heap.size, 0, none⟩)) true ty).run Try.prog wr = _ := fun ty => Lib.run_next_any_at wr w.heap.size s pos ty hit hps
      have hwd := Lib.width_pos s pos
      obtain ⟨R, hR⟩ : ∃ R, (Utf8.decode s pos).1 = R := ⟨_, rfl⟩
      obtain ⟨K, hK⟩ : ∃ K, (Utf8.decode s pos).2 = K := ⟨_, rfl⟩
      simp only [Lib.idxFuncFrom, hps, if_true, hR, hK] at hleft
      rw [hR, hK] at hnx
      rw [hK] at hwd
      have hit2 := Lib.iterAt_heap wr w.heap.size s pos (pos + K) hit
      have hbw2 := Lib.below_iterAt hbw (k := w.heap.size) (Nat.le_refl _) s (pos + K)
      obtain ⟨W, hWd⟩ : ∃ W, wr.iterAt w.heap.size s (pos + K) = W := ⟨_, rfl⟩
      rw [hWd] at hnx hit2 hbw2
      have hltW : w.heap.size < W.heap.size := (Array.getElem?_eq_some_iff.1 hit2).1
      have cS : Calls Try.prog 54 #[.int .i32 (R : Int)] W (fun e w' => e = .returned (.bool (nd R)) ∧ Below W.heap.size W w') := pred_nd w W R (by rw [← hR]; exact Lib.rune_le s pos) hbw2
      cases hsp : nd R <;> rw [hsp] at cS <;> simp only [hsp, if_true, Bool.false_eq_true, Bool.true_eq_false, if_false] at hleft
      · go_wp2_with fail
        refine cS.mono ?_
        rintro e W' ⟨rfl, hbc⟩
        go_wp2_with fail
        go_roundg g'
        case measure => omega
        case rel => exact ⟨pos + K, (hbc.block _ hltW).trans hit2, (hbw2.trans (hbc.mono hbw2.size)), hleft, by omega⟩
      · go_wp2_with fail
        refine cS.mono ?_
        rintro e W' ⟨rfl, hbc⟩
        go_wp2_with fail
        go_ret
        exact ⟨by rw [← hleft] <;> rfl, (hbw2.trans (hbc.mono hbw2.size))⟩
    · have hnx : ∀ ty, (Instr.next (.pointer (some ⟨w.heap.size, 0, none⟩)) true ty).run Try.prog wr = _ := fun ty => Lib.run_next_end_at wr w.heap.size s pos ty hit hps
      rw [Lib.idxFuncFrom_end nd true s gk pos hps] at hleft
      go_wp2
      go_ret
      exact ⟨by rw [← hleft] <;> rfl, hbw⟩

theorem indexFunc2_any (s : ByteArray) (w : World) :
    Calls Try.prog 76 #[.string s, .func (.func 54) #[] #[]] w fun e w' => e = .returned (.int .i64 (Lib.idxFunc nd true s)) ∧ Ext w w' := by
  have h := indexFunc_any s
  obtain ⟨I, hI⟩ : ∃ I, Lib.idxFunc nd true s = I := ⟨_, rfl⟩
  rw [hI] at h ⊢
  go_enter Try.func76, Try.ntmps76
  go_wp2_with fail
  refine (h _).mono ?_
  rintro e w1 ⟨rfl, hx1⟩
  go_wp2_with fail
  go_ret
  exact ⟨rfl, hx1⟩

theorem containsFunc_any (s : ByteArray) (w : World) :
    Calls Try.prog 53 #[.string s, .func (.func 54) #[] #[]] w fun e w' => e = .returned (.bool (decide (0 ≤ Lib.idxFunc nd true s))) ∧ Ext w w' := by
  have h := indexFunc2_any s
  obtain ⟨I, hI⟩ : ∃ I, Lib.idxFunc nd true s = I := ⟨_, rfl⟩
  rw [hI] at h ⊢
  go_enter Try.func53, Try.ntmps53
  go_wp2_with fail
  refine (h _).mono ?_
  rintro e w1 ⟨rfl, hx1⟩
  go_wp2_with fail
  go_ret
  exact ⟨rfl, hx1⟩

/-- The bytes of a text. -/
def byt (s : ByteArray) : List Nat := s.data.toList.map UInt8.toNat
theorem byt_len (s : ByteArray) : (byt s).length = s.size := by simp [byt]
theorem byt_get (s : ByteArray) (i : Nat) (h : i < s.size) : (byt s)[i]'(by rw [byt_len]; exact h) = (s[i]'h).toNat := by
  simp [byt]; rfl
theorem byt_lt (s : ByteArray) : ∀ b ∈ byt s, b < 256 := by
  intro b hb
  obtain ⟨x, _, rfl⟩ := List.mem_map.1 hb
  exact x.toNat_lt

def isDig (b : Nat) : Bool := decide (48 ≤ b) && decide (b ≤ 57)
theorem nd_of_dig {b : Nat} (h : isDig b = true) : nd b = false := by
  unfold isDig at h; unfold nd noDig
  simp at h ⊢
  omega
theorem nd_of_not {b : Nat} (h : isDig b = false) : nd b = true := by
  unfold isDig at h; unfold nd noDig
  simp at h ⊢
  omega

theorem idx_digits (s : ByteArray) : ∀ (f pos : Nat), s.size ≤ pos + f → (decide (0 ≤ Lib.idxFuncFrom nd true s f pos)) = !(((byt s).drop pos).all isDig) := by
  intro f
  induction f with
  | zero =>
    intro pos h
    rw [List.drop_of_length_le (by rw [byt_len]; omega)]
    rfl
  | succ f ih =>
    intro pos h
    by_cases hp : pos < s.size
    · have hd : (byt s).drop pos = (s[pos]'hp).toNat :: (byt s).drop (pos + 1) := by
        rw [List.drop_eq_getElem_cons (by rw [byt_len]; exact hp), byt_get s pos hp]
      unfold Lib.idxFuncFrom
      rw [if_pos hp, hd, List.all_cons]
      cases hb : isDig (s[pos]'hp).toNat with
      | true =>
        have hlt : (s[pos]'hp).toNat < 128 := by unfold isDig at hb; simp at hb; omega
        rw [decode_ascii s pos hp hlt]
        simp only [nd_of_dig hb, Bool.false_eq_true, if_false, Bool.true_and]
        exact ih (pos + 1) (by omega)
      | false =>
        have hn : nd (Utf8.decode s pos).1 = true := by
          rcases Nat.lt_or_ge (s[pos]'hp).toNat 128 with hlt | hge
          · rw [decode_ascii s pos hp hlt]; exact nd_of_not hb
          · have := (decode_high s pos hp hge).1
            exact nd_of_not (by unfold isDig; simp; omega)
        rw [hn, if_pos rfl]
        simp
    · rw [Lib.idxFuncFrom_end _ _ _ _ _ hp, List.drop_of_length_le (by rw [byt_len]; omega)]
      rfl

theorem idx_all (s : ByteArray) : decide (0 ≤ Lib.idxFunc nd true s) = !((byt s).all isDig) := by
  have := idx_digits s s.size 0 (by omega)
  rwa [List.drop_zero] at this

theorem containsDig_any (s : ByteArray) (w : World) :
    Calls Try.prog 53 #[.string s, .func (.func 54) #[] #[]] w fun e w' => e = .returned (.bool (!((byt s).all isDig))) ∧ Ext w w' := by
  have h := containsFunc_any s w
  rw [idx_all] at h
  exact h

/-- The value of decimal digits. -/
def horF (l : List Nat) : Nat := l.foldl (fun n b => 10 * n + (b - 48)) 0
theorem horF_snoc (l : List Nat) (b : Nat) : horF (l ++ [b]) = 10 * horF l + (b - 48) := by unfold horF; rw [List.foldl_append]; rfl
theorem horF_le (l r : List Nat) : horF l ≤ horF (l ++ r) := by
  induction r generalizing l with
  | nil => rw [List.append_nil]; exact Nat.le_refl _
  | cons b r ih =>
    have h1 := ih (l ++ [b])
    rw [List.append_assoc] at h1
    rw [horF_snoc] at h1
    exact Nat.le_trans (by omega) h1
theorem horF_take_le (l : List Nat) (k : Nat) : horF (l.take k) ≤ horF l := by
  conv => rhs; rw [← List.take_append_drop k l]
  exact horF_le _ _

/-- What is no number's text. -/
def badT (s : ByteArray) : Bool := decide (s.size = 0) || (decide ((byt s).head? = some 48) && decide (1 < s.size)) || !((byt s).all isDig)
/-- What Parse returns. -/
def parseS (s : ByteArray) : List Int × Int := if 4096 < s.size then ([], 4) else if badT s = true then ([], 2) else fitL (horF (byt s))

end Go.Proofs.Ytoicjiiifffciaa
