/- Part of the proof of nodL_holds: what the row needs of SpecM. Conditions: as each theorem states. -/
import Derived.Test.YtbnalhmcbolngaaSnGI
namespace Go.Proofs.Ytbnalhmcbolngaa
set_option linter.unusedSimpArgs false
set_option linter.unusedVariables false
def mskE (r : Int) (bd bs ba : Bool) (i : Nat) (hi : Int) : Bool := (i == 0) || !(ba || (bd && decide (hi < 0)) || (bs && decide (hi < -r)))
def mskL (r : Int) (bd bs ba : Bool) (l : List Bnd) : List Bool := l.mapIdx fun i x => mskE r bd bs ba i x.2.2
theorem mskL_len (r : Int) (bd bs ba : Bool) (l : List Bnd) : (mskL r bd bs ba l).length = l.length := by simp [mskL]
theorem mskL_take {r : Int} {bd bs ba : Bool} {l : List Bnd} {k : Nat} {x : Bnd} (h : l[k]? = some x) : mskL r bd bs ba (l.take (k + 1)) = mskL r bd bs ba (l.take k) ++ [mskE r bd bs ba k x.2.2] := by
  obtain ⟨hk, hx⟩ := List.getElem?_eq_some_iff.1 h
  rw [List.take_succ_eq_append_getElem hk, hx]
  unfold mskL
  rw [List.mapIdx_append]
  simp [List.length_take_of_le (Nat.le_of_lt hk)]
def mskR (de dl se sl ae al r : Int) (bd bs ba : Bool) (l : List Bnd) : List Bool × Int :=
  if achk l ≠ 0 then ([], achk l) else if chk de dl se sl ae al r ≠ 0 then ([], chk de dl se sl ae al r) else (mskL r bd bs ba l, 0)
section
variable {de dl se sl ae al r : Int} {bd bs ba : Bool} {l : List Bnd}
theorem mskR_a (h : achk l ≠ 0) : mskR de dl se sl ae al r bd bs ba l = ([], achk l) := by simp [mskR, h]
theorem mskR_1 (h : achk l = 0) (h1 : chk de dl se sl ae al r = 1) : mskR de dl se sl ae al r bd bs ba l = ([], 1) := by simp [mskR, h, h1]
theorem mskR_0 (h : achk l = 0) (h1 : chk de dl se sl ae al r = 0) : mskR de dl se sl ae al r bd bs ba l = (mskL r bd bs ba l, 0) := by simp [mskR, h, h1]
end
theorem achk_len30 {l : List Bnd} (h : achk l = 0) : 0 < l.length ∧ l.length ≤ 6 := by
  unfold achk at h
  split at h
  · simp at h
  · split at h
    · simp at h
    · omega
inductive MaskCase (r : Int) (bd bs ba : Bool) (i : Nat) (hi : Int) : Bool → Prop
  | first (h : ((i : Int) == 0) = true) : MaskCase r bd bs ba i hi true
  | all (h : ((i : Int) == 0) = false) (h1 : ba = true) : MaskCase r bd bs ba i hi false
  | desc (h : ((i : Int) == 0) = false) (h1 : ba = false) (h2 : bd = true) (h3 : hi < 0) : MaskCase r bd bs ba i hi false
  | d1 (h : ((i : Int) == 0) = false) (h1 : ba = false) (h2 : bd = true) (h3 : 0 ≤ hi) (h4 : bs = true) (h5 : -r ≤ hi) : MaskCase r bd bs ba i hi true
  | d2 (h : ((i : Int) == 0) = false) (h1 : ba = false) (h2 : bd = true) (h3 : 0 ≤ hi) (h4 : bs = false) : MaskCase r bd bs ba i hi true
  | s0 (h : ((i : Int) == 0) = false) (h1 : ba = false) (h2 : bd = false) (h4 : bs = true) (h5 : hi < -r) : MaskCase r bd bs ba i hi false
  | s1 (h : ((i : Int) == 0) = false) (h1 : ba = false) (h2 : bd = false) (h4 : bs = true) (h5 : -r ≤ hi) : MaskCase r bd bs ba i hi true
  | s2 (h : ((i : Int) == 0) = false) (h1 : ba = false) (h2 : bd = false) (h4 : bs = false) : MaskCase r bd bs ba i hi true
theorem maskCase {r : Int} (hr : 0 ≤ r) (bd bs ba : Bool) (i : Nat) (hi : Int) : MaskCase r bd bs ba i hi (mskE r bd bs ba i hi) := by
  by_cases h : i = 0
  · have h' : ((i : Int) == 0) = true := by simp [h]
    have e : mskE r bd bs ba i hi = true := by simp [mskE, h]
    rw [e]; exact .first h'
  · have h' : ((i : Int) == 0) = false := by simp [h]
    cases ba
    · cases bd
      · cases bs
        · have e : mskE r false false false i hi = true := by simp [mskE]
          rw [e]; exact .s2 h' rfl rfl rfl
        · by_cases h5 : hi < -r
          · have e : mskE r false true false i hi = false := by simp [mskE, h, h5]
            rw [e]; exact .s0 h' rfl rfl rfl h5
          · have e : mskE r false true false i hi = true := by simp [mskE, h]; omega
            rw [e]; exact .s1 h' rfl rfl rfl (by omega)
      · by_cases h3 : hi < 0
        · have e : mskE r true bs false i hi = false := by simp [mskE, h, h3]
          rw [e]; exact .desc h' rfl rfl h3
        · cases bs
          · have e : mskE r true false false i hi = true := by simp [mskE, h]; omega
            rw [e]; exact .d2 h' rfl rfl (by omega) rfl
          · have e : mskE r true true false i hi = true := by simp [mskE, h]; omega
            rw [e]; exact .d1 h' rfl rfl (by omega) rfl (by omega)
    · have e : mskE r bd bs true i hi = false := by simp [mskE, h]
      rw [e]; exact .all h' rfl
end Go.Proofs.Ytbnalhmcbolngaa
