/- Part of the proof of nodL_holds: what the row needs of SpecR. Conditions: as each theorem states. -/
import Derived.Test.YtbnalhmcbolngaaSnGI
namespace Go.Proofs.Ytbnalhmcbolngaa
set_option linter.unusedSimpArgs false
set_option linter.unusedVariables false
abbrev BlkD := Bool × Bool × Bool
def stp (de dl se sl ae al : Int) (b : BlkD) (z : Int) : BlkD := (flg de dl b.1 z, flg se sl b.2.1 z, flg ae al b.2.2 z)
def sts (f : BlkD → Int → BlkD) (b : BlkD) : List Int → List BlkD
  | [] => []
  | z :: r => f b z :: sts f (f b z) r
theorem sts_len (f : BlkD → Int → BlkD) : ∀ (l : List Int) (b : BlkD), (sts f b l).length = l.length
  | [], _ => rfl
  | _ :: r, b => by simp [sts, sts_len f r]
theorem sts_snoc (f : BlkD → Int → BlkD) (z : Int) : ∀ (l : List Int) (b : BlkD), sts f b (l ++ [z]) = sts f b l ++ [f (l.foldl f b) z]
  | [], _ => rfl
  | x :: r, b => by simp [sts, sts_snoc f z r]
def wrongB (z : Int) : Bool := decide (z < -2000) || decide (60000 < z)
def runR (de dl se sl ae al r : Int) (l : List Int) : List BlkD × Int :=
  if chk de dl se sl ae al r ≠ 0 then ([], chk de dl se sl ae al r) else if 1024 < l.length then ([], 4) else if l.any wrongB then ([], 1) else (sts (stp de dl se sl ae al) (false, false, false) l, 0)
section
variable {de dl se sl ae al r : Int} {l : List Int}
theorem runR_1 (h : chk de dl se sl ae al r = 1) : runR de dl se sl ae al r l = ([], 1) := by simp [runR, h]
theorem runR_4 (h : chk de dl se sl ae al r = 0) (h2 : 1024 < l.length) : runR de dl se sl ae al r l = ([], 4) := by simp [runR, h, h2]
theorem runR_w (h : chk de dl se sl ae al r = 0) (h2 : l.length ≤ 1024) (h3 : l.any wrongB = true) : runR de dl se sl ae al r l = ([], 1) := by
  unfold runR; rw [if_neg (by simp [h]), if_neg (by omega), if_pos h3]
theorem runR_0 (h : chk de dl se sl ae al r = 0) (h2 : l.length ≤ 1024) (h3 : l.any wrongB = false) : runR de dl se sl ae al r l = (sts (stp de dl se sl ae al) (false, false, false) l, 0) := by
  unfold runR; rw [if_neg (by simp [h]), if_neg (by omega), if_neg (by simp [h3])]
end
theorem any_take {l : List Int} {k : Nat} (h : k < l.length) : (l.take (k + 1)).any wrongB = ((l.take k).any wrongB || wrongB l[k]) := by
  rw [List.take_succ_eq_append_getElem h, List.any_append]; simp
theorem any_hit {l : List Int} {k : Nat} (h : k < l.length) (hw : wrongB l[k] = true) : l.any wrongB = true := List.any_eq_true.2 ⟨_, List.getElem_mem h, hw⟩
theorem wrongB_no {z : Int} (h : ¬ (z < -2000 ∨ 60000 < z)) : wrongB z = false := by simp [wrongB]; omega
end Go.Proofs.Ytbnalhmcbolngaa
