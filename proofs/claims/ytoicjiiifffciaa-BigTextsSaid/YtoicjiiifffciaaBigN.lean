/- Plain laws on numbers written in limbs of 32 bits: values, the canonical list, its length. Conditions: none. -/
namespace Go.Proofs.Ytoicjiiifffciaa
set_option linter.unusedSimpArgs false
set_option linter.unusedVariables false

/-- The base. -/
def BB : Nat := 4294967296

/-- The value of a list of limbs. -/
def nv : List Int → Nat
  | [] => 0
  | x :: xs => x.toNat + 4294967296 * nv xs

/-- All limbs in range. -/
def Lim (l : List Int) : Prop := ∀ x ∈ l, 0 ≤ x ∧ x < 4294967296

/-- No leading zero. -/
def NoZ (l : List Int) : Prop := l.getLast? ≠ some 0

def limF : Nat → Nat → List Int
  | 0, _ => []
  | f + 1, n => if n = 0 then [] else ((n % 4294967296 : Nat) : Int) :: limF f (n / 4294967296)

/-- The limbs of a number. -/
def lim (n : Nat) : List Int := limF n n

theorem limF_more : ∀ (f n : Nat), n ≤ f → limF f n = limF n n := by
  intro f
  induction f using Nat.strongRecOn with
  | _ f ih =>
    intro n hn
    match f, n, hn with
    | 0, 0, _ => rfl
    | f + 1, 0, _ => simp [limF]
    | f + 1, n + 1, hn =>
      rw [limF, limF, if_neg (by omega), if_neg (by omega)]
      have h1 : (n + 1) / 4294967296 ≤ n := by omega
      rw [ih f (by omega) _ (by omega)]
      by_cases hf : n = f
      · subst hf; rw [ih n (by omega) _ h1]
      · rw [ih n (by omega) _ h1]

theorem lim_zero : lim 0 = [] := rfl
theorem lim_pos {n : Nat} (h : 0 < n) : lim n = ((n % 4294967296 : Nat) : Int) :: lim (n / 4294967296) := by
  obtain ⟨m, rfl⟩ : ∃ m, n = m + 1 := ⟨n - 1, by omega⟩
  show limF (m + 1) (m + 1) = _
  rw [limF, if_neg (by omega), limF_more m _ (by omega)]; rfl

theorem nv_nil : nv [] = 0 := rfl
theorem nv_cons (x : Int) (xs : List Int) : nv (x :: xs) = x.toNat + 4294967296 * nv xs := rfl

theorem nv_lim : ∀ n, nv (lim n) = n := by
  intro n
  induction n using Nat.strongRecOn with
  | _ n ih =>
    by_cases h : n = 0
    · subst h; rfl
    · rw [lim_pos (by omega), nv_cons, ih _ (by omega)]; omega

theorem lim_lim : ∀ n, Lim (lim n) := by
  intro n
  induction n using Nat.strongRecOn with
  | _ n ih =>
    by_cases h : n = 0
    · subst h; intro x hx; simp [lim_zero] at hx
    · rw [lim_pos (by omega)]
      intro x hx
      rcases List.mem_cons.1 hx with rfl | hx
      · omega
      · exact ih _ (by omega) x hx

theorem nv_pos_of_noZ {l : List Int} (hl : Lim l) (h : NoZ l) (hne : l ≠ []) : 0 < nv l := by
  induction l with
  | nil => exact absurd rfl hne
  | cons x xs ih =>
    rw [nv_cons]
    have hx := hl x (by simp)
    by_cases hxs : xs = []
    · subst hxs
      have : x ≠ 0 := by intro e; subst e; exact h rfl
      omega
    · have := ih (fun y hy => hl y (by simp [hy])) (by
        unfold NoZ at *; rwa [List.getLast?_cons_of_ne_nil hxs] at h) hxs
      omega

theorem lim_noZ : ∀ n, NoZ (lim n) := by
  intro n
  induction n using Nat.strongRecOn with
  | _ n ih =>
    by_cases h : n = 0
    · subst h; simp [NoZ, lim_zero]
    · rw [lim_pos (by omega)]
      by_cases h2 : n / 4294967296 = 0
      · rw [h2, lim_zero]; simp [NoZ]; omega
      · have h3 := ih _ (show n / 4294967296 < n by omega)
        unfold NoZ at *
        rw [List.getLast?_cons_of_ne_nil]
        · exact h3
        · rw [lim_pos (by omega)]; simp

/-- A list without leading zero is the list of its value. -/
theorem lim_nv : ∀ {l : List Int}, Lim l → NoZ l → lim (nv l) = l := by
  intro l
  induction l with
  | nil => intros; rfl
  | cons x xs ih =>
    intro hl hz
    have hp := nv_pos_of_noZ hl hz (by simp)
    have hx := hl x (by simp)
    have hxs : NoZ xs := by
      by_cases h : xs = []
      · subst h; simp [NoZ]
      · unfold NoZ at *; rwa [List.getLast?_cons_of_ne_nil h] at hz
    rw [lim_pos hp, nv_cons]
    rw [nv_cons] at hp
    have e1 : (x.toNat + 4294967296 * nv xs) / 4294967296 = nv xs := by omega
    have e2 : (x.toNat + 4294967296 * nv xs) % 4294967296 = x.toNat := by omega
    rw [e1, e2, ih (fun y hy => hl y (by simp [hy])) hxs]
    congr 1
    omega

theorem can_ext {a b : List Int} (ha : Lim a) (hb : Lim b) (za : NoZ a) (zb : NoZ b) (h : nv a = nv b) : a = b := by
  rw [← lim_nv ha za, ← lim_nv hb zb, h]

theorem nv_append (a b : List Int) : nv (a ++ b) = nv a + 4294967296 ^ a.length * nv b := by
  induction a with
  | nil => simp [nv]
  | cons x xs ih =>
    rw [List.cons_append, nv_cons, nv_cons, ih, List.length_cons, Nat.pow_succ, Nat.mul_add, Nat.mul_comm (4294967296 ^ xs.length) 4294967296, Nat.mul_assoc]
    omega

theorem nv_lt {l : List Int} (h : Lim l) : nv l < 4294967296 ^ l.length := by
  induction l with
  | nil => simp [nv]
  | cons x xs ih =>
    have hx := h x (by simp)
    have := ih (fun y hy => h y (by simp [hy]))
    rw [nv_cons, List.length_cons, Nat.pow_succ]
    omega

theorem nv_ge {l : List Int} (h : Lim l) (hz : NoZ l) (hne : l ≠ []) : 4294967296 ^ (l.length - 1) ≤ nv l := by
  induction l with
  | nil => exact absurd rfl hne
  | cons x xs ih =>
    have hx := h x (by simp)
    by_cases hxs : xs = []
    · subst hxs
      have : x ≠ 0 := by intro e; subst e; exact hz rfl
      simp [nv]; omega
    · have h1 := ih (fun y hy => h y (by simp [hy])) (by unfold NoZ at *; rwa [List.getLast?_cons_of_ne_nil hxs] at hz) hxs
      have hl : xs.length ≠ 0 := by simpa using hxs
      rw [nv_cons, List.length_cons, show xs.length + 1 - 1 = (xs.length - 1) + 1 by omega, Nat.pow_succ]
      omega

theorem pow_lt {a b : Nat} (h : a < b) : (4294967296 : Nat) ^ a < 4294967296 ^ b := Nat.pow_lt_pow_right (by omega) h
theorem pow_le {a b : Nat} (h : a ≤ b) : (4294967296 : Nat) ^ a ≤ 4294967296 ^ b := Nat.pow_le_pow_right (by omega) h
theorem pow_pos (a : Nat) : 0 < (4294967296 : Nat) ^ a := Nat.pow_pos (by omega)
theorem lt_of_pow_le {a b n : Nat} (h1 : (4294967296 : Nat) ^ a ≤ n) (h2 : n < 4294967296 ^ b) : a < b := by
  rcases Nat.lt_or_ge a b with h | h
  · exact h
  · have := pow_le h; omega

/-- The length of the canonical list. -/
theorem lim_len_le {n k : Nat} : (lim n).length ≤ k ↔ n < 4294967296 ^ k := by
  have h1 := nv_lt (lim_lim n)
  rw [nv_lim] at h1
  constructor
  · intro h; exact Nat.lt_of_lt_of_le h1 (pow_le h)
  · intro h
    by_cases h0 : lim n = []
    · simp [h0]
    · have h2 := nv_ge (lim_lim n) (lim_noZ n) h0
      rw [nv_lim] at h2
      have := lt_of_pow_le h2 h
      omega

theorem nv_take_succ {l : List Int} {k : Nat} (h : k < l.length) : nv (l.take (k + 1)) = nv (l.take k) + 4294967296 ^ k * l[k].toNat := by
  rw [List.take_succ_eq_append_getElem h, nv_append, List.length_take_of_le (by omega)]
  simp [nv]

theorem nv_split (l : List Int) (k : Nat) (h : k ≤ l.length) : nv l = nv (l.take k) + 4294967296 ^ k * nv (l.drop k) := by
  conv => lhs; rw [← List.take_append_drop k l, nv_append, List.length_take_of_le h]

theorem lim_take {l : List Int} (h : Lim l) (k : Nat) : Lim (l.take k) := fun x hx => h x (List.mem_of_mem_take hx)
theorem lim_drop {l : List Int} (h : Lim l) (k : Nat) : Lim (l.drop k) := fun x hx => h x (List.mem_of_mem_drop hx)
theorem lim_app {a b : List Int} (ha : Lim a) (hb : Lim b) : Lim (a ++ b) := fun x hx => (List.mem_append.1 hx).elim (ha x) (hb x)
theorem lim_get {l : List Int} (h : Lim l) {k : Nat} (hk : k < l.length) : 0 ≤ l[k] ∧ l[k] < 4294967296 := h _ (List.getElem_mem hk)
theorem lim_set {l : List Int} (h : Lim l) (k : Nat) {x : Int} (h0 : 0 ≤ x) (h1 : x < 4294967296) : Lim (l.set k x) := by
  intro y hy
  rcases List.mem_or_eq_of_mem_set hy with h2 | rfl
  · exact h y h2
  · exact ⟨h0, h1⟩

/-- One limb turned. -/
theorem nv_set {l : List Int} {k : Nat} (hk : k < l.length) (x : Int) : nv (l.set k x) + 4294967296 ^ k * l[k].toNat = nv l + 4294967296 ^ k * x.toNat := by
  have e1 : l = l.take k ++ l[k] :: l.drop (k + 1) := by simp
  have e2 : l.set k x = l.take k ++ x :: l.drop (k + 1) := by rw [List.set_eq_take_append_cons_drop]; simp [hk]
  rw [e2, nv_append]
  conv => rhs; rw [e1, nv_append]
  rw [List.length_take_of_le (by omega), nv_cons, nv_cons, Nat.mul_add, Nat.mul_add]
  omega

theorem nv_zeros (n : Nat) : nv (List.replicate n 0) = 0 := by
  induction n with
  | zero => rfl
  | succ n ih => rw [List.replicate_succ, nv_cons, ih]; rfl
theorem lim_zeros (n : Nat) : Lim (List.replicate n 0) := by
  intro x hx
  obtain ⟨_, rfl⟩ := List.mem_replicate.1 hx
  omega

theorem nv_take_zero {l : List Int} {k : Nat} (hk : k < l.length) (h0 : l[k] = 0) (he : nv (l.take (k + 1)) = nv l) : nv (l.take k) = nv l := by
  rw [nv_take_succ hk, h0] at he; simpa using he

end Go.Proofs.Ytoicjiiifffciaa
