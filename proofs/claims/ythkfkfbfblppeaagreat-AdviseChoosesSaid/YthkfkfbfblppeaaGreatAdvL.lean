/- Walks of the small functions under Least and Choose of advise: smaller, checkCosts, candidates; of the reference: rats. Conditions: the lists read as slices. -/
import Derived.Test.YthkfkfbfblppeaaGreatRatLs
import Derived.Test.YthkfkfbfblppeaaGreatGK
import Derived.Test.YthkfkfbfblppeaaGreatRatRb
import Derived.Test.YthkfkfbfblppeaaGreatUp
namespace Go.Proofs.YthkfkfbfblppeaaGreat
set_option linter.unusedSimpArgs false
set_option linter.unusedVariables false
open Go.RowKit Go.Shelf
attribute [local go_sem] Oper.semAt_some

/-- Is the first number less? -/
def ltR (a b : RR) : Bool := decide ((cmpR a b).1 < 0)

set_option maxHeartbeats 1000000 in
theorem smaller_any (va vb : Value) (ra rb : RR) (w : World) (ha : RdR w va ra) (hb : RdR w vb rb) (la : LimR ra) (lb : LimR rb) :
    Calls Tryz.prog 99 #[va, vb] w fun e w' => e = .returned (.bool (ltR ra rb)) ∧ Ext w w' := by
  have hcm := fun W (x : Ext w W) => cmpR_any va vb ra rb W (ha.ext x) (hb.ext x) la lb
  unfold ltR
  obtain ⟨c, hcc⟩ : ∃ c, c = cmpR ra rb := ⟨_, rfl⟩
  rw [← hcc] at hcm ⊢
  obtain ⟨c1, c2⟩ := c
  dsimp only at hcm ⊢
  obtain ⟨a1, a2, a3, a4, rfl⟩ := ha.shape
  obtain ⟨b1, b2, b3, b4, rfl⟩ := hb.shape
  have HC := Lib.hid hcm
  have X0 := Lib.hid (((Ext.refl w).alloc (.cells #[.bool ra.neg, .slice a1 ra.num.length a2, .slice a3 ra.den.length a4] 62)).alloc (.cells #[.bool rb.neg, .slice b1 rb.num.length b2, .slice b3 rb.den.length b4] 62))
  clear hcm hcc ha hb la lb
  go_enter Tryz.func99, Tryz.ntmps99
  go_wp2_with fail
  refine (HC.out _ X0.out).mono ?_
  rintro e w1 ⟨rfl, hx⟩
  have X1 := Lib.hid (X0.out.trans hx)
  clear hx
  go_wp2_with fail
  go_ret
  exact ⟨rfl, X1.out⟩

/-- The first error of a list of numbers. -/
def chkRs : List RR → Int
  | [] => 0
  | r :: l => if chkR r = 0 then chkRs l else chkR r
/-- All numbers up to k are valid. -/
def okRs (l : List RR) (k : Nat) : Prop := ∀ j, j < k → chkR (l.getD j zR) = 0
theorem chkRs_ok {l : List RR} (h : okRs l l.length) : chkRs l = 0 := by
  induction l with
  | nil => rfl
  | cons r l ih =>
    unfold chkRs
    have h0 := h 0 (by simp)
    rw [if_pos (by simpa using h0)]
    exact ih (fun j hj => by have := h (j + 1) (by simp; omega); simpa using this)
theorem chkRs_hit {l : List RR} {k : Nat} (hk : k < l.length) (h : okRs l k) (hc : chkR (l.getD k zR) ≠ 0) : chkRs l = chkR (l.getD k zR) := by
  induction l generalizing k with
  | nil => cases hk
  | cons r l ih =>
    unfold chkRs
    cases k with
    | zero => rw [if_neg (by simpa using hc)]; rfl
    | succ k =>
      have h0 := h 0 (by omega)
      rw [if_pos (by simpa using h0), ih (k := k) (by simpa using hk) (fun j hj => by have := h (j + 1) (by omega); simpa using this) (by simpa using hc)]
      rfl
theorem chkRs_0 {l : List RR} (h : chkRs l = 0) : okRs l l.length := by
  induction l with
  | nil => intro j hj; cases hj
  | cons r l ih =>
    unfold chkRs at h
    by_cases hc : chkR r = 0
    · rw [if_pos hc] at h
      intro j hj
      cases j with
      | zero => simpa using hc
      | succ j => have := ih h j (by simpa using hj); simpa using this
    · rw [if_neg hc] at h; exact absurd h hc
theorem okRs_succ {l : List RR} {k : Nat} (h : okRs l k) (hc : chkR (l.getD k zR) = 0) : okRs l (k + 1) := fun j hj => by
  by_cases e : j = k
  · subst e; exact hc
  · exact h j (by omega)
/-- All numbers of a list are made of limbs. -/
def LimRs (l : List RR) : Prop := ∀ i, i < l.length → LimR (l.getD i zR)

set_option maxHeartbeats 1000000 in
theorem checkCosts_any (v : Value) (l : List RR) (w : World) (h : RdRs w v l) (hl : LimRs l) :
    Calls Tryz.prog 96 #[v] w fun e w' => e = .returned (.int .i64 (chkRs l)) ∧ Ext w w' := by
  obtain ⟨a, cap, rfl, hc, hm, f, hr⟩ := h.get
  have HR := Lib.hid hr; have HL := Lib.hid hl
  clear h hr hl
  go_enter Tryz.func96, Tryz.ntmps96
  go_wp2_with fail
  go_loopw [8] (fun i wr => ∃ k : Nat, k ≤ l.length ∧ i = .int .i64 k ∧ okRs l k ∧ Ext w wr) (fun i _ => l.length - (intOf i).toNat)
  case atStart => exact ⟨0, Nat.zero_le _, rfl, (fun j hj => by omega), Ext.refl w⟩
  case round =>
    obtain ⟨k, hk, rfl, hok, hext⟩ := hrel
    have HK := Lib.hid hok; clear hok
    by_cases hlt : k < l.length
    · obtain ⟨b, off, rfl, hb, x0, x1, x2, hrd⟩ := HR.out k hlt
      have y0 := (hext.cell (p := ⟨b, off + k * 3, none⟩) hb).trans x0
      have y1 := (hext.cell (p := ⟨b, off + k * 3 + 1, none⟩) hb).trans x1
      have y2 := (hext.cell (p := ⟨b, off + k * 3 + 2, none⟩) hb).trans x2
      have hcp := fun W (x : Ext wr W) => checkR_any _ _ W (hrd.ext (hext.trans x)) (HL.out k hlt)
      obtain ⟨r, hrr⟩ : ∃ r, r = l.getD k zR := ⟨_, rfl⟩
      rw [← hrr] at y0 y1 y2 hcp
      obtain ⟨c, hcc⟩ : ∃ c, c = chkR r := ⟨_, rfl⟩
      rw [← hcc] at hcp
      have hce : c = chkR (l.getD k zR) := by rw [hcc, hrr]
      have X0 := Lib.hid ((Ext.refl wr).alloc (.cells #[.bool r.neg, .slice (f k).1.1 r.num.length (f k).1.2, .slice (f k).2.1 r.den.length (f k).2.2] 62))
      have HC := Lib.hid hcp; have HX := Lib.hid hext; have HE := Lib.hid hce
      have q1 : (0 : Int) ≤ (k : Int) := by omega
      have q2 : (k : Int) < (l.length : Int) := by omega
      clear hcp hext hrd x0 x1 x2 hrr hcc hce
      by_cases hz : c = 0
      · subst hz
        go_wp2_with fail
        refine (HC.out _ X0.out).mono ?_
        rintro e w1 ⟨rfl, hx⟩
        have HX1 := Lib.hid (HX.out.trans (X0.out.trans hx))
        clear hx
        go_wp2_with fail
        go_roundw
        case rel => exact ⟨k + 1, by omega, by go_num, okRs_succ HK.out HE.out.symm, HX1.out⟩
        case measure => simp [intOf]; omega
      · have hb1 : (c != 0) = true := by simpa using hz
        have HZ := Lib.hid hz; clear hz
        go_wp2_with fail
        refine (HC.out _ X0.out).mono ?_
        rintro e w1 ⟨rfl, hx⟩
        have HX1 := Lib.hid (HX.out.trans (X0.out.trans hx))
        clear hx
        go_wp2_with fail
        go_ret
        exact ⟨ret_int (by rw [chkRs_hit hlt HK.out (by rw [← HE.out]; exact HZ.out), HE.out]), HX1.out⟩
    · have hkl : k = l.length := by omega
      have HX := Lib.hid hext; clear hext
      go_wp2_with fail
      go_ret
      exact ⟨ret_int (chkRs_ok (by rw [← hkl]; exact HK.out)).symm, HX.out⟩

set_option maxHeartbeats 1000000 in
theorem refRats_any (v : Value) (l : List RR) (w : World) (h : RdRs w v l) (hl : LimRs l) :
    Calls Tryz.prog 87 #[v] w fun e w' => e = .returned (.int .i64 (chkRs l)) ∧ Ext w w' := by
  obtain ⟨a, cap, rfl, hc, hm, f, hr⟩ := h.get
  have HR := Lib.hid hr; have HL := Lib.hid hl
  clear h hr hl
  go_enter Tryz.func87, Tryz.ntmps87
  go_wp2_with fail
  go_loopw [3] (fun i wr => ∃ k : Nat, k ≤ l.length ∧ i = .int .i64 k ∧ okRs l k ∧ Ext w wr) (fun i _ => l.length - (intOf i).toNat)
  case atStart => exact ⟨0, Nat.zero_le _, rfl, (fun j hj => by omega), Ext.refl w⟩
  case round =>
    obtain ⟨k, hk, rfl, hok, hext⟩ := hrel
    have HK := Lib.hid hok; clear hok
    by_cases hlt : k < l.length
    · obtain ⟨b, off, rfl, hb, x0, x1, x2, hrd⟩ := HR.out k hlt
      have y0 := (hext.cell (p := ⟨b, off + k * 3, none⟩) hb).trans x0
      have y1 := (hext.cell (p := ⟨b, off + k * 3 + 1, none⟩) hb).trans x1
      have y2 := (hext.cell (p := ⟨b, off + k * 3 + 2, none⟩) hb).trans x2
      have hcp := fun W (x : Ext wr W) => refCheckR_any _ _ W (hrd.ext (hext.trans x)) (HL.out k hlt)
      obtain ⟨r, hrr⟩ : ∃ r, r = l.getD k zR := ⟨_, rfl⟩
      rw [← hrr] at y0 y1 y2 hcp
      obtain ⟨c, hcc⟩ : ∃ c, c = chkR r := ⟨_, rfl⟩
      rw [← hcc] at hcp
      have hce : c = chkR (l.getD k zR) := by rw [hcc, hrr]
      have HC := Lib.hid hcp; have HX := Lib.hid hext; have HE := Lib.hid hce
      have q1 : (0 : Int) ≤ (k : Int) := by omega
      have q2 : (k : Int) < (l.length : Int) := by omega
      clear hcp hext hrd x0 x1 x2 hrr hcc hce
      by_cases hz : c = 0
      · subst hz
        go_wp2_with fail
        refine (HC.out _ (Ext.refl _)).mono ?_
        rintro e w1 ⟨rfl, hx⟩
        have HX1 := Lib.hid (HX.out.trans hx)
        clear hx
        go_wp2_with fail
        go_roundw
        case rel => exact ⟨k + 1, by omega, by go_num, okRs_succ HK.out HE.out.symm, HX1.out⟩
        case measure => simp [intOf]; omega
      · have hb1 : (c != 0) = true := by simpa using hz
        have HZ := Lib.hid hz; clear hz
        go_wp2_with fail
        refine (HC.out _ (Ext.refl _)).mono ?_
        rintro e w1 ⟨rfl, hx⟩
        have HX1 := Lib.hid (HX.out.trans hx)
        clear hx
        go_wp2_with fail
        go_ret
        exact ⟨ret_int (by rw [chkRs_hit hlt HK.out (by rw [← HE.out]; exact HZ.out), HE.out]), HX1.out⟩
    · have hkl : k = l.length := by omega
      have HX := Lib.hid hext; clear hext
      go_wp2_with fail
      go_ret
      exact ⟨ret_int (chkRs_ok (by rw [← hkl]; exact HK.out)).symm, HX.out⟩

theorem candidates_any (a : Option Addr) (n c : Nat) (a2 : Option Addr) (n2 c2 : Nat) (w : World) :
    Calls Tryz.prog 98 #[.slice a n c, .slice a2 n2 c2] w fun e w' => e = .returned (.func (.func 155) #[] #[.pointer (some ⟨w.heap.size, 0, none⟩), .pointer (some ⟨w.heap.size + 1, 0, none⟩)]) ∧ w' = (w.alloc (.cells #[.slice a n c] 48)).alloc (.cells #[.slice a2 n2 c2] 193) := by
  go_enter Tryz.func98, Tryz.ntmps98
  go_wp2
  go_ret
  exact ⟨rfl, rfl⟩

/-- The numbers that all masks allow. -/
def allow (ms : Nat → Nat → Bool) (M i : Nat) : Bool := (List.range M).all fun j => ms j i
theorem allow_succ (ms : Nat → Nat → Bool) (M i : Nat) : allow ms (M + 1) i = (allow ms M i && ms M i) := by unfold allow; rw [List.range_succ, List.all_append]; simp
def pick (ms : Nat → Nat → Bool) (M n : Nat) : List Nat := (List.range n).filter (allow ms M)
theorem pick_yes {ms : Nat → Nat → Bool} {M k : Nat} (h : allow ms M k = true) : pick ms M (k + 1) = pick ms M k ++ [k] := by unfold pick; rw [List.range_succ, List.filter_append]; simp [h]
theorem pick_no {ms : Nat → Nat → Bool} {M k : Nat} (h : allow ms M k = false) : pick ms M (k + 1) = pick ms M k := by unfold pick; rw [List.range_succ, List.filter_append]; simp [h]

/-- What the masks read. -/
def RdMs (B0 : Nat) (W : World) (ma : Option Addr) (M N : Nat) (ms : Nat → Nat → Bool) : Prop :=
  ∀ j, j < M → ∃ b off aj nj cj, ma = some ⟨b, off, none⟩ ∧ b < B0 ∧ W.cell? ⟨b, off + j, none⟩ = some (.slice aj nj cj) ∧ N ≤ nj ∧ nj ≤ 9223372036854775807 ∧ ∀ i, i < N → ∃ b2 o2, aj = some ⟨b2, o2, none⟩ ∧ b2 < B0 ∧ W.cell? ⟨b2, o2 + i, none⟩ = some (.bool (ms j i))

set_option maxRecDepth 100000 in
set_option maxHeartbeats 2000000 in
theorem candidates1_seq (n : Nat) (hn : 1 ≤ n) (a : Option Addr) (costs : List RR) (c : Nat) (f : Nat → (Option Addr × Nat) × (Option Addr × Nat)) (ma : Option Addr) (M mc : Nat) (ms : Nat → Nat → Bool) (H B0 lb : Nat) (W1 : World)
    (hH : H + 1 < B0) (hB0 : B0 ≤ W1.heap.size) (hc : costs.length ≤ c) (hm : c ≤ 9223372036854775807) (hM : M ≤ mc) (hmc : mc ≤ 9223372036854775807)
    (hb0 : Blk W1 H #[.slice a costs.length c] 48) (hb1 : Blk W1 (H + 1) #[.slice ma M mc] 193)
    (hr : ∀ i, i < costs.length → ∃ b off, a = some ⟨b, off, none⟩ ∧ b < B0 ∧ W1.cell? ⟨b, off + i * 3, none⟩ = some (.bool (costs.getD i zR).neg) ∧ W1.cell? ⟨b, off + i * 3 + 1, none⟩ = some (.slice (f i).1.1 (costs.getD i zR).num.length (f i).1.2) ∧ W1.cell? ⟨b, off + i * 3 + 2, none⟩ = some (.slice (f i).2.1 (costs.getD i zR).den.length (f i).2.2))
    (hms : RdMs B0 W1 ma M costs.length ms) :
    UpSeq Fence.wide n Tryz.prog 155 #[.pointer (some ⟨H, 0, none⟩), .pointer (some ⟨H + 1, 0, none⟩)] B0 (fun i : Nat => #[.int .i64 i, .agg #[.bool (costs.getD i zR).neg, .slice (f i).1.1 (costs.getD i zR).num.length (f i).1.2, .slice (f i).2.1 (costs.getD i zR).den.length (f i).2.2]])
      (fun pre i _ => i < costs.length ∧ pre = pick ms M i ∧ allow ms M i = true) (fun xs => xs = pick ms M costs.length) lb W1 := by
  intro J Jx hJ hY h0
  have HR := Lib.hid hr; have HMS := Lib.hid hms; have HB0 := Lib.hid hb0; have HB1 := Lib.hid hb1
  clear hr hms
  refine callsIn_of_wp Tryz.func155 rfl trivial ?_ rfl
  simp only [Tryz.ntmps155, List.size_toArray, List.length_cons, List.length_nil, Nat.reduceAdd, Nat.reduceSub, Array.replicate_succ, Array.replicate_zero, List.push_toArray, List.append_toArray, List.nil_append, List.cons_append]
  have d0 := hb0.cell; have d1 := hb0.lt
  gi_wp2_with fail
  clear d0 d1 hb0 hb1
  gi_loopw [11] (fun i wr => ∃ k : Nat, k ≤ costs.length ∧ i = .int .i64 k ∧ J (pick ms M k) wr ∧ Below B0 W1 wr) (fun i _ => costs.length - (intOf i).toNat)
  case atStart => exact ⟨0, by omega, rfl, h0, Below.refl _ _⟩
  case round =>
    obtain ⟨k, hk, rfl, hj, hbel⟩ := hrel
    by_cases hlt : k < costs.length
    · obtain ⟨b, off, rfl, hb, x0, x1, x2⟩ := HR.out k hlt
      have y0 := (hbel.cell (p := ⟨b, off + k * 3, none⟩) hb).trans x0
      have y1 := (hbel.cell (p := ⟨b, off + k * 3 + 1, none⟩) hb).trans x1
      have y2 := (hbel.cell (p := ⟨b, off + k * 3 + 2, none⟩) hb).trans x2
      have q1 : (0 : Int) ≤ (k : Int) := by omega
      have q2 : (k : Int) < (costs.length : Int) := by omega
      have hYk := fun W hJW => hY (pick ms M k) k W hJW
      obtain ⟨r, hrr⟩ : ∃ r, r = costs.getD k zR := ⟨_, rfl⟩
      obtain ⟨fk, hfk⟩ : ∃ y, y = f k := ⟨_, rfl⟩
      rw [← hrr] at y0 y1 y2
      rw [← hfk] at y1 y2
      (try dsimp only at hYk)
      rw [← hrr, ← hfk] at hYk
      obtain ⟨W2, hW2⟩ : ∃ W2, W2 = wr.alloc (.cells #[.bool r.neg, .slice fk.1.1 r.num.length fk.1.2, .slice fk.2.1 r.den.length fk.2.2] 62) := ⟨_, rfl⟩
      have hxW : Ext wr W2 := by rw [hW2]; exact (Ext.refl wr).alloc _
      have hbel2 : Below B0 W1 W2 := Below.trans hbel (hxW.mono (by have := hbel.size; omega))
      have hbx : Blk W2 wr.heap.size #[.bool r.neg, .slice fk.1.1 r.num.length fk.1.2, .slice fk.2.1 r.den.length fk.2.2] 62 := by rw [hW2]; exact Blk.new _ _ _
      have hm1 : Blk W2 (H + 1) #[.slice ma M mc] 193 := HB1.out.below hbel2 hH
      have hz2 := hbel2.size
      have HJ := Lib.hid (hJ _ _ _ hj hxW); have HBL := Lib.hid hbel2; have HYK := Lib.hid hYk; have HBX := Lib.hid hbx; have HM1 := Lib.hid hm1; have HW2 := Lib.hid hW2
      clear hj hbel hbel2 hYk hbx x0 x1 x2 hrr hfk hxW
      have d1 := hm1.lt
      have d2 : W2.cell? ⟨H + 1, 0, none⟩ = some (.slice ma M mc) := by have := hm1.cell 0; simpa using this
      clear hm1
      rw [hW2] at d1 d2
      clear hW2
      gi_wp2_with fail
      rw [← HW2.out]
      clear y0 y1 y2 d1 d2
      gi_loopw [6, 18] (fun v i wq => ∃ j : Nat, j ≤ M ∧ i = .int .i64 j ∧ v = .bool (allow ms j k) ∧ wq = W2) (fun _ i _ => M - (intOf i).toNat)
      case atStart => exact ⟨0, by omega, rfl, rfl, rfl⟩
      case round =>
        obtain ⟨j, hjM, rfl, rfl, rfl⟩ := hrel
        by_cases hjl : j < M
        · obtain ⟨bm, om, aj, nj, cj, rfl, hbm, z0, hN, hnj, hcl⟩ := HMS.out j hjl
          obtain ⟨b2, o2, rfl, hb2, z1⟩ := hcl k hlt
          have e0 := (HBL.out.cell (p := ⟨bm, om + j, none⟩) hbm).trans z0
          have e1 := (HBL.out.cell (p := ⟨b2, o2 + k, none⟩) hb2).trans z1
          have has := allow_succ ms j k
          obtain ⟨acc, hacc⟩ : ∃ x, x = allow ms j k := ⟨_, rfl⟩
          obtain ⟨mj, hmj⟩ : ∃ x, x = ms j k := ⟨_, rfl⟩
          rw [← hacc, ← hmj] at has
          rw [← hacc]
          rw [← hmj] at e1
          have HAS := Lib.hid has
          clear z0 z1 hcl has hacc hmj
          have q3 : (0 : Int) ≤ (j : Int) := by omega
          have q4 : (j : Int) < (M : Int) := by omega
          have q5 : (k : Int) < (nj : Int) := by omega
          cases acc
          · gi_wp2_with fail
            go_roundw
            case rel => exact ⟨j + 1, by omega, by go_num, by rw [HAS.out]; rfl, by first | rfl | trivial⟩
            case measure => simp [intOf]; omega
          · gi_wp2_with fail
            go_roundw
            case rel => exact ⟨j + 1, by omega, by go_num, by rw [HAS.out]; rfl, by first | rfl | trivial⟩
            case measure => simp [intOf]; omega
        · obtain rfl : j = M := by omega
          obtain ⟨ok, hok⟩ : ∃ x, x = allow ms j k := ⟨_, rfl⟩
          rw [← hok]
          cases ok
          · have HP := Lib.hid (pick_no hok.symm)
            clear hok
            gi_wp2_with fail
            refine ⟨fun _ h => (by cases h), ?_⟩
            gi_wp2_with fail
            go_roundw
            case rel => exact ⟨k + 1, by omega, by go_num, by rw [HP.out]; exact HJ.out, HBL.out⟩
            case measure => simp [intOf]; omega
          · have HP := Lib.hid (pick_yes hok.symm)
            obtain ⟨fn, tmps, assign, body, hy, hR⟩ := HYK.out wr HJ.out ⟨hlt, by first | rfl | trivial, hok.symm⟩
            have d2 := HBX.out.cell; have d3 := HBX.out.lt
            have HRR := Lib.hid hR
            clear hok hR
            gi_wp2_with fail
            refine HRR.out.mono ?_
            rintro e W3 ⟨hb3, (⟨rfl, hJ3⟩ | ⟨rfl, hJ3⟩)⟩
            · have HJ3 := Lib.hid hJ3; have HB3 := Lib.hid (Below.trans HBL.out hb3)
              clear hJ3 hb3 d2 d3 hy
              gi_wp2_with fail
              go_roundw
              case rel => exact ⟨k + 1, by omega, by go_num, by rw [HP.out]; exact HJ3.out, HB3.out⟩
              case measure => simp [intOf]; omega
            · have HJ3 := Lib.hid hJ3
              clear hJ3 hb3 d2 d3 hy
              gi_wp2_with fail
              refine bodyPost_ret (v := .tuple #[]) ?_ rfl ⟨⟨_, rfl⟩, .inr ⟨_, HJ3.out⟩⟩
              first | rfl | (simp only [results, Tryz.results155]; go_simp)
    · obtain rfl : k = costs.length := by omega
      have HJ := Lib.hid hj; clear hj
      gi_wp2_with fail
      go_end0
      exact ⟨⟨_, rfl⟩, .inl ⟨_, rfl, HJ.out⟩⟩

end Go.Proofs.YthkfkfbfblppeaaGreat
