/- Part of the proof of imatL_holds: what the row needs of RowK. Conditions: as each theorem states. -/
import Derived.Test.YthkfkfbfblppeaaGreatSwInJ
import Derived.Test.YthkfkfbfblppeaaGreatSwGL
import Derived.Test.YthkfkfbfblppeaaGreatSwKit
import Derived.Test.YthkfkfbfblppeaaGreatSwAppB
import Derived.Test.YthkfkfbfblppeaaGreatSwOvU
namespace Go.Proofs.YthkfkfbfblppeaaGreat
set_option linter.unusedSimpArgs false
set_option linter.unusedVariables false
open Go.RowKit
theorem own_keeps {B C size n : Nat} {e t : TypeId} {w w' : World} {v : Value} {xs : List Value} (h : w.ownsRow B e size v n xs) (k : Keeps C t w w') (ht : e ≠ t) : w'.ownsRow B e size v n xs := by
  refine ⟨h.1, ?_⟩
  rcases h.2 with hn | ⟨g, cap, cur, rfl, hb, hg, rest⟩
  · exact .inl hn
  · exact .inr ⟨g, cap, cur, rfl, hb, Blk.keeps (show Blk w g cur e from hg) k ht, rest⟩
theorem OwI.shape {w : World} {B : Nat} {v : Value} {l : List Int} (h : OwI w B v l) : ∃ a c, v = .slice a l.length c := by
  rcases h.2 with ⟨rfl, h0⟩ | ⟨g, cap, cur, rfl, _⟩
  · exact ⟨none, 0, by rw [h0]⟩
  · exact ⟨_, _, rfl⟩
theorem OwI.rdI {w : World} {B : Nat} {v : Value} {l : List Int} (h : OwI w B v l) : RdI .i64 w v l := by
  exact own_rd (B := B) (e := 3) (by rw [List.length_map]; exact h)
def ElI (B : Nat) (w : World) (h : List Value) (l : List Int) : Prop := ∃ a c, h = [.slice a l.length c] ∧ OwI w B (.slice a l.length c) l
theorem ElI.keeps {B C : Nat} {t : TypeId} (ht : 3 ≠ t) (w w' : World) (h : List Value) (l : List Int) (e : ElI B w h l) (k : Keeps C t w w') : ElI B w' h l := by
  obtain ⟨a, c, rfl, h1⟩ := e
  exact ⟨a, c, rfl, own_keeps h1 k ht⟩
theorem ElI.ext {B : Nat} {w w' : World} {h : List Value} {l : List Int} (e : ElI B w h l) (x : Ext w w') : ElI B w' h l := by
  obtain ⟨a, c, rfl, h1⟩ := e
  exact ⟨a, c, rfl, own_ext h1 x⟩
abbrev OwG (B : Nat) (w : World) (v : Value) (g : List (List Int)) : Prop := OwRow 24 1 (ElI B) B w v g
theorem OwG.ext' {B : Nat} {w w' : World} {v : Value} {g : List (List Int)} (h : OwG B w v g) (x : Ext w w') : OwG B w' v g := OwRow.ext h x (fun _ _ e => e.ext x)
theorem OwG.rdG {B : Nat} {w : World} {v : Value} {g : List (List Int)} (h : OwG B w v g) : RdG w v g := by
  obtain ⟨a, cap, hv, hc, hm, hr⟩ := OwRow.rdN h
  refine ⟨a, cap, hv, hc, hm, fun i hi => ?_⟩
  have hl : g[i]? = some (g.getD i []) := by rw [List.getD_eq_getElem?_getD, List.getElem?_eq_getElem hi]; rfl
  obtain ⟨b, h, e1, _, e2, e3, e4, a1, c1, e5, e6⟩ := hr i _ hl
  subst e5
  refine ⟨b, 0, a1, c1, e1, e2, ?_, OwI.rdI e6⟩
  have := e4 0 (by omega)
  rw [Nat.mul_one, Nat.add_zero] at this
  rw [Nat.zero_add]; exact this
theorem Tryz.infoRow : (Tryz.prog.info? 24).map (fun i => (i.zero, i.size, i.bytes)) = some (some (.slice none 0 0), 1, 24) := by kernel_rfl
set_option maxHeartbeats 2000000 in
theorem copyRows_any (v : Value) (g : List (List Int)) (w : World) (h : RdG w v g) (hs : g.length ≤ 1000000000) (hl : ∀ i, i < g.length → (g.getD i []).length ≤ 1000000000) :
    Calls Tryz.prog 10 #[v] w fun e w' => (∃ v', e = .returned v' ∧ OwG w.heap.size w' v' g) ∧ Ext w w' := by
  have HG := Lib.hid h
  obtain ⟨a, cap, rfl, hgl⟩ := h.shape
  have HL := Lib.hid hl
  clear h hl
  go_enter Tryz.func10, Tryz.ntmps10
  go_wp2_with fail
  go_loopw [3, 4] (fun v i wr => ∃ k : Nat, k ≤ g.length ∧ i = .int .i64 k ∧ OwG w.heap.size wr v (g.take k) ∧ Ext w wr) (fun _ i _ => g.length - (intOf i).toNat)
  case atStart => exact ⟨0, Nat.zero_le _, rfl, OwRow.nil _ _ _ _ _, Ext.refl w⟩
  case round =>
    obtain ⟨k, hk, rfl, hown, hext⟩ := hrel
    by_cases hlt : k < g.length
    · obtain ⟨b, off, ai, ci, rfl, r1, r2, r3⟩ := (HG.out.ext hext).at hlt
      have hcp := copyInts_any _ _ wr r3 (HL.out k hlt)
      have hts := take_snocD g k [] hlt
      have hlk := List.length_take_of_le (Nat.le_of_lt hlt)
      obtain ⟨c, hc⟩ : ∃ c, c = g.getD k [] := ⟨_, rfl⟩
      rw [← hc] at r2 hcp hts
      have HC := Lib.hid hcp; have HO := Lib.hid hown; have HX := Lib.hid hext; have HT := Lib.hid hts; have HLK := Lib.hid hlk
      have hz := hext.size
      have q1 : (0 : Int) ≤ (k : Int) := by omega
      have q2 : (k : Int) < (g.length : Int) := by omega
      clear hcp hown hext hts r3 hlk hc
      go_wp2_with fail
      refine HC.out.mono ?_
      rintro e w1 ⟨u, rfl, hu, hx⟩
      obtain ⟨ua, uc, rfl⟩ := OwI.shape hu
      have HO1 := Lib.hid (HO.out.ext' hx); have HX1 := Lib.hid (HX.out.trans hx)
      have hz1 := HX1.out.size
      have HE := Lib.hid (show ElI w.heap.size w1 [.slice ua c.length uc] c from ⟨_, _, rfl, own_mono hu hz⟩)
      clear hu hx
      go_wp2_with (at_builtin; (refine wpList_append_row w1 rfl _ _ 22 rfl w.heap.size 24 (.slice none 0 0) 1 24 Tryz.underlying22 Tryz.infoRow rfl (by decide) (ElI.keeps (by decide)) _ _ HO1.out rfl [.slice ua c.length uc] rfl (by simp [Value.oneCell']) c HE.out rfl (by have := HLK.out; omega) (by have := HLK.out; omega) hz1 ?_))
      intro g9 cap2 w3 hown hkp
      have HO3 := Lib.hid hown; have HX3 := Lib.hid (Below.trans HX1.out (hkp.below hz1))
      clear hown hkp
      go_wp2_with fail
      go_roundw
      case rel =>
        refine ⟨k + 1, by omega, by go_num, ?_, HX3.out⟩
        rw [HT.out]; exact HO3.out
      case measure => simp [intOf]; omega
    · obtain rfl : k = g.length := by omega
      rw [List.take_length] at hown
      have q1 : ¬ (g.length : Int) < (g.length : Int) := by omega
      have HO := Lib.hid hown; have HX := Lib.hid hext
      clear hown hext
      go_wp2_with fail
      go_ret
      exact ⟨⟨_, rfl, HO.out⟩, HX.out⟩
set_option maxHeartbeats 2000000 in
/-- EqualRows of two copies of one row of rows. -/
theorem equalRowsT_any (v1 v2 : Value) (g : List (List Int)) (w : World) (h1 : RdG w v1 g) (h2 : RdG w v2 g) :
    Calls Tryz.prog 26 #[v1, v2] w fun e w' => e = .returned (.bool true) ∧ Ext w w' := by
  have H1 := Lib.hid h1; have H2 := Lib.hid h2
  obtain ⟨a1, c1, rfl, hgl⟩ := h1.shape
  obtain ⟨a2, c2, rfl, _⟩ := h2.shape
  clear h1 h2
  go_enter Tryz.func26, Tryz.ntmps26
  go_wp2
  go_loopw [5] (fun i wr => ∃ k : Nat, k ≤ g.length ∧ i = .int .i64 k ∧ Ext w wr) (fun i _ => g.length - (intOf i).toNat)
  case atStart => exact ⟨0, Nat.zero_le _, rfl, Ext.refl w⟩
  case round =>
    obtain ⟨wk, hwk⟩ : ∃ W, W = wr := ⟨_, rfl⟩
    subst hwk
    obtain ⟨k, hk, rfl, hext⟩ := hrel
    by_cases hlt : k < g.length
    · obtain ⟨b1, o1, p1, d1, rfl, r1, r2, r3⟩ := (H1.out.ext hext).at hlt
      obtain ⟨b2, o2, p2, d2, rfl, s1, s2, s3⟩ := (H2.out.ext hext).at hlt
      have heq := fun W (x : Ext wk W) => equalInts_any _ _ _ _ W (r3.ext x) (s3.ext x)
      obtain ⟨c, hc⟩ : ∃ c, c = g.getD k [] := ⟨_, rfl⟩
      rw [← hc] at r2 s2 heq
      have q1 : (0 : Int) ≤ (k : Int) := by omega
      have q2 : (k : Int) < (g.length : Int) := by omega
      have HX := Lib.hid hext
      rw [decide_eq_true rfl] at heq
      have HQ := Lib.hid heq
      clear r3 s3 hext heq hc
      go_wp2_with fail
      (refine wp_region_quietE (by kernel_rfl) (by kernel_rfl) ?_; (repeat (go_big_quiet_step ((go_at_call 24; exact quietE (HQ.out _ (Later.ext _)))))); refine wpQuiet_nil ?_; rintro w1 ⟨⟨_, hx1⟩, rfl⟩; (try dsimp only))
      have HX1 := Lib.hid (HX.out.trans hx1)
      clear hx1
      go_wp2
      go_roundw
      case rel => exact ⟨k + 1, by omega, by go_num, HX1.out⟩
      case measure => simp [intOf]; omega
    · have HX := Lib.hid hext; clear hext
      go_wp2
      go_ret
      exact ⟨rfl, HX.out⟩
theorem NewZ.own {w w' : World} {v : Value} {l : List Int} (h : NewZ w w' v l) : ∀ g, v.ownBlock = some g → w.heap.size ≤ g ∧ g < w'.heap.size := by
  obtain ⟨_, h⟩ := h
  intro g hg
  rcases h with ⟨rfl, rfl⟩ | ⟨b, h1, rfl, h2⟩
  · cases hg
  · injection hg with hg
    subst hg
    exact ⟨h1, h2.lt⟩
theorem NewZ.blk {w w1 w2 : World} {v : Value} {l : List Int} (h : NewZ w w1 v l) (k : ∀ g, v.ownBlock = some g → w2.heap[g]? = w1.heap[g]?) : NewZ w w2 v l := by
  obtain ⟨h0, h⟩ := h
  refine ⟨h0, ?_⟩
  rcases h with h | ⟨b, h1, rfl, h2⟩
  · exact .inl h
  · exact .inr ⟨b, h1, rfl, (k b rfl).trans h2⟩
set_option maxHeartbeats 1000000 in
theorem overZ_any (v : Value) (l : List Int) (w0 w : World) (h : NewZ w0 w v l) :
    Calls Tryz.prog 27 #[v] w fun e w' => e = .returned (.tuple #[]) ∧ Keeps w0.heap.size 3 w w' ∧ ∀ i, i < w.heap.size → v.ownBlock ≠ some i → w'.heap[i]? = w.heap[i]? := by
  obtain ⟨h0, ⟨rfl, rfl⟩ | ⟨g, hA, rfl, hb⟩⟩ := h
  · go_enter Tryz.func27, Tryz.ntmps27
    go_wp2_with fail
    go_loopw [2] (fun i wr => i = .int .i64 0 ∧ wr = w) (fun _ _ => 0)
    case atStart => exact ⟨rfl, rfl⟩
    case round =>
      obtain ⟨rfl, rfl⟩ := hrel
      go_wp2
      go_end0
      exact ⟨rfl, Keeps.ext (Ext.refl _), fun _ _ _ => rfl⟩
  · obtain ⟨cur, hcur⟩ : ∃ c, c = (l.map (Value.int .i64)).toArray := ⟨_, rfl⟩
    have hs : cur.size = l.length := by rw [hcur]; simp
    rw [← hcur] at hb
    have HB := Lib.hid hb; clear hb hcur
    go_enter Tryz.func27, Tryz.ntmps27
    go_wp2_with fail
    go_loopw [2] (fun i wr => ∃ (k : Nat) (ck : Array Value), k ≤ l.length ∧ i = .int .i64 k ∧ Gr (some g) w wr ∧ ck.size = cur.size ∧ Blk wr g ck 3) (fun i _ => l.length - (intOf i).toNat)
    case atStart => exact ⟨0, cur, by omega, rfl, Gr.refl _ _, rfl, HB.out⟩
    case round =>
      obtain ⟨k, ck, hk, rfl, hgr, hck, hbk⟩ := hrel
      by_cases hlt : k < l.length
      · have c1 := hbk.cell k
        rw [Array.getElem?_eq_getElem (by omega : k < ck.size)] at c1
        have f1 := hbk.free; have l1 := hbk.lt
        have q1 : (0 : Int) ≤ (k : Int) := by omega
        have q2 : (k : Int) < (l.length : Int) := by omega
        obtain ⟨y, hy⟩ : ∃ y, y = ck[k] := ⟨_, rfl⟩
        rw [← hy] at c1
        have HG := Lib.hid hgr; have HR := Lib.hid hbk; have HK := Lib.hid hck
        clear hgr hbk hck hy
        go_wp2_with fail
        go_roundw
        case rel => exact ⟨k + 1, ck.setIfInBounds k (.int .i64 77), by omega, by go_num, HG.out.set _ _, (Array.size_setIfInBounds).trans HK.out, HR.out.set k _⟩
        case measure => simp [intOf]; omega
      · have HG := Lib.hid hgr
        clear hgr hbk hck
        go_wp2
        go_end0
        refine ⟨rfl, ⟨⟨HG.out.os, HG.out.tape, HG.out.output, HG.out.size, fun i hi => by omega⟩, fun i hi ho => HG.out.block i hi (fun e => ?_)⟩, fun i hi ho => HG.out.block i hi (fun e => ho e.symm)⟩
        cases e
        rcases ho with ho | ⟨c2, u, h5, h6⟩
        · omega
        · have hg2 := HB.out
          unfold Blk at hg2 h5
          rw [hg2] at h5
          injection h5 with h5
          injection h5 with _ h7
          exact h6 h7.symm
set_option maxHeartbeats 1000000 in
theorem overWeight_any (i : Int) (b : Bool) (a1 : Option Addr) (n1 c1 : Nat) (a2 : Option Addr) (n2 c2 A : Nat) (w : World) (h1 : WrU w A (.slice a1 n1 c1) n1) (h2 : WrU w A (.slice a2 n2 c2) n2) (hs : n1 ≤ 1000000 ∧ n2 ≤ 1000000) :
    Calls Tryz.prog 76 #[.agg #[.int .i64 i, .bool b, .slice a1 n1 c1, .slice a2 n2 c2]] w fun e w' => e = .returned (.tuple #[]) ∧ GrU A w w' := by
  have x0 : Ext w (w.alloc (.cells #[.int .i64 i, .bool b, .slice a1 n1 c1, .slice a2 n2 c2] 107)) := (Ext.refl w).alloc _
  have ho := overRatU_any b _ _ n1 n2 A _ (h1.ext x0) (h2.ext x0) hs
  have X0 := Lib.hid x0; have HO := Lib.hid ho
  clear h1 h2 x0 ho
  go_enter Tryz.func76, Tryz.ntmps76
  go_wp2_with fail
  refine HO.out.mono ?_
  rintro e w1 ⟨rfl, hg⟩
  have G := Lib.hid ((GrU.of_ext (A := A) X0.out).trans hg)
  clear hg
  go_wp2_with fail
  go_end0
  exact ⟨rfl, G.out⟩
set_option maxHeartbeats 2000000 in
theorem overWeights_any (v : Value) (l : List (Nat × RR)) (B : Nat) (w : World) (h : OwS 107 B w v l) (hs : ∀ (i : Nat) (y : Nat × RR), l[i]? = some y → y.2.num.length ≤ 1000000 ∧ y.2.den.length ≤ 1000000) :
    Calls Tryz.prog 28 #[v] w fun e w' => e = .returned (.tuple #[]) ∧ GrU B w w' := by
  have H := Lib.hid h; have HS := Lib.hid hs
  obtain ⟨a, c, rfl⟩ := h.shape
  have hlb := h.bound
  clear h hs
  go_enter Tryz.func28, Tryz.ntmps28
  go_wp2_with fail
  go_loopw [2] (fun i wr => ∃ k : Nat, k ≤ l.length ∧ i = .int .i64 k ∧ GrU B w wr ∧ OwRow 107 4 (fun W h y => ∃ a1 c1 a2 c2, h = [.int .i64 (y.1 : Nat), .bool y.2.neg, .slice a1 y.2.num.length c1, .slice a2 y.2.den.length c2] ∧ WrU W B (.slice a1 y.2.num.length c1) y.2.num.length ∧ WrU W B (.slice a2 y.2.den.length c2) y.2.den.length) B wr (.slice a l.length c) l) (fun i _ => l.length - (intOf i).toNat)
  case atStart =>
    refine ⟨0, Nat.zero_le _, rfl, GrU.of_ext (Ext.refl _), ?_⟩
    obtain ⟨hs, h1, h2, h3, h4⟩ := H.out
    exact ⟨hs, h1, h2, h3, fun i x hi => by obtain ⟨h, e1, a1, c1, a2, c2, e2, s1, s2⟩ := h4 i x hi; exact ⟨h, e1, a1, c1, a2, c2, e2, s1.wr, s2.wr⟩⟩
  case round =>
    obtain ⟨wk, hwk⟩ : ∃ W, W = wr := ⟨_, rfl⟩
    subst hwk
    obtain ⟨k, hk, rfl, hgr, hrow⟩ := hrel
    have HG := Lib.hid hgr; have HR := Lib.hid hrow
    by_cases hlt : k < l.length
    · obtain ⟨y, hy⟩ : ∃ y, l[k]? = some y := ⟨_, List.getElem?_eq_getElem hlt⟩
      obtain ⟨a', cap, e1, _, _, hr⟩ := OwRow.rdN hrow
      injection e1 with e1 e2 e3
      subst e1
      clear e2 e3
      obtain ⟨b, q, rfl, -, hb, -, hc, a1, c1, a2, c2, rfl, s1, s2⟩ := hr k y hy
      have z0 := hc 0 (by decide); have z1 := hc 1 (by decide); have z2 := hc 2 (by decide); have z3 := hc 3 (by decide)
      have how := overWeight_any (y.1 : Nat) y.2.neg a1 _ c1 a2 _ c2 B wk s1 s2 (HS.out k y hy)
      have HOW := Lib.hid how
      simp only [List.getElem?_cons_zero, List.getElem?_cons_succ, Nat.add_zero] at z0 z1 z2 z3
      have q1 : (0 : Int) ≤ (k : Int) := by omega
      have q2 : (k : Int) < (l.length : Int) := by omega
      clear hr hc how s1 s2 hgr hrow hy
      go_wp2_with fail
      refine HOW.out.mono ?_
      rintro e w1 ⟨rfl, hg⟩
      have G1 := Lib.hid hg
      clear hg
      go_wp2_with fail
      go_roundw
      case rel =>
        refine ⟨k + 1, by omega, by go_num, HG.out.trans G1.out, ?_⟩
        obtain ⟨hs, h1, h2, h3, h4⟩ := HR.out
        exact ⟨hs, own_keeps h1 G1.out.keeps (by decide), h2, h3, fun i x hi => by obtain ⟨h, e1, a1, c1, a2, c2, e2, s1, s2⟩ := h4 i x hi; exact ⟨h, e1, a1, c1, a2, c2, e2, s1.gr G1.out, s2.gr G1.out⟩⟩
      case measure => simp [intOf]; omega
    · clear hgr hrow
      go_wp2
      go_end0
      exact ⟨rfl, HG.out⟩
end Go.Proofs.YthkfkfbfblppeaaGreat
