-- written by wip/myprint.py over the kit's print; not a printed text of print.sh
import Derived.Test.YtcbaojkfffodiaaPJoux0
import Derived.Test.YtcbaojkfffodiaaPJoux4
import Derived.Test.YtcbaojkfffodiaaPJoux5
import Derived.Test.YtcbaojkfffodiaaPJoux7
import Derived.Test.YtcbaojkfffodiaaPJoux8
import Derived.Test.YtcbaojkfffodiaaPJoux9
import Derived.Test.YtcbaojkfffodiaaPJoux10
import Derived.Test.YtcbaojkfffodiaaPJoux11
namespace Go.Proofs.Ytcbaojkfffodiaa.PJou
open Go.RowKit Go.Proofs.YtcbaojkfffodiaaW.PrintWords Go.Proofs.YtcbaojkfffodiaaW.PrintLast Go.Proofs.YtcbaojkfffodiaaW.PrintMore
attribute [local go_sem] max2_int min2_int max_two min_two max_three min_three max_four min_four   -- for this text's walks alone
set_option linter.unusedVariables false
set_option linter.unusedSimpArgs false

/-! ### journal_Journal_Rollback: function 16 -/
/-! ### a range over slices.Backward: the iterator's contract for undos -/
section
attribute [local go_sem] Oper.semAt_some
def aggU (x : S65) : Value := .agg #[.string x.f0, .string x.f1, .bool x.f2]
/-- These blocks stay. -/
def StayB (S : Nat → Prop) (W W' : World) : Prop := W.heap.size ≤ W'.heap.size ∧ ∀ k, S k → W'.heap[k]? = W.heap[k]?
theorem StayB.refl (S : Nat → Prop) (W : World) : StayB S W W := ⟨Nat.le_refl _, fun _ _ => rfl⟩
theorem StayB.t {S : Nat → Prop} {A B C : World} (h : StayB S A B) (k : StayB S B C) : StayB S A C := ⟨Nat.le_trans h.1 k.1, fun i hi => (k.2 i hi).trans (h.2 i hi)⟩
theorem StayB.cell {S : Nat → Prop} {W W' : World} (h : StayB S W W') {p : Addr} (hp : S p.block) : W'.cell? p = W.cell? p := World.cell?_of_block (a := p) (h.2 p.block hp)
theorem StayB.below {S : Nat → Prop} {W W' : World} (h : Below W.heap.size W W') (hS : ∀ k, S k → k < W.heap.size) : StayB S W W' := ⟨h.size, fun k hk => h.block k (hS k hk)⟩
theorem rowU_get (l : List S65) (k : Nat) (hk : k < l.length) : l.zipIdx.reverse[k]? = some (l[l.length - 1 - k], l.length - 1 - k) := by
  rw [List.getElem?_reverse (by rw [List.length_zipIdx]; exact hk), List.length_zipIdx, List.getElem?_eq_getElem (by rw [List.length_zipIdx]; omega), List.getElem_zipIdx]
  simp
set_option maxRecDepth 100000 in
set_option maxHeartbeats 2000000 in
theorem backU1_in (F : Fence) (n : Nat) (h7 : F.fn 41) (hro : F.round = none) (hn : 1 ≤ n) (lp Bs b c : Nat) (l : List S65) (hz : l.length ≤ 1000000000) (S : Nat → Prop) (hSb : S b) (hSB : S Bs) (J Jx : List (S65 × Nat) → World → Prop) (W : World)
    (hY : ∀ pre x W, J pre W → pre.length < l.length → YieldAt F (n - 1) Try.prog lp #[.int .i64 (x.2 : Int), aggU x.1] W fun e W' =>
      (e = .returned (.bool true) ∧ J (pre ++ [x]) W' ∧ StayB S W W') ∨ (e = .returned (.bool false) ∧ Jx (pre ++ [x]) W'))
    (hBs : W.cell? ⟨Bs, 0, none⟩ = some (.slice (some ⟨b, 0, none⟩) l.length c)) (hc : ∀ j (hj : j < l.length), W.cell? ⟨b, j * 3, none⟩ = some (.string l[j].f0) ∧ W.cell? ⟨b, j * 3 + 1, none⟩ = some (.string l[j].f1) ∧ W.cell? ⟨b, j * 3 + 2, none⟩ = some (.bool l[j].f2)) (h0 : J [] W) :
    CallsIn F n Try.prog 41 #[.func (.yield lp) #[] #[], .pointer (some ⟨Bs, 0, none⟩)] W fun e W' => (∃ v, e = .returned v) ∧
      ((∃ ys, ys = l.zipIdx.reverse ∧ J ys W') ∨ (∃ pre, pre <+: l.zipIdx.reverse ∧ Jx pre W')) := by
  have hwl : IntKind.i64.wrap ((l.length : Int) - 1) = (l.length : Int) - 1 := by rw [i64_w]; unfold wrap64; omega
  refine callsIn_of_wp Try.func41 rfl h7 ?_ hro
  simp only [Try.ntmps41, List.size_toArray, List.length_cons, List.length_nil, Nat.reduceAdd, Nat.reduceSub, Array.replicate_succ, Array.replicate_zero, List.push_toArray, List.append_toArray, List.nil_append, List.cons_append]
  gi_wp2
  gi_loopw [3] (fun i wr => ∃ k : Nat, k ≤ l.length ∧ i = .int .i64 ((l.length : Int) - 1 - (k : Int)) ∧ J (l.zipIdx.reverse.take k) wr ∧ StayB S W wr)
    (fun i _ => (intOf i + 1).toNat)
  case atStart => exact ⟨0, Nat.zero_le _, by simp, h0, StayB.refl _ _⟩
  case round =>
    obtain ⟨k, hk, rfl, hJs, hnx⟩ := hrel
    by_cases hlt : k < l.length
    · obtain ⟨m, hm⟩ : ∃ m, l.length - 1 - k = m := ⟨_, rfl⟩
      have em : (l.length : Int) - 1 - (k : Int) = (m : Int) := by omega
      have hml : m < l.length := by omega
      rw [em]
      have hcx := hc m hml
      have c0 := (hnx.cell (p := ⟨b, m * 3, none⟩) hSb).trans hcx.1
      have c1 := (hnx.cell (p := ⟨b, m * 3 + 1, none⟩) hSb).trans hcx.2.1
      have c2 := (hnx.cell (p := ⟨b, m * 3 + 2, none⟩) hSb).trans hcx.2.2
      have cB := (hnx.cell (p := ⟨Bs, 0, none⟩) hSB).trans hBs
      have hwm : IntKind.i64.wrap ((m : Int) - 1) = (m : Int) - 1 := by rw [i64_w]; unfold wrap64; omega
      have hx1 : (m : Int) < (l.length : Int) := by omega
      have hx2 : m < l.length := hml
      obtain ⟨fn, tmps, assign, body, hy, hR⟩ := hY _ (l[m], m) _ hJs (by rw [List.length_take, List.length_reverse, List.length_zipIdx]; omega)
      have ek : l.zipIdx.reverse.take k ++ [(l[m], m)] = l.zipIdx.reverse.take (k + 1) := by
        rw [List.take_add_one, rowU_get l k hlt]
        subst hm; rfl
      rw [ek] at hR
      unfold aggU at hy
      gi_wp2
      refine hR.mono ?_
      rintro e W3 (⟨rfl, hJ3, hk3⟩ | ⟨rfl, hJx3⟩)
      · gi_wp2
        go_roundw
        case rel => exact ⟨k + 1, by omega, by first | rfl | (congr 1; omega) | (simp; omega), hJ3, hnx.t hk3⟩
        case measure => first | (simp [intOf]; done) | (simp [intOf]; omega)
      · gi_wp2
        refine bodyPost_ret (results_none rfl _ _ _) rfl ?_
        exact ⟨⟨_, rfl⟩, .inr ⟨_, List.take_prefix _ _, hJx3⟩⟩
    · obtain rfl : k = l.length := by omega
      have em : (l.length : Int) - 1 - (l.length : Int) = -1 := by omega
      rw [em]
      gi_wp2
      go_end0
      refine ⟨⟨_, rfl⟩, .inl ⟨_, ?_, hJs⟩⟩
      rw [List.take_of_length_le]
      rw [List.length_reverse, List.length_zipIdx]; exact Nat.le_refl _
set_option maxRecDepth 100000 in
set_option maxHeartbeats 1000000 in
theorem backU1_nil_in (F : Fence) (n : Nat) (h7 : F.fn 41) (hro : F.round = none) (lp Bs : Nat) (J : List (S65 × Nat) → World → Prop) (W : World) (c : Nat) (hBs : W.cell? ⟨Bs, 0, none⟩ = some (.slice none 0 c)) (h0 : J [] W) :
    CallsIn F n Try.prog 41 #[.func (.yield lp) #[] #[], .pointer (some ⟨Bs, 0, none⟩)] W fun e W' => (∃ v, e = .returned v) ∧ J [] W' := by
  refine callsIn_of_wp Try.func41 rfl h7 ?_ hro
  simp only [Try.ntmps41, List.size_toArray, List.length_cons, List.length_nil, Nat.reduceAdd, Nat.reduceSub, Array.replicate_succ, Array.replicate_zero, List.push_toArray, List.append_toArray, List.nil_append, List.cons_append]
  gi_wp2
  gi_loopw [3] (fun i wr => i = .int .i64 (-1) ∧ J [] wr) (fun _ _ => 0)
  case atStart => exact ⟨rfl, h0⟩
  case round =>
    obtain ⟨rfl, hJs⟩ := hrel
    gi_wp2
    go_end0
    exact ⟨⟨_, rfl⟩, hJs⟩
set_option maxHeartbeats 1000000 in
theorem backU_in (F : Fence) (n : Nat) (h5 : F.fn 32) (hro : F.round = none) (a : Option Addr) (len cap : Nat) (w : World) :
    CallsIn F n Try.prog 32 #[.slice a len cap] w fun e w' => e = .returned (.func (.func 41) #[] #[.pointer (some ⟨w.heap.size, 0, none⟩)]) ∧ w' = w.alloc (.cells #[.slice a len cap] 62) := by
  refine callsIn_of_wp Try.func32 rfl h5 ?_ hro
  simp only [Try.ntmps32, List.size_toArray, List.length_cons, List.length_nil, Nat.reduceAdd, Nat.reduceSub, Array.replicate_succ, Array.replicate_zero, List.push_toArray, List.append_toArray, List.nil_append, List.cons_append]
  gi_wp2
  go_ret
  exact ⟨rfl, rfl⟩
theorem encU_get : ∀ (l : List S65) (j : Nat) (hj : j < l.length), (encU l)[j * 3]? = some (.string l[j].f0) ∧ (encU l)[j * 3 + 1]? = some (.string l[j].f1) ∧ (encU l)[j * 3 + 2]? = some (.bool l[j].f2)
  | [], j, hj => absurd hj (Nat.not_lt_zero _)
  | a :: t, 0, _ => ⟨rfl, rfl, rfl⟩
  | a :: t, j + 1, hj => by
    have ih := encU_get t j (by simpa using hj)
    have e : encU (a :: t) = .string a.f0 :: .string a.f1 :: .bool a.f2 :: encU t := rfl
    rw [e, show (j + 1) * 3 = j * 3 + 3 by omega]
    exact ih
theorem backU_stops (F : Fence) (n : Nat) (h7 : F.fn 41) (hro : F.round = none) (hn : 1 ≤ n) (Bs base : Nat) (A : Option Addr) (c : Nat) (l : List S65) (hz : l.length ≤ 1000000000) (w : World) (S : Nat → Prop) (hSB : S Bs) (hSb : ∀ k, (Value.slice A l.length c).ownBlock = some k → S k) (hS : ∀ k, S k → k < w.heap.size)
    (hc : w.cell? ⟨Bs, 0, none⟩ = some (.slice A l.length c)) (hI : w.ownsRow base 65 3 (.slice A l.length c) l.length (encU l)) :
    SeqStopsK F n Try.prog 41 #[.pointer (some ⟨Bs, 0, none⟩)] (fun x : S65 × Nat => #[.int .i64 (x.2 : Int), aggU x.1]) (StayB S) (fun ys => ys = l.zipIdx.reverse) (fun pre => pre <+: l.zipIdx.reverse) l.length w := fun lp J Jx W hW _ _ hY h0 => by
  have hst := StayB.below hW hS
  have hc' := (hst.cell (p := ⟨Bs, 0, none⟩) hSB).trans hc
  rcases hI.2 with ⟨e, hx⟩ | ⟨b, cap, cur, e, _, _⟩
  · injection e with e1 e2 e3
    subst e1
    rw [hx] at hc'
    obtain rfl := List.length_eq_zero_iff.1 hx
    exact (backU1_nil_in F n h7 hro lp Bs J W c hc' h0).mono fun e W' ⟨he, hj⟩ => ⟨he, .inl ⟨_, rfl, hj⟩⟩
  · injection e with e1 e2 e3
    subst e1
    refine backU1_in F n h7 hro hn lp Bs b c l hz S (hSb b rfl) hSB J Jx W hY hc' (fun j hj => ?_) h0
    obtain ⟨g0, g1, g2⟩ := encU_get l j hj
    have hcell : ∀ i u, (encU l)[i]? = some u → W.cell? ⟨b, i, none⟩ = some u := by
      intro i u hu
      have := hI.cells (g := b) rfl i u hu
      rw [add_plain] at this
      exact (hst.cell (p := ⟨b, i, none⟩) (hSb b rfl)).trans this
    exact ⟨hcell _ _ g0, hcell _ _ g1, hcell _ _ g2⟩
set_option maxRecDepth 100000 in
set_option maxHeartbeats 1000000 in
theorem j_roll0 (base g : Nat) (ok : Nat → Prop) (st : JSt) (w : World) (h : JM base ok g st w) (h0 : st.lv.length = 0) :
    Calls Try.prog 16 #[.pointer (some ⟨g, 0, none⟩)] w fun e w' => e = .returned (.int .i64 10) ∧ Below w.heap.size w w' := by
  have hb1 : Below w.heap.size w (w.alloc (.cells #[.pointer (some ⟨g, 0, none⟩)] 25)) := (Below.refl _ w).alloc (Nat.le_refl _) _
  have p1 := Boxed.new w 25 (.pointer (some ⟨g, 0, none⟩))
  have x1 := p1.cell
  refine (callsIn_wide (n := 8)).1 ?_
  refine callsIn_of_wp_marks Try.func16 rfl trivial ?_ rfl
  simp only [Try.ntmps16, List.size_toArray, List.length_cons, List.length_nil, Nat.reduceAdd, Nat.reduceSub, Array.replicate_succ, Array.replicate_zero, List.push_toArray, List.append_toArray, List.nil_append, List.cons_append]
  refine wpIn_wide.2 ?_
  go_wp2_with fail
  refine (j_last0 base g ok st _ (h.below hb1) h0).mono ?_
  rintro e w' ⟨rfl, rfl⟩
  clear h p1 x1
  go_wp2
  try rw [Exit.noGoto_ret]
  refine ⟨_, results_tmp rfl _ _ _, ?_⟩
  exact ⟨rfl, hb1⟩
set_option maxRecDepth 100000 in
set_option maxHeartbeats 4000000 in
theorem j_rollback (base g : Nat) (ok : Nat → Prop) (st : JSt) (w : World) (h : JM base ok g st w) (h0 : 0 < st.lv.length) (hn : st.lv.length ≤ 1000000) (hl : st.cur.length + (lvAt st.lv (st.lv.length - 1)).length ≤ 1000000000) (hb : base ≤ w.heap.size) :
    Calls Try.prog 16 #[.pointer (some ⟨g, 0, none⟩)] w (JPost base ok g (rolJ st) (.int .i64 0) w) := by
  obtain ⟨gs, sv, lvv, vs, h⟩ := h
  obtain ⟨i, hi⟩ : ∃ n, st.lv.length = n + 1 := ⟨st.lv.length - 1, by omega⟩
  have hrol : rolJ st = ⟨undoL (lvAt st.lv i) st.cur, st.lv.take i⟩ := by unfold rolJ; rw [hi]; rfl
  rw [hrol]
  rw [hi, Nat.add_sub_cancel] at hl
  obtain ⟨l, hll⟩ : ∃ l, lvAt st.lv i = l := ⟨_, rfl⟩
  have h1' : 1 ≤ 8 := by decide
  have hb1 : Below w.heap.size w (w.alloc (.cells #[.pointer (some ⟨g, 0, none⟩)] 25)) := (Below.refl _ w).alloc (Nat.le_refl _) _
  have p1 := Boxed.new w 25 (.pointer (some ⟨g, 0, none⟩))
  have x1 := p1.cell
  have hbd := h.bound
  obtain ⟨ok0, hok0⟩ : ∃ ok0 : Nat → Prop, ok0 = fun k => ok k ∧ base ≤ k ∧ k < w.heap.size ∧ ∃ q, q ∈ JT ∧ ∃ cells, w.heap[k]? = some (.cells cells q (0, 0)) := ⟨_, rfl⟩
  rw [← hok0] at hbd
  have f3 : ∀ k, ok0 k → ok k ∧ k < w.heap.size := fun k hk => by rw [hok0] at hk; exact ⟨hk.1, hk.2.2.1⟩
  clear hok0
  have hlast := j_last base g gs i ok0 sv lvv vs st _ (hbd.step hb1) hi hn
  have hdis := h.lv.dis
  rw [hll] at hlast hl ⊢
  refine (callsIn_wide (n := 8)).1 ?_
  refine callsIn_of_wp_marks Try.func16 rfl trivial ?_ rfl
  simp only [Try.ntmps16, List.size_toArray, List.length_cons, List.length_nil, Nat.reduceAdd, Nat.reduceSub, Array.replicate_succ, Array.replicate_zero, List.push_toArray, List.append_toArray, List.nil_append, List.cons_append]
  refine wpIn_wide.2 ?_
  go_wp2_with fail
  refine hlast.mono ?_
  rintro e w2 ⟨v, lvv2, rfl, ev, h2, o2, W2⟩
  clear hlast
  obtain ⟨Av, cv, rfl, _, _⟩ := row_slice o2
  have hsz1 : w.heap.size < w2.heap.size := Nat.lt_of_lt_of_le (by rw [my_alloc_size]; omega) W2.size
  have W02 := (JW.of_below hb1 : JW ok0 w _).trans W2 (fun k hk => .inl hk)
  have p2 : Boxed w2 w.heap.size 25 (.pointer (some ⟨g, 0, none⟩)) := (W2.block w.heap.size (by rw [my_alloc_size]; omega) (fun e => by have := (f3 _ e).2; omega)).trans p1
  clear x1 p1 W2
  go_wp2_with fail
  refine (callsIn_wide.1 (backU_in Fence.wide 8 trivial rfl _ _ _ _)).mono ?_
  rintro e w4 ⟨rfl, rfl⟩
  have bB := Boxed.new w2 62 (.slice Av l.length cv)
  have hb5 : Below w2.heap.size w2 (w2.alloc (.cells #[.slice Av l.length cv] 62)) := (Below.refl _ w2).alloc (Nat.le_refl _) _
  have p5 := p2.alloc (.cells #[.slice Av l.length cv] 62)
  have hJ5 : JM base (fun k => (ok0 k ∧ some k ≠ (Value.slice Av l.length cv).ownBlock) ∨ w2.heap.size + 1 ≤ k) g ⟨st.cur, st.lv.take i⟩ (w2.alloc (.cells #[.slice Av l.length cv] 62)) := by
    refine ⟨_, _, _, _, ((h2.without (fun k e => own_typed o2 k e) (fun j a k e1 e2 e3 => ?_)).step hb5).mono (fun k hk => .inl hk)⟩
    have hj : j < i := by
      have := (List.getElem?_eq_some_iff.1 e1).1
      rw [List.length_take] at this; omega
    rw [List.getElem?_take, if_pos hj] at e1
    exact hdis j i a _ k (by omega) e1 ev e3 e2
  have W5 := W02.trans (JW.of_below hb5 : JW ok0 w2 _) (fun k hk => .inl hk)
  have o5 := own_alloc o2 (.cells #[.slice Av l.length cv] 62)
  have hsz5 : (w2.alloc (.cells #[.slice Av l.length cv] 62)).heap.size = w2.heap.size + 1 := my_alloc_size _ _
  obtain ⟨w5, hw5⟩ : ∃ w5, w2.alloc (.cells #[.slice Av l.length cv] 62) = w5 := ⟨_, rfl⟩
  rw [hw5] at bB p5 hJ5 W5 o5 hsz5 ⊢
  clear hb5 W02 p2 h2 ev h hdis hbd
  have hob := own_lt o2
  obtain ⟨okI, hokI⟩ : ∃ okI : Nat → Prop, okI = fun k => (ok0 k ∧ some k ≠ (Value.slice Av l.length cv).ownBlock) ∨ w2.heap.size + 1 ≤ k := ⟨_, rfl⟩
  rw [← hokI] at hJ5
  have f1 : ∀ k, okI k → (ok0 k ∧ some k ≠ (Value.slice Av l.length cv).ownBlock) ∨ w2.heap.size + 1 ≤ k := fun k hk => by rw [hokI] at hk; exact hk
  have f2 : ∀ k, w2.heap.size + 1 ≤ k → okI k := fun k hk => by rw [hokI]; exact .inr hk
  clear hokI hw5
  obtain ⟨S, hS⟩ : ∃ S : Nat → Prop, S = fun k => k = w2.heap.size ∨ (Value.slice Av l.length cv).ownBlock = some k := ⟨_, rfl⟩
  have s1 : S w2.heap.size := by rw [hS]; exact .inl rfl
  have s2 : ∀ k, (Value.slice Av l.length cv).ownBlock = some k → S k := fun k hk => by rw [hS]; exact .inr hk
  have s3 : ∀ k, S k → k < w2.heap.size + 1 ∧ ¬ okI k := fun k hk => by
    rw [hS] at hk
    rcases hk with rfl | hk
    · exact ⟨Nat.lt_succ_self _, fun h => (f1 _ h).elim (fun h => by have := (f3 _ h.1).2; omega) (fun h => by omega)⟩
    · have hlt := hob k hk
      exact ⟨by omega, fun h => (f1 _ h).elim (fun h => h.2 hk.symm) (fun h => by omega)⟩
  clear hS
  go_wp2
  refine (wpIn_wide (n := 8)).1 ?_
  refine wpIn_rangeFunc_ownH rfl h1' (gf := 41) (lb := #[.pointer (some ⟨w2.heap.size, 0, none⟩)]) rfl trivial (enters_of Try.func41 (by kernel_rfl) rfl)
    (backU_stops Fence.wide (8 - 1) trivial rfl (by decide) w2.heap.size base Av cv l (by omega) w5 S s1 s2 (fun k hk => by have := (s3 k hk).1; omega) bB.cell o5) StayB.t
    (fun W lo o o' hlo hoo _ _ => ⟨by simp [World.putObj], fun k hk => by have h9 := (s3 k hk).1; have h8 := (Array.getElem?_eq_some_iff.1 hoo).1; exact (grownBy_putObj' W lo o').block k (by omega) (fun e => by injection e with e; omega)⟩) (Below.refl _ _) (fun _ => rfl)
    (fun pre W => ((JM base okI g ⟨undoF pre st.cur, st.lv.take i⟩ W ∧ Boxed W w.heap.size 25 (.pointer (some ⟨g, 0, none⟩))) ∧ JW ok0 w W) ∧ w2.heap.size + 1 ≤ W.heap.size)
    (fun _ _ _ => False)
    (OwnFrom.and (OwnFrom.and (OwnFrom.and (jm_own _ _ _ _ (fun pre => ⟨undoF pre st.cur, st.lv.take i⟩)) (Own.from (boxed_own _ _ _) _)) (jw_own _ _ _ (by omega))) (fun _ X Y row hs hg _ => Nat.le_trans hs hg.size))
    (fun c s X Y row hs _ _ => hs)
    ⟨⟨⟨hJ5, p5⟩, W5⟩, by omega⟩
    (fun x a' W => ∃ Bx, w2.heap.size < Bx ∧ W.heap[Bx]? = some (.cells #[.string x.1.f0, .string x.1.f1, .bool x.1.f2] 65 (0, 0)) ∧ a' = { tmps := #[.pointer (some ⟨g, 0, none⟩), .pointer (some ⟨w.heap.size, 0, none⟩), .int .i64 0, .slice Av l.length cv, .int .i64 0, undef, .pointer (some ⟨Bx, 0, none⟩), undef, .tuple #[.slice Av l.length cv, .int .i64 0], .pointer (some ⟨g, 0, none⟩), .tuple #[.slice Av l.length cv, .int .i64 0], .slice Av l.length cv, .int .i64 0, .int .i64 0, .bool false, undef, .slice Av l.length cv, .func (.func 41) #[] #[.pointer (some ⟨w2.heap.size, 0, none⟩)], .int .i64 (x.2 : Int), aggU x.1, undef, undef, undef, undef, undef, undef, undef, undef, undef, undef, undef, undef], defers := [] })
    (fun x a' _ X Y row hs hg hr => by
      obtain ⟨Bx, h1, h2, h3⟩ := hs
      refine ⟨Bx, h1, (hg.block Bx (blk_lt h2) (fun e' => ?_)).trans h2, h3⟩
      obtain ⟨_, o, ho, hc⟩ := hr Bx e'.symm
      rw [h2] at ho; cases ho; cases hc)
    ?assign ?body ?done ?stop
  case assign =>
    rintro lp pre x W K ⟨⟨⟨hj, b6⟩, hw⟩, hsz⟩ hK
    unfold aggU
    have nx := my_alloc_new W (.cells #[.string x.1.f0, .string x.1.f1, .bool x.1.f2] 65)
    gi_wp2
    have hbn : Below W.heap.size W (W.alloc (.cells #[.string x.1.f0, .string x.1.f1, .bool x.1.f2] 65)) := (Below.refl _ W).alloc (Nat.le_refl _) _
    exact hK _ _ ((KeepsOthers.alloc _ _).from _) (StayB.below hbn (fun k hk => by have := (s3 k hk).1; omega)) ⟨⟨⟨hj.below hbn, b6.alloc _⟩, hw.trans (JW.of_below hbn : JW ok0 W _) (fun k hk => .inl hk)⟩, Nat.le_trans hsz hbn.size⟩ ⟨W.heap.size, by omega, nx, rfl⟩
  case body =>
    rintro lp pre x a' W hlp _ ⟨⟨⟨hj, b6⟩, hw⟩, hsz⟩ ⟨Bx, hBx, bX, rfl⟩ hlt
    have c1 := b6.cell
    have cx0 : W.cell? ⟨Bx, 0, none⟩ = some (.string x.1.f0) := (blk_cell bX 0).trans rfl
    have cx1 : W.cell? ⟨Bx, 1, none⟩ = some (.string x.1.f1) := (blk_cell bX 1).trans rfl
    have cx2 : W.cell? ⟨Bx, 2, none⟩ = some (.bool x.1.f2) := (blk_cell bX 2).trans rfl
    have hln : (undoF pre st.cur).length ≤ 1000000000 := by have := undoF_len pre st.cur; omega
    have hbW : base ≤ W.heap.size := by omega
    have hjb := hj.bound
    obtain ⟨okB, hokB⟩ : ∃ okB : Nat → Prop, okB = fun k => okI k ∧ base ≤ k ∧ k < W.heap.size ∧ ∃ q, q ∈ JT ∧ ∃ cells, W.heap[k]? = some (.cells cells q (0, 0)) := ⟨_, rfl⟩
    rw [← hokB] at hjb
    have hoB : ∀ k, okB k → okI k := fun k hk => by rw [hokB] at hk; exact hk.1
    have hoC : ∀ k, okB k → ∃ cells q, W.heap[k]? = some (.cells cells q (0, 0)) := fun k hk => by rw [hokB] at hk; obtain ⟨_, _, _, q, _, cells, hc⟩ := hk; exact ⟨cells, q, hc⟩
    clear hokB
    have key : ∀ (st' : JSt) (W' : World), JM base (fun k => okB k ∨ W.heap.size ≤ k) g st' W' → JW okB W W' → undoF (pre ++ [x]) st.cur = st'.cur → st'.lv = st.lv.take i → KeepsFrom w5.heap.size W W' ∧ StayB S W W' ∧ (((JM base okI g ⟨undoF (pre ++ [x]) st.cur, st.lv.take i⟩ W' ∧ Boxed W' w.heap.size 25 (.pointer (some ⟨g, 0, none⟩))) ∧ JW ok0 w W') ∧ w2.heap.size + 1 ≤ W'.heap.size) := by
      intro st' W' hm hw2 e1 e2
      refine ⟨(hw2.others (fun k hk _ => hoC k hk)).from _, ⟨hw2.size, fun k hk => hw2.block k (by have := (s3 k hk).1; omega) (fun h => (s3 k hk).2 (hoB k h))⟩, ⟨⟨⟨?_, ?_⟩, ?_⟩, Nat.le_trans hsz hw2.size⟩⟩
      · have e : (⟨undoF (pre ++ [x]) st.cur, st.lv.take i⟩ : JSt) = st' := by cases st'; cases e1; cases e2; rfl
        rw [e]
        exact hm.mono (fun k hk => hk.elim (hoB k) (fun h => f2 k (by omega)))
      · exact (hw2.block w.heap.size (by omega) (fun h => (f1 _ (hoB _ h)).elim (fun h => by have := (f3 _ h.1).2; omega) (fun h => by omega))).trans b6
      · exact hw.trans hw2 (fun k hk => (f1 k (hoB k hk)).elim (fun h => .inl h.1) (fun h => .inr (by omega)))
    clear hj hw b6 hoC
    gi_wp2_with fail
    · have hx : x.1.f2 = true := by assumption
      refine ⟨trivial, ?_⟩
      refine (CallsIn.inRound lp (callsIn_wide.2 (j_put base g okB _ _ _ W hjb hln hbW))).mono ?_
      rintro e W' ⟨rfl, hm, hw2⟩
      obtain ⟨k1, k2, k3⟩ := key _ W' hm hw2 (by rw [undoF_snoc]; unfold undo1; rw [if_pos hx]) rfl
      replace k3 := Aside0.mk k3
      clear key hm hw2 hjb
      gi_wp2
      exact ⟨k1, k2, k3.out⟩
    · have hx : x.1.f2 = false := by assumption
      refine ⟨trivial, ?_⟩
      refine (CallsIn.inRound lp (callsIn_wide.2 (j_drop base g okB _ _ _ W hjb hln))).mono ?_
      rintro e W' ⟨rfl, hm, hw2⟩
      obtain ⟨k1, k2, k3⟩ := key _ W' hm hw2 (by rw [undoF_snoc]; unfold undo1; rw [hx, if_neg (by simp)]) rfl
      replace k3 := Aside0.mk k3
      clear key hm hw2 hjb
      gi_wp2
      exact ⟨k1, k2, k3.out⟩
  case done =>
    rintro D ms W hD rfl ⟨⟨⟨hj, b6⟩, hw⟩, hsz⟩ hK
    rw [undoF_all] at hj
    have hfin : JPost base ok g ⟨undoL l st.cur, st.lv.take i⟩ (.int .i64 0) w (.returned (.int .i64 0)) (W.putObj D (.deferred none)) :=
      ⟨rfl, (hj.grownN (grownBy_putObj' W D _) (fun r e => by cases e; exact ⟨_, hK, rfl⟩)).mono (fun k hk => (f1 k hk).elim (fun h => .inl (f3 k h.1).1) (fun h => .inr (by omega))),
        (hw.trans (JW.of_grown (ok := fun k => w.heap.size ≤ k) (grownBy_putObj' W D _) (fun k e => by cases e; omega)) (fun k hk => .inr hk)).weaken (fun k hk => (f3 k hk).1)⟩
    replace hfin := Aside0.mk hfin
    clear hj hw b6
    go_wp2
    refine ⟨by simp, .inl ⟨_, _, rfl, run_takeDeferred hK, ?_⟩⟩
    refine ⟨_, results_tmp rfl _ _ _, ?_⟩
    exact hfin.out
  case stop =>
    rintro D c' ms W hD hpre hf hK
    exact hf.elim
end

/-! ### journal_New: function 17 -/
theorem jx_fresh (base g gs : Nat) (v : Value) (l : List S51) (w : World) (hs : StoreIs base gs v l w) (hg : base ≤ g) (hb : w.heap[g]? = some (.cells #[.pointer (some ⟨gs, 0, none⟩), .slice none 0 0] 60 (0, 0))) : JX base (fun k => base ≤ k) g gs v (.slice none 0 0) [] ⟨l, []⟩ w :=
  ⟨hg, hs.1, fun k e => own_base hs.2.2.2 k e, hg, hb, hs, ⟨rfl, fun k e => by simp [Value.ownBlock] at e, World.ownsRow_nil _ _ _ _, fun i v l e => by simp at e, fun i v k e => by simp at e, fun i j a b k _ e => by simp at e⟩⟩
set_option maxHeartbeats 1000000 in
set_option maxRecDepth 100000 in
theorem j_new (base gs : Nat) (v : Value) (l : List S51) (w : World) (h : StoreIs base gs v l w) (hl : l.length ≤ 1000000000) :
    Calls Try.prog 17 #[.pointer (some ⟨gs, 0, none⟩)] w fun e w' => ∃ g, e = .returned (.pointer (some ⟨g, 0, none⟩)) ∧ JM w.heap.size (fun k => w.heap.size ≤ k) g ⟨l, []⟩ w' ∧ Below w.heap.size w w' := by
  go_enter Try.func17, Try.ntmps17
  go_wp2_with fail
  refine (st_copy base gs v l w h hl).mono ?_
  rintro e w2 ⟨g2, v2, rfl, s2, hb2⟩
  have n3 := my_alloc_new w2 (.cells #[.pointer (some ⟨g2, 0, none⟩), .slice none 0 0] 60)
  have hb3 : Below w2.heap.size w2 (w2.alloc (.cells #[.pointer (some ⟨g2, 0, none⟩), .slice none 0 0] 60)) := (Below.refl _ w2).alloc (Nat.le_refl _) _
  have hfin : ∃ g, Ending.returned (.pointer (some ⟨w2.heap.size, 0, none⟩)) = .returned (.pointer (some ⟨g, 0, none⟩)) ∧ JM w.heap.size (fun k => w.heap.size ≤ k) g ⟨l, []⟩ (w2.alloc (.cells #[.pointer (some ⟨g2, 0, none⟩), .slice none 0 0] 60)) ∧ Below w.heap.size w (w2.alloc (.cells #[.pointer (some ⟨g2, 0, none⟩), .slice none 0 0] 60)) :=
    ⟨_, rfl, ⟨_, _, _, _, jx_fresh _ _ _ _ _ _ (StoreIs.below s2 hb3) hb2.size n3⟩, hb2.alloc hb2.size _⟩
  replace hfin := Aside0.mk hfin
  clear n3 hb3 s2 h hb2
  go_wp2
  go_ret
  exact hfin.out
set_option maxHeartbeats 1000000 in
set_option maxRecDepth 100000 in
theorem st_copy_nil (w : World) : Calls Try.prog 29 #[.pointer none] w fun e w' => e = .returned (.pointer none) ∧ w' = w := by
  go_enter Try.func29, Try.ntmps29
  go_wp2
  go_ret
  exact ⟨rfl, rfl⟩
set_option maxHeartbeats 1000000 in
set_option maxRecDepth 100000 in
theorem j_new_nil (w : World) :
    Calls Try.prog 17 #[.pointer none] w fun e w' => ∃ g, e = .returned (.pointer (some ⟨g, 0, none⟩)) ∧ JM w.heap.size (fun k => w.heap.size ≤ k) g ⟨[], []⟩ w' ∧ Below w.heap.size w w' := by
  go_enter Try.func17, Try.ntmps17
  go_wp2_with fail
  refine (st_copy_nil w).mono ?_
  rintro e w1 ⟨rfl, hw1⟩
  rw [hw1]
  clear hw1
  go_wp2_with fail
  refine (st_new w).mono ?_
  rintro e w2 ⟨rfl, s2, hb2⟩
  have n3 := my_alloc_new w2 (.cells #[.pointer (some ⟨w.heap.size, 0, none⟩), .slice none 0 0] 60)
  have hb3 : Below w2.heap.size w2 (w2.alloc (.cells #[.pointer (some ⟨w.heap.size, 0, none⟩), .slice none 0 0] 60)) := (Below.refl _ w2).alloc (Nat.le_refl _) _
  have hfin : ∃ g, Ending.returned (.pointer (some ⟨w2.heap.size, 0, none⟩)) = .returned (.pointer (some ⟨g, 0, none⟩)) ∧ JM w.heap.size (fun k => w.heap.size ≤ k) g ⟨[], []⟩ (w2.alloc (.cells #[.pointer (some ⟨w.heap.size, 0, none⟩), .slice none 0 0] 60)) ∧ Below w.heap.size w (w2.alloc (.cells #[.pointer (some ⟨w.heap.size, 0, none⟩), .slice none 0 0] 60)) :=
    ⟨_, rfl, ⟨_, _, _, _, jx_fresh _ _ _ _ _ _ (StoreIs.below s2 hb3) hb2.size n3⟩, hb2.alloc hb2.size _⟩
  replace hfin := Aside0.mk hfin
  clear n3 hb3 s2 hb2
  go_wp2
  go_ret
  exact hfin.out
/-! ### a journal that is none -/
set_option maxHeartbeats 1000000 in
set_option maxRecDepth 100000 in
theorem jn_get (key : ByteArray) (w : World) : Calls Try.prog 13 #[.pointer none, .string key] w fun e w' => e = .returned (.tuple #[.string ⟨#[]⟩, .bool false]) ∧ w' = w := by
  go_enter Try.func13, Try.ntmps13
  go_wp2
  go_ret2
  exact ⟨rfl, rfl⟩
set_option maxHeartbeats 1000000 in
set_option maxRecDepth 100000 in
theorem jn_set (key value : ByteArray) (w : World) : Calls Try.prog 18 #[.pointer none, .string key, .string value] w fun e w' => e = .returned (.int .i64 2) ∧ w' = w := by
  go_enter Try.func18, Try.ntmps18
  go_wp2
  go_ret
  exact ⟨rfl, rfl⟩
set_option maxHeartbeats 1000000 in
set_option maxRecDepth 100000 in
theorem jn_del (key : ByteArray) (w : World) : Calls Try.prog 19 #[.pointer none, .string key] w fun e w' => e = .returned (.int .i64 2) ∧ w' = w := by
  go_enter Try.func19, Try.ntmps19
  go_wp2
  go_ret
  exact ⟨rfl, rfl⟩
set_option maxHeartbeats 1000000 in
set_option maxRecDepth 100000 in
theorem jn_begin (w : World) : Calls Try.prog 20 #[.pointer none] w fun e w' => e = .returned (.int .i64 0) ∧ w' = w := by
  go_enter Try.func20, Try.ntmps20
  go_wp2
  go_ret
  exact ⟨rfl, rfl⟩
set_option maxHeartbeats 1000000 in
set_option maxRecDepth 100000 in
theorem jn_depth (w : World) : Calls Try.prog 10 #[.pointer none] w fun e w' => e = .returned (.int .i64 0) ∧ w' = w := by
  go_enter Try.func10, Try.ntmps10
  go_wp2
  go_ret
  exact ⟨rfl, rfl⟩
set_option maxHeartbeats 1000000 in
set_option maxRecDepth 100000 in
theorem jn_list (w : World) : Calls Try.prog 12 #[.pointer none] w fun e w' => e = .returned (.slice none 0 0) ∧ w' = w := by
  go_enter Try.func12, Try.ntmps12
  go_wp2
  go_ret
  exact ⟨rfl, rfl⟩
set_option maxHeartbeats 1000000 in
set_option maxRecDepth 100000 in
theorem jn_last (w : World) : Calls Try.prog 31 #[.pointer none] w fun e w' => e = .returned (.tuple #[.slice none 0 0, .int .i64 2]) ∧ w' = w := by
  go_enter Try.func31, Try.ntmps31
  go_wp2
  go_ret2
  exact ⟨rfl, rfl⟩
set_option maxHeartbeats 1000000 in
set_option maxRecDepth 100000 in
theorem jn_commit (w : World) : Calls Try.prog 21 #[.pointer none] w fun e w' => e = .returned (.int .i64 2) ∧ w' = w := by
  go_enter Try.func21, Try.ntmps21
  go_wp2_with fail
  refine (jn_last w).mono ?_
  rintro e w' ⟨rfl, rfl⟩
  go_wp2
  go_ret
  exact ⟨rfl, rfl⟩
section
attribute [local go_sem] Oper.semAt_some
set_option maxRecDepth 100000 in
set_option maxHeartbeats 1000000 in
theorem jn_rollback (w : World) : Calls Try.prog 16 #[.pointer none] w fun e w' => e = .returned (.int .i64 2) ∧ Below w.heap.size w w' := by
  have hb1 : Below w.heap.size w (w.alloc (.cells #[.pointer none] 25)) := (Below.refl _ w).alloc (Nat.le_refl _) _
  have p1 := Boxed.new w 25 (.pointer none)
  have x1 := p1.cell
  refine (callsIn_wide (n := 8)).1 ?_
  refine callsIn_of_wp_marks Try.func16 rfl trivial ?_ rfl
  simp only [Try.ntmps16, List.size_toArray, List.length_cons, List.length_nil, Nat.reduceAdd, Nat.reduceSub, Array.replicate_succ, Array.replicate_zero, List.push_toArray, List.append_toArray, List.nil_append, List.cons_append]
  refine wpIn_wide.2 ?_
  go_wp2_with fail
  refine (jn_last _).mono ?_
  rintro e w' ⟨rfl, rfl⟩
  clear p1 x1
  go_wp2
  try rw [Exit.noGoto_ret]
  refine ⟨_, results_tmp rfl _ _ _, ?_⟩
  exact ⟨rfl, hb1⟩
end

end Go.Proofs.Ytcbaojkfffodiaa.PJou
