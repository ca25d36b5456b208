-- written by wip/myprint.py over the kit's print; not a printed text of print.sh
import Derived.Test.YtjappgjpikbdeaaGreatDoorPTkkx0
import Derived.Test.YtjappgjpikbdeaaGreatDoorPTkkx3
import Derived.Test.YtjappgjpikbdeaaGreatDoorPTkkx5
import Derived.Test.YtjappgjpikbdeaaGreatDoorPTkkx6
import Derived.Test.YtjappgjpikbdeaaGreatDoorPTkkx7
namespace Go.Proofs.YtjappgjpikbdeaaGreatDoor.PTkk
open Go.RowKit Go.Proofs.YtjappgjpikbdeaaGreatDoorW.PrintWords Go.Proofs.YtjappgjpikbdeaaGreatDoorW.PrintLast Go.Proofs.YtjappgjpikbdeaaGreatDoorW.PrintMore
attribute [local go_sem] max2_int min2_int max_two min_two max_three min_three max_four min_four   -- for this text's walks alone
set_option linter.unusedVariables false
set_option linter.unusedSimpArgs false

/-! ### pairs_Store_begins: function 79 -/
/-! ### a range over slices.Values: the iterator's contract for pairs -/
section
attribute [local go_sem] Oper.semAt_some
def aggP (x : S82) : Value := .agg #[.string x.f0, .string x.f1]
/-- A cut of a row that lies below n₀; or nil. -/
def CutP (n₀ : Nat) (W : World) (A : Option Addr) (l : List S82) : Prop :=
  (A = none ∧ l = []) ∨ ∃ b off, A = some ⟨b, off, none⟩ ∧ b < n₀ ∧ ∀ j (hj : j < l.length), W.cell? ⟨b, off + j * 2, none⟩ = some (.string l[j].f0) ∧ W.cell? ⟨b, off + j * 2 + 1, none⟩ = some (.string l[j].f1)
theorem CutP.below {n₀ : Nat} {W W' : World} {A : Option Addr} {l : List S82} (h : CutP n₀ W A l) (hb : Below n₀ W W') : CutP n₀ W' A l := by
  rcases h with h | ⟨b, off, e, hlt, hc⟩
  · exact .inl h
  · exact .inr ⟨b, off, e, hlt, fun j hj => ⟨(hb.cell (p := ⟨b, off + j * 2, none⟩) hlt).trans (hc j hj).1, (hb.cell (p := ⟨b, off + j * 2 + 1, none⟩) hlt).trans (hc j hj).2⟩⟩
set_option maxRecDepth 100000 in
set_option maxHeartbeats 2000000 in
theorem valsP1_in (F : Fence) (n : Nat) (h7 : F.fn 108) (hro : F.round = none) (hn : 1 ≤ n) (l Bs n₀ b off c : Nat) (zs : List S82) (hz : zs.length ≤ 1000000000) (hb : b < n₀) (J Jx : List S82 → World → Prop) (W : World) (hn0 : n₀ ≤ W.heap.size) (hJ : AbidesFrom W.heap.size J)
    (hY : ∀ pre x W, J pre W → pre.length < zs.length → YieldAt F (n - 1) Tryz.prog l #[aggP x] W fun e W' =>
      (e = .returned (.bool true) ∧ J (pre ++ [x]) W' ∧ Below n₀ W W') ∨ (e = .returned (.bool false) ∧ Jx (pre ++ [x]) W'))
    (hBs : W.cell? ⟨Bs, 0, none⟩ = some (.slice (some ⟨b, off, none⟩) zs.length c)) (hc : ∀ j (hj : j < zs.length), W.cell? ⟨b, off + j * 2, none⟩ = some (.string zs[j].f0) ∧ W.cell? ⟨b, off + j * 2 + 1, none⟩ = some (.string zs[j].f1)) (h0 : J [] W) :
    CallsIn F n Tryz.prog 108 #[.func (.yield l) #[] #[], .pointer (some ⟨Bs, 0, none⟩)] W fun e W' => (∃ v, e = .returned v) ∧
      ((∃ ys, ys = zs ∧ J ys W') ∨ (∃ pre, pre <+: zs ∧ Jx pre W')) := by
  refine callsIn_of_wp Tryz.func108 rfl h7 ?_ hro
  simp only [Tryz.ntmps108, List.size_toArray, List.length_cons, List.length_nil, Nat.reduceAdd, Nat.reduceSub, Array.replicate_succ, Array.replicate_zero, List.push_toArray, List.append_toArray, List.nil_append, List.cons_append]
  gi_wp2
  gi_loopw [7] (fun i wr => ∃ k : Nat, k ≤ zs.length ∧ i = .int .i64 k ∧ J (zs.take k) wr ∧ Below n₀ W wr)
    (fun i _ => zs.length - (intOf i).toNat)
  case atStart => exact ⟨0, Nat.zero_le _, rfl, h0, Below.refl _ _⟩
  case round =>
    obtain ⟨k, hk, rfl, hJs, hnx⟩ := hrel
    by_cases hlt : k < zs.length
    · have hcx := hc k hlt
      have c0 := (hnx.cell (p := ⟨b, off + k * 2, none⟩) hb).trans hcx.1
      have c1 := (hnx.cell (p := ⟨b, off + k * 2 + 1, none⟩) hb).trans hcx.2
      have n1 := my_alloc_new wr (.cells #[.string zs[k].f0, .string zs[k].f1] 82)
      have c2 : (wr.alloc (.cells #[.string zs[k].f0, .string zs[k].f1] 82)).cell? ⟨wr.heap.size, 0, none⟩ = some (.string zs[k].f0) := (blk_cell n1 0).trans rfl
      have c3 : (wr.alloc (.cells #[.string zs[k].f0, .string zs[k].f1] 82)).cell? ⟨wr.heap.size, 1, none⟩ = some (.string zs[k].f1) := (blk_cell n1 1).trans rfl
      have hJ1 : J (zs.take k) (wr.alloc (.cells #[.string zs[k].f0, .string zs[k].f1] 82)) := hJ _ _ _ none hJs (World.grownBy_alloc wr _ none) (fun r e => by cases e)
      have hn1 : Below n₀ W (wr.alloc (.cells #[.string zs[k].f0, .string zs[k].f1] 82)) := hnx.alloc (Nat.le_trans hn0 hnx.size) _
      obtain ⟨fn, tmps, assign, body, hy, hR⟩ := hY _ zs[k] _ hJ1 (by rw [List.length_take]; omega)
      have ek : zs.take k ++ [zs[k]] = zs.take (k + 1) := by rw [List.take_add_one, List.getElem?_eq_getElem hlt]; rfl
      rw [ek] at hR
      unfold aggP at hy
      gi_wp2
      refine hR.mono ?_
      rintro e W3 (⟨rfl, hJ3, hk3⟩ | ⟨rfl, hJx3⟩)
      · gi_wp2
        go_roundw
        case rel => exact ⟨k + 1, by omega, by simp, hJ3, hn1.trans hk3⟩
        case measure => simp [intOf]; omega
      · gi_wp2
        refine bodyPost_ret (results_none rfl _ _ _) rfl ?_
        exact ⟨⟨_, rfl⟩, .inr ⟨_, List.take_prefix _ _, hJx3⟩⟩
    · obtain rfl : k = zs.length := by omega
      gi_wp2
      go_end0
      exact ⟨⟨_, rfl⟩, .inl ⟨_, by rw [List.take_length], hJs⟩⟩
set_option maxRecDepth 100000 in
set_option maxHeartbeats 1000000 in
theorem valsP1_nil_in (F : Fence) (n : Nat) (h7 : F.fn 108) (hro : F.round = none) (l Bs : Nat) (J : List S82 → World → Prop) (W : World) (c : Nat) (hBs : W.cell? ⟨Bs, 0, none⟩ = some (.slice none 0 c)) (h0 : J [] W) :
    CallsIn F n Tryz.prog 108 #[.func (.yield l) #[] #[], .pointer (some ⟨Bs, 0, none⟩)] W fun e W' => (∃ v, e = .returned v) ∧ J [] W' := by
  refine callsIn_of_wp Tryz.func108 rfl h7 ?_ hro
  simp only [Tryz.ntmps108, List.size_toArray, List.length_cons, List.length_nil, Nat.reduceAdd, Nat.reduceSub, Array.replicate_succ, Array.replicate_zero, List.push_toArray, List.append_toArray, List.nil_append, List.cons_append]
  gi_wp2
  gi_loopw [7] (fun i wr => i = .int .i64 0 ∧ J [] wr) (fun _ _ => 0)
  case atStart => exact ⟨rfl, h0⟩
  case round =>
    obtain ⟨rfl, hJs⟩ := hrel
    gi_wp2
    go_end0
    exact ⟨⟨_, rfl⟩, hJs⟩
set_option maxHeartbeats 1000000 in
theorem valsP_in (F : Fence) (n : Nat) (h5 : F.fn 96) (hro : F.round = none) (a : Option Addr) (len cap : Nat) (w : World) :
    CallsIn F n Tryz.prog 96 #[.slice a len cap] w fun e w' => e = .returned (.func (.func 108) #[] #[.pointer (some ⟨w.heap.size, 0, none⟩)]) ∧ w' = w.alloc (.cells #[.slice a len cap] 35) := by
  refine callsIn_of_wp Tryz.func96 rfl h5 ?_ hro
  simp only [Tryz.ntmps96, List.size_toArray, List.length_cons, List.length_nil, Nat.reduceAdd, Nat.reduceSub, Array.replicate_succ, Array.replicate_zero, List.push_toArray, List.append_toArray, List.nil_append, List.cons_append]
  gi_wp2
  go_ret
  exact ⟨rfl, rfl⟩
theorem valsP_stops (F : Fence) (n : Nat) (h7 : F.fn 108) (hro : F.round = none) (hn : 1 ≤ n) (Bs n₀ : Nat) (A : Option Addr) (c : Nat) (zs : List S82) (hz : zs.length ≤ 1000000000) (w : World) (hBs : Bs < w.heap.size) (hn₀ : n₀ ≤ w.heap.size)
    (hc : w.cell? ⟨Bs, 0, none⟩ = some (.slice A zs.length c)) (hI : CutP n₀ w A zs) :
    SeqStopsK F n Tryz.prog 108 #[.pointer (some ⟨Bs, 0, none⟩)] (fun x : S82 => #[aggP x]) (Below n₀) (fun ys => ys = zs) (fun pre => pre <+: zs) zs.length w := fun l J Jx W hW hJ _ hY h0 => by
  have hc' := (hW.cell (p := ⟨Bs, 0, none⟩) hBs).trans hc
  rcases hI.below (hW.mono hn₀) with ⟨rfl, rfl⟩ | ⟨b, off, rfl, hb, hcs⟩
  · exact (valsP1_nil_in F n h7 hro l Bs J W c hc' h0).mono fun e W' ⟨he, hj⟩ => ⟨he, .inl ⟨_, rfl, hj⟩⟩
  · exact valsP1_in F n h7 hro hn l Bs n₀ b off c zs hz hb J Jx W (Nat.le_trans hn₀ hW.size) hJ hY hc' hcs h0
end
theorem rowcells {w : World} {base gr c : Nat} {l : List S82} (h : w.ownsRow base 82 2 (.slice (some ⟨gr, 0, none⟩) l.length c) l.length (encP l)) :
    gr < w.heap.size ∧ base ≤ gr ∧ ∀ j (hj : j < l.length), w.cell? ⟨gr, j * 2, none⟩ = some (.string l[j].f0) ∧ w.cell? ⟨gr, j * 2 + 1, none⟩ = some (.string l[j].f1) := by
  rcases h.2 with ⟨e, hx⟩ | ⟨g, cap, cur, e, hb, hg, hn, hm, hs, hx⟩
  · cases e
  · injection e with e1 e2 e3
    injection e1 with e1
    injection e1 with e1
    subst e1 e3
    refine ⟨blk_lt hg, hb, fun j hj => ?_⟩
    have hd : ((encP l).drop (j * 2)) = .string l[j].f0 :: .string l[j].f1 :: encP (l.drop (j + 1)) := by
      rw [(encP_split l j (by omega)).2, List.drop_eq_getElem_cons hj]; rfl
    have hget : ∀ i, i < l.length * 2 → w.cell? ⟨gr, i, none⟩ = (encP l)[i]? := by
      intro i hi
      rw [blk_cell hg i, ← hx, List.getElem?_take_of_lt hi, Array.getElem?_toList]
    constructor
    · rw [hget _ (by omega), ← Nat.add_zero (j * 2), ← List.getElem?_drop, hd]; rfl
    · rw [hget _ (by omega), ← List.getElem?_drop, hd]; rfl
theorem isPrefixOf_take : ∀ (a b : List UInt8), a.isPrefixOf b = (decide (a.length ≤ b.length) && (b.take a.length == a))
  | [], b => by simp
  | x :: a, [] => by simp
  | x :: a, y :: b => by
    rw [List.isPrefixOf_cons_cons, isPrefixOf_take a b]
    by_cases hxy : x = y
    · subst hxy; simp
    · have h2 : (x == y) = false := beq_eq_false_iff_ne.2 hxy
      have h3 : ((y :: b).take (x :: a).length == x :: a) = false := beq_eq_false_iff_ne.2 (fun e => hxy (List.cons.inj e).1.symm)
      rw [h2, h3, Bool.false_and, Bool.and_false]
theorem hasPrefix_f (a b : ByteArray) : strings_HasPrefix.f a b = some (b.toList.isPrefixOf a.toList) := by
  have hla : a.toList.length = a.size := by rw [ByteArray.toList_eq]; rfl
  have hlb : b.toList.length = b.size := by rw [ByteArray.toList_eq]; rfl
  unfold strings_HasPrefix.f stringslite_HasPrefix.f
  rw [isPrefixOf_take, hla, hlb]
  by_cases h : b.size ≤ a.size
  · rw [if_pos (by omega), if_pos (by omega), if_pos (by omega), decide_eq_true h, Bool.true_and]
    have e : (a.extract 0 ((b.size : Int)).toNat).toList = a.toList.take b.size := by
      rw [ByteArray.toList_eq, ByteArray.toList_eq]
      simp
    rw [Option.bind_some, e]
  · rw [if_neg (by omega), decide_eq_false h, Bool.false_and, Option.bind_some]
theorem encP_get : ∀ (l : List S82) (j : Nat) (u : Value), (encP l)[j]? = some u → ∃ i, ∃ hi : i < l.length, (j = i * 2 ∧ u = .string l[i].f0) ∨ (j = i * 2 + 1 ∧ u = .string l[i].f1)
  | [], j, u, h => by simp [encP] at h
  | a :: t, 0, u, h => ⟨0, by simp, .inl ⟨rfl, (Option.some.inj h).symm⟩⟩
  | a :: t, 1, u, h => ⟨0, by simp, .inr ⟨rfl, (Option.some.inj h).symm⟩⟩
  | a :: t, j + 2, u, h => by
    obtain ⟨i, hi, hx⟩ := encP_get t j u h
    refine ⟨i + 1, by simpa using hi, ?_⟩
    rcases hx with ⟨e1, e2⟩ | ⟨e1, e2⟩
    · exact .inl ⟨by omega, e2⟩
    · exact .inr ⟨by omega, e2⟩
theorem CutP.flat {n₀ : Nat} {W : World} {A : Option Addr} {l m : List S82} (h : CutP n₀ W A l) (hm : m <+: l) :
    (A = none → m = []) ∧ ∀ a, A = some a → ∀ j u, (encP m)[j]? = some u → W.cell? (a.add j) = some u := by
  obtain ⟨r, rfl⟩ := hm
  rcases h with ⟨rfl, e⟩ | ⟨b, off, rfl, _, hc⟩
  · exact ⟨fun _ => (List.append_eq_nil_iff.1 e).1, fun a ha => (by cases ha)⟩
  · refine ⟨fun ha => (by cases ha), fun a ha j u hj => ?_⟩
    injection ha with ha
    subst ha
    obtain ⟨i, hi, hx⟩ := encP_get m j u hj
    have hci := hc i (by rw [List.length_append]; omega)
    rw [List.getElem_append_left hi] at hci
    have ha : (⟨b, off, none⟩ : Addr).add j = ⟨b, off + j, none⟩ := by unfold Addr.add; split <;> simp_all
    rw [ha]
    rcases hx with ⟨rfl, rfl⟩ | ⟨rfl, rfl⟩
    · exact hci.1
    · exact hci.2
/-- The way on alone: where nothing panics. -/
def calmQ (Q : Exit → Act → World → Prop) : Exit → Act → World → Prop
  | .normal, a, w => Q .normal a w
  | _, _, _ => False
theorem wp_calm {P : Program} {c : Code} {Q : Exit → Act → World → Prop} {a : Act} {w : World} (h : c.wp P (calmQ Q) a w) : c.wp P Q a w :=
  wp_mono h (fun e a w h => by cases e <;> first | exact h | exact False.elim h)
theorem calmQ_normal {Q : Exit → Act → World → Prop} {a : Act} {w : World} : calmQ Q .normal a w = Q .normal a w := rfl
theorem takeWhile_pre {α : Type} (f : α → Bool) : ∀ (m r : List α), (∀ x ∈ m, f x = true) → (m ++ r).takeWhile f = m ++ r.takeWhile f
  | [], r, _ => rfl
  | x :: m, r, h => by
    rw [List.cons_append, List.takeWhile_cons, if_pos (h x List.mem_cons_self), takeWhile_pre f m r (fun y hy => h y (List.mem_cons_of_mem _ hy)), List.cons_append]
section
attribute [local go_sem] Oper.semAt_some
set_option maxRecDepth 100000 in
set_option maxHeartbeats 4000000 in
theorem st_begins (base g : Nat) (v : Value) (l : List S82) (pre0 : ByteArray) (w : World) (h : StoreIs base g v l w) (hl : l.length ≤ 1000000000) :
    Calls Tryz.prog 79 #[.pointer (some ⟨g, 0, none⟩), .string pre0] w fun e w' => ∃ v', e = .returned v' ∧ w'.ownsRow w.heap.size 82 2 v' (allK l pre0).length (encP (allK l pre0)) ∧ Below w.heap.size w w' := by
  obtain ⟨al, hal⟩ : ∃ al, allK l pre0 = al := ⟨_, rfl⟩
  rw [hal]
  have h1 : 1 ≤ 8 := by decide
  obtain ⟨A, c, rfl, hnc, hc63⟩ := row_slice h.2.2.2
  have hgs := blk_lt h.2.2.1
  have hp := posK_le l pre0
  obtain ⟨A', hA⟩ : ∃ A', (if c = posK l pre0 then A else A.map (·.add (posK l pre0 * 2))) = A' := ⟨_, rfl⟩
  have e1 : ∀ w, (Instr.sliceAt 35 (.slice A l.length c) (some (.int .i64 (posK l pre0))) none none).run Tryz.prog w = .ok (.slice A' (l.length - posK l pre0) (c - posK l pre0)) w := by
    intro w
    simp [go_sem, ← hA]
    intro hx
    omega
  have e2 : ∀ (k : Nat) w, k ≤ l.length - posK l pre0 → (Instr.sliceAt 35 (.slice A l.length c) (some (.int .i64 (posK l pre0))) (some (.int .i64 ((posK l pre0 : Int) + (k : Int)))) none).run Tryz.prog w = .ok (.slice A' k (c - posK l pre0)) w := by
    intro k w h1
    have e0 : (posK l pre0 : Int) + (k : Int) = ((posK l pre0 + k : Nat) : Int) := by omega
    rw [e0]
    obtain ⟨t, ht⟩ : ∃ t, posK l pre0 + k = t := ⟨_, rfl⟩
    rw [ht]
    simp [go_sem, ← hA]
    rw [if_pos (by omega : t ≤ c), if_pos (by omega : posK l pre0 ≤ t), show t - posK l pre0 = k by omega]
  have hcut : CutP w.heap.size w A' (l.drop (posK l pre0)) := by
    have hx := h.2.2.2
    cases A with
    | none =>
      rcases hx.2 with ⟨e, hn⟩ | ⟨g', cap, cur, e, _⟩
      · exact .inl ⟨by rw [← hA]; split <;> rfl, by rw [List.length_eq_zero_iff.1 hn]; rfl⟩
      · cases e
    | some a =>
      obtain ⟨gr, rfl⟩ : ∃ gr, a = ⟨gr, 0, none⟩ := by
        rcases hx.2 with ⟨e, _⟩ | ⟨g', cap, cur, e, _⟩
        · cases e
        · injection e with e1; injection e1 with e1; exact ⟨g', e1⟩
      obtain ⟨hgr, _, hcell⟩ := rowcells hx
      by_cases hcp : c = posK l pre0
      · rw [if_pos hcp] at hA
        refine .inr ⟨gr, 0, hA.symm, hgr, fun j hj => ?_⟩
        rw [List.length_drop] at hj; omega
      · rw [if_neg hcp, Option.map_some, add_plain] at hA
        refine .inr ⟨gr, posK l pre0 * 2, hA.symm, hgr, fun j hj => ?_⟩
        have hj' : posK l pre0 + j < l.length := by rw [List.length_drop] at hj; omega
        have hcx := hcell _ hj'
        rw [List.getElem_drop]
        rw [show (posK l pre0 + j) * 2 = posK l pre0 * 2 + j * 2 by omega] at hcx
        exact hcx
  have hb1 : Below w.heap.size w (w.alloc (.cells #[.string pre0] 9)) := (Below.refl _ w).alloc (Nat.le_refl _) _
  have s1 : StoreAt base g l (w.alloc (.cells #[.string pre0] 9)) := StoreIs.at_ (v := .slice A l.length c) ⟨h.1, h.2.1, blk_below h.2.2.1 hb1, own_below h.2.2.2 hb1⟩
  have p1 := Boxed.new w 9 (.string pre0)
  have x1 := p1.cell
  refine (callsIn_wide (n := 8)).1 ?_
  refine callsIn_of_wp_marks Tryz.func79 rfl trivial ?_ rfl
  simp only [Tryz.ntmps79, List.size_toArray, List.length_cons, List.length_nil, Nat.reduceAdd, Nat.reduceSub, Array.replicate_succ, Array.replicate_zero, List.push_toArray, List.append_toArray, List.nil_append, List.cons_append]
  refine wpIn_wide.2 ?_
  go_wp2
  go_step3
  go_wp2_with fail
  refine (st_at base g l pre0 _ s1 hl).mono ?_
  rintro e w2 ⟨rfl, hb2⟩
  have hb02 := hb1.trans (hb2.mono (by rw [my_alloc_size]; omega))
  have p2 : Boxed w2 w.heap.size 9 (.string pre0) := (hb2.block _ p1.lt).trans p1
  have y0 : ∀ o, (w2.alloc o).cell? ⟨g, 0, none⟩ = some (.slice A l.length c) := fun o => (blk_cell (blk_alloc (blk_below h.2.2.1 hb02) o) 0).trans rfl
  clear x1
  go_wp2
  go_step3
  go_wp2_with fail
  refine (callsIn_wide.1 (valsP_in Fence.wide 8 trivial rfl _ _ _ _)).mono ?_
  rintro e w4 ⟨rfl, rfl⟩
  have b3 := Boxed.new w2 3 (.int .i64 (posK l pre0 : Int))
  obtain ⟨w3, hw3⟩ : ∃ w3, w2.alloc (.cells #[.int .i64 (posK l pre0 : Int)] 3) = w3 := ⟨_, rfl⟩
  rw [hw3] at b3 ⊢
  go_wp2
  have hsz3 : w2.heap.size < w3.heap.size := by rw [← hw3, my_alloc_size]; omega
  have hsz02 := hb02.size
  have hw2 := p2.lt
  have hB3 : Below w.heap.size w w3 := by rw [← hw3]; exact hb02.alloc (by omega) _
  have p3 : Boxed w3 w.heap.size 9 (.string pre0) := by rw [← hw3]; exact p2.alloc _
  have bN := Boxed.new w3 35 (.slice A' (l.length - posK l pre0) (c - posK l pre0))
  have b5 := b3.alloc (.cells #[.slice A' (l.length - posK l pre0) (c - posK l pre0)] 35)
  have p5 := p3.alloc (.cells #[.slice A' (l.length - posK l pre0) (c - posK l pre0)] 35)
  have hB5 := hB3.alloc (by omega) (.cells #[.slice A' (l.length - posK l pre0) (c - posK l pre0)] 35)
  have hsz5 : w3.heap.size < (w3.alloc (.cells #[.slice A' (l.length - posK l pre0) (c - posK l pre0)] 35)).heap.size := by rw [my_alloc_size]; omega
  obtain ⟨w5, hw5⟩ : ∃ w5, w3.alloc (.cells #[.slice A' (l.length - posK l pre0) (c - posK l pre0)] 35) = w5 := ⟨_, rfl⟩
  rw [hw5] at bN b5 p5 hB5 hsz5 ⊢
  clear hw5 b3 p3 hB3 hw3
  refine (wpIn_wide (n := 8)).1 ?_
  refine wpIn_rangeFunc_ownH rfl h1 (gf := 108) (lb := #[.pointer (some ⟨w3.heap.size, 0, none⟩)]) rfl trivial (enters_of Tryz.func108 (by kernel_rfl) rfl)
    (valsP_stops Fence.wide (8 - 1) trivial rfl (by decide) w3.heap.size w.heap.size A' (c - posK l pre0) (l.drop (posK l pre0)) (by rw [List.length_drop]; omega) w5 (by omega) (by omega) (by rw [List.length_drop]; exact bN.cell) (hcut.below hB5)) belowK_t (belowK_b (by omega)) (Below.refl _ _) (fun _ => rfl)
    (fun pre W => ((Boxed W w2.heap.size 3 (.int .i64 ((posK l pre0 + pre.length : Nat) : Int)) ∧ Boxed W w.heap.size 9 (.string pre0)) ∧ (∀ x ∈ pre, pre0.toList.isPrefixOf x.f0.toList = true)) ∧ Below w.heap.size w W)
    (fun c pre W => (c = .exit 0 ∧ ∃ ini last, pre = ini ++ [last] ∧ (∀ x ∈ ini, pre0.toList.isPrefixOf x.f0.toList = true) ∧ pre0.toList.isPrefixOf last.f0.toList = false ∧ Boxed W w2.heap.size 3 (.int .i64 ((posK l pre0 + ini.length : Nat) : Int))) ∧ Below w.heap.size w W)
    (OwnFrom.and (OwnFrom.and (OwnFrom.and (Own.from (boxed_own _ _ _) _) (Own.from (boxed_own _ _ _) _)) (ownFrom_pure _ _)) (ownFrom_below (Nat.le_refl _) (by omega)))
    (fun c => OwnFrom.and (fun s X Y row hs hg hr => by
      obtain ⟨e1, ini, last, e2, e3, e4, e5⟩ := hs
      exact ⟨e1, ini, last, e2, e3, e4, boxed_own w2.heap.size 3 (fun (_ : Unit) => Value.int .i64 ((posK l pre0 + ini.length : Nat) : Int)) () X Y row e5 hg (fun r e => (hr r e).2)⟩) (ownFrom_below (Nat.le_refl _) (by omega)))
    ⟨⟨⟨b5, p5⟩, fun x hx => absurd hx (by simp)⟩, hB5⟩
    (fun x a' W => ∃ Bx, w2.heap.size < Bx ∧ W.heap[Bx]? = some (.cells #[.string x.f0, .string x.f1] 82 (0, 0)) ∧ a' = { tmps := #[.pointer (some ⟨g, 0, none⟩), .string pre0, undef, .pointer (some ⟨w.heap.size, 0, none⟩), .slice none 0 0, .int .i64 (posK l pre0), .bool (hasK l pre0), .pointer (some ⟨w2.heap.size, 0, none⟩), .pointer (some ⟨Bx, 0, none⟩), .pointer (some ⟨g, 0, none⟩), .bool false, .tuple #[.int .i64 (posK l pre0), .bool (hasK l pre0)], .pointer (some ⟨g, 0, none⟩), .string pre0, .tuple #[.int .i64 (posK l pre0), .bool (hasK l pre0)], .int .i64 (posK l pre0), .bool (hasK l pre0), .int .i64 (posK l pre0), .pointer (some ⟨g, 0, none⟩), .pointer (some ⟨g, 0, none⟩), .pointer (some ⟨g, 0, none⟩), .slice A l.length c, .int .i64 (posK l pre0), .slice A' (l.length - posK l pre0) (c - posK l pre0), .func (.func 108) #[] #[.pointer (some ⟨w3.heap.size, 0, none⟩)], .agg #[.string x.f0, .string x.f1], undef, undef, undef, undef, undef, undef, undef, undef, undef, undef, undef, undef, undef, undef, undef], defers := [] })
    (fun x a' _ X Y row hs hg hr => by
      obtain ⟨Bx, h1, h2, h3⟩ := hs
      refine ⟨Bx, h1, (hg.block Bx (blk_lt h2) (fun e' => ?_)).trans h2, h3⟩
      obtain ⟨_, o, ho, hc⟩ := hr Bx e'.symm
      rw [h2] at ho; cases ho; cases hc)
    ?assign ?body ?done ?stop
  case assign =>
    rintro lp pre x W K ⟨⟨⟨b6, p6⟩, hall⟩, hB6⟩ hK
    unfold aggP
    have nx := my_alloc_new W (.cells #[.string x.f0, .string x.f1] 82)
    gi_wp2
    exact hK _ _ ((KeepsOthers.alloc _ _).from _) ((Below.refl _ W).alloc hB6.size _) ⟨⟨⟨b6.alloc _, p6.alloc _⟩, hall⟩, hB6.alloc hB6.size _⟩ ⟨W.heap.size, b6.lt, nx, rfl⟩
  case body =>
    rintro lp pre x a' W hlp _ ⟨⟨⟨b6, p6⟩, hall⟩, hB6⟩ ⟨Bx, hBx, bX, rfl⟩ hlt
    have c1 := p6.cell
    have c2 : ∀ n, (W.drewN n).cell? _ = _ := fun n => b6.cell
    have f2 : ∀ n, (W.drewN n).frozen? _ = _ := fun n => b6.frozen
    have cx : W.cell? ⟨Bx, 0, none⟩ = some (.string x.f0) := (blk_cell bX 0).trans rfl
    have hpl : pre.length < l.length - posK l pre0 := by rw [← List.length_drop]; exact hlt
    gi_wp2_with (refine ⟨trivial, ?_⟩; gi_at_call 97; refine (CallsIn.inRound lp (callsIn_wide.2 (strings_HasPrefix.calls _ _ _ _ (hasPrefix_f _ _)))).mono ?_; rintro e w' ⟨rfl, hd⟩; obtain ⟨nd, rfl⟩ := hd.out)
    · have hx : (!pre0.toList.isPrefixOf x.f0.toList) = true := by assumption
      exact ⟨KeepsOthers.from (⟨Nat.le_refl _, fun _ _ h _ => h⟩ : KeepsOthers W (W.drewN nd)) _, ⟨rfl, pre, x, rfl, hall, by simpa using hx, b6⟩, pw_below_drewN hB6 nd⟩
    · have hx : (!pre0.toList.isPrefixOf x.f0.toList) = false := by assumption
      have ev : ((posK l pre0 + (pre ++ [x]).length : Nat) : Int) = (posK l pre0 : Int) + (pre.length : Int) + 1 := by rw [List.length_append, List.length_singleton]; omega
      have b7 : Boxed (W.drewN nd) w2.heap.size 3 (.int .i64 ((posK l pre0 + pre.length : Nat) : Int)) := b6
      have p7 : Boxed (W.drewN nd) w.heap.size 9 (.string pre0) := p6
      refine ⟨KeepsFrom.trans (KeepsOthers.from (⟨Nat.le_refl _, fun _ _ h _ => h⟩ : KeepsOthers W (W.drewN nd)) _) ((KeepsOthers.setCell _ _ _).from _), Below.setCell (pw_below_drewN (Below.refl _ _) nd) (p := ⟨w2.heap.size, 0, none⟩) hsz02 _, ⟨⟨by rw [ev]; exact b7.set _, p7.other (by omega) _⟩, fun y hy => ?_⟩, Below.setCell (pw_below_drewN hB6 nd) (p := ⟨w2.heap.size, 0, none⟩) hsz02 _⟩
      rcases List.mem_append.1 hy with hy | hy
      · exact hall y hy
      · rw [List.mem_singleton.1 hy]; simpa using hx
  case' done =>
    rintro D ms W hD hms ⟨⟨⟨b6, p6⟩, hall⟩, hB6⟩ hK
    have hpre : ms <+: l.drop (posK l pre0) := by rw [hms]; exact List.prefix_refl _
    have hall2 : allK l pre0 = ms := by
      have h := takeWhile_pre (fun x : S82 => pre0.toList.isPrefixOf x.f0.toList) ms [] hall
      rw [List.append_nil, List.takeWhile_nil, List.append_nil] at h
      unfold allK; rw [← hms]; exact h
    clear hms p6 hall
  case' stop =>
    rintro D c' pre W hD hpre1 ⟨⟨rfl, ms, last, rfl, hini, hlast, b6⟩, hB6⟩ hK
    have hpre : ms <+: l.drop (posK l pre0) := (List.prefix_append ms [last]).trans hpre1
    have hall2 : allK l pre0 = ms := by
      obtain ⟨r, hr⟩ := hpre1
      unfold allK
      rw [← hr, List.append_assoc, takeWhile_pre _ ms _ hini, List.singleton_append, List.takeWhile_cons, if_neg (by rw [hlast]; simp), List.append_nil]
    clear hpre1 hini hlast
    refine wpIn_wide.2 ?_
  all_goals
    replace hall2 := Aside0.mk (hal.symm.trans hall2)
    have hml := hpre.length_le
    rw [List.length_drop] at hml
    have e3 := fun w => e2 ms.length w (by omega)
    have yW : W.cell? ⟨g, 0, none⟩ = some (.slice A l.length c) := (hB6.cell (p := ⟨g, 0, none⟩) hgs).trans ((blk_cell h.2.2.1 0).trans rfl)
    have cW : W.cell? ⟨w2.heap.size, 0, none⟩ = some (.int .i64 ((posK l pre0 : Int) + (ms.length : Int))) := b6.cell
    obtain ⟨f1, f2⟩ := CutP.flat (hcut.below hB6) hpre
    clear e1 e2 s1 p1 p2 hcut b6 hpre hal
    go_upto_region 9 with (fail)
    refine wp_calm ?_
    have hml2 : ms.length ≤ 1000000000 := by omega
    have hclone := clone_calls A' (c - posK l pre0) ms W.drew hml2 f1 f2
    go_region_with (go_at_call 86; refine hclone.mono ?_; rintro e w7 ⟨v7, rfl, o7, hb7⟩)
    all_goals
      rw [calmQ_normal]
      simp only [List.getElem_toArray, List.getElem_cons_succ, List.getElem_cons_zero, Act.put, List.setIfInBounds_toArray, List.set_cons_succ, List.set_cons_zero]
      have hK7 : w7.heap[D]? = some (.deferred (some [])) := (hb7.block D (blk_lt hK)).trans hK
      have hBw : Below w.heap.size w w7 := (below_drew hB6).trans (hb7.mono hB6.size)
      have hfin : ∃ v', Ending.returned v7 = .returned v' ∧ (w7.putObj D (.deferred none)).ownsRow w.heap.size 82 2 v' al.length (encP al) ∧ Below w.heap.size w (w7.putObj D (.deferred none)) :=
        ⟨v7, rfl, by rw [hall2.out]; exact ownsRow_putObj (own_weaken o7 hB6.size) _ hK7 rfl, hBw.trans (belowK_b (w := w) (Nat.le_refl _) w7 D _ _ (by omega) hK7 rfl rfl)⟩
      replace hfin := Aside0.mk hfin
      clear hclone o7 hb7 hBw f2 f1 e3 yW cW
      go_wp2
      try rw [Exit.noGoto_ret]
      refine ⟨by simp, .inl ⟨_, _, rfl, run_takeDeferred hK7, ?_⟩⟩
      refine ⟨_, results_tmp rfl _ _ _, ?_⟩
      exact hfin.out
end

/-! ### pairs_Store_Copy: function 61 -/
set_option maxHeartbeats 1000000 in
set_option maxRecDepth 100000 in
theorem st_new (w : World) : Calls Tryz.prog 62 #[] w fun e w' => e = .returned (.pointer (some ⟨w.heap.size, 0, none⟩)) ∧ StoreIs w.heap.size w.heap.size (.slice none 0 0) [] w' ∧ Below w.heap.size w w' := by
  have n1 := my_alloc_new w (.cells #[.slice none 0 0] 118)
  have hfin : StoreIs w.heap.size w.heap.size (.slice none 0 0) [] (w.alloc (.cells #[.slice none 0 0] 118)) := ⟨Nat.le_refl _, List.Pairwise.nil, n1, World.ownsRow_nil _ _ _ _⟩
  have hb : Below w.heap.size w (w.alloc (.cells #[.slice none 0 0] 118)) := (Below.refl _ w).alloc (Nat.le_refl _) _
  replace hfin := Aside0.mk hfin
  replace hb := Aside0.mk hb
  clear n1
  go_enter Tryz.func62, Tryz.ntmps62
  go_wp2
  go_ret
  exact ⟨rfl, hfin.out, hb.out⟩
theorem ownflat {w : World} {base n c : Nat} {A : Option Addr} {l : List S82} (h : w.ownsRow base 82 2 (.slice A n c) n (encP l)) :
    (A = none → l = []) ∧ ∀ a, A = some a → ∀ j u, (encP l)[j]? = some u → w.cell? (a.add j) = some u := by
  have hlen : l.length * 2 = n * 2 := by rw [← encP_len]; exact h.1
  obtain rfl : l.length = n := by omega
  have hc : CutP w.heap.size w A l := by
    rcases h.2 with ⟨e, hn⟩ | ⟨g, cap, cur, e, hb, hg, hn, hm, hs, hx⟩
    · injection e with e1
      subst e1
      exact .inl ⟨rfl, List.length_eq_zero_iff.1 hn⟩
    · injection e with e1 e2 e3
      subst e1 e3
      obtain ⟨h1, h2, h3⟩ := rowcells h
      exact .inr ⟨g, 0, rfl, h1, fun j hj => by rw [Nat.zero_add]; exact h3 j hj⟩
  exact hc.flat (List.prefix_refl _)
set_option maxHeartbeats 2000000 in
set_option maxRecDepth 100000 in
theorem st_copy (base g : Nat) (v : Value) (l : List S82) (w : World) (h : StoreIs base g v l w) (hl : l.length ≤ 1000000000) :
    Calls Tryz.prog 61 #[.pointer (some ⟨g, 0, none⟩)] w fun e w' => ∃ g' v', e = .returned (.pointer (some ⟨g', 0, none⟩)) ∧ StoreIs w.heap.size g' v' l w' ∧ Below w.heap.size w w' := by
  obtain ⟨h0, h1, h2, h3⟩ := h
  obtain ⟨A, c, rfl, hnc, hc63⟩ := row_slice h3
  have y0 : w.cell? ⟨g, 0, none⟩ = some (.slice A l.length c) := (blk_cell h2 0).trans rfl
  obtain ⟨f1, f2⟩ := ownflat h3
  have hclone := clone_calls A c l w hl f1 f2
  clear f1 f2 h3 h2
  go_enter Tryz.func61, Tryz.ntmps61
  go_wp2_with fail
  refine hclone.mono ?_
  rintro e w2 ⟨v2, rfl, o2, hb2⟩
  obtain ⟨A2, c2, rfl, _, _⟩ := row_slice o2
  have n3 := my_alloc_new w2 (.cells #[.slice A2 l.length c2] 118)
  have hfin : ∃ g' v', Ending.returned (.pointer (some ⟨w2.heap.size, 0, none⟩)) = .returned (.pointer (some ⟨g', 0, none⟩)) ∧ StoreIs w.heap.size g' v' l (w2.alloc (.cells #[.slice A2 l.length c2] 118)) ∧ Below w.heap.size w (w2.alloc (.cells #[.slice A2 l.length c2] 118)) :=
    ⟨_, _, rfl, ⟨hb2.size, h1, n3, o2.alloc _⟩, hb2.alloc hb2.size _⟩
  replace hfin := Aside0.mk hfin
  clear n3 o2 hb2 hclone y0
  go_wp2
  go_ret
  exact hfin.out
theorem allK_nil (l : List S82) : allK l ⟨#[]⟩ = l := by
  have e0 : (⟨#[]⟩ : ByteArray).toList = [] := by rw [ByteArray.toList_eq]
  have hp : posK l ⟨#[]⟩ = 0 := posK_none l _ (fun p _ => by
    unfold kLt
    rw [e0]
    cases p.f0.toList <;> rfl)
  unfold allK
  rw [hp, List.drop_zero]
  have h := takeWhile_pre (fun x : S82 => (⟨#[]⟩ : ByteArray).toList.isPrefixOf x.f0.toList) l [] (fun x _ => by rw [e0]; rfl)
  rw [List.append_nil, List.takeWhile_nil, List.append_nil] at h
  exact h
set_option maxHeartbeats 1000000 in
set_option maxRecDepth 100000 in
theorem st_list (base g : Nat) (v : Value) (l : List S82) (w : World) (h : StoreIs base g v l w) (hl : l.length ≤ 1000000000) :
    Calls Tryz.prog 48 #[.pointer (some ⟨g, 0, none⟩)] w fun e w' => ∃ v', e = .returned v' ∧ w'.ownsRow w.heap.size 82 2 v' l.length (encP l) ∧ Below w.heap.size w w' := by
  have hbeg := st_begins base g v l ⟨#[]⟩ w h hl
  rw [allK_nil] at hbeg
  clear h
  go_enter Tryz.func48, Tryz.ntmps48
  go_wp2_with fail
  refine hbeg.mono ?_
  rintro e w2 ⟨v2, rfl, o2, hb2⟩
  clear hbeg
  replace o2 := Aside0.mk o2
  replace hb2 := Aside0.mk hb2
  go_wp2
  go_ret
  exact ⟨_, rfl, o2.out, hb2.out⟩

/-! ### pairs_Store_List: function 48 -/

end Go.Proofs.YtjappgjpikbdeaaGreatDoor.PTkk
