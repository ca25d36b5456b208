/- A part of the walk of QuotaPlays. No condition. -/
import Derived.Test.YtgapkicplhbidaaGreatDoorPQupx0
namespace Go.Proofs.YtgapkicplhbidaaGreatDoor.PQup
set_option maxRecDepth 100000
set_option maxHeartbeats 8000000
open Go.RowKit Go.Proofs.YtgapkicplhbidaaGreatDoorW.PrintWords Go.Proofs.YtgapkicplhbidaaGreatDoorW.PrintLast Go.Proofs.YtgapkicplhbidaaGreatDoorW.PrintMore
attribute [local go_sem] max2_int min2_int max_two min_two max_three min_three max_four min_four   -- for this text's walks alone
set_option linter.unusedVariables false
set_option linter.unusedSimpArgs false
section
section
attribute [local go_sem] Oper.semAt_some
def aggP (x : S55) : Value := .agg #[.string x.f0, .string x.f1]
def CutP (n₀ : Nat) (W : World) (A : Option Addr) (l : List S55) : Prop :=
 (A = none ∧ l = []) ∨ ∃ b off, A = some ⟨b, off, none⟩ ∧ b < n₀ ∧ ∀ j (hj : j < l.length), W.cell? ⟨b, off + j * 2, none⟩ = some (.string l[j].f0) ∧ W.cell? ⟨b, off + j * 2 + 1, none⟩ = some (.string l[j].f1)
theorem CutP.below {n₀ : Nat} {W W' : World} {A : Option Addr} {l : List S55} (h : CutP n₀ W A l) (hb : Below n₀ W W') : CutP n₀ W' A l := by
 rcases h with h | ⟨b, off, e, hlt, hc⟩
 ·exact .inl h
 ·exact .inr ⟨b, off, e, hlt, fun j hj => ⟨(hb.cell (p := ⟨b, off + j * 2, none⟩) hlt).trans (hc j hj).1, (hb.cell (p := ⟨b, off + j * 2 + 1, none⟩) hlt).trans (hc j hj).2⟩⟩
theorem valsP1_in (F : Fence) (n : Nat) (h7 : F.fn 75) (hro : F.round = none) (hn : 1 ≤ n) (l Bs n₀ b off c : Nat) (zs : List S55) (hz : zs.length ≤ 1000000000) (hb : b < n₀) (J Jx : List S55 → World → Prop) (W : World) (hn0 : n₀ ≤ W.heap.size) (hJ : AbidesFrom W.heap.size J)
  (hY : ∀ pre x W, J pre W → pre.length < zs.length → YieldAt F (n - 1) Tryz.prog l #[aggP x] W fun e W' =>
   (e = .returned (.bool true) ∧ J (pre ++ [x]) W' ∧ Below n₀ W W') ∨ (e = .returned (.bool false) ∧ Jx (pre ++ [x]) W'))
  (hBs : W.cell? ⟨Bs, 0, none⟩ = some (.slice (some ⟨b, off, none⟩) zs.length c)) (hc : ∀ j (hj : j < zs.length), W.cell? ⟨b, off + j * 2, none⟩ = some (.string zs[j].f0) ∧ W.cell? ⟨b, off + j * 2 + 1, none⟩ = some (.string zs[j].f1)) (h0 : J [] W) :
  CallsIn F n Tryz.prog 75 #[.func (.yield l) #[] #[], .pointer (some ⟨Bs, 0, none⟩)] W fun e W' => (∃ v, e = .returned v) ∧
   ((∃ ys, ys = zs ∧ J ys W') ∨ (∃ pre, pre <+: zs ∧ Jx pre W')) := by
 refine callsIn_of_wp Tryz.func75 rfl h7 ?_ hro
 simp only [Tryz.ntmps75, List.size_toArray, List.length_cons, List.length_nil, Nat.reduceAdd, Nat.reduceSub, Array.replicate_succ, Array.replicate_zero, List.push_toArray, List.append_toArray, List.nil_append, List.cons_append]
 gi_wp2
 gi_loopw [7] (fun i wr => ∃ k : Nat, k ≤ zs.length ∧ i = .int .i64 k ∧ J (zs.take k) wr ∧ Below n₀ W wr)
  (fun i _ => zs.length - (intOf i).toNat)
 case atStart => exact ⟨0, Nat.zero_le _, rfl, h0, Below.refl _ _⟩
 case round =>
  obtain ⟨k, hk, rfl, hJs, hnx⟩ := hrel
  by_cases hlt : k < zs.length
  ·have hcx := hc k hlt
   have c0 := (hnx.cell (p := ⟨b, off + k * 2, none⟩) hb).trans hcx.1
   have c1 := (hnx.cell (p := ⟨b, off + k * 2 + 1, none⟩) hb).trans hcx.2
   have n1 := my_alloc_new wr (.cells #[.string zs[k].f0, .string zs[k].f1] 55)
   have c2 : (wr.alloc (.cells #[.string zs[k].f0, .string zs[k].f1] 55)).cell? ⟨wr.heap.size, 0, none⟩ = some (.string zs[k].f0) := (blk_cell n1 0).trans rfl
   have c3 : (wr.alloc (.cells #[.string zs[k].f0, .string zs[k].f1] 55)).cell? ⟨wr.heap.size, 1, none⟩ = some (.string zs[k].f1) := (blk_cell n1 1).trans rfl
   have hJ1 : J (zs.take k) (wr.alloc (.cells #[.string zs[k].f0, .string zs[k].f1] 55)) := hJ _ _ _ none hJs (World.grownBy_alloc wr _ none) (fun r e => by cases e)
   have hn1 : Below n₀ W (wr.alloc (.cells #[.string zs[k].f0, .string zs[k].f1] 55)) := hnx.alloc (Nat.le_trans hn0 hnx.size) _
   obtain ⟨fn, tmps, assign, body, hy, hR⟩ := hY _ zs[k] _ hJ1 (by rw [List.length_take]; omega)
   have ek : zs.take k ++ [zs[k]] = zs.take (k + 1) := by rw [List.take_add_one, List.getElem?_eq_getElem hlt]; rfl
   rw [ek] at hR
   unfold aggP at hy
   gi_wp2
   refine hR.mono ?_
   rintro e W3 (⟨rfl, hJ3, hk3⟩ | ⟨rfl, hJx3⟩)
   ·gi_wp2
    go_roundw
    case rel => exact ⟨k + 1, by omega, by simp, hJ3, hn1.trans hk3⟩
    case measure => simp [intOf]; omega
   ·gi_wp2
    refine bodyPost_ret (results_none rfl _ _ _) rfl ?_
    exact ⟨⟨_, rfl⟩, .inr ⟨_, List.take_prefix _ _, hJx3⟩⟩
  ·obtain rfl : k = zs.length := by omega
   gi_wp2
   go_end0
   exact ⟨⟨_, rfl⟩, .inl ⟨_, by rw [List.take_length], hJs⟩⟩
theorem valsP1_nil_in (F : Fence) (n : Nat) (h7 : F.fn 75) (hro : F.round = none) (l Bs : Nat) (J : List S55 → World → Prop) (W : World) (c : Nat) (hBs : W.cell? ⟨Bs, 0, none⟩ = some (.slice none 0 c)) (h0 : J [] W) :
  CallsIn F n Tryz.prog 75 #[.func (.yield l) #[] #[], .pointer (some ⟨Bs, 0, none⟩)] W fun e W' => (∃ v, e = .returned v) ∧ J [] W' := by
 refine callsIn_of_wp Tryz.func75 rfl h7 ?_ hro
 simp only [Tryz.ntmps75, List.size_toArray, List.length_cons, List.length_nil, Nat.reduceAdd, Nat.reduceSub, Array.replicate_succ, Array.replicate_zero, List.push_toArray, List.append_toArray, List.nil_append, List.cons_append]
 gi_wp2
 gi_loopw [7] (fun i wr => i = .int .i64 0 ∧ J [] wr) (fun _ _ => 0)
 case atStart => exact ⟨rfl, h0⟩
 case round =>
  obtain ⟨rfl, hJs⟩ := hrel
  gi_wp2
  go_end0
  exact ⟨⟨_, rfl⟩, hJs⟩
theorem valsP_in (F : Fence) (n : Nat) (h5 : F.fn 60) (hro : F.round = none) (a : Option Addr) (len cap : Nat) (w : World) :
  CallsIn F n Tryz.prog 60 #[.slice a len cap] w fun e w' => e = .returned (.func (.func 75) #[] #[.pointer (some ⟨w.heap.size, 0, none⟩)]) ∧ w' = w.alloc (.cells #[.slice a len cap] 26) := by
 refine callsIn_of_wp Tryz.func60 rfl h5 ?_ hro
 simp only [Tryz.ntmps60, List.size_toArray, List.length_cons, List.length_nil, Nat.reduceAdd, Nat.reduceSub, Array.replicate_succ, Array.replicate_zero, List.push_toArray, List.append_toArray, List.nil_append, List.cons_append]
 gi_wp2
 go_ret
 exact ⟨rfl, rfl⟩
theorem valsP_stops (F : Fence) (n : Nat) (h7 : F.fn 75) (hro : F.round = none) (hn : 1 ≤ n) (Bs n₀ : Nat) (A : Option Addr) (c : Nat) (zs : List S55) (hz : zs.length ≤ 1000000000) (w : World) (hBs : Bs < w.heap.size) (hn₀ : n₀ ≤ w.heap.size)
  (hc : w.cell? ⟨Bs, 0, none⟩ = some (.slice A zs.length c)) (hI : CutP n₀ w A zs) :
  SeqStopsK F n Tryz.prog 75 #[.pointer (some ⟨Bs, 0, none⟩)] (fun x : S55 => #[aggP x]) (Below n₀) (fun ys => ys = zs) (fun pre => pre <+: zs) zs.length w := fun l J Jx W hW hJ _ hY h0 => by
 have hc' := (hW.cell (p := ⟨Bs, 0, none⟩) hBs).trans hc
 rcases hI.below (hW.mono hn₀) with ⟨rfl, rfl⟩ | ⟨b, off, rfl, hb, hcs⟩
 ·exact (valsP1_nil_in F n h7 hro l Bs J W c hc' h0).mono fun e W' ⟨he, hj⟩ => ⟨he, .inl ⟨_, rfl, hj⟩⟩
 ·exact valsP1_in F n h7 hro hn l Bs n₀ b off c zs hz hb J Jx W (Nat.le_trans hn₀ hW.size) hJ hY hc' hcs h0
end
theorem rowcells {w : World} {base gr c : Nat} {l : List S55} (h : w.ownsRow base 55 2 (.slice (some ⟨gr, 0, none⟩) l.length c) l.length (encP l)) :
  gr < w.heap.size ∧ base ≤ gr ∧ ∀ j (hj : j < l.length), w.cell? ⟨gr, j * 2, none⟩ = some (.string l[j].f0) ∧ w.cell? ⟨gr, j * 2 + 1, none⟩ = some (.string l[j].f1) := by
 rcases h.2 with ⟨e, hx⟩ | ⟨g, cap, cur, e, hb, hg, hn, hm, hs, hx⟩
 ·cases e
 ·injection e with e1 e2 e3
  injection e1 with e1
  injection e1 with e1
  subst e1 e3
  refine ⟨blk_lt hg, hb, fun j hj => ?_⟩
  have hd : ((encP l).drop (j * 2)) = .string l[j].f0 :: .string l[j].f1 :: encP (l.drop (j + 1)) := by
   rw [(encP_split l j (by omega)).2, List.drop_eq_getElem_cons hj]; rfl
  have hget : ∀ i, i < l.length * 2 → w.cell? ⟨gr, i, none⟩ = (encP l)[i]? := by
   intro i hi
   rw [blk_cell hg i, ← hx, List.getElem?_take_of_lt hi, Array.getElem?_toList]
  constructor
  ·rw [hget _ (by omega), ← Nat.add_zero (j * 2), ← List.getElem?_drop, hd]; rfl
  ·rw [hget _ (by omega), ← List.getElem?_drop, hd]; rfl
theorem isPrefixOf_take : ∀ (a b : List UInt8), a.isPrefixOf b = (decide (a.length ≤ b.length) && (b.take a.length == a))
 | [], b => by simp
 | x :: a, [] => by simp
 | x :: a, y :: b => by
  rw [List.isPrefixOf_cons_cons, isPrefixOf_take a b]
  by_cases hxy : x = y
  ·subst hxy; simp
  ·have h2 : (x == y) = false := beq_eq_false_iff_ne.2 hxy
   have h3 : ((y :: b).take (x :: a).length == x :: a) = false := beq_eq_false_iff_ne.2 (fun e => hxy (List.cons.inj e).1.symm)
   rw [h2, h3, Bool.false_and, Bool.and_false]
theorem hasPrefix_f (a b : ByteArray) : strings_HasPrefix.f a b = some (b.toList.isPrefixOf a.toList) := by
 have hla : a.toList.length = a.size := by rw [ByteArray.toList_eq]; rfl
 have hlb : b.toList.length = b.size := by rw [ByteArray.toList_eq]; rfl
 unfold strings_HasPrefix.f stringslite_HasPrefix.f
 rw [isPrefixOf_take, hla, hlb]
 by_cases h : b.size ≤ a.size
 ·rw [if_pos (by omega), if_pos (by omega), if_pos (by omega), decide_eq_true h, Bool.true_and]
  have e : (a.extract 0 ((b.size : Int)).toNat).toList = a.toList.take b.size := by
   rw [ByteArray.toList_eq, ByteArray.toList_eq]
   simp
  rw [Option.bind_some, e]
 ·rw [if_neg (by omega), decide_eq_false h, Bool.false_and, Option.bind_some]
theorem encP_get : ∀ (l : List S55) (j : Nat) (u : Value), (encP l)[j]? = some u → ∃ i, ∃ hi : i < l.length, (j = i * 2 ∧ u = .string l[i].f0) ∨ (j = i * 2 + 1 ∧ u = .string l[i].f1)
 | [], j, u, h => by simp [encP] at h
 | a :: t, 0, u, h => ⟨0, by simp, .inl ⟨rfl, (Option.some.inj h).symm⟩⟩
 | a :: t, 1, u, h => ⟨0, by simp, .inr ⟨rfl, (Option.some.inj h).symm⟩⟩
 | a :: t, j + 2, u, h => by
  obtain ⟨i, hi, hx⟩ := encP_get t j u h
  refine ⟨i + 1, by simpa using hi, ?_⟩
  rcases hx with ⟨e1, e2⟩ | ⟨e1, e2⟩
  ·exact .inl ⟨by omega, e2⟩
  ·exact .inr ⟨by omega, e2⟩
theorem CutP.flat {n₀ : Nat} {W : World} {A : Option Addr} {l m : List S55} (h : CutP n₀ W A l) (hm : m <+: l) :
  (A = none → m = []) ∧ ∀ a, A = some a → ∀ j u, (encP m)[j]? = some u → W.cell? (a.add j) = some u := by
 obtain ⟨r, rfl⟩ := hm
 rcases h with ⟨rfl, e⟩ | ⟨b, off, rfl, _, hc⟩
 ·exact ⟨fun _ => (List.append_eq_nil_iff.1 e).1, fun a ha => (by cases ha)⟩
 ·refine ⟨fun ha => (by cases ha), fun a ha j u hj => ?_⟩
  injection ha with ha
  subst ha
  obtain ⟨i, hi, hx⟩ := encP_get m j u hj
  have hci := hc i (by rw [List.length_append]; omega)
  rw [List.getElem_append_left hi] at hci
  have ha : (⟨b, off, none⟩ : Addr).add j = ⟨b, off + j, none⟩ := by unfold Addr.add; split <;> simp_all
  rw [ha]
  rcases hx with ⟨rfl, rfl⟩ | ⟨rfl, rfl⟩
  ·exact hci.1
  ·exact hci.2
def calmQ (Q : Exit → Act → World → Prop) : Exit → Act → World → Prop
 | .normal, a, w => Q .normal a w
 | _, _, _ => False
theorem wp_calm {P : Program} {c : Code} {Q : Exit → Act → World → Prop} {a : Act} {w : World} (h : c.wp P (calmQ Q) a w) : c.wp P Q a w :=
 wp_mono h (fun e a w h => by cases e <;> first | exact h | exact False.elim h)
theorem calmQ_normal {Q : Exit → Act → World → Prop} {a : Act} {w : World} : calmQ Q .normal a w = Q .normal a w := rfl
theorem takeWhile_pre {α : Type} (f : α → Bool) : ∀ (m r : List α), (∀ x ∈ m, f x = true) → (m ++ r).takeWhile f = m ++ r.takeWhile f
 | [], r, _ => rfl
 | x :: m, r, h => by
  rw [List.cons_append, List.takeWhile_cons, if_pos (h x List.mem_cons_self), takeWhile_pre f m r (fun y hy => h y (List.mem_cons_of_mem _ hy)), List.cons_append]
section
attribute [local go_sem] Oper.semAt_some
theorem st_begins (base g : Nat) (v : Value) (l : List S55) (pre0 : ByteArray) (w : World) (h : StoreIs base g v l w) (hl : l.length ≤ 1000000000) :
  Calls Tryz.prog 38 #[.pointer (some ⟨g, 0, none⟩), .string pre0] w fun e w' => ∃ v', e = .returned v' ∧ w'.ownsRow w.heap.size 55 2 v' (allK l pre0).length (encP (allK l pre0)) ∧ Below w.heap.size w w' := by
 obtain ⟨al, hal⟩ : ∃ al, allK l pre0 = al := ⟨_, rfl⟩
 rw [hal]
 have h1 : 1 ≤ 8 := by decide
 obtain ⟨A, c, rfl, hnc, hc63⟩ := row_slice h.2.2.2
 have hgs := blk_lt h.2.2.1
 have hp := posK_le l pre0
 obtain ⟨A', hA⟩ : ∃ A', (if c = posK l pre0 then A else A.map (·.add (posK l pre0 * 2))) = A' := ⟨_, rfl⟩
 have e1 : ∀ w, (Instr.sliceAt 26 (.slice A l.length c) (some (.int .i64 (posK l pre0))) none none).run Tryz.prog w = .ok (.slice A' (l.length - posK l pre0) (c - posK l pre0)) w := by
  intro w
  simp [go_sem, ← hA]
  intro hx
  omega
 have e2 : ∀ (k : Nat) w, k ≤ l.length - posK l pre0 → (Instr.sliceAt 26 (.slice A l.length c) (some (.int .i64 (posK l pre0))) (some (.int .i64 ((posK l pre0 : Int) + (k : Int)))) none).run Tryz.prog w = .ok (.slice A' k (c - posK l pre0)) w := by
  intro k w h1
  have e0 : (posK l pre0 : Int) + (k : Int) = ((posK l pre0 + k : Nat) : Int) := by omega
  rw [e0]
  obtain ⟨t, ht⟩ : ∃ t, posK l pre0 + k = t := ⟨_, rfl⟩
  rw [ht]
  simp [go_sem, ← hA]
  rw [if_pos (by omega : t ≤ c), if_pos (by omega : posK l pre0 ≤ t), show t - posK l pre0 = k by omega]
 have hcut : CutP w.heap.size w A' (l.drop (posK l pre0)) := by
  have hx := h.2.2.2
  cases A with
  | none =>
   rcases hx.2 with ⟨e, hn⟩ | ⟨g', cap, cur, e, _⟩
   ·exact .inl ⟨by rw [← hA]; split <;> rfl, by rw [List.length_eq_zero_iff.1 hn]; rfl⟩
   ·cases e
  | some a =>
   obtain ⟨gr, rfl⟩ : ∃ gr, a = ⟨gr, 0, none⟩ := by
    rcases hx.2 with ⟨e, _⟩ | ⟨g', cap, cur, e, _⟩
    ·cases e
    ·injection e with e1; injection e1 with e1; exact ⟨g', e1⟩
   obtain ⟨hgr, _, hcell⟩ := rowcells hx
   by_cases hcp : c = posK l pre0
   ·rw [if_pos hcp] at hA
    refine .inr ⟨gr, 0, hA.symm, hgr, fun j hj => ?_⟩
    rw [List.length_drop] at hj; omega
   ·rw [if_neg hcp, Option.map_some, add_plain] at hA
    refine .inr ⟨gr, posK l pre0 * 2, hA.symm, hgr, fun j hj => ?_⟩
    have hj' : posK l pre0 + j < l.length := by rw [List.length_drop] at hj; omega
    have hcx := hcell _ hj'
    rw [List.getElem_drop]
    rw [show (posK l pre0 + j) * 2 = posK l pre0 * 2 + j * 2 by omega] at hcx
    exact hcx
 have hb1 : Below w.heap.size w (w.alloc (.cells #[.string pre0] 9)) := (Below.refl _ w).alloc (Nat.le_refl _) _
 have s1 : StoreAt base g l (w.alloc (.cells #[.string pre0] 9)) := StoreIs.at_ (v := .slice A l.length c) ⟨h.1, h.2.1, blk_below h.2.2.1 hb1, own_below h.2.2.2 hb1⟩
 have p1 := Boxed.new w 9 (.string pre0)
 have x1 := p1.cell
 refine (callsIn_wide (n := 8)).1 ?_
 refine callsIn_of_wp_marks Tryz.func38 rfl trivial ?_ rfl
 simp only [Tryz.ntmps38, List.size_toArray, List.length_cons, List.length_nil, Nat.reduceAdd, Nat.reduceSub, Array.replicate_succ, Array.replicate_zero, List.push_toArray, List.append_toArray, List.nil_append, List.cons_append]
 refine wpIn_wide.2 ?_
 go_wp2
 go_step3
 go_wp2_with fail
 refine (st_at base g l pre0 _ s1 hl).mono ?_
 rintro e w2 ⟨rfl, hb2⟩
 have hb02 := hb1.trans (hb2.mono (by rw [my_alloc_size]; omega))
 have p2 : Boxed w2 w.heap.size 9 (.string pre0) := (hb2.block _ p1.lt).trans p1
 have y0 : ∀ o, (w2.alloc o).cell? ⟨g, 0, none⟩ = some (.slice A l.length c) := fun o => (blk_cell (blk_alloc (blk_below h.2.2.1 hb02) o) 0).trans rfl
 clear x1
 go_wp2
 go_step3
 go_wp2_with fail
 refine (callsIn_wide.1 (valsP_in Fence.wide 8 trivial rfl _ _ _ _)).mono ?_
 rintro e w4 ⟨rfl, rfl⟩
 have b3 := Boxed.new w2 3 (.int .i64 (posK l pre0 : Int))
 obtain ⟨w3, hw3⟩ : ∃ w3, w2.alloc (.cells #[.int .i64 (posK l pre0 : Int)] 3) = w3 := ⟨_, rfl⟩
 rw [hw3] at b3 ⊢
 go_wp2
 have hsz3 : w2.heap.size < w3.heap.size := by rw [← hw3, my_alloc_size]; omega
 have hsz02 := hb02.size
 have hw2 := p2.lt
 have hB3 : Below w.heap.size w w3 := by rw [← hw3]; exact hb02.alloc (by omega) _
 have p3 : Boxed w3 w.heap.size 9 (.string pre0) := by rw [← hw3]; exact p2.alloc _
 have bN := Boxed.new w3 26 (.slice A' (l.length - posK l pre0) (c - posK l pre0))
 have b5 := b3.alloc (.cells #[.slice A' (l.length - posK l pre0) (c - posK l pre0)] 26)
 have p5 := p3.alloc (.cells #[.slice A' (l.length - posK l pre0) (c - posK l pre0)] 26)
 have hB5 := hB3.alloc (by omega) (.cells #[.slice A' (l.length - posK l pre0) (c - posK l pre0)] 26)
 have hsz5 : w3.heap.size < (w3.alloc (.cells #[.slice A' (l.length - posK l pre0) (c - posK l pre0)] 26)).heap.size := by rw [my_alloc_size]; omega
 obtain ⟨w5, hw5⟩ : ∃ w5, w3.alloc (.cells #[.slice A' (l.length - posK l pre0) (c - posK l pre0)] 26) = w5 := ⟨_, rfl⟩
 rw [hw5] at bN b5 p5 hB5 hsz5 ⊢
 clear hw5 b3 p3 hB3 hw3
 refine (wpIn_wide (n := 8)).1 ?_
 refine wpIn_rangeFunc_ownH rfl h1 (gf := 75) (lb := #[.pointer (some ⟨w3.heap.size, 0, none⟩)]) rfl trivial (enters_of Tryz.func75 (by kernel_rfl) rfl)
  (valsP_stops Fence.wide (8 - 1) trivial rfl (by decide) w3.heap.size w.heap.size A' (c - posK l pre0) (l.drop (posK l pre0)) (by rw [List.length_drop]; omega) w5 (by omega) (by omega) (by rw [List.length_drop]; exact bN.cell) (hcut.below hB5)) belowK_t (belowK_b (by omega)) (Below.refl _ _) (fun _ => rfl)
  (fun pre W => ((Boxed W w2.heap.size 3 (.int .i64 ((posK l pre0 + pre.length : Nat) : Int)) ∧ Boxed W w.heap.size 9 (.string pre0)) ∧ (∀ x ∈ pre, pre0.toList.isPrefixOf x.f0.toList = true)) ∧ Below w.heap.size w W)
  (fun c pre W => (c = .exit 0 ∧ ∃ ini last, pre = ini ++ [last] ∧ (∀ x ∈ ini, pre0.toList.isPrefixOf x.f0.toList = true) ∧ pre0.toList.isPrefixOf last.f0.toList = false ∧ Boxed W w2.heap.size 3 (.int .i64 ((posK l pre0 + ini.length : Nat) : Int))) ∧ Below w.heap.size w W)
  (OwnFrom.and (OwnFrom.and (OwnFrom.and (Own.from (boxed_own _ _ _) _) (Own.from (boxed_own _ _ _) _)) (ownFrom_pure _ _)) (ownFrom_below (Nat.le_refl _) (by omega)))
  (fun c => OwnFrom.and (fun s X Y row hs hg hr => by
   obtain ⟨e1, ini, last, e2, e3, e4, e5⟩ := hs
   exact ⟨e1, ini, last, e2, e3, e4, boxed_own w2.heap.size 3 (fun (_ : Unit) => Value.int .i64 ((posK l pre0 + ini.length : Nat) : Int)) () X Y row e5 hg (fun r e => (hr r e).2)⟩) (ownFrom_below (Nat.le_refl _) (by omega)))
  ⟨⟨⟨b5, p5⟩, fun x hx => absurd hx (by simp)⟩, hB5⟩
  (fun x a' W => ∃ Bx, w2.heap.size < Bx ∧ W.heap[Bx]? = some (.cells #[.string x.f0, .string x.f1] 55 (0, 0)) ∧ a' = { tmps := #[.pointer (some ⟨g, 0, none⟩), .string pre0, undef, .pointer (some ⟨w.heap.size, 0, none⟩), .slice none 0 0, .int .i64 (posK l pre0), .bool (hasK l pre0), .pointer (some ⟨w2.heap.size, 0, none⟩), .pointer (some ⟨Bx, 0, none⟩), .pointer (some ⟨g, 0, none⟩), .bool false, .tuple #[.int .i64 (posK l pre0), .bool (hasK l pre0)], .pointer (some ⟨g, 0, none⟩), .string pre0, .tuple #[.int .i64 (posK l pre0), .bool (hasK l pre0)], .int .i64 (posK l pre0), .bool (hasK l pre0), .int .i64 (posK l pre0), .pointer (some ⟨g, 0, none⟩), .pointer (some ⟨g, 0, none⟩), .pointer (some ⟨g, 0, none⟩), .slice A l.length c, .int .i64 (posK l pre0), .slice A' (l.length - posK l pre0) (c - posK l pre0), .func (.func 75) #[] #[.pointer (some ⟨w3.heap.size, 0, none⟩)], .agg #[.string x.f0, .string x.f1], undef, undef, undef, undef, undef, undef, undef, undef, undef, undef, undef, undef, undef, undef, undef], defers := [] })
  (fun x a' _ X Y row hs hg hr => by
   obtain ⟨Bx, h1, h2, h3⟩ := hs
   refine ⟨Bx, h1, (hg.block Bx (blk_lt h2) (fun e' => ?_)).trans h2, h3⟩
   obtain ⟨_, o, ho, hc⟩ := hr Bx e'.symm
   rw [h2] at ho; cases ho; cases hc)
  ?assign ?body ?done ?stop
 case assign =>
  rintro lp pre x W K ⟨⟨⟨b6, p6⟩, hall⟩, hB6⟩ hK
  unfold aggP
  have nx := my_alloc_new W (.cells #[.string x.f0, .string x.f1] 55)
  gi_wp2
  exact hK _ _ ((KeepsOthers.alloc _ _).from _) ((Below.refl _ W).alloc hB6.size _) ⟨⟨⟨b6.alloc _, p6.alloc _⟩, hall⟩, hB6.alloc hB6.size _⟩ ⟨W.heap.size, b6.lt, nx, rfl⟩
 case body =>
  rintro lp pre x a' W hlp _ ⟨⟨⟨b6, p6⟩, hall⟩, hB6⟩ ⟨Bx, hBx, bX, rfl⟩ hlt
  have c1 := p6.cell
  have c2 : ∀ n, (W.drewN n).cell? _ = _ := fun n => b6.cell
  have f2 : ∀ n, (W.drewN n).frozen? _ = _ := fun n => b6.frozen
  have cx : W.cell? ⟨Bx, 0, none⟩ = some (.string x.f0) := (blk_cell bX 0).trans rfl
  have hpl : pre.length < l.length - posK l pre0 := by rw [← List.length_drop]; exact hlt
  gi_wp2_with (refine ⟨trivial, ?_⟩; gi_at_call 61; refine (CallsIn.inRound lp (callsIn_wide.2 (strings_HasPrefix.calls _ _ _ _ (hasPrefix_f _ _)))).mono ?_; rintro e w' ⟨rfl, hd⟩; obtain ⟨nd, rfl⟩ := hd.out)
  ·have hx : (!pre0.toList.isPrefixOf x.f0.toList) = true := by assumption
   exact ⟨KeepsOthers.from (⟨Nat.le_refl _, fun _ _ h _ => h⟩ : KeepsOthers W (W.drewN nd)) _, ⟨rfl, pre, x, rfl, hall, by simpa using hx, b6⟩, pw_below_drewN hB6 nd⟩
  ·have hx : (!pre0.toList.isPrefixOf x.f0.toList) = false := by assumption
   have ev : ((posK l pre0 + (pre ++ [x]).length : Nat) : Int) = (posK l pre0 : Int) + (pre.length : Int) + 1 := by rw [List.length_append, List.length_singleton]; omega
   have b7 : Boxed (W.drewN nd) w2.heap.size 3 (.int .i64 ((posK l pre0 + pre.length : Nat) : Int)) := b6
   have p7 : Boxed (W.drewN nd) w.heap.size 9 (.string pre0) := p6
   refine ⟨KeepsFrom.trans (KeepsOthers.from (⟨Nat.le_refl _, fun _ _ h _ => h⟩ : KeepsOthers W (W.drewN nd)) _) ((KeepsOthers.setCell _ _ _).from _), Below.setCell (pw_below_drewN (Below.refl _ _) nd) (p := ⟨w2.heap.size, 0, none⟩) hsz02 _, ⟨⟨by rw [ev]; exact b7.set _, p7.other (by omega) _⟩, fun y hy => ?_⟩, Below.setCell (pw_below_drewN hB6 nd) (p := ⟨w2.heap.size, 0, none⟩) hsz02 _⟩
   rcases List.mem_append.1 hy with hy | hy
   ·exact hall y hy
   ·rw [List.mem_singleton.1 hy]; simpa using hx
 case' done =>
  rintro D ms W hD hms ⟨⟨⟨b6, p6⟩, hall⟩, hB6⟩ hK
  have hpre : ms <+: l.drop (posK l pre0) := by rw [hms]; exact List.prefix_refl _
  have hall2 : allK l pre0 = ms := by
   have h := takeWhile_pre (fun x : S55 => pre0.toList.isPrefixOf x.f0.toList) ms [] hall
   rw [List.append_nil, List.takeWhile_nil, List.append_nil] at h
   unfold allK; rw [← hms]; exact h
  clear hms p6 hall
 case' stop =>
  rintro D c' pre W hD hpre1 ⟨⟨rfl, ms, last, rfl, hini, hlast, b6⟩, hB6⟩ hK
  have hpre : ms <+: l.drop (posK l pre0) := (List.prefix_append ms [last]).trans hpre1
  have hall2 : allK l pre0 = ms := by
   obtain ⟨r, hr⟩ := hpre1
   unfold allK
   rw [← hr, List.append_assoc, takeWhile_pre _ ms _ hini, List.singleton_append, List.takeWhile_cons, if_neg (by rw [hlast]; simp), List.append_nil]
  clear hpre1 hini hlast
  refine wpIn_wide.2 ?_
 all_goals
  replace hall2 := As_ (hal.symm.trans hall2)
  have hml := hpre.length_le
  rw [List.length_drop] at hml
  have e3 := fun w => e2 ms.length w (by omega)
  have yW : W.cell? ⟨g, 0, none⟩ = some (.slice A l.length c) := (hB6.cell (p := ⟨g, 0, none⟩) hgs).trans ((blk_cell h.2.2.1 0).trans rfl)
  have cW : W.cell? ⟨w2.heap.size, 0, none⟩ = some (.int .i64 ((posK l pre0 : Int) + (ms.length : Int))) := b6.cell
  obtain ⟨f1, f2⟩ := CutP.flat (hcut.below hB6) hpre
  clear e1 e2 s1 p1 p2 hcut b6 hpre hal
  go_upto_region 9 with (fail)
  refine wp_calm ?_
  have hml2 : ms.length ≤ 1000000000 := by omega
  have hclone := clone_calls A' (c - posK l pre0) ms W.drew hml2 f1 f2
  go_region_with (go_at_call 26; refine hclone.mono ?_; rintro e w7 ⟨v7, rfl, o7, hb7⟩)
  all_goals
   rw [calmQ_normal]
   simp only [List.getElem_toArray, List.getElem_cons_succ, List.getElem_cons_zero, Act.put, List.setIfInBounds_toArray, List.set_cons_succ, List.set_cons_zero]
   have hK7 : w7.heap[D]? = some (.deferred (some [])) := (hb7.block D (blk_lt hK)).trans hK
   have hBw : Below w.heap.size w w7 := (below_drew hB6).trans (hb7.mono hB6.size)
   have hfin : ∃ v', Ending.returned v7 = .returned v' ∧ (w7.putObj D (.deferred none)).ownsRow w.heap.size 55 2 v' al.length (encP al) ∧ Below w.heap.size w (w7.putObj D (.deferred none)) :=
    ⟨v7, rfl, by rw [hall2.out]; exact ownsRow_putObj (own_weaken o7 hB6.size) _ hK7 rfl, hBw.trans (belowK_b (w := w) (Nat.le_refl _) w7 D _ _ (by omega) hK7 rfl rfl)⟩
   replace hfin := As_ hfin
   clear hclone o7 hb7 hBw f2 f1 e3 yW cW
   go_wp2
   try rw [Exit.noGoto_ret]
   refine ⟨by simp, .inl ⟨_, _, rfl, run_takeDeferred hK7, ?_⟩⟩
   refine ⟨_, results_tmp rfl _ _ _, ?_⟩
   exact hfin.out
end
theorem st_new (w : World) : Calls Tryz.prog 14 #[] w fun e w' => e = .returned (.pointer (some ⟨w.heap.size, 0, none⟩)) ∧ StoreIs w.heap.size w.heap.size (.slice none 0 0) [] w' ∧ Below w.heap.size w w' := by
 have n1 := my_alloc_new w (.cells #[.slice none 0 0] 62)
 have hfin : StoreIs w.heap.size w.heap.size (.slice none 0 0) [] (w.alloc (.cells #[.slice none 0 0] 62)) := ⟨Nat.le_refl _, List.Pairwise.nil, n1, World.ownsRow_nil _ _ _ _⟩
 have hb : Below w.heap.size w (w.alloc (.cells #[.slice none 0 0] 62)) := (Below.refl _ w).alloc (Nat.le_refl _) _
 replace hfin := As_ hfin
 replace hb := As_ hb
 clear n1
 go_enter Tryz.func14, Tryz.ntmps14
 go_wp2
 go_ret
 exact ⟨rfl, hfin.out, hb.out⟩
theorem allK_nil (l : List S55) : allK l ⟨#[]⟩ = l := by
 have e0 : (⟨#[]⟩ : ByteArray).toList = [] := by rw [ByteArray.toList_eq]
 have hp : posK l ⟨#[]⟩ = 0 := posK_none l _ (fun p _ => by
  unfold kLt
  rw [e0]
  cases p.f0.toList <;> rfl)
 unfold allK
 rw [hp, List.drop_zero]
 have h := takeWhile_pre (fun x : S55 => (⟨#[]⟩ : ByteArray).toList.isPrefixOf x.f0.toList) l [] (fun x _ => by rw [e0]; rfl)
 rw [List.append_nil, List.takeWhile_nil, List.append_nil] at h
 exact h
theorem st_list (base g : Nat) (v : Value) (l : List S55) (w : World) (h : StoreIs base g v l w) (hl : l.length ≤ 1000000000) :
  Calls Tryz.prog 21 #[.pointer (some ⟨g, 0, none⟩)] w fun e w' => ∃ v', e = .returned v' ∧ w'.ownsRow w.heap.size 55 2 v' l.length (encP l) ∧ Below w.heap.size w w' := by
 have hbeg := st_begins base g v l ⟨#[]⟩ w h hl
 rw [allK_nil] at hbeg
 clear h
 go_enter Tryz.func21, Tryz.ntmps21
 go_wp2_with fail
 refine hbeg.mono ?_
 rintro e w2 ⟨v2, rfl, o2, hb2⟩
 clear hbeg
 replace o2 := As_ o2
 replace hb2 := As_ hb2
 go_wp2
 go_ret
 exact ⟨_, rfl, o2.out, hb2.out⟩
end
theorem rdP (l : List S55) (i : Nat) (h : i < l.length) : rd_T55 l (i : Int) = l[i] := by
 unfold rd_T55
 rw [Int.toNat_natCast, List.getD_eq_getElem?_getD, List.getElem?_eq_getElem h]; rfl
theorem w64p (n : Nat) (h : n < 4398046511104) : wrap64 ((n : Int) + 1) = ((n + 1 : Nat) : Int) := by
 unfold wrap64; omega
theorem setK_len (l : List S55) (key value : ByteArray) : (setK l key value).length ≤ l.length + 1 := by
 unfold setK
 split
 ·rw [List.length_set]; omega
 ·rw [List.length_append, List.length_cons, List.length_take, List.length_drop]; omega
theorem delK_len (l : List S55) (key : ByteArray) : (delK l key).length ≤ l.length := by
 unfold delK
 split
 ·rw [List.length_append, List.length_take, List.length_drop]; omega
 ·exact Nat.le_refl _
theorem StoreIs.below {base g : Nat} {v : Value} {l : List S55} {w w' : World} (h : StoreIs base g v l w) (hb : Below w.heap.size w w') : StoreIs base g v l w' := ⟨h.1, h.2.1, blk_below h.2.2.1 hb, own_below h.2.2.2 hb⟩
theorem StoreIs.glt {base g : Nat} {v : Value} {l : List S55} {w : World} (h : StoreIs base g v l w) : g < w.heap.size := blk_lt h.2.2.1
def ByP (g : Nat) (v : Value) (w : World) (xv : Value) (l : List S55) : Prop := Kd.V k55 55 w 0 (fun k => k ≠ g ∧ some k ≠ v.ownBlock) xv l
theorem ByP.store {g : Nat} {v v' : Value} {w w' : World} {xv : Value} {l : List S55} (hx : ByP g v w xv l) (hw : StoreW g v w w') (hv : v'.ownBlock = v.ownBlock ∨ ∃ b, v'.ownBlock = some b ∧ w.heap.size ≤ b) : ByP g v' w' xv l := by
 have h2 := Kd.V_step (Kd.V_bound hx) (fun k hk hlt => hw.block k hlt hk.1.1 hk.1.2)
 refine Kd.V_mono h2 (fun k hk => ⟨hk.1.1, ?_⟩)
 rcases hv with hv | ⟨b, hv, hle⟩
 ·rw [hv]; exact hk.1.2
 ·rw [hv]; intro e; injection e with e; have := hk.2; omega
theorem ByP.below {g : Nat} {v : Value} {w w' : World} {xv : Value} {l : List S55} (hx : ByP g v w xv l) (hb : Below w.heap.size w w') : ByP g v w' xv l := Kd.V_below hx hb
theorem StoreIs.other {b' g' base g : Nat} {u v : Value} {m l : List S55} {w w' : World} (h : StoreIs b' g' u m w) (hs : StoreIs base g v l w) (hw : StoreW g v w w') (h1 : g' ≠ g) (h2 : u.ownBlock = none ∨ u.ownBlock ≠ v.ownBlock) : StoreIs b' g' u m w' := by
 refine ⟨h.1, h.2.1, (hw.block g' h.glt h1 (own_ne hs.2.2.2 h.2.2.1 (by decide))).trans h.2.2.1, ?_⟩
 refine ⟨h.2.2.2.1, ?_⟩
 rcases h.2.2.2.2 with hn | ⟨gr, cap, cur, rfl, hb, hgg, rest⟩
 ·exact .inl hn
 ·refine .inr ⟨gr, cap, cur, rfl, hb, (hw.block gr (blk_lt hgg) (blk_ne hgg hs.2.2.1 (by decide)) ?_).trans hgg, rest⟩
  have e : (Value.slice (some ⟨gr, 0, none⟩) m.length cap).ownBlock = some gr := rfl
  rw [e] at h2
  rcases h2 with h2 | h2
  ·exact absurd h2 (by simp)
  ·exact h2
theorem StoreW.toBelow {n base g : Nat} {v : Value} {l : List S55} {w w1 w2 : World} (hb : Below n w w1) (hn : n ≤ w1.heap.size) (hs : StoreIs base g v l w1) (hbase : n ≤ base) (hw : StoreW g v w1 w2) : Below n w w2 :=
 hb.trans ⟨hw.os, hw.tape, hw.output, hw.size, fun i hi => hw.block i (Nat.lt_of_lt_of_le hi hn) (by have := hs.1; omega) (fun e => by have := (hs.2.2.2.lt i e.symm).1; omega)⟩
structure JSt where
 cur : List S55
 lv : List (List S113)
def encU (l : List S113) : List Value := l.flatMap (fun p => [.string p.f0, .string p.f1, .bool p.f2])
theorem encU_append (l m : List S113) : encU (l ++ m) = encU l ++ encU m := by unfold encU; rw [List.flatMap_append]
structure LvIs (base : Nat) (ok : Nat → Prop) (lvv : Value) (vs : List Value) (L : List (List S113)) (w : World) : Prop where
 len : vs.length = L.length
 ok0 : ∀ k, lvv.ownBlock = some k → ok k
 own : w.ownsRow base 111 1 lvv L.length vs
 row : ∀ (i : Nat) v l, vs[i]? = some v → L[i]? = some l → w.ownsRow base 113 3 v l.length (encU l)
 oks : ∀ (i : Nat) v k, vs[i]? = some v → v.ownBlock = some k → ok k
 dis : ∀ (i j : Nat) a b k, i ≠ j → vs[i]? = some a → vs[j]? = some b → a.ownBlock = some k → b.ownBlock ≠ some k
theorem LvIs.mono {base : Nat} {ok ok' : Nat → Prop} {lvv : Value} {vs : List Value} {L : List (List S113)} {w : World} (h : LvIs base ok lvv vs L w) (hk : ∀ k, ok k → ok' k) : LvIs base ok' lvv vs L w :=
 ⟨h.len, fun k e => hk k (h.ok0 k e), h.own, h.row, fun i v k e1 e2 => hk k (h.oks i v k e1 e2), h.dis⟩
theorem LvIs.get {base : Nat} {ok : Nat → Prop} {lvv : Value} {vs : List Value} {L : List (List S113)} {w : World} (h : LvIs base ok lvv vs L w) {i : Nat} {v : Value} (e : vs[i]? = some v) : ∃ l, L[i]? = some l ∧ w.ownsRow base 113 3 v l.length (encU l) := by
 have hi : i < L.length := by rw [← h.len]; exact (List.getElem?_eq_some_iff.1 e).1
 exact ⟨L[i], List.getElem?_eq_getElem hi, h.row i v _ e (List.getElem?_eq_getElem hi)⟩
theorem LvIs.step {base : Nat} {ok : Nat → Prop} {lvv : Value} {vs : List Value} {L : List (List S113)} {w w1 : World} (h : LvIs base ok lvv vs L w)
  (hm : ∀ k, ok k → base ≤ k → k < w.heap.size → (∃ cells, w.heap[k]? = some (.cells cells 111 (0, 0)) ∨ w.heap[k]? = some (.cells cells 113 (0, 0))) → w1.heap[k]? = w.heap[k]?) : LvIs base ok lvv vs L w1 := by
 refine ⟨h.len, h.ok0, own_move h.own (fun k hk => ?_), fun i v l e1 e2 => own_move (h.row i v l e1 e2) (fun k hk => ?_), h.oks, h.dis⟩
 ·obtain ⟨cells, hc⟩ := own_typed h.own k hk
  exact hm k (h.ok0 k hk) (own_base h.own k hk) (own_lt h.own k hk) ⟨cells, .inl hc⟩
 ·obtain ⟨cells, hc⟩ := own_typed (h.row i v l e1 e2) k hk
  exact hm k (h.oks i v k e1 hk) (own_base (h.row i v l e1 e2) k hk) (own_lt (h.row i v l e1 e2) k hk) ⟨cells, .inr hc⟩
theorem LvIs.below {base : Nat} {ok : Nat → Prop} {lvv : Value} {vs : List Value} {L : List (List S113)} {w w1 : World} (h : LvIs base ok lvv vs L w) (hb : Below w.heap.size w w1) : LvIs base ok lvv vs L w1 := h.step (fun k _ _ hk _ => hb.block k hk)
theorem LvIs.bound {base : Nat} {ok : Nat → Prop} {lvv : Value} {vs : List Value} {L : List (List S113)} {w : World} (h : LvIs base ok lvv vs L w) : LvIs base (fun k => ok k ∧ base ≤ k ∧ k < w.heap.size ∧ ∃ q, q ∈ [111, 113] ∧ ∃ cells, w.heap[k]? = some (.cells cells q (0, 0))) lvv vs L w := by
 refine ⟨h.len, fun k hk => ?_, h.own, h.row, fun i v k e hk => ?_, h.dis⟩
 ·obtain ⟨cells, hc⟩ := own_typed h.own k hk
  exact ⟨h.ok0 k hk, own_base h.own k hk, own_lt h.own k hk, _, List.mem_cons_self, cells, hc⟩
 ·obtain ⟨l, e2, hr⟩ := h.get e
  obtain ⟨cells, hc⟩ := own_typed hr k hk
  exact ⟨h.oks i v k e hk, own_base hr k hk, own_lt hr k hk, _, List.mem_cons_of_mem _ List.mem_cons_self, cells, hc⟩
theorem LvIs.put {base : Nat} {ok ok' : Nat → Prop} {b c : Nat} {v v' : Value} {vs : List Value} {L : List (List S113)} {l' : List S113} {w w1 : World} {i : Nat} (h : LvIs base ok (.slice (some ⟨b, 0, none⟩) L.length c) vs L w) (hk : ∀ k, ok k → ok' k) (hn : ∀ k, w.heap.size ≤ k → ok' k)
  (hi : vs[i]? = some v) (hr : w1.ownsRow base 113 3 v' l'.length (encU l')) (hg : w.grownBy w1 v.ownBlock) (hat : v'.ownBlock = v.ownBlock ∨ ∃ b, v'.ownBlock = some b ∧ w.heap.size ≤ b) (h1 : v'.oneCell' = true) :
  LvIs base ok' (.slice (some ⟨b, 0, none⟩) L.length c) (vs.set i v') (L.set i l') (w1.setCell ⟨b, i, none⟩ v') := by
 obtain ⟨l, el, hl⟩ := h.get hi
 have hil : i < vs.length := (List.getElem?_eq_some_iff.1 hi).1
 have hbo : (Value.slice (some ⟨b, 0, none⟩) L.length c).ownBlock = some b := rfl
 obtain ⟨cb, hcb⟩ := own_typed h.own b hbo
 have hblt := own_lt h.own b hbo
 have hvb : v.ownBlock ≠ some b := by
  intro e
  obtain ⟨c1, h1⟩ := own_typed hl b e
  rw [h1] at hcb
  injection hcb with h2
  injection h2 with _ h2
  exact absurd h2 (by decide)
 have hv'b : v'.ownBlock ≠ some b := by
  rcases hat with hat | ⟨b', hb, hle⟩
  ·rw [hat]; exact hvb
  ·rw [hb]; intro e; injection e with e; omega
 have hb1 : w1.heap[b]? = w.heap[b]? := hg.block b hblt (fun e => hvb e.symm)
 have hown1 : w1.ownsRow base 111 1 (.slice (some ⟨b, 0, none⟩) L.length c) L.length vs := own_move h.own (fun k e => by rw [hbo] at e; injection e with e; rw [← e]; exact hb1)
 have hset : (w1.setCell ⟨b, i, none⟩ v').ownsRow base 111 1 (.slice (some ⟨b, 0, none⟩) L.length c) L.length (vs.set i v') := by
  rcases hown1.2 with ⟨e, _⟩ | ⟨b2, cap, cur, e, hbb, hgg, hnn, hmm, hss, hxx⟩
  ·cases e
  ·injection e with e1 e2 e3
   injection e1 with e1
   injection e1 with e1
   subst e1; subst e3
   have e1 := setCell_eq_setRow w1 b i cur _ _ v' hgg
   have r5 := setRow_heap w1 b cur (cur.setIfInBounds i v') _ _ hgg
   rw [e1]
   refine ⟨by rw [List.length_set]; exact hown1.1, .inr ⟨b, c, _, rfl, hbb, r5, hnn, hmm, by rw [Array.size_setIfInBounds, hss], ?_⟩⟩
   rw [Array.toList_setIfInBounds, List.take_set, hxx]
 have hfar : ∀ k, k ≠ b → (w1.setCell ⟨b, i, none⟩ v').heap[k]? = w1.heap[k]? := fun k hk => Below.heap_setCell w1 ⟨b, i, none⟩ v' k hk
 refine ⟨by simp [h.len], fun k e => hk k (h.ok0 k e), by rw [List.length_set]; exact hset, fun j u m e1 e2 => ?_, fun j u k e1 e2 => ?_, fun j j2 x y k hjj e1 e2 e3 e4 => ?_⟩
 ·by_cases hji : j = i
  ·subst hji
   rw [List.getElem?_set_self hil] at e1
   rw [List.getElem?_set_self (by rw [← h.len]; exact hil)] at e2
   injection e1 with e1; injection e2 with e2
   subst e1; subst e2
   exact own_move hr (fun k e => hfar k (fun e2 => hv'b (by rw [e, e2])))
  ·rw [List.getElem?_set_ne (Ne.symm hji)] at e1 e2
   have hu := h.row j u m e1 e2
   refine own_move hu (fun k e => ?_)
   obtain ⟨c1, h1⟩ := own_typed hu k e
   have hkb : k ≠ b := by
    rintro rfl
    rw [h1] at hcb
    injection hcb with h2
    injection h2 with _ h2
    exact absurd h2 (by decide)
   rw [hfar k hkb]
   exact hg.block k (own_lt hu k e) (fun e2 => h.dis j i u v k hji e1 hi e e2.symm)
 ·by_cases hji : j = i
  ·subst hji
   rw [List.getElem?_set_self hil] at e1
   injection e1 with e1; subst e1
   rcases hat with hat | ⟨b', hb, hle⟩
   ·exact hk k (h.oks j v k hi (hat ▸ e2))
   ·rw [hb] at e2; injection e2 with e2; exact hn k (by omega)
  ·rw [List.getElem?_set_ne (Ne.symm hji)] at e1
   exact hk k (h.oks j u k e1 e2)
 ·have key : ∀ (j : Nat) x k, j ≠ i → vs[j]? = some x → x.ownBlock = some k → v'.ownBlock ≠ some k := by
   intro j x k hji e1 e2 e3
   rcases hat with hat | ⟨b', hb, hle⟩
   ·exact h.dis j i x v k hji e1 hi e2 (hat ▸ e3)
   ·obtain ⟨m, _, hm⟩ := h.get e1
    have := own_lt hm k e2
    rw [hb] at e3; injection e3 with e3; omega
  by_cases hji : j = i
  ·subst hji
   rw [List.getElem?_set_self hil] at e1
   injection e1 with e1; subst e1
   rw [List.getElem?_set_ne hjj] at e2
   exact key j2 y k (Ne.symm hjj) e2 e4 e3
  ·rw [List.getElem?_set_ne (Ne.symm hji)] at e1
   by_cases hj2 : j2 = i
   ·subst hj2
    rw [List.getElem?_set_self hil] at e2
    injection e2 with e2; subst e2
    exact key j x k hji e1 e3 e4
   ·rw [List.getElem?_set_ne (Ne.symm hj2)] at e2
    exact h.dis j j2 x y k hjj e1 e2 e3 e4
structure JX (base : Nat) (ok : Nat → Prop) (g gs : Nat) (sv lvv : Value) (vs : List Value) (st : JSt) (w : World) : Prop where
 okg : ok g
 oks : ok gs
 okv : ∀ k, sv.ownBlock = some k → ok k
 ge : base ≤ g
 blk : w.heap[g]? = some (.cells #[.pointer (some ⟨gs, 0, none⟩), lvv] 43 (0, 0))
 store : StoreIs base gs sv st.cur w
 lv : LvIs base ok lvv vs st.lv w
def JM (base : Nat) (ok : Nat → Prop) (g : Nat) (st : JSt) (w : World) : Prop := ∃ gs sv lvv vs, JX base ok g gs sv lvv vs st w
structure JW (ok : Nat → Prop) (w w' : World) : Prop where
 os : w'.os = w.os
 tape : w'.tape = w.tape
 output : w'.output = w.output
 size : w.heap.size ≤ w'.heap.size
 block : ∀ i, i < w.heap.size → ¬ ok i → w'.heap[i]? = w.heap[i]?
theorem JW.of_below {ok : Nat → Prop} {w w' : World} (h : Below w.heap.size w w') : JW ok w w' := ⟨h.os, h.tape, h.output, h.size, fun i hi _ => h.block i hi⟩
theorem JW.of_grown {ok : Nat → Prop} {row : Option Nat} {w w' : World} (h : w.grownBy w' row) (hk : ∀ k, row = some k → ok k) : JW ok w w' := ⟨h.os, h.tape, h.output, h.size, fun i hi hn => h.block i hi (fun e => hn (hk i e.symm))⟩
theorem JW.of_store {ok : Nat → Prop} {gs : Nat} {sv : Value} {w w' : World} (h : StoreW gs sv w w') (h1 : ok gs) (h2 : ∀ k, sv.ownBlock = some k → ok k) : JW ok w w' := ⟨h.os, h.tape, h.output, h.size, fun i hi hn => h.block i hi (fun e => hn (e ▸ h1)) (fun e => hn (h2 i e.symm))⟩
theorem JW.set {ok : Nat → Prop} {w : World} {b : Nat} (h : ok b) (j : Nat) (v : Value) : JW ok w (w.setCell ⟨b, j, none⟩ v) := ⟨rfl, rfl, rfl, by simp [World.setCell], fun i _ hn => Below.heap_setCell w ⟨b, j, none⟩ v i (fun e => hn (by rw [e]; exact h))⟩
theorem JW.trans {ok ok' : Nat → Prop} {w w1 w2 : World} (h : JW ok w w1) (k : JW ok' w1 w2) (hk : ∀ i, ok' i → ok i ∨ w.heap.size ≤ i) : JW ok w w2 :=
 ⟨k.os.trans h.os, k.tape.trans h.tape, k.output.trans h.output, Nat.le_trans h.size k.size, fun i hi hn => (k.block i (Nat.lt_of_lt_of_le hi h.size) (fun e => (hk i e).elim hn (fun e => by omega))).trans (h.block i hi hn)⟩
theorem JW.toBelow {n : Nat} {ok : Nat → Prop} {w w1 w2 : World} (hb : Below n w w1) (hn : n ≤ w1.heap.size) (hw : JW ok w1 w2) (hk : ∀ k, ok k → n ≤ k) : Below n w w2 :=
 hb.trans ⟨hw.os, hw.tape, hw.output, hw.size, fun i hi => hw.block i (Nat.lt_of_lt_of_le hi hn) (fun e => by have := hk i e; omega)⟩
theorem JX.step {base : Nat} {ok : Nat → Prop} {g gs : Nat} {sv lvv : Value} {vs : List Value} {st : JSt} {w w1 : World} (h : JX base ok g gs sv lvv vs st w) (hb : Below w.heap.size w w1) : JX base ok g gs sv lvv vs st w1 :=
 ⟨h.okg, h.oks, h.okv, h.ge, blk_below h.blk hb, StoreIs.below h.store hb, h.lv.below hb⟩
theorem JX.mono {base : Nat} {ok ok' : Nat → Prop} {g gs : Nat} {sv lvv : Value} {vs : List Value} {st : JSt} {w : World} (h : JX base ok g gs sv lvv vs st w) (hk : ∀ k, ok k → ok' k) : JX base ok' g gs sv lvv vs st w :=
 ⟨hk _ h.okg, hk _ h.oks, fun k e => hk k (h.okv k e), h.ge, h.blk, h.store, h.lv.mono hk⟩
theorem JM.below {base : Nat} {ok : Nat → Prop} {g : Nat} {st : JSt} {w w1 : World} (h : JM base ok g st w) (hb : Below w.heap.size w w1) : JM base ok g st w1 := by
 obtain ⟨gs, sv, lvv, vs, h⟩ := h
 exact ⟨gs, sv, lvv, vs, h.step hb⟩
theorem JM.mono {base : Nat} {ok ok' : Nat → Prop} {g : Nat} {st : JSt} {w : World} (h : JM base ok g st w) (hk : ∀ k, ok k → ok' k) : JM base ok' g st w := by
 obtain ⟨gs, sv, lvv, vs, h⟩ := h
 exact ⟨gs, sv, lvv, vs, h.mono hk⟩
theorem blk_ty {w : World} {a : Nat} {c d : Array Value} {t u : TypeId} {x y : Nat × Nat} (h1 : w.heap[a]? = some (.cells c t x)) (h2 : w.heap[a]? = some (.cells d u y)) : t = u := by
 rw [h1] at h2
 injection h2 with h2
 injection h2 with _ h2
theorem JX.stored {base : Nat} {ok : Nat → Prop} {g gs : Nat} {sv lvv sv' : Value} {vs : List Value} {st : JSt} {l' : List S55} {w w1 : World} (h : JX base ok g gs sv lvv vs st w) (hs : StoreIs base gs sv' l' w1) (hw : StoreW gs sv w w1) (hat : sv'.ownBlock = sv.ownBlock ∨ ∃ b, sv'.ownBlock = some b ∧ w.heap.size ≤ b) :
  JX base (fun k => ok k ∨ w.heap.size ≤ k) g gs sv' lvv vs { st with cur := l' } w1 := by
 obtain ⟨c0, hc0⟩ : ∃ c, w.heap[gs]? = some (.cells c 62 (0, 0)) := ⟨_, h.store.2.2.1⟩
 have hsv : ∀ k, sv.ownBlock = some k → ∃ c, w.heap[k]? = some (.cells c 55 (0, 0)) := fun k e => own_typed h.store.2.2.2 k e
 refine ⟨.inl h.okg, .inl h.oks, fun k e => ?_, h.ge, ?_, hs, (h.lv.step (fun k _ _ hlt ht => ?_)).mono (fun k hk => .inl hk)⟩
 ·rcases hat with hat | ⟨b, hb, hle⟩
  ·exact .inl (h.okv k (hat ▸ e))
  ·rw [hb] at e; injection e with e; exact .inr (by omega)
 ·refine (hw.block g (blk_lt h.blk) (fun e => ?_) (fun e => ?_)).trans h.blk
  ·rw [← e] at hc0; exact absurd (blk_ty h.blk hc0) (by decide)
  ·obtain ⟨c, hc⟩ := hsv g e.symm
   exact absurd (blk_ty h.blk hc) (by decide)
 ·obtain ⟨cells, ht | ht⟩ := ht
  all_goals
   refine hw.block k hlt (fun e => ?_) (fun e => ?_)
   ·rw [← e] at hc0; exact absurd (blk_ty ht hc0) (by decide)
   ·obtain ⟨c, hc⟩ := hsv k e.symm
    exact absurd (blk_ty ht hc) (by decide)
def JT : List Nat := [43, 62, 55, 111, 113]
theorem JX.bound {base : Nat} {ok : Nat → Prop} {g gs : Nat} {sv lvv : Value} {vs : List Value} {st : JSt} {w : World} (h : JX base ok g gs sv lvv vs st w) : JX base (fun k => ok k ∧ base ≤ k ∧ k < w.heap.size ∧ ∃ q, q ∈ JT ∧ ∃ cells, w.heap[k]? = some (.cells cells q (0, 0))) g gs sv lvv vs st w := by
 refine ⟨⟨h.okg, h.ge, blk_lt h.blk, _, by simp [JT], _, h.blk⟩, ⟨h.oks, h.store.1, blk_lt h.store.2.2.1, _, by simp [JT], _, h.store.2.2.1⟩, fun k e => ?_, h.ge, h.blk, h.store, h.lv.bound.mono (fun k hk => ?_)⟩
 ·obtain ⟨cells, hc⟩ := own_typed h.store.2.2.2 k e
  exact ⟨h.okv k e, own_base h.store.2.2.2 k e, own_lt h.store.2.2.2 k e, _, by simp [JT], cells, hc⟩
 ·obtain ⟨h1, h2, h3, q, hq, hc⟩ := hk
  refine ⟨h1, h2, h3, q, ?_, hc⟩
  simp only [List.mem_cons, List.not_mem_nil, or_false] at hq
  rcases hq with rfl | rfl <;> simp [JT]
theorem JM.bound {base : Nat} {ok : Nat → Prop} {g : Nat} {st : JSt} {w : World} (h : JM base ok g st w) : JM base (fun k => ok k ∧ base ≤ k ∧ k < w.heap.size ∧ ∃ q, q ∈ JT ∧ ∃ cells, w.heap[k]? = some (.cells cells q (0, 0))) g st w := by
 obtain ⟨gs, sv, lvv, vs, h⟩ := h
 exact ⟨gs, sv, lvv, vs, h.bound⟩
def JPost (base : Nat) (ok : Nat → Prop) (g : Nat) (st' : JSt) (r : Value) (w : World) (e : Ending) (w' : World) : Prop := e = .returned r ∧ JM base (fun k => ok k ∨ w.heap.size ≤ k) g st' w' ∧ JW ok w w'
theorem exec_append {P : Program} {o : Oper} {a : Act} {w : World} (d x : Operand) (dT sT : TypeId) (hop : o.op = Op.call { callee := Callee.builtin Builtin.append, args := #[d, x], argTypes := #[dT, sT] }) (v u : Value) (hd : a.eval d = v) (hx : a.eval x = u) {v' : Value} {w' : World} (hr : (Builtin.append_ #[dT, sT] o.type #[v, u]).run P w = .ok v' w') :
  (execOp a.eval o).run P w = .ok (.value v') w' := by
 unfold execOp
 simp only [hop, resolve, invoke, builtin, Sem.run_bind, Sem.run_pure, Result.andThen_ok, List.map_toArray, List.map_cons, List.map_nil, hd, hx, hr]
theorem JX.putLv {base : Nat} {ok : Nat → Prop} {g gs b c i : Nat} {sv v v' : Value} {vs : List Value} {st : JSt} {l' : List S113} {w w1 : World} (h : JX base ok g gs sv (.slice (some ⟨b, 0, none⟩) st.lv.length c) vs st w)
  (hi : vs[i]? = some v) (hr : w1.ownsRow base 113 3 v' l'.length (encU l')) (hg : w.grownBy w1 v.ownBlock) (hat : v'.ownBlock = v.ownBlock ∨ ∃ b, v'.ownBlock = some b ∧ w.heap.size ≤ b) (h1 : v'.oneCell' = true) :
  JX base (fun k => ok k ∨ w.heap.size ≤ k) g gs sv (.slice (some ⟨b, 0, none⟩) st.lv.length c) (vs.set i v') ⟨st.cur, st.lv.set i l'⟩ (w1.setCell ⟨b, i, none⟩ v') := by
 obtain ⟨l, el, hl⟩ := h.lv.get hi
 obtain ⟨cb, hcb⟩ := own_typed h.lv.own b rfl
 have hmv : ∀ (k : Nat) (cells : Array Value) (q : TypeId), w.heap[k]? = some (.cells cells q (0, 0)) → q ≠ 113 → q ≠ 111 → (w1.setCell ⟨b, i, none⟩ v').heap[k]? = w.heap[k]? := by
  intro k cells q hk h1 h2
  refine (Below.heap_setCell w1 ⟨b, i, none⟩ v' k (fun e => ?_)).trans (hg.block k (blk_lt hk) (fun e => ?_))
  ·have e : k = b := e
   subst e; exact h2 (blk_ty hk hcb)
  ·obtain ⟨cs, hc⟩ := own_typed hl k e.symm
   exact h1 (blk_ty hk hc)
 refine ⟨.inl h.okg, .inl h.oks, fun k e => .inl (h.okv k e), h.ge, (hmv g _ _ h.blk (by decide) (by decide)).trans h.blk, ⟨h.store.1, h.store.2.1, (hmv gs _ _ h.store.2.2.1 (by decide) (by decide)).trans h.store.2.2.1, own_move h.store.2.2.2 (fun k e => ?_)⟩, ?_⟩
 ·obtain ⟨cs, hc⟩ := own_typed h.store.2.2.2 k e
  exact hmv k _ _ hc (by decide) (by decide)
 ·show LvIs base _ _ _ (st.lv.set i l') _
  have := h.lv.put (ok' := fun k => ok k ∨ w.heap.size ≤ k) (fun k hk => .inl hk) (fun k hk => .inr hk) hi hr hg hat h1
  exact this
theorem JX.move {base : Nat} {ok : Nat → Prop} {g gs : Nat} {sv lvv : Value} {vs : List Value} {st : JSt} {w w1 : World} (h : JX base ok g gs sv lvv vs st w) (hm : ∀ (k : Nat) (cells : Array Value) (q : TypeId), ok k → w.heap[k]? = some (.cells cells q (0, 0)) → w1.heap[k]? = w.heap[k]?) : JX base ok g gs sv lvv vs st w1 := by
 refine ⟨h.okg, h.oks, h.okv, h.ge, (hm g _ _ h.okg h.blk).trans h.blk, ⟨h.store.1, h.store.2.1, (hm gs _ _ h.oks h.store.2.2.1).trans h.store.2.2.1, own_move h.store.2.2.2 (fun k e => ?_)⟩, h.lv.step (fun k hk _ _ ht => ?_)⟩
 ·obtain ⟨c, hc⟩ := own_typed h.store.2.2.2 k e
  exact hm k _ _ (h.okv k e) hc
 ·obtain ⟨cells, ht | ht⟩ := ht
  all_goals exact hm k _ _ hk ht
theorem JM.move {base : Nat} {ok : Nat → Prop} {g : Nat} {st : JSt} {w w1 : World} (h : JM base ok g st w) (hm : ∀ (k : Nat) (cells : Array Value) (q : TypeId), ok k → w.heap[k]? = some (.cells cells q (0, 0)) → w1.heap[k]? = w.heap[k]?) : JM base ok g st w1 := by
 obtain ⟨gs, sv, lvv, vs, h⟩ := h
 exact ⟨gs, sv, lvv, vs, h.move hm⟩
theorem posK_app {A B : List S55} {key : ByteArray} (hA : ∀ p ∈ A, kLt p.f0 key = true) (hB : ∀ p ∈ B, kLt p.f0 key = false) : posK (A ++ B) key = A.length := by
 unfold posK
 rw [List.countP_append, List.countP_eq_length.2 (fun p hp => hA p hp), List.countP_eq_zero.2 (fun p hp e => by rw [hB p hp] at e; exact absurd e (by simp)), Nat.add_zero]
theorem mid_ge {x : S55} {B : List S55} {key : ByteArray} (hx : x.f0 = key) (hB : ∀ p ∈ B, kLt p.f0 key = false) : ∀ p ∈ x :: B, kLt p.f0 key = false := by
 intro p hp
 rcases List.mem_cons.1 hp with rfl | hp
 ·rw [hx]; exact kLt_irr _
 ·exact hB p hp
theorem hasK_mid {A B : List S55} {x : S55} {key : ByteArray} (hA : ∀ p ∈ A, kLt p.f0 key = true) (hx : x.f0 = key) (hB : ∀ p ∈ B, kLt p.f0 key = false) : hasK (A ++ x :: B) key = true := by
 unfold hasK
 rw [posK_app hA (mid_ge hx hB), List.getElem?_append_right (Nat.le_refl _), Nat.sub_self, List.getElem?_cons_zero]
 show (x.f0.toList == key.toList) = true
 rw [hx]; exact beq_self_eq_true _
theorem setK_mid {A B : List S55} {x : S55} {key : ByteArray} (value : ByteArray) (hA : ∀ p ∈ A, kLt p.f0 key = true) (hx : x.f0 = key) (hB : ∀ p ∈ B, kLt p.f0 key = false) : setK (A ++ x :: B) key value = A ++ ⟨key, value⟩ :: B := by
 unfold setK
 rw [hasK_mid hA hx hB, if_pos rfl, posK_app hA (mid_ge hx hB), List.set_append_right _ _ (Nat.le_refl _), Nat.sub_self, List.set_cons_zero]
theorem delK_mid {A B : List S55} {x : S55} {key : ByteArray} (hA : ∀ p ∈ A, kLt p.f0 key = true) (hx : x.f0 = key) (hB : ∀ p ∈ B, kLt p.f0 key = false) : delK (A ++ x :: B) key = A ++ B := by
 unfold delK
 rw [hasK_mid hA hx hB, if_pos rfl, posK_app hA (mid_ge hx hB), List.take_left, List.drop_append, List.drop_eq_nil_of_le (by omega), List.nil_append, show A.length + 1 - A.length = 1 by omega]
 rfl
theorem getK_mid {A B : List S55} {x : S55} {key : ByteArray} (hA : ∀ p ∈ A, kLt p.f0 key = true) (hx : x.f0 = key) (hB : ∀ p ∈ B, kLt p.f0 key = false) : getK (A ++ x :: B) key = (x.f1, true) := by
 unfold getK
 rw [hasK_mid hA hx hB, if_pos rfl, posK_app hA (mid_ge hx hB), rdP _ _ (by simp)]
 simp
theorem setK_new {A B : List S55} {key : ByteArray} (value : ByteArray) (hA : ∀ p ∈ A, kLt p.f0 key = true) (hB : ∀ p ∈ B, kLt p.f0 key = false) (hh : hasK (A ++ B) key = false) : setK (A ++ B) key value = A ++ ⟨key, value⟩ :: B := by
 unfold setK
 rw [hh, if_neg (by simp), posK_app hA hB, List.take_left, List.drop_left]
theorem decK {c : List S55} (hs : sortK c) (key : ByteArray) : ∃ A B, (∀ p ∈ A, kLt p.f0 key = true) ∧ (∀ p ∈ B, kLt p.f0 key = false) ∧ ((hasK c key = true ∧ ∃ x : S55, x.f0 = key ∧ c = A ++ x :: B) ∨ (hasK c key = false ∧ c = A ++ B)) := by
 have h1 : ∀ p ∈ c.take (posK c key), kLt p.f0 key = true := by
  intro p hp
  obtain ⟨i, hi, rfl⟩ := List.mem_iff_getElem.1 hp
  rw [List.length_take] at hi
  rw [List.getElem_take, posK_spec c key hs i (by omega)]
  exact decide_eq_true (by omega)
 have h2 : ∀ p ∈ c.drop (posK c key), kLt p.f0 key = false := by
  intro p hp
  obtain ⟨i, hi, rfl⟩ := List.mem_iff_getElem.1 hp
  rw [List.length_drop] at hi
  rw [List.getElem_drop, posK_spec c key hs _ (by omega)]
  exact decide_eq_false (by omega)
 cases hh : hasK c key with
 | true =>
  obtain ⟨hp, hk⟩ := hasK_lt hh
  refine ⟨c.take (posK c key), c.drop (posK c key + 1), h1, fun p hp2 => h2 p ?_, .inl ⟨rfl, c[posK c key], hk, ?_⟩⟩
  ·rw [List.drop_eq_getElem_cons hp]; exact List.mem_cons_of_mem _ hp2
  ·rw [← List.drop_eq_getElem_cons hp, List.take_append_drop]
 | false => exact ⟨c.take (posK c key), c.drop (posK c key), h1, h2, .inr ⟨rfl, (List.take_append_drop _ _).symm⟩⟩
def noteU (c : List S55) (key : ByteArray) : S113 := ⟨key, (getK c key).1, (getK c key).2⟩
def lvAt (L : List (List S113)) (i : Nat) : List S113 := L.getD i []
def noteJ (st : JSt) (key : ByteArray) : JSt := { st with lv := st.lv.set (st.lv.length - 1) (lvAt st.lv (st.lv.length - 1) ++ [noteU st.cur key]) }
def setJ (st : JSt) (key value : ByteArray) : JSt := if key.size > 65536 ∨ value.size > 65536 then st else { noteJ st key with cur := setK st.cur key value }
def setE (key value : ByteArray) : Int := if key.size > 65536 ∨ value.size > 65536 then 4 else 0
def delJ (st : JSt) (key : ByteArray) : JSt := if hasK st.cur key = true then { noteJ st key with cur := delK st.cur key } else st
def delE (st : JSt) (key : ByteArray) : Int := if hasK st.cur key = true then 0 else 8
theorem j_get (base g : Nat) (ok : Nat → Prop) (st : JSt) (key : ByteArray) (w : World) (h : JM base ok g st w) (hl : st.cur.length ≤ 1000000000) :
  Calls Tryz.prog 31 #[.pointer (some ⟨g, 0, none⟩), .string key] w fun e w' => e = .returned (.tuple #[.string (getK st.cur key).1, .bool (getK st.cur key).2]) ∧ Below w.heap.size w w' := by
 obtain ⟨gs, sv, lvv, vs, h⟩ := h
 have y0 : w.cell? ⟨g, 0, none⟩ = some (.pointer (some ⟨gs, 0, none⟩)) := (blk_cell h.blk 0).trans rfl
 have hst := h.store
 clear h
 go_enter Tryz.func31, Tryz.ntmps31
 go_wp2_with fail
 refine (st_get base gs st.cur key _ hst.at_ hl).mono ?_
 rintro e w2 ⟨rfl, hb⟩
 go_wp2
 go_ret2
 exact ⟨rfl, hb⟩
theorem j_list (base g : Nat) (ok : Nat → Prop) (st : JSt) (w : World) (h : JM base ok g st w) (hl : st.cur.length ≤ 1000000000) :
  Calls Tryz.prog 10 #[.pointer (some ⟨g, 0, none⟩)] w fun e w' => ∃ v', e = .returned v' ∧ w'.ownsRow w.heap.size 55 2 v' st.cur.length (encP st.cur) ∧ Below w.heap.size w w' := by
 obtain ⟨gs, sv, lvv, vs, h⟩ := h
 have y0 : w.cell? ⟨g, 0, none⟩ = some (.pointer (some ⟨gs, 0, none⟩)) := (blk_cell h.blk 0).trans rfl
 have hst := h.store
 clear h
 go_enter Tryz.func10, Tryz.ntmps10
 go_wp2_with fail
 refine (st_list base gs sv st.cur _ hst hl).mono ?_
 rintro e w2 ⟨v2, rfl, o2, hb⟩
 go_wp2
 go_ret
 exact ⟨_, rfl, o2, hb⟩
theorem lvl_append (base : Nat) (v : Value) (l : List S113) (u : S113) (w : World) (ho : w.ownsRow base 113 3 v l.length (encU l)) (hn : l.length ≤ 1000000) (hb : base ≤ w.heap.size) (b : Nat) (hbk : w.heap[b]? = some (.cells #[.string u.f0, .string u.f1, .bool u.f2] 113 (0, 0))) (ty : TypeId) :
  ∃ v1 w1, (Builtin.append_ #[111, 111] ty #[v, .slice (some ⟨b, 0, none⟩) 1 1]).run Tryz.prog w = .ok v1 w1 ∧ w1.ownsRow base 113 3 v1 (l ++ [u]).length (encU (l ++ [u])) ∧ w.grownBy w1 v.ownBlock ∧ (v1.ownBlock = v.ownBlock ∨ ∃ b, v1.ownBlock = some b ∧ w.heap.size ≤ b) := by
 obtain ⟨i0, hi0, hz⟩ := Option.map_eq_some_iff.1 info113
 simp only [Prod.mk.injEq] at hz
 obtain ⟨hz0, hz1, hz2⟩ := hz
 obtain ⟨v1, w1, hrun, a1, a2, _, a3⟩ := run_append_own_at (P := Tryz.prog) (w := w) base 111 ty 113 i0 _ 3 40 Tryz.underlying111 hi0 hz0 hz1 hz2 rfl (by decide) v l.length (encU l) ho ⟨b, 0, none⟩ 1 1 [.string u.f0, .string u.f1, .bool u.f2] rfl
  (fun j x hj => by
   match j with
   | 0 => obtain rfl := Option.some.inj hj; exact (blk_cell hbk 0).trans rfl
   | 1 => obtain rfl := Option.some.inj hj; exact (blk_cell hbk 1).trans rfl
   | 2 => obtain rfl := Option.some.inj hj; exact (blk_cell hbk 2).trans rfl
   | j + 3 => exact absurd hj (by simp)) (by intro x hx; simp at hx; rcases hx with rfl | rfl | rfl <;> rfl) (by unfold maxLen; omega) (by omega) hb
 refine ⟨v1, w1, hrun, ?_, a2, a3.imp_right (fun h => ⟨_, h, Nat.le_refl _⟩)⟩
 rw [List.length_append, List.length_singleton, encU_append]
 exact a1
theorem j_note (base g : Nat) (ok : Nat → Prop) (st : JSt) (key : ByteArray) (w : World) (h : JM base ok g st w) (hl : st.cur.length ≤ 1000000000) (hn : st.lv.length ≤ 1000000) (hm : ∀ l ∈ st.lv, l.length ≤ 1000000) (hb : base ≤ w.heap.size) :
  Calls Tryz.prog 45 #[.pointer (some ⟨g, 0, none⟩), .string key] w (JPost base ok g (noteJ st key) (.tuple #[]) w) := by
 obtain ⟨gs, sv, lvv, vs, h⟩ := h
 obtain ⟨A, c, rfl, hnc, hc63⟩ := row_slice h.lv.own
 have y1 : w.cell? ⟨g, 1, none⟩ = some (.slice A st.lv.length c) := (blk_cell h.blk 1).trans rfl
 have y0 : w.cell? ⟨g, 0, none⟩ = some (.pointer (some ⟨gs, 0, none⟩)) := (blk_cell h.blk 0).trans rfl
 by_cases h0 : st.lv.length = 0
 ·have e : noteJ st key = st := by
   unfold noteJ
   rw [List.length_eq_zero_iff.1 h0]
   exact congrArg (JSt.mk st.cur) (List.length_eq_zero_iff.1 h0).symm
  rw [e]
  have hfin : JPost base ok g st (.tuple #[]) w (.returned (.tuple #[])) w := ⟨rfl, ⟨_, _, _, _, h.mono (fun k hk => .inl hk)⟩, JW.of_below (Below.refl _ _)⟩
  replace hfin := As_ hfin
  clear h
  rw [h0] at y1
  go_enter Tryz.func45, Tryz.ntmps45
  go_wp2
  go_end0
  exact hfin.out
 ·go_enter Tryz.func45, Tryz.ntmps45
  go_wp2_with fail
  refine (st_get base gs st.cur key _ h.store.at_ hl).mono ?_
  rintro e w2 ⟨rfl, hb2⟩
  have h2 := h.step hb2
  obtain ⟨b, rfl⟩ : ∃ b, A = some ⟨b, 0, none⟩ := by
   rcases h.lv.own.2 with ⟨e, hx⟩ | ⟨b, _, _, e, _⟩
   ·omega
   ·injection e with e; exact ⟨b, e⟩
  obtain ⟨i, hi⟩ : ∃ i, st.lv.length = i + 1 := ⟨st.lv.length - 1, by omega⟩
  have hiv : i < vs.length := by rw [h.lv.len]; omega
  have ev : vs[i]? = some vs[i] := List.getElem?_eq_getElem hiv
  obtain ⟨l, el, ol⟩ := h2.lv.get ev
  have cv : w2.cell? ⟨b, i, none⟩ = some vs[i] := by
   have := h2.lv.own.cells (g := b) rfl i vs[i] ev
   rwa [add_plain] at this
  have hll : l.length ≤ 1000000 := hm l (List.mem_of_getElem? el)
  have x1 : w2.cell? ⟨g, 1, none⟩ = some (.slice (some ⟨b, 0, none⟩) (i + 1) c) := by rw [← hi]; exact (blk_cell h2.blk 1).trans rfl
  rw [hi]
  have hwi : IntKind.i64.wrap (i : Int) = (i : Int) := by rw [i64_w]; unfold wrap64; omega
  go_upto_region 3 with (fail)
  refine start_ (n := 22) (S := fun w' => w'.cell? ⟨g, 1, none⟩ = some (.slice (some ⟨b, 0, none⟩) (i + 1) c) ∧ w'.cell? ⟨b, i, none⟩ = some vs[i]) (ds := [21]) #[false, false, false, false, false, false, false, false, false, false, false, false, false, false, false, false, false, false, false, false, false, false] (by kernel_rfl) rfl rfl ⟨x1, cv⟩ (fun hHeld => ?_)
  have J4 := As_ (h2.step (below_drew (Below.refl _ _)))
  have W4 := As_ ((JW.of_below hb2 : JW ok w w2).trans (JW.of_below (below_drew (Below.refl _ _)) : JW ok w2 w2.drew) (fun k hk => .inl hk))
  have O4 := As_ (own_below ol (below_drew (Below.refl _ _)))
  have hsz4 : w.heap.size ≤ w2.drew.heap.size := hb2.size
  clear h h2 ol x1 cv hb2
  generalize w2.drew = w4 at hHeld J4 W4 O4 hsz4 ⊢
  refine pure_ (i := 0) (N := some 23) #[true, false, false, false, false, false, false, false, false, false, false, false, false, false, false, false, false, false, false, false, false, false] rfl rfl (by kernel_rfl) (fun _ _ _ h => h) (Or.inl ⟨by rfl, ap2_⟩) ap25_ ?_
  refine pure_ (i := 1) (N := some 24) #[true, true, false, false, false, false, false, false, false, false, false, false, false, false, false, false, false, false, false, false, false, false] rfl rfl (by kernel_rfl) (fun _ _ _ h => h) (Or.inl ⟨by rfl, ap2_⟩) ap25_ ?_
  refine pure_ (i := 2) (N := some 25) #[true, true, true, false, false, false, false, false, false, false, false, false, false, false, false, false, false, false, false, false, false, false] rfl rfl (by kernel_rfl) (fun _ _ _ h => h) (Or.inl ⟨by rfl, ap2_⟩) ap25_ ?_
  refine take_ (i := 3) (N := some 26) #[true, true, true, true, false, false, false, false, false, false, false, false, false, false, false, false, false, false, false, false, false, false] rfl rfl (by kernel_rfl) (fun _ _ _ h => h) (Or.inl ⟨by rfl, (by rintro w' ⟨s0, s1⟩; go_simp; with_reducible rfl)⟩) hHeld ap25_ ?_
  refine pure_ (i := 4) (N := some 27) #[true, true, true, true, true, false, false, false, false, false, false, false, false, false, false, false, false, false, false, false, false, false] rfl rfl (by kernel_rfl) (fun _ _ _ h => h) (Or.inl ⟨by rfl, ap2_⟩) ap25_ ?_
  refine pure_ (i := 5) (N := some 28) #[true, true, true, true, true, true, false, false, false, false, false, false, false, false, false, false, false, false, false, false, false, false] rfl rfl (by kernel_rfl) (fun _ _ _ h => h) (Or.inl ⟨by rfl, (by intro w'; go_simp; (try rw [hwi]); with_reducible rfl)⟩) ap25_ ?_
  refine pure_ (i := 6) (N := some 29) #[true, true, true, true, true, true, true, false, false, false, false, false, false, false, false, false, false, false, false, false, false, false] rfl rfl (by kernel_rfl) (fun _ _ _ h => h) (Or.inl ⟨by rfl, ap2_⟩) ap25_ ?_
  refine pure_ (i := 7) (N := some 30) #[true, true, true, true, true, true, true, true, false, false, false, false, false, false, false, false, false, false, false, false, false, false] rfl rfl (by kernel_rfl) (fun _ _ _ h => h) (Or.inl ⟨by rfl, ap2_⟩) ap25_ ?_
  refine pure_ (i := 8) (N := some 31) #[true, true, true, true, true, true, true, true, true, false, false, false, false, false, false, false, false, false, false, false, false, false] rfl rfl (by kernel_rfl) (fun _ _ _ h => h) (Or.inl ⟨by rfl, ap2_⟩) ap25_ ?_
  refine take_ (i := 9) (N := some 32) #[true, true, true, true, true, true, true, true, true, true, false, false, false, false, false, false, false, false, false, false, false, false] rfl rfl (by kernel_rfl) (fun _ _ _ h => h) (Or.inl ⟨by rfl, (by rintro w' ⟨s0, s1⟩; go_simp; with_reducible rfl)⟩) hHeld ap25_ ?_
  refine pure_ (i := 10) (N := some 33) #[true, true, true, true, true, true, true, true, true, true, true, false, false, false, false, false, false, false, false, false, false, false] rfl rfl (by kernel_rfl) (fun _ _ _ h => h) (Or.inl ⟨by rfl, ap2_⟩) ap25_ ?_
  refine pure_ (i := 11) (N := some 34) #[true, true, true, true, true, true, true, true, true, true, true, true, false, false, false, false, false, false, false, false, false, false] rfl rfl (by kernel_rfl) (fun _ _ _ h => h) (Or.inl ⟨by rfl, (by intro w'; go_simp; (try rw [hwi]); with_reducible rfl)⟩) ap25_ ?_
  refine pure_ (i := 12) (N := some 35) #[true, true, true, true, true, true, true, true, true, true, true, true, true, false, false, false, false, false, false, false, false, false] rfl rfl (by kernel_rfl) (fun _ _ _ h => h) (Or.inl ⟨by rfl, (by intro w'; go_simp; rw [if_pos (by omega : (i : Int) < (i : Int) + 1)])⟩) ap25_ ?_
  refine take_ (i := 13) (N := some 36) #[true, true, true, true, true, true, true, true, true, true, true, true, true, true, false, false, false, false, false, false, false, false] rfl rfl (by kernel_rfl) (fun _ _ _ h => h) (Or.inl ⟨by rfl, (by rintro w' ⟨s0, s1⟩; go_simp; with_reducible rfl)⟩) hHeld ap25_ ?_
  refine pure_ (i := 14) (N := some 37) #[true, true, true, true, true, true, true, true, true, true, true, true, true, true, true, false, false, false, false, false, false, false] rfl rfl (by kernel_rfl) (fun _ _ _ h => h) (Or.inl ⟨by rfl, ap2_⟩) ap25_ ?_
  refine pure_ (i := 15) (N := some 38) #[true, true, true, true, true, true, true, true, true, true, true, true, true, true, true, true, false, false, false, false, false, false] rfl rfl (by kernel_rfl) (fun _ _ _ h => h) (Or.inl ⟨by rfl, ap2_⟩) ap25_ ?_
  refine pure_ (i := 16) (N := some 39) #[true, true, true, true, true, true, true, true, true, true, true, true, true, true, true, true, true, false, false, false, false, false] rfl rfl (by kernel_rfl) (fun _ _ _ h => h) (Or.inl ⟨by rfl, ap2_⟩) ap25_ ?_
  refine pure_ (i := 17) (N := some 40) #[true, true, true, true, true, true, true, true, true, true, true, true, true, true, true, true, true, true, false, false, false, false] rfl rfl (by kernel_rfl) (fun _ _ _ h => h) (Or.inl ⟨by rfl, ap2_⟩) ap25_ ?_
  refine one_ (i := 18) (N := some 41) #[true, true, true, true, true, true, true, true, true, true, true, true, true, true, true, true, true, true, true, false, false, false] rfl rfl (by kernel_rfl) (by decide) (fun K hK => ?_)
  refine value_ (w1 := ?_) (v := ?_) (by rfl) rfl ?_ ?_
  rotate_left 2
  ·go_simp
   constructor
   ·rfl
   ·rfl
  refine hK.out _ _ ⟨(blk_cell (blk_alloc J4.out.blk _) 1).trans (by rw [hi]; rfl), Lib.cell?_alloc_some _ hHeld.2⟩ (fun hHeld => ?_)
  clear hK K
  refine norm_ (a' := ?_) ?_ ?_
  rotate_left
  ·show Act.put _ (some 41) _ = _
   simp only [Act.put, List.setIfInBounds_toArray, List.set_cons_zero, List.set_cons_succ, i64_w, i32_w]
   rfl
  obtain ⟨v6, w6, hrun, o6, g6, at6⟩ := lvl_append base vs[i] l ⟨key, (getK st.cur key).1, (getK st.cur key).2⟩ (w4.alloc (.cells #[.string key, .string (getK st.cur key).1, .bool (getK st.cur key).2] 113)) (own_alloc O4.out _) hll (by rw [my_alloc_size]; omega) w4.heap.size (my_alloc_new w4 _) 111
  obtain ⟨A6, c6, rfl, _, _⟩ := row_slice o6
  have J5 := As_ (J4.out.step (below_alloc (Below.refl _ _) (.cells #[.string key, .string (getK st.cur key).1, .bool (getK st.cur key).2] 113)))
  have g5b : w6.heap[g]? = _ := (g6.block g (blk_lt J5.out.blk) (fun e => by obtain ⟨cs, hc⟩ := own_typed (own_alloc O4.out (.cells #[.string key, .string (getK st.cur key).1, .bool (getK st.cur key).2] 113)) g e.symm; exact absurd (blk_ty J5.out.blk hc) (by decide))).trans J5.out.blk
  obtain ⟨cb, hcb⟩ := own_typed J5.out.lv.own b rfl
  have b5b : w6.heap[b]? = _ := (g6.block b (blk_lt hcb) (fun e => by obtain ⟨cs, hc⟩ := own_typed (own_alloc O4.out (.cells #[.string key, .string (getK st.cur key).1, .bool (getK st.cur key).2] 113)) b e.symm; exact absurd (blk_ty hcb hc) (by decide))).trans hcb
  have cv6 : w6.cell? ⟨b, i, none⟩ = some vs[i] := (World.cell?_of_block (a := ⟨b, i, none⟩) (b5b.trans hcb.symm)).trans hHeld.2
  refine one_ (i := 19) (N := some 42) #[true, true, true, true, true, true, true, true, true, true, true, true, true, true, true, true, true, true, true, true, false, false] rfl rfl (by kernel_rfl) (by decide) (fun K hK => ?_)
  refine value_ (by rfl) rfl (exec_append _ _ _ _ rfl _ _ rfl rfl hrun) ?_
  refine hK.out _ _ ⟨(blk_cell g5b 1).trans (by rw [hi]; rfl), cv6⟩ (fun hHeld => ?_)
  clear hK K
  refine norm_ (a' := ?_) ?_ ?_
  rotate_left
  ·show Act.put _ (some 42) _ = _
   simp only [Act.put, List.setIfInBounds_toArray, List.set_cons_zero, List.set_cons_succ, i64_w, i32_w]
   rfl
  refine pure_ (i := 20) (N := some 43) #[true, true, true, true, true, true, true, true, true, true, true, true, true, true, true, true, true, true, true, true, true, false] rfl rfl (by kernel_rfl) (fun _ _ _ h => h) (Or.inl ⟨by rfl, (by intro w'; go_simp; rw [if_pos (by omega : (i : Int) < (i : Int) + 1)])⟩) ap25_ ?_
  refine last_ (i := 21) (N := none) #[true, true, true, true, true, true, true, true, true, true, true, true, true, true, true, true, true, true, true, true, true, true] rfl rfl (by kernel_rfl) (by decide) (fun K hK => ?_)
  have z6 := blk_frozen b5b i
  refine skip_ (w1 := w6.setCell ⟨b, i, none⟩ (.slice A6 (l ++ [(⟨key, (getK st.cur key).1, (getK st.cur key).2⟩ : S113)]).length c6)) (by rfl) rfl ?_ ?_
  ·go_simp
   try rfl
  refine hK.out _ _ ?_
  refine done_ (by kernel_rfl) ?_
  have hJ := J5.out.putLv ev o6 g6 at6 rfl
  have hfin : JPost base ok g (noteJ st key) (.tuple #[]) w (.returned (.tuple #[])) (w6.setCell ⟨b, i, none⟩ (.slice A6 (l ++ [(⟨key, (getK st.cur key).1, (getK st.cur key).2⟩ : S113)]).length c6)) := by
   have e : noteJ st key = ⟨st.cur, st.lv.set i (l ++ [(⟨key, (getK st.cur key).1, (getK st.cur key).2⟩ : S113)])⟩ := by
    unfold noteJ noteU lvAt
    rw [hi, Nat.add_sub_cancel, List.getD_eq_getElem?_getD, el]; rfl
   rw [e]
   have hsz5 : w4.heap.size ≤ (w4.alloc (.cells #[.string key, .string (getK st.cur key).1, .bool (getK st.cur key).2] 113)).heap.size := by rw [my_alloc_size]; omega
   refine ⟨rfl, ⟨_, _, _, _, hJ.mono (fun k hk => hk.imp_right (fun h => by omega))⟩, ((W4.out.trans (JW.of_below (below_alloc (Below.refl _ _) _) : JW ok w4 _) (fun k hk => .inl hk)).trans (JW.of_grown g6 (fun k e => J4.out.lv.oks i _ k ev e) : JW ok _ _) (fun k hk => .inl hk)).trans (JW.set (J4.out.lv.ok0 b rfl) i _) (fun k hk => .inl hk)⟩
  replace hfin := As_ hfin
  clear hJ g6 o6 at6 J4 J5 O4 W4 hHeld b5b g5b hcb cv6
  try go_wp2
  go_end0
  exact hfin.out
theorem j_set (base g : Nat) (ok : Nat → Prop) (st : JSt) (key value : ByteArray) (w : World) (h : JM base ok g st w) (hl : st.cur.length ≤ 1000000000) (hn : st.lv.length ≤ 1000000) (hm : ∀ l ∈ st.lv, l.length ≤ 1000000) (hb : base ≤ w.heap.size) :
  Calls Tryz.prog 40 #[.pointer (some ⟨g, 0, none⟩), .string key, .string value] w (JPost base ok g (setJ st key value) (.int .i64 (setE key value)) w) := by
 unfold setJ setE
 by_cases hbig : key.size > 65536 ∨ value.size > 65536
 ·rw [if_pos hbig, if_pos hbig]
  have hfin : JPost base ok g st (.int .i64 4) w (.returned (.int .i64 4)) w := ⟨rfl, h.mono (fun k hk => .inl hk), JW.of_below (Below.refl _ _)⟩
  replace hfin := As_ hfin
  clear h
  by_cases hk : key.size > 65536
  ·go_enter Tryz.func40, Tryz.ntmps40
   go_wp2
   go_ret
   exact hfin.out
  ·have hv : value.size > 65536 := hbig.resolve_left hk
   go_enter Tryz.func40, Tryz.ntmps40
   go_wp2
   go_ret
   exact hfin.out
 ·rw [if_neg hbig, if_neg hbig]
  have hk : ¬ 65536 < key.size := fun h => hbig (.inl h)
  have hv : ¬ 65536 < value.size := fun h => hbig (.inr h)
  have y0 : ∃ gs, w.cell? ⟨g, 0, none⟩ = some (.pointer (some ⟨gs, 0, none⟩)) := by
   obtain ⟨gs, sv, lvv, vs, h⟩ := h
   exact ⟨gs, (blk_cell h.blk 0).trans rfl⟩
  clear hbig y0
  go_enter Tryz.func40, Tryz.ntmps40
  go_wp2_with fail
  refine (j_note base g ok st key w h hl hn hm hb).mono ?_
  rintro e w2 ⟨rfl, ⟨gs, sv, lvv, vs, h2⟩, W2⟩
  have y0 : w2.cell? ⟨g, 0, none⟩ = some (.pointer (some ⟨gs, 0, none⟩)) := (blk_cell h2.blk 0).trans rfl
  replace W2 := As_ W2
  clear h
  go_wp2_with fail
  refine (st_set base gs sv (noteJ st key).cur key value _ h2.store hl (Nat.le_trans hb W2.out.size)).mono ?_
  rintro e w3 ⟨rfl, sv3, s3, W3, at3⟩
  have hfin : JPost base ok g { noteJ st key with cur := setK st.cur key value } (.int .i64 0) w (.returned (.int .i64 0)) w3 :=
   ⟨rfl, ⟨_, _, _, _, (h2.stored s3 W3 at3).mono (fun k hk => hk.elim id (fun h => .inr (Nat.le_trans W2.out.size h)))⟩, W2.out.trans (JW.of_store W3 h2.oks h2.okv) (fun k hk => hk)⟩
  replace hfin := As_ hfin
  clear h2 s3 W3 at3 W2 y0
  go_wp2
  go_ret
  exact hfin.out
theorem j_del (base g : Nat) (ok : Nat → Prop) (st : JSt) (key : ByteArray) (w : World) (h : JM base ok g st w) (hl : st.cur.length ≤ 1000000000) (hn : st.lv.length ≤ 1000000) (hm : ∀ l ∈ st.lv, l.length ≤ 1000000) (hb : base ≤ w.heap.size) :
  Calls Tryz.prog 24 #[.pointer (some ⟨g, 0, none⟩), .string key] w (JPost base ok g (delJ st key) (.int .i64 (delE st key)) w) := by
 unfold delJ delE
 obtain ⟨gs, sv, lvv, vs, h⟩ := h
 have y0 : w.cell? ⟨g, 0, none⟩ = some (.pointer (some ⟨gs, 0, none⟩)) := (blk_cell h.blk 0).trans rfl
 have hg2 : (getK st.cur key).2 = hasK st.cur key := by unfold getK; cases hasK st.cur key <;> rfl
 cases hh : hasK st.cur key with
 | false =>
  rw [if_neg (by simp), if_neg (by simp)]
  go_enter Tryz.func24, Tryz.ntmps24
  go_wp2_with fail
  refine (st_get base gs st.cur key _ h.store.at_ hl).mono ?_
  rintro e w2 ⟨rfl, hb2⟩
  rw [hg2, hh]
  have hfin : JPost base ok g st (.int .i64 8) w (.returned (.int .i64 8)) w2 := ⟨rfl, ⟨_, _, _, _, (h.step hb2).mono (fun k hk => .inl hk)⟩, JW.of_below hb2⟩
  replace hfin := As_ hfin
  clear h hb2 hg2
  go_wp2
  go_ret
  exact hfin.out
 | true =>
  rw [if_pos rfl, if_pos rfl]
  go_enter Tryz.func24, Tryz.ntmps24
  go_wp2_with fail
  refine (st_get base gs st.cur key _ h.store.at_ hl).mono ?_
  rintro e w1 ⟨rfl, hb1⟩
  rw [hg2, hh]
  have h1 : JM base ok g st w1 := ⟨_, _, _, _, h.step hb1⟩
  replace hb1 := As_ hb1
  clear h y0 hg2
  go_wp2_with fail
  refine (j_note base g ok st key w1 h1 hl hn hm (Nat.le_trans hb hb1.out.size)).mono ?_
  rintro e w2 ⟨rfl, ⟨gs, sv, lvv, vs, h2⟩, W2⟩
  have y0 : w2.cell? ⟨g, 0, none⟩ = some (.pointer (some ⟨gs, 0, none⟩)) := (blk_cell h2.blk 0).trans rfl
  replace W2 := As_ ((JW.of_below hb1.out : JW ok w w1).trans W2 (fun k hk => .inl hk))
  have hs1 := hb1.out.size
  clear h1 hb1
  go_wp2_with fail
  refine (st_del base gs sv (noteJ st key).cur key _ h2.store hl).mono ?_
  rintro e w3 ⟨rfl, sv3, s3, W3, at3⟩
  have hfin : JPost base ok g { noteJ st key with cur := delK st.cur key } (.int .i64 0) w (.returned (.int .i64 0)) w3 :=
   ⟨rfl, ⟨_, _, _, _, (h2.stored s3 W3 at3).mono (fun k hk => hk.elim (fun h => h.imp_right (fun h => Nat.le_trans hs1 h)) (fun h => .inr (Nat.le_trans W2.out.size h)))⟩, W2.out.trans (JW.of_store W3 h2.oks h2.okv) (fun k hk => hk.imp_right (fun h => Nat.le_trans hs1 h))⟩
  replace hfin := As_ hfin
  clear h2 s3 W3 at3 W2 y0
  go_wp2
  go_ret
  exact hfin.out
theorem jx_fresh (base g gs : Nat) (v : Value) (l : List S55) (w : World) (hs : StoreIs base gs v l w) (hg : base ≤ g) (hb : w.heap[g]? = some (.cells #[.pointer (some ⟨gs, 0, none⟩), .slice none 0 0] 43 (0, 0))) : JX base (fun k => base ≤ k) g gs v (.slice none 0 0) [] ⟨l, []⟩ w :=
 ⟨hg, hs.1, fun k e => own_base hs.2.2.2 k e, hg, hb, hs, ⟨rfl, fun k e => by simp [Value.ownBlock] at e, World.ownsRow_nil _ _ _ _, fun i v l e => by simp at e, fun i v k e => by simp at e, fun i j a b k _ e => by simp at e⟩⟩
theorem st_copy_nil (w : World) : Calls Tryz.prog 13 #[.pointer none] w fun e w' => e = .returned (.pointer none) ∧ w' = w := by
 go_enter Tryz.func13, Tryz.ntmps13
 go_wp2
 go_ret
 exact ⟨rfl, rfl⟩
theorem j_new_nil (w : World) :
  Calls Tryz.prog 5 #[.pointer none] w fun e w' => ∃ g, e = .returned (.pointer (some ⟨g, 0, none⟩)) ∧ JM w.heap.size (fun k => w.heap.size ≤ k) g ⟨[], []⟩ w' ∧ Below w.heap.size w w' := by
 go_enter Tryz.func5, Tryz.ntmps5
 go_wp2_with fail
 refine (st_copy_nil w).mono ?_
 rintro e w1 ⟨rfl, hw1⟩
 rw [hw1]
 clear hw1
 go_wp2_with fail
 refine (st_new w).mono ?_
 rintro e w2 ⟨rfl, s2, hb2⟩
 have n3 := my_alloc_new w2 (.cells #[.pointer (some ⟨w.heap.size, 0, none⟩), .slice none 0 0] 43)
 have hb3 : Below w2.heap.size w2 (w2.alloc (.cells #[.pointer (some ⟨w.heap.size, 0, none⟩), .slice none 0 0] 43)) := (Below.refl _ w2).alloc (Nat.le_refl _) _
 have hfin : ∃ g, Ending.returned (.pointer (some ⟨w2.heap.size, 0, none⟩)) = .returned (.pointer (some ⟨g, 0, none⟩)) ∧ JM w.heap.size (fun k => w.heap.size ≤ k) g ⟨[], []⟩ (w2.alloc (.cells #[.pointer (some ⟨w.heap.size, 0, none⟩), .slice none 0 0] 43)) ∧ Below w.heap.size w (w2.alloc (.cells #[.pointer (some ⟨w.heap.size, 0, none⟩), .slice none 0 0] 43)) :=
  ⟨_, rfl, ⟨_, _, _, _, jx_fresh _ _ _ _ _ _ (StoreIs.below s2 hb3) hb2.size n3⟩, hb2.alloc hb2.size _⟩
 replace hfin := As_ hfin
 clear n3 hb3 s2 hb2
 go_wp2
 go_ret
 exact hfin.out
def quota_bad.f (a0 : Int) (a1 : Int) : Option (Bool) := if a0 < a1 then (some true) else (some (decide (a0 > 1099511627776)))
theorem quota_bad.calls (a0 : Int) (a1 : Int) (r : Bool) (w : World) (h : quota_bad.f a0 a1 = some r) :
  Calls Tryz.prog 18 #[.int .i64 a0, .int .i64 a1] w fun e w' => e = .returned (.bool r) ∧ Drawn0 w w' := by
 have H : (if a0 < a1 then (some true) else (some (decide (a0 > 1099511627776)))) = some r := h
 clear h
 by_cases c3 : a0 < a1
 ·rw [if_pos c3] at H
  have c3b0 : decide (a0 < a1) = true := decide_eq_true c3
  clear c3
  obtain rfl := Option.some.inj H
  go_enter Tryz.func18, Tryz.ntmps18
  go_wp2
  go_ret
  exact ⟨ap4_, ap7_⟩
 ·rw [if_neg c3] at H
  have c3b0 : decide (a0 < a1) = false := decide_eq_false c3
  clear c3
  obtain rfl := Option.some.inj H
  go_enter Tryz.func18, Tryz.ntmps18
  go_wp2
  go_ret
  exact ⟨ap4_, ap7_⟩
def names_head.f (a0 : Int) : Option (ByteArray) := if a0 = 1 then (some (⟨#[99, 104, 97, 110, 110, 101, 108, 45]⟩ : ByteArray)) else (if a0 = 2 then (some (⟨#[99, 111, 110, 110, 101, 99, 116, 105, 111, 110, 45]⟩ : ByteArray)) else (if a0 = 3 then (some (⟨#[99, 108, 105, 101, 110, 116, 45]⟩ : ByteArray)) else (some (⟨#[]⟩ : ByteArray))))
theorem names_head.calls (a0 : Int) (r : ByteArray) (w : World) (h : names_head.f a0 = some r) :
  Calls Tryz.prog 41 #[.int .i64 a0] w fun e w' => e = .returned (.string r) ∧ Drawn0 w w' := by
 have H : (if a0 = 1 then (some (⟨#[99, 104, 97, 110, 110, 101, 108, 45]⟩ : ByteArray)) else (if a0 = 2 then (some (⟨#[99, 111, 110, 110, 101, 99, 116, 105, 111, 110, 45]⟩ : ByteArray)) else (if a0 = 3 then (some (⟨#[99, 108, 105, 101, 110, 116, 45]⟩ : ByteArray)) else (some (⟨#[]⟩ : ByteArray))))) = some r := h
 clear h
 by_cases c2 : a0 = 1
 ·rw [if_pos c2] at H
  have c2b0 : (a0 == 1) = true := beq_iff_eq.mpr c2
  have c2b1 : (a0 != 1) = false := bne_eq_false_iff_eq.mpr c2
  clear c2
  obtain rfl := Option.some.inj H
  go_enter Tryz.func41, Tryz.ntmps41
  go_wp2
  go_ret
  exact ⟨ap4_, ap7_⟩
 ·rw [if_neg c2] at H
  have c2b0 : (a0 == 1) = false := beq_eq_false_iff_ne.mpr c2
  have c2b1 : (a0 != 1) = true := bne_iff_ne.mpr c2
  by_cases c3 : a0 = 2
  ·rw [if_pos c3] at H
   have c3b0 : (a0 == 2) = true := beq_iff_eq.mpr c3
   have c3b1 : (a0 != 2) = false := bne_eq_false_iff_eq.mpr c3
   clear c3
   obtain rfl := Option.some.inj H
   go_enter Tryz.func41, Tryz.ntmps41
   go_wp2
   go_ret
   exact ⟨ap4_, ap7_⟩
  ·rw [if_neg c3] at H
   have c3b0 : (a0 == 2) = false := beq_eq_false_iff_ne.mpr c3
   have c3b1 : (a0 != 2) = true := bne_iff_ne.mpr c3
   by_cases c4 : a0 = 3
   ·rw [if_pos c4] at H
    have c4b0 : (a0 == 3) = true := beq_iff_eq.mpr c4
    have c4b1 : (a0 != 3) = false := bne_eq_false_iff_eq.mpr c4
    clear c4
    obtain rfl := Option.some.inj H
    go_enter Tryz.func41, Tryz.ntmps41
    go_wp2
    go_ret
    exact ⟨ap4_, ap7_⟩
   ·rw [if_neg c4] at H
    have c4b0 : (a0 == 3) = false := beq_eq_false_iff_ne.mpr c4
    have c4b1 : (a0 != 3) = true := bne_iff_ne.mpr c4
    obtain rfl := Option.some.inj H
    go_enter Tryz.func41, Tryz.ntmps41
    go_wp2
    go_ret
    exact ⟨ap4_, ap7_⟩
def stringslite_CutPrefix.f (a0 : ByteArray) (a1 : ByteArray) : Option (ByteArray × Bool) := (stringslite_HasPrefix.f a0 a1).bind fun t102 => (if t102 = true then (if 0 ≤ (a1.size : Int) then (if (a1.size : Int) ≤ (a0.size : Int) then (some (a0.extract ((a1.size : Int) : Int).toNat a0.size, true)) else (none)) else (none)) else (some (a0, false)))
theorem stringslite_CutPrefix.calls (a0 : ByteArray) (a1 : ByteArray) (r1 : ByteArray) (r2 : Bool) (w : World) (h : stringslite_CutPrefix.f a0 a1 = some (r1, r2)) :
  Calls Tryz.prog 78 #[.string a0, .string a1] w fun e w' => e = .returned (.tuple #[.string r1, .bool r2]) ∧ Drawn0 w w' := by
 have H : ((stringslite_HasPrefix.f a0 a1).bind fun t102 => (if t102 = true then (if 0 ≤ (a1.size : Int) then (if (a1.size : Int) ≤ (a0.size : Int) then (some (a0.extract ((a1.size : Int) : Int).toNat a0.size, true)) else (none)) else (none)) else (some (a0, false)))) = some (r1, r2) := h
 clear h
 replace H := Option.bind_eq_some_iff.mp H
 obtain ⟨t102, A30, H⟩ := H
 try dsimp only at H
 have A3 := As_ A30
 clear A30
 by_cases c4 : t102 = true
 ·subst c4
  have H1 : (if 0 ≤ (a1.size : Int) then (if (a1.size : Int) ≤ (a0.size : Int) then (some (a0.extract ((a1.size : Int) : Int).toNat a0.size, true)) else (none)) else (none)) = some (r1, r2) := by rw [if_pos rfl] at H; exact H
  clear H
  have H := H1
  clear H1
  by_cases c5 : 0 ≤ (a1.size : Int)
  ·rw [if_pos c5] at H
   have c5b0 := eq_true c5
   have c5b1 : decide (0 ≤ (a1.size : Int)) = true := decide_eq_true c5
   clear c5
   by_cases c6 : (a1.size : Int) ≤ (a0.size : Int)
   ·rw [if_pos c6] at H
    have c6b0 := eq_true c6
    have c6b1 : decide ((a1.size : Int) ≤ (a0.size : Int)) = true := decide_eq_true c6
    clear c6
    simp only [Option.some.injEq, Prod.mk.injEq] at H
    obtain ⟨rfl, rfl⟩ := H
    go_enter Tryz.func78, Tryz.ntmps78
    go_wp2_with (first | ((with_reducible refine gate_callee (f := 76) rfl ?_); refine gk_ (some 8) Tryz.func76 #[.string a0, .string a1] ?_; (with_reducible refine (stringslite_HasPrefix.calls a0 a1 true _ A3.out).mono ?_); rintro e w' ⟨rfl, ⟨nd, rfl⟩⟩; refine ⟨_, rfl, ?_⟩))
    go_ret2
    exact ⟨ap4_, ap7_⟩
   ·rw [if_neg c6] at H
    exact absurd H (by simp)
  ·rw [if_neg c5] at H
   exact absurd H (by simp)
 ·replace c4 := Bool.eq_false_iff.mpr c4
  subst c4
  have H1 : (some (a0, false)) = some (r1, r2) := by rw [if_neg (show ¬ (false = true) by decide)] at H; exact H
  clear H
  have H := H1
  clear H1
  simp only [Option.some.injEq, Prod.mk.injEq] at H
  obtain ⟨rfl, rfl⟩ := H
  go_enter Tryz.func78, Tryz.ntmps78
  go_wp2_with (first | ((with_reducible refine gate_callee (f := 76) rfl ?_); refine gk_ (some 8) Tryz.func76 #[.string a0, .string a1] ?_; (with_reducible refine (stringslite_HasPrefix.calls a0 a1 false _ A3.out).mono ?_); rintro e w' ⟨rfl, ⟨nd, rfl⟩⟩; refine ⟨_, rfl, ?_⟩))
  go_ret2
  exact ⟨ap4_, ap7_⟩
def strings_CutPrefix.f (a0 : ByteArray) (a1 : ByteArray) : Option (ByteArray × Bool) := (stringslite_CutPrefix.f a0 a1).bind fun bt103 => (some (bt103.1, bt103.2))
theorem strings_CutPrefix.calls (a0 : ByteArray) (a1 : ByteArray) (r1 : ByteArray) (r2 : Bool) (w : World) (h : strings_CutPrefix.f a0 a1 = some (r1, r2)) :
  Calls Tryz.prog 63 #[.string a0, .string a1] w fun e w' => e = .returned (.tuple #[.string r1, .bool r2]) ∧ Drawn0 w w' := by
 have H : ((stringslite_CutPrefix.f a0 a1).bind fun bt103 => (some (bt103.1, bt103.2))) = some (r1, r2) := h
 clear h
 replace H := Option.bind_eq_some_iff.mp H
 obtain ⟨⟨t103, t104⟩, A30, H⟩ := H
 try dsimp only at H
 have A3 := As_ A30
 clear A30
 simp only [Option.some.injEq, Prod.mk.injEq] at H
 obtain ⟨rfl, rfl⟩ := H
 go_enter Tryz.func63, Tryz.ntmps63
 go_wp2_with (first | ((with_reducible refine gate_callee (f := 78) rfl ?_); refine gk_ (some 8) Tryz.func78 #[.string a0, .string a1] ?_; (with_reducible refine (stringslite_CutPrefix.calls a0 a1 t103 t104 _ A3.out).mono ?_); rintro e w' ⟨rfl, ⟨nd, rfl⟩⟩; refine ⟨_, rfl, ?_⟩))
 go_ret2
 exact ⟨ap4_, ap7_⟩
def names_Number.go (s : ByteArray) : Nat → Nat → Int → Option Int
 | 0, _, _ => none
 | d + 1, i, n => if i < s.size then (if bt s i < 48 then none else if bt s i > 57 then none else if n * 10 + (bt s i - 48) > 1099511627776 then none else names_Number.go s d (i + 1) (n * 10 + (bt s i - 48))) else some n
theorem names_Number.go_step (s : ByteArray) (i : Nat) (n : Int) (hi : i < s.size) : names_Number.go s (s.size + 1 - i) i n = (if bt s i < 48 then none else if bt s i > 57 then none else if n * 10 + (bt s i - 48) > 1099511627776 then none else names_Number.go s (s.size + 1 - (i + 1)) (i + 1) (n * 10 + (bt s i - 48))) := by
 obtain ⟨d, hd⟩ : ∃ d, s.size + 1 - i = d + 1 := ⟨s.size - i, by omega⟩
 have hd2 : s.size + 1 - (i + 1) = d := by omega
 rw [hd, hd2]
 simp only [names_Number.go]
 rw [if_pos hi]
theorem names_Number.go_end (s : ByteArray) (i : Nat) (n : Int) (hi : i = s.size) : names_Number.go s (s.size + 1 - i) i n = some n := by
 subst hi
 rw [show s.size + 1 - s.size = 0 + 1 by omega]
 simp only [names_Number.go]
 rw [if_neg (by omega)]
def names_Number.f (a0 : Int) (a1 : ByteArray) : Option (Int × Int) :=
 if a1.size ≤ 140737488351232 then (names_head.f a0).bind fun h => if h.toList = [] then some (0, 1) else (strings_CutPrefix.f a1 h).bind fun p =>
  if p.2 = false then some (0, 7) else if p.1.toList = [] then some (0, 7) else if 1 < p.1.size ∧ bt p.1 0 = 48 then some (0, 7) else
  if p.1.size ≤ 140737488351232 then (match names_Number.go p.1 (p.1.size + 1) 0 0 with
  | none => some (0, 7)
  | some n => some (n, 0)) else none
 else none
theorem names_Number.calls (a0 : Int) (a1 : ByteArray) (r1 : Int) (r2 : Int) (w : World) (h : names_Number.f a0 a1 = some (r1, r2)) :
  Calls Tryz.prog 42 #[.int .i64 a0, .string a1] w fun e w' => e = .returned (.tuple #[.int .i64 r1, .int .i64 r2]) ∧ Below w.heap.size w w' := by
 unfold names_Number.f at h
 by_cases hs : a1.size ≤ 140737488351232
 case neg => rw [if_neg hs] at h; exact absurd h (by simp)
 rw [if_pos hs] at h
 obtain ⟨hd, A1, h⟩ := Option.bind_eq_some_iff.mp h
 replace A1 := As_ A1
 have hbd := As_ (Below.refl w.heap.size w)
 by_cases c1 : hd.toList = []
 ·rw [if_pos c1] at h
  simp only [Option.some.injEq, Prod.mk.injEq] at h
  obtain ⟨rfl, rfl⟩ := h
  go_enter Tryz.func42, Tryz.ntmps42
  go_wp2_with (go_at_call 41; refine (names_head.calls a0 hd _ A1.out).mono ?_; rintro e w1 ⟨rfl, ⟨nd, rfl⟩⟩)
  go_ret2
  exact ⟨rfl, ap6_⟩
 ·rw [if_neg c1] at h
  have c1b : hd.toList.isEmpty = false := by simpa using c1
  clear c1
  obtain ⟨⟨p, ok⟩, A2, h⟩ := Option.bind_eq_some_iff.mp h
  replace A2 := As_ A2
  simp only at h
  cases ok with
  | false =>
   simp only [if_true] at h
   simp only [Option.some.injEq, Prod.mk.injEq] at h
   obtain ⟨rfl, rfl⟩ := h
   go_enter Tryz.func42, Tryz.ntmps42
   go_wp2_with (first | (go_at_call 41; refine (names_head.calls a0 hd _ A1.out).mono ?_; rintro e w1 ⟨rfl, ⟨nd, rfl⟩⟩) | (go_at_call 63; refine (strings_CutPrefix.calls a1 hd p false _ A2.out).mono ?_; rintro e w2 ⟨rfl, ⟨nd2, rfl⟩⟩))
   go_ret2
   exact ⟨rfl, ap6_⟩
  | true =>
   rw [if_neg (by simp)] at h
   by_cases c2 : p.toList = []
   ·rw [if_pos c2] at h
    simp only [Option.some.injEq, Prod.mk.injEq] at h
    obtain ⟨rfl, rfl⟩ := h
    go_enter Tryz.func42, Tryz.ntmps42
    go_wp2_with (first | (go_at_call 41; refine (names_head.calls a0 hd _ A1.out).mono ?_; rintro e w1 ⟨rfl, ⟨nd, rfl⟩⟩) | (go_at_call 63; refine (strings_CutPrefix.calls a1 hd p true _ A2.out).mono ?_; rintro e w2 ⟨rfl, ⟨nd2, rfl⟩⟩))
    go_ret2
    exact ⟨rfl, ap6_⟩
   ·rw [if_neg c2] at h
    have c2b : p.toList.isEmpty = false := by simpa using c2
    have hp : 0 < p.size := by
     rcases Nat.eq_zero_or_pos p.size with h0 | h0
     ·exact absurd (List.eq_nil_of_length_eq_zero (by rw [ByteArray.toList_eq, data_length]; exact h0)) c2
     ·exact h0
    clear c2
    by_cases c3 : 1 < p.size ∧ bt p 0 = 48
    ·rw [if_pos c3] at h
     simp only [Option.some.injEq, Prod.mk.injEq] at h
     obtain ⟨rfl, rfl⟩ := h
     obtain ⟨c3, c4⟩ := c3
     have hx : ((p[0]'hp).toNat : Int) = bt p 0 := bt_at p 0 hp
     have c4b := beq_iff_eq.mpr c4
     clear c4
     have c3b : decide (1 < p.size) = true := by simp; omega
     go_enter Tryz.func42, Tryz.ntmps42
     go_wp2_with (first | (go_at_call 41; refine (names_head.calls a0 hd _ A1.out).mono ?_; rintro e w1 ⟨rfl, ⟨nd, rfl⟩⟩) | (go_at_call 63; refine (strings_CutPrefix.calls a1 hd p true _ A2.out).mono ?_; rintro e w2 ⟨rfl, ⟨nd2, rfl⟩⟩))
     go_ret2
     exact ⟨rfl, ap6_⟩
    ·rw [if_neg c3] at h
     by_cases hps : p.size ≤ 140737488351232
     case neg => rw [if_neg hps] at h; exact absurd h (by simp)
     rw [if_pos hps] at h
     have hx : ((p[0]'hp).toNat : Int) = bt p 0 := bt_at p 0 hp
     have kb := fun W => print_bytes (P := Tryz.prog) 9 108 5 Tryz.underlying9 Tryz.underlying108 Tryz.underlying5 p W
     replace h := As_ h
     have c45 : (decide ((1 : Int) < (p.size : Int)) = true ∧ (bt p 0 == 48) = false) ∨ decide ((1 : Int) < (p.size : Int)) = false := by
      by_cases c5 : 1 < p.size
      ·exact .inl ⟨decide_eq_true (by omega), beq_eq_false_iff_ne.mpr (fun e => c3 ⟨c5, e⟩)⟩
      ·exact .inr (decide_eq_false (by omega))
     clear c3
     rcases c45 with ⟨c3b, c4b⟩ | c3b
     all_goals
      go_enter Tryz.func42, Tryz.ntmps42
      go_wp2_with (first | (go_at_call 41; refine (names_head.calls a0 hd _ A1.out).mono ?_; rintro e w1 ⟨rfl, ⟨nd, rfl⟩⟩) | (go_at_call 63; refine (strings_CutPrefix.calls a1 hd p true _ A2.out).mono ?_; rintro e w2 ⟨rfl, ⟨nd2, rfl⟩⟩))
      have hbw : Aside0 (Below w.heap.size w (Lib.bytesWorld (w.drewN (nd + nd2)) 5 p)) := ⟨bytes_below (pw_below_drewN hbd.out _) (by simp) 5 p⟩
      go_loop [9, 41] (fun n9 i => ∃ (k : Nat) (n : Int), k ≤ p.size ∧ i = .int .i64 k ∧ n9 = .int .i64 n ∧ 0 ≤ n ∧ n ≤ 1099511627776 ∧ Aside0 (names_Number.go p (p.size + 1 - k) k n = names_Number.go p (p.size + 1) 0 0)) (fun _ i => p.size - (intOf i).toNat)
      case atStart => exact ⟨0, 0, Nat.zero_le _, rfl, rfl, by omega, by omega, ⟨rfl⟩⟩
      case round =>
       obtain ⟨k, n, hk, rfl, rfl, hn0, hn1, hgo⟩ := hrel
       by_cases hlt : k < p.size
       ·have hcell := my_bytes_cell (w.drewN (nd + nd2)) 5 p k w.heap.size (by simp) hlt
        have hbt := bt_range p k
        replace hgo := As_ ((names_Number.go_step p k n hlt).symm.trans hgo.out)
        by_cases d1 : bt p k < 48
        ·have h1 := h.out
         rw [← hgo.out, if_pos d1] at h1
         simp only [Option.some.injEq, Prod.mk.injEq] at h1
         obtain ⟨rfl, rfl⟩ := h1
         clear h hgo
         go_wp2
         go_ret2
         exact ⟨rfl, hbw.out⟩
        ·by_cases d2 : bt p k > 57
         ·have h1 := h.out
          rw [← hgo.out, if_neg d1, if_pos d2] at h1
          simp only [Option.some.injEq, Prod.mk.injEq] at h1
          obtain ⟨rfl, rfl⟩ := h1
          clear h hgo
          go_wp2
          go_ret2
          exact ⟨rfl, hbw.out⟩
         ·by_cases d3 : n * 10 + (bt p k - 48) > 1099511627776
          ·have h1 := h.out
           rw [← hgo.out, if_neg d1, if_neg d2, if_pos d3] at h1
           simp only [Option.some.injEq, Prod.mk.injEq] at h1
           obtain ⟨rfl, rfl⟩ := h1
           clear h hgo
           go_wp2
           go_ret2
           exact ⟨rfl, hbw.out⟩
          ·have hgo2 := hgo.out
           rw [if_neg d1, if_neg d2, if_neg d3] at hgo2
           replace hgo2 := As_ hgo2
           clear hgo h
           go_wp2
           go_round
           case rel => exact ⟨k + 1, _, by omega, by go_num, rfl, by omega, by omega, hgo2⟩
           case measure => simp [intOf]; omega
       ·have h1 := h.out
        rw [← hgo.out, names_Number.go_end p k n (by omega)] at h1
        simp only [Option.some.injEq, Prod.mk.injEq] at h1
        obtain ⟨rfl, rfl⟩ := h1
        clear h hgo
        go_wp2
        go_ret2
        exact ⟨rfl, hbw.out⟩
mutual
def names_letter.j0 : Nat → Int → Bool → Option (Bool)
 | 0, _, _ => none
 | k + 1, x0, x3 => if x3 = true then (some true) else (if x0 ≥ 65 then (names_letter.j1 k x0 (decide (x0 ≤ 90))) else (names_letter.j1 k x0 false))
def names_letter.j1 : Nat → Int → Bool → Option (Bool)
 | 0, _, _ => none
 | k + 1, x0, x3 => if x3 = true then (some true) else (if x0 ≥ 48 then (names_letter.j2 k x0 (decide (x0 ≤ 57))) else (names_letter.j2 k x0 false))
def names_letter.j2 : Nat → Int → Bool → Option (Bool)
 | 0, _, _ => none
 | k + 1, x0, x3 => if x3 = true then (some true) else (if x0 = 46 then (some true) else (if x0 = 95 then (some true) else (if x0 = 45 then (some true) else (some false))))
end
def names_letter.f (k : Nat) (a0 : Int) : Option (Bool) := if a0 ≥ 97 then (names_letter.j0 k a0 (decide (a0 ≤ 122))) else (names_letter.j0 k a0 false)
theorem names_letter.mono_l : ∀ k, (∀ y0 y1, LeO (names_letter.j0 k y0 y1) (names_letter.j0 (k + 1) y0 y1)) ∧ (∀ y0 y1, LeO (names_letter.j1 k y0 y1) (names_letter.j1 (k + 1) y0 y1)) ∧ (∀ y0 y1, LeO (names_letter.j2 k y0 y1) (names_letter.j2 (k + 1) y0 y1))
 | 0 => ⟨fun _ _ r h => by simp [names_letter.j0] at h, fun _ _ r h => by simp [names_letter.j1] at h, fun _ _ r h => by simp [names_letter.j2] at h⟩
 | k + 1 => by
  obtain ⟨ih0, ih1, ih2⟩ := names_letter.mono_l k
  refine ⟨?_, ?_, ?_⟩
  ·intro y0 y1
   unfold names_letter.j0
   repeat' first
   | (with_reducible exact ih0 _ _)
   | (with_reducible exact ih1 _ _)
   | (with_reducible exact ih2 _ _)
   | (with_reducible exact LeO.refl _)
   | (with_reducible exact LeO.none _)
   | (with_reducible refine LeO.ite ?_ ?_)
   | (with_reducible refine LeO.bind ?_ (fun _ => ?_))
   | exact ih0 _ _
   | exact ih1 _ _
   | exact ih2 _ _
   | exact LeO.none _
   | refine LeO.ite ?_ ?_
   | refine LeO.bind ?_ (fun _ => ?_)
  ·intro y0 y1
   unfold names_letter.j1
   repeat' first
   | (with_reducible exact ih0 _ _)
   | (with_reducible exact ih1 _ _)
   | (with_reducible exact ih2 _ _)
   | (with_reducible exact LeO.refl _)
   | (with_reducible exact LeO.none _)
   | (with_reducible refine LeO.ite ?_ ?_)
   | (with_reducible refine LeO.bind ?_ (fun _ => ?_))
   | exact ih0 _ _
   | exact ih1 _ _
   | exact ih2 _ _
   | exact LeO.none _
   | refine LeO.ite ?_ ?_
   | refine LeO.bind ?_ (fun _ => ?_)
  ·intro y0 y1
   unfold names_letter.j2
   repeat' first
   | (with_reducible exact ih0 _ _)
   | (with_reducible exact ih1 _ _)
   | (with_reducible exact ih2 _ _)
   | (with_reducible exact LeO.refl _)
   | (with_reducible exact LeO.none _)
   | (with_reducible refine LeO.ite ?_ ?_)
   | (with_reducible refine LeO.bind ?_ (fun _ => ?_))
   | exact ih0 _ _
   | exact ih1 _ _
   | exact ih2 _ _
   | exact LeO.none _
   | refine LeO.ite ?_ ?_
   | refine LeO.bind ?_ (fun _ => ?_)
theorem names_letter.mono : ∀ a0 k, LeO (names_letter.f k a0) (names_letter.f (k + 1) a0) := by
 intro a0 k
 obtain ⟨ih0, ih1, ih2⟩ := names_letter.mono_l k
 unfold names_letter.f
 repeat' first
   | (with_reducible exact ih0 _ _)
   | (with_reducible exact ih1 _ _)
   | (with_reducible exact ih2 _ _)
   | (with_reducible exact LeO.refl _)
   | (with_reducible exact LeO.none _)
   | (with_reducible refine LeO.ite ?_ ?_)
   | (with_reducible refine LeO.bind ?_ (fun _ => ?_))
   | exact ih0 _ _
   | exact ih1 _ _
   | exact ih2 _ _
   | exact LeO.none _
   | refine LeO.ite ?_ ?_
   | refine LeO.bind ?_ (fun _ => ?_)
theorem names_letter.calls (k : Nat) (a0 : Int) (r : Bool) (w : World) (h : names_letter.f k a0 = some r) :
  Calls Tryz.prog 64 #[.int .u8 a0] w fun e w' => e = .returned (.bool r) ∧ Drawn0 w w' := by
 have H : (if a0 ≥ 97 then (names_letter.j0 k a0 (decide (a0 ≤ 122))) else (names_letter.j0 k a0 false)) = some r := h
 clear h
 have HC2 := As_ H
 clear H
 go_enter Tryz.func64, Tryz.ntmps64
 go_upto_region 1 with (fail)
 go_cut [3] (fun v3 wc => ∃ (kq : Nat) (x3_1 : Bool), v3 = .bool x3_1 ∧ Aside0 (names_letter.j0 kq a0 x3_1 = some r) ∧ Aside0 (kq ≤ k) ∧ Drawn0 w wc)
 case first =>
  have H := HC2.out
  clear HC2
  by_cases c3 : a0 ≥ 97
  ·rw [if_pos c3] at H
   have c3b0 : decide (97 ≤ a0) = true := decide_eq_true c3
   clear c3
   (first | rw [c3b0] | (simp only [i64_w, i32_w]; rw [c3b0]) | skip)
   have H' := As_ H
   clear H
   go_wp2
   go_meet
   case rel => exact ⟨_, (decide (a0 ≤ 122)), ap4_, H', ⟨ap1_⟩, ap7_⟩
  ·rw [if_neg c3] at H
   have c3b0 : decide (97 ≤ a0) = false := decide_eq_false c3
   clear c3
   (first | rw [c3b0] | (simp only [i64_w, i32_w]; rw [c3b0]) | skip)
   have H' := As_ H
   clear H
   go_wp2
   go_meet
   case rel => exact ⟨_, (false), ap4_, H', ⟨ap1_⟩, ap7_⟩
 case rest =>
  clear HC2
  obtain ⟨kq, x3_1, rfl, HA, HJ1, ⟨mc1, rfl⟩⟩ := hcut
  cases kq with
  | zero => exact absurd HA.out (by simp [names_letter.j0])
  | succ kj1 =>
   have H := HA.out
   clear HA
   simp only [names_letter.j0] at H
   by_cases c4 : x3_1 = true
   ·subst c4
    have H1 : (some true) = some r := by rw [if_pos rfl] at H; exact H
    clear H
    have H := H1
    clear H1
    obtain rfl := Option.some.inj H
    go_wp2
    go_ret
    exact ⟨ap4_, ap7_⟩
   ·replace c4 := Bool.eq_false_iff.mpr c4
    subst c4
    have H1 : (if a0 ≥ 65 then (names_letter.j1 kj1 a0 (decide (a0 ≤ 90))) else (names_letter.j1 kj1 a0 false)) = some r := by rw [if_neg (show ¬ (false = true) by decide)] at H; exact H
    clear H
    have H := H1
    clear H1
    have HC5 := As_ H
    clear H
    go_upto_region 2 with (fail)
    go_cut [3] (fun v3 wc => ∃ (kq : Nat) (x3_4 : Bool), v3 = .bool x3_4 ∧ Aside0 (names_letter.j1 kq a0 x3_4 = some r) ∧ Aside0 (kq ≤ kj1) ∧ Drawn0 w wc)
    case first =>
     have H := HC5.out
     clear HC5
     by_cases c6 : a0 ≥ 65
     ·rw [if_pos c6] at H
      have c6b0 : decide (65 ≤ a0) = true := decide_eq_true c6
      clear c6
      (first | rw [c6b0] | (simp only [i64_w, i32_w]; rw [c6b0]) | skip)
      have H' := As_ H
      clear H
      go_wp2
      go_meet
      case rel => exact ⟨_, (decide (a0 ≤ 90)), ap4_, H', ⟨by have := HJ1.out; first | omega | exact Nat.le_refl _⟩, ap7_⟩
     ·rw [if_neg c6] at H
      have c6b0 : decide (65 ≤ a0) = false := decide_eq_false c6
      clear c6
      (first | rw [c6b0] | (simp only [i64_w, i32_w]; rw [c6b0]) | skip)
      have H' := As_ H
      clear H
      go_wp2
      go_meet
      case rel => exact ⟨_, (false), ap4_, H', ⟨by have := HJ1.out; first | omega | exact Nat.le_refl _⟩, ap7_⟩
    case rest =>
     clear HC5
     try clear c4
     obtain ⟨kq, x3_4, rfl, HA, HJ4, ⟨mc4, rfl⟩⟩ := hcut
     cases kq with
     | zero => exact absurd HA.out (by simp [names_letter.j1])
     | succ kj4 =>
      have H := HA.out
      clear HA
      simp only [names_letter.j1] at H
      by_cases c7 : x3_4 = true
      ·subst c7
       have H1 : (some true) = some r := by rw [if_pos rfl] at H; exact H
       clear H
       have H := H1
       clear H1
       obtain rfl := Option.some.inj H
       go_wp2
       go_ret
       exact ⟨ap4_, ap7_⟩
      ·replace c7 := Bool.eq_false_iff.mpr c7
       subst c7
       have H1 : (if a0 ≥ 48 then (names_letter.j2 kj4 a0 (decide (a0 ≤ 57))) else (names_letter.j2 kj4 a0 false)) = some r := by rw [if_neg (show ¬ (false = true) by decide)] at H; exact H
       clear H
       have H := H1
       clear H1
       have HC8 := As_ H
       clear H
       go_upto_region 3 with (fail)
       go_cut [3] (fun v3 wc => ∃ (kq : Nat) (x3_7 : Bool), v3 = .bool x3_7 ∧ Aside0 (names_letter.j2 kq a0 x3_7 = some r) ∧ Aside0 (kq ≤ kj4) ∧ Drawn0 w wc)
       case first =>
        have H := HC8.out
        clear HC8
        by_cases c9 : a0 ≥ 48
        ·rw [if_pos c9] at H
         have c9b0 : decide (48 ≤ a0) = true := decide_eq_true c9
         clear c9
         (first | rw [c9b0] | (simp only [i64_w, i32_w]; rw [c9b0]) | skip)
         have H' := As_ H
         clear H
         go_wp2
         go_meet
         case rel => exact ⟨_, (decide (a0 ≤ 57)), ap4_, H', ⟨by have := HJ1.out; have := HJ4.out; first | omega | exact Nat.le_refl _⟩, ap7_⟩
        ·rw [if_neg c9] at H
         have c9b0 : decide (48 ≤ a0) = false := decide_eq_false c9
         clear c9
         (first | rw [c9b0] | (simp only [i64_w, i32_w]; rw [c9b0]) | skip)
         have H' := As_ H
         clear H
         go_wp2
         go_meet
         case rel => exact ⟨_, (false), ap4_, H', ⟨by have := HJ1.out; have := HJ4.out; first | omega | exact Nat.le_refl _⟩, ap7_⟩
       case rest =>
        clear HC8
        try clear c4
        try clear c7
        obtain ⟨kq, x3_7, rfl, HA, HJ7, ⟨mc7, rfl⟩⟩ := hcut
        cases kq with
        | zero => exact absurd HA.out (by simp [names_letter.j2])
        | succ kj7 =>
         have H := HA.out
         clear HA
         simp only [names_letter.j2] at H
         by_cases c10 : x3_7 = true
         ·subst c10
          have H1 : (some true) = some r := by rw [if_pos rfl] at H; exact H
          clear H
          have H := H1
          clear H1
          obtain rfl := Option.some.inj H
          go_wp2
          go_ret
          exact ⟨ap4_, ap7_⟩
         ·replace c10 := Bool.eq_false_iff.mpr c10
          subst c10
          have H1 : (if a0 = 46 then (some true) else (if a0 = 95 then (some true) else (if a0 = 45 then (some true) else (some false)))) = some r := by rw [if_neg (show ¬ (false = true) by decide)] at H; exact H
          clear H
          have H := H1
          clear H1
          by_cases c11 : a0 = 46
          ·rw [if_pos c11] at H
           have c11b0 : (a0 == 46) = true := beq_iff_eq.mpr c11
           have c11b1 : (a0 != 46) = false := bne_eq_false_iff_eq.mpr c11
           clear c11
           obtain rfl := Option.some.inj H
           go_wp2
           go_ret
           exact ⟨ap4_, ap7_⟩
          ·rw [if_neg c11] at H
           have c11b0 : (a0 == 46) = false := beq_eq_false_iff_ne.mpr c11
           have c11b1 : (a0 != 46) = true := bne_iff_ne.mpr c11
           by_cases c12 : a0 = 95
           ·rw [if_pos c12] at H
            have c12b0 : (a0 == 95) = true := beq_iff_eq.mpr c12
            have c12b1 : (a0 != 95) = false := bne_eq_false_iff_eq.mpr c12
            clear c12
            obtain rfl := Option.some.inj H
            go_wp2
            go_ret
            exact ⟨ap4_, ap7_⟩
           ·rw [if_neg c12] at H
            have c12b0 : (a0 == 95) = false := beq_eq_false_iff_ne.mpr c12
            have c12b1 : (a0 != 95) = true := bne_iff_ne.mpr c12
            by_cases c13 : a0 = 45
            ·rw [if_pos c13] at H
             have c13b0 : (a0 == 45) = true := beq_iff_eq.mpr c13
             have c13b1 : (a0 != 45) = false := bne_eq_false_iff_eq.mpr c13
             clear c13
             obtain rfl := Option.some.inj H
             go_wp2
             go_ret
             exact ⟨ap4_, ap7_⟩
            ·rw [if_neg c13] at H
             have c13b0 : (a0 == 45) = false := beq_eq_false_iff_ne.mpr c13
             have c13b1 : (a0 != 45) = true := bne_iff_ne.mpr c13
             obtain rfl := Option.some.inj H
             go_wp2
             go_ret
             exact ⟨ap4_, ap7_⟩
mutual
def names_plain.j0 : Nat → ByteArray → Bool → Option (Bool)
 | 0, _, _ => none
 | k + 1, x0, x3 => names_plain.l0 k x0 x3 (x0.size : Int) 0
def names_plain.l0 : Nat → ByteArray → Bool → Int → Int → Option (Bool)
 | 0, _, _, _, _ => none
 | k + 1, x0, x3, x13, x14 => if x14 < x13 then (if 0 ≤ x14 then (if x14 < (x0.size : Int) then ((names_letter.f k (bt x0 x14)).bind fun t105 => (if t105 = true then (names_plain.l0 k x0 x3 x13 (wrap64 (x14 + 1))) else (some false))) else (none)) else (none)) else (some x3)
end
def names_plain.f (k : Nat) (a0 : ByteArray) : Option (Bool) := if a0.toList = ([] : List UInt8) then (names_plain.j0 k a0 false) else (names_plain.j0 k a0 (decide ((a0.size : Int) ≤ 64)))
theorem names_plain.mono_l : ∀ k, (∀ y0 y1, LeO (names_plain.j0 k y0 y1) (names_plain.j0 (k + 1) y0 y1)) ∧ (∀ y0 y1 y2 y3, LeO (names_plain.l0 k y0 y1 y2 y3) (names_plain.l0 (k + 1) y0 y1 y2 y3))
 | 0 => ⟨fun _ _ r h => by simp [names_plain.j0] at h, fun _ _ _ _ r h => by simp [names_plain.l0] at h⟩
 | k + 1 => by
  obtain ⟨ih0, ih1⟩ := names_plain.mono_l k
  refine ⟨?_, ?_⟩
  ·intro y0 y1
   unfold names_plain.j0
   repeat' first
   | (with_reducible exact ih0 _ _)
   | (with_reducible exact ih1 _ _ _ _)
   | (with_reducible exact names_letter.mono _ _)
   | (with_reducible exact LeO.refl _)
   | (with_reducible exact LeO.none _)
   | (with_reducible refine LeO.ite ?_ ?_)
   | (with_reducible refine LeO.bind ?_ (fun _ => ?_))
   | exact ih0 _ _
   | exact ih1 _ _ _ _
   | exact names_letter.mono _ _
   | exact LeO.none _
   | refine LeO.ite ?_ ?_
   | refine LeO.bind ?_ (fun _ => ?_)
  ·intro y0 y1 y2 y3
   unfold names_plain.l0
   repeat' first
   | (with_reducible exact ih0 _ _)
   | (with_reducible exact ih1 _ _ _ _)
   | (with_reducible exact names_letter.mono _ _)
   | (with_reducible exact LeO.refl _)
   | (with_reducible exact LeO.none _)
   | (with_reducible refine LeO.ite ?_ ?_)
   | (with_reducible refine LeO.bind ?_ (fun _ => ?_))
   | exact ih0 _ _
   | exact ih1 _ _ _ _
   | exact names_letter.mono _ _
   | exact LeO.none _
   | refine LeO.ite ?_ ?_
   | refine LeO.bind ?_ (fun _ => ?_)
theorem names_plain.mono : ∀ a0 k, LeO (names_plain.f k a0) (names_plain.f (k + 1) a0) := by
 intro a0 k
 obtain ⟨ih0, ih1⟩ := names_plain.mono_l k
 unfold names_plain.f
 repeat' first
   | (with_reducible exact ih0 _ _)
   | (with_reducible exact ih1 _ _ _ _)
   | (with_reducible exact names_letter.mono _ _)
   | (with_reducible exact LeO.refl _)
   | (with_reducible exact LeO.none _)
   | (with_reducible refine LeO.ite ?_ ?_)
   | (with_reducible refine LeO.bind ?_ (fun _ => ?_))
   | exact ih0 _ _
   | exact ih1 _ _ _ _
   | exact names_letter.mono _ _
   | exact LeO.none _
   | refine LeO.ite ?_ ?_
   | refine LeO.bind ?_ (fun _ => ?_)
theorem names_plain.calls (k : Nat) (a0 : ByteArray) (r : Bool) (w : World) (h : names_plain.f k a0 = some r) :
  Calls Tryz.prog 43 #[.string a0] w fun e w' => e = .returned (.bool r) ∧ Drawn0 w w' := by
 have H : (if a0.toList = ([] : List UInt8) then (names_plain.j0 k a0 false) else (names_plain.j0 k a0 (decide ((a0.size : Int) ≤ 64)))) = some r := h
 clear h
 have HC2 := As_ H
 clear H
 go_enter Tryz.func43, Tryz.ntmps43
 go_wp2_with fail
 go_step3
 go_upto_region 1 with (fail)
 go_cut [3] (fun v3 wc => ∃ (kq : Nat) (x3_1 : Bool), v3 = .bool x3_1 ∧ Aside0 (names_plain.j0 kq a0 x3_1 = some r) ∧ Aside0 (kq ≤ k) ∧ Drawn0 w wc)
 case first =>
  have H := HC2.out
  clear HC2
  by_cases c3 : a0.toList = ([] : List UInt8)
  ·rw [if_pos c3] at H
   have c3b0 : (a0.toList == ([] : List UInt8)) = true := beq_iff_eq.mpr c3
   have c3b1 : (a0.toList != ([] : List UInt8)) = false := bne_eq_false_iff_eq.mpr c3
   clear c3
   (first | rw [c3b0] | (simp only [i64_w, i32_w]; rw [c3b0]) | skip)
   have H' := As_ H
   clear H
   go_wp2
   go_meet
   case rel => exact ⟨_, (false), ap4_, H', ⟨ap1_⟩, ap7_⟩
  ·rw [if_neg c3] at H
   have c3b0 : (a0.toList == ([] : List UInt8)) = false := beq_eq_false_iff_ne.mpr c3
   have c3b1 : (a0.toList != ([] : List UInt8)) = true := bne_iff_ne.mpr c3
   (first | rw [c3b0] | (simp only [i64_w, i32_w]; rw [c3b0]) | skip)
   have H' := As_ H
   clear H
   go_wp2
   go_meet
   case rel => exact ⟨_, (decide ((a0.size : Int) ≤ 64)), ap4_, H', ⟨ap1_⟩, ap7_⟩
 case rest =>
  clear HC2
  obtain ⟨kq, x3_1, rfl, HA, HJ1, ⟨mc1, rfl⟩⟩ := hcut
  cases kq with
  | zero => exact absurd HA.out (by simp [names_plain.j0])
  | succ kj1 =>
   have H := HA.out
   clear HA
   simp only [names_plain.j0] at H
   have H' := As_ H
   clear H
   go_wp2
   (try (go_step3; go_wp2))
   go_loopg [3, 14] kj1 (fun kq v3 v14 w' => ∃ (x3_2 : Bool) (x14_2 : Int), v3 = .bool x3_2 ∧ v14 = .int .i64 x14_2 ∧ Aside0 (names_plain.l0 kq a0 x3_2 (a0.size : Int) x14_2 = some r) ∧ Aside0 (kq ≤ kj1) ∧ Drawn0 w w')
   case atStart => exact ⟨(x3_1), (0), ap4_, ap4_, H', ⟨Nat.le_refl _⟩, ap7_⟩
   case round =>
    clear H'
    obtain ⟨x3_2, x14_2, rfl, rfl, HA, HK2, ⟨m2, rfl⟩⟩ := hrel
    cases gk with
    | zero => exact absurd HA.out (by simp [names_plain.l0])
    | succ k2 =>
     have H := HA.out
     clear HA
     simp only [names_plain.l0] at H
     by_cases c4 : x14_2 < (a0.size : Int)
     ·rw [if_pos c4] at H
      have c4b0 : decide (x14_2 < (a0.size : Int)) = true := decide_eq_true c4
      clear c4
      by_cases c5 : 0 ≤ x14_2
      ·rw [if_pos c5] at H
       have c5b0 : decide (0 ≤ x14_2) = true := decide_eq_true c5
       clear c5
       by_cases c6 : x14_2 < (a0.size : Int)
       ·rw [if_pos c6] at H
        have c6b0 : decide (x14_2 < (a0.size : Int)) = true := decide_eq_true c6
        clear c6
        replace H := Option.bind_eq_some_iff.mp H
        obtain ⟨t105, A80, H⟩ := H
        try dsimp only at H
        have A8 := As_ A80
        clear A80
        by_cases c9 : t105 = true
        ·subst c9
         have H1 : (names_plain.l0 k2 a0 x3_2 (a0.size : Int) (wrap64 (x14_2 + 1))) = some r := by rw [if_pos rfl] at H; exact H
         clear H
         have H := H1
         clear H1
         have H' := As_ H
         clear H
         have p7 : 0 ≤ (x14_2 : Int) := of_decide_eq_true ap5_
         have q7 : x14_2 < (a0.size : Int) := of_decide_eq_true ap5_
         have hx7 := bt_at a0 x14_2
         replace p7 := eq_true p7
         replace q7 := eq_true q7
         go_wp2_with (first | ((with_reducible refine gate_callee (f := 64) rfl ?_); refine gk_ (some 20) Tryz.func64 #[.int .u8 (bt a0 x14_2)] ?_; (with_reducible refine (names_letter.calls k2 (bt a0 x14_2) true _ A8.out).mono ?_); rintro e w' ⟨rfl, ⟨nd, rfl⟩⟩; refine ⟨_, rfl, ?_⟩))
         go_roundg k2
         case measure => have := HJ1.out; have := HK2.out; omega
         case rel => exact ⟨(x3_2), (wrap64 (x14_2 + 1)), ap4_, ap4_, H', ⟨by have := HJ1.out; have := HK2.out; omega⟩, ap7_⟩
        ·replace c9 := Bool.eq_false_iff.mpr c9
         subst c9
         have H1 : (some false) = some r := by rw [if_neg (show ¬ (false = true) by decide)] at H; exact H
         clear H
         have H := H1
         clear H1
         obtain rfl := Option.some.inj H
         have p7 : 0 ≤ (x14_2 : Int) := of_decide_eq_true ap5_
         have q7 : x14_2 < (a0.size : Int) := of_decide_eq_true ap5_
         have hx7 := bt_at a0 x14_2
         replace p7 := eq_true p7
         replace q7 := eq_true q7
         go_wp2_with (first | ((with_reducible refine gate_callee (f := 64) rfl ?_); refine gk_ (some 20) Tryz.func64 #[.int .u8 (bt a0 x14_2)] ?_; (with_reducible refine (names_letter.calls k2 (bt a0 x14_2) false _ A8.out).mono ?_); rintro e w' ⟨rfl, ⟨nd, rfl⟩⟩; refine ⟨_, rfl, ?_⟩))
         (try rw [Exit.noGoto_ret]); go_ret
         exact ⟨ap4_, ap7_⟩
       ·rw [if_neg c6] at H
        exact absurd H (by simp)
      ·rw [if_neg c5] at H
       exact absurd H (by simp)
     ·rw [if_neg c4] at H
      have c4b0 : decide (x14_2 < (a0.size : Int)) = false := decide_eq_false c4
      clear c4
      obtain rfl := Option.some.inj H
      go_wp2
      (try rw [Exit.noGoto_ret]); go_ret
      exact ⟨ap4_, ap7_⟩
def names_Check.j0 : Nat → Int → ByteArray → Bool → Option (Int)
 | 0, _, _, _ => none
 | k + 1, x0, x1, x7 => if x7 = true then (some 1) else ((names_head.f x0).bind fun t106 => (if t106.toList = ([] : List UInt8) then ((names_plain.f k x1).bind fun t107 => (if t107 = true then (some 0) else (some 7))) else ((names_Number.f x0 x1).bind fun bt108 => (some bt108.2))))
def names_Check.f (k : Nat) (a0 : Int) (a1 : ByteArray) : Option (Int) := if a0 < 0 then (names_Check.j0 k a0 a1 true) else (names_Check.j0 k a0 a1 (decide (a0 > 6)))
theorem names_Check.mono_l : ∀ k, (∀ y0 y1 y2, LeO (names_Check.j0 k y0 y1 y2) (names_Check.j0 (k + 1) y0 y1 y2))
 | 0 => fun _ _ _ r h => by simp [names_Check.j0] at h
 | k + 1 => by
  have ih0 := names_Check.mono_l k
  ·intro y0 y1 y2
   unfold names_Check.j0
   repeat' first
   | (with_reducible exact ih0 _ _ _)
   | (with_reducible exact names_plain.mono _ _)
   | (with_reducible exact LeO.refl _)
   | (with_reducible exact LeO.none _)
   | (with_reducible refine LeO.ite ?_ ?_)
   | (with_reducible refine LeO.bind ?_ (fun _ => ?_))
   | exact ih0 _ _ _
   | exact names_plain.mono _ _
   | exact LeO.none _
   | refine LeO.ite ?_ ?_
   | refine LeO.bind ?_ (fun _ => ?_)
theorem names_Check.mono : ∀ a0 a1 k, LeO (names_Check.f k a0 a1) (names_Check.f (k + 1) a0 a1) := by
 intro a0 a1 k
 have ih0 := names_Check.mono_l k
 unfold names_Check.f
 repeat' first
   | (with_reducible exact ih0 _ _ _)
   | (with_reducible exact names_plain.mono _ _)
   | (with_reducible exact LeO.refl _)
   | (with_reducible exact LeO.none _)
   | (with_reducible refine LeO.ite ?_ ?_)
   | (with_reducible refine LeO.bind ?_ (fun _ => ?_))
   | exact ih0 _ _ _
   | exact names_plain.mono _ _
   | exact LeO.none _
   | refine LeO.ite ?_ ?_
   | refine LeO.bind ?_ (fun _ => ?_)
theorem names_Check.calls (k : Nat) (a0 : Int) (a1 : ByteArray) (r : Int) (w : World) (h : names_Check.f k a0 a1 = some r) :
  Calls Tryz.prog 23 #[.int .i64 a0, .string a1] w fun e w' => e = .returned (.int .i64 r) ∧ Below w.heap.size w w' := by
 have HB := As_ (Below.refl w.heap.size w)
 have H : (if a0 < 0 then (names_Check.j0 k a0 a1 true) else (names_Check.j0 k a0 a1 (decide (a0 > 6)))) = some r := h
 clear h
 have HC3 := As_ H
 clear H
 go_enter Tryz.func23, Tryz.ntmps23
 go_upto_region 1 with (fail)
 go_cut [7] (fun v7 wc => ∃ (kq : Nat) (x7_2 : Bool), v7 = .bool x7_2 ∧ Aside0 (names_Check.j0 kq a0 a1 x7_2 = some r) ∧ Aside0 (kq ≤ k) ∧ Aside0 (Below w.heap.size w wc))
 case first =>
  have H := HC3.out
  clear HC3
  by_cases c4 : a0 < 0
  ·rw [if_pos c4] at H
   have c4b0 : decide (a0 < 0) = true := decide_eq_true c4
   clear c4
   (first | rw [c4b0] | (simp only [i64_w, i32_w]; rw [c4b0]) | skip)
   have H' := As_ H
   clear H
   go_wp2
   go_meet
   case rel => exact ⟨_, (true), ap4_, H', ⟨ap1_⟩, ⟨ap28_⟩⟩
  ·rw [if_neg c4] at H
   have c4b0 : decide (a0 < 0) = false := decide_eq_false c4
   clear c4
   (first | rw [c4b0] | (simp only [i64_w, i32_w]; rw [c4b0]) | skip)
   have H' := As_ H
   clear H
   go_wp2
   go_meet
   case rel => exact ⟨_, (decide (a0 > 6)), ap4_, H', ⟨ap1_⟩, ⟨ap28_⟩⟩
 case rest =>
  clear HC3
  obtain ⟨kq, x7_2, rfl, HA, HJ2, HB⟩ := hcut
  cases kq with
  | zero => exact absurd HA.out (by simp [names_Check.j0])
  | succ kj2 =>
   have H := HA.out
   clear HA
   simp only [names_Check.j0] at H
   by_cases c5 : x7_2 = true
   ·subst c5
    have H1 : (some 1) = some r := by rw [if_pos rfl] at H; exact H
    clear H
    have H := H1
    clear H1
    obtain rfl := Option.some.inj H
    go_wp2
    go_ret
    exact ⟨ap14_, ap28_⟩
   ·replace c5 := Bool.eq_false_iff.mpr c5
    subst c5
    have H1 : ((names_head.f a0).bind fun t106 => (if t106.toList = ([] : List UInt8) then ((names_plain.f kj2 a1).bind fun t107 => (if t107 = true then (some 0) else (some 7))) else ((names_Number.f a0 a1).bind fun bt108 => (some bt108.2)))) = some r := by rw [if_neg (show ¬ (false = true) by decide)] at H; exact H
    clear H
    have H := H1
    clear H1
    replace H := Option.bind_eq_some_iff.mp H
    obtain ⟨t106, A60, H⟩ := H
    try dsimp only at H
    have A6 := As_ A60
    clear A60
    by_cases c7 : t106.toList = ([] : List UInt8)
    ·rw [if_pos c7] at H
     have c7b0 : (t106.toList == ([] : List UInt8)) = true := beq_iff_eq.mpr c7
     have c7b1 : (t106.toList != ([] : List UInt8)) = false := bne_eq_false_iff_eq.mpr c7
     clear c7
     replace H := Option.bind_eq_some_iff.mp H
     obtain ⟨t107, A80, H⟩ := H
     try dsimp only at H
     have A8 := As_ A80
     clear A80
     by_cases c9 : t107 = true
     ·subst c9
      have H1 : (some 0) = some r := by rw [if_pos rfl] at H; exact H
      clear H
      have H := H1
      clear H1
      obtain rfl := Option.some.inj H
      go_wp2_with (first | ((with_reducible refine gate_callee (f := 41) rfl ?_); refine gk_ (some 16) Tryz.func41 #[.int .i64 a0] ?_; (with_reducible refine (names_head.calls a0 t106 _ A6.out).mono ?_); rintro e w' ⟨rfl, ⟨nd, rfl⟩⟩; refine ⟨_, rfl, ?_⟩) | ((with_reducible refine gate_callee (f := 43) rfl ?_); refine gk_ (some 27) Tryz.func43 #[.string a1] ?_; (with_reducible refine (names_plain.calls kj2 a1 true _ A8.out).mono ?_); rintro e w' ⟨rfl, ⟨nd, rfl⟩⟩; refine ⟨_, rfl, ?_⟩))
      go_ret
      exact ⟨ap14_, ap28_⟩
     ·replace c9 := Bool.eq_false_iff.mpr c9
      subst c9
      have H1 : (some 7) = some r := by rw [if_neg (show ¬ (false = true) by decide)] at H; exact H
      clear H
      have H := H1
      clear H1
      obtain rfl := Option.some.inj H
      go_wp2_with (first | ((with_reducible refine gate_callee (f := 41) rfl ?_); refine gk_ (some 16) Tryz.func41 #[.int .i64 a0] ?_; (with_reducible refine (names_head.calls a0 t106 _ A6.out).mono ?_); rintro e w' ⟨rfl, ⟨nd, rfl⟩⟩; refine ⟨_, rfl, ?_⟩) | ((with_reducible refine gate_callee (f := 43) rfl ?_); refine gk_ (some 27) Tryz.func43 #[.string a1] ?_; (with_reducible refine (names_plain.calls kj2 a1 false _ A8.out).mono ?_); rintro e w' ⟨rfl, ⟨nd, rfl⟩⟩; refine ⟨_, rfl, ?_⟩))
      go_ret
      exact ⟨ap14_, ap28_⟩
    ·rw [if_neg c7] at H
     have c7b0 : (t106.toList == ([] : List UInt8)) = false := beq_eq_false_iff_ne.mpr c7
     have c7b1 : (t106.toList != ([] : List UInt8)) = true := bne_iff_ne.mpr c7
     replace H := Option.bind_eq_some_iff.mp H
     obtain ⟨⟨t108, t109⟩, A100, H⟩ := H
     try dsimp only at H
     have A10 := As_ A100
     clear A100
     obtain rfl := Option.some.inj H
     go_wp2_with (first | ((with_reducible refine gate_callee (f := 41) rfl ?_); refine gk_ (some 16) Tryz.func41 #[.int .i64 a0] ?_; (with_reducible refine (names_head.calls a0 t106 _ A6.out).mono ?_); rintro e w' ⟨rfl, ⟨nd, rfl⟩⟩; refine ⟨_, rfl, ?_⟩) | ((with_reducible refine gate_callee (f := 42) rfl ?_); refine gk_ (some 21) Tryz.func42 #[.int .i64 a0, .string a1] ?_; (with_reducible refine (names_Number.calls a0 a1 t108 t109 _ A10.out).mono ?_); rintro e w11 ⟨rfl, hb⟩; refine ⟨_, rfl, ?_⟩; replace HB := As_ (below_step ap28_ hb); (try clear hb); (try clear hb2); (try clear hk); (try clear hi)))
     go_ret
     exact ⟨ap14_, ap28_⟩
end Go.Proofs.YtgapkicplhbidaaGreatDoor.PQup
