/- A part of the walk of QuotaHolds. No condition. -/
import Derived.Test.YtgapkicplhbidaaDoorPQuhx0
namespace Go.Proofs.YtgapkicplhbidaaDoor.PQuh
set_option maxRecDepth 100000
set_option maxHeartbeats 8000000
open Go.RowKit Go.Proofs.YtgapkicplhbidaaDoorW.PrintWords Go.Proofs.YtgapkicplhbidaaDoorW.PrintLast Go.Proofs.YtgapkicplhbidaaDoorW.PrintMore
attribute [local go_sem] max2_int min2_int max_two min_two max_three min_three max_four min_four   -- for this text's walks alone
set_option linter.unusedVariables false
set_option linter.unusedSimpArgs false
structure JSt where
 cur : List S50
 lv : List (List S76)
def encU (l : List S76) : List Value := l.flatMap (fun p => [.string p.f0, .string p.f1, .bool p.f2])
theorem encU_append (l m : List S76) : encU (l ++ m) = encU l ++ encU m := by unfold encU; rw [List.flatMap_append]
structure LvIs (base : Nat) (ok : Nat → Prop) (lvv : Value) (vs : List Value) (L : List (List S76)) (w : World) : Prop where
 len : vs.length = L.length
 ok0 : ∀ k, lvv.ownBlock = some k → ok k
 own : w.ownsRow base 74 1 lvv L.length vs
 row : ∀ (i : Nat) v l, vs[i]? = some v → L[i]? = some l → w.ownsRow base 76 3 v l.length (encU l)
 oks : ∀ (i : Nat) v k, vs[i]? = some v → v.ownBlock = some k → ok k
 dis : ∀ (i j : Nat) a b k, i ≠ j → vs[i]? = some a → vs[j]? = some b → a.ownBlock = some k → b.ownBlock ≠ some k
theorem LvIs.mono {base : Nat} {ok ok' : Nat → Prop} {lvv : Value} {vs : List Value} {L : List (List S76)} {w : World} (h : LvIs base ok lvv vs L w) (hk : ∀ k, ok k → ok' k) : LvIs base ok' lvv vs L w :=
 ⟨h.len, fun k e => hk k (h.ok0 k e), h.own, h.row, fun i v k e1 e2 => hk k (h.oks i v k e1 e2), h.dis⟩
theorem LvIs.get {base : Nat} {ok : Nat → Prop} {lvv : Value} {vs : List Value} {L : List (List S76)} {w : World} (h : LvIs base ok lvv vs L w) {i : Nat} {v : Value} (e : vs[i]? = some v) : ∃ l, L[i]? = some l ∧ w.ownsRow base 76 3 v l.length (encU l) := by
 have hi : i < L.length := by rw [← h.len]; exact (List.getElem?_eq_some_iff.1 e).1
 exact ⟨L[i], List.getElem?_eq_getElem hi, h.row i v _ e (List.getElem?_eq_getElem hi)⟩
theorem LvIs.step {base : Nat} {ok : Nat → Prop} {lvv : Value} {vs : List Value} {L : List (List S76)} {w w1 : World} (h : LvIs base ok lvv vs L w)
  (hm : ∀ k, ok k → base ≤ k → k < w.heap.size → (∃ cells, w.heap[k]? = some (.cells cells 74 (0, 0)) ∨ w.heap[k]? = some (.cells cells 76 (0, 0))) → w1.heap[k]? = w.heap[k]?) : LvIs base ok lvv vs L w1 := by
 refine ⟨h.len, h.ok0, own_move h.own (fun k hk => ?_), fun i v l e1 e2 => own_move (h.row i v l e1 e2) (fun k hk => ?_), h.oks, h.dis⟩
 ·obtain ⟨cells, hc⟩ := own_typed h.own k hk
  exact hm k (h.ok0 k hk) (own_base h.own k hk) (own_lt h.own k hk) ⟨cells, .inl hc⟩
 ·obtain ⟨cells, hc⟩ := own_typed (h.row i v l e1 e2) k hk
  exact hm k (h.oks i v k e1 hk) (own_base (h.row i v l e1 e2) k hk) (own_lt (h.row i v l e1 e2) k hk) ⟨cells, .inr hc⟩
theorem LvIs.below {base : Nat} {ok : Nat → Prop} {lvv : Value} {vs : List Value} {L : List (List S76)} {w w1 : World} (h : LvIs base ok lvv vs L w) (hb : Below w.heap.size w w1) : LvIs base ok lvv vs L w1 := h.step (fun k _ _ hk _ => hb.block k hk)
theorem LvIs.bound {base : Nat} {ok : Nat → Prop} {lvv : Value} {vs : List Value} {L : List (List S76)} {w : World} (h : LvIs base ok lvv vs L w) : LvIs base (fun k => ok k ∧ base ≤ k ∧ k < w.heap.size ∧ ∃ q, q ∈ [74, 76] ∧ ∃ cells, w.heap[k]? = some (.cells cells q (0, 0))) lvv vs L w := by
 refine ⟨h.len, fun k hk => ?_, h.own, h.row, fun i v k e hk => ?_, h.dis⟩
 ·obtain ⟨cells, hc⟩ := own_typed h.own k hk
  exact ⟨h.ok0 k hk, own_base h.own k hk, own_lt h.own k hk, _, List.mem_cons_self, cells, hc⟩
 ·obtain ⟨l, e2, hr⟩ := h.get e
  obtain ⟨cells, hc⟩ := own_typed hr k hk
  exact ⟨h.oks i v k e hk, own_base hr k hk, own_lt hr k hk, _, List.mem_cons_of_mem _ List.mem_cons_self, cells, hc⟩
theorem LvIs.put {base : Nat} {ok ok' : Nat → Prop} {b c : Nat} {v v' : Value} {vs : List Value} {L : List (List S76)} {l' : List S76} {w w1 : World} {i : Nat} (h : LvIs base ok (.slice (some ⟨b, 0, none⟩) L.length c) vs L w) (hk : ∀ k, ok k → ok' k) (hn : ∀ k, w.heap.size ≤ k → ok' k)
  (hi : vs[i]? = some v) (hr : w1.ownsRow base 76 3 v' l'.length (encU l')) (hg : w.grownBy w1 v.ownBlock) (hat : v'.ownBlock = v.ownBlock ∨ ∃ b, v'.ownBlock = some b ∧ w.heap.size ≤ b) (h1 : v'.oneCell' = true) :
  LvIs base ok' (.slice (some ⟨b, 0, none⟩) L.length c) (vs.set i v') (L.set i l') (w1.setCell ⟨b, i, none⟩ v') := by
 obtain ⟨l, el, hl⟩ := h.get hi
 have hil : i < vs.length := (List.getElem?_eq_some_iff.1 hi).1
 have hbo : (Value.slice (some ⟨b, 0, none⟩) L.length c).ownBlock = some b := rfl
 obtain ⟨cb, hcb⟩ := own_typed h.own b hbo
 have hblt := own_lt h.own b hbo
 have hvb : v.ownBlock ≠ some b := by
  intro e
  obtain ⟨c1, h1⟩ := own_typed hl b e
  rw [h1] at hcb
  injection hcb with h2
  injection h2 with _ h2
  exact absurd h2 (by decide)
 have hv'b : v'.ownBlock ≠ some b := by
  rcases hat with hat | ⟨b', hb, hle⟩
  ·rw [hat]; exact hvb
  ·rw [hb]; intro e; injection e with e; omega
 have hb1 : w1.heap[b]? = w.heap[b]? := hg.block b hblt (fun e => hvb e.symm)
 have hown1 : w1.ownsRow base 74 1 (.slice (some ⟨b, 0, none⟩) L.length c) L.length vs := own_move h.own (fun k e => by rw [hbo] at e; injection e with e; rw [← e]; exact hb1)
 have hset : (w1.setCell ⟨b, i, none⟩ v').ownsRow base 74 1 (.slice (some ⟨b, 0, none⟩) L.length c) L.length (vs.set i v') := by
  rcases hown1.2 with ⟨e, _⟩ | ⟨b2, cap, cur, e, hbb, hgg, hnn, hmm, hss, hxx⟩
  ·cases e
  ·injection e with e1 e2 e3
   injection e1 with e1
   injection e1 with e1
   subst e1; subst e3
   have e1 := setCell_eq_setRow w1 b i cur _ _ v' hgg
   have r5 := setRow_heap w1 b cur (cur.setIfInBounds i v') _ _ hgg
   rw [e1]
   refine ⟨by rw [List.length_set]; exact hown1.1, .inr ⟨b, c, _, rfl, hbb, r5, hnn, hmm, by rw [Array.size_setIfInBounds, hss], ?_⟩⟩
   rw [Array.toList_setIfInBounds, List.take_set, hxx]
 have hfar : ∀ k, k ≠ b → (w1.setCell ⟨b, i, none⟩ v').heap[k]? = w1.heap[k]? := fun k hk => Below.heap_setCell w1 ⟨b, i, none⟩ v' k hk
 refine ⟨by simp [h.len], fun k e => hk k (h.ok0 k e), by rw [List.length_set]; exact hset, fun j u m e1 e2 => ?_, fun j u k e1 e2 => ?_, fun j j2 x y k hjj e1 e2 e3 e4 => ?_⟩
 ·by_cases hji : j = i
  ·subst hji
   rw [List.getElem?_set_self hil] at e1
   rw [List.getElem?_set_self (by rw [← h.len]; exact hil)] at e2
   injection e1 with e1; injection e2 with e2
   subst e1; subst e2
   exact own_move hr (fun k e => hfar k (fun e2 => hv'b (by rw [e, e2])))
  ·rw [List.getElem?_set_ne (Ne.symm hji)] at e1 e2
   have hu := h.row j u m e1 e2
   refine own_move hu (fun k e => ?_)
   obtain ⟨c1, h1⟩ := own_typed hu k e
   have hkb : k ≠ b := by
    rintro rfl
    rw [h1] at hcb
    injection hcb with h2
    injection h2 with _ h2
    exact absurd h2 (by decide)
   rw [hfar k hkb]
   exact hg.block k (own_lt hu k e) (fun e2 => h.dis j i u v k hji e1 hi e e2.symm)
 ·by_cases hji : j = i
  ·subst hji
   rw [List.getElem?_set_self hil] at e1
   injection e1 with e1; subst e1
   rcases hat with hat | ⟨b', hb, hle⟩
   ·exact hk k (h.oks j v k hi (hat ▸ e2))
   ·rw [hb] at e2; injection e2 with e2; exact hn k (by omega)
  ·rw [List.getElem?_set_ne (Ne.symm hji)] at e1
   exact hk k (h.oks j u k e1 e2)
 ·have key : ∀ (j : Nat) x k, j ≠ i → vs[j]? = some x → x.ownBlock = some k → v'.ownBlock ≠ some k := by
   intro j x k hji e1 e2 e3
   rcases hat with hat | ⟨b', hb, hle⟩
   ·exact h.dis j i x v k hji e1 hi e2 (hat ▸ e3)
   ·obtain ⟨m, _, hm⟩ := h.get e1
    have := own_lt hm k e2
    rw [hb] at e3; injection e3 with e3; omega
  by_cases hji : j = i
  ·subst hji
   rw [List.getElem?_set_self hil] at e1
   injection e1 with e1; subst e1
   rw [List.getElem?_set_ne hjj] at e2
   exact key j2 y k (Ne.symm hjj) e2 e4 e3
  ·rw [List.getElem?_set_ne (Ne.symm hji)] at e1
   by_cases hj2 : j2 = i
   ·subst hj2
    rw [List.getElem?_set_self hil] at e2
    injection e2 with e2; subst e2
    exact key j x k hji e1 e3 e4
   ·rw [List.getElem?_set_ne (Ne.symm hj2)] at e2
    exact h.dis j j2 x y k hjj e1 e2 e3 e4
structure JX (base : Nat) (ok : Nat → Prop) (g gs : Nat) (sv lvv : Value) (vs : List Value) (st : JSt) (w : World) : Prop where
 okg : ok g
 oks : ok gs
 okv : ∀ k, sv.ownBlock = some k → ok k
 ge : base ≤ g
 blk : w.heap[g]? = some (.cells #[.pointer (some ⟨gs, 0, none⟩), lvv] 36 (0, 0))
 store : StoreIs base gs sv st.cur w
 lv : LvIs base ok lvv vs st.lv w
def JM (base : Nat) (ok : Nat → Prop) (g : Nat) (st : JSt) (w : World) : Prop := ∃ gs sv lvv vs, JX base ok g gs sv lvv vs st w
structure JW (ok : Nat → Prop) (w w' : World) : Prop where
 os : w'.os = w.os
 tape : w'.tape = w.tape
 output : w'.output = w.output
 size : w.heap.size ≤ w'.heap.size
 block : ∀ i, i < w.heap.size → ¬ ok i → w'.heap[i]? = w.heap[i]?
theorem JW.of_below {ok : Nat → Prop} {w w' : World} (h : Below w.heap.size w w') : JW ok w w' := ⟨h.os, h.tape, h.output, h.size, fun i hi _ => h.block i hi⟩
theorem JW.of_grown {ok : Nat → Prop} {row : Option Nat} {w w' : World} (h : w.grownBy w' row) (hk : ∀ k, row = some k → ok k) : JW ok w w' := ⟨h.os, h.tape, h.output, h.size, fun i hi hn => h.block i hi (fun e => hn (hk i e.symm))⟩
theorem JW.of_store {ok : Nat → Prop} {gs : Nat} {sv : Value} {w w' : World} (h : StoreW gs sv w w') (h1 : ok gs) (h2 : ∀ k, sv.ownBlock = some k → ok k) : JW ok w w' := ⟨h.os, h.tape, h.output, h.size, fun i hi hn => h.block i hi (fun e => hn (e ▸ h1)) (fun e => hn (h2 i e.symm))⟩
theorem JW.set {ok : Nat → Prop} {w : World} {b : Nat} (h : ok b) (j : Nat) (v : Value) : JW ok w (w.setCell ⟨b, j, none⟩ v) := ⟨rfl, rfl, rfl, by simp [World.setCell], fun i _ hn => Below.heap_setCell w ⟨b, j, none⟩ v i (fun e => hn (by rw [e]; exact h))⟩
theorem JW.trans {ok ok' : Nat → Prop} {w w1 w2 : World} (h : JW ok w w1) (k : JW ok' w1 w2) (hk : ∀ i, ok' i → ok i ∨ w.heap.size ≤ i) : JW ok w w2 :=
 ⟨k.os.trans h.os, k.tape.trans h.tape, k.output.trans h.output, Nat.le_trans h.size k.size, fun i hi hn => (k.block i (Nat.lt_of_lt_of_le hi h.size) (fun e => (hk i e).elim hn (fun e => by omega))).trans (h.block i hi hn)⟩
theorem JW.toBelow {n : Nat} {ok : Nat → Prop} {w w1 w2 : World} (hb : Below n w w1) (hn : n ≤ w1.heap.size) (hw : JW ok w1 w2) (hk : ∀ k, ok k → n ≤ k) : Below n w w2 :=
 hb.trans ⟨hw.os, hw.tape, hw.output, hw.size, fun i hi => hw.block i (Nat.lt_of_lt_of_le hi hn) (fun e => by have := hk i e; omega)⟩
theorem JX.step {base : Nat} {ok : Nat → Prop} {g gs : Nat} {sv lvv : Value} {vs : List Value} {st : JSt} {w w1 : World} (h : JX base ok g gs sv lvv vs st w) (hb : Below w.heap.size w w1) : JX base ok g gs sv lvv vs st w1 :=
 ⟨h.okg, h.oks, h.okv, h.ge, blk_below h.blk hb, StoreIs.below h.store hb, h.lv.below hb⟩
theorem JX.mono {base : Nat} {ok ok' : Nat → Prop} {g gs : Nat} {sv lvv : Value} {vs : List Value} {st : JSt} {w : World} (h : JX base ok g gs sv lvv vs st w) (hk : ∀ k, ok k → ok' k) : JX base ok' g gs sv lvv vs st w :=
 ⟨hk _ h.okg, hk _ h.oks, fun k e => hk k (h.okv k e), h.ge, h.blk, h.store, h.lv.mono hk⟩
theorem JM.below {base : Nat} {ok : Nat → Prop} {g : Nat} {st : JSt} {w w1 : World} (h : JM base ok g st w) (hb : Below w.heap.size w w1) : JM base ok g st w1 := by
 obtain ⟨gs, sv, lvv, vs, h⟩ := h
 exact ⟨gs, sv, lvv, vs, h.step hb⟩
theorem JM.mono {base : Nat} {ok ok' : Nat → Prop} {g : Nat} {st : JSt} {w : World} (h : JM base ok g st w) (hk : ∀ k, ok k → ok' k) : JM base ok' g st w := by
 obtain ⟨gs, sv, lvv, vs, h⟩ := h
 exact ⟨gs, sv, lvv, vs, h.mono hk⟩
theorem blk_ty {w : World} {a : Nat} {c d : Array Value} {t u : TypeId} {x y : Nat × Nat} (h1 : w.heap[a]? = some (.cells c t x)) (h2 : w.heap[a]? = some (.cells d u y)) : t = u := by
 rw [h1] at h2
 injection h2 with h2
 injection h2 with _ h2
theorem JX.stored {base : Nat} {ok : Nat → Prop} {g gs : Nat} {sv lvv sv' : Value} {vs : List Value} {st : JSt} {l' : List S50} {w w1 : World} (h : JX base ok g gs sv lvv vs st w) (hs : StoreIs base gs sv' l' w1) (hw : StoreW gs sv w w1) (hat : sv'.ownBlock = sv.ownBlock ∨ ∃ b, sv'.ownBlock = some b ∧ w.heap.size ≤ b) :
  JX base (fun k => ok k ∨ w.heap.size ≤ k) g gs sv' lvv vs { st with cur := l' } w1 := by
 obtain ⟨c0, hc0⟩ : ∃ c, w.heap[gs]? = some (.cells c 52 (0, 0)) := ⟨_, h.store.2.2.1⟩
 have hsv : ∀ k, sv.ownBlock = some k → ∃ c, w.heap[k]? = some (.cells c 50 (0, 0)) := fun k e => own_typed h.store.2.2.2 k e
 refine ⟨.inl h.okg, .inl h.oks, fun k e => ?_, h.ge, ?_, hs, (h.lv.step (fun k _ _ hlt ht => ?_)).mono (fun k hk => .inl hk)⟩
 ·rcases hat with hat | ⟨b, hb, hle⟩
  ·exact .inl (h.okv k (hat ▸ e))
  ·rw [hb] at e; injection e with e; exact .inr (by omega)
 ·refine (hw.block g (blk_lt h.blk) (fun e => ?_) (fun e => ?_)).trans h.blk
  ·rw [← e] at hc0; exact absurd (blk_ty h.blk hc0) (by decide)
  ·obtain ⟨c, hc⟩ := hsv g e.symm
   exact absurd (blk_ty h.blk hc) (by decide)
 ·obtain ⟨cells, ht | ht⟩ := ht
  all_goals
   refine hw.block k hlt (fun e => ?_) (fun e => ?_)
   ·rw [← e] at hc0; exact absurd (blk_ty ht hc0) (by decide)
   ·obtain ⟨c, hc⟩ := hsv k e.symm
    exact absurd (blk_ty ht hc) (by decide)
def JT : List Nat := [36, 52, 50, 74, 76]
theorem JX.bound {base : Nat} {ok : Nat → Prop} {g gs : Nat} {sv lvv : Value} {vs : List Value} {st : JSt} {w : World} (h : JX base ok g gs sv lvv vs st w) : JX base (fun k => ok k ∧ base ≤ k ∧ k < w.heap.size ∧ ∃ q, q ∈ JT ∧ ∃ cells, w.heap[k]? = some (.cells cells q (0, 0))) g gs sv lvv vs st w := by
 refine ⟨⟨h.okg, h.ge, blk_lt h.blk, _, by simp [JT], _, h.blk⟩, ⟨h.oks, h.store.1, blk_lt h.store.2.2.1, _, by simp [JT], _, h.store.2.2.1⟩, fun k e => ?_, h.ge, h.blk, h.store, h.lv.bound.mono (fun k hk => ?_)⟩
 ·obtain ⟨cells, hc⟩ := own_typed h.store.2.2.2 k e
  exact ⟨h.okv k e, own_base h.store.2.2.2 k e, own_lt h.store.2.2.2 k e, _, by simp [JT], cells, hc⟩
 ·obtain ⟨h1, h2, h3, q, hq, hc⟩ := hk
  refine ⟨h1, h2, h3, q, ?_, hc⟩
  simp only [List.mem_cons, List.not_mem_nil, or_false] at hq
  rcases hq with rfl | rfl <;> simp [JT]
theorem JM.bound {base : Nat} {ok : Nat → Prop} {g : Nat} {st : JSt} {w : World} (h : JM base ok g st w) : JM base (fun k => ok k ∧ base ≤ k ∧ k < w.heap.size ∧ ∃ q, q ∈ JT ∧ ∃ cells, w.heap[k]? = some (.cells cells q (0, 0))) g st w := by
 obtain ⟨gs, sv, lvv, vs, h⟩ := h
 exact ⟨gs, sv, lvv, vs, h.bound⟩
def JPost (base : Nat) (ok : Nat → Prop) (g : Nat) (st' : JSt) (r : Value) (w : World) (e : Ending) (w' : World) : Prop := e = .returned r ∧ JM base (fun k => ok k ∨ w.heap.size ≤ k) g st' w' ∧ JW ok w w'
theorem exec_append {P : Program} {o : Oper} {a : Act} {w : World} (d x : Operand) (dT sT : TypeId) (hop : o.op = Op.call { callee := Callee.builtin Builtin.append, args := #[d, x], argTypes := #[dT, sT] }) (v u : Value) (hd : a.eval d = v) (hx : a.eval x = u) {v' : Value} {w' : World} (hr : (Builtin.append_ #[dT, sT] o.type #[v, u]).run P w = .ok v' w') :
  (execOp a.eval o).run P w = .ok (.value v') w' := by
 unfold execOp
 simp only [hop, resolve, invoke, builtin, Sem.run_bind, Sem.run_pure, Result.andThen_ok, List.map_toArray, List.map_cons, List.map_nil, hd, hx, hr]
theorem JX.putLv {base : Nat} {ok : Nat → Prop} {g gs b c i : Nat} {sv v v' : Value} {vs : List Value} {st : JSt} {l' : List S76} {w w1 : World} (h : JX base ok g gs sv (.slice (some ⟨b, 0, none⟩) st.lv.length c) vs st w)
  (hi : vs[i]? = some v) (hr : w1.ownsRow base 76 3 v' l'.length (encU l')) (hg : w.grownBy w1 v.ownBlock) (hat : v'.ownBlock = v.ownBlock ∨ ∃ b, v'.ownBlock = some b ∧ w.heap.size ≤ b) (h1 : v'.oneCell' = true) :
  JX base (fun k => ok k ∨ w.heap.size ≤ k) g gs sv (.slice (some ⟨b, 0, none⟩) st.lv.length c) (vs.set i v') ⟨st.cur, st.lv.set i l'⟩ (w1.setCell ⟨b, i, none⟩ v') := by
 obtain ⟨l, el, hl⟩ := h.lv.get hi
 obtain ⟨cb, hcb⟩ := own_typed h.lv.own b rfl
 have hmv : ∀ (k : Nat) (cells : Array Value) (q : TypeId), w.heap[k]? = some (.cells cells q (0, 0)) → q ≠ 76 → q ≠ 74 → (w1.setCell ⟨b, i, none⟩ v').heap[k]? = w.heap[k]? := by
  intro k cells q hk h1 h2
  refine (Below.heap_setCell w1 ⟨b, i, none⟩ v' k (fun e => ?_)).trans (hg.block k (blk_lt hk) (fun e => ?_))
  ·have e : k = b := e
   subst e; exact h2 (blk_ty hk hcb)
  ·obtain ⟨cs, hc⟩ := own_typed hl k e.symm
   exact h1 (blk_ty hk hc)
 refine ⟨.inl h.okg, .inl h.oks, fun k e => .inl (h.okv k e), h.ge, (hmv g _ _ h.blk (by decide) (by decide)).trans h.blk, ⟨h.store.1, h.store.2.1, (hmv gs _ _ h.store.2.2.1 (by decide) (by decide)).trans h.store.2.2.1, own_move h.store.2.2.2 (fun k e => ?_)⟩, ?_⟩
 ·obtain ⟨cs, hc⟩ := own_typed h.store.2.2.2 k e
  exact hmv k _ _ hc (by decide) (by decide)
 ·show LvIs base _ _ _ (st.lv.set i l') _
  have := h.lv.put (ok' := fun k => ok k ∨ w.heap.size ≤ k) (fun k hk => .inl hk) (fun k hk => .inr hk) hi hr hg hat h1
  exact this
theorem JX.move {base : Nat} {ok : Nat → Prop} {g gs : Nat} {sv lvv : Value} {vs : List Value} {st : JSt} {w w1 : World} (h : JX base ok g gs sv lvv vs st w) (hm : ∀ (k : Nat) (cells : Array Value) (q : TypeId), ok k → w.heap[k]? = some (.cells cells q (0, 0)) → w1.heap[k]? = w.heap[k]?) : JX base ok g gs sv lvv vs st w1 := by
 refine ⟨h.okg, h.oks, h.okv, h.ge, (hm g _ _ h.okg h.blk).trans h.blk, ⟨h.store.1, h.store.2.1, (hm gs _ _ h.oks h.store.2.2.1).trans h.store.2.2.1, own_move h.store.2.2.2 (fun k e => ?_)⟩, h.lv.step (fun k hk _ _ ht => ?_)⟩
 ·obtain ⟨c, hc⟩ := own_typed h.store.2.2.2 k e
  exact hm k _ _ (h.okv k e) hc
 ·obtain ⟨cells, ht | ht⟩ := ht
  all_goals exact hm k _ _ hk ht
theorem JM.move {base : Nat} {ok : Nat → Prop} {g : Nat} {st : JSt} {w w1 : World} (h : JM base ok g st w) (hm : ∀ (k : Nat) (cells : Array Value) (q : TypeId), ok k → w.heap[k]? = some (.cells cells q (0, 0)) → w1.heap[k]? = w.heap[k]?) : JM base ok g st w1 := by
 obtain ⟨gs, sv, lvv, vs, h⟩ := h
 exact ⟨gs, sv, lvv, vs, h.move hm⟩
theorem posK_app {A B : List S50} {key : ByteArray} (hA : ∀ p ∈ A, kLt p.f0 key = true) (hB : ∀ p ∈ B, kLt p.f0 key = false) : posK (A ++ B) key = A.length := by
 unfold posK
 rw [List.countP_append, List.countP_eq_length.2 (fun p hp => hA p hp), List.countP_eq_zero.2 (fun p hp e => by rw [hB p hp] at e; exact absurd e (by simp)), Nat.add_zero]
theorem mid_ge {x : S50} {B : List S50} {key : ByteArray} (hx : x.f0 = key) (hB : ∀ p ∈ B, kLt p.f0 key = false) : ∀ p ∈ x :: B, kLt p.f0 key = false := by
 intro p hp
 rcases List.mem_cons.1 hp with rfl | hp
 ·rw [hx]; exact kLt_irr _
 ·exact hB p hp
theorem hasK_mid {A B : List S50} {x : S50} {key : ByteArray} (hA : ∀ p ∈ A, kLt p.f0 key = true) (hx : x.f0 = key) (hB : ∀ p ∈ B, kLt p.f0 key = false) : hasK (A ++ x :: B) key = true := by
 unfold hasK
 rw [posK_app hA (mid_ge hx hB), List.getElem?_append_right (Nat.le_refl _), Nat.sub_self, List.getElem?_cons_zero]
 show (x.f0.toList == key.toList) = true
 rw [hx]; exact beq_self_eq_true _
theorem setK_mid {A B : List S50} {x : S50} {key : ByteArray} (value : ByteArray) (hA : ∀ p ∈ A, kLt p.f0 key = true) (hx : x.f0 = key) (hB : ∀ p ∈ B, kLt p.f0 key = false) : setK (A ++ x :: B) key value = A ++ ⟨key, value⟩ :: B := by
 unfold setK
 rw [hasK_mid hA hx hB, if_pos rfl, posK_app hA (mid_ge hx hB), List.set_append_right _ _ (Nat.le_refl _), Nat.sub_self, List.set_cons_zero]
theorem delK_mid {A B : List S50} {x : S50} {key : ByteArray} (hA : ∀ p ∈ A, kLt p.f0 key = true) (hx : x.f0 = key) (hB : ∀ p ∈ B, kLt p.f0 key = false) : delK (A ++ x :: B) key = A ++ B := by
 unfold delK
 rw [hasK_mid hA hx hB, if_pos rfl, posK_app hA (mid_ge hx hB), List.take_left, List.drop_append, List.drop_eq_nil_of_le (by omega), List.nil_append, show A.length + 1 - A.length = 1 by omega]
 rfl
theorem getK_mid {A B : List S50} {x : S50} {key : ByteArray} (hA : ∀ p ∈ A, kLt p.f0 key = true) (hx : x.f0 = key) (hB : ∀ p ∈ B, kLt p.f0 key = false) : getK (A ++ x :: B) key = (x.f1, true) := by
 unfold getK
 rw [hasK_mid hA hx hB, if_pos rfl, posK_app hA (mid_ge hx hB), rdP _ _ (by simp)]
 simp
theorem setK_new {A B : List S50} {key : ByteArray} (value : ByteArray) (hA : ∀ p ∈ A, kLt p.f0 key = true) (hB : ∀ p ∈ B, kLt p.f0 key = false) (hh : hasK (A ++ B) key = false) : setK (A ++ B) key value = A ++ ⟨key, value⟩ :: B := by
 unfold setK
 rw [hh, if_neg (by simp), posK_app hA hB, List.take_left, List.drop_left]
theorem decK {c : List S50} (hs : sortK c) (key : ByteArray) : ∃ A B, (∀ p ∈ A, kLt p.f0 key = true) ∧ (∀ p ∈ B, kLt p.f0 key = false) ∧ ((hasK c key = true ∧ ∃ x : S50, x.f0 = key ∧ c = A ++ x :: B) ∨ (hasK c key = false ∧ c = A ++ B)) := by
 have h1 : ∀ p ∈ c.take (posK c key), kLt p.f0 key = true := by
  intro p hp
  obtain ⟨i, hi, rfl⟩ := List.mem_iff_getElem.1 hp
  rw [List.length_take] at hi
  rw [List.getElem_take, posK_spec c key hs i (by omega)]
  exact decide_eq_true (by omega)
 have h2 : ∀ p ∈ c.drop (posK c key), kLt p.f0 key = false := by
  intro p hp
  obtain ⟨i, hi, rfl⟩ := List.mem_iff_getElem.1 hp
  rw [List.length_drop] at hi
  rw [List.getElem_drop, posK_spec c key hs _ (by omega)]
  exact decide_eq_false (by omega)
 cases hh : hasK c key with
 | true =>
  obtain ⟨hp, hk⟩ := hasK_lt hh
  refine ⟨c.take (posK c key), c.drop (posK c key + 1), h1, fun p hp2 => h2 p ?_, .inl ⟨rfl, c[posK c key], hk, ?_⟩⟩
  ·rw [List.drop_eq_getElem_cons hp]; exact List.mem_cons_of_mem _ hp2
  ·rw [← List.drop_eq_getElem_cons hp, List.take_append_drop]
 | false => exact ⟨c.take (posK c key), c.drop (posK c key), h1, h2, .inr ⟨rfl, (List.take_append_drop _ _).symm⟩⟩
def noteU (c : List S50) (key : ByteArray) : S76 := ⟨key, (getK c key).1, (getK c key).2⟩
def lvAt (L : List (List S76)) (i : Nat) : List S76 := L.getD i []
def noteJ (st : JSt) (key : ByteArray) : JSt := { st with lv := st.lv.set (st.lv.length - 1) (lvAt st.lv (st.lv.length - 1) ++ [noteU st.cur key]) }
def setJ (st : JSt) (key value : ByteArray) : JSt := if key.size > 65536 ∨ value.size > 65536 then st else { noteJ st key with cur := setK st.cur key value }
def setE (key value : ByteArray) : Int := if key.size > 65536 ∨ value.size > 65536 then 4 else 0
def delJ (st : JSt) (key : ByteArray) : JSt := if hasK st.cur key = true then { noteJ st key with cur := delK st.cur key } else st
def delE (st : JSt) (key : ByteArray) : Int := if hasK st.cur key = true then 0 else 8
theorem j_get (base g : Nat) (ok : Nat → Prop) (st : JSt) (key : ByteArray) (w : World) (h : JM base ok g st w) (hl : st.cur.length ≤ 1000000000) :
  Calls Tryd.prog 28 #[.pointer (some ⟨g, 0, none⟩), .string key] w fun e w' => e = .returned (.tuple #[.string (getK st.cur key).1, .bool (getK st.cur key).2]) ∧ Below w.heap.size w w' := by
 obtain ⟨gs, sv, lvv, vs, h⟩ := h
 have y0 : w.cell? ⟨g, 0, none⟩ = some (.pointer (some ⟨gs, 0, none⟩)) := (blk_cell h.blk 0).trans rfl
 have hst := h.store
 clear h
 go_enter Tryd.func28, Tryd.ntmps28
 go_wp2_with fail
 refine (st_get base gs st.cur key _ hst.at_ hl).mono ?_
 rintro e w2 ⟨rfl, hb⟩
 go_wp2
 go_ret2
 exact ⟨rfl, hb⟩
theorem lvl_append (base : Nat) (v : Value) (l : List S76) (u : S76) (w : World) (ho : w.ownsRow base 76 3 v l.length (encU l)) (hn : l.length ≤ 1000000) (hb : base ≤ w.heap.size) (b : Nat) (hbk : w.heap[b]? = some (.cells #[.string u.f0, .string u.f1, .bool u.f2] 76 (0, 0))) (ty : TypeId) :
  ∃ v1 w1, (Builtin.append_ #[74, 74] ty #[v, .slice (some ⟨b, 0, none⟩) 1 1]).run Tryd.prog w = .ok v1 w1 ∧ w1.ownsRow base 76 3 v1 (l ++ [u]).length (encU (l ++ [u])) ∧ w.grownBy w1 v.ownBlock ∧ (v1.ownBlock = v.ownBlock ∨ ∃ b, v1.ownBlock = some b ∧ w.heap.size ≤ b) := by
 obtain ⟨i0, hi0, hz⟩ := Option.map_eq_some_iff.1 info76
 simp only [Prod.mk.injEq] at hz
 obtain ⟨hz0, hz1, hz2⟩ := hz
 obtain ⟨v1, w1, hrun, a1, a2, _, a3⟩ := run_append_own_at (P := Tryd.prog) (w := w) base 74 ty 76 i0 _ 3 40 Tryd.underlying74 hi0 hz0 hz1 hz2 rfl (by decide) v l.length (encU l) ho ⟨b, 0, none⟩ 1 1 [.string u.f0, .string u.f1, .bool u.f2] rfl
  (fun j x hj => by
   match j with
   | 0 => obtain rfl := Option.some.inj hj; exact (blk_cell hbk 0).trans rfl
   | 1 => obtain rfl := Option.some.inj hj; exact (blk_cell hbk 1).trans rfl
   | 2 => obtain rfl := Option.some.inj hj; exact (blk_cell hbk 2).trans rfl
   | j + 3 => exact absurd hj (by simp)) (by intro x hx; simp at hx; rcases hx with rfl | rfl | rfl <;> rfl) (by unfold maxLen; omega) (by omega) hb
 refine ⟨v1, w1, hrun, ?_, a2, a3.imp_right (fun h => ⟨_, h, Nat.le_refl _⟩)⟩
 rw [List.length_append, List.length_singleton, encU_append]
 exact a1
theorem j_note (base g : Nat) (ok : Nat → Prop) (st : JSt) (key : ByteArray) (w : World) (h : JM base ok g st w) (hl : st.cur.length ≤ 1000000000) (hn : st.lv.length ≤ 1000000) (hm : ∀ l ∈ st.lv, l.length ≤ 1000000) (hb : base ≤ w.heap.size) :
  Calls Tryd.prog 23 #[.pointer (some ⟨g, 0, none⟩), .string key] w (JPost base ok g (noteJ st key) (.tuple #[]) w) := by
 obtain ⟨gs, sv, lvv, vs, h⟩ := h
 obtain ⟨A, c, rfl, hnc, hc63⟩ := row_slice h.lv.own
 have y1 : w.cell? ⟨g, 1, none⟩ = some (.slice A st.lv.length c) := (blk_cell h.blk 1).trans rfl
 have y0 : w.cell? ⟨g, 0, none⟩ = some (.pointer (some ⟨gs, 0, none⟩)) := (blk_cell h.blk 0).trans rfl
 by_cases h0 : st.lv.length = 0
 ·have e : noteJ st key = st := by
   unfold noteJ
   rw [List.length_eq_zero_iff.1 h0]
   exact congrArg (JSt.mk st.cur) (List.length_eq_zero_iff.1 h0).symm
  rw [e]
  have hfin : JPost base ok g st (.tuple #[]) w (.returned (.tuple #[])) w := ⟨rfl, ⟨_, _, _, _, h.mono (fun k hk => .inl hk)⟩, JW.of_below (Below.refl _ _)⟩
  replace hfin := As_ hfin
  clear h
  rw [h0] at y1
  go_enter Tryd.func23, Tryd.ntmps23
  go_wp2
  go_end0
  exact hfin.out
 ·go_enter Tryd.func23, Tryd.ntmps23
  go_wp2_with fail
  refine (st_get base gs st.cur key _ h.store.at_ hl).mono ?_
  rintro e w2 ⟨rfl, hb2⟩
  have h2 := h.step hb2
  obtain ⟨b, rfl⟩ : ∃ b, A = some ⟨b, 0, none⟩ := by
   rcases h.lv.own.2 with ⟨e, hx⟩ | ⟨b, _, _, e, _⟩
   ·omega
   ·injection e with e; exact ⟨b, e⟩
  obtain ⟨i, hi⟩ : ∃ i, st.lv.length = i + 1 := ⟨st.lv.length - 1, by omega⟩
  have hiv : i < vs.length := by rw [h.lv.len]; omega
  have ev : vs[i]? = some vs[i] := List.getElem?_eq_getElem hiv
  obtain ⟨l, el, ol⟩ := h2.lv.get ev
  have cv : w2.cell? ⟨b, i, none⟩ = some vs[i] := by
   have := h2.lv.own.cells (g := b) rfl i vs[i] ev
   rwa [add_plain] at this
  have hll : l.length ≤ 1000000 := hm l (List.mem_of_getElem? el)
  have x1 : w2.cell? ⟨g, 1, none⟩ = some (.slice (some ⟨b, 0, none⟩) (i + 1) c) := by rw [← hi]; exact (blk_cell h2.blk 1).trans rfl
  rw [hi]
  have hwi : IntKind.i64.wrap (i : Int) = (i : Int) := by rw [i64_w]; unfold wrap64; omega
  go_upto_region 3 with (fail)
  refine start_ (n := 22) (S := fun w' => w'.cell? ⟨g, 1, none⟩ = some (.slice (some ⟨b, 0, none⟩) (i + 1) c) ∧ w'.cell? ⟨b, i, none⟩ = some vs[i]) (ds := [21]) #[false, false, false, false, false, false, false, false, false, false, false, false, false, false, false, false, false, false, false, false, false, false] (by kernel_rfl) rfl rfl ⟨x1, cv⟩ (fun hHeld => ?_)
  have J4 := As_ (h2.step (below_drew (Below.refl _ _)))
  have W4 := As_ ((JW.of_below hb2 : JW ok w w2).trans (JW.of_below (below_drew (Below.refl _ _)) : JW ok w2 w2.drew) (fun k hk => .inl hk))
  have O4 := As_ (own_below ol (below_drew (Below.refl _ _)))
  have hsz4 : w.heap.size ≤ w2.drew.heap.size := hb2.size
  clear h h2 ol x1 cv hb2
  generalize w2.drew = w4 at hHeld J4 W4 O4 hsz4 ⊢
  refine pure_ (i := 0) (N := some 23) #[true, false, false, false, false, false, false, false, false, false, false, false, false, false, false, false, false, false, false, false, false, false] rfl rfl (by kernel_rfl) (fun _ _ _ h => h) (Or.inl ⟨by rfl, ap1_⟩) ap16_ ?_
  refine pure_ (i := 1) (N := some 24) #[true, true, false, false, false, false, false, false, false, false, false, false, false, false, false, false, false, false, false, false, false, false] rfl rfl (by kernel_rfl) (fun _ _ _ h => h) (Or.inl ⟨by rfl, ap1_⟩) ap16_ ?_
  refine pure_ (i := 2) (N := some 25) #[true, true, true, false, false, false, false, false, false, false, false, false, false, false, false, false, false, false, false, false, false, false] rfl rfl (by kernel_rfl) (fun _ _ _ h => h) (Or.inl ⟨by rfl, ap1_⟩) ap16_ ?_
  refine take_ (i := 3) (N := some 26) #[true, true, true, true, false, false, false, false, false, false, false, false, false, false, false, false, false, false, false, false, false, false] rfl rfl (by kernel_rfl) (fun _ _ _ h => h) (Or.inl ⟨by rfl, (by rintro w' ⟨s0, s1⟩; go_simp; with_reducible rfl)⟩) hHeld ap16_ ?_
  refine pure_ (i := 4) (N := some 27) #[true, true, true, true, true, false, false, false, false, false, false, false, false, false, false, false, false, false, false, false, false, false] rfl rfl (by kernel_rfl) (fun _ _ _ h => h) (Or.inl ⟨by rfl, ap1_⟩) ap16_ ?_
  refine pure_ (i := 5) (N := some 28) #[true, true, true, true, true, true, false, false, false, false, false, false, false, false, false, false, false, false, false, false, false, false] rfl rfl (by kernel_rfl) (fun _ _ _ h => h) (Or.inl ⟨by rfl, (by intro w'; go_simp; (try rw [hwi]); with_reducible rfl)⟩) ap16_ ?_
  refine pure_ (i := 6) (N := some 29) #[true, true, true, true, true, true, true, false, false, false, false, false, false, false, false, false, false, false, false, false, false, false] rfl rfl (by kernel_rfl) (fun _ _ _ h => h) (Or.inl ⟨by rfl, ap1_⟩) ap16_ ?_
  refine pure_ (i := 7) (N := some 30) #[true, true, true, true, true, true, true, true, false, false, false, false, false, false, false, false, false, false, false, false, false, false] rfl rfl (by kernel_rfl) (fun _ _ _ h => h) (Or.inl ⟨by rfl, ap1_⟩) ap16_ ?_
  refine pure_ (i := 8) (N := some 31) #[true, true, true, true, true, true, true, true, true, false, false, false, false, false, false, false, false, false, false, false, false, false] rfl rfl (by kernel_rfl) (fun _ _ _ h => h) (Or.inl ⟨by rfl, ap1_⟩) ap16_ ?_
  refine take_ (i := 9) (N := some 32) #[true, true, true, true, true, true, true, true, true, true, false, false, false, false, false, false, false, false, false, false, false, false] rfl rfl (by kernel_rfl) (fun _ _ _ h => h) (Or.inl ⟨by rfl, (by rintro w' ⟨s0, s1⟩; go_simp; with_reducible rfl)⟩) hHeld ap16_ ?_
  refine pure_ (i := 10) (N := some 33) #[true, true, true, true, true, true, true, true, true, true, true, false, false, false, false, false, false, false, false, false, false, false] rfl rfl (by kernel_rfl) (fun _ _ _ h => h) (Or.inl ⟨by rfl, ap1_⟩) ap16_ ?_
  refine pure_ (i := 11) (N := some 34) #[true, true, true, true, true, true, true, true, true, true, true, true, false, false, false, false, false, false, false, false, false, false] rfl rfl (by kernel_rfl) (fun _ _ _ h => h) (Or.inl ⟨by rfl, (by intro w'; go_simp; (try rw [hwi]); with_reducible rfl)⟩) ap16_ ?_
  refine pure_ (i := 12) (N := some 35) #[true, true, true, true, true, true, true, true, true, true, true, true, true, false, false, false, false, false, false, false, false, false] rfl rfl (by kernel_rfl) (fun _ _ _ h => h) (Or.inl ⟨by rfl, (by intro w'; go_simp; rw [if_pos (by omega : (i : Int) < (i : Int) + 1)])⟩) ap16_ ?_
  refine take_ (i := 13) (N := some 36) #[true, true, true, true, true, true, true, true, true, true, true, true, true, true, false, false, false, false, false, false, false, false] rfl rfl (by kernel_rfl) (fun _ _ _ h => h) (Or.inl ⟨by rfl, (by rintro w' ⟨s0, s1⟩; go_simp; with_reducible rfl)⟩) hHeld ap16_ ?_
  refine pure_ (i := 14) (N := some 37) #[true, true, true, true, true, true, true, true, true, true, true, true, true, true, true, false, false, false, false, false, false, false] rfl rfl (by kernel_rfl) (fun _ _ _ h => h) (Or.inl ⟨by rfl, ap1_⟩) ap16_ ?_
  refine pure_ (i := 15) (N := some 38) #[true, true, true, true, true, true, true, true, true, true, true, true, true, true, true, true, false, false, false, false, false, false] rfl rfl (by kernel_rfl) (fun _ _ _ h => h) (Or.inl ⟨by rfl, ap1_⟩) ap16_ ?_
  refine pure_ (i := 16) (N := some 39) #[true, true, true, true, true, true, true, true, true, true, true, true, true, true, true, true, true, false, false, false, false, false] rfl rfl (by kernel_rfl) (fun _ _ _ h => h) (Or.inl ⟨by rfl, ap1_⟩) ap16_ ?_
  refine pure_ (i := 17) (N := some 40) #[true, true, true, true, true, true, true, true, true, true, true, true, true, true, true, true, true, true, false, false, false, false] rfl rfl (by kernel_rfl) (fun _ _ _ h => h) (Or.inl ⟨by rfl, ap1_⟩) ap16_ ?_
  refine one_ (i := 18) (N := some 41) #[true, true, true, true, true, true, true, true, true, true, true, true, true, true, true, true, true, true, true, false, false, false] rfl rfl (by kernel_rfl) (by decide) (fun K hK => ?_)
  refine value_ (w1 := ?_) (v := ?_) (by rfl) rfl ?_ ?_
  rotate_left 2
  ·go_simp
   constructor
   ·rfl
   ·rfl
  refine hK.out _ _ ⟨(blk_cell (blk_alloc J4.out.blk _) 1).trans (by rw [hi]; rfl), Lib.cell?_alloc_some _ hHeld.2⟩ (fun hHeld => ?_)
  clear hK K
  refine norm_ (a' := ?_) ?_ ?_
  rotate_left
  ·show Act.put _ (some 41) _ = _
   simp only [Act.put, List.setIfInBounds_toArray, List.set_cons_zero, List.set_cons_succ, i64_w, i32_w]
   rfl
  obtain ⟨v6, w6, hrun, o6, g6, at6⟩ := lvl_append base vs[i] l ⟨key, (getK st.cur key).1, (getK st.cur key).2⟩ (w4.alloc (.cells #[.string key, .string (getK st.cur key).1, .bool (getK st.cur key).2] 76)) (own_alloc O4.out _) hll (by rw [my_alloc_size]; omega) w4.heap.size (my_alloc_new w4 _) 74
  obtain ⟨A6, c6, rfl, _, _⟩ := row_slice o6
  have J5 := As_ (J4.out.step (below_alloc (Below.refl _ _) (.cells #[.string key, .string (getK st.cur key).1, .bool (getK st.cur key).2] 76)))
  have g5b : w6.heap[g]? = _ := (g6.block g (blk_lt J5.out.blk) (fun e => by obtain ⟨cs, hc⟩ := own_typed (own_alloc O4.out (.cells #[.string key, .string (getK st.cur key).1, .bool (getK st.cur key).2] 76)) g e.symm; exact absurd (blk_ty J5.out.blk hc) (by decide))).trans J5.out.blk
  obtain ⟨cb, hcb⟩ := own_typed J5.out.lv.own b rfl
  have b5b : w6.heap[b]? = _ := (g6.block b (blk_lt hcb) (fun e => by obtain ⟨cs, hc⟩ := own_typed (own_alloc O4.out (.cells #[.string key, .string (getK st.cur key).1, .bool (getK st.cur key).2] 76)) b e.symm; exact absurd (blk_ty hcb hc) (by decide))).trans hcb
  have cv6 : w6.cell? ⟨b, i, none⟩ = some vs[i] := (World.cell?_of_block (a := ⟨b, i, none⟩) (b5b.trans hcb.symm)).trans hHeld.2
  refine one_ (i := 19) (N := some 42) #[true, true, true, true, true, true, true, true, true, true, true, true, true, true, true, true, true, true, true, true, false, false] rfl rfl (by kernel_rfl) (by decide) (fun K hK => ?_)
  refine value_ (by rfl) rfl (exec_append _ _ _ _ rfl _ _ rfl rfl hrun) ?_
  refine hK.out _ _ ⟨(blk_cell g5b 1).trans (by rw [hi]; rfl), cv6⟩ (fun hHeld => ?_)
  clear hK K
  refine norm_ (a' := ?_) ?_ ?_
  rotate_left
  ·show Act.put _ (some 42) _ = _
   simp only [Act.put, List.setIfInBounds_toArray, List.set_cons_zero, List.set_cons_succ, i64_w, i32_w]
   rfl
  refine pure_ (i := 20) (N := some 43) #[true, true, true, true, true, true, true, true, true, true, true, true, true, true, true, true, true, true, true, true, true, false] rfl rfl (by kernel_rfl) (fun _ _ _ h => h) (Or.inl ⟨by rfl, (by intro w'; go_simp; rw [if_pos (by omega : (i : Int) < (i : Int) + 1)])⟩) ap16_ ?_
  refine last_ (i := 21) (N := none) #[true, true, true, true, true, true, true, true, true, true, true, true, true, true, true, true, true, true, true, true, true, true] rfl rfl (by kernel_rfl) (by decide) (fun K hK => ?_)
  have z6 := blk_frozen b5b i
  refine skip_ (w1 := w6.setCell ⟨b, i, none⟩ (.slice A6 (l ++ [(⟨key, (getK st.cur key).1, (getK st.cur key).2⟩ : S76)]).length c6)) (by rfl) rfl ?_ ?_
  ·go_simp
   try rfl
  refine hK.out _ _ ?_
  refine done_ (by kernel_rfl) ?_
  have hJ := J5.out.putLv ev o6 g6 at6 rfl
  have hfin : JPost base ok g (noteJ st key) (.tuple #[]) w (.returned (.tuple #[])) (w6.setCell ⟨b, i, none⟩ (.slice A6 (l ++ [(⟨key, (getK st.cur key).1, (getK st.cur key).2⟩ : S76)]).length c6)) := by
   have e : noteJ st key = ⟨st.cur, st.lv.set i (l ++ [(⟨key, (getK st.cur key).1, (getK st.cur key).2⟩ : S76)])⟩ := by
    unfold noteJ noteU lvAt
    rw [hi, Nat.add_sub_cancel, List.getD_eq_getElem?_getD, el]; rfl
   rw [e]
   have hsz5 : w4.heap.size ≤ (w4.alloc (.cells #[.string key, .string (getK st.cur key).1, .bool (getK st.cur key).2] 76)).heap.size := by rw [my_alloc_size]; omega
   refine ⟨rfl, ⟨_, _, _, _, hJ.mono (fun k hk => hk.imp_right (fun h => by omega))⟩, ((W4.out.trans (JW.of_below (below_alloc (Below.refl _ _) _) : JW ok w4 _) (fun k hk => .inl hk)).trans (JW.of_grown g6 (fun k e => J4.out.lv.oks i _ k ev e) : JW ok _ _) (fun k hk => .inl hk)).trans (JW.set (J4.out.lv.ok0 b rfl) i _) (fun k hk => .inl hk)⟩
  replace hfin := As_ hfin
  clear hJ g6 o6 at6 J4 J5 O4 W4 hHeld b5b g5b hcb cv6
  try go_wp2
  go_end0
  exact hfin.out
theorem j_set (base g : Nat) (ok : Nat → Prop) (st : JSt) (key value : ByteArray) (w : World) (h : JM base ok g st w) (hl : st.cur.length ≤ 1000000000) (hn : st.lv.length ≤ 1000000) (hm : ∀ l ∈ st.lv, l.length ≤ 1000000) (hb : base ≤ w.heap.size) :
  Calls Tryd.prog 27 #[.pointer (some ⟨g, 0, none⟩), .string key, .string value] w (JPost base ok g (setJ st key value) (.int .i64 (setE key value)) w) := by
 unfold setJ setE
 by_cases hbig : key.size > 65536 ∨ value.size > 65536
 ·rw [if_pos hbig, if_pos hbig]
  have hfin : JPost base ok g st (.int .i64 4) w (.returned (.int .i64 4)) w := ⟨rfl, h.mono (fun k hk => .inl hk), JW.of_below (Below.refl _ _)⟩
  replace hfin := As_ hfin
  clear h
  by_cases hk : key.size > 65536
  ·go_enter Tryd.func27, Tryd.ntmps27
   go_wp2
   go_ret
   exact hfin.out
  ·have hv : value.size > 65536 := hbig.resolve_left hk
   go_enter Tryd.func27, Tryd.ntmps27
   go_wp2
   go_ret
   exact hfin.out
 ·rw [if_neg hbig, if_neg hbig]
  have hk : ¬ 65536 < key.size := fun h => hbig (.inl h)
  have hv : ¬ 65536 < value.size := fun h => hbig (.inr h)
  have y0 : ∃ gs, w.cell? ⟨g, 0, none⟩ = some (.pointer (some ⟨gs, 0, none⟩)) := by
   obtain ⟨gs, sv, lvv, vs, h⟩ := h
   exact ⟨gs, (blk_cell h.blk 0).trans rfl⟩
  clear hbig y0
  go_enter Tryd.func27, Tryd.ntmps27
  go_wp2_with fail
  refine (j_note base g ok st key w h hl hn hm hb).mono ?_
  rintro e w2 ⟨rfl, ⟨gs, sv, lvv, vs, h2⟩, W2⟩
  have y0 : w2.cell? ⟨g, 0, none⟩ = some (.pointer (some ⟨gs, 0, none⟩)) := (blk_cell h2.blk 0).trans rfl
  replace W2 := As_ W2
  clear h
  go_wp2_with fail
  refine (st_set base gs sv (noteJ st key).cur key value _ h2.store hl (Nat.le_trans hb W2.out.size)).mono ?_
  rintro e w3 ⟨rfl, sv3, s3, W3, at3⟩
  have hfin : JPost base ok g { noteJ st key with cur := setK st.cur key value } (.int .i64 0) w (.returned (.int .i64 0)) w3 :=
   ⟨rfl, ⟨_, _, _, _, (h2.stored s3 W3 at3).mono (fun k hk => hk.elim id (fun h => .inr (Nat.le_trans W2.out.size h)))⟩, W2.out.trans (JW.of_store W3 h2.oks h2.okv) (fun k hk => hk)⟩
  replace hfin := As_ hfin
  clear h2 s3 W3 at3 W2 y0
  go_wp2
  go_ret
  exact hfin.out
theorem j_del (base g : Nat) (ok : Nat → Prop) (st : JSt) (key : ByteArray) (w : World) (h : JM base ok g st w) (hl : st.cur.length ≤ 1000000000) (hn : st.lv.length ≤ 1000000) (hm : ∀ l ∈ st.lv, l.length ≤ 1000000) (hb : base ≤ w.heap.size) :
  Calls Tryd.prog 13 #[.pointer (some ⟨g, 0, none⟩), .string key] w (JPost base ok g (delJ st key) (.int .i64 (delE st key)) w) := by
 unfold delJ delE
 obtain ⟨gs, sv, lvv, vs, h⟩ := h
 have y0 : w.cell? ⟨g, 0, none⟩ = some (.pointer (some ⟨gs, 0, none⟩)) := (blk_cell h.blk 0).trans rfl
 have hg2 : (getK st.cur key).2 = hasK st.cur key := by unfold getK; cases hasK st.cur key <;> rfl
 cases hh : hasK st.cur key with
 | false =>
  rw [if_neg (by simp), if_neg (by simp)]
  go_enter Tryd.func13, Tryd.ntmps13
  go_wp2_with fail
  refine (st_get base gs st.cur key _ h.store.at_ hl).mono ?_
  rintro e w2 ⟨rfl, hb2⟩
  rw [hg2, hh]
  have hfin : JPost base ok g st (.int .i64 8) w (.returned (.int .i64 8)) w2 := ⟨rfl, ⟨_, _, _, _, (h.step hb2).mono (fun k hk => .inl hk)⟩, JW.of_below hb2⟩
  replace hfin := As_ hfin
  clear h hb2 hg2
  go_wp2
  go_ret
  exact hfin.out
 | true =>
  rw [if_pos rfl, if_pos rfl]
  go_enter Tryd.func13, Tryd.ntmps13
  go_wp2_with fail
  refine (st_get base gs st.cur key _ h.store.at_ hl).mono ?_
  rintro e w1 ⟨rfl, hb1⟩
  rw [hg2, hh]
  have h1 : JM base ok g st w1 := ⟨_, _, _, _, h.step hb1⟩
  replace hb1 := As_ hb1
  clear h y0 hg2
  go_wp2_with fail
  refine (j_note base g ok st key w1 h1 hl hn hm (Nat.le_trans hb hb1.out.size)).mono ?_
  rintro e w2 ⟨rfl, ⟨gs, sv, lvv, vs, h2⟩, W2⟩
  have y0 : w2.cell? ⟨g, 0, none⟩ = some (.pointer (some ⟨gs, 0, none⟩)) := (blk_cell h2.blk 0).trans rfl
  replace W2 := As_ ((JW.of_below hb1.out : JW ok w w1).trans W2 (fun k hk => .inl hk))
  have hs1 := hb1.out.size
  clear h1 hb1
  go_wp2_with fail
  refine (st_del base gs sv (noteJ st key).cur key _ h2.store hl).mono ?_
  rintro e w3 ⟨rfl, sv3, s3, W3, at3⟩
  have hfin : JPost base ok g { noteJ st key with cur := delK st.cur key } (.int .i64 0) w (.returned (.int .i64 0)) w3 :=
   ⟨rfl, ⟨_, _, _, _, (h2.stored s3 W3 at3).mono (fun k hk => hk.elim (fun h => h.imp_right (fun h => Nat.le_trans hs1 h)) (fun h => .inr (Nat.le_trans W2.out.size h)))⟩, W2.out.trans (JW.of_store W3 h2.oks h2.okv) (fun k hk => hk.imp_right (fun h => Nat.le_trans hs1 h))⟩
  replace hfin := As_ hfin
  clear h2 s3 W3 at3 W2 y0
  go_wp2
  go_ret
  exact hfin.out
theorem jx_fresh (base g gs : Nat) (v : Value) (l : List S50) (w : World) (hs : StoreIs base gs v l w) (hg : base ≤ g) (hb : w.heap[g]? = some (.cells #[.pointer (some ⟨gs, 0, none⟩), .slice none 0 0] 36 (0, 0))) : JX base (fun k => base ≤ k) g gs v (.slice none 0 0) [] ⟨l, []⟩ w :=
 ⟨hg, hs.1, fun k e => own_base hs.2.2.2 k e, hg, hb, hs, ⟨rfl, fun k e => by simp [Value.ownBlock] at e, World.ownsRow_nil _ _ _ _, fun i v l e => by simp at e, fun i v k e => by simp at e, fun i j a b k _ e => by simp at e⟩⟩
theorem st_copy_nil (w : World) : Calls Tryd.prog 9 #[.pointer none] w fun e w' => e = .returned (.pointer none) ∧ w' = w := by
 go_enter Tryd.func9, Tryd.ntmps9
 go_wp2
 go_ret
 exact ⟨rfl, rfl⟩
theorem j_new_nil (w : World) :
  Calls Tryd.prog 5 #[.pointer none] w fun e w' => ∃ g, e = .returned (.pointer (some ⟨g, 0, none⟩)) ∧ JM w.heap.size (fun k => w.heap.size ≤ k) g ⟨[], []⟩ w' ∧ Below w.heap.size w w' := by
 go_enter Tryd.func5, Tryd.ntmps5
 go_wp2_with fail
 refine (st_copy_nil w).mono ?_
 rintro e w1 ⟨rfl, hw1⟩
 rw [hw1]
 clear hw1
 go_wp2_with fail
 refine (st_new w).mono ?_
 rintro e w2 ⟨rfl, s2, hb2⟩
 have n3 := my_alloc_new w2 (.cells #[.pointer (some ⟨w.heap.size, 0, none⟩), .slice none 0 0] 36)
 have hb3 : Below w2.heap.size w2 (w2.alloc (.cells #[.pointer (some ⟨w.heap.size, 0, none⟩), .slice none 0 0] 36)) := (Below.refl _ w2).alloc (Nat.le_refl _) _
 have hfin : ∃ g, Ending.returned (.pointer (some ⟨w2.heap.size, 0, none⟩)) = .returned (.pointer (some ⟨g, 0, none⟩)) ∧ JM w.heap.size (fun k => w.heap.size ≤ k) g ⟨[], []⟩ (w2.alloc (.cells #[.pointer (some ⟨w.heap.size, 0, none⟩), .slice none 0 0] 36)) ∧ Below w.heap.size w (w2.alloc (.cells #[.pointer (some ⟨w.heap.size, 0, none⟩), .slice none 0 0] 36)) :=
  ⟨_, rfl, ⟨_, _, _, _, jx_fresh _ _ _ _ _ _ (StoreIs.below s2 hb3) hb2.size n3⟩, hb2.alloc hb2.size _⟩
 replace hfin := As_ hfin
 clear n3 hb3 s2 hb2
 go_wp2
 go_ret
 exact hfin.out
def names_head.f (a0 : Int) : Option (ByteArray) := if a0 = 1 then (some (⟨#[99, 104, 97, 110, 110, 101, 108, 45]⟩ : ByteArray)) else (if a0 = 2 then (some (⟨#[99, 111, 110, 110, 101, 99, 116, 105, 111, 110, 45]⟩ : ByteArray)) else (if a0 = 3 then (some (⟨#[99, 108, 105, 101, 110, 116, 45]⟩ : ByteArray)) else (some (⟨#[]⟩ : ByteArray))))
theorem names_head.calls (a0 : Int) (r : ByteArray) (w : World) (h : names_head.f a0 = some r) :
  Calls Tryd.prog 19 #[.int .i64 a0] w fun e w' => e = .returned (.string r) ∧ Drawn0 w w' := by
 have H : (if a0 = 1 then (some (⟨#[99, 104, 97, 110, 110, 101, 108, 45]⟩ : ByteArray)) else (if a0 = 2 then (some (⟨#[99, 111, 110, 110, 101, 99, 116, 105, 111, 110, 45]⟩ : ByteArray)) else (if a0 = 3 then (some (⟨#[99, 108, 105, 101, 110, 116, 45]⟩ : ByteArray)) else (some (⟨#[]⟩ : ByteArray))))) = some r := h
 clear h
 by_cases c2 : a0 = 1
 ·rw [if_pos c2] at H
  have c2b0 : (a0 == 1) = true := beq_iff_eq.mpr c2
  have c2b1 : (a0 != 1) = false := bne_eq_false_iff_eq.mpr c2
  clear c2
  obtain rfl := Option.some.inj H
  go_enter Tryd.func19, Tryd.ntmps19
  go_wp2
  go_ret
  exact ⟨ap6_, ap9_⟩
 ·rw [if_neg c2] at H
  have c2b0 : (a0 == 1) = false := beq_eq_false_iff_ne.mpr c2
  have c2b1 : (a0 != 1) = true := bne_iff_ne.mpr c2
  by_cases c3 : a0 = 2
  ·rw [if_pos c3] at H
   have c3b0 : (a0 == 2) = true := beq_iff_eq.mpr c3
   have c3b1 : (a0 != 2) = false := bne_eq_false_iff_eq.mpr c3
   clear c3
   obtain rfl := Option.some.inj H
   go_enter Tryd.func19, Tryd.ntmps19
   go_wp2
   go_ret
   exact ⟨ap6_, ap9_⟩
  ·rw [if_neg c3] at H
   have c3b0 : (a0 == 2) = false := beq_eq_false_iff_ne.mpr c3
   have c3b1 : (a0 != 2) = true := bne_iff_ne.mpr c3
   by_cases c4 : a0 = 3
   ·rw [if_pos c4] at H
    have c4b0 : (a0 == 3) = true := beq_iff_eq.mpr c4
    have c4b1 : (a0 != 3) = false := bne_eq_false_iff_eq.mpr c4
    clear c4
    obtain rfl := Option.some.inj H
    go_enter Tryd.func19, Tryd.ntmps19
    go_wp2
    go_ret
    exact ⟨ap6_, ap9_⟩
   ·rw [if_neg c4] at H
    have c4b0 : (a0 == 3) = false := beq_eq_false_iff_ne.mpr c4
    have c4b1 : (a0 != 3) = true := bne_iff_ne.mpr c4
    obtain rfl := Option.some.inj H
    go_enter Tryd.func19, Tryd.ntmps19
    go_wp2
    go_ret
    exact ⟨ap6_, ap9_⟩
def stringslite_HasPrefix.f (a0 : ByteArray) (a1 : ByteArray) : Option (Bool) := if (a0.size : Int) ≥ (a1.size : Int) then (if 0 ≤ (a1.size : Int) then (if (a1.size : Int) ≤ (a0.size : Int) then (some ((a0.extract 0 ((a1.size : Int) : Int).toNat).toList == a1.toList)) else (none)) else (none)) else (some false)
theorem stringslite_HasPrefix.calls (a0 : ByteArray) (a1 : ByteArray) (r : Bool) (w : World) (h : stringslite_HasPrefix.f a0 a1 = some r) :
  Calls Tryd.prog 48 #[.string a0, .string a1] w fun e w' => e = .returned (.bool r) ∧ Drawn0 w w' := by
 have H : (if (a0.size : Int) ≥ (a1.size : Int) then (if 0 ≤ (a1.size : Int) then (if (a1.size : Int) ≤ (a0.size : Int) then (some ((a0.extract 0 ((a1.size : Int) : Int).toNat).toList == a1.toList)) else (none)) else (none)) else (some false)) = some r := h
 clear h
 by_cases c3 : (a0.size : Int) ≥ (a1.size : Int)
 ·rw [if_pos c3] at H
  have c3b0 : decide ((a1.size : Int) ≤ (a0.size : Int)) = true := decide_eq_true c3
  have c3b1 : decide (a1.size ≤ a0.size) = true := decide_eq_true (Int.ofNat_le.mp c3)
  clear c3
  by_cases c4 : 0 ≤ (a1.size : Int)
  ·rw [if_pos c4] at H
   have c4b0 := eq_true c4
   have c4b1 : decide (0 ≤ (a1.size : Int)) = true := decide_eq_true c4
   clear c4
   by_cases c5 : (a1.size : Int) ≤ (a0.size : Int)
   ·rw [if_pos c5] at H
    have c5b0 := eq_true c5
    have c5b1 : decide ((a1.size : Int) ≤ (a0.size : Int)) = true := decide_eq_true c5
    clear c5
    obtain rfl := Option.some.inj H
    go_enter Tryd.func48, Tryd.ntmps48
    go_wp2
    go_ret
    exact ⟨ap6_, ap9_⟩
   ·rw [if_neg c5] at H
    exact absurd H (by simp)
  ·rw [if_neg c4] at H
   exact absurd H (by simp)
 ·rw [if_neg c3] at H
  have c3b0 : decide ((a1.size : Int) ≤ (a0.size : Int)) = false := decide_eq_false c3
  have c3b1 : decide (a1.size ≤ a0.size) = false := decide_eq_false (fun h => c3 (Int.ofNat_le.mpr h))
  clear c3
  obtain rfl := Option.some.inj H
  go_enter Tryd.func48, Tryd.ntmps48
  go_wp2
  go_ret
  exact ⟨ap6_, ap9_⟩
def stringslite_CutPrefix.f (a0 : ByteArray) (a1 : ByteArray) : Option (ByteArray × Bool) := (stringslite_HasPrefix.f a0 a1).bind fun t101 => (if t101 = true then (if 0 ≤ (a1.size : Int) then (if (a1.size : Int) ≤ (a0.size : Int) then (some (a0.extract ((a1.size : Int) : Int).toNat a0.size, true)) else (none)) else (none)) else (some (a0, false)))
theorem stringslite_CutPrefix.calls (a0 : ByteArray) (a1 : ByteArray) (r1 : ByteArray) (r2 : Bool) (w : World) (h : stringslite_CutPrefix.f a0 a1 = some (r1, r2)) :
  Calls Tryd.prog 42 #[.string a0, .string a1] w fun e w' => e = .returned (.tuple #[.string r1, .bool r2]) ∧ Drawn0 w w' := by
 have H : ((stringslite_HasPrefix.f a0 a1).bind fun t101 => (if t101 = true then (if 0 ≤ (a1.size : Int) then (if (a1.size : Int) ≤ (a0.size : Int) then (some (a0.extract ((a1.size : Int) : Int).toNat a0.size, true)) else (none)) else (none)) else (some (a0, false)))) = some (r1, r2) := h
 clear h
 replace H := Option.bind_eq_some_iff.mp H
 obtain ⟨t101, A30, H⟩ := H
 try dsimp only at H
 have A3 := As_ A30
 clear A30
 by_cases c4 : t101 = true
 ·subst c4
  have H1 : (if 0 ≤ (a1.size : Int) then (if (a1.size : Int) ≤ (a0.size : Int) then (some (a0.extract ((a1.size : Int) : Int).toNat a0.size, true)) else (none)) else (none)) = some (r1, r2) := by rw [if_pos rfl] at H; exact H
  clear H
  have H := H1
  clear H1
  by_cases c5 : 0 ≤ (a1.size : Int)
  ·rw [if_pos c5] at H
   have c5b0 := eq_true c5
   have c5b1 : decide (0 ≤ (a1.size : Int)) = true := decide_eq_true c5
   clear c5
   by_cases c6 : (a1.size : Int) ≤ (a0.size : Int)
   ·rw [if_pos c6] at H
    have c6b0 := eq_true c6
    have c6b1 : decide ((a1.size : Int) ≤ (a0.size : Int)) = true := decide_eq_true c6
    clear c6
    simp only [Option.some.injEq, Prod.mk.injEq] at H
    obtain ⟨rfl, rfl⟩ := H
    go_enter Tryd.func42, Tryd.ntmps42
    go_wp2_with (first | ((with_reducible refine gate_callee (f := 48) rfl ?_); refine gk_ (some 8) Tryd.func48 #[.string a0, .string a1] ?_; (with_reducible refine (stringslite_HasPrefix.calls a0 a1 true _ A3.out).mono ?_); rintro e w' ⟨rfl, ⟨nd, rfl⟩⟩; refine ⟨_, rfl, ?_⟩))
    go_ret2
    exact ⟨ap6_, ap9_⟩
   ·rw [if_neg c6] at H
    exact absurd H (by simp)
  ·rw [if_neg c5] at H
   exact absurd H (by simp)
 ·replace c4 := Bool.eq_false_iff.mpr c4
  subst c4
  have H1 : (some (a0, false)) = some (r1, r2) := by rw [if_neg (show ¬ (false = true) by decide)] at H; exact H
  clear H
  have H := H1
  clear H1
  simp only [Option.some.injEq, Prod.mk.injEq] at H
  obtain ⟨rfl, rfl⟩ := H
  go_enter Tryd.func42, Tryd.ntmps42
  go_wp2_with (first | ((with_reducible refine gate_callee (f := 48) rfl ?_); refine gk_ (some 8) Tryd.func48 #[.string a0, .string a1] ?_; (with_reducible refine (stringslite_HasPrefix.calls a0 a1 false _ A3.out).mono ?_); rintro e w' ⟨rfl, ⟨nd, rfl⟩⟩; refine ⟨_, rfl, ?_⟩))
  go_ret2
  exact ⟨ap6_, ap9_⟩
def strings_CutPrefix.f (a0 : ByteArray) (a1 : ByteArray) : Option (ByteArray × Bool) := (stringslite_CutPrefix.f a0 a1).bind fun bt102 => (some (bt102.1, bt102.2))
theorem strings_CutPrefix.calls (a0 : ByteArray) (a1 : ByteArray) (r1 : ByteArray) (r2 : Bool) (w : World) (h : strings_CutPrefix.f a0 a1 = some (r1, r2)) :
  Calls Tryd.prog 32 #[.string a0, .string a1] w fun e w' => e = .returned (.tuple #[.string r1, .bool r2]) ∧ Drawn0 w w' := by
 have H : ((stringslite_CutPrefix.f a0 a1).bind fun bt102 => (some (bt102.1, bt102.2))) = some (r1, r2) := h
 clear h
 replace H := Option.bind_eq_some_iff.mp H
 obtain ⟨⟨t102, t103⟩, A30, H⟩ := H
 try dsimp only at H
 have A3 := As_ A30
 clear A30
 simp only [Option.some.injEq, Prod.mk.injEq] at H
 obtain ⟨rfl, rfl⟩ := H
 go_enter Tryd.func32, Tryd.ntmps32
 go_wp2_with (first | ((with_reducible refine gate_callee (f := 42) rfl ?_); refine gk_ (some 8) Tryd.func42 #[.string a0, .string a1] ?_; (with_reducible refine (stringslite_CutPrefix.calls a0 a1 t102 t103 _ A3.out).mono ?_); rintro e w' ⟨rfl, ⟨nd, rfl⟩⟩; refine ⟨_, rfl, ?_⟩))
 go_ret2
 exact ⟨ap6_, ap9_⟩
def names_Number.go (s : ByteArray) : Nat → Nat → Int → Option Int
 | 0, _, _ => none
 | d + 1, i, n => if i < s.size then (if bt s i < 48 then none else if bt s i > 57 then none else if n * 10 + (bt s i - 48) > 1099511627776 then none else names_Number.go s d (i + 1) (n * 10 + (bt s i - 48))) else some n
theorem names_Number.go_step (s : ByteArray) (i : Nat) (n : Int) (hi : i < s.size) : names_Number.go s (s.size + 1 - i) i n = (if bt s i < 48 then none else if bt s i > 57 then none else if n * 10 + (bt s i - 48) > 1099511627776 then none else names_Number.go s (s.size + 1 - (i + 1)) (i + 1) (n * 10 + (bt s i - 48))) := by
 obtain ⟨d, hd⟩ : ∃ d, s.size + 1 - i = d + 1 := ⟨s.size - i, by omega⟩
 have hd2 : s.size + 1 - (i + 1) = d := by omega
 rw [hd, hd2]
 simp only [names_Number.go]
 rw [if_pos hi]
theorem names_Number.go_end (s : ByteArray) (i : Nat) (n : Int) (hi : i = s.size) : names_Number.go s (s.size + 1 - i) i n = some n := by
 subst hi
 rw [show s.size + 1 - s.size = 0 + 1 by omega]
 simp only [names_Number.go]
 rw [if_neg (by omega)]
def names_Number.f (a0 : Int) (a1 : ByteArray) : Option (Int × Int) :=
 if a1.size ≤ 140737488351232 then (names_head.f a0).bind fun h => if h.toList = [] then some (0, 1) else (strings_CutPrefix.f a1 h).bind fun p =>
  if p.2 = false then some (0, 7) else if p.1.toList = [] then some (0, 7) else if 1 < p.1.size ∧ bt p.1 0 = 48 then some (0, 7) else
  if p.1.size ≤ 140737488351232 then (match names_Number.go p.1 (p.1.size + 1) 0 0 with
  | none => some (0, 7)
  | some n => some (n, 0)) else none
 else none
theorem names_Number.calls (a0 : Int) (a1 : ByteArray) (r1 : Int) (r2 : Int) (w : World) (h : names_Number.f a0 a1 = some (r1, r2)) :
  Calls Tryd.prog 20 #[.int .i64 a0, .string a1] w fun e w' => e = .returned (.tuple #[.int .i64 r1, .int .i64 r2]) ∧ Below w.heap.size w w' := by
 unfold names_Number.f at h
 by_cases hs : a1.size ≤ 140737488351232
 case neg => rw [if_neg hs] at h; exact absurd h (by simp)
 rw [if_pos hs] at h
 obtain ⟨hd, A1, h⟩ := Option.bind_eq_some_iff.mp h
 replace A1 := As_ A1
 have hbd := As_ (Below.refl w.heap.size w)
 by_cases c1 : hd.toList = []
 ·rw [if_pos c1] at h
  simp only [Option.some.injEq, Prod.mk.injEq] at h
  obtain ⟨rfl, rfl⟩ := h
  go_enter Tryd.func20, Tryd.ntmps20
  go_wp2_with (go_at_call 19; refine (names_head.calls a0 hd _ A1.out).mono ?_; rintro e w1 ⟨rfl, ⟨nd, rfl⟩⟩)
  go_ret2
  exact ⟨rfl, ap8_⟩
 ·rw [if_neg c1] at h
  have c1b : hd.toList.isEmpty = false := by simpa using c1
  clear c1
  obtain ⟨⟨p, ok⟩, A2, h⟩ := Option.bind_eq_some_iff.mp h
  replace A2 := As_ A2
  simp only at h
  cases ok with
  | false =>
   simp only [if_true] at h
   simp only [Option.some.injEq, Prod.mk.injEq] at h
   obtain ⟨rfl, rfl⟩ := h
   go_enter Tryd.func20, Tryd.ntmps20
   go_wp2_with (first | (go_at_call 19; refine (names_head.calls a0 hd _ A1.out).mono ?_; rintro e w1 ⟨rfl, ⟨nd, rfl⟩⟩) | (go_at_call 32; refine (strings_CutPrefix.calls a1 hd p false _ A2.out).mono ?_; rintro e w2 ⟨rfl, ⟨nd2, rfl⟩⟩))
   go_ret2
   exact ⟨rfl, ap8_⟩
  | true =>
   rw [if_neg (by simp)] at h
   by_cases c2 : p.toList = []
   ·rw [if_pos c2] at h
    simp only [Option.some.injEq, Prod.mk.injEq] at h
    obtain ⟨rfl, rfl⟩ := h
    go_enter Tryd.func20, Tryd.ntmps20
    go_wp2_with (first | (go_at_call 19; refine (names_head.calls a0 hd _ A1.out).mono ?_; rintro e w1 ⟨rfl, ⟨nd, rfl⟩⟩) | (go_at_call 32; refine (strings_CutPrefix.calls a1 hd p true _ A2.out).mono ?_; rintro e w2 ⟨rfl, ⟨nd2, rfl⟩⟩))
    go_ret2
    exact ⟨rfl, ap8_⟩
   ·rw [if_neg c2] at h
    have c2b : p.toList.isEmpty = false := by simpa using c2
    have hp : 0 < p.size := by
     rcases Nat.eq_zero_or_pos p.size with h0 | h0
     ·exact absurd (List.eq_nil_of_length_eq_zero (by rw [ByteArray.toList_eq, data_length]; exact h0)) c2
     ·exact h0
    clear c2
    by_cases c3 : 1 < p.size ∧ bt p 0 = 48
    ·rw [if_pos c3] at h
     simp only [Option.some.injEq, Prod.mk.injEq] at h
     obtain ⟨rfl, rfl⟩ := h
     obtain ⟨c3, c4⟩ := c3
     have hx : ((p[0]'hp).toNat : Int) = bt p 0 := bt_at p 0 hp
     have c4b := beq_iff_eq.mpr c4
     clear c4
     have c3b : decide (1 < p.size) = true := by simp; omega
     go_enter Tryd.func20, Tryd.ntmps20
     go_wp2_with (first | (go_at_call 19; refine (names_head.calls a0 hd _ A1.out).mono ?_; rintro e w1 ⟨rfl, ⟨nd, rfl⟩⟩) | (go_at_call 32; refine (strings_CutPrefix.calls a1 hd p true _ A2.out).mono ?_; rintro e w2 ⟨rfl, ⟨nd2, rfl⟩⟩))
     go_ret2
     exact ⟨rfl, ap8_⟩
    ·rw [if_neg c3] at h
     by_cases hps : p.size ≤ 140737488351232
     case neg => rw [if_neg hps] at h; exact absurd h (by simp)
     rw [if_pos hps] at h
     have hx : ((p[0]'hp).toNat : Int) = bt p 0 := bt_at p 0 hp
     have kb := fun W => print_bytes (P := Tryd.prog) 9 70 5 Tryd.underlying9 Tryd.underlying70 Tryd.underlying5 p W
     replace h := As_ h
     have c45 : (decide ((1 : Int) < (p.size : Int)) = true ∧ (bt p 0 == 48) = false) ∨ decide ((1 : Int) < (p.size : Int)) = false := by
      by_cases c5 : 1 < p.size
      ·exact .inl ⟨decide_eq_true (by omega), beq_eq_false_iff_ne.mpr (fun e => c3 ⟨c5, e⟩)⟩
      ·exact .inr (decide_eq_false (by omega))
     clear c3
     rcases c45 with ⟨c3b, c4b⟩ | c3b
     all_goals
      go_enter Tryd.func20, Tryd.ntmps20
      go_wp2_with (first | (go_at_call 19; refine (names_head.calls a0 hd _ A1.out).mono ?_; rintro e w1 ⟨rfl, ⟨nd, rfl⟩⟩) | (go_at_call 32; refine (strings_CutPrefix.calls a1 hd p true _ A2.out).mono ?_; rintro e w2 ⟨rfl, ⟨nd2, rfl⟩⟩))
      have hbw : Aside0 (Below w.heap.size w (Lib.bytesWorld (w.drewN (nd + nd2)) 5 p)) := ⟨bytes_below (pw_below_drewN hbd.out _) (by simp) 5 p⟩
      go_loop [9, 41] (fun n9 i => ∃ (k : Nat) (n : Int), k ≤ p.size ∧ i = .int .i64 k ∧ n9 = .int .i64 n ∧ 0 ≤ n ∧ n ≤ 1099511627776 ∧ Aside0 (names_Number.go p (p.size + 1 - k) k n = names_Number.go p (p.size + 1) 0 0)) (fun _ i => p.size - (intOf i).toNat)
      case atStart => exact ⟨0, 0, Nat.zero_le _, rfl, rfl, by omega, by omega, ⟨rfl⟩⟩
      case round =>
       obtain ⟨k, n, hk, rfl, rfl, hn0, hn1, hgo⟩ := hrel
       by_cases hlt : k < p.size
       ·have hcell := my_bytes_cell (w.drewN (nd + nd2)) 5 p k w.heap.size (by simp) hlt
        have hbt := bt_range p k
        replace hgo := As_ ((names_Number.go_step p k n hlt).symm.trans hgo.out)
        by_cases d1 : bt p k < 48
        ·have h1 := h.out
         rw [← hgo.out, if_pos d1] at h1
         simp only [Option.some.injEq, Prod.mk.injEq] at h1
         obtain ⟨rfl, rfl⟩ := h1
         clear h hgo
         go_wp2
         go_ret2
         exact ⟨rfl, hbw.out⟩
        ·by_cases d2 : bt p k > 57
         ·have h1 := h.out
          rw [← hgo.out, if_neg d1, if_pos d2] at h1
          simp only [Option.some.injEq, Prod.mk.injEq] at h1
          obtain ⟨rfl, rfl⟩ := h1
          clear h hgo
          go_wp2
          go_ret2
          exact ⟨rfl, hbw.out⟩
         ·by_cases d3 : n * 10 + (bt p k - 48) > 1099511627776
          ·have h1 := h.out
           rw [← hgo.out, if_neg d1, if_neg d2, if_pos d3] at h1
           simp only [Option.some.injEq, Prod.mk.injEq] at h1
           obtain ⟨rfl, rfl⟩ := h1
           clear h hgo
           go_wp2
           go_ret2
           exact ⟨rfl, hbw.out⟩
          ·have hgo2 := hgo.out
           rw [if_neg d1, if_neg d2, if_neg d3] at hgo2
           replace hgo2 := As_ hgo2
           clear hgo h
           go_wp2
           go_round
           case rel => exact ⟨k + 1, _, by omega, by go_num, rfl, by omega, by omega, hgo2⟩
           case measure => simp [intOf]; omega
       ·have h1 := h.out
        rw [← hgo.out, names_Number.go_end p k n (by omega)] at h1
        simp only [Option.some.injEq, Prod.mk.injEq] at h1
        obtain ⟨rfl, rfl⟩ := h1
        clear h hgo
        go_wp2
        go_ret2
        exact ⟨rfl, hbw.out⟩
mutual
def names_letter.j0 : Nat → Int → Bool → Option (Bool)
 | 0, _, _ => none
 | k + 1, x0, x3 => if x3 = true then (some true) else (if x0 ≥ 65 then (names_letter.j1 k x0 (decide (x0 ≤ 90))) else (names_letter.j1 k x0 false))
def names_letter.j1 : Nat → Int → Bool → Option (Bool)
 | 0, _, _ => none
 | k + 1, x0, x3 => if x3 = true then (some true) else (if x0 ≥ 48 then (names_letter.j2 k x0 (decide (x0 ≤ 57))) else (names_letter.j2 k x0 false))
def names_letter.j2 : Nat → Int → Bool → Option (Bool)
 | 0, _, _ => none
 | k + 1, x0, x3 => if x3 = true then (some true) else (if x0 = 46 then (some true) else (if x0 = 95 then (some true) else (if x0 = 45 then (some true) else (some false))))
end
def names_letter.f (k : Nat) (a0 : Int) : Option (Bool) := if a0 ≥ 97 then (names_letter.j0 k a0 (decide (a0 ≤ 122))) else (names_letter.j0 k a0 false)
theorem names_letter.mono_l : ∀ k, (∀ y0 y1, LeO (names_letter.j0 k y0 y1) (names_letter.j0 (k + 1) y0 y1)) ∧ (∀ y0 y1, LeO (names_letter.j1 k y0 y1) (names_letter.j1 (k + 1) y0 y1)) ∧ (∀ y0 y1, LeO (names_letter.j2 k y0 y1) (names_letter.j2 (k + 1) y0 y1))
 | 0 => ⟨fun _ _ r h => by simp [names_letter.j0] at h, fun _ _ r h => by simp [names_letter.j1] at h, fun _ _ r h => by simp [names_letter.j2] at h⟩
 | k + 1 => by
  obtain ⟨ih0, ih1, ih2⟩ := names_letter.mono_l k
  refine ⟨?_, ?_, ?_⟩
  ·intro y0 y1
   unfold names_letter.j0
   repeat' first
   | (with_reducible exact ih0 _ _)
   | (with_reducible exact ih1 _ _)
   | (with_reducible exact ih2 _ _)
   | (with_reducible exact LeO.refl _)
   | (with_reducible exact LeO.none _)
   | (with_reducible refine LeO.ite ?_ ?_)
   | (with_reducible refine LeO.bind ?_ (fun _ => ?_))
   | exact ih0 _ _
   | exact ih1 _ _
   | exact ih2 _ _
   | exact LeO.none _
   | refine LeO.ite ?_ ?_
   | refine LeO.bind ?_ (fun _ => ?_)
  ·intro y0 y1
   unfold names_letter.j1
   repeat' first
   | (with_reducible exact ih0 _ _)
   | (with_reducible exact ih1 _ _)
   | (with_reducible exact ih2 _ _)
   | (with_reducible exact LeO.refl _)
   | (with_reducible exact LeO.none _)
   | (with_reducible refine LeO.ite ?_ ?_)
   | (with_reducible refine LeO.bind ?_ (fun _ => ?_))
   | exact ih0 _ _
   | exact ih1 _ _
   | exact ih2 _ _
   | exact LeO.none _
   | refine LeO.ite ?_ ?_
   | refine LeO.bind ?_ (fun _ => ?_)
  ·intro y0 y1
   unfold names_letter.j2
   repeat' first
   | (with_reducible exact ih0 _ _)
   | (with_reducible exact ih1 _ _)
   | (with_reducible exact ih2 _ _)
   | (with_reducible exact LeO.refl _)
   | (with_reducible exact LeO.none _)
   | (with_reducible refine LeO.ite ?_ ?_)
   | (with_reducible refine LeO.bind ?_ (fun _ => ?_))
   | exact ih0 _ _
   | exact ih1 _ _
   | exact ih2 _ _
   | exact LeO.none _
   | refine LeO.ite ?_ ?_
   | refine LeO.bind ?_ (fun _ => ?_)
theorem names_letter.mono : ∀ a0 k, LeO (names_letter.f k a0) (names_letter.f (k + 1) a0) := by
 intro a0 k
 obtain ⟨ih0, ih1, ih2⟩ := names_letter.mono_l k
 unfold names_letter.f
 repeat' first
   | (with_reducible exact ih0 _ _)
   | (with_reducible exact ih1 _ _)
   | (with_reducible exact ih2 _ _)
   | (with_reducible exact LeO.refl _)
   | (with_reducible exact LeO.none _)
   | (with_reducible refine LeO.ite ?_ ?_)
   | (with_reducible refine LeO.bind ?_ (fun _ => ?_))
   | exact ih0 _ _
   | exact ih1 _ _
   | exact ih2 _ _
   | exact LeO.none _
   | refine LeO.ite ?_ ?_
   | refine LeO.bind ?_ (fun _ => ?_)
theorem names_letter.calls (k : Nat) (a0 : Int) (r : Bool) (w : World) (h : names_letter.f k a0 = some r) :
  Calls Tryd.prog 33 #[.int .u8 a0] w fun e w' => e = .returned (.bool r) ∧ Drawn0 w w' := by
 have H : (if a0 ≥ 97 then (names_letter.j0 k a0 (decide (a0 ≤ 122))) else (names_letter.j0 k a0 false)) = some r := h
 clear h
 have HC2 := As_ H
 clear H
 go_enter Tryd.func33, Tryd.ntmps33
 go_upto_region 1 with (fail)
 go_cut [3] (fun v3 wc => ∃ (kq : Nat) (x3_1 : Bool), v3 = .bool x3_1 ∧ Aside0 (names_letter.j0 kq a0 x3_1 = some r) ∧ Aside0 (kq ≤ k) ∧ Drawn0 w wc)
 case first =>
  have H := HC2.out
  clear HC2
  by_cases c3 : a0 ≥ 97
  ·rw [if_pos c3] at H
   have c3b0 : decide (97 ≤ a0) = true := decide_eq_true c3
   clear c3
   (first | rw [c3b0] | (simp only [i64_w, i32_w]; rw [c3b0]) | skip)
   have H' := As_ H
   clear H
   go_wp2
   go_meet
   case rel => exact ⟨_, (decide (a0 ≤ 122)), ap6_, H', ⟨ap0_⟩, ap9_⟩
  ·rw [if_neg c3] at H
   have c3b0 : decide (97 ≤ a0) = false := decide_eq_false c3
   clear c3
   (first | rw [c3b0] | (simp only [i64_w, i32_w]; rw [c3b0]) | skip)
   have H' := As_ H
   clear H
   go_wp2
   go_meet
   case rel => exact ⟨_, (false), ap6_, H', ⟨ap0_⟩, ap9_⟩
 case rest =>
  clear HC2
  obtain ⟨kq, x3_1, rfl, HA, HJ1, ⟨mc1, rfl⟩⟩ := hcut
  cases kq with
  | zero => exact absurd HA.out (by simp [names_letter.j0])
  | succ kj1 =>
   have H := HA.out
   clear HA
   simp only [names_letter.j0] at H
   by_cases c4 : x3_1 = true
   ·subst c4
    have H1 : (some true) = some r := by rw [if_pos rfl] at H; exact H
    clear H
    have H := H1
    clear H1
    obtain rfl := Option.some.inj H
    go_wp2
    go_ret
    exact ⟨ap6_, ap9_⟩
   ·replace c4 := Bool.eq_false_iff.mpr c4
    subst c4
    have H1 : (if a0 ≥ 65 then (names_letter.j1 kj1 a0 (decide (a0 ≤ 90))) else (names_letter.j1 kj1 a0 false)) = some r := by rw [if_neg (show ¬ (false = true) by decide)] at H; exact H
    clear H
    have H := H1
    clear H1
    have HC5 := As_ H
    clear H
    go_upto_region 2 with (fail)
    go_cut [3] (fun v3 wc => ∃ (kq : Nat) (x3_4 : Bool), v3 = .bool x3_4 ∧ Aside0 (names_letter.j1 kq a0 x3_4 = some r) ∧ Aside0 (kq ≤ kj1) ∧ Drawn0 w wc)
    case first =>
     have H := HC5.out
     clear HC5
     by_cases c6 : a0 ≥ 65
     ·rw [if_pos c6] at H
      have c6b0 : decide (65 ≤ a0) = true := decide_eq_true c6
      clear c6
      (first | rw [c6b0] | (simp only [i64_w, i32_w]; rw [c6b0]) | skip)
      have H' := As_ H
      clear H
      go_wp2
      go_meet
      case rel => exact ⟨_, (decide (a0 ≤ 90)), ap6_, H', ⟨by have := HJ1.out; first | omega | exact Nat.le_refl _⟩, ap9_⟩
     ·rw [if_neg c6] at H
      have c6b0 : decide (65 ≤ a0) = false := decide_eq_false c6
      clear c6
      (first | rw [c6b0] | (simp only [i64_w, i32_w]; rw [c6b0]) | skip)
      have H' := As_ H
      clear H
      go_wp2
      go_meet
      case rel => exact ⟨_, (false), ap6_, H', ⟨by have := HJ1.out; first | omega | exact Nat.le_refl _⟩, ap9_⟩
    case rest =>
     clear HC5
     try clear c4
     obtain ⟨kq, x3_4, rfl, HA, HJ4, ⟨mc4, rfl⟩⟩ := hcut
     cases kq with
     | zero => exact absurd HA.out (by simp [names_letter.j1])
     | succ kj4 =>
      have H := HA.out
      clear HA
      simp only [names_letter.j1] at H
      by_cases c7 : x3_4 = true
      ·subst c7
       have H1 : (some true) = some r := by rw [if_pos rfl] at H; exact H
       clear H
       have H := H1
       clear H1
       obtain rfl := Option.some.inj H
       go_wp2
       go_ret
       exact ⟨ap6_, ap9_⟩
      ·replace c7 := Bool.eq_false_iff.mpr c7
       subst c7
       have H1 : (if a0 ≥ 48 then (names_letter.j2 kj4 a0 (decide (a0 ≤ 57))) else (names_letter.j2 kj4 a0 false)) = some r := by rw [if_neg (show ¬ (false = true) by decide)] at H; exact H
       clear H
       have H := H1
       clear H1
       have HC8 := As_ H
       clear H
       go_upto_region 3 with (fail)
       go_cut [3] (fun v3 wc => ∃ (kq : Nat) (x3_7 : Bool), v3 = .bool x3_7 ∧ Aside0 (names_letter.j2 kq a0 x3_7 = some r) ∧ Aside0 (kq ≤ kj4) ∧ Drawn0 w wc)
       case first =>
        have H := HC8.out
        clear HC8
        by_cases c9 : a0 ≥ 48
        ·rw [if_pos c9] at H
         have c9b0 : decide (48 ≤ a0) = true := decide_eq_true c9
         clear c9
         (first | rw [c9b0] | (simp only [i64_w, i32_w]; rw [c9b0]) | skip)
         have H' := As_ H
         clear H
         go_wp2
         go_meet
         case rel => exact ⟨_, (decide (a0 ≤ 57)), ap6_, H', ⟨by have := HJ1.out; have := HJ4.out; first | omega | exact Nat.le_refl _⟩, ap9_⟩
        ·rw [if_neg c9] at H
         have c9b0 : decide (48 ≤ a0) = false := decide_eq_false c9
         clear c9
         (first | rw [c9b0] | (simp only [i64_w, i32_w]; rw [c9b0]) | skip)
         have H' := As_ H
         clear H
         go_wp2
         go_meet
         case rel => exact ⟨_, (false), ap6_, H', ⟨by have := HJ1.out; have := HJ4.out; first | omega | exact Nat.le_refl _⟩, ap9_⟩
       case rest =>
        clear HC8
        try clear c4
        try clear c7
        obtain ⟨kq, x3_7, rfl, HA, HJ7, ⟨mc7, rfl⟩⟩ := hcut
        cases kq with
        | zero => exact absurd HA.out (by simp [names_letter.j2])
        | succ kj7 =>
         have H := HA.out
         clear HA
         simp only [names_letter.j2] at H
         by_cases c10 : x3_7 = true
         ·subst c10
          have H1 : (some true) = some r := by rw [if_pos rfl] at H; exact H
          clear H
          have H := H1
          clear H1
          obtain rfl := Option.some.inj H
          go_wp2
          go_ret
          exact ⟨ap6_, ap9_⟩
         ·replace c10 := Bool.eq_false_iff.mpr c10
          subst c10
          have H1 : (if a0 = 46 then (some true) else (if a0 = 95 then (some true) else (if a0 = 45 then (some true) else (some false)))) = some r := by rw [if_neg (show ¬ (false = true) by decide)] at H; exact H
          clear H
          have H := H1
          clear H1
          by_cases c11 : a0 = 46
          ·rw [if_pos c11] at H
           have c11b0 : (a0 == 46) = true := beq_iff_eq.mpr c11
           have c11b1 : (a0 != 46) = false := bne_eq_false_iff_eq.mpr c11
           clear c11
           obtain rfl := Option.some.inj H
           go_wp2
           go_ret
           exact ⟨ap6_, ap9_⟩
          ·rw [if_neg c11] at H
           have c11b0 : (a0 == 46) = false := beq_eq_false_iff_ne.mpr c11
           have c11b1 : (a0 != 46) = true := bne_iff_ne.mpr c11
           by_cases c12 : a0 = 95
           ·rw [if_pos c12] at H
            have c12b0 : (a0 == 95) = true := beq_iff_eq.mpr c12
            have c12b1 : (a0 != 95) = false := bne_eq_false_iff_eq.mpr c12
            clear c12
            obtain rfl := Option.some.inj H
            go_wp2
            go_ret
            exact ⟨ap6_, ap9_⟩
           ·rw [if_neg c12] at H
            have c12b0 : (a0 == 95) = false := beq_eq_false_iff_ne.mpr c12
            have c12b1 : (a0 != 95) = true := bne_iff_ne.mpr c12
            by_cases c13 : a0 = 45
            ·rw [if_pos c13] at H
             have c13b0 : (a0 == 45) = true := beq_iff_eq.mpr c13
             have c13b1 : (a0 != 45) = false := bne_eq_false_iff_eq.mpr c13
             clear c13
             obtain rfl := Option.some.inj H
             go_wp2
             go_ret
             exact ⟨ap6_, ap9_⟩
            ·rw [if_neg c13] at H
             have c13b0 : (a0 == 45) = false := beq_eq_false_iff_ne.mpr c13
             have c13b1 : (a0 != 45) = true := bne_iff_ne.mpr c13
             obtain rfl := Option.some.inj H
             go_wp2
             go_ret
             exact ⟨ap6_, ap9_⟩
mutual
def names_plain.j0 : Nat → ByteArray → Bool → Option (Bool)
 | 0, _, _ => none
 | k + 1, x0, x3 => names_plain.l0 k x0 x3 (x0.size : Int) 0
def names_plain.l0 : Nat → ByteArray → Bool → Int → Int → Option (Bool)
 | 0, _, _, _, _ => none
 | k + 1, x0, x3, x13, x14 => if x14 < x13 then (if 0 ≤ x14 then (if x14 < (x0.size : Int) then ((names_letter.f k (bt x0 x14)).bind fun t104 => (if t104 = true then (names_plain.l0 k x0 x3 x13 (wrap64 (x14 + 1))) else (some false))) else (none)) else (none)) else (some x3)
end
def names_plain.f (k : Nat) (a0 : ByteArray) : Option (Bool) := if a0.toList = ([] : List UInt8) then (names_plain.j0 k a0 false) else (names_plain.j0 k a0 (decide ((a0.size : Int) ≤ 64)))
theorem names_plain.mono_l : ∀ k, (∀ y0 y1, LeO (names_plain.j0 k y0 y1) (names_plain.j0 (k + 1) y0 y1)) ∧ (∀ y0 y1 y2 y3, LeO (names_plain.l0 k y0 y1 y2 y3) (names_plain.l0 (k + 1) y0 y1 y2 y3))
 | 0 => ⟨fun _ _ r h => by simp [names_plain.j0] at h, fun _ _ _ _ r h => by simp [names_plain.l0] at h⟩
 | k + 1 => by
  obtain ⟨ih0, ih1⟩ := names_plain.mono_l k
  refine ⟨?_, ?_⟩
  ·intro y0 y1
   unfold names_plain.j0
   repeat' first
   | (with_reducible exact ih0 _ _)
   | (with_reducible exact ih1 _ _ _ _)
   | (with_reducible exact names_letter.mono _ _)
   | (with_reducible exact LeO.refl _)
   | (with_reducible exact LeO.none _)
   | (with_reducible refine LeO.ite ?_ ?_)
   | (with_reducible refine LeO.bind ?_ (fun _ => ?_))
   | exact ih0 _ _
   | exact ih1 _ _ _ _
   | exact names_letter.mono _ _
   | exact LeO.none _
   | refine LeO.ite ?_ ?_
   | refine LeO.bind ?_ (fun _ => ?_)
  ·intro y0 y1 y2 y3
   unfold names_plain.l0
   repeat' first
   | (with_reducible exact ih0 _ _)
   | (with_reducible exact ih1 _ _ _ _)
   | (with_reducible exact names_letter.mono _ _)
   | (with_reducible exact LeO.refl _)
   | (with_reducible exact LeO.none _)
   | (with_reducible refine LeO.ite ?_ ?_)
   | (with_reducible refine LeO.bind ?_ (fun _ => ?_))
   | exact ih0 _ _
   | exact ih1 _ _ _ _
   | exact names_letter.mono _ _
   | exact LeO.none _
   | refine LeO.ite ?_ ?_
   | refine LeO.bind ?_ (fun _ => ?_)
theorem names_plain.mono : ∀ a0 k, LeO (names_plain.f k a0) (names_plain.f (k + 1) a0) := by
 intro a0 k
 obtain ⟨ih0, ih1⟩ := names_plain.mono_l k
 unfold names_plain.f
 repeat' first
   | (with_reducible exact ih0 _ _)
   | (with_reducible exact ih1 _ _ _ _)
   | (with_reducible exact names_letter.mono _ _)
   | (with_reducible exact LeO.refl _)
   | (with_reducible exact LeO.none _)
   | (with_reducible refine LeO.ite ?_ ?_)
   | (with_reducible refine LeO.bind ?_ (fun _ => ?_))
   | exact ih0 _ _
   | exact ih1 _ _ _ _
   | exact names_letter.mono _ _
   | exact LeO.none _
   | refine LeO.ite ?_ ?_
   | refine LeO.bind ?_ (fun _ => ?_)
theorem names_plain.calls (k : Nat) (a0 : ByteArray) (r : Bool) (w : World) (h : names_plain.f k a0 = some r) :
  Calls Tryd.prog 21 #[.string a0] w fun e w' => e = .returned (.bool r) ∧ Drawn0 w w' := by
 have H : (if a0.toList = ([] : List UInt8) then (names_plain.j0 k a0 false) else (names_plain.j0 k a0 (decide ((a0.size : Int) ≤ 64)))) = some r := h
 clear h
 have HC2 := As_ H
 clear H
 go_enter Tryd.func21, Tryd.ntmps21
 go_wp2_with fail
 go_step3
 go_upto_region 1 with (fail)
 go_cut [3] (fun v3 wc => ∃ (kq : Nat) (x3_1 : Bool), v3 = .bool x3_1 ∧ Aside0 (names_plain.j0 kq a0 x3_1 = some r) ∧ Aside0 (kq ≤ k) ∧ Drawn0 w wc)
 case first =>
  have H := HC2.out
  clear HC2
  by_cases c3 : a0.toList = ([] : List UInt8)
  ·rw [if_pos c3] at H
   have c3b0 : (a0.toList == ([] : List UInt8)) = true := beq_iff_eq.mpr c3
   have c3b1 : (a0.toList != ([] : List UInt8)) = false := bne_eq_false_iff_eq.mpr c3
   clear c3
   (first | rw [c3b0] | (simp only [i64_w, i32_w]; rw [c3b0]) | skip)
   have H' := As_ H
   clear H
   go_wp2
   go_meet
   case rel => exact ⟨_, (false), ap6_, H', ⟨ap0_⟩, ap9_⟩
  ·rw [if_neg c3] at H
   have c3b0 : (a0.toList == ([] : List UInt8)) = false := beq_eq_false_iff_ne.mpr c3
   have c3b1 : (a0.toList != ([] : List UInt8)) = true := bne_iff_ne.mpr c3
   (first | rw [c3b0] | (simp only [i64_w, i32_w]; rw [c3b0]) | skip)
   have H' := As_ H
   clear H
   go_wp2
   go_meet
   case rel => exact ⟨_, (decide ((a0.size : Int) ≤ 64)), ap6_, H', ⟨ap0_⟩, ap9_⟩
 case rest =>
  clear HC2
  obtain ⟨kq, x3_1, rfl, HA, HJ1, ⟨mc1, rfl⟩⟩ := hcut
  cases kq with
  | zero => exact absurd HA.out (by simp [names_plain.j0])
  | succ kj1 =>
   have H := HA.out
   clear HA
   simp only [names_plain.j0] at H
   have H' := As_ H
   clear H
   go_wp2
   (try (go_step3; go_wp2))
   go_loopg [3, 14] kj1 (fun kq v3 v14 w' => ∃ (x3_2 : Bool) (x14_2 : Int), v3 = .bool x3_2 ∧ v14 = .int .i64 x14_2 ∧ Aside0 (names_plain.l0 kq a0 x3_2 (a0.size : Int) x14_2 = some r) ∧ Aside0 (kq ≤ kj1) ∧ Drawn0 w w')
   case atStart => exact ⟨(x3_1), (0), ap6_, ap6_, H', ⟨Nat.le_refl _⟩, ap9_⟩
   case round =>
    clear H'
    obtain ⟨x3_2, x14_2, rfl, rfl, HA, HK2, ⟨m2, rfl⟩⟩ := hrel
    cases gk with
    | zero => exact absurd HA.out (by simp [names_plain.l0])
    | succ k2 =>
     have H := HA.out
     clear HA
     simp only [names_plain.l0] at H
     by_cases c4 : x14_2 < (a0.size : Int)
     ·rw [if_pos c4] at H
      have c4b0 : decide (x14_2 < (a0.size : Int)) = true := decide_eq_true c4
      clear c4
      by_cases c5 : 0 ≤ x14_2
      ·rw [if_pos c5] at H
       have c5b0 : decide (0 ≤ x14_2) = true := decide_eq_true c5
       clear c5
       by_cases c6 : x14_2 < (a0.size : Int)
       ·rw [if_pos c6] at H
        have c6b0 : decide (x14_2 < (a0.size : Int)) = true := decide_eq_true c6
        clear c6
        replace H := Option.bind_eq_some_iff.mp H
        obtain ⟨t104, A80, H⟩ := H
        try dsimp only at H
        have A8 := As_ A80
        clear A80
        by_cases c9 : t104 = true
        ·subst c9
         have H1 : (names_plain.l0 k2 a0 x3_2 (a0.size : Int) (wrap64 (x14_2 + 1))) = some r := by rw [if_pos rfl] at H; exact H
         clear H
         have H := H1
         clear H1
         have H' := As_ H
         clear H
         have p7 : 0 ≤ (x14_2 : Int) := of_decide_eq_true ap7_
         have q7 : x14_2 < (a0.size : Int) := of_decide_eq_true ap7_
         have hx7 := bt_at a0 x14_2
         replace p7 := eq_true p7
         replace q7 := eq_true q7
         go_wp2_with (first | ((with_reducible refine gate_callee (f := 33) rfl ?_); refine gk_ (some 20) Tryd.func33 #[.int .u8 (bt a0 x14_2)] ?_; (with_reducible refine (names_letter.calls k2 (bt a0 x14_2) true _ A8.out).mono ?_); rintro e w' ⟨rfl, ⟨nd, rfl⟩⟩; refine ⟨_, rfl, ?_⟩))
         go_roundg k2
         case measure => have := HJ1.out; have := HK2.out; omega
         case rel => exact ⟨(x3_2), (wrap64 (x14_2 + 1)), ap6_, ap6_, H', ⟨by have := HJ1.out; have := HK2.out; omega⟩, ap9_⟩
        ·replace c9 := Bool.eq_false_iff.mpr c9
         subst c9
         have H1 : (some false) = some r := by rw [if_neg (show ¬ (false = true) by decide)] at H; exact H
         clear H
         have H := H1
         clear H1
         obtain rfl := Option.some.inj H
         have p7 : 0 ≤ (x14_2 : Int) := of_decide_eq_true ap7_
         have q7 : x14_2 < (a0.size : Int) := of_decide_eq_true ap7_
         have hx7 := bt_at a0 x14_2
         replace p7 := eq_true p7
         replace q7 := eq_true q7
         go_wp2_with (first | ((with_reducible refine gate_callee (f := 33) rfl ?_); refine gk_ (some 20) Tryd.func33 #[.int .u8 (bt a0 x14_2)] ?_; (with_reducible refine (names_letter.calls k2 (bt a0 x14_2) false _ A8.out).mono ?_); rintro e w' ⟨rfl, ⟨nd, rfl⟩⟩; refine ⟨_, rfl, ?_⟩))
         (try rw [Exit.noGoto_ret]); go_ret
         exact ⟨ap6_, ap9_⟩
       ·rw [if_neg c6] at H
        exact absurd H (by simp)
      ·rw [if_neg c5] at H
       exact absurd H (by simp)
     ·rw [if_neg c4] at H
      have c4b0 : decide (x14_2 < (a0.size : Int)) = false := decide_eq_false c4
      clear c4
      obtain rfl := Option.some.inj H
      go_wp2
      (try rw [Exit.noGoto_ret]); go_ret
      exact ⟨ap6_, ap9_⟩
def names_Check.j0 : Nat → Int → ByteArray → Bool → Option (Int)
 | 0, _, _, _ => none
 | k + 1, x0, x1, x7 => if x7 = true then (some 1) else ((names_head.f x0).bind fun t105 => (if t105.toList = ([] : List UInt8) then ((names_plain.f k x1).bind fun t106 => (if t106 = true then (some 0) else (some 7))) else ((names_Number.f x0 x1).bind fun bt107 => (some bt107.2))))
def names_Check.f (k : Nat) (a0 : Int) (a1 : ByteArray) : Option (Int) := if a0 < 0 then (names_Check.j0 k a0 a1 true) else (names_Check.j0 k a0 a1 (decide (a0 > 6)))
theorem names_Check.mono_l : ∀ k, (∀ y0 y1 y2, LeO (names_Check.j0 k y0 y1 y2) (names_Check.j0 (k + 1) y0 y1 y2))
 | 0 => fun _ _ _ r h => by simp [names_Check.j0] at h
 | k + 1 => by
  have ih0 := names_Check.mono_l k
  ·intro y0 y1 y2
   unfold names_Check.j0
   repeat' first
   | (with_reducible exact ih0 _ _ _)
   | (with_reducible exact names_plain.mono _ _)
   | (with_reducible exact LeO.refl _)
   | (with_reducible exact LeO.none _)
   | (with_reducible refine LeO.ite ?_ ?_)
   | (with_reducible refine LeO.bind ?_ (fun _ => ?_))
   | exact ih0 _ _ _
   | exact names_plain.mono _ _
   | exact LeO.none _
   | refine LeO.ite ?_ ?_
   | refine LeO.bind ?_ (fun _ => ?_)
theorem names_Check.mono : ∀ a0 a1 k, LeO (names_Check.f k a0 a1) (names_Check.f (k + 1) a0 a1) := by
 intro a0 a1 k
 have ih0 := names_Check.mono_l k
 unfold names_Check.f
 repeat' first
   | (with_reducible exact ih0 _ _ _)
   | (with_reducible exact names_plain.mono _ _)
   | (with_reducible exact LeO.refl _)
   | (with_reducible exact LeO.none _)
   | (with_reducible refine LeO.ite ?_ ?_)
   | (with_reducible refine LeO.bind ?_ (fun _ => ?_))
   | exact ih0 _ _ _
   | exact names_plain.mono _ _
   | exact LeO.none _
   | refine LeO.ite ?_ ?_
   | refine LeO.bind ?_ (fun _ => ?_)
theorem names_Check.calls (k : Nat) (a0 : Int) (a1 : ByteArray) (r : Int) (w : World) (h : names_Check.f k a0 a1 = some r) :
  Calls Tryd.prog 11 #[.int .i64 a0, .string a1] w fun e w' => e = .returned (.int .i64 r) ∧ Below w.heap.size w w' := by
 have HB := As_ (Below.refl w.heap.size w)
 have H : (if a0 < 0 then (names_Check.j0 k a0 a1 true) else (names_Check.j0 k a0 a1 (decide (a0 > 6)))) = some r := h
 clear h
 have HC3 := As_ H
 clear H
 go_enter Tryd.func11, Tryd.ntmps11
 go_upto_region 1 with (fail)
 go_cut [7] (fun v7 wc => ∃ (kq : Nat) (x7_2 : Bool), v7 = .bool x7_2 ∧ Aside0 (names_Check.j0 kq a0 a1 x7_2 = some r) ∧ Aside0 (kq ≤ k) ∧ Aside0 (Below w.heap.size w wc))
 case first =>
  have H := HC3.out
  clear HC3
  by_cases c4 : a0 < 0
  ·rw [if_pos c4] at H
   have c4b0 : decide (a0 < 0) = true := decide_eq_true c4
   clear c4
   (first | rw [c4b0] | (simp only [i64_w, i32_w]; rw [c4b0]) | skip)
   have H' := As_ H
   clear H
   go_wp2
   go_meet
   case rel => exact ⟨_, (true), ap6_, H', ⟨ap0_⟩, ⟨ap17_⟩⟩
  ·rw [if_neg c4] at H
   have c4b0 : decide (a0 < 0) = false := decide_eq_false c4
   clear c4
   (first | rw [c4b0] | (simp only [i64_w, i32_w]; rw [c4b0]) | skip)
   have H' := As_ H
   clear H
   go_wp2
   go_meet
   case rel => exact ⟨_, (decide (a0 > 6)), ap6_, H', ⟨ap0_⟩, ⟨ap17_⟩⟩
 case rest =>
  clear HC3
  obtain ⟨kq, x7_2, rfl, HA, HJ2, HB⟩ := hcut
  cases kq with
  | zero => exact absurd HA.out (by simp [names_Check.j0])
  | succ kj2 =>
   have H := HA.out
   clear HA
   simp only [names_Check.j0] at H
   by_cases c5 : x7_2 = true
   ·subst c5
    have H1 : (some 1) = some r := by rw [if_pos rfl] at H; exact H
    clear H
    have H := H1
    clear H1
    obtain rfl := Option.some.inj H
    go_wp2
    go_ret
    exact ⟨ap15_, ap17_⟩
   ·replace c5 := Bool.eq_false_iff.mpr c5
    subst c5
    have H1 : ((names_head.f a0).bind fun t105 => (if t105.toList = ([] : List UInt8) then ((names_plain.f kj2 a1).bind fun t106 => (if t106 = true then (some 0) else (some 7))) else ((names_Number.f a0 a1).bind fun bt107 => (some bt107.2)))) = some r := by rw [if_neg (show ¬ (false = true) by decide)] at H; exact H
    clear H
    have H := H1
    clear H1
    replace H := Option.bind_eq_some_iff.mp H
    obtain ⟨t105, A60, H⟩ := H
    try dsimp only at H
    have A6 := As_ A60
    clear A60
    by_cases c7 : t105.toList = ([] : List UInt8)
    ·rw [if_pos c7] at H
     have c7b0 : (t105.toList == ([] : List UInt8)) = true := beq_iff_eq.mpr c7
     have c7b1 : (t105.toList != ([] : List UInt8)) = false := bne_eq_false_iff_eq.mpr c7
     clear c7
     replace H := Option.bind_eq_some_iff.mp H
     obtain ⟨t106, A80, H⟩ := H
     try dsimp only at H
     have A8 := As_ A80
     clear A80
     by_cases c9 : t106 = true
     ·subst c9
      have H1 : (some 0) = some r := by rw [if_pos rfl] at H; exact H
      clear H
      have H := H1
      clear H1
      obtain rfl := Option.some.inj H
      go_wp2_with (first | ((with_reducible refine gate_callee (f := 19) rfl ?_); refine gk_ (some 16) Tryd.func19 #[.int .i64 a0] ?_; (with_reducible refine (names_head.calls a0 t105 _ A6.out).mono ?_); rintro e w' ⟨rfl, ⟨nd, rfl⟩⟩; refine ⟨_, rfl, ?_⟩) | ((with_reducible refine gate_callee (f := 21) rfl ?_); refine gk_ (some 27) Tryd.func21 #[.string a1] ?_; (with_reducible refine (names_plain.calls kj2 a1 true _ A8.out).mono ?_); rintro e w' ⟨rfl, ⟨nd, rfl⟩⟩; refine ⟨_, rfl, ?_⟩))
      go_ret
      exact ⟨ap15_, ap17_⟩
     ·replace c9 := Bool.eq_false_iff.mpr c9
      subst c9
      have H1 : (some 7) = some r := by rw [if_neg (show ¬ (false = true) by decide)] at H; exact H
      clear H
      have H := H1
      clear H1
      obtain rfl := Option.some.inj H
      go_wp2_with (first | ((with_reducible refine gate_callee (f := 19) rfl ?_); refine gk_ (some 16) Tryd.func19 #[.int .i64 a0] ?_; (with_reducible refine (names_head.calls a0 t105 _ A6.out).mono ?_); rintro e w' ⟨rfl, ⟨nd, rfl⟩⟩; refine ⟨_, rfl, ?_⟩) | ((with_reducible refine gate_callee (f := 21) rfl ?_); refine gk_ (some 27) Tryd.func21 #[.string a1] ?_; (with_reducible refine (names_plain.calls kj2 a1 false _ A8.out).mono ?_); rintro e w' ⟨rfl, ⟨nd, rfl⟩⟩; refine ⟨_, rfl, ?_⟩))
      go_ret
      exact ⟨ap15_, ap17_⟩
    ·rw [if_neg c7] at H
     have c7b0 : (t105.toList == ([] : List UInt8)) = false := beq_eq_false_iff_ne.mpr c7
     have c7b1 : (t105.toList != ([] : List UInt8)) = true := bne_iff_ne.mpr c7
     replace H := Option.bind_eq_some_iff.mp H
     obtain ⟨⟨t107, t108⟩, A100, H⟩ := H
     try dsimp only at H
     have A10 := As_ A100
     clear A100
     obtain rfl := Option.some.inj H
     go_wp2_with (first | ((with_reducible refine gate_callee (f := 19) rfl ?_); refine gk_ (some 16) Tryd.func19 #[.int .i64 a0] ?_; (with_reducible refine (names_head.calls a0 t105 _ A6.out).mono ?_); rintro e w' ⟨rfl, ⟨nd, rfl⟩⟩; refine ⟨_, rfl, ?_⟩) | ((with_reducible refine gate_callee (f := 20) rfl ?_); refine gk_ (some 21) Tryd.func20 #[.int .i64 a0, .string a1] ?_; (with_reducible refine (names_Number.calls a0 a1 t107 t108 _ A10.out).mono ?_); rintro e w11 ⟨rfl, hb⟩; refine ⟨_, rfl, ?_⟩; replace HB := As_ (below_step ap17_ hb); (try clear hb); (try clear hb2); (try clear hk); (try clear hi)))
     go_ret
     exact ⟨ap15_, ap17_⟩
def quota_bad.f (a0 : Int) (a1 : Int) : Option (Bool) := if a0 < a1 then (some true) else (some (decide (a0 > 1099511627776)))
theorem quota_bad.calls (a0 : Int) (a1 : Int) (r : Bool) (w : World) (h : quota_bad.f a0 a1 = some r) :
  Calls Tryd.prog 12 #[.int .i64 a0, .int .i64 a1] w fun e w' => e = .returned (.bool r) ∧ Drawn0 w w' := by
 have H : (if a0 < a1 then (some true) else (some (decide (a0 > 1099511627776)))) = some r := h
 clear h
 by_cases c3 : a0 < a1
 ·rw [if_pos c3] at H
  have c3b0 : decide (a0 < a1) = true := decide_eq_true c3
  clear c3
  obtain rfl := Option.some.inj H
  go_enter Tryd.func12, Tryd.ntmps12
  go_wp2
  go_ret
  exact ⟨ap6_, ap9_⟩
 ·rw [if_neg c3] at H
  have c3b0 : decide (a0 < a1) = false := decide_eq_false c3
  clear c3
  obtain rfl := Option.some.inj H
  go_enter Tryd.func12, Tryd.ntmps12
  go_wp2
  go_ret
  exact ⟨ap6_, ap9_⟩
def path_hidden.f (a0 : ByteArray) : Option (ByteArray) := (strings_ReplaceAll.f a0 (⟨#[37]⟩ : ByteArray) (⟨#[37, 112]⟩ : ByteArray)).bind fun t109 => ((strings_ReplaceAll.f t109 (⟨#[47]⟩ : ByteArray) (⟨#[37, 115]⟩ : ByteArray)).bind fun t110 => (some t110))
theorem path_hidden.calls (a0 : ByteArray) (r : ByteArray) (w : World) (h : path_hidden.f a0 = some r) :
  Calls Tryd.prog 25 #[.string a0] w fun e w' => e = .returned (.string r) ∧ Below w.heap.size w w' := by
 have HB := As_ (Below.refl w.heap.size w)
 have H : ((strings_ReplaceAll.f a0 (⟨#[37]⟩ : ByteArray) (⟨#[37, 112]⟩ : ByteArray)).bind fun t109 => ((strings_ReplaceAll.f t109 (⟨#[47]⟩ : ByteArray) (⟨#[37, 115]⟩ : ByteArray)).bind fun t110 => (some t110))) = some r := h
 clear h
 replace H := Option.bind_eq_some_iff.mp H
 obtain ⟨t109, A20, H⟩ := H
 try dsimp only at H
 have A2 := As_ A20
 clear A20
 replace H := Option.bind_eq_some_iff.mp H
 obtain ⟨t110, A30, H⟩ := H
 try dsimp only at H
 have A3 := As_ A30
 clear A30
 obtain rfl := Option.some.inj H
 go_enter Tryd.func25, Tryd.ntmps25
 go_wp2_with (first | ((with_reducible refine gate_callee (f := 36) rfl ?_); refine gk_ (some 4) Tryd.func36 #[.string a0, .string ⟨#[37]⟩, .string ⟨#[37, 112]⟩] ?_; (with_reducible refine (strings_ReplaceAll.calls a0 (⟨#[37]⟩ : ByteArray) (⟨#[37, 112]⟩ : ByteArray) t109 _ A2.out).mono ?_); rintro e w4 ⟨rfl, hb⟩; refine ⟨_, rfl, ?_⟩; replace HB := As_ (below_step ap17_ hb); (try clear hb); (try clear hb2); (try clear hk); (try clear hi)) | ((with_reducible refine gate_callee (f := 36) rfl ?_); refine gk_ (some 5) Tryd.func36 #[.string t109, .string ⟨#[47]⟩, .string ⟨#[37, 115]⟩] ?_; (with_reducible refine (strings_ReplaceAll.calls t109 (⟨#[47]⟩ : ByteArray) (⟨#[37, 115]⟩ : ByteArray) t110 _ A3.out).mono ?_); rintro e w5 ⟨rfl, hb⟩; refine ⟨_, rfl, ?_⟩; replace HB := As_ (below_step ap17_ hb); (try clear hb); (try clear hb2); (try clear hk); (try clear hi)))
 go_ret
 exact ⟨ap15_, ap17_⟩
def path_Join.l0 : Nat → ByteArray → List ByteArray → Int → Int → Option (ByteArray)
 | 0, _, _, _, _ => none
 | k + 1, x5, x10, x11, x12 => if x12 < x11 then (if 0 ≤ x12 then (if x12 < (x10.length : Int) then ((path_hidden.f (rdOf ByteArray.empty x10 x12)).bind fun t113 => (if 1 + t113.size ≤ 9223372036854775807 then (if x5.size + ((⟨#[47]⟩ : ByteArray) ++ t113).size ≤ 9223372036854775807 then (path_Join.l0 k (x5 ++ ((⟨#[47]⟩ : ByteArray) ++ t113)) x10 x11 (wrap64 (x12 + 1))) else (none)) else (none))) else (none)) else (none)) else (some x5)
def path_Join.f (k : Nat) (a0 : ByteArray) (l1 : List ByteArray) : Option (ByteArray) := (path_hidden.f a0).bind fun t111 => (path_Join.l0 k t111 l1 (l1.length : Int) 0)
theorem path_Join.mono_l : ∀ k, (∀ y0 y1 y2 y3, LeO (path_Join.l0 k y0 y1 y2 y3) (path_Join.l0 (k + 1) y0 y1 y2 y3))
 | 0 => fun _ _ _ _ r h => by simp [path_Join.l0] at h
 | k + 1 => by
  have ih0 := path_Join.mono_l k
  ·intro y0 y1 y2 y3
   unfold path_Join.l0
   repeat' first
   | (with_reducible exact ih0 _ _ _ _)
   | (with_reducible exact LeO.refl _)
   | (with_reducible exact LeO.none _)
   | (with_reducible refine LeO.ite ?_ ?_)
   | (with_reducible refine LeO.bind ?_ (fun _ => ?_))
   | exact ih0 _ _ _ _
   | exact LeO.none _
   | refine LeO.ite ?_ ?_
   | refine LeO.bind ?_ (fun _ => ?_)
theorem path_Join.mono : ∀ a0 a1 k, LeO (path_Join.f k a0 a1) (path_Join.f (k + 1) a0 a1) := by
 intro a0 a1 k
 have ih0 := path_Join.mono_l k
 unfold path_Join.f
 repeat' first
   | (with_reducible exact ih0 _ _ _ _)
   | (with_reducible exact LeO.refl _)
   | (with_reducible exact LeO.none _)
   | (with_reducible refine LeO.ite ?_ ?_)
   | (with_reducible refine LeO.bind ?_ (fun _ => ?_))
   | exact ih0 _ _ _ _
   | exact LeO.none _
   | refine LeO.ite ?_ ?_
   | refine LeO.bind ?_ (fun _ => ?_)
theorem path_Join.calls (k : Nat) (a0 : ByteArray) (A1 : Option Addr) (c1 : Nat) (l1 : List ByteArray) (r : ByteArray) (w : World) (hr1 : Kd.C Kd.string w A1 l1.length l1) (hc1 : l1.length ≤ c1) (h : path_Join.f k a0 l1 = some r) :
  Calls Tryd.prog 14 #[.string a0, .slice A1 l1.length c1] w fun e w' => e = .returned (.string r) ∧ Below w.heap.size w w' := by
 have HR1 := As_ hr1
 have HC1 := As_ hc1
 clear hr1 hc1
 have HB := As_ (Below.refl w.heap.size w)
 have H : ((path_hidden.f a0).bind fun t111 => (path_Join.l0 k t111 l1 (l1.length : Int) 0)) = some r := h
 clear h
 replace H := Option.bind_eq_some_iff.mp H
 obtain ⟨t111, A30, H⟩ := H
 try dsimp only at H
 have A3 := As_ A30
 clear A30
 have H' := As_ H
 clear H
 go_enter Tryd.func14, Tryd.ntmps14
 go_wp2_with (first | ((with_reducible refine gate_callee (f := 25) rfl ?_); refine gk_ (some 9) Tryd.func25 #[.string a0] ?_; (with_reducible refine (path_hidden.calls a0 t111 _ A3.out).mono ?_); rintro e w4 ⟨rfl, hb⟩; refine ⟨_, rfl, ?_⟩; replace HB := As_ (below_step ap17_ hb); (try clear hb); (try clear hb2); (try clear hk); (try clear hi)))
 go_loopg [5, 12] k (fun kq v5 v12 w' => ∃ (x5_1 : ByteArray) (x12_1 : Int), v5 = .string x5_1 ∧ v12 = .int .i64 x12_1 ∧ Aside0 (path_Join.l0 kq x5_1 l1 (l1.length : Int) x12_1 = some r) ∧ Aside0 (kq ≤ k) ∧ Aside0 (Below w.heap.size w w'))
 case atStart => exact ⟨(t111), (0), ap6_, ap6_, H', ⟨Nat.le_refl _⟩, ⟨ap17_⟩⟩
 case round =>
  clear H'
  try clear c1
  obtain ⟨x5_1, x12_1, rfl, rfl, HA, HK1, HB⟩ := hrel
  cases gk with
  | zero => exact absurd HA.out (by simp [path_Join.l0])
  | succ k1 =>
   have H := HA.out
   clear HA
   simp only [path_Join.l0] at H
   by_cases c5 : x12_1 < (l1.length : Int)
   ·rw [if_pos c5] at H
    have c5b0 : decide (x12_1 < (l1.length : Int)) = true := decide_eq_true c5
    clear c5
    by_cases c6 : 0 ≤ x12_1
    ·rw [if_pos c6] at H
     have c6b0 : decide (0 ≤ x12_1) = true := decide_eq_true c6
     clear c6
     by_cases c7 : x12_1 < (l1.length : Int)
     ·rw [if_pos c7] at H
      have c7b0 : decide (x12_1 < (l1.length : Int)) = true := decide_eq_true c7
      clear c7
      replace H := Option.bind_eq_some_iff.mp H
      obtain ⟨t113, A80, H⟩ := H
      try dsimp only at H
      have A8 := As_ A80
      clear A80
      by_cases c9 : 1 + t113.size ≤ 9223372036854775807
      ·rw [if_pos c9] at H
       have c9b0 := eq_true c9
       have c9b1 : decide (1 + t113.size ≤ 9223372036854775807) = true := decide_eq_true c9
       try have c9b2 : (9223372036854775807 < 1 + t113.size) = False := eq_false (Nat.not_lt.2 c9)
       by_cases c10 : x5_1.size + ((⟨#[47]⟩ : ByteArray) ++ t113).size ≤ 9223372036854775807
       ·rw [if_pos c10] at H
        have c10b0 := eq_true c10
        have c10b1 : decide (x5_1.size + ((⟨#[47]⟩ : ByteArray) ++ t113).size ≤ 9223372036854775807) = true := decide_eq_true c10
        try have c10b2 : (9223372036854775807 < x5_1.size + ((⟨#[47]⟩ : ByteArray) ++ t113).size) = False := eq_false (Nat.not_lt.2 c10)
        try (have c10b2_ := c10b2; simp only [ByteArray.size_append, my_lit_size, List.length_cons, List.length_nil, Nat.reduceAdd] at c10b2_)
        have H' := As_ H
        clear H
        have p112 : 0 ≤ (x12_1 : Int) := of_decide_eq_true ap7_
        have q112 : x12_1 < (l1.length : Int) := of_decide_eq_true ap7_
        obtain ⟨ad112, e112, hx112_0⟩ := Kd.at_string HR1.out x12_1 p112 q112
        cases e112
        replace hx112_0 := (HB.out.cell (World.block_lt_of_cell? w _ hx112_0)).trans hx112_0
        replace p112 := eq_true p112
        replace q112 := eq_true q112
        go_wp2_with (first | ((with_reducible refine gate_callee (f := 25) rfl ?_); refine gk_ (some 18) Tryd.func25 #[.string (rdOf ByteArray.empty l1 x12_1)] ?_; (with_reducible refine (path_hidden.calls (rdOf ByteArray.empty l1 x12_1) t113 _ A8.out).mono ?_); rintro e w11 ⟨rfl, hb⟩; refine ⟨_, rfl, ?_⟩; replace HB := As_ (below_step ap17_ hb); (try clear hb); (try clear hb2); (try clear hk); (try clear hi)))
        go_roundg k1
        case measure => have := HK1.out; omega
        case rel => exact ⟨(x5_1 ++ ((⟨#[47]⟩ : ByteArray) ++ t113)), (wrap64 (x12_1 + 1)), ap6_, ap6_, H', ⟨by have := HK1.out; omega⟩, ⟨ap17_⟩⟩
       ·rw [if_neg c10] at H
        exact absurd H (by simp)
      ·rw [if_neg c9] at H
       exact absurd H (by simp)
     ·rw [if_neg c7] at H
      exact absurd H (by simp)
    ·rw [if_neg c6] at H
     exact absurd H (by simp)
   ·rw [if_neg c5] at H
    have c5b0 : decide (x12_1 < (l1.length : Int)) = false := decide_eq_false c5
    clear c5
    obtain rfl := Option.some.inj H
    go_wp2
    go_ret
    exact ⟨ap15_, ap17_⟩
def digB : Nat → Nat → List Int
 | 0, _ => []
 | k + 1, n => if n = 0 then [] else digB k (n / 256) ++ [((n % 256 : Nat) : Int)]
def wire_Num.f (a0 : Int) : Option (ByteArray × Int) := if a0 < 0 ∨ 9007199254740992 < a0 then some ((⟨#[]⟩ : ByteArray), 3) else some (strOfNums [((digB 8 a0.toNat).length : Int)] ++ strOfNums (digB 8 a0.toNat), 0)
theorem wNumRow_set (j : Nat) (t : List Int) (v : Int) : ((List.replicate (j + 1) (Value.int .u8 0) ++ nums .u8 t).toArray).setIfInBounds j (.int .u8 v) = (List.replicate j (Value.int .u8 0) ++ nums .u8 (v :: t)).toArray := by
 rw [List.setIfInBounds_toArray, List.replicate_succ', List.append_assoc]
 congr 1
 rw [List.set_append_right _ _ (by simp)]
 simp [nums]
theorem wu8 : ∀ g : Nat, g < 9 → IntKind.u8.wrap ((8 - g : Nat) : Int) = ((8 - g : Nat) : Int) := by decide
theorem digB_len : ∀ k n, (digB k n).length ≤ k
 | 0, _ => Nat.le_refl _
 | k + 1, n => by
  unfold digB
  split
  ·exact Nat.zero_le _
  ·have := digB_len k (n / 256)
   rw [List.length_append, List.length_singleton]; omega
theorem wire_Num.calls (a0 : Int) (r1 : ByteArray) (r2 : Int) (w : World) (h : wire_Num.f a0 = some (r1, r2)) :
  Calls Tryd.prog 26 #[.int .i64 a0] w fun e w' => e = .returned (.tuple #[.string r1, .int .i64 r2]) ∧ Below w.heap.size w w' := by
 unfold wire_Num.f at h
 have HB := As_ (Below.refl w.heap.size w)
 by_cases hbad : a0 < 0 ∨ 9007199254740992 < a0
 ·rw [if_pos hbad] at h
  obtain ⟨rfl, rfl⟩ := Prod.mk.inj (Option.some.inj h)
  clear h
  by_cases h0 : a0 < 0
  all_goals
   go_enter Tryd.func26, Tryd.ntmps26
   go_wp2
   go_ret2
   exact ⟨rfl, HB.out⟩
 rw [if_neg hbad] at h
 obtain ⟨rfl, rfl⟩ := Prod.mk.inj (Option.some.inj h)
 clear h
 have h0 : ¬ a0 < 0 := fun h => hbad (.inl h)
 have h1 : ¬ 9007199254740992 < a0 := fun h => hbad (.inr h)
 obtain ⟨n0, rfl⟩ : ∃ n0 : Nat, a0 = (n0 : Int) := ⟨a0.toNat, by omega⟩
 have hn0 : n0 ≤ 9007199254740992 := by omega
 rw [Int.toNat_natCast]
 clear hbad
 go_enter Tryd.func26, Tryd.ntmps26
 go_wp2_with (first | ((with_reducible refine gate_dst (N := 4) rfl ?_); (try (refine gate_guard (by rfl) ?_; dsimp only)); refine bxE (N := 4) (cs := (List.replicate 8 (Value.int .u8 0)).toArray) (t := 79) ?_; intro gb hg w1 hbox hb; have n0_ := As_ (below_step (by repeat (first | exact HB.out | apply pw_below_drewN | apply below_drew1)) hb); have BK := As_ hbox; have GE := As_ ((by rw [hg]; exact (below_size (by repeat (first | exact HB.out | apply pw_below_drewN | apply below_drew1))) : w.heap.size ≤ gb)); clear HB; have HB := n0_; clear n0_ hb hbox hg) | fail)
 go_loopg [0, 5] 8 (fun g s0 s5 wx => ∃ (n : Nat) (t : List Int), s0 = .int .i64 n ∧ s5 = .int .i64 (g : Int) ∧ g ≤ 8 ∧ n ≤ 9007199254740992 ∧ n < 256 ^ g ∧ g + t.length = 8 ∧ Aside0 (wx.heap[gb]? = some (.cells (List.replicate g (Value.int .u8 0) ++ nums .u8 t).toArray 79 (0, 0))) ∧ Aside0 (Below w.heap.size w wx) ∧ Aside0 (digB g n ++ t = digB 8 n0))
 case atStart => exact ⟨n0, [], rfl, rfl, Nat.le_refl _, hn0, by omega, rfl, ⟨by rw [BK.out]; rfl⟩, HB, ⟨by simp⟩⟩
 case round =>
  clear BK HB
  obtain ⟨n, t, rfl, rfl, hg8, hn, hpow, htl, BK, HB, HR⟩ := hrel
  by_cases hz0 : n = 0
  ·subst hz0
   have ht : t = digB 8 n0 := by
    have := HR.out
    cases gk <;> simpa [digB] using this
   have hcells : ∀ w' : World, w'.heap[gb]? = some (.cells (List.replicate gk (Value.int .u8 0) ++ nums .u8 t).toArray 79 (0, 0)) → ∀ i, i < 8 - gk → w'.cell? ⟨gb, gk + i, none⟩ = some (.int .u8 (t.getD i 0)) := by
    intro w' h i hi
    refine (blk_cell h (gk + i)).trans ?_
    rw [List.getElem?_toArray, List.getElem?_append_right (by simp), List.length_replicate, Nat.add_sub_cancel_left]
    unfold nums
    rw [List.getElem?_map, List.getElem?_eq_getElem (by omega), List.getD_eq_getElem?_getD, List.getElem?_eq_getElem (by omega)]
    rfl
   clear hpow
   obtain ⟨p, hp⟩ : ∃ p : Nat, p = if gk = 8 then 0 else gk := ⟨_, rfl⟩
   have e28 : ∀ w : World, (Instr.sliceAt 79 (.pointer (some ⟨gb, 0, none⟩)) (some (.int .i64 (gk : Int))) none none).run Tryd.prog w = .ok (.slice (some ⟨gb, p, none⟩) (8 - gk) (8 - gk)) w := by
    intro w
    obtain ⟨i0, hi0, hzz⟩ := Option.map_eq_some_iff.1 info5
    simp only [Prod.mk.injEq] at hzz
    have hg0' : ((gk : Nat) : Int) ≤ 8 := by omega
    by_cases hl : gk = 8
    ·subst hl
     rw [if_pos rfl] at hp
     simp [go_sem, Instr.sliceAt, Instr.sureAddr, Instr.sliceBounds, run_underlying Tryd.underlying79, sizeOf, typeInfo, hi0, hzz.2.1, hp]
    ·rw [if_neg hl] at hp
     have hl2 : ¬ 8 = gk := fun e => hl e.symm
     simp [go_sem, Instr.sliceAt, Instr.sureAddr, Instr.sliceBounds, run_underlying Tryd.underlying79, sizeOf, typeInfo, hi0, hzz.2.1, hl2, hg0', hp]
   have hcells2 : ∀ w' : World, w'.heap[gb]? = some (.cells (List.replicate gk (Value.int .u8 0) ++ nums .u8 t).toArray 79 (0, 0)) → ∀ i, i < 8 - gk → w'.cell? ⟨gb, p + i, none⟩ = some (.int .u8 (t.getD i 0)) := by
    intro w' h i hi
    rw [if_neg (by omega)] at hp
    rw [hp]
    exact hcells w' h i hi
   have hw1 : IntKind.i64.wrap (8 - (gk : Int)) = ((8 - gk : Nat) : Int) := by rw [i64_w]; unfold wrap64; omega
   have hw2 : IntKind.u8.wrap ((8 - gk : Nat) : Int) = ((8 - gk : Nat) : Int) := wu8 gk (by omega)
   have hsz : ¬ 9223372036854775807 < (strOfNums [((8 - gk : Nat) : Int)]).size + (strOfNums t).size := by
    rw [strOfNums_size, strOfNums_size]
    simp; omega
   have hl8 := As_ (show 8 - gk = t.length by omega)
   replace ht := As_ ht
   clear hp hcells
   go_upto_region 9 with (fail)
   refine start_ (n := 11) (S := fun w' => w'.heap[gb]? = some (.cells (List.replicate gk (Value.int .u8 0) ++ nums .u8 t).toArray 79 (0, 0))) (ds := []) #[false, false, false, false, false, false, false, false, false, false, false] (by kernel_rfl) rfl rfl BK.out (fun hHeld => ?_)
   have HB4 := As_ (below_drew HB.out)
   clear HB BK
   generalize wr.drew = w4 at hHeld HB4 ⊢
   refine pure_ (i := 0) (N := some 22) #[true, false, false, false, false, false, false, false, false, false, false] rfl rfl (by kernel_rfl) (fun _ _ _ h => h) (Or.inl ⟨by rfl, ap1_⟩) ap16_ ?_
   refine pure_ (i := 1) (N := some 23) #[true, true, false, false, false, false, false, false, false, false, false] rfl rfl (by kernel_rfl) (fun _ _ _ h => h) (Or.inl ⟨by rfl, ap1_⟩) ap16_ ?_
   refine pure_ (i := 2) (N := some 24) #[true, true, true, false, false, false, false, false, false, false, false] rfl rfl (by kernel_rfl) (fun _ _ _ h => h) (Or.inl ⟨by rfl, ap1_⟩) ap16_ ?_
   refine pure_ (i := 5) (N := some 27) #[true, true, true, false, false, true, false, false, false, false, false] rfl rfl (by kernel_rfl) (fun _ _ _ h => h) (Or.inl ⟨by rfl, ap1_⟩) ap16_ ?_
   refine pure_ (i := 6) (N := some 28) #[true, true, true, false, false, true, true, false, false, false, false] rfl rfl (by kernel_rfl) (fun _ _ _ h => h) (Or.inl ⟨by rfl, ap1_⟩) ap16_ ?_
   refine take_ (i := 7) (N := some 29) #[true, true, true, false, false, true, true, true, false, false, false] rfl rfl (by kernel_rfl) (fun _ _ _ h => h) (Or.inl ⟨by rfl, (by rintro w' s0; have kc := run_convert_bytes_arg (P := Tryd.prog) w' 70 5 Tryd.underlying70 Tryd.underlying5 gb p (8 - gk) (8 - gk) t (by omega) (hcells2 w' s0) 9 Tryd.underlying9; go_simp; with_reducible rfl)⟩) hHeld ap16_ ?_
   refine one_ (i := 3) (N := some 25) #[true, true, true, true, false, true, true, true, false, false, false] rfl rfl (by kernel_rfl) (by decide) (fun K hK => ?_)
   refine value_ (w1 := ?_) (v := ?_) (by rfl) rfl ?_ ?_
   rotate_left 2
   ·go_simp
    constructor
    ·rfl
    ·rfl
   refine hK.out _ _ ((Below.heap_alloc _ _ _ (blk_lt hHeld)).trans hHeld) (fun hHeld => ?_)
   clear hK K
   refine norm_ (a' := ?_) ?_ ?_
   rotate_left
   ·show Act.put _ (some 25) _ = _
    simp only [Act.put, List.setIfInBounds_toArray, List.set_cons_zero, List.set_cons_succ, i64_w, i32_w]
    rfl
   have kc2 := run_convert_bytes_arg (P := Tryd.prog) (w4.alloc (.cells #[.int .u8 ((8 - gk : Nat) : Int)] 5)) 70 5 Tryd.underlying70 Tryd.underlying5 w4.heap.size 0 1 1 [((8 - gk : Nat) : Int)] rfl (fun i hi => match i, hi with | 0, _ => (blk_cell (my_alloc_new w4 _) 0).trans rfl) 9 Tryd.underlying9
   refine one_ (i := 4) (N := some 26) #[true, true, true, true, true, true, true, true, false, false, false] rfl rfl (by kernel_rfl) (by decide) (fun K hK => ?_)
   refine value_ (w1 := ?_) (v := ?_) (by rfl) rfl ?_ ?_
   rotate_left 2
   ·go_simp
    constructor
    ·rfl
    ·rfl
   refine hK.out _ _ hHeld (fun hHeld => ?_)
   clear hK K
   refine norm_ (a' := ?_) ?_ ?_
   rotate_left
   ·show Act.put _ (some 26) _ = _
    simp only [Act.put, List.setIfInBounds_toArray, List.set_cons_zero, List.set_cons_succ, i64_w, i32_w]
    rfl
   refine pure_ (i := 8) (N := some 30) #[true, true, true, true, true, true, true, true, true, false, false] rfl rfl (by kernel_rfl) (fun _ _ _ h => h) (Or.inl ⟨by rfl, ap1_⟩) ap16_ ?_
   refine pure_ (i := 9) (N := some 2) #[true, true, true, true, true, true, true, true, true, true, false] rfl rfl (by kernel_rfl) (fun _ _ _ h => h) (Or.inl ⟨by rfl, ap1_⟩) ap16_ ?_
   refine pure_ (i := 10) (N := some 3) #[true, true, true, true, true, true, true, true, true, true, true] rfl rfl (by kernel_rfl) (fun _ _ _ h => h) (Or.inl ⟨by rfl, ap1_⟩) ap16_ ?_
   refine done_ (by kernel_rfl) ?_
   have hfin := As_ (below_step HB4.out ((Below.refl _ w4).alloc (Nat.le_refl _) (.cells #[.int .u8 ((8 - gk : Nat) : Int)] 5)))
   clear hHeld HB4
   go_wp2
   go_ret2
   have e9 : strOfNums [((8 - gk : Nat) : Int)] ++ strOfNums t = strOfNums [((digB 8 n0).length : Int)] ++ strOfNums (digB 8 n0) := by rw [hl8.out, ht.out]
   refine ⟨?_, hfin.out⟩
   show Ending.returned (.tuple #[.string (strOfNums [((8 - gk : Nat) : Int)] ++ strOfNums t), .int .i64 0]) = _
   rw [e9]
  ·obtain ⟨g, rfl⟩ : ∃ g, gk = g + 1 := by
    cases gk with
    | zero => simp at hpow; omega
    | succ g => exact ⟨g, rfl⟩
   have hz := blk_frozen BK.out g
   have hcell : wr.cell? ⟨gb, g, none⟩ = some (.int .u8 0) := (blk_cell BK.out g).trans (by rw [List.getElem?_toArray, List.getElem?_append_left (by simp), List.getElem?_replicate, if_pos (by omega)])
   have hpos : (0 : Int) < (n : Int) := by omega
   go_wp2
   go_roundg g
   case measure => omega
   case rel => exact ⟨n / 256, ((n % 256 : Nat) : Int) :: t, by first | rfl | (simp; done), rfl, by omega, by omega, by rw [Nat.pow_succ] at hpow; omega, by simp; omega, ⟨blk_put BK.out g _ (by rw [Int.natCast_emod]; exact wNumRow_set g t _)⟩, ⟨below_set HB.out GE.out⟩, ⟨by rw [← HR.out, digB, if_neg hz0, List.append_assoc]; rfl⟩⟩
end Go.Proofs.YtgapkicplhbidaaDoor.PQuh
