-- written by wip/myprint.py over the kit's print; not a printed text of print.sh
import Derived.Test.YtjappgjpikbdeaaGreatDoorPTkkx0
import Derived.Test.YtjappgjpikbdeaaGreatDoorPTkkx3
import Derived.Test.YtjappgjpikbdeaaGreatDoorPTkkx5
import Derived.Test.YtjappgjpikbdeaaGreatDoorPTkkx6
namespace Go.Proofs.YtjappgjpikbdeaaGreatDoor.PTkk
open Go.RowKit Go.Proofs.YtjappgjpikbdeaaGreatDoorW.PrintWords Go.Proofs.YtjappgjpikbdeaaGreatDoorW.PrintLast Go.Proofs.YtjappgjpikbdeaaGreatDoorW.PrintMore
attribute [local go_sem] max2_int min2_int max_two min_two max_three min_three max_four min_four   -- for this text's walks alone
set_option linter.unusedVariables false
set_option linter.unusedSimpArgs false

/-! ### words: pairsA.inc -/
/-! ### the document's functions and the store's: plain -/
theorem rdP (l : List S82) (i : Nat) (h : i < l.length) : rd_T82 l (i : Int) = l[i] := by
  unfold rd_T82
  rw [Int.toNat_natCast, List.getD_eq_getElem?_getD, List.getElem?_eq_getElem h]; rfl
theorem w64p (n : Nat) (h : n < 4398046511104) : wrap64 ((n : Int) + 1) = ((n + 1 : Nat) : Int) := by
  unfold wrap64; omega
theorem setK_len (l : List S82) (key value : ByteArray) : (setK l key value).length ≤ l.length + 1 := by
  unfold setK
  split
  · rw [List.length_set]; omega
  · rw [List.length_append, List.length_cons, List.length_take, List.length_drop]; omega
theorem delK_len (l : List S82) (key : ByteArray) : (delK l key).length ≤ l.length := by
  unfold delK
  split
  · rw [List.length_append, List.length_take, List.length_drop]; omega
  · exact Nat.le_refl _
theorem StoreIs.below {base g : Nat} {v : Value} {l : List S82} {w w' : World} (h : StoreIs base g v l w) (hb : Below w.heap.size w w') : StoreIs base g v l w' := ⟨h.1, h.2.1, blk_below h.2.2.1 hb, own_below h.2.2.2 hb⟩
theorem StoreIs.glt {base g : Nat} {v : Value} {l : List S82} {w : World} (h : StoreIs base g v l w) : g < w.heap.size := blk_lt h.2.2.1
theorem StoreIs.vlt {base g : Nat} {v : Value} {l : List S82} {w : World} (h : StoreIs base g v l w) (k : Nat) (hk : v.ownBlock = some k) : k < w.heap.size := (h.2.2.2.lt k hk).2
/-- A row that lies elsewhere than a store's two blocks. -/
def ByP (g : Nat) (v : Value) (w : World) (xv : Value) (l : List S82) : Prop := Kd.V k82 82 w 0 (fun k => k ≠ g ∧ some k ≠ v.ownBlock) xv l
theorem ByP.store {g : Nat} {v v' : Value} {w w' : World} {xv : Value} {l : List S82} (hx : ByP g v w xv l) (hw : StoreW g v w w') (hv : v'.ownBlock = v.ownBlock ∨ ∃ b, v'.ownBlock = some b ∧ w.heap.size ≤ b) : ByP g v' w' xv l := by
  have h2 := Kd.V_step (Kd.V_bound hx) (fun k hk hlt => hw.block k hlt hk.1.1 hk.1.2)
  refine Kd.V_mono h2 (fun k hk => ⟨hk.1.1, ?_⟩)
  rcases hv with hv | ⟨b, hv, hle⟩
  · rw [hv]; exact hk.1.2
  · rw [hv]; intro e; injection e with e; have := hk.2; omega
theorem ByP.below {g : Nat} {v : Value} {w w' : World} {xv : Value} {l : List S82} (hx : ByP g v w xv l) (hb : Below w.heap.size w w') : ByP g v w' xv l := Kd.V_below hx hb
theorem ByP.fresh {base g n : Nat} {v : Value} {w w2 : World} {yv : Value} {l r : List S82} (h : StoreIs base g v l w) (hle : w.heap.size ≤ n) (hr : Kd.R k82 82 w2 n (fun _ => True) yv r) : ByP g v w2 yv r :=
  Kd.R_V (Kd.R_mono (Kd.R_bound hr) (fun k hk => ⟨by have := h.glt; have := hk.2.1; omega, fun e => by have := h.vlt k e.symm; have := hk.2.1; omega⟩))
theorem StoreIs.other {b' g' base g : Nat} {u v : Value} {m l : List S82} {w w' : World} (h : StoreIs b' g' u m w) (hs : StoreIs base g v l w) (hw : StoreW g v w w') (h1 : g' ≠ g) (h2 : u.ownBlock = none ∨ u.ownBlock ≠ v.ownBlock) : StoreIs b' g' u m w' := by
  refine ⟨h.1, h.2.1, (hw.block g' h.glt h1 (own_ne hs.2.2.2 h.2.2.1 (by decide))).trans h.2.2.1, ?_⟩
  refine ⟨h.2.2.2.1, ?_⟩
  rcases h.2.2.2.2 with hn | ⟨gr, cap, cur, rfl, hb, hgg, rest⟩
  · exact .inl hn
  · refine .inr ⟨gr, cap, cur, rfl, hb, (hw.block gr (blk_lt hgg) (blk_ne hgg hs.2.2.1 (by decide)) ?_).trans hgg, rest⟩
    have e : (Value.slice (some ⟨gr, 0, none⟩) m.length cap).ownBlock = some gr := rfl
    rw [e] at h2
    rcases h2 with h2 | h2
    · exact absurd h2 (by simp)
    · exact h2
theorem StoreW.toBelow {n base g : Nat} {v : Value} {l : List S82} {w w1 w2 : World} (hb : Below n w w1) (hn : n ≤ w1.heap.size) (hs : StoreIs base g v l w1) (hbase : n ≤ base) (hw : StoreW g v w1 w2) : Below n w w2 :=
  hb.trans ⟨hw.os, hw.tape, hw.output, hw.size, fun i hi => hw.block i (Nat.lt_of_lt_of_le hi hn) (by have := hs.1; omega) (fun e => by have := (hs.2.2.2.lt i e.symm).1; omega)⟩

/-! ### words: journal.inc -/
/-! ### a journal: its store and its levels -/
structure JSt where
  cur : List S82
  lv : List (List S128)
def encU (l : List S128) : List Value := l.flatMap (fun p => [.string p.f0, .string p.f1, .bool p.f2])
theorem encU_len (l : List S128) : (encU l).length = l.length * 3 := by
  unfold encU
  rw [List.length_flatMap]
  induction l with
  | nil => rfl
  | cons a t ih => simp only [List.map_cons, List.sum_cons, List.length_cons, List.length_nil] at ih ⊢; omega
theorem encU_append (l m : List S128) : encU (l ++ m) = encU l ++ encU m := by unfold encU; rw [List.flatMap_append]
theorem encU_one (l : List S128) : ∀ v ∈ encU l, v.oneCell' = true := by
  intro v hv
  unfold encU at hv
  obtain ⟨p, _, hp⟩ := List.mem_flatMap.1 hv
  simp only [List.mem_cons, List.not_mem_nil, or_false] at hp
  rcases hp with rfl | rfl | rfl <;> rfl
/-- The levels: the outer row lvv, whose cells are the inner rows vs; no two inner rows share a block; all blocks are ok. -/
structure LvIs (base : Nat) (ok : Nat → Prop) (lvv : Value) (vs : List Value) (L : List (List S128)) (w : World) : Prop where
  len : vs.length = L.length
  ok0 : ∀ k, lvv.ownBlock = some k → ok k
  own : w.ownsRow base 126 1 lvv L.length vs
  row : ∀ (i : Nat) v l, vs[i]? = some v → L[i]? = some l → w.ownsRow base 128 3 v l.length (encU l)
  oks : ∀ (i : Nat) v k, vs[i]? = some v → v.ownBlock = some k → ok k
  dis : ∀ (i j : Nat) a b k, i ≠ j → vs[i]? = some a → vs[j]? = some b → a.ownBlock = some k → b.ownBlock ≠ some k
theorem LvIs.mono {base : Nat} {ok ok' : Nat → Prop} {lvv : Value} {vs : List Value} {L : List (List S128)} {w : World} (h : LvIs base ok lvv vs L w) (hk : ∀ k, ok k → ok' k) : LvIs base ok' lvv vs L w :=
  ⟨h.len, fun k e => hk k (h.ok0 k e), h.own, h.row, fun i v k e1 e2 => hk k (h.oks i v k e1 e2), h.dis⟩
theorem LvIs.get {base : Nat} {ok : Nat → Prop} {lvv : Value} {vs : List Value} {L : List (List S128)} {w : World} (h : LvIs base ok lvv vs L w) {i : Nat} {v : Value} (e : vs[i]? = some v) : ∃ l, L[i]? = some l ∧ w.ownsRow base 128 3 v l.length (encU l) := by
  have hi : i < L.length := by rw [← h.len]; exact (List.getElem?_eq_some_iff.1 e).1
  exact ⟨L[i], List.getElem?_eq_getElem hi, h.row i v _ e (List.getElem?_eq_getElem hi)⟩
/-- Any mover that leaves the blocks that are used. -/
theorem LvIs.step {base : Nat} {ok : Nat → Prop} {lvv : Value} {vs : List Value} {L : List (List S128)} {w w1 : World} (h : LvIs base ok lvv vs L w)
    (hm : ∀ k, ok k → base ≤ k → k < w.heap.size → (∃ cells, w.heap[k]? = some (.cells cells 126 (0, 0)) ∨ w.heap[k]? = some (.cells cells 128 (0, 0))) → w1.heap[k]? = w.heap[k]?) : LvIs base ok lvv vs L w1 := by
  refine ⟨h.len, h.ok0, own_move h.own (fun k hk => ?_), fun i v l e1 e2 => own_move (h.row i v l e1 e2) (fun k hk => ?_), h.oks, h.dis⟩
  · obtain ⟨cells, hc⟩ := own_typed h.own k hk
    exact hm k (h.ok0 k hk) (own_base h.own k hk) (own_lt h.own k hk) ⟨cells, .inl hc⟩
  · obtain ⟨cells, hc⟩ := own_typed (h.row i v l e1 e2) k hk
    exact hm k (h.oks i v k e1 hk) (own_base (h.row i v l e1 e2) k hk) (own_lt (h.row i v l e1 e2) k hk) ⟨cells, .inr hc⟩
theorem LvIs.below {base : Nat} {ok : Nat → Prop} {lvv : Value} {vs : List Value} {L : List (List S128)} {w w1 : World} (h : LvIs base ok lvv vs L w) (hb : Below w.heap.size w w1) : LvIs base ok lvv vs L w1 := h.step (fun k _ _ hk _ => hb.block k hk)
/-- What is ok may be what is used alone. -/
theorem LvIs.bound {base : Nat} {ok : Nat → Prop} {lvv : Value} {vs : List Value} {L : List (List S128)} {w : World} (h : LvIs base ok lvv vs L w) : LvIs base (fun k => ok k ∧ base ≤ k ∧ k < w.heap.size ∧ ∃ q, q ∈ [126, 128] ∧ ∃ cells, w.heap[k]? = some (.cells cells q (0, 0))) lvv vs L w := by
  refine ⟨h.len, fun k hk => ?_, h.own, h.row, fun i v k e hk => ?_, h.dis⟩
  · obtain ⟨cells, hc⟩ := own_typed h.own k hk
    exact ⟨h.ok0 k hk, own_base h.own k hk, own_lt h.own k hk, _, List.mem_cons_self, cells, hc⟩
  · obtain ⟨l, e2, hr⟩ := h.get e
    obtain ⟨cells, hc⟩ := own_typed hr k hk
    exact ⟨h.oks i v k e hk, own_base hr k hk, own_lt hr k hk, _, List.mem_cons_of_mem _ List.mem_cons_self, cells, hc⟩
/-- A level more behind the outer row's append. -/
theorem LvIs.snoc {base : Nat} {ok ok' : Nat → Prop} {lvv lvv' v : Value} {vs : List Value} {L : List (List S128)} {l : List S128} {w w1 : World} (h : LvIs base ok lvv vs L w) (hk : ∀ k, ok k → ok' k) (hn : ∀ k, w.heap.size ≤ k → ok' k)
    (hown : w1.ownsRow base 126 1 lvv' (L.length + 1) (vs ++ [v])) (hg : w.grownBy w1 lvv.ownBlock) (hat : lvv'.ownBlock = lvv.ownBlock ∨ ∃ b, lvv'.ownBlock = some b ∧ w.heap.size ≤ b)
    (hv : w.ownsRow base 128 3 v l.length (encU l)) (hvk : ∀ k, v.ownBlock = some k → ok' k) (hvd : ∀ k, v.ownBlock = some k → ∀ (i : Nat) a, vs[i]? = some a → a.ownBlock ≠ some k) : LvIs base ok' lvv' (vs ++ [v]) (L ++ [l]) w1 := by
  have hmv : ∀ (u : Value) (m : List S128), w.ownsRow base 128 3 u m.length (encU m) → w1.ownsRow base 128 3 u m.length (encU m) := by
    intro u m hu
    refine own_move hu (fun k hk => hg.block k (own_lt hu k hk) (fun e => ?_))
    obtain ⟨c1, h1⟩ := own_typed hu k hk
    obtain ⟨c2, h2⟩ := own_typed h.own k e.symm
    rw [h1] at h2
    injection h2 with h2
    injection h2 with _ h2
    exact absurd h2 (by decide)
  have hcase : ∀ (i : Nat) u, (vs ++ [v])[i]? = some u → (i < vs.length ∧ vs[i]? = some u) ∨ (i = vs.length ∧ u = v) := by
    intro i u e
    by_cases hi : i < vs.length
    · rw [List.getElem?_append_left hi] at e; exact .inl ⟨hi, e⟩
    · rw [List.getElem?_append_right (by omega)] at e
      have hi2 : i - vs.length = 0 := by
        have := (List.getElem?_eq_some_iff.1 e).1
        simp at this; omega
      rw [hi2] at e
      exact .inr ⟨by omega, by simpa using e.symm⟩
  refine ⟨by simp [h.len], fun k e => ?_, by rw [List.length_append]; exact hown, fun i u m e1 e2 => ?_, fun i u k e1 e2 => ?_, fun i j a b k hij e1 e2 e3 e4 => ?_⟩
  · rcases hat with hat | ⟨b, hb, hle⟩
    · exact hk k (h.ok0 k (hat ▸ e))
    · rw [hb] at e; injection e with e; exact hn k (by omega)
  · rcases hcase i u e1 with ⟨hi, e⟩ | ⟨hi, rfl⟩
    · rw [List.getElem?_append_left (by rw [← h.len]; exact hi)] at e2
      exact hmv u m (h.row i u m e e2)
    · rw [hi, h.len, List.getElem?_append_right (Nat.le_refl _), Nat.sub_self] at e2
      have e3 : l = m := by simpa using e2
      subst e3
      exact hmv u l hv
  · rcases hcase i u e1 with ⟨hi, e⟩ | ⟨hi, rfl⟩
    · exact hk k (h.oks i u k e e2)
    · exact hvk k e2
  · rcases hcase i a e1 with ⟨hi, ea⟩ | ⟨hi, rfl⟩
    · rcases hcase j b e2 with ⟨hj, eb⟩ | ⟨hj, rfl⟩
      · exact h.dis i j a b k hij ea eb e3 e4
      · exact hvd k e4 i a ea e3
    · rcases hcase j b e2 with ⟨hj, eb⟩ | ⟨hj, rfl⟩
      · exact hvd k e3 j b eb e4
      · omega
/-- An inner row has been written (row i, by an append), and the outer row's cell i is the new one. -/
theorem LvIs.put {base : Nat} {ok ok' : Nat → Prop} {b c : Nat} {v v' : Value} {vs : List Value} {L : List (List S128)} {l' : List S128} {w w1 : World} {i : Nat} (h : LvIs base ok (.slice (some ⟨b, 0, none⟩) L.length c) vs L w) (hk : ∀ k, ok k → ok' k) (hn : ∀ k, w.heap.size ≤ k → ok' k)
    (hi : vs[i]? = some v) (hr : w1.ownsRow base 128 3 v' l'.length (encU l')) (hg : w.grownBy w1 v.ownBlock) (hat : v'.ownBlock = v.ownBlock ∨ ∃ b, v'.ownBlock = some b ∧ w.heap.size ≤ b) (h1 : v'.oneCell' = true) :
    LvIs base ok' (.slice (some ⟨b, 0, none⟩) L.length c) (vs.set i v') (L.set i l') (w1.setCell ⟨b, i, none⟩ v') := by
  obtain ⟨l, el, hl⟩ := h.get hi
  have hil : i < vs.length := (List.getElem?_eq_some_iff.1 hi).1
  have hbo : (Value.slice (some ⟨b, 0, none⟩) L.length c).ownBlock = some b := rfl
  obtain ⟨cb, hcb⟩ := own_typed h.own b hbo
  have hblt := own_lt h.own b hbo
  have hvb : v.ownBlock ≠ some b := by
    intro e
    obtain ⟨c1, h1⟩ := own_typed hl b e
    rw [h1] at hcb
    injection hcb with h2
    injection h2 with _ h2
    exact absurd h2 (by decide)
  have hv'b : v'.ownBlock ≠ some b := by
    rcases hat with hat | ⟨b', hb, hle⟩
    · rw [hat]; exact hvb
    · rw [hb]; intro e; injection e with e; omega
  have hb1 : w1.heap[b]? = w.heap[b]? := hg.block b hblt (fun e => hvb e.symm)
  have hown1 : w1.ownsRow base 126 1 (.slice (some ⟨b, 0, none⟩) L.length c) L.length vs := own_move h.own (fun k e => by rw [hbo] at e; injection e with e; rw [← e]; exact hb1)
  have hset : (w1.setCell ⟨b, i, none⟩ v').ownsRow base 126 1 (.slice (some ⟨b, 0, none⟩) L.length c) L.length (vs.set i v') := by
    rcases hown1.2 with ⟨e, _⟩ | ⟨b2, cap, cur, e, hbb, hgg, hnn, hmm, hss, hxx⟩
    · cases e
    · injection e with e1 e2 e3
      injection e1 with e1
      injection e1 with e1
      subst e1; subst e3
      have e1 := setCell_eq_setRow w1 b i cur _ _ v' hgg
      have r5 := setRow_heap w1 b cur (cur.setIfInBounds i v') _ _ hgg
      rw [e1]
      refine ⟨by rw [List.length_set]; exact hown1.1, .inr ⟨b, c, _, rfl, hbb, r5, hnn, hmm, by rw [Array.size_setIfInBounds, hss], ?_⟩⟩
      rw [Array.toList_setIfInBounds, List.take_set, hxx]
  have hfar : ∀ k, k ≠ b → (w1.setCell ⟨b, i, none⟩ v').heap[k]? = w1.heap[k]? := fun k hk => Below.heap_setCell w1 ⟨b, i, none⟩ v' k hk
  refine ⟨by simp [h.len], fun k e => hk k (h.ok0 k e), by rw [List.length_set]; exact hset, fun j u m e1 e2 => ?_, fun j u k e1 e2 => ?_, fun j j2 x y k hjj e1 e2 e3 e4 => ?_⟩
  · by_cases hji : j = i
    · subst hji
      rw [List.getElem?_set_self hil] at e1
      rw [List.getElem?_set_self (by rw [← h.len]; exact hil)] at e2
      injection e1 with e1; injection e2 with e2
      subst e1; subst e2
      exact own_move hr (fun k e => hfar k (fun e2 => hv'b (by rw [e, e2])))
    · rw [List.getElem?_set_ne (Ne.symm hji)] at e1 e2
      have hu := h.row j u m e1 e2
      refine own_move hu (fun k e => ?_)
      obtain ⟨c1, h1⟩ := own_typed hu k e
      have hkb : k ≠ b := by
        rintro rfl
        rw [h1] at hcb
        injection hcb with h2
        injection h2 with _ h2
        exact absurd h2 (by decide)
      rw [hfar k hkb]
      exact hg.block k (own_lt hu k e) (fun e2 => h.dis j i u v k hji e1 hi e e2.symm)
  · by_cases hji : j = i
    · subst hji
      rw [List.getElem?_set_self hil] at e1
      injection e1 with e1; subst e1
      rcases hat with hat | ⟨b', hb, hle⟩
      · exact hk k (h.oks j v k hi (hat ▸ e2))
      · rw [hb] at e2; injection e2 with e2; exact hn k (by omega)
    · rw [List.getElem?_set_ne (Ne.symm hji)] at e1
      exact hk k (h.oks j u k e1 e2)
  · have key : ∀ (j : Nat) x k, j ≠ i → vs[j]? = some x → x.ownBlock = some k → v'.ownBlock ≠ some k := by
      intro j x k hji e1 e2 e3
      rcases hat with hat | ⟨b', hb, hle⟩
      · exact h.dis j i x v k hji e1 hi e2 (hat ▸ e3)
      · obtain ⟨m, _, hm⟩ := h.get e1
        have := own_lt hm k e2
        rw [hb] at e3; injection e3 with e3; omega
    by_cases hji : j = i
    · subst hji
      rw [List.getElem?_set_self hil] at e1
      injection e1 with e1; subst e1
      rw [List.getElem?_set_ne hjj] at e2
      exact key j2 y k (Ne.symm hjj) e2 e4 e3
    · rw [List.getElem?_set_ne (Ne.symm hji)] at e1
      by_cases hj2 : j2 = i
      · subst hj2
        rw [List.getElem?_set_self hil] at e2
        injection e2 with e2; subst e2
        exact key j x k hji e1 e3 e4
      · rw [List.getElem?_set_ne (Ne.symm hj2)] at e2
        exact h.dis j j2 x y k hjj e1 e2 e3 e4
/-- The outer row cut. -/
theorem LvIs.cut {base : Nat} {ok : Nat → Prop} {A : Option Addr} {n c m : Nat} {vs : List Value} {L : List (List S128)} {w : World} (h : LvIs base ok (.slice A n c) vs L w) (hm : m ≤ L.length) : LvIs base ok (.slice A m c) (vs.take m) (L.take m) w := by
  have hn : n = L.length := by
    obtain ⟨A', c', e, _⟩ := row_slice h.own
    injection e with _ e
  subst hn
  have hob : (Value.slice A m c).ownBlock = (Value.slice A L.length c).ownBlock := by cases A <;> rfl
  have ht : ∀ {α : Type} (l : List α) (i : Nat) x, (l.take m)[i]? = some x → l[i]? = some x := by
    intro α l i x e
    rw [List.getElem?_take] at e
    split at e
    · exact e
    · cases e
  refine ⟨by rw [List.length_take, List.length_take, h.len], fun k e => h.ok0 k (hob ▸ e), ?_, fun i v l e1 e2 => h.row i v l (ht _ _ _ e1) (ht _ _ _ e2), fun i v k e1 e2 => h.oks i v k (ht _ _ _ e1) e2, fun i j a b k hij e1 e2 => h.dis i j a b k hij (ht _ _ _ e1) (ht _ _ _ e2)⟩
  have h2 := own_take h.own (m := m) hm
  rw [List.length_take, Nat.min_eq_left hm]
  simpa using h2
/-- A journal: its variable's block g, its store's block gs and row sv, its levels' row lvv and rows vs; all blocks from base on, and ok. -/
structure JX (base : Nat) (ok : Nat → Prop) (g gs : Nat) (sv lvv : Value) (vs : List Value) (st : JSt) (w : World) : Prop where
  okg : ok g
  oks : ok gs
  okv : ∀ k, sv.ownBlock = some k → ok k
  ge : base ≤ g
  blk : w.heap[g]? = some (.cells #[.pointer (some ⟨gs, 0, none⟩), lvv] 86 (0, 0))
  store : StoreIs base gs sv st.cur w
  lv : LvIs base ok lvv vs st.lv w
def JM (base : Nat) (ok : Nat → Prop) (g : Nat) (st : JSt) (w : World) : Prop := ∃ gs sv lvv vs, JX base ok g gs sv lvv vs st w
/-- What a journal's call turns: blocks that are ok. -/
structure JW (ok : Nat → Prop) (w w' : World) : Prop where
  os : w'.os = w.os
  tape : w'.tape = w.tape
  output : w'.output = w.output
  size : w.heap.size ≤ w'.heap.size
  block : ∀ i, i < w.heap.size → ¬ ok i → w'.heap[i]? = w.heap[i]?
theorem JW.of_below {ok : Nat → Prop} {w w' : World} (h : Below w.heap.size w w') : JW ok w w' := ⟨h.os, h.tape, h.output, h.size, fun i hi _ => h.block i hi⟩
theorem JW.of_grown {ok : Nat → Prop} {row : Option Nat} {w w' : World} (h : w.grownBy w' row) (hk : ∀ k, row = some k → ok k) : JW ok w w' := ⟨h.os, h.tape, h.output, h.size, fun i hi hn => h.block i hi (fun e => hn (hk i e.symm))⟩
theorem JW.of_store {ok : Nat → Prop} {gs : Nat} {sv : Value} {w w' : World} (h : StoreW gs sv w w') (h1 : ok gs) (h2 : ∀ k, sv.ownBlock = some k → ok k) : JW ok w w' := ⟨h.os, h.tape, h.output, h.size, fun i hi hn => h.block i hi (fun e => hn (e ▸ h1)) (fun e => hn (h2 i e.symm))⟩
theorem JW.set {ok : Nat → Prop} {w : World} {b : Nat} (h : ok b) (j : Nat) (v : Value) : JW ok w (w.setCell ⟨b, j, none⟩ v) := ⟨rfl, rfl, rfl, by simp [World.setCell], fun i _ hn => Below.heap_setCell w ⟨b, j, none⟩ v i (fun e => hn (by rw [e]; exact h))⟩
theorem JW.trans {ok ok' : Nat → Prop} {w w1 w2 : World} (h : JW ok w w1) (k : JW ok' w1 w2) (hk : ∀ i, ok' i → ok i ∨ w.heap.size ≤ i) : JW ok w w2 :=
  ⟨k.os.trans h.os, k.tape.trans h.tape, k.output.trans h.output, Nat.le_trans h.size k.size, fun i hi hn => (k.block i (Nat.lt_of_lt_of_le hi h.size) (fun e => (hk i e).elim hn (fun e => by omega))).trans (h.block i hi hn)⟩
theorem JW.weaken {ok ok' : Nat → Prop} {w w' : World} (h : JW ok w w') (hk : ∀ k, ok k → ok' k) : JW ok' w w' := ⟨h.os, h.tape, h.output, h.size, fun i hi hn => h.block i hi (fun e => hn (hk i e))⟩
theorem JW.toBelow {n : Nat} {ok : Nat → Prop} {w w1 w2 : World} (hb : Below n w w1) (hn : n ≤ w1.heap.size) (hw : JW ok w1 w2) (hk : ∀ k, ok k → n ≤ k) : Below n w w2 :=
  hb.trans ⟨hw.os, hw.tape, hw.output, hw.size, fun i hi => hw.block i (Nat.lt_of_lt_of_le hi hn) (fun e => by have := hk i e; omega)⟩
theorem JX.step {base : Nat} {ok : Nat → Prop} {g gs : Nat} {sv lvv : Value} {vs : List Value} {st : JSt} {w w1 : World} (h : JX base ok g gs sv lvv vs st w) (hb : Below w.heap.size w w1) : JX base ok g gs sv lvv vs st w1 :=
  ⟨h.okg, h.oks, h.okv, h.ge, blk_below h.blk hb, StoreIs.below h.store hb, h.lv.below hb⟩
theorem JX.mono {base : Nat} {ok ok' : Nat → Prop} {g gs : Nat} {sv lvv : Value} {vs : List Value} {st : JSt} {w : World} (h : JX base ok g gs sv lvv vs st w) (hk : ∀ k, ok k → ok' k) : JX base ok' g gs sv lvv vs st w :=
  ⟨hk _ h.okg, hk _ h.oks, fun k e => hk k (h.okv k e), h.ge, h.blk, h.store, h.lv.mono hk⟩
theorem JM.below {base : Nat} {ok : Nat → Prop} {g : Nat} {st : JSt} {w w1 : World} (h : JM base ok g st w) (hb : Below w.heap.size w w1) : JM base ok g st w1 := by
  obtain ⟨gs, sv, lvv, vs, h⟩ := h
  exact ⟨gs, sv, lvv, vs, h.step hb⟩
theorem JM.mono {base : Nat} {ok ok' : Nat → Prop} {g : Nat} {st : JSt} {w : World} (h : JM base ok g st w) (hk : ∀ k, ok k → ok' k) : JM base ok' g st w := by
  obtain ⟨gs, sv, lvv, vs, h⟩ := h
  exact ⟨gs, sv, lvv, vs, h.mono hk⟩
theorem blk_ty {w : World} {a : Nat} {c d : Array Value} {t u : TypeId} {x y : Nat × Nat} (h1 : w.heap[a]? = some (.cells c t x)) (h2 : w.heap[a]? = some (.cells d u y)) : t = u := by
  rw [h1] at h2
  injection h2 with h2
  injection h2 with _ h2
/-- The store has been turned. -/
theorem JX.stored {base : Nat} {ok : Nat → Prop} {g gs : Nat} {sv lvv sv' : Value} {vs : List Value} {st : JSt} {l' : List S82} {w w1 : World} (h : JX base ok g gs sv lvv vs st w) (hs : StoreIs base gs sv' l' w1) (hw : StoreW gs sv w w1) (hat : sv'.ownBlock = sv.ownBlock ∨ ∃ b, sv'.ownBlock = some b ∧ w.heap.size ≤ b) :
    JX base (fun k => ok k ∨ w.heap.size ≤ k) g gs sv' lvv vs { st with cur := l' } w1 := by
  obtain ⟨c0, hc0⟩ : ∃ c, w.heap[gs]? = some (.cells c 118 (0, 0)) := ⟨_, h.store.2.2.1⟩
  have hsv : ∀ k, sv.ownBlock = some k → ∃ c, w.heap[k]? = some (.cells c 82 (0, 0)) := fun k e => own_typed h.store.2.2.2 k e
  refine ⟨.inl h.okg, .inl h.oks, fun k e => ?_, h.ge, ?_, hs, (h.lv.step (fun k _ _ hlt ht => ?_)).mono (fun k hk => .inl hk)⟩
  · rcases hat with hat | ⟨b, hb, hle⟩
    · exact .inl (h.okv k (hat ▸ e))
    · rw [hb] at e; injection e with e; exact .inr (by omega)
  · refine (hw.block g (blk_lt h.blk) (fun e => ?_) (fun e => ?_)).trans h.blk
    · rw [← e] at hc0; exact absurd (blk_ty h.blk hc0) (by decide)
    · obtain ⟨c, hc⟩ := hsv g e.symm
      exact absurd (blk_ty h.blk hc) (by decide)
  · obtain ⟨cells, ht | ht⟩ := ht
    all_goals
      refine hw.block k hlt (fun e => ?_) (fun e => ?_)
      · rw [← e] at hc0; exact absurd (blk_ty ht hc0) (by decide)
      · obtain ⟨c, hc⟩ := hsv k e.symm
        exact absurd (blk_ty ht hc) (by decide)
/-- What is ok may be what is used alone, and of a journal's types. -/
def JT : List Nat := [86, 118, 82, 126, 128]
theorem JX.bound {base : Nat} {ok : Nat → Prop} {g gs : Nat} {sv lvv : Value} {vs : List Value} {st : JSt} {w : World} (h : JX base ok g gs sv lvv vs st w) : JX base (fun k => ok k ∧ base ≤ k ∧ k < w.heap.size ∧ ∃ q, q ∈ JT ∧ ∃ cells, w.heap[k]? = some (.cells cells q (0, 0))) g gs sv lvv vs st w := by
  refine ⟨⟨h.okg, h.ge, blk_lt h.blk, _, by simp [JT], _, h.blk⟩, ⟨h.oks, h.store.1, blk_lt h.store.2.2.1, _, by simp [JT], _, h.store.2.2.1⟩, fun k e => ?_, h.ge, h.blk, h.store, h.lv.bound.mono (fun k hk => ?_)⟩
  · obtain ⟨cells, hc⟩ := own_typed h.store.2.2.2 k e
    exact ⟨h.okv k e, own_base h.store.2.2.2 k e, own_lt h.store.2.2.2 k e, _, by simp [JT], cells, hc⟩
  · obtain ⟨h1, h2, h3, q, hq, hc⟩ := hk
    refine ⟨h1, h2, h3, q, ?_, hc⟩
    simp only [List.mem_cons, List.not_mem_nil, or_false] at hq
    rcases hq with rfl | rfl <;> simp [JT]
theorem JM.bound {base : Nat} {ok : Nat → Prop} {g : Nat} {st : JSt} {w : World} (h : JM base ok g st w) : JM base (fun k => ok k ∧ base ≤ k ∧ k < w.heap.size ∧ ∃ q, q ∈ JT ∧ ∃ cells, w.heap[k]? = some (.cells cells q (0, 0))) g st w := by
  obtain ⟨gs, sv, lvv, vs, h⟩ := h
  exact ⟨gs, sv, lvv, vs, h.bound⟩
/-- What a journal's call leaves. -/
def JPost (base : Nat) (ok : Nat → Prop) (g : Nat) (st' : JSt) (r : Value) (w : World) (e : Ending) (w' : World) : Prop := e = .returned r ∧ JM base (fun k => ok k ∨ w.heap.size ≤ k) g st' w' ∧ JW ok w w'
/-- The levels' variable has been written. -/
theorem JX.setLv {base : Nat} {ok : Nat → Prop} {g gs : Nat} {sv lvv lvv0 : Value} {vs : List Value} {cur : List S82} {L : List (List S128)} {w : World}
    (h : ok g ∧ ok gs ∧ (∀ k, sv.ownBlock = some k → ok k) ∧ base ≤ g ∧ w.heap[g]? = some (.cells #[.pointer (some ⟨gs, 0, none⟩), lvv0] 86 (0, 0)) ∧ StoreIs base gs sv cur w ∧ LvIs base ok lvv vs L w) :
    JX base ok g gs sv lvv vs ⟨cur, L⟩ (w.setCell ⟨g, 1, none⟩ lvv) := by
  obtain ⟨h1, h2, h3, h4, hb, hs, hl⟩ := h
  have hfar : ∀ k, k ≠ g → (w.setCell ⟨g, 1, none⟩ lvv).heap[k]? = w.heap[k]? := fun k hk => Below.heap_setCell w ⟨g, 1, none⟩ lvv k hk
  refine ⟨h1, h2, h3, h4, blk_put hb 1 _ rfl, ⟨hs.1, hs.2.1, (hfar gs (fun e => ?_)).trans hs.2.2.1, own_move hs.2.2.2 (fun k e => hfar k (fun e2 => ?_))⟩, hl.step (fun k _ _ _ ht => hfar k (fun e2 => ?_))⟩
  · rw [← e] at hb; exact absurd (blk_ty hs.2.2.1 hb) (by decide)
  · obtain ⟨cs, hc⟩ := own_typed hs.2.2.2 k e
    rw [← e2] at hb; exact absurd (blk_ty hc hb) (by decide)
  · rw [← e2] at hb
    obtain ⟨cells, ht | ht⟩ := ht
    all_goals exact absurd (blk_ty ht hb) (by decide)
theorem exec_append {P : Program} {o : Oper} {a : Act} {w : World} (d x : Operand) (dT sT : TypeId) (hop : o.op = Op.call { callee := Callee.builtin Builtin.append, args := #[d, x], argTypes := #[dT, sT] }) (v u : Value) (hd : a.eval d = v) (hx : a.eval x = u) {v' : Value} {w' : World} (hr : (Builtin.append_ #[dT, sT] o.type #[v, u]).run P w = .ok v' w') :
    (execOp a.eval o).run P w = .ok (.value v') w' := by
  unfold execOp
  simp only [hop, resolve, invoke, builtin, Sem.run_bind, Sem.run_pure, Result.andThen_ok, List.map_toArray, List.map_cons, List.map_nil, hd, hx, hr]
/-- The inner row i has been written by an append, and the outer row's cell. -/
theorem JX.putLv {base : Nat} {ok : Nat → Prop} {g gs b c i : Nat} {sv v v' : Value} {vs : List Value} {st : JSt} {l' : List S128} {w w1 : World} (h : JX base ok g gs sv (.slice (some ⟨b, 0, none⟩) st.lv.length c) vs st w)
    (hi : vs[i]? = some v) (hr : w1.ownsRow base 128 3 v' l'.length (encU l')) (hg : w.grownBy w1 v.ownBlock) (hat : v'.ownBlock = v.ownBlock ∨ ∃ b, v'.ownBlock = some b ∧ w.heap.size ≤ b) (h1 : v'.oneCell' = true) :
    JX base (fun k => ok k ∨ w.heap.size ≤ k) g gs sv (.slice (some ⟨b, 0, none⟩) st.lv.length c) (vs.set i v') ⟨st.cur, st.lv.set i l'⟩ (w1.setCell ⟨b, i, none⟩ v') := by
  obtain ⟨l, el, hl⟩ := h.lv.get hi
  obtain ⟨cb, hcb⟩ := own_typed h.lv.own b rfl
  have hmv : ∀ (k : Nat) (cells : Array Value) (q : TypeId), w.heap[k]? = some (.cells cells q (0, 0)) → q ≠ 128 → q ≠ 126 → (w1.setCell ⟨b, i, none⟩ v').heap[k]? = w.heap[k]? := by
    intro k cells q hk h1 h2
    refine (Below.heap_setCell w1 ⟨b, i, none⟩ v' k (fun e => ?_)).trans (hg.block k (blk_lt hk) (fun e => ?_))
    · have e : k = b := e
      subst e; exact h2 (blk_ty hk hcb)
    · obtain ⟨cs, hc⟩ := own_typed hl k e.symm
      exact h1 (blk_ty hk hc)
  refine ⟨.inl h.okg, .inl h.oks, fun k e => .inl (h.okv k e), h.ge, (hmv g _ _ h.blk (by decide) (by decide)).trans h.blk, ⟨h.store.1, h.store.2.1, (hmv gs _ _ h.store.2.2.1 (by decide) (by decide)).trans h.store.2.2.1, own_move h.store.2.2.2 (fun k e => ?_)⟩, ?_⟩
  · obtain ⟨cs, hc⟩ := own_typed h.store.2.2.2 k e
    exact hmv k _ _ hc (by decide) (by decide)
  · show LvIs base _ _ _ (st.lv.set i l') _
    have := h.lv.put (ok' := fun k => ok k ∨ w.heap.size ≤ k) (fun k hk => .inl hk) (fun k hk => .inr hk) hi hr hg hat h1
    exact this
theorem JX.move {base : Nat} {ok : Nat → Prop} {g gs : Nat} {sv lvv : Value} {vs : List Value} {st : JSt} {w w1 : World} (h : JX base ok g gs sv lvv vs st w) (hm : ∀ (k : Nat) (cells : Array Value) (q : TypeId), ok k → w.heap[k]? = some (.cells cells q (0, 0)) → w1.heap[k]? = w.heap[k]?) : JX base ok g gs sv lvv vs st w1 := by
  refine ⟨h.okg, h.oks, h.okv, h.ge, (hm g _ _ h.okg h.blk).trans h.blk, ⟨h.store.1, h.store.2.1, (hm gs _ _ h.oks h.store.2.2.1).trans h.store.2.2.1, own_move h.store.2.2.2 (fun k e => ?_)⟩, h.lv.step (fun k hk _ _ ht => ?_)⟩
  · obtain ⟨c, hc⟩ := own_typed h.store.2.2.2 k e
    exact hm k _ _ (h.okv k e) hc
  · obtain ⟨cells, ht | ht⟩ := ht
    all_goals exact hm k _ _ hk ht
theorem JM.move {base : Nat} {ok : Nat → Prop} {g : Nat} {st : JSt} {w w1 : World} (h : JM base ok g st w) (hm : ∀ (k : Nat) (cells : Array Value) (q : TypeId), ok k → w.heap[k]? = some (.cells cells q (0, 0)) → w1.heap[k]? = w.heap[k]?) : JM base ok g st w1 := by
  obtain ⟨gs, sv, lvv, vs, h⟩ := h
  exact ⟨gs, sv, lvv, vs, h.move hm⟩
/-- What is no cells has been written. -/
theorem JM.grownN {base : Nat} {ok : Nat → Prop} {g : Nat} {st : JSt} {w w1 : World} {row : Option Nat} (h : JM base ok g st w) (hg : w.grownBy w1 row) (hr : ∀ r, row = some r → ∃ o : Obj, w.heap[r]? = some o ∧ o.isCells = false) : JM base ok g st w1 :=
  h.move (fun k cells q _ hc => hg.block k (blk_lt hc) (fun e => by
    obtain ⟨o, ho, hn⟩ := hr k e.symm
    rw [hc] at ho
    cases ho
    cases hn))
theorem jm_own {β : Type} (B base : Nat) (ok : Nat → Prop) (g : Nat) (f : β → JSt) : OwnFrom B (fun s W => JM base ok g (f s) W) := fun s X Y row hs hg hr => hs.grownN hg (fun r e => (hr r e).2)
theorem jw_own {β : Type} (B : Nat) (ok : Nat → Prop) (w : World) (hB : w.heap.size ≤ B) : OwnFrom B (fun (_ : β) W => JW ok w W) := fun _ X Y row hs hg hr =>
  hs.trans (JW.of_grown (ok := fun k => B ≤ k) hg (fun k e => (hr k e).1)) (fun k hk => .inr (Nat.le_trans hB hk))
theorem JW.others {ok : Nat → Prop} {w w' : World} (h : JW ok w w') (hk : ∀ k, ok k → k < w.heap.size → ∃ cells q, w.heap[k]? = some (.cells cells q (0, 0))) : KeepsOthers w w' :=
  ⟨h.size, fun k o ho hc => by
    have hlt := (Array.getElem?_eq_some_iff.1 ho).1
    refine (h.block k hlt (fun e => ?_)).trans ho
    obtain ⟨cells, q, hc2⟩ := hk k e hlt
    rw [hc2] at ho
    cases ho
    cases hc⟩
/-- A block that is none of the journal's is not ok any more. -/
theorem JX.without {base : Nat} {ok : Nat → Prop} {g gs : Nat} {sv lvv v : Value} {vs : List Value} {st : JSt} {w : World} (h : JX base ok g gs sv lvv vs st w) (hv : ∀ k, v.ownBlock = some k → ∃ cells, w.heap[k]? = some (.cells cells 128 (0, 0)))
    (hd : ∀ (j : Nat) a k, vs[j]? = some a → v.ownBlock = some k → a.ownBlock ≠ some k) : JX base (fun k => ok k ∧ some k ≠ v.ownBlock) g gs sv lvv vs st w := by
  have key : ∀ (k : Nat) (cells : Array Value) (q : TypeId), w.heap[k]? = some (.cells cells q (0, 0)) → q ≠ 128 → some k ≠ v.ownBlock := by
    intro k cells q hk hq e
    obtain ⟨c2, hc2⟩ := hv k e.symm
    exact hq (blk_ty hk hc2)
  refine ⟨⟨h.okg, key g _ _ h.blk (by decide)⟩, ⟨h.oks, key gs _ _ h.store.2.2.1 (by decide)⟩, fun k e => ⟨h.okv k e, ?_⟩, h.ge, h.blk, h.store, ⟨h.lv.len, fun k e => ⟨h.lv.ok0 k e, ?_⟩, h.lv.own, h.lv.row, fun i a k e1 e2 => ⟨h.lv.oks i a k e1 e2, fun e => hd i a k e1 e.symm e2⟩, h.lv.dis⟩⟩
  · obtain ⟨c, hc⟩ := own_typed h.store.2.2.2 k e
    exact key k _ _ hc (by decide)
  · obtain ⟨c, hc⟩ := own_typed h.lv.own k e
    exact key k _ _ hc (by decide)

end Go.Proofs.YtjappgjpikbdeaaGreatDoor.PTkk
