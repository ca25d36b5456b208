-- written by wip/myprint.py over the kit's print; not a printed text of print.sh
import Derived.Test.YtonipkgekhdogaaGreatDoorPBasx0
namespace Go.Proofs.YtonipkgekhdogaaGreatDoor.PBas
open Go.RowKit Go.Proofs.YtonipkgekhdogaaGreatDoorW.PrintWords Go.Proofs.YtonipkgekhdogaaGreatDoorW.PrintLast Go.Proofs.YtonipkgekhdogaaGreatDoorW.PrintMore
attribute [local go_sem] max2_int min2_int max_two min_two max_three min_three max_four min_four   -- for this text's walks alone
set_option linter.unusedVariables false
set_option linter.unusedSimpArgs false

/-! ### words: pairs.inc -/
/-! ### pairs by rising keys: plain -/
theorem bl_irr : ∀ x : List UInt8, Op.bytesLess x x = false
  | [] => rfl
  | a :: x => by
    have h : ¬ a < a := fun h => absurd (UInt8.lt_iff_toNat_lt.1 h) (Nat.lt_irrefl _)
    simp [Op.bytesLess, bl_irr x, h]
theorem bl_trans : ∀ x y z : List UInt8, Op.bytesLess x y = true → Op.bytesLess y z = true → Op.bytesLess x z = true
  | _, [], _, h, _ => by cases ‹List UInt8› <;> simp [Op.bytesLess] at h
  | _, _ :: _, [], _, h => by simp [Op.bytesLess] at h
  | [], _ :: _, _ :: _, _, _ => rfl
  | a :: x, b :: y, c :: z, h1, h2 => by
    simp only [Op.bytesLess, Bool.or_eq_true, decide_eq_true_eq, Bool.and_eq_true, beq_iff_eq] at h1 h2 ⊢
    rcases h1 with h1 | ⟨rfl, h1⟩
    · rcases h2 with h2 | ⟨rfl, h2⟩
      · exact .inl (UInt8.lt_iff_toNat_lt.2 (Nat.lt_trans (UInt8.lt_iff_toNat_lt.1 h1) (UInt8.lt_iff_toNat_lt.1 h2)))
      · exact .inl h1
    · rcases h2 with h2 | ⟨rfl, h2⟩
      · exact .inl h2
      · exact .inr ⟨rfl, bl_trans x y z h1 h2⟩
theorem bl_total : ∀ x y : List UInt8, Op.bytesLess x y = false → Op.bytesLess y x = false → x = y
  | [], [], _, _ => rfl
  | [], _ :: _, h, _ => by simp [Op.bytesLess] at h
  | _ :: _, [], _, h => by simp [Op.bytesLess] at h
  | a :: x, b :: y, h1, h2 => by
    simp only [Op.bytesLess, Bool.or_eq_false_iff, decide_eq_false_iff_not, Bool.and_eq_false_iff] at h1 h2
    have hab : a = b := UInt8.toNat_inj.1 (by
      have g1 : ¬ a.toNat < b.toNat := fun h => h1.1 (UInt8.lt_iff_toNat_lt.2 h)
      have g2 : ¬ b.toNat < a.toNat := fun h => h2.1 (UInt8.lt_iff_toNat_lt.2 h)
      omega)
    subst hab
    have e1 : Op.bytesLess x y = false := h1.2.elim (fun h => absurd h (by simp)) id
    have e2 : Op.bytesLess y x = false := h2.2.elim (fun h => absurd h (by simp)) id
    rw [bl_total x y e1 e2]
def kLt (a b : ByteArray) : Bool := Op.bytesLess a.toList b.toList
theorem kLt_irr (a : ByteArray) : kLt a a = false := bl_irr _
theorem kLt_trans {a b c : ByteArray} (h : kLt a b = true) (k : kLt b c = true) : kLt a c = true := bl_trans _ _ _ h k
theorem kLt_total {a b : ByteArray} (h : kLt a b = false) (k : kLt b a = false) : a = b := ba_ext (bl_total _ _ h k)
def sortK (l : List S73) : Prop := l.Pairwise (fun a b => kLt a.f0 b.f0 = true)
def posK (l : List S73) (key : ByteArray) : Nat := l.countP (fun p => kLt p.f0 key)
theorem posK_le (l : List S73) (key : ByteArray) : posK l key ≤ l.length := List.countP_le_length
theorem posK_none (l : List S73) (key : ByteArray) (h : ∀ p ∈ l, kLt p.f0 key = false) : posK l key = 0 := by
  unfold posK
  rw [List.countP_eq_zero]
  intro p hp e
  rw [h p hp] at e
  exact absurd e (by simp)
theorem posK_spec : ∀ (l : List S73) (key : ByteArray), sortK l → ∀ (i : Nat) (hi : i < l.length), kLt l[i].f0 key = decide (i < posK l key)
  | [], _, _, i, hi => absurd hi (Nat.not_lt_zero _)
  | a :: t, key, hs, i, hi => by
    obtain ⟨h1, h2⟩ := List.pairwise_cons.1 hs
    cases ha : kLt a.f0 key with
    | true =>
      have e : posK (a :: t) key = posK t key + 1 := by unfold posK; rw [List.countP_cons_of_pos (by exact ha)]
      cases i with
      | zero => rw [e, decide_eq_true (by omega)]; exact ha
      | succ i =>
        have ih := posK_spec t key h2 i (by simpa using hi)
        rw [List.getElem_cons_succ, ih, e]
        by_cases hlt : i < posK t key
        · rw [decide_eq_true hlt, decide_eq_true (by omega)]
        · rw [decide_eq_false hlt, decide_eq_false (by omega)]
    | false =>
      have hall : ∀ p ∈ a :: t, kLt p.f0 key = false := by
        intro p hp
        rcases List.mem_cons.1 hp with hp | hp
        · rw [hp]; exact ha
        · cases hk : kLt p.f0 key with
          | false => rfl
          | true => rw [kLt_trans (h1 p hp) hk] at ha; exact absurd ha (by simp)
      rw [posK_none _ key hall, decide_eq_false (Nat.not_lt_zero _)]
      exact hall _ (List.getElem_mem hi)
def hasK (l : List S73) (key : ByteArray) : Bool := match l[posK l key]? with
  | some p => p.f0.toList == key.toList
  | none => false
theorem hasK_lt {l : List S73} {key : ByteArray} (h : hasK l key = true) : ∃ hp : posK l key < l.length, l[posK l key].f0 = key := by
  unfold hasK at h
  by_cases hp : posK l key < l.length
  · rw [List.getElem?_eq_getElem hp] at h
    exact ⟨hp, ba_ext (beq_iff_eq.1 h)⟩
  · rw [List.getElem?_eq_none (by omega)] at h; exact absurd h (by simp)
theorem hasK_no {l : List S73} {key : ByteArray} (h : hasK l key = false) (hp : posK l key < l.length) : l[posK l key].f0.toList ≠ key.toList := by
  unfold hasK at h
  rw [List.getElem?_eq_getElem hp] at h
  exact beq_eq_false_iff_ne.1 h
def getK (l : List S73) (key : ByteArray) : ByteArray × Bool := if hasK l key = true then ((rd_T73 l (posK l key : Int)).f1, true) else (⟨#[]⟩, false)
def setK (l : List S73) (key value : ByteArray) : List S73 := if hasK l key = true then l.set (posK l key) ⟨key, value⟩ else l.take (posK l key) ++ ⟨key, value⟩ :: l.drop (posK l key)
def delK (l : List S73) (key : ByteArray) : List S73 := if hasK l key = true then l.take (posK l key) ++ l.drop (posK l key + 1) else l
def allK (l : List S73) (p : ByteArray) : List S73 := (l.drop (posK l p)).takeWhile (fun x => p.toList.isPrefixOf x.f0.toList)
theorem sortK_del {l : List S73} (h : sortK l) (key : ByteArray) : sortK (delK l key) := by
  unfold delK
  split
  · refine List.Pairwise.sublist ?_ h
    have e : l.take (posK l key) ++ l.drop (posK l key) = l := List.take_append_drop _ _
    conv => rhs; rw [← e]
    refine List.Sublist.append (List.Sublist.refl _) ?_
    rw [← List.drop_drop]
    exact List.drop_sublist _ _
  · exact h
theorem sortK_set {l : List S73} (h : sortK l) (key value : ByteArray) : sortK (setK l key value) := by
  unfold setK
  cases hh : hasK l key with
  | true =>
    obtain ⟨hp, hk⟩ := hasK_lt hh
    rw [if_pos rfl]
    have hm : (l.set (posK l key) ⟨key, value⟩).map (·.f0) = l.map (·.f0) := by
      rw [List.map_set]
      apply List.ext_getElem?
      intro i
      rw [List.getElem?_set]
      split
      · rename_i e
        subst e
        rw [List.length_map, if_pos hp, List.getElem?_map, List.getElem?_eq_getElem hp, Option.map_some, hk]
      · rfl
    have h1 : (l.map (·.f0)).Pairwise (fun a b => kLt a b = true) := List.pairwise_map.2 h
    rw [← hm] at h1
    exact List.pairwise_map.1 h1
  | false =>
    rw [if_neg (by simp)]
    have hlt : ∀ p ∈ l.take (posK l key), kLt p.f0 key = true := by
      intro p hp
      obtain ⟨i, hi, rfl⟩ := List.mem_iff_getElem.1 hp
      rw [List.length_take] at hi
      rw [List.getElem_take, posK_spec l key h i (by omega)]
      exact decide_eq_true (by omega)
    have hge : ∀ p ∈ l.drop (posK l key), kLt key p.f0 = true := by
      intro p hp
      obtain ⟨i, hi, rfl⟩ := List.mem_iff_getElem.1 hp
      rw [List.length_drop] at hi
      rw [List.getElem_drop]
      have h1 := posK_spec l key h (posK l key + i) (by omega)
      rw [decide_eq_false (by omega)] at h1
      cases hk : kLt key l[posK l key + i].f0 with
      | true => rfl
      | false =>
        have he := kLt_total hk h1
        exfalso
        by_cases h0 : i = 0
        · subst h0
          exact hasK_no hh (by omega) (by simp only [Nat.add_zero] at he; rw [← he])
        · have h2 := List.pairwise_iff_getElem.1 h (posK l key) (posK l key + i) (by omega) (by omega) (by omega)
          rw [← he] at h2
          have h3 := posK_spec l key h (posK l key) (by omega)
          rw [decide_eq_false (Nat.lt_irrefl _), h2] at h3
          exact absurd h3 (by simp)
    refine List.pairwise_append.2 ⟨List.Pairwise.sublist (List.take_sublist _ _) h, List.pairwise_cons.2 ⟨fun p hp => hge p hp, List.Pairwise.sublist (List.drop_sublist _ _) h⟩, ?_⟩
    intro a ha b hb
    rcases List.mem_cons.1 hb with hb | hb
    · rw [hb]; exact hlt a ha
    · exact kLt_trans (hlt a ha) (hge b hb)

/-! ### words: gb.inc -/
theorem gb_set (w : World) (g k : Nat) (v : Value) : w.grownBy (w.setCell ⟨g, k, none⟩ v) (some g) := ⟨rfl, rfl, rfl, by simp [World.setCell], fun i _ hi => Below.heap_setCell w ⟨g, k, none⟩ v i (fun e => hi (by rw [e]))⟩
theorem gb_below {w w' : World} {g : Nat} (h : Below w.heap.size w w') : w.grownBy w' (some g) := ⟨h.os, h.tape, h.output, h.size, fun i hi _ => h.block i hi⟩
theorem gb_drewN (w : World) (g n : Nat) : w.grownBy (w.drewN n) (some g) := gb_below (by repeat (first | exact Below.refl _ _ | apply pw_below_drewN | apply below_drew1))
theorem gb_step {w w' : World} {g : Nat} (h : w.grownBy w' (some g)) (b k : Nat) (v : Value) (hb : w.heap.size ≤ b) : w.grownBy (w'.setCell ⟨b, k, none⟩ v) (some g) := ⟨h.os, h.tape, h.output, Nat.le_trans h.size (gb_set w' b k v).size, fun i hi hne => (Below.heap_setCell w' ⟨b, k, none⟩ v i (by intro e; have e : i = b := e; omega)).trans (h.block i hi hne)⟩

/-! ### words: store.inc -/
/-! ### rows of the call's own whose elements have k cells: copies, appends and clears in them -/
theorem splice_nil {α : Type} (L : List α) (o : Nat) : splice L o [] = L := by simp [splice]
theorem setRow_as {g : Nat} {t : TypeId} : ∀ (vs : List Value) (o : Nat) (w : World) (cur : Array Value), w.heap[g]? = some (.cells cur t (0, 0)) → o + vs.length ≤ cur.size → w.setCells g o vs = w.setRow g (splice cur.toList o vs).toArray
  | [], o, w, cur, hg, _ => by rw [splice_nil, Array.toArray_toList, setRow_self w g cur t (0, 0) hg]; rfl
  | v :: r, o, w, cur, hg, hl => by
    rw [List.length_cons] at hl
    have h1 := setCell_eq_setRow w g o cur t (0, 0) v hg
    have h2 := setRow_heap w g cur (cur.setIfInBounds o v) t _ hg
    have ih := setRow_as r (o + 1) (w.setRow g (cur.setIfInBounds o v)) (cur.setIfInBounds o v) h2 (by simp; omega)
    show (w.setCell ⟨g, o, none⟩ v).setCells g (o + 1) r = _
    rw [h1, ih, setRow_setRow]
    congr 2
    have e := list_seg_step cur.toList o v r (by simp; omega)
    simpa [splice, Array.toList_setIfInBounds] using e
theorem run_copy_k {P : Program} (w : World) (dT sT ty elem : TypeId) (g o dLen dCap k : Nat) (a : Addr) (sLen sCap : Nat) (cur : Array Value) (t : TypeId) (cs : List Value)
    (hu : P.underlying dT = some (.slice elem)) (hs : (P.info? elem).map (·.size) = some k)
    (hg : w.heap[g]? = some (.cells cur t (0, 0))) (hn : cs.length = Nat.min sLen dLen * k)
    (hsrc : ∀ j v, cs[j]? = some v → w.cell? (a.add j) = some v) (hfit : o + cs.length ≤ cur.size) (h1 : ∀ v ∈ cs, v.oneCell' = true) :
    (Builtin.copy_ #[dT, sT] ty #[.slice (some ⟨g, o, none⟩) dLen dCap, .slice (some a) sLen sCap]).run P w =
      .ok (goInt (Nat.min sLen dLen)) (w.setRow g (splice cur.toList o cs).toArray) := by
  have hl := run_loadCells_list (P := P) w a cs hsrc
  have hst := run_storeCells_at P g o t cs 0 cur w hg (by simpa using hfit) h1
  obtain ⟨i, hq, hi⟩ := Option.map_eq_some_iff.1 hs
  have e : (cur.toList.take (o + 0) ++ cs ++ cur.toList.drop (o + 0 + cs.length)).toArray = (splice cur.toList o cs).toArray := by simp [splice]
  rw [e] at hst
  simp [Builtin.copy_, run_underlying hu, Builtin.lenOf, Builtin.firstCells, sizeOf, typeInfo, hq, hi, ← hn, hl, hst]
theorem run_copy_0 {P : Program} (w : World) (dT sT ty elem : TypeId) (d a : Option Addr) (dLen dCap sLen sCap k : Nat) (hu : P.underlying dT = some (.slice elem)) (hs : (P.info? elem).map (·.size) = some k) (hn : Nat.min sLen dLen = 0) :
    (Builtin.copy_ #[dT, sT] ty #[.slice d dLen dCap, .slice a sLen sCap]).run P w = .ok (goInt 0) w := by
  obtain ⟨i, hq, hi⟩ := Option.map_eq_some_iff.1 hs
  cases d <;> cases a <;> simp [Builtin.copy_, run_underlying hu, Builtin.lenOf, Builtin.firstCells, sizeOf, typeInfo, hq, hn, storeCells, loadCells, loadCellsFrom]
theorem cell_isSome {w : World} {g : Nat} {cur : Array Value} {t : TypeId} (hg : w.heap[g]? = some (.cells cur t (0, 0))) {j : Nat} (hj : j < cur.size) : (w.cell? ⟨g, j, none⟩).isSome = true := by
  rw [(blk_cell hg j).trans (Array.getElem?_eq_getElem hj)]; rfl
theorem run_append_k {P : Program} (w : World) (t tx ty e : TypeId) (i : TypeInfo) (ht : P.underlying t = some (.slice e)) (hi : P.info? e = some i) (g sLen sCap : Nat) (cur : Array Value) (te : TypeId) (hg : w.heap[g]? = some (.cells cur te (0, 0))) (x : Value) (n : Nat) (news : List Value) (hs : Src P i.size tx x n news w)
    (hroom : sLen + n ≤ sCap) (hfit : sLen * i.size + news.length ≤ cur.size) :
    (Builtin.append_ #[t, tx] ty #[.slice (some ⟨g, 0, none⟩) sLen sCap, x]).run P w = .ok (.slice (some ⟨g, 0, none⟩) (sLen + n) sCap) (w.setRow g (splice cur.toList (sLen * i.size) news).toArray) := by
  have h := run_append_room_src (P := P) (w := w) t tx ty e i ht hi g 0 sLen sCap x n news hs hroom (fun j hj => cell_isSome hg (by omega)) (fun j hj => blk_frozen hg _)
  rw [Nat.zero_add, setRow_as news _ w cur hg hfit] at h
  exact h
theorem zeroCells_len (z : Array Value) (n : Nat) : (Builtin.zeroCells z n).size = n * z.size := by simp [Builtin.zeroCells]
theorem zeroCells_one (z : Array Value) (n : Nat) (h1 : ∀ v ∈ z.toList, v.oneCell' = true) : ∀ v ∈ (Builtin.zeroCells z n).toList, v.oneCell' = true := by
  intro v hv
  simp only [Builtin.zeroCells, Array.toList_map, List.mem_map] at hv
  obtain ⟨i, hi, rfl⟩ := hv
  have hi2 : i < n * z.size := by simpa using hi
  have hz : 0 < z.size := Nat.pos_of_ne_zero (fun e => by rw [e] at hi2; simp at hi2)
  have hlt : i % z.size < z.size := Nat.mod_lt _ hz
  rw [getElem!_pos z _ hlt]
  exact h1 _ (by simp)
theorem run_clear_k {P : Program} (w : World) (t e ty : TypeId) (z : Value) (ht : P.underlying t = some (.slice e)) (hv : ∀ w, (zeroValue e).run P w = .ok z w) (h1 : ∀ v ∈ z.cells.toList, v.oneCell' = true) (g o n c : Nat) (hn : 0 < n) (cur : Array Value) (te : TypeId) (hg : w.heap[g]? = some (.cells cur te (0, 0)))
    (hfit : o + n * z.cells.size ≤ cur.size) :
    (Builtin.clear_ #[t] ty #[.slice (some ⟨g, o, none⟩) n c]).run P w = .ok (.tuple #[]) (w.setRow g (splice cur.toList o (Builtin.zeroCells z.cells n).toList).toArray) := by
  have hst := run_storeCells_at P g o te (Builtin.zeroCells z.cells n).toList 0 cur w hg (by simp [zeroCells_len]; omega) (zeroCells_one _ _ h1)
  have e2 : (cur.toList.take (o + 0) ++ (Builtin.zeroCells z.cells n).toList ++ cur.toList.drop (o + 0 + (Builtin.zeroCells z.cells n).toList.length)).toArray = (splice cur.toList o (Builtin.zeroCells z.cells n).toList).toArray := by simp [splice]
  rw [e2] at hst
  obtain ⟨m, rfl⟩ : ∃ m, n = m + 1 := ⟨n - 1, by omega⟩
  simp [Builtin.clear_, run_underlying ht, hv, hst]
theorem gb_setRow (w : World) (g : Nat) (cs : Array Value) : w.grownBy (w.setRow g cs) (some g) := ⟨rfl, rfl, rfl, by simp [World.setRow], fun i _ hi => setRow_other w g i cs (fun e => hi (by rw [e]))⟩
theorem step_append_k {P : Program} {ops : Array Oper} {o : Oper} {a : Act} {w : World} {K : Act → World → Prop} {Q : Exit → Act → World → Prop} {E : Prop}
    (hg : o.guard = none) (d x : Operand) (dT sT : TypeId) (hop : o.op = Op.call { callee := Callee.builtin Builtin.append, args := #[d, x], argTypes := #[dT, sT] })
    (v u : Value) (hd : a.eval d = v) (hx : a.eval x = u) {v' : Value} {w' : World} (hr : (Builtin.append_ #[dT, sT] o.type #[v, u]).run P w = .ok v' w') (hK : K (a.put o.dst v') w') :
    if Region.wanted o (yielded ops a.tmps) = true then Oper.wp P o a w K Q else E := by
  have hw : Region.wanted o (yielded ops a.tmps) = true := by simp [Region.wanted, hg]
  rw [if_pos hw]
  unfold Oper.wp execOp
  simp only [hop, resolve, invoke, builtin, Sem.run_bind, Sem.run_pure, Result.andThen_ok, List.map_toArray, List.map_cons, List.map_nil, hd, hx, hr]
  exact hK

end Go.Proofs.YtonipkgekhdogaaGreatDoor.PBas
