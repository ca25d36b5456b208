-- written by wip/myprint.py over the kit's print; not a printed text of print.sh
import Derived.Test.YtfjneffmgmcdaaaPParx0
import Derived.Test.YtfjneffmgmcdaaaPParx2
import Derived.Test.YtfjneffmgmcdaaaPParx3
import Derived.Test.YtfjneffmgmcdaaaPParx4
import Derived.Test.YtfjneffmgmcdaaaPParx5
import Derived.Test.YtfjneffmgmcdaaaPParx6
import Derived.Test.YtfjneffmgmcdaaaPParx7
import Derived.Test.YtfjneffmgmcdaaaPParx8
import Derived.Test.YtfjneffmgmcdaaaPParx9
namespace Go.Proofs.Ytfjneffmgmcdaaa.PPar
open Go.RowKit Go.Proofs.YtfjneffmgmcdaaaW.PrintWords Go.Proofs.YtfjneffmgmcdaaaW.PrintLast Go.Proofs.YtfjneffmgmcdaaaW.PrintMore
attribute [local go_sem] max2_int min2_int max_two min_two max_three min_three max_four min_four   -- for this text's walks alone
set_option linter.unusedVariables false
set_option linter.unusedSimpArgs false

/-! ### footbridgelaw09_do: function 42 -/
/-! ### the document's functions and the store's: plain -/
theorem rdP (l : List S102) (i : Nat) (h : i < l.length) : rd_T102 l (i : Int) = l[i] := by
  unfold rd_T102
  rw [Int.toNat_natCast, List.getD_eq_getElem?_getD, List.getElem?_eq_getElem h]; rfl
theorem w64p (n : Nat) (h : n < 4398046511104) : wrap64 ((n : Int) + 1) = ((n + 1 : Nat) : Int) := by
  unfold wrap64; omega
theorem at_l0 (l : List S102) (key : ByteArray) (hs : sortK l) (hl : l.length ≤ 1000000000) : ∀ m j k, l.length - j = m → j ≤ posK l key → m < k → footbridgeref09_at.l0 k l key (j : Int) = some ((posK l key : Nat) : Int) := by
  have hp := posK_le l key
  intro m
  induction m with
  | zero =>
    intro j k h1 h2 h3
    obtain ⟨k, rfl⟩ : ∃ k', k = k' + 1 := ⟨k - 1, by omega⟩
    obtain rfl : j = posK l key := by omega
    rw [footbridgeref09_at.l0, if_neg (by omega)]
  | succ m ih =>
    intro j k h1 h2 h3
    obtain ⟨k, rfl⟩ : ∃ k', k = k' + 1 := ⟨k - 1, by omega⟩
    have hj : j < l.length := by omega
    rw [footbridgeref09_at.l0, if_pos (by omega), if_pos (by omega), rdP l j hj]
    have hsp := posK_spec l key hs j hj
    by_cases hlt : j < posK l key
    · rw [decide_eq_true hlt] at hsp
      unfold kLt at hsp
      rw [if_pos hsp, w64p j (by omega)]
      exact ih (j + 1) k (by omega) (by omega) (by omega)
    · rw [decide_eq_false hlt] at hsp
      obtain rfl : j = posK l key := by omega
      rw [if_neg (by intro h; unfold kLt at hsp; rw [h] at hsp; exact absurd hsp (by simp))]
theorem at_f (l : List S102) (key : ByteArray) (k : Nat) (hs : sortK l) (hl : l.length ≤ 1000000000) (hk : l.length < k) : footbridgeref09_at.f k l key = some ((posK l key : Nat) : Int) := at_l0 l key hs hl l.length 0 k (by omega) (by omega) hk
theorem hasK_cases (l : List S102) (key : ByteArray) : (∃ hp : posK l key < l.length, hasK l key = (l[posK l key].f0.toList == key.toList)) ∨ (posK l key = l.length ∧ hasK l key = false) := by
  have hp := posK_le l key
  by_cases h : posK l key < l.length
  · refine .inl ⟨h, ?_⟩
    unfold hasK
    rw [List.getElem?_eq_getElem h]
  · refine .inr ⟨by omega, ?_⟩
    unfold hasK
    rw [List.getElem?_eq_none (by omega)]
theorem get_f (l : List S102) (key : ByteArray) (k : Nat) (hs : sortK l) (hl : l.length ≤ 1000000000) (hk : l.length < k) : footbridgeref09_Get.f k l key = some (getK l key) := by
  unfold footbridgeref09_Get.f getK
  rw [at_f l key k hs hl hk, Option.bind_some]
  rcases hasK_cases l key with ⟨hp, hh⟩ | ⟨hp, hh⟩
  · rw [if_pos (by omega), if_pos (by omega), hh]
    rw [rdP l _ hp]
    by_cases he : l[posK l key].f0.toList = key.toList
    · rw [if_pos he, if_pos (beq_iff_eq.2 he)]
    · rw [if_neg he, if_neg (by rw [beq_eq_false_iff_ne.2 he]; simp)]
  · rw [if_neg (by omega), hh, if_neg (by simp)]
theorem set_f (l : List S102) (key value : ByteArray) (k : Nat) (hs : sortK l) (hl : l.length ≤ 1000000000) (hk : l.length < k) : footbridgeref09_Set.f k l key value = some (setK l key value, !hasK l key) := by
  unfold footbridgeref09_Set.f setK
  rw [at_f l key k hs hl hk, Option.bind_some]
  have hd : ∀ i, (l.drop i).length ≤ 1000000000 := fun i => by rw [List.length_drop]; omega
  have ht : ∀ i, (l.take i).length ≤ 1000000000 := fun i => by rw [List.length_take]; omega
  rcases hasK_cases l key with ⟨hp, hh⟩ | ⟨hp, hh⟩
  · rw [if_neg (by omega), if_pos (by omega), if_pos (by omega), if_pos (by omega), Option.bind_some, rdP l _ hp, Int.toNat_natCast]
    have h1 := ht (posK l key)
    have h2 := hd (posK l key)
    have h3 := hd (posK l key + 1)
    by_cases he : l[posK l key].f0.toList = key.toList
    · have hk1 : l[posK l key].f0 = key := ba_ext he
      rw [if_neg (not_not_intro he), w64p _ (by omega), if_pos (by omega), if_pos (by omega), Int.toNat_natCast, Option.bind_some, Option.bind_some, List.nil_append, if_pos (by simp only [List.length_nil]; omega), Option.bind_some, if_pos (by omega), Option.bind_some, if_pos (by rw [List.length_append]; simp only [List.length_cons, List.length_nil]; omega)]
      rw [hh, if_pos (beq_iff_eq.2 he), beq_iff_eq.2 he, bne, beq_iff_eq.2 he]
      congr 2
      rw [List.set_eq_take_append_cons_drop, if_pos hp, List.append_assoc]; rfl
    · rw [if_pos he, Option.bind_some, List.nil_append, if_pos (by simp only [List.length_nil]; omega), Option.bind_some, if_pos (by omega), Option.bind_some, if_pos (by rw [List.length_append]; simp only [List.length_cons, List.length_nil]; omega)]
      rw [hh, if_neg (by rw [beq_eq_false_iff_ne.2 he]; simp), bne, beq_eq_false_iff_ne.2 he, List.append_assoc]
      rfl
  · have h1 := ht (posK l key)
    have h2 := hd (posK l key)
    rw [if_pos (by omega), if_pos (by omega), if_pos (by omega), Option.bind_some, Option.bind_some, Int.toNat_natCast, List.nil_append, if_pos (by simp only [List.length_nil]; omega), Option.bind_some, if_pos (by omega), Option.bind_some, if_pos (by rw [List.length_append]; simp only [List.length_cons, List.length_nil]; omega)]
    rw [hh, if_neg (by simp), List.append_assoc]
    rfl
theorem del_f (l : List S102) (key : ByteArray) (k : Nat) (hs : sortK l) (hl : l.length ≤ 1000000000) (hk : l.length < k) : footbridgeref09_Del.f k l key = some (delK l key, hasK l key) := by
  unfold footbridgeref09_Del.f delK
  rw [at_f l key k hs hl hk, Option.bind_some]
  have hd : ∀ i, (l.drop i).length ≤ 1000000000 := fun i => by rw [List.length_drop]; omega
  have ht : ∀ i, (l.take i).length ≤ 1000000000 := fun i => by rw [List.length_take]; omega
  rcases hasK_cases l key with ⟨hp, hh⟩ | ⟨hp, hh⟩
  · have h1 := ht (posK l key)
    have h3 := hd (posK l key + 1)
    rw [if_neg (by omega), if_pos (by omega), if_pos (by omega), rdP l _ hp]
    by_cases he : l[posK l key].f0.toList = key.toList
    · rw [if_pos he, if_pos (by omega), Option.bind_some, Int.toNat_natCast, List.nil_append, if_pos (by simp only [List.length_nil]; omega), Option.bind_some, w64p _ (by omega), if_pos (by omega), if_pos (by omega), Int.toNat_natCast, Option.bind_some, if_pos (by omega)]
      rw [hh, beq_iff_eq.2 he, if_pos rfl]
    · rw [if_neg he, hh, beq_eq_false_iff_ne.2 he, if_neg (by simp)]
  · rw [if_pos (by omega), hh, if_neg (by simp)]
theorem hasPre_of (x p : ByteArray) : p.toList.isPrefixOf x.toList = (decide (p.size ≤ x.size) && ((x.extract 0 p.size).toList == p.toList)) := by
  have hla : x.toList.length = x.size := by rw [ByteArray.toList_eq]; rfl
  have hlb : p.toList.length = p.size := by rw [ByteArray.toList_eq]; rfl
  rw [isPrefixOf_take, hla, hlb, ba_extract, List.drop_zero]
theorem all_l0 (l : List S102) (p : ByteArray) (hl : l.length ≤ 1000000000) : ∀ m j k acc, l.length - j = m → m < k → acc.length ≤ j → footbridgeref09_All.l0 k l p acc (j : Int) = some (acc ++ (l.drop j).filter (fun x => p.toList.isPrefixOf x.f0.toList)) := by
  intro m
  induction m with
  | zero =>
    intro j k acc h1 h2 h3
    obtain ⟨k, rfl⟩ : ∃ k', k = k' + 1 := ⟨k - 1, by omega⟩
    rw [footbridgeref09_All.l0, if_neg (by omega), List.drop_eq_nil_of_le (by omega), List.filter_nil, List.append_nil]
  | succ m ih =>
    intro j k acc h1 h2 h3
    obtain ⟨k, rfl⟩ : ∃ k', k = k' + 1 := ⟨k - 1, by omega⟩
    have hj : j < l.length := by omega
    rw [footbridgeref09_All.l0, if_pos (by omega), if_pos (by omega), rdP l j hj, w64p j (by omega), List.drop_eq_getElem_cons hj, List.filter_cons, hasPre_of]
    by_cases hsz : p.size ≤ l[j].f0.size
    · rw [if_pos (by omega), if_pos (by omega), if_pos (by omega), Int.toNat_natCast, decide_eq_true hsz, Bool.true_and]
      by_cases he : (l[j].f0.extract 0 p.size).toList = p.toList
      · rw [if_pos he, if_pos (by omega), ih (j + 1) k _ (by omega) (by omega) (by rw [List.length_append, List.length_singleton]; omega), if_pos (beq_iff_eq.2 he), List.append_assoc]
        rfl
      · rw [if_neg he, ih (j + 1) k _ (by omega) (by omega) (by omega), if_neg (by rw [beq_eq_false_iff_ne.2 he]; simp)]
    · rw [if_neg (by omega), ih (j + 1) k _ (by omega) (by omega) (by omega), decide_eq_false hsz, Bool.false_and, if_neg (by simp)]
theorem pre_not_less : ∀ p x : List UInt8, p.isPrefixOf x = true → Op.bytesLess x p = false
  | [], [], _ => rfl
  | [], _ :: _, _ => rfl
  | _ :: _, [], h => by simp at h
  | a :: p, b :: x, h => by
    rw [List.isPrefixOf_cons_cons, Bool.and_eq_true, beq_iff_eq] at h
    obtain ⟨rfl, h⟩ := h
    have e : Op.bytesLess (a :: x) (a :: p) = (decide (a < a) || (a == a && Op.bytesLess x p)) := rfl
    rw [e, pre_not_less p x h, decide_eq_false (fun h => absurd (UInt8.lt_iff_toNat_lt.1 h) (Nat.lt_irrefl _)), Bool.and_false, Bool.or_false]
theorem pre_between : ∀ p x y : List UInt8, Op.bytesLess x p = false → Op.bytesLess x y = true → p.isPrefixOf y = true → p.isPrefixOf x = true
  | [], _, _, _, _, _ => by simp
  | _ :: _, [], _, h, _, _ => by simp [Op.bytesLess] at h
  | _ :: _, _ :: _, [], _, _, h => by simp at h
  | a :: p, b :: x, c :: y, h1, h2, h3 => by
    rw [List.isPrefixOf_cons_cons, Bool.and_eq_true, beq_iff_eq] at h3
    obtain ⟨rfl, h3⟩ := h3
    simp only [Op.bytesLess, Bool.or_eq_false_iff, Bool.or_eq_true, decide_eq_false_iff_not, decide_eq_true_eq, Bool.and_eq_false_iff, Bool.and_eq_true, beq_iff_eq] at h1 h2
    obtain ⟨h11, h12⟩ := h1
    rcases h2 with h2 | ⟨rfl, h2⟩
    · exact absurd h2 h11
    · have h12' : Op.bytesLess x p = false := h12.elim (fun h => absurd h (by simp)) id
      rw [List.isPrefixOf_cons_cons, pre_between p x y h12' h2 h3, beq_self_eq_true, Bool.true_and]
theorem takeWhile_filter {α : Type} (f : α → Bool) : ∀ l : List α, l.Pairwise (fun a b => f b = true → f a = true) → l.takeWhile f = l.filter f
  | [], _ => rfl
  | a :: t, h => by
    obtain ⟨h1, h2⟩ := List.pairwise_cons.1 h
    rw [List.takeWhile_cons, List.filter_cons]
    by_cases ha : f a = true
    · rw [if_pos ha, if_pos ha, takeWhile_filter f t h2]
    · rw [if_neg ha, if_neg ha]
      symm
      rw [List.filter_eq_nil_iff]
      intro b hb hf
      exact ha (h1 b hb hf)
theorem allK_filter (l : List S102) (p : ByteArray) (hs : sortK l) : allK l p = l.filter (fun x => p.toList.isPrefixOf x.f0.toList) := by
  unfold allK
  rw [takeWhile_filter]
  · conv => rhs; rw [← List.take_append_drop (posK l p) l]
    rw [List.filter_append]
    have e : (l.take (posK l p)).filter (fun x => p.toList.isPrefixOf x.f0.toList) = [] := by
      rw [List.filter_eq_nil_iff]
      intro x hx hf
      obtain ⟨i, hi, rfl⟩ := List.mem_iff_getElem.1 hx
      rw [List.length_take] at hi
      rw [List.getElem_take] at hf
      have h := posK_spec l p hs i (by omega)
      rw [decide_eq_true (by omega)] at h
      have h2 := pre_not_less _ _ hf
      unfold kLt at h
      rw [h] at h2
      exact absurd h2 (by simp)
    rw [e, List.nil_append]
  · have hs2 : (l.drop (posK l p)).Pairwise (fun a b => kLt a.f0 b.f0 = true) := List.Pairwise.sublist (List.drop_sublist _ _) hs
    have hge : ∀ x ∈ l.drop (posK l p), kLt x.f0 p = false := by
      intro x hx
      obtain ⟨i, hi, rfl⟩ := List.mem_iff_getElem.1 hx
      rw [List.length_drop] at hi
      rw [List.getElem_drop, posK_spec l p hs _ (by omega), decide_eq_false (by omega)]
    refine List.Pairwise.imp_of_mem ?_ hs2
    intro a b ha hb hlt hf
    exact pre_between _ _ _ (hge a ha) hlt hf
theorem all_f (l : List S102) (p : ByteArray) (k : Nat) (hs : sortK l) (hl : l.length ≤ 1000000000) (hk : l.length < k) : footbridgeref09_All.f k l p = some (allK l p) := by
  rw [allK_filter l p hs]
  exact all_l0 l p hl l.length 0 k [] (by omega) hk (Nat.le_refl _)
theorem same_l0 (l : List S102) (hl : l.length ≤ 1000000000) : ∀ m j k, l.length - j = m → m < k → footbridgeref09_Same.l0 k l l (j : Int) = some true := by
  intro m
  induction m with
  | zero =>
    intro j k h1 h2
    obtain ⟨k, rfl⟩ : ∃ k', k = k' + 1 := ⟨k - 1, by omega⟩
    rw [footbridgeref09_Same.l0, if_neg (by omega)]
  | succ m ih =>
    intro j k h1 h2
    obtain ⟨k, rfl⟩ : ∃ k', k = k' + 1 := ⟨k - 1, by omega⟩
    rw [footbridgeref09_Same.l0, if_pos (by omega), if_pos (by omega), if_pos (by omega), if_neg (by simp), w64p j (by omega)]
    exact ih (j + 1) k (by omega) (by omega)
theorem same_f (l : List S102) (k : Nat) (hl : l.length ≤ 1000000000) (hk : l.length < k) : footbridgeref09_Same.f k l l = some true := by
  unfold footbridgeref09_Same.f
  rw [if_pos rfl]
  exact same_l0 l hl l.length 0 k (by omega) hk
theorem setK_len (l : List S102) (key value : ByteArray) : (setK l key value).length ≤ l.length + 1 := by
  unfold setK
  split
  · rw [List.length_set]; omega
  · rw [List.length_append, List.length_cons, List.length_take, List.length_drop]; omega
theorem delK_len (l : List S102) (key : ByteArray) : (delK l key).length ≤ l.length := by
  unfold delK
  split
  · rw [List.length_append, List.length_take, List.length_drop]; omega
  · exact Nat.le_refl _
theorem StoreIs.below {base g : Nat} {v : Value} {l : List S102} {w w' : World} (h : StoreIs base g v l w) (hb : Below w.heap.size w w') : StoreIs base g v l w' := ⟨h.1, h.2.1, blk_below h.2.2.1 hb, own_below h.2.2.2 hb⟩
theorem StoreIs.glt {base g : Nat} {v : Value} {l : List S102} {w : World} (h : StoreIs base g v l w) : g < w.heap.size := blk_lt h.2.2.1
theorem StoreIs.vlt {base g : Nat} {v : Value} {l : List S102} {w : World} (h : StoreIs base g v l w) (k : Nat) (hk : v.ownBlock = some k) : k < w.heap.size := (h.2.2.2.lt k hk).2
/-- A row that lies elsewhere than a store's two blocks. -/
def ByP (g : Nat) (v : Value) (w : World) (xv : Value) (l : List S102) : Prop := Kd.V k102 102 w 0 (fun k => k ≠ g ∧ some k ≠ v.ownBlock) xv l
theorem ByP.store {g : Nat} {v v' : Value} {w w' : World} {xv : Value} {l : List S102} (hx : ByP g v w xv l) (hw : StoreW g v w w') (hv : v'.ownBlock = v.ownBlock ∨ ∃ b, v'.ownBlock = some b ∧ w.heap.size ≤ b) : ByP g v' w' xv l := by
  have h2 := Kd.V_step (Kd.V_bound hx) (fun k hk hlt => hw.block k hlt hk.1.1 hk.1.2)
  refine Kd.V_mono h2 (fun k hk => ⟨hk.1.1, ?_⟩)
  rcases hv with hv | ⟨b, hv, hle⟩
  · rw [hv]; exact hk.1.2
  · rw [hv]; intro e; injection e with e; have := hk.2; omega
theorem ByP.below {g : Nat} {v : Value} {w w' : World} {xv : Value} {l : List S102} (hx : ByP g v w xv l) (hb : Below w.heap.size w w') : ByP g v w' xv l := Kd.V_below hx hb
theorem ByP.fresh {base g n : Nat} {v : Value} {w w2 : World} {yv : Value} {l r : List S102} (h : StoreIs base g v l w) (hle : w.heap.size ≤ n) (hr : Kd.R k102 102 w2 n (fun _ => True) yv r) : ByP g v w2 yv r :=
  Kd.R_V (Kd.R_mono (Kd.R_bound hr) (fun k hk => ⟨by have := h.glt; have := hk.2.1; omega, fun e => by have := h.vlt k e.symm; have := hk.2.1; omega⟩))
def DoPost (base g : Nat) (v : Value) (l' : List S102) (w : World) (e : Ending) (w' : World) : Prop := ∃ xv' v', e = .returned (.tuple #[xv', .bool true]) ∧ StoreIs base g v' l' w' ∧ ByP g v' w' xv' l' ∧ StoreW g v w w' ∧ (v'.ownBlock = v.ownBlock ∨ ∃ b, v'.ownBlock = some b ∧ w.heap.size ≤ b)
def doK (l : List S102) (d : S67) : List S102 := if d.f0 = 0 then setK l d.f2 d.f3 else if d.f0 = 1 then delK l d.f2 else l
set_option maxHeartbeats 4000000 in
set_option maxRecDepth 100000 in
theorem do_set (base g : Nat) (v xv : Value) (l : List S102) (n : Int) (key value : ByteArray) (w : World) (h : StoreIs base g v l w) (hx : ByP g v w xv l) (hl : l.length ≤ 1000000) (hb : base ≤ w.heap.size) :
    Calls Try.prog 42 #[.pointer (some ⟨g, 0, none⟩), xv, .agg #[.int .i64 0, .int .i64 n, .string key, .string value]] w (DoPost base g v (setK l key value) w) := by
  have n1 := my_alloc_new w (.cells #[.int .i64 0, .int .i64 n, .string key, .string value] 67)
  have hb1 : Below w.heap.size w (w.alloc (.cells #[.int .i64 0, .int .i64 n, .string key, .string value] 67)) := (Below.refl _ w).alloc (Nat.le_refl _) _
  have x1 := hx.below hb1
  have s1 := h.below hb1
  obtain ⟨A, c, rfl, hlc, hF⟩ := hx
  have hC := (Kd.V_reads' x1).2.2
  have z0 : (w.alloc (.cells #[.int .i64 0, .int .i64 n, .string key, .string value] 67)).cell? ⟨w.heap.size, 0, none⟩ = some (.int .i64 0) := (blk_cell n1 0).trans rfl
  have z2 : (w.alloc (.cells #[.int .i64 0, .int .i64 n, .string key, .string value] 67)).cell? ⟨w.heap.size, 2, none⟩ = some (.string key) := (blk_cell n1 2).trans rfl
  have z3 : (w.alloc (.cells #[.int .i64 0, .int .i64 n, .string key, .string value] 67)).cell? ⟨w.heap.size, 3, none⟩ = some (.string value) := (blk_cell n1 3).trans rfl
  have hset := footbridgeref09_Set.calls (l.length + 1) A c l key value _ _ _ hC hlc (set_f l key value (l.length + 1) h.2.1 (by omega) (by omega))
  clear hC hF
  have hsz1 : w.heap.size ≤ (w.alloc (.cells #[.int .i64 0, .int .i64 n, .string key, .string value] 67)).heap.size := hb1.size
  go_enter Try.func42, Try.ntmps42
  go_wp2_with fail
  refine hset.mono ?_
  rintro e w2 ⟨yv, rfl, hy, hb2⟩
  have y2 : ByP g v w2 yv _ := ByP.fresh h hsz1 hy
  have s2 := s1.below hb2
  have q2 := (hb2.cell (p := ⟨w.heap.size, 2, none⟩) (World.block_lt_of_cell? _ _ z2)).trans z2
  have q3 := (hb2.cell (p := ⟨w.heap.size, 3, none⟩) (World.block_lt_of_cell? _ _ z3)).trans z3
  have W2 : StoreW g v w w2 := (StoreW.of_below hb1).trans (StoreW.of_below hb2) (.inl rfl)
  clear z0 z2 z3 hset hy hb1 x1 s1 n1 hb2
  go_wp2_with fail
  refine (st_set base g v l key value w2 s2 (by omega) (Nat.le_trans hb W2.size)).mono ?_
  rintro e w3 ⟨rfl, v3, s3, W3, hv3⟩
  have hfin : DoPost base g v (setK l key value) w (.returned (.tuple #[yv, .bool true])) w3 := ⟨yv, v3, rfl, s3, y2.store W3 hv3, W2.trans W3 (.inl rfl), hv3.imp_right (fun ⟨b, h1, h2⟩ => ⟨b, h1, Nat.le_trans W2.size h2⟩)⟩
  replace hfin := Aside0.mk hfin
  clear s3 W3 W2 y2 s2 q2 q3 h hv3
  go_wp2
  go_ret2
  exact hfin.out
set_option maxHeartbeats 4000000 in
set_option maxRecDepth 100000 in
theorem do_del (base g : Nat) (v xv : Value) (l : List S102) (n : Int) (key value : ByteArray) (w : World) (h : StoreIs base g v l w) (hx : ByP g v w xv l) (hl : l.length ≤ 1000000) (hb : base ≤ w.heap.size) :
    Calls Try.prog 42 #[.pointer (some ⟨g, 0, none⟩), xv, .agg #[.int .i64 1, .int .i64 n, .string key, .string value]] w (DoPost base g v (delK l key) w) := by
  have n1 := my_alloc_new w (.cells #[.int .i64 1, .int .i64 n, .string key, .string value] 67)
  have hb1 : Below w.heap.size w (w.alloc (.cells #[.int .i64 1, .int .i64 n, .string key, .string value] 67)) := (Below.refl _ w).alloc (Nat.le_refl _) _
  have x1 := hx.below hb1
  have s1 := h.below hb1
  obtain ⟨A, c, rfl, hlc, hF⟩ := hx
  have hC := (Kd.V_reads' x1).2.2
  have z0 : (w.alloc (.cells #[.int .i64 1, .int .i64 n, .string key, .string value] 67)).cell? ⟨w.heap.size, 0, none⟩ = some (.int .i64 1) := (blk_cell n1 0).trans rfl
  have z2 : (w.alloc (.cells #[.int .i64 1, .int .i64 n, .string key, .string value] 67)).cell? ⟨w.heap.size, 2, none⟩ = some (.string key) := (blk_cell n1 2).trans rfl
  have z3 : (w.alloc (.cells #[.int .i64 1, .int .i64 n, .string key, .string value] 67)).cell? ⟨w.heap.size, 3, none⟩ = some (.string value) := (blk_cell n1 3).trans rfl
  have hset := footbridgeref09_Del.calls (l.length + 1) (fun k => k ≠ g ∧ some k ≠ v.ownBlock) A c l key _ _ _ x1 (del_f l key (l.length + 1) h.2.1 (by omega) (by omega))
  clear hC hF
  have hsz1 : w.heap.size ≤ (w.alloc (.cells #[.int .i64 1, .int .i64 n, .string key, .string value] 67)).heap.size := hb1.size
  go_enter Try.func42, Try.ntmps42
  go_wp2_with fail
  refine hset.mono ?_
  rintro e w2 ⟨yv, rfl, hy, hb2⟩
  have y2 : ByP g v w2 yv _ := Kd.V_mono hy (fun k hk => hk.elim id (fun hk => ⟨by have := h.glt; omega, fun e => by have := h.vlt k e.symm; omega⟩))
  have s2 := s1.below hb2
  have q2 := (hb2.cell (p := ⟨w.heap.size, 2, none⟩) (World.block_lt_of_cell? _ _ z2)).trans z2
  have q3 := (hb2.cell (p := ⟨w.heap.size, 3, none⟩) (World.block_lt_of_cell? _ _ z3)).trans z3
  have W2 : StoreW g v w w2 := (StoreW.of_below hb1).trans (StoreW.of_below hb2) (.inl rfl)
  clear z0 z2 z3 hset hy hb1 x1 s1 n1 hb2
  go_wp2_with fail
  refine (st_del base g v l key w2 s2 (by omega)).mono ?_
  rintro e w3 ⟨rfl, v3, s3, W3, hv3⟩
  have hfin : DoPost base g v (delK l key) w (.returned (.tuple #[yv, .bool true])) w3 := ⟨yv, v3, rfl, s3, y2.store W3 hv3, W2.trans W3 (.inl rfl), hv3.imp_right (fun ⟨b, h1, h2⟩ => ⟨b, h1, Nat.le_trans W2.size h2⟩)⟩
  replace hfin := Aside0.mk hfin
  clear s3 W3 W2 y2 s2 q2 q3 h hv3
  go_wp2
  go_ret2
  exact hfin.out
set_option maxHeartbeats 4000000 in
set_option maxRecDepth 100000 in
theorem do_get (base g : Nat) (v xv : Value) (l : List S102) (n : Int) (key value : ByteArray) (w : World) (h : StoreIs base g v l w) (hx : ByP g v w xv l) (hl : l.length ≤ 1000000) (hb : base ≤ w.heap.size) :
    Calls Try.prog 42 #[.pointer (some ⟨g, 0, none⟩), xv, .agg #[.int .i64 2, .int .i64 n, .string key, .string value]] w (DoPost base g v (l) w) := by
  have n1 := my_alloc_new w (.cells #[.int .i64 2, .int .i64 n, .string key, .string value] 67)
  have hb1 : Below w.heap.size w (w.alloc (.cells #[.int .i64 2, .int .i64 n, .string key, .string value] 67)) := (Below.refl _ w).alloc (Nat.le_refl _) _
  have x1 := hx.below hb1
  have s1 := h.below hb1
  obtain ⟨A, c, rfl, hlc, hF⟩ := hx
  have hC := (Kd.V_reads' x1).2.2
  have z0 : (w.alloc (.cells #[.int .i64 2, .int .i64 n, .string key, .string value] 67)).cell? ⟨w.heap.size, 0, none⟩ = some (.int .i64 2) := (blk_cell n1 0).trans rfl
  have z2 : (w.alloc (.cells #[.int .i64 2, .int .i64 n, .string key, .string value] 67)).cell? ⟨w.heap.size, 2, none⟩ = some (.string key) := (blk_cell n1 2).trans rfl
  have z3 : (w.alloc (.cells #[.int .i64 2, .int .i64 n, .string key, .string value] 67)).cell? ⟨w.heap.size, 3, none⟩ = some (.string value) := (blk_cell n1 3).trans rfl
  have hg0 := get_f l key (l.length + 1) h.2.1 (by omega) (by omega)
  have hget := st_get base g l key _ s1.at_ (by omega)
  generalize getK l key = r at hg0 hget
  obtain ⟨r1, r2⟩ := r
  clear hC hF
  have hsz1 : w.heap.size ≤ (w.alloc (.cells #[.int .i64 2, .int .i64 n, .string key, .string value] 67)).heap.size := hb1.size
  go_enter Try.func42, Try.ntmps42
  go_wp2_with fail
  refine hget.mono ?_
  rintro e w2 ⟨rfl, hb2⟩
  have x2 := x1.below hb2
  have s2 := s1.below hb2
  have q2 := (hb2.cell (p := ⟨w.heap.size, 2, none⟩) (World.block_lt_of_cell? _ _ z2)).trans z2
  have W2 : StoreW g v w w2 := (StoreW.of_below hb1).trans (StoreW.of_below hb2) (.inl rfl)
  have hC2 := (Kd.V_reads' x2).2.2
  have hget2 := footbridgeref09_Get.calls (l.length + 1) A c l key _ _ w2 hC2 hlc hg0
  clear z0 z2 z3 hget x1 s1 n1 hb2 hC2
  go_wp2_with fail
  refine hget2.mono ?_
  rintro e w3 ⟨rfl, hd3⟩
  have W3 := StoreW.of_below (g := g) (v := v) hd3.below
  have hfin : DoPost base g v l w (.returned (.tuple #[.slice A l.length c, .bool true])) w3 := ⟨_, v, rfl, s2.below hd3.below, x2.below hd3.below, W2.trans W3 (.inl rfl), .inl rfl⟩
  replace hfin := Aside0.mk hfin
  clear s2 x2 W3 W2 q2 h hget2 hd3 hb1 hg0
  go_wp2
  go_ret2
  exact hfin.out
set_option maxHeartbeats 4000000 in
set_option maxRecDepth 100000 in
theorem do_all (base g : Nat) (v xv : Value) (l : List S102) (kd n : Int) (key value : ByteArray) (w : World) (h : StoreIs base g v l w) (hx : ByP g v w xv l) (hl : l.length ≤ 1000000) (k0 : kd ≠ 0) (k1 : kd ≠ 1) (k2 : kd ≠ 2) (hb : base ≤ w.heap.size) :
    Calls Try.prog 42 #[.pointer (some ⟨g, 0, none⟩), xv, .agg #[.int .i64 kd, .int .i64 n, .string key, .string value]] w (DoPost base g v (l) w) := by
  have n1 := my_alloc_new w (.cells #[.int .i64 kd, .int .i64 n, .string key, .string value] 67)
  have hb1 : Below w.heap.size w (w.alloc (.cells #[.int .i64 kd, .int .i64 n, .string key, .string value] 67)) := (Below.refl _ w).alloc (Nat.le_refl _) _
  have x1 := hx.below hb1
  have s1 := h.below hb1
  obtain ⟨A, c, rfl, hlc, hF⟩ := hx
  have hC := (Kd.V_reads' x1).2.2
  have z0 : (w.alloc (.cells #[.int .i64 kd, .int .i64 n, .string key, .string value] 67)).cell? ⟨w.heap.size, 0, none⟩ = some (.int .i64 kd) := (blk_cell n1 0).trans rfl
  have z1 : (w.alloc (.cells #[.int .i64 kd, .int .i64 n, .string key, .string value] 67)).cell? ⟨w.heap.size, 1, none⟩ = some (.int .i64 n) := (blk_cell n1 1).trans rfl
  have z2 : (w.alloc (.cells #[.int .i64 kd, .int .i64 n, .string key, .string value] 67)).cell? ⟨w.heap.size, 2, none⟩ = some (.string key) := (blk_cell n1 2).trans rfl
  have z3 : (w.alloc (.cells #[.int .i64 kd, .int .i64 n, .string key, .string value] 67)).cell? ⟨w.heap.size, 3, none⟩ = some (.string value) := (blk_cell n1 3).trans rfl
  have hall := footbridgeref09_All.calls (l.length + 1) A c l key _ _ hC hlc (all_f l key (l.length + 1) h.2.1 (by omega) (by omega))
  have hml : (allK l key).length ≤ l.length := by rw [allK_filter l key h.2.1]; exact List.length_filter_le _ _
  have hbeg : ∀ w1 w2, Below w1.heap.size w1 w2 → StoreIs base g v l w1 → _ := fun w1 w2 hb h => st_begins base g v l key w2 (h.below hb) (by omega)
  obtain ⟨m, hm⟩ : ∃ m, allK l key = m := ⟨_, rfl⟩
  rw [hm] at hall hml
  simp only [hm] at hbeg
  clear hm
  obtain ⟨N, hN, hNm⟩ : ∃ N : Nat, (if (0 : Int) < (if (m.length : Int) < n then (m.length : Int) else n) then (if (m.length : Int) < n then (m.length : Int) else n) else 0) = (N : Int) ∧ N ≤ m.length := by
    by_cases h1 : (m.length : Int) < n
    · rw [if_pos h1]
      by_cases h2 : (0 : Int) < (m.length : Int)
      · exact ⟨m.length, by rw [if_pos h2], Nat.le_refl _⟩
      · exact ⟨0, by rw [if_neg h2]; rfl, Nat.zero_le _⟩
    · rw [if_neg h1]
      by_cases h2 : (0 : Int) < n
      · exact ⟨n.toNat, by rw [if_pos h2]; omega, by omega⟩
      · exact ⟨0, by rw [if_neg h2]; rfl, Nat.zero_le _⟩
  clear hC hF
  have hsz1 : w.heap.size ≤ (w.alloc (.cells #[.int .i64 kd, .int .i64 n, .string key, .string value] 67)).heap.size := hb1.size
  go_enter Try.func42, Try.ntmps42
  go_wp2_with fail
  refine hall.mono ?_
  rintro e w2 ⟨yv, rfl, hy, hb2⟩
  have x2 := x1.below hb2
  have s2 := s1.below hb2
  have q1 := (hb2.cell (p := ⟨w.heap.size, 1, none⟩) (World.block_lt_of_cell? _ _ z1)).trans z1
  have q2 := (hb2.cell (p := ⟨w.heap.size, 2, none⟩) (World.block_lt_of_cell? _ _ z2)).trans z2
  have W2 : StoreW g v w w2 := (StoreW.of_below hb1).trans (StoreW.of_below hb2) (.inl rfl)
  obtain ⟨A2, c2, rfl, hc2, hC2⟩ := Kd.R_reads hy
  clear z0 z1 z2 z3 hall x1 s1 n1 hb2 hy
  have e1 : ∀ w, (Instr.sliceAt 62 (.slice A2 m.length c2) none (some (.int .i64 (N : Int))) none).run Try.prog w = .ok (.slice A2 N c2) w := by
    intro w
    cases A2 <;> simp [go_sem] <;> omega
  have hsome := some_calls (some ⟨g, 0, none⟩) key (N : Int) m w2.drew (by omega) (fun w1 hb => hbeg w2.drew w1 hb (s2.below (below_drew (Below.refl _ _))))
  rw [Int.toNat_natCast] at hsome
  have hle3 : w2.heap.size ≤ w2.drew.heap.size := Nat.le_refl _
  have htl : (m.take N).length = N := by rw [List.length_take]; omega
  go_wp2_with fail
  all_goals go_region_with (first | (go_at_call 50; refine hsome.mono ?_; rintro e w3 ⟨v3, rfl, o3, hb3⟩; obtain ⟨A3, c3, e3, hc3, hC3⟩ := Kd.R_reads (rows_R (ok := fun _ => True) o3 (fun _ _ => trivial)); subst e3; have hsame := footbridgeref09_Same.calls (m.length + 1) A3 c3 (m.take N) A2 c2 (m.take N) true w3 hC3 hc3 (Kd.C_below (Kd.C_drew (Kd.C_take hC2 hNm)) hb3) (by omega) (same_f _ (m.length + 1) (by omega) (by omega)); rw [htl] at hsame ⊢) | (go_at_call 44; refine hsame.mono ?_; rintro e w4 ⟨rfl, hd4⟩))
  all_goals
    have hb24 : Below w2.heap.size w2 w4 := (below_drew (Below.refl _ _)).trans (hb3.trans (hd4.below.mono hb3.size))
    have W4 := StoreW.of_below (g := g) (v := v) hb24
    have hfin : DoPost base g v l w (.returned (.tuple #[.slice A l.length c, .bool true])) w4 := ⟨_, v, rfl, s2.below hb24, x2.below hb24, W2.trans W4 (.inl rfl), .inl rfl⟩
    replace hfin := Aside0.mk hfin
    clear hb24 W4 W2 s2 x2 hsame hd4 hC3 o3 hsome hbeg hC2 e1 hb3
    simp only [List.getElem_toArray, List.getElem_cons_succ, List.getElem_cons_zero, Act.put, List.setIfInBounds_toArray, List.set_cons_succ, List.set_cons_zero]
    go_wp2
    go_ret2
    exact hfin.out
theorem do_calls (base g : Nat) (v xv : Value) (l : List S102) (d : S67) (w : World) (h : StoreIs base g v l w) (hx : ByP g v w xv l) (hl : l.length ≤ 1000000) (hb : base ≤ w.heap.size) :
    Calls Try.prog 42 #[.pointer (some ⟨g, 0, none⟩), xv, .agg #[.int .i64 d.f0, .int .i64 d.f1, .string d.f2, .string d.f3]] w (DoPost base g v (doK l d) w) := by
  obtain ⟨kd, n, key, value⟩ := d
  show Calls Try.prog 42 #[.pointer (some ⟨g, 0, none⟩), xv, .agg #[.int .i64 kd, .int .i64 n, .string key, .string value]] w (DoPost base g v (if kd = 0 then setK l key value else if kd = 1 then delK l key else l) w)
  by_cases k0 : kd = 0
  · rw [if_pos k0]; subst k0
    exact do_set base g v xv l n key value w h hx hl hb
  · rw [if_neg k0]
    by_cases k1 : kd = 1
    · rw [if_pos k1]; subst k1
      exact do_del base g v xv l n key value w h hx hl hb
    · rw [if_neg k1]
      by_cases k2 : kd = 2
      · subst k2
        exact do_get base g v xv l n key value w h hx hl hb
      · exact do_all base g v xv l kd n key value w h hx hl k0 k1 k2 hb
theorem doK_len (l : List S102) (d : S67) : (doK l d).length ≤ l.length + 1 := by
  unfold doK
  split
  · exact setK_len _ _ _
  · split
    · have := delK_len l d.f2; omega
    · omega

end Go.Proofs.Ytfjneffmgmcdaaa.PPar
