-- written by wip/myprint.py over the kit's print; not a printed text of print.sh
import Derived.Test.YtcbaojkfffodiaaPJoux0
import Derived.Test.YtcbaojkfffodiaaPJoux3
import Derived.Test.YtcbaojkfffodiaaPJoux8
import Derived.Test.YtcbaojkfffodiaaPJoux9
import Derived.Test.YtcbaojkfffodiaaPJoux10
import Derived.Test.YtcbaojkfffodiaaPJoux11
import Derived.Test.YtcbaojkfffodiaaPJoux12
import Derived.Test.YtcbaojkfffodiaaPJoux14
import Derived.Test.YtcbaojkfffodiaaPJoux17
namespace Go.Proofs.Ytcbaojkfffodiaa.PJou
open Go.RowKit Go.Proofs.YtcbaojkfffodiaaW.PrintWords Go.Proofs.YtcbaojkfffodiaaW.PrintLast Go.Proofs.YtcbaojkfffodiaaW.PrintMore
attribute [local go_sem] max2_int min2_int max_two min_two max_three min_three max_four min_four   -- for this text's walks alone
set_option linter.unusedVariables false
set_option linter.unusedSimpArgs false

/-! ### words: jrel.inc -/
/-! ### the document's levels and a journal's: plain -/
/-- The stores of all levels, out of the last one and what is noted. -/
def lvsK : List (List S65) → List S51 → List (List S51)
  | [], c => [c]
  | y :: t, c => undoL y ((lvsK t c).headD []) :: lvsK t c
theorem lvsK_ne (l : List (List S65)) (c : List S51) : lvsK l c ≠ [] := by cases l <;> simp [lvsK]
theorem lvsK_snoc : ∀ (I : List (List S65)) (y : List S65) (c : List S51), lvsK (I ++ [y]) c = lvsK I (undoL y c) ++ [c]
  | [], y, c => rfl
  | z :: I, y, c => by
    have ih := lvsK_snoc I y c
    have hne := lvsK_ne I (undoL y c)
    show undoL z ((lvsK (I ++ [y]) c).headD []) :: lvsK (I ++ [y]) c = _
    rw [ih]
    cases h : lvsK I (undoL y c) with
    | nil => exact absurd h hne
    | cons a t => simp [lvsK, h]
theorem lvsK_len : ∀ (l : List (List S65)) (c : List S51), (lvsK l c).length = l.length + 1
  | [], _ => rfl
  | y :: t, c => by have := lvsK_len t c; simp [lvsK, this]
/-- All levels but the last one. -/
def preK (l : List (List S65)) (c : List S51) : List (List S51) := (lvsK l c).take l.length
theorem lvsK_pre (l : List (List S65)) (c : List S51) : lvsK l c = preK l c ++ [c] := by
  unfold preK
  rcases List.eq_nil_or_concat l with rfl | ⟨I, y, rfl⟩
  · rfl
  · rw [List.concat_eq_append, lvsK_snoc, List.length_append, List.length_singleton, ← lvsK_len I (undoL y c), List.take_left]
theorem preK_len (l : List (List S65)) (c : List S51) : (preK l c).length = l.length := by
  have h := congrArg List.length (lvsK_pre l c)
  rw [lvsK_len, List.length_append, List.length_singleton] at h
  omega
theorem preK_snoc (I : List (List S65)) (y : List S65) (c : List S51) : preK (I ++ [y]) c = lvsK I (undoL y c) := by
  have h := lvsK_pre (I ++ [y]) c
  rw [lvsK_snoc] at h
  exact (List.append_cancel_right h).symm
/-- The document's move, the last level apart. -/
def movedK (X : List (List S51)) (c : List S51) (kd : Int) (key value : ByteArray) : List (List S51) × Int :=
  if kd = 0 then (if key.size > 65536 ∨ value.size > 65536 then (X ++ [c], 4) else (X ++ [setK c key value], 0))
  else if kd = 1 then (if hasK c key = true then (X ++ [delK c key], 0) else (X ++ [c], 8))
  else if kd = 2 then (X ++ [c] ++ [c], 0)
  else if X.length = 0 then (X ++ [c], 10)
  else if kd = 3 then (X.take (X.length - 1) ++ [c], 0) else (X, 0)
def doJ (st : JSt) (kd : Int) (key value : ByteArray) : JSt × Int :=
  if kd = 0 then (setJ st key value, setE key value)
  else if kd = 1 then (delJ st key, delE st key)
  else if kd = 2 then (begJ st, 0)
  else if st.lv.length = 0 then (st, 10)
  else if kd = 3 then (comJ st, 0) else (rolJ st, 0)
theorem note_lvs (lv : List (List S65)) (c c' : List S51) (key : ByteArray) (hu : undo1 (noteU c key) c' = c) : lvsK (noteJ ⟨c, lv⟩ key).lv c' = preK lv c ++ [c'] := by
  rcases List.eq_nil_or_concat lv with rfl | ⟨I, y, rfl⟩
  · rfl
  · rw [List.concat_eq_append]
    have e : (noteJ ⟨c, I ++ [y]⟩ key).lv = I ++ [y ++ [noteU c key]] := by
      unfold noteJ lvAt
      simp
    rw [e, lvsK_snoc, preK_snoc, undoL_append]
    show lvsK I (undoL y (undo1 (noteU c key) c')) ++ [c'] = _
    rw [hu]
theorem comJ_two (c : List S51) (I2 : List (List S65)) (x y : List S65) : comJ ⟨c, I2 ++ [x] ++ [y]⟩ = ⟨c, I2 ++ [x ++ y]⟩ := by
  have hl : (I2 ++ [x] ++ [y]).length = (I2 ++ [x]).length + 1 := by simp
  have h2 : (I2 ++ [x]).length + 1 - 2 = I2.length := by simp
  unfold comJ lvAt
  show (⟨c, ((I2 ++ [x] ++ [y]).take ((I2 ++ [x] ++ [y]).length - 1)).set ((I2 ++ [x] ++ [y]).length - 2) ((I2 ++ [x] ++ [y]).getD ((I2 ++ [x] ++ [y]).length - 2) [] ++ (I2 ++ [x] ++ [y]).getD ((I2 ++ [x] ++ [y]).length - 1) [])⟩ : JSt) = _
  rw [hl, Nat.add_sub_cancel, List.take_left, h2]
  simp
theorem do_rel (st : JSt) (kd : Int) (key value : ByteArray) (hs : sortK st.cur) : movedK (preK st.lv st.cur) st.cur kd key value = (lvsK (doJ st kd key value).1.lv (doJ st kd key value).1.cur, (doJ st kd key value).2) := by
  obtain ⟨c, lv⟩ := st
  have hs : sortK c := hs
  unfold movedK doJ
  show (if kd = 0 then _ else _) = _
  by_cases h0 : kd = 0
  · rw [if_pos h0, if_pos h0]
    unfold setJ setE
    by_cases hb : key.size > 65536 ∨ value.size > 65536
    · rw [if_pos hb, if_pos hb, if_pos hb]
      exact congrArg (fun x => (x, (4 : Int))) (lvsK_pre lv c).symm
    · rw [if_neg hb, if_neg hb, if_neg hb]
      exact congrArg (fun x => (x, (0 : Int))) (note_lvs lv c _ key (undo_set hs key value)).symm
  rw [if_neg h0, if_neg h0]
  by_cases h1 : kd = 1
  · rw [if_pos h1, if_pos h1]
    unfold delJ delE
    cases hh : hasK c key with
    | true =>
      rw [if_pos rfl, if_pos rfl, if_pos rfl]
      exact congrArg (fun x => (x, (0 : Int))) (note_lvs lv c _ key (undo_del hs key hh)).symm
    | false =>
      rw [if_neg (by simp), if_neg (by simp), if_neg (by simp)]
      exact congrArg (fun x => (x, (8 : Int))) (lvsK_pre lv c).symm
  rw [if_neg h1, if_neg h1]
  by_cases h2 : kd = 2
  · rw [if_pos h2, if_pos h2]
    show _ = (lvsK (lv ++ [[]]) c, 0)
    rw [lvsK_snoc, ← lvsK_pre]
    rfl
  rw [if_neg h2, if_neg h2]
  show (if (preK lv c).length = 0 then _ else _) = _
  rw [preK_len]
  show _ = (lvsK (if lv.length = 0 then _ else _ : JSt × Int).1.lv (if lv.length = 0 then _ else _ : JSt × Int).1.cur, (if lv.length = 0 then _ else _ : JSt × Int).2)
  by_cases h3 : lv.length = 0
  · rw [if_pos h3, if_pos h3]
    exact congrArg (fun x => (x, (10 : Int))) (lvsK_pre lv c).symm
  rw [if_neg h3, if_neg h3]
  rcases List.eq_nil_or_concat lv with rfl | ⟨I, y, rfl⟩
  · exact absurd rfl h3
  rw [List.concat_eq_append] at *
  by_cases h4 : kd = 3
  · rw [if_pos h4, if_pos h4]
    have hc : comJ ⟨c, I ++ [y]⟩ = ⟨c, I.set (I.length - 1) (lvAt I (I.length - 1) ++ y)⟩ := by
      unfold lvAt
      rcases List.eq_nil_or_concat I with rfl | ⟨I2, x, rfl⟩
      · rfl
      · rw [List.concat_eq_append, comJ_two]
        simp
    rw [hc, preK_snoc]
    show _ = (lvsK (I.set (I.length - 1) (lvAt I (I.length - 1) ++ y)) c, 0)
    rw [List.length_append, List.length_singleton, Nat.add_sub_cancel]
    rcases List.eq_nil_or_concat I with rfl | ⟨I2, x, rfl⟩
    · rfl
    · rw [List.concat_eq_append]
      have e : (I2 ++ [x]).set ((I2 ++ [x]).length - 1) (lvAt (I2 ++ [x]) ((I2 ++ [x]).length - 1) ++ y) = I2 ++ [x ++ y] := by
        unfold lvAt; simp
      rw [e, lvsK_snoc, lvsK_snoc, undoL_append, List.length_append, List.length_singleton, ← lvsK_len I2 (undoL x (undoL y c)), List.take_left]
  · rw [if_neg h4, if_neg h4]
    have hr : rolJ ⟨c, I ++ [y]⟩ = ⟨undoL y c, I⟩ := by
      unfold rolJ lvAt
      simp
    rw [hr, preK_snoc]
/-- How long all is: the stores, and what is noted, of t deeds. -/
def totU (l : List (List S65)) : Nat := (l.map List.length).sum
structure JBd (n t : Nat) (st : JSt) : Prop where
  lvs : ∀ s ∈ lvsK st.lv st.cur, sortK s ∧ s.length ≤ n + t
  tot : totU st.lv ≤ t
  len : st.lv.length ≤ t
theorem totU_append (l m : List (List S65)) : totU (l ++ m) = totU l + totU m := by unfold totU; rw [List.map_append, List.sum_append]
theorem totU_mem {l : List (List S65)} {x : List S65} (h : x ∈ l) : x.length ≤ totU l := by
  obtain ⟨a, b, rfl⟩ := List.append_of_mem h
  rw [totU_append]
  have : totU (x :: b) = x.length + totU b := by unfold totU; rw [List.map_cons, List.sum_cons]
  omega
theorem JBd.cur {n t : Nat} {st : JSt} (h : JBd n t st) : sortK st.cur ∧ st.cur.length ≤ n + t := h.lvs _ (by rw [lvsK_pre]; simp)
theorem JBd.lvl {n t : Nat} {st : JSt} (h : JBd n t st) : ∀ l ∈ st.lv, l.length ≤ t := fun l hl => Nat.le_trans (totU_mem hl) h.tot
theorem note_tot (lv : List (List S65)) (c : List S51) (key : ByteArray) : totU (noteJ ⟨c, lv⟩ key).lv ≤ totU lv + 1 ∧ (noteJ ⟨c, lv⟩ key).lv.length = lv.length := by
  rcases List.eq_nil_or_concat lv with rfl | ⟨I, y, rfl⟩
  · exact ⟨Nat.zero_le _, rfl⟩
  · rw [List.concat_eq_append]
    have e : (noteJ ⟨c, I ++ [y]⟩ key).lv = I ++ [y ++ [noteU c key]] := by
      unfold noteJ lvAt
      simp
    rw [e, totU_append, totU_append]
    refine ⟨?_, by simp⟩
    simp [totU]
    omega
theorem JBd.step {n t : Nat} {st : JSt} (h : JBd n t st) (kd : Int) (key value : ByteArray) : JBd n (t + 1) (doJ st kd key value).1 := by
  have hrel := do_rel st kd key value h.cur.1
  have hpre : ∀ s ∈ preK st.lv st.cur, sortK s ∧ s.length ≤ n + (t + 1) := fun s hs => by
    obtain ⟨h1, h2⟩ := h.lvs s (by rw [lvsK_pre]; exact List.mem_append_left _ hs)
    exact ⟨h1, by omega⟩
  have hcur : sortK st.cur ∧ st.cur.length ≤ n + (t + 1) := ⟨h.cur.1, by have := h.cur.2; omega⟩
  have hlv : ∀ s ∈ (movedK (preK st.lv st.cur) st.cur kd key value).1, sortK s ∧ s.length ≤ n + (t + 1) := by
    have h2 : ∀ (X : List (List S51)) (c : List S51), (∀ s ∈ X, sortK s ∧ s.length ≤ n + (t + 1)) → (sortK c ∧ c.length ≤ n + (t + 1)) → ∀ s ∈ X ++ [c], sortK s ∧ s.length ≤ n + (t + 1) := by
      intro X c hX hc s hs
      rcases List.mem_append.1 hs with hs | hs
      · exact hX s hs
      · rw [List.mem_singleton.1 hs]; exact hc
    unfold movedK
    split
    · split
      · exact h2 _ _ hpre hcur
      · exact h2 _ _ hpre ⟨sortK_set h.cur.1 _ _, by have := setK_len st.cur key value; have := h.cur.2; omega⟩
    · split
      · split
        · exact h2 _ _ hpre ⟨sortK_del h.cur.1 _, by have := delK_len st.cur key; have := h.cur.2; omega⟩
        · exact h2 _ _ hpre hcur
      · split
        · exact h2 _ _ (h2 _ _ hpre hcur) hcur
        · split
          · exact h2 _ _ hpre hcur
          · split
            · exact h2 _ _ (fun s hs => hpre s (List.mem_of_mem_take hs)) hcur
            · exact hpre
  rw [hrel] at hlv
  refine ⟨hlv, ?_, ?_⟩
  all_goals
    obtain ⟨c, lv⟩ := st
    have ht := h.tot
    have hl := h.len
    have hn := note_tot lv c key
    have ht : totU lv ≤ t := ht
    have hl : lv.length ≤ t := hl
    unfold doJ setJ delJ
    simp only []
    repeat' split
    all_goals first | (show totU lv ≤ _; omega) | (show lv.length ≤ _; omega) | (show totU (noteJ _ _).lv ≤ _; omega) | (show (noteJ _ _).lv.length ≤ _; omega) | skip
  · show totU (lv ++ [[]]) ≤ _
    rw [totU_append]; simp [totU] at ht ⊢; omega
  · show totU (comJ ⟨c, lv⟩).lv ≤ _
    rcases List.eq_nil_or_concat lv with rfl | ⟨I, y, rfl⟩
    · exact Nat.zero_le _
    · rw [List.concat_eq_append] at *
      rcases List.eq_nil_or_concat I with rfl | ⟨I2, x, rfl⟩
      · exact Nat.zero_le _
      · rw [List.concat_eq_append] at *
        have e : (comJ ⟨c, I2 ++ [x] ++ [y]⟩).lv = I2 ++ [x ++ y] := by rw [comJ_two]
        rw [e]
        rw [totU_append, totU_append] at ht
        rw [totU_append]
        simp [totU] at ht ⊢
        omega
  · show totU (lv.take (lv.length - 1)) ≤ _
    have h9 : totU (lv.take (lv.length - 1) ++ lv.drop (lv.length - 1)) ≤ t := by rw [List.take_append_drop]; exact ht
    rw [totU_append] at h9; omega
  · show (lv ++ [[]]).length ≤ _
    rw [List.length_append, List.length_singleton]; omega
  · show (comJ ⟨c, lv⟩).lv.length ≤ _
    unfold comJ
    show ((lv.take (lv.length - 1)).set _ _).length ≤ _
    rw [List.length_set, List.length_take]; omega
  · show (lv.take (lv.length - 1)).length ≤ _
    rw [List.length_take]; omega

/-! ### footbridgelaw10_do: function 9 -/
theorem moved_f (X : List (List S51)) (c : List S51) (kd : Int) (key value : ByteArray) (k : Nat) (hs : sortK c) (hc : c.length ≤ 1000) (hX : X.length ≤ 1000) (hk : 1000 < k) : footbridgelaw10_moved.f k (X ++ [c]) kd key value = some (movedK X c kd key value) := by
  have hlen : ((X ++ [c]).length : Int) = (X.length : Int) + 1 := by simp
  have hw : wrap64 (((X ++ [c]).length : Int) - 1) = (X.length : Int) := by rw [hlen]; unfold wrap64; omega
  have hrd : rd_L2 (X ++ [c]) (X.length : Int) = c := by unfold rd_L2; simp
  have hset := set_f c key value k hs (by omega) (by omega)
  have hdel := del_f c key k hs (by omega) (by omega)
  have h1 : ([] : List (List S51)).length + (X ++ [c]).length < 5864062014805 := by simp; omega
  have h2 : (0 : Int) ≤ (X.length : Int) := by omega
  have h3 : (X.length : Int) < ((X ++ [c]).length : Int) := by omega
  have h4 : ∀ v : List S51, (X ++ [c]).set (X.length : Int).toNat v = X ++ [v] := by intro v; simp
  unfold footbridgelaw10_moved.f movedK
  rw [if_pos h1, Option.bind_some, List.nil_append, hw, hrd]
  by_cases k0 : kd = 0
  · rw [if_pos k0, if_pos k0]
    by_cases b1 : key.size > 65536
    · rw [if_pos (by omega), if_pos (.inl b1)]
    · rw [if_neg (by omega)]
      by_cases b2 : value.size > 65536
      · rw [if_pos (by omega), if_pos (.inr b2)]
      · rw [if_neg (show ¬ (key.size > 65536 ∨ value.size > 65536) by omega), if_neg (by omega), if_pos h2, if_pos h3, hset, Option.bind_some, if_pos h3, h4]
  rw [if_neg k0, if_neg k0]
  by_cases k1 : kd = 1
  · rw [if_pos k1, if_pos k1, if_pos h2, if_pos h3, hdel, Option.bind_some]
    cases hh : hasK c key with
    | true => rw [if_pos rfl, if_pos rfl, if_pos h3, h4]
    | false => rw [if_neg (by simp), if_neg (by simp)]
  rw [if_neg k1, if_neg k1]
  by_cases k2 : kd = 2
  · rw [if_pos k2, if_pos k2, if_pos h2, if_pos h3, if_pos (by simp; omega)]
  rw [if_neg k2, if_neg k2]
  by_cases k3 : X.length = 0
  · rw [if_pos (by omega), if_pos k3]
  have h5 : (X.length : Int) ≤ ((X ++ [c]).length : Int) := by omega
  rw [if_neg (by omega), if_neg k3, if_pos h2, if_pos h5, Option.bind_some, Int.toNat_natCast, List.take_left]
  by_cases k4 : kd = 3
  · have hw2 : wrap64 ((X.length : Int) - 1) = ((X.length - 1 : Nat) : Int) := by unfold wrap64; omega
    rw [if_pos k4, if_pos k4, if_pos h3, hw2, if_pos (by omega), if_pos (by omega), Int.toNat_natCast]
    rcases List.eq_nil_or_concat X with rfl | ⟨Y, z, rfl⟩
    · exact absurd rfl k3
    · rw [List.concat_eq_append]
      simp
  · rw [if_neg k4, if_neg k4]
set_option maxHeartbeats 1000000 in
set_option maxRecDepth 100000 in
theorem jdo_calls (base g n t : Nat) (ok : Nat → Prop) (st : JSt) (kd : Int) (key value : ByteArray) (w : World) (h : JM base ok g st w) (hok : ∀ k, ok k → k < w.heap.size) (hd : JBd n t st) (hn : n ≤ 1000) (ht : t ≤ 1000) (hb : base ≤ w.heap.size) :
    Calls Try.prog 9 #[.pointer (some ⟨g, 0, none⟩), .agg #[.int .i64 kd, .string key, .string value]] w (JPost base ok g (doJ st kd key value).1 (.int .i64 (doJ st kd key value).2) w) := by
  have hb1 : Below w.heap.size w (w.alloc (.cells #[.int .i64 kd, .string key, .string value] 33)) := (Below.refl _ w).alloc (Nat.le_refl _) _
  have n1 := my_alloc_new w (.cells #[.int .i64 kd, .string key, .string value] 33)
  have z0 : (w.alloc (.cells #[.int .i64 kd, .string key, .string value] 33)).cell? ⟨w.heap.size, 0, none⟩ = some (.int .i64 kd) := (blk_cell n1 0).trans rfl
  have z1 : (w.alloc (.cells #[.int .i64 kd, .string key, .string value] 33)).cell? ⟨w.heap.size, 1, none⟩ = some (.string key) := (blk_cell n1 1).trans rfl
  have z2 : (w.alloc (.cells #[.int .i64 kd, .string key, .string value] 33)).cell? ⟨w.heap.size, 2, none⟩ = some (.string value) := (blk_cell n1 2).trans rfl
  have h1 := h.below hb1
  have hcl := hd.cur.2
  have hll := hd.len
  have hlm : ∀ l ∈ st.lv, l.length ≤ 1000000 := fun l hl => by have := hd.lvl l hl; omega
  have hbase : base ≤ (w.alloc (.cells #[.int .i64 kd, .string key, .string value] 33)).heap.size := Nat.le_trans hb hb1.size
  have key2 : ∀ st' r w', JPost base ok g st' r (w.alloc (.cells #[.int .i64 kd, .string key, .string value] 33)) (.returned r) w' → JPost base ok g st' r w (.returned r) w' := fun st' r w' hp =>
    ⟨rfl, hp.2.1.mono (fun k hk => hk.imp_right (fun h => Nat.le_trans hb1.size h)), (JW.of_below hb1 : JW ok w _).trans hp.2.2 (fun k hk => .inl hk)⟩
  have same : JPost base ok g st (.int .i64 10) (w.alloc (.cells #[.int .i64 kd, .string key, .string value] 33)) (.returned (.int .i64 10)) (w.alloc (.cells #[.int .i64 kd, .string key, .string value] 33)) := ⟨rfl, h1.mono (fun k hk => .inl hk), JW.of_below (Below.refl _ _)⟩
  clear n1 h hb
  unfold doJ
  by_cases k0 : kd = 0
  · rw [if_pos k0]
    subst k0
    go_enter Try.func9, Try.ntmps9
    go_wp2_with fail
    refine (j_set base g ok st key value _ h1 (by omega) (by omega) hlm hbase).mono ?_
    rintro e w2 ⟨rfl, hp⟩
    have hfin := Aside0.mk (key2 (setJ st key value) (.int .i64 (setE key value)) w2 ⟨rfl, hp⟩)
    clear key2 same hp h1
    go_wp2
    go_ret
    exact hfin.out
  rw [if_neg k0]
  by_cases k1 : kd = 1
  · rw [if_pos k1]
    subst k1
    go_enter Try.func9, Try.ntmps9
    go_wp2_with fail
    refine (j_del base g ok st key _ h1 (by omega) (by omega) hlm hbase).mono ?_
    rintro e w2 ⟨rfl, hp⟩
    have hfin := Aside0.mk (key2 (delJ st key) (.int .i64 (delE st key)) w2 ⟨rfl, hp⟩)
    clear key2 same hp h1
    go_wp2
    go_ret
    exact hfin.out
  rw [if_neg k1]
  by_cases k2 : kd = 2
  · rw [if_pos k2]
    subst k2
    go_enter Try.func9, Try.ntmps9
    go_wp2_with fail
    refine (j_begin base g ok st _ h1 (by omega) hbase).mono ?_
    rintro e w2 ⟨rfl, hp⟩
    have hfin := Aside0.mk (key2 (begJ st) (.int .i64 0) _ ⟨rfl, hp⟩)
    clear key2 same hp h1
    go_wp2
    go_ret
    exact hfin.out
  rw [if_neg k2]
  have kk0 : (kd == 0) = false := beq_eq_false_iff_ne.2 k0
  have kk1 : (kd == 1) = false := beq_eq_false_iff_ne.2 k1
  have kk2 : (kd == 2) = false := beq_eq_false_iff_ne.2 k2
  by_cases k3 : kd = 3
  · by_cases k4 : st.lv.length = 0
    · rw [if_pos k4]
      subst k3
      go_enter Try.func9, Try.ntmps9
      go_wp2_with fail
      refine (j_commit0 base g ok st _ h1 k4).mono ?_
      rintro e w2 ⟨rfl, hw2⟩
      rw [hw2]
      have hfin := Aside0.mk (key2 st (.int .i64 10) _ same)
      clear key2 same h1 hw2
      go_wp2
      go_ret
      exact hfin.out
    · rw [if_neg k4, if_pos k3]
      subst k3
      go_enter Try.func9, Try.ntmps9
      go_wp2_with fail
      refine (j_commit base g ok st _ h1 (by omega) (by omega) hlm hbase).mono ?_
      rintro e w2 ⟨rfl, hp⟩
      have hfin := Aside0.mk (key2 (comJ st) (.int .i64 0) w2 ⟨rfl, hp⟩)
      clear key2 same hp h1
      go_wp2
      go_ret
      exact hfin.out
  · have kk3 : (kd == 3) = false := beq_eq_false_iff_ne.2 k3
    by_cases k4 : st.lv.length = 0
    · rw [if_pos k4]
      go_enter Try.func9, Try.ntmps9
      go_wp2_with fail
      refine (j_roll0 base g ok st _ h1 k4).mono ?_
      rintro e w2 ⟨rfl, hb2⟩
      have hfin := Aside0.mk (key2 st (.int .i64 10) w2 ⟨rfl, (h1.below hb2).mono (fun k hk => .inl hk), JW.of_below hb2⟩)
      clear key2 same h1 hb2
      go_wp2
      go_ret
      exact hfin.out
    · rw [if_neg k4, if_neg k3]
      go_enter Try.func9, Try.ntmps9
      go_wp2_with fail
      refine (j_rollback base g ok st _ h1 (by omega) (by omega) (by
        have h8 : (lvAt st.lv (st.lv.length - 1)).length ≤ t := by
          unfold lvAt
          rw [List.getD_eq_getElem?_getD, List.getElem?_eq_getElem (by omega)]
          exact hd.lvl _ (List.getElem_mem _)
        omega) hbase).mono ?_
      rintro e w2 ⟨rfl, hp⟩
      have hfin := Aside0.mk (key2 (rolJ st) (.int .i64 0) w2 ⟨rfl, hp⟩)
      clear key2 same hp h1
      go_wp2
      go_ret
      exact hfin.out

end Go.Proofs.Ytcbaojkfffodiaa.PJou
