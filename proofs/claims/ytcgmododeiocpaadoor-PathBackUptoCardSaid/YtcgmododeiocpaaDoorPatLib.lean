/- Plain facts on the printed path functions. No condition beyond those stated. -/
import Derived.Test.YtcgmododeiocpaaDoorPPatx2
namespace Go.Proofs.YtcgmododeiocpaaDoor.PurePat
open Go.RowKit Go.Proofs.YtcgmododeiocpaaDoor.PPat Go.Proofs.YtcgmododeiocpaaDoorW.PrintWords Go.Proofs.YtcgmododeiocpaaDoorW.PrintLast
set_option linter.unusedVariables false
set_option linter.unusedSimpArgs false
theorem rdOf_get (l : List ByteArray) (i : Nat) (h : i < l.length) : rdOf ByteArray.empty l (i : Int) = l[i] := by
  unfold rdOf
  rw [Int.toNat_natCast, List.getD_eq_getElem?_getD, List.getElem?_eq_getElem h]; rfl
theorem ofL_append (l m : List UInt8) : ofL l ++ ofL m = ofL (l ++ m) := by
  apply ba_ext; rw [ba_append, ofL_toList, ofL_toList, ofL_toList]
theorem ofL_extract (l : List UInt8) (a b : Nat) : (ofL l).extract a b = ofL ((l.take b).drop a) := by
  apply ba_ext; rw [ba_extract, ofL_toList, ofL_toList]
theorem one_list (c : UInt8) : (⟨#[c]⟩ : ByteArray).toList = [c] := by rw [ByteArray.toList_eq]
theorem two_list (a b : UInt8) : (⟨#[a, b]⟩ : ByteArray).toList = [a, b] := by rw [ByteArray.toList_eq]
theorem map_ofL_toList (l : List ByteArray) : (l.map ByteArray.toList).map ofL = l := by
  rw [List.map_map]
  conv => rhs; rw [← List.map_id l]
  exact List.map_congr_left (fun x _ => ofL_of x)
theorem w1 (i : Nat) (h : i ≤ 4000000000000000000) : wrap64 ((i : Int) + 1) = ((i + 1 : Nat) : Int) := by rw [w64 (by omega) (by omega)]; omega
/-! ### parts -/
/-- A text's parts between bytes c. -/
def splitL (c : UInt8) : List UInt8 → List (List UInt8)
  | [] => [[]]
  | x :: t => if x = c then [] :: splitL c t else (match splitL c t with
    | [] => [[x]]
    | p :: ps => (x :: p) :: ps)
theorem splitL_ne (c : UInt8) : ∀ l, splitL c l ≠ []
  | [] => by simp [splitL]
  | x :: t => by
    simp only [splitL]
    by_cases h : x = c
    · rw [if_pos h]; simp
    · rw [if_neg h]; split <;> simp
theorem splitL_no {c : UInt8} : ∀ {l : List UInt8}, c ∉ l → splitL c l = [l]
  | [], _ => rfl
  | x :: t, h => by
    simp only [List.mem_cons, not_or] at h
    simp only [splitL]
    rw [if_neg (fun e => h.1 e.symm), splitL_no h.2]
theorem splitL_app {c : UInt8} (b : List UInt8) : ∀ {a : List UInt8}, c ∉ a → splitL c (a ++ c :: b) = a :: splitL c b
  | [], _ => by simp [splitL]
  | x :: t, h => by
    simp only [List.mem_cons, not_or] at h
    simp only [List.cons_append, splitL]
    rw [if_neg (fun e => h.1 e.symm), splitL_app b h.2]
theorem splitL_small (c : UInt8) : ∀ (l : List UInt8), ∀ p ∈ splitL c l, p.length ≤ l.length
  | [], p, hp => by
    simp only [splitL, List.mem_singleton] at hp
    subst hp; simp
  | x :: t, p, hp => by
    have ih := splitL_small c t
    simp only [splitL] at hp
    rw [List.length_cons]
    by_cases h : x = c
    · rw [if_pos h] at hp
      rcases List.mem_cons.1 hp with rfl | hp
      · simp
      · have := ih p hp; omega
    · rw [if_neg h] at hp
      cases hs : splitL c t with
      | nil => exact absurd hs (splitL_ne c t)
      | cons q qs =>
        rw [hs] at hp ih
        simp only at hp
        rcases List.mem_cons.1 hp with rfl | hp
        · have := ih q (by simp); rw [List.length_cons]; omega
        · have := ih p (by simp [hp]); omega
theorem splitL_len (c : UInt8) : ∀ (l : List UInt8), (splitL c l).length ≤ l.length + 1
  | [] => by simp [splitL]
  | x :: t => by
    have ih := splitL_len c t
    simp only [splitL]
    rw [List.length_cons]
    by_cases h : x = c
    · rw [if_pos h, List.length_cons]; omega
    · rw [if_neg h]
      cases hs : splitL c t with
      | nil => exact absurd hs (splitL_ne c t)
      | cons q qs => rw [hs] at ih; simp only [List.length_cons] at ih ⊢; omega
/-- Parts, put together again. -/
def glue (c : UInt8) (a : List UInt8) (ps : List (List UInt8)) : List UInt8 := a ++ ps.flatMap (c :: ·)
theorem splitL_glue (c : UInt8) : ∀ (ps : List (List UInt8)) (a : List UInt8), c ∉ a → (∀ p ∈ ps, c ∉ p) → splitL c (glue c a ps) = a :: ps
  | [], a, ha, _ => by rw [show glue c a [] = a from List.append_nil a]; exact splitL_no ha
  | p :: ps, a, ha, hp => by
    have e : glue c a (p :: ps) = a ++ c :: glue c p ps := by simp [glue]
    rw [e, splitL_app _ ha, splitL_glue c ps p (hp p (by simp)) (fun q hq => hp q (by simp [hq]))]
theorem glue_splitL (c : UInt8) : ∀ (s a : List UInt8) (ps : List (List UInt8)), splitL c s = a :: ps → glue c a ps = s ∧ ∀ p ∈ a :: ps, c ∉ p
  | [], a, ps, h => by
    simp only [splitL, List.cons.injEq] at h
    obtain ⟨rfl, rfl⟩ := h
    exact ⟨rfl, by simp⟩
  | x :: t, a, ps, h => by
    simp only [splitL] at h
    by_cases hx : x = c
    · rw [if_pos hx] at h
      simp only [List.cons.injEq] at h
      obtain ⟨rfl, rfl⟩ := h
      obtain ⟨q, qs, hq⟩ := List.exists_cons_of_ne_nil (splitL_ne c t)
      obtain ⟨h1, h2⟩ := glue_splitL c t q qs hq
      rw [hq]
      refine ⟨?_, fun p hp => ?_⟩
      · rw [show glue c [] (q :: qs) = c :: glue c q qs by simp [glue], h1, hx]
      · rcases List.mem_cons.1 hp with rfl | hp
        · simp
        · exact h2 p hp
    · rw [if_neg hx] at h
      obtain ⟨q, qs, hq⟩ := List.exists_cons_of_ne_nil (splitL_ne c t)
      obtain ⟨h1, h2⟩ := glue_splitL c t q qs hq
      rw [hq] at h
      simp only [List.cons.injEq] at h
      obtain ⟨rfl, rfl⟩ := h
      refine ⟨by rw [show glue c (x :: q) qs = x :: glue c q qs from rfl, h1], fun p hp => ?_⟩
      rcases List.mem_cons.1 hp with rfl | hp
      · rw [List.mem_cons, not_or]; exact ⟨fun e => hx e.symm, h2 q (by simp)⟩
      · exact h2 p (by simp [hp])
theorem cutL_pre {c : UInt8} : ∀ {l a b : List UInt8}, cutL c l = some (a, b) → c ∉ a
  | [], a, b, h => by simp [cutL] at h
  | x :: t, a, b, h => by
    simp only [cutL] at h
    by_cases hx : x = c
    · rw [if_pos hx] at h
      simp only [Option.some.injEq, Prod.mk.injEq] at h
      rw [← h.1]; simp
    · rw [if_neg hx] at h
      obtain ⟨p, hp, he⟩ := Option.map_eq_some_iff.1 h
      simp only [Prod.mk.injEq] at he
      obtain ⟨rfl, rfl⟩ := he
      have := cutL_pre (a := p.1) (b := p.2) hp
      simp only [List.mem_cons, not_or]
      exact ⟨fun e => hx e.symm, this⟩
theorem cutL_none {c : UInt8} : ∀ {l : List UInt8}, cutL c l = none → c ∉ l
  | [], _ => by simp
  | x :: t, h => by
    simp only [cutL] at h
    by_cases hx : x = c
    · rw [if_pos hx] at h; simp at h
    · rw [if_neg hx] at h
      have := cutL_none (Option.map_eq_none_iff.1 h)
      simp only [List.mem_cons, not_or]
      exact ⟨fun e => hx e.symm, this⟩
theorem splitK_is (c : UInt8) : ∀ (n : Nat) (s : List UInt8), s.length ≤ n → Lib.splitK [c] 0 (Lib.count s [c]) s = splitL c s := by
  intro n
  induction n with
  | zero =>
    intro s hs
    have : s = [] := List.length_eq_zero_iff.1 (by omega)
    subst this
    rw [Lib.count_one]; rfl
  | succ n ih =>
    intro s hs
    cases h : cutL c s with
    | none =>
      have h1 := cutL_none h
      have h2 : s.count c = 0 := List.count_eq_zero.2 h1
      rw [Lib.count_one, h2, splitL_no h1]; rfl
    | some p =>
      obtain ⟨a, b⟩ := p
      have h1 := cutL_some h
      have h2 := cutL_pre h
      have hi := cut_index_some h
      have hc : s.count c = b.count c + 1 := by rw [h1, List.count_append, List.count_eq_zero.2 h2]; simp
      have hl : a.length + (b.length + 1) = s.length := by rw [h1, List.length_append, List.length_cons]
      have ihb := ih b (by omega)
      rw [Lib.count_one] at ihb ⊢
      rw [hc]
      simp only [Lib.splitK]
      rw [Lib.index_one, hi, if_neg (by simp), Int.toNat_natCast]
      have e1 : s.take (a.length + 0) = a := by rw [h1, Nat.add_zero]; exact List.take_left
      have e2 : s.drop (a.length + [c].length) = b := by rw [h1, ← List.drop_drop]; simp
      rw [e1, e2, ihb, h1, splitL_app b h2]
theorem split_is (s : List UInt8) (h : s.length ≤ 100000000) : strings_Split.f (ofL s) (⟨#[47]⟩ : ByteArray) = some ((splitL 47 s).map ofL) := by
  unfold strings_Split.f
  rw [if_pos ⟨by rw [ByteArray.toList_eq], by rw [ofL_size]; exact h⟩]
  refine congrArg some ?_
  have h1 := Lib.splitB_data (⟨#[47]⟩ : ByteArray) 0 (Lib.countB (ofL s) (⟨#[47]⟩ : ByteArray)) (ofL s)
  have h2 : (ofL s).data.toList = s := by rw [← ByteArray.toList_eq, ofL_toList]
  have h3 : Lib.countB (ofL s) (⟨#[47]⟩ : ByteArray) = Lib.count s [47] := by
    show Lib.count (ofL s).data.toList [47] = _
    rw [h2]
  rw [h2, h3] at h1
  have h4 := h1.trans (splitK_is 47 s.length s (Nat.le_refl _))
  rw [← h4, h3, List.map_map]
  conv => lhs; rw [← List.map_id (Lib.splitB (⟨#[47]⟩ : ByteArray) 0 (Lib.count s [47]) (ofL s))]
  refine List.map_congr_left (fun x _ => ?_)
  show x = ofL x.data.toList
  rw [← ByteArray.toList_eq, ofL_of]
/-! ### hidden and shown -/
def hidL (l : List UInt8) : List UInt8 := l.flatMap fun c => if c = 37 then [37, 112] else if c = 47 then [37, 115] else [c]
theorem hidL_cons (c : UInt8) (t : List UInt8) : hidL (c :: t) = (if c = 37 then [37, 112] else if c = 47 then [37, 115] else [c]) ++ hidL t := by unfold hidL; rw [List.flatMap_cons]
theorem hid_repl : ∀ l : List UInt8, repl1 47 [37, 115] (repl1 37 [37, 112] l) = hidL l
  | [] => rfl
  | c :: t => by
    have ih := hid_repl t
    rw [hidL_cons, ← ih]
    unfold repl1
    rw [List.flatMap_cons, List.flatMap_append]
    congr 1
    by_cases h1 : c = 37
    · subst h1; rfl
    · rw [if_neg h1, if_neg h1]
      by_cases h2 : c = 47 <;> simp [h2]
theorem repl_len (c a b : UInt8) : ∀ l : List UInt8, (repl1 c [a, b] l).length ≤ 2 * l.length
  | [] => by simp [repl1]
  | x :: t => by
    have ih := repl_len c a b t
    unfold repl1 at ih ⊢
    rw [List.flatMap_cons, List.length_append, List.length_cons]
    have : (if x = c then [a, b] else [x]).length ≤ 2 := by split <;> simp
    omega
theorem hidL_len (l : List UInt8) : (hidL l).length ≤ 2 * l.length := by
  induction l with
  | nil => simp [hidL]
  | cons c t ih =>
    rw [hidL_cons, List.length_append, List.length_cons]
    have : (if c = 37 then [37, 112] else if c = 47 then [37, 115] else [c] : List UInt8).length ≤ 2 := by split <;> (try split) <;> simp
    omega
theorem hidL_no (l : List UInt8) : (47 : UInt8) ∉ hidL l := by
  induction l with
  | nil => simp [hidL]
  | cons c t ih =>
    rw [hidL_cons, List.mem_append, not_or]
    refine ⟨?_, ih⟩
    by_cases h1 : c = 37
    · simp [h1]
    · by_cases h2 : c = 47
      · simp [h1, h2]
      · simp [h1, h2, Ne.symm h2]
theorem shown_hid (l : List UInt8) : shownL (hidL l) = some l := by
  induction l with
  | nil => rfl
  | cons c t ih =>
    rw [hidL_cons]
    by_cases h1 : c = 37
    · rw [if_pos h1]
      show shownL (37 :: 112 :: hidL t) = _
      rw [shownL_at, if_pos rfl, ih, h1]; rfl
    · rw [if_neg h1]
      by_cases h2 : c = 47
      · rw [if_pos h2]
        show shownL (37 :: 115 :: hidL t) = _
        rw [shownL_at, if_neg (by decide), if_pos rfl, ih, h2]; rfl
      · rw [if_neg h2]
        show shownL (c :: hidL t) = _
        rw [shownL_ne _ h1, ih]; rfl
theorem hid_shown : ∀ (n : Nat) (p l : List UInt8), p.length ≤ n → shownL p = some l → (47 : UInt8) ∉ p → hidL l = p := by
  intro n
  induction n with
  | zero =>
    intro p l hn h h47
    have : p = [] := List.length_eq_zero_iff.1 (by omega)
    subst this
    obtain rfl : [] = l := Option.some.inj h
    rfl
  | succ n ih =>
    intro p l hn h h47
    cases p with
    | nil => obtain rfl : [] = l := Option.some.inj h; rfl
    | cons c t =>
      rw [List.length_cons] at hn
      rw [List.mem_cons, not_or] at h47
      by_cases h1 : c = 37
      · subst h1
        cases t with
        | nil => rw [shownL_end] at h; exact absurd h (by simp)
        | cons x u =>
          rw [List.length_cons] at hn
          rw [List.mem_cons, not_or] at h47
          rw [shownL_at] at h
          by_cases h2 : x = 112
          · rw [if_pos h2] at h
            obtain ⟨m, hm, rfl⟩ := Option.map_eq_some_iff.1 h
            rw [hidL_cons, if_pos rfl, ih u m (by omega) hm h47.2.2, h2]; rfl
          · rw [if_neg h2] at h
            by_cases h3 : x = 115
            · rw [if_pos h3] at h
              obtain ⟨m, hm, rfl⟩ := Option.map_eq_some_iff.1 h
              rw [hidL_cons, if_neg (by decide), if_pos rfl, ih u m (by omega) hm h47.2.2, h3]; rfl
            · rw [if_neg h3] at h; exact absurd h (by simp)
      · rw [shownL_ne _ h1] at h
        obtain ⟨m, hm, rfl⟩ := Option.map_eq_some_iff.1 h
        rw [hidL_cons, if_neg h1, if_neg (fun e => h47.1 e.symm), ih t m (by omega) hm h47.2]; rfl
theorem repl_is (s : ByteArray) (c a b : UInt8) (h : s.size ≤ 100000000) : strings_ReplaceAll.f s ⟨#[c]⟩ ⟨#[a, b]⟩ = some (ofL (repl1 c [a, b] s.toList)) := by
  unfold strings_ReplaceAll.f
  rw [one_list, two_list]
  exact if_pos ⟨h, rfl⟩
theorem hidden_is (s : ByteArray) (h : s.size ≤ 50000000) : path_hidden.f s = some (ofL (hidL s.toList)) := by
  unfold path_hidden.f
  have h1 := repl_len 37 37 112 s.toList
  rw [← ba_size] at h1
  rw [repl_is s 37 37 112 (by omega), Option.bind_some, repl_is _ 47 37 115 (by rw [ofL_size]; omega), Option.bind_some, ofL_toList, hid_repl]
/-- All parts, as they were. -/
def shAll : List (List UInt8) → Option (List (List UInt8))
  | [] => some []
  | p :: t => match shownL p with
    | none => none
    | some l => (shAll t).map (l :: ·)
theorem shownAll_is : ∀ ps : List (List UInt8), shownAll (ps.map ofL) = (shAll ps).map (·.map ofL)
  | [] => rfl
  | p :: t => by
    rw [List.map_cons]
    simp only [shownAll, shAll]
    rw [ofL_toList, shownAll_is t]
    cases shownL p with
    | none => rfl
    | some l => simp [Option.map_map]; rfl
theorem shAll_hid : ∀ ps : List (List UInt8), shAll (ps.map hidL) = some ps
  | [] => rfl
  | p :: t => by rw [List.map_cons]; simp only [shAll]; rw [shown_hid, shAll_hid t]; rfl
theorem shAll_back : ∀ ps qs : List (List UInt8), shAll ps = some qs → (∀ p ∈ ps, (47 : UInt8) ∉ p) → qs.map hidL = ps
  | [], qs, h, _ => by obtain rfl : [] = qs := Option.some.inj h; rfl
  | p :: t, qs, h, hn => by
    simp only [shAll] at h
    cases hp : shownL p with
    | none => rw [hp] at h; exact absurd h (by simp)
    | some l =>
      rw [hp] at h
      obtain ⟨m, hm, rfl⟩ := Option.map_eq_some_iff.1 h
      rw [List.map_cons, hid_shown p.length p l (Nat.le_refl _) hp (hn p (by simp)), shAll_back t m hm (fun q hq => hn q (by simp [hq]))]
def fin : List (List UInt8) → ByteArray × List ByteArray × Int
  | [] => ((⟨#[]⟩ : ByteArray), [], 6)
  | x :: t => (ofL x, t.map ofL, 0)
def splitSpec (s : List UInt8) : ByteArray × List ByteArray × Int := match shAll (splitL 47 s) with
  | none => ((⟨#[]⟩ : ByteArray), [], 6)
  | some ps => fin ps
theorem shAll_ne : ∀ {ps qs : List (List UInt8)}, shAll ps = some qs → ps ≠ [] → qs ≠ []
  | [], qs, _, h => absurd rfl h
  | p :: t, qs, h, _ => by
    simp only [shAll] at h
    cases hp : shownL p with
    | none => rw [hp] at h; exact absurd h (by simp)
    | some l =>
      rw [hp] at h
      obtain ⟨m, hm, rfl⟩ := Option.map_eq_some_iff.1 h
      simp
theorem pathSplit_is (s : List UInt8) (h : s.length ≤ 100000000) : path_Split.f (ofL s) = some (splitSpec s) := by
  unfold path_Split.f
  have hc : ((splitL 47 s).map ofL).all (fun x => decide (x.size ≤ 100000000)) ∧ 0 < ((splitL 47 s).map ofL).length := by
    refine ⟨List.all_eq_true.2 fun x hx => ?_, ?_⟩
    · obtain ⟨p, hp, rfl⟩ := List.mem_map.1 hx
      have := splitL_small 47 s p hp
      exact decide_eq_true (by rw [ofL_size]; omega)
    · rw [List.length_map]; exact List.length_pos_iff.2 (splitL_ne 47 s)
  rw [split_is s h, Option.bind_some, if_pos hc, shownAll_is]
  unfold splitSpec
  cases hp : shAll (splitL 47 s) with
  | none => rfl
  | some ps =>
    cases ps with
    | nil => exact absurd rfl (shAll_ne hp (splitL_ne 47 s))
    | cons x t => rfl
/-- A key. -/
def keyL (a : List UInt8) (ps : List (List UInt8)) : List UInt8 := glue 47 (hidL a) (ps.map hidL)
theorem split_key (a : List UInt8) (ps : List (List UInt8)) : shAll (splitL 47 (keyL a ps)) = some (a :: ps) := by
  unfold keyL
  rw [splitL_glue 47 _ _ (hidL_no a) (fun p hp => by obtain ⟨q, _, rfl⟩ := List.mem_map.1 hp; exact hidL_no q)]
  exact shAll_hid (a :: ps)
theorem splitSpec_key (a : List UInt8) (ps : List (List UInt8)) : splitSpec (keyL a ps) = (ofL a, ps.map ofL, 0) := by
  unfold splitSpec; rw [split_key]; rfl
theorem keyL_inj {a b : List UInt8} {ps qs : List (List UInt8)} (h : keyL a ps = keyL b qs) : a = b ∧ ps = qs := by
  have h1 := split_key a ps
  rw [h, split_key b qs] at h1
  simpa using (Option.some.inj h1).symm
theorem key_split (s : List UInt8) (a : List UInt8) (ps : List (List UInt8)) (h : shAll (splitL 47 s) = some (a :: ps)) : keyL a ps = s := by
  obtain ⟨q, qs, hq⟩ := List.exists_cons_of_ne_nil (splitL_ne 47 s)
  obtain ⟨h1, h2⟩ := glue_splitL 47 s q qs hq
  rw [hq] at h
  have h3 := shAll_back _ _ h h2
  rw [List.map_cons, List.cons.injEq] at h3
  unfold keyL
  rw [h3.1, h3.2, h1]
end Go.Proofs.YtcgmododeiocpaaDoor.PurePat
