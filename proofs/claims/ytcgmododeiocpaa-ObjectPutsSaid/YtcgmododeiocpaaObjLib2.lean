/- Plain facts on the object's Put and Read, as printed. No condition beyond those stated. -/
import Derived.Test.YtcgmododeiocpaaObjLib
namespace Go.Proofs.Ytcgmododeiocpaa.PureObj
open Go.RowKit Go.Proofs.Ytcgmododeiocpaa.PObj Go.Proofs.YtcgmododeiocpaaW.PrintWords Go.Proofs.YtcgmododeiocpaaW.PrintLast
set_option linter.unusedVariables false
set_option linter.unusedSimpArgs false
/-! ### texts in a list -/
def txt (t : ByteArray) : List UInt8 := (putS t).toList
theorem txt_head (t : ByteArray) (r : List UInt8) (c : UInt8) (h : c ≠ 34) : rdIs (ofL (txt t ++ r)) c = false := by
  rw [head_is]; unfold txt; rw [putS_toList]
  simpa using fun e => h e.symm
theorem textOk (k : Nat) (hk : 2000010 ≤ k) : RowOk (oneText k) (fun s => (((readS s).2.1, (readS s).2.2 == 0), (readS s).1)) txt (fun _ => True) 93 1000000 where
  h1 := fun s x hs hx => by
    unfold oneText
    rw [read_is s hs k (by omega), Option.bind_some, if_pos hx]
  h2 := fun s hs => (readS_size s).1
  h3 := fun s hs h => by
    rcases readS_cases s with e | ⟨t, r, e, e2⟩
    · try dsimp only at h
      rw [e] at h; exact absurd h (by decide)
    · (try dsimp only); rw [e]; exact ⟨e2, trivial⟩
  h4 := fun a r _ hl => by (try dsimp only); unfold txt; rw [read_putL]; rfl
  h5 := fun a r _ => txt_head a r 93 (by decide)
  h6 := by decide
/-! ### fields -/
def valT (a : S42) : List UInt8 := if a.f3 = true then 91 :: (rowT txt 0 a.f2 ++ [93]) else txt a.f1
def fieldT (a : S42) : List UInt8 := txt a.f0 ++ 58 :: valT a
def okF (a : S42) : Prop := a.f2.length ≤ 256 ∧ (a.f3 = true → a.f1 = ofL []) ∧ (a.f3 = false → a.f2 = [])
theorem field_spec (k : Nat) (hk : 2000010 ≤ k) (s : ByteArray) (hs : s.size ≤ 1000000) : ∃ q, rdField k s = some q ∧ q.1.1.size ≤ s.size ∧ (q.1.2 = true → s.toList = fieldT q.2 ++ q.1.1.toList ∧ okF q.2) := by
  unfold rdField
  rw [read_is s hs k (by omega), Option.bind_some]
  have hz := readS_size s
  rcases readS_cases s with h | ⟨t, r, h, h2⟩
  · rw [h]
    exact ⟨((ofL [], false), ⟨ofL [], ofL [], [], false⟩), rfl, Nat.zero_le _, fun e => absurd e (by decide)⟩
  · rw [h] at hz ⊢
    try dsimp only at hz ⊢
    obtain ⟨z1, z2, z3⟩ := hz
    rw [show (if ((0 : Int) == 0) = true then rdSign r true 58 else (r, false)) = rdSign r true 58 from rfl]
    cases hi : rdIs r 58 with
    | false =>
      rw [sign_no true hi]
      exact ⟨((r, false), ⟨t, ofL [], [], false⟩), rfl, z1, fun e => absurd e (by simp)⟩
    | true =>
      obtain ⟨t1, rfl⟩ := rdIs_cons hi
      rw [sign_yes]
      try dsimp only
      rw [if_pos rfl]
      rw [ofL_size, List.length_cons] at z1
      have z4 : (ofL t1).size ≤ s.size := by rw [ofL_size]; omega
      cases h91 : rdIs (ofL t1) 91 with
      | true =>
        rw [if_pos rfl]
        obtain ⟨q, e1, e2⟩ := rowF_total (textOk k hk) 91 (ofL t1) true (Nat.le_trans z4 hs)
        rw [e1, Option.bind_some]
        refine ⟨_, rfl, Nat.le_trans e2 z4, fun e => ?_⟩
        obtain ⟨⟨r2, ok2⟩, l⟩ := q
        have e : ok2 = true := e
        subst e
        obtain ⟨e3, e4, _⟩ := rowF_sound (textOk k hk) 91 (ofL t1) true (Nat.le_trans z4 hs) r2 l e1
        rw [ofL_toList] at e3
        refine ⟨?_, e4, fun _ => rfl, fun e => absurd e (by simp)⟩
        rw [h2, ofL_toList, e3]
        unfold fieldT valT
        try dsimp only
        rw [if_pos rfl]
        show txt t ++ _ = txt t ++ _ ++ _
        simp
      | false =>
        rw [if_neg (by simp), read_is _ (Nat.le_trans z4 hs) k (by omega), Option.bind_some]
        have hz2 := readS_size (ofL t1)
        refine ⟨_, rfl, Nat.le_trans hz2.1 z4, fun e => ?_⟩
        rcases readS_cases (ofL t1) with h3 | ⟨t2, r2, h3, h4⟩
        · (try dsimp only at e); rw [h3] at e; exact absurd e (by decide)
        · rw [h3]
          rw [ofL_toList] at h4
          refine ⟨?_, by simp, fun e => absurd e (by simp), fun _ => rfl⟩
          rw [h2, ofL_toList, h4]
          unfold fieldT valT
          try dsimp only
          rw [if_neg (by simp)]
          show txt t ++ _ = txt t ++ _ ++ _
          simp [txt]
theorem field_complete (k : Nat) (hk : 2000010 ≤ k) (a : S42) (r : List UInt8) (ha : okF a) (hl : (fieldT a ++ r).length ≤ 1000000) : rdField k (ofL (fieldT a ++ r)) = some ((ofL r, true), a) := by
  obtain ⟨f0, f1, f2, f3⟩ := a
  obtain ⟨o1, o2, o3⟩ := ha
  try dsimp only at o1 o2 o3
  unfold rdField
  rw [read_is _ (by rw [ofL_size]; exact hl) k (by rw [ofL_size]; omega), Option.bind_some]
  unfold fieldT at hl ⊢
  try dsimp only at hl ⊢
  rw [List.append_assoc] at hl ⊢
  unfold txt at hl ⊢
  rw [read_putL]
  try dsimp only
  rw [show ∀ q : ByteArray, (if ((0 : Int) == 0) = true then rdSign q true 58 else (q, false)) = rdSign q true 58 from fun _ => rfl, List.cons_append, sign_yes]
  try dsimp only
  rw [if_pos rfl]
  cases f3 with
  | true =>
    obtain rfl := o2 rfl
    have hv : valT ⟨f0, ofL [], f2, true⟩ ++ r = 91 :: (rowT txt 0 f2 ++ 93 :: r) := by
      unfold valT; (try dsimp only); rw [if_pos rfl]; simp
    rw [List.cons_append, List.length_append, List.length_cons] at hl
    rw [hv] at hl ⊢
    have h91 : rdIs (ofL (91 :: (rowT txt 0 f2 ++ 93 :: r))) 91 = true := by rw [head_is]; rfl
    rw [if_pos h91, rowF_complete (textOk k hk) 91 f2 r o1 (fun _ _ => trivial) (by omega), Option.bind_some]
    rfl
  | false =>
    obtain rfl := o3 rfl
    have hv : valT ⟨f0, f1, [], false⟩ ++ r = txt f1 ++ r := by unfold valT; (try dsimp only); rw [if_neg (by simp)]
    rw [List.cons_append, List.length_append, List.length_cons] at hl
    rw [hv] at hl ⊢
    have h91 := txt_head f1 r 91 (by decide)
    rw [if_neg (by rw [h91]; simp), read_is _ (by rw [ofL_size]; omega) k (by rw [ofL_size]; omega), Option.bind_some]
    unfold txt
    rw [read_putL]
    rfl
theorem fieldT_head (a : S42) (r : List UInt8) (c : UInt8) (h : c ≠ 34) : rdIs (ofL (fieldT a ++ r)) c = false := by
  unfold fieldT; rw [List.append_assoc]; exact txt_head _ _ _ h
theorem fieldOk (k : Nat) (hk : 2000010 ≤ k) : RowOk (oneField k) (fun s => (rdField k s).getD ((s, false), z42)) fieldT okF 125 1000000 where
  h1 := fun s x hs hx => by
    obtain ⟨q, e, _⟩ := field_spec k hk s hs
    unfold oneField
    rw [e, Option.bind_some, if_pos hx]; rfl
  h2 := fun s hs => by
    obtain ⟨q, e, e2, _⟩ := field_spec k hk s hs
    (try dsimp only); rw [e]; exact e2
  h3 := fun s hs h => by
    obtain ⟨q, e, _, e3⟩ := field_spec k hk s hs
    (try dsimp only at h ⊢); rw [e] at h ⊢; exact e3 h
  h4 := fun a r ha hl => by (try dsimp only); rw [field_complete k hk a r ha hl]; rfl
  h5 := fun a r _ => fieldT_head a r 125 (by decide)
  h6 := by decide
/-! ### lengths -/
theorem rowT_mem {α : Type} (put : α → List UInt8) : ∀ (l : List α) (n : Nat) (a : α), a ∈ l → (put a).length ≤ (rowT put n l).length
  | [], _, _, h => absurd h (by simp)
  | b :: l, n, a, h => by
    simp only [rowT, List.length_append]
    rcases List.mem_cons.1 h with h | h
    · subst h; omega
    · have := rowT_mem put l (n + 1) a h; omega
theorem rowT_len {α : Type} (put : α → List UInt8) (M : Nat) : ∀ (l : List α) (n : Nat), (∀ a ∈ l, (put a).length ≤ M) → (rowT put n l).length ≤ l.length * (M + 1)
  | [], _, _ => by simp [rowT]
  | b :: l, n, h => by
    have h1 := h b (by simp)
    have h2 := rowT_len put M l (n + 1) (fun a ha => h a (by simp [ha]))
    have h3 : (if n = 0 then ([] : List UInt8) else [44]).length ≤ 1 := by split <;> simp
    simp only [rowT, List.length_append, List.length_cons]
    rw [Nat.add_mul]
    omega
theorem rowT_count {α : Type} (put : α → List UInt8) (hp : ∀ a, 0 < (put a).length) : ∀ (l : List α) (n : Nat), l.length ≤ (rowT put n l).length
  | [], _ => by simp [rowT]
  | b :: l, n => by
    have h1 := hp b
    have h2 := rowT_count put hp l (n + 1)
    simp only [rowT, List.length_append, List.length_cons]
    omega
theorem rowT_tail {α : Type} (put : α → List UInt8) : ∀ (l : List α) (n : Nat), rowT put (n + 1) l = Lib.joinTail [44] (l.map put)
  | [], _ => rfl
  | b :: l, n => by
    simp only [rowT]
    rw [if_neg (by omega), rowT_tail put l (n + 1)]
    simp [Lib.joinTail]
theorem rowT_join {α : Type} (put : α → List UInt8) (l : List α) : rowT put 0 l = Lib.join (l.map put) [44] := by
  cases l with
  | nil => rfl
  | cons b l => rw [List.map_cons, Lib.join_cons]; simp only [rowT]; rw [if_pos trivial, rowT_tail]; simp
theorem rowT_snoc {α : Type} (put : α → List UInt8) : ∀ (l : List α) (n : Nat) (a : α), rowT put n (l ++ [a]) = rowT put n l ++ (if n + l.length = 0 then [] else [44]) ++ put a
  | [], n, a => by simp [rowT]
  | b :: l, n, a => by
    rw [List.cons_append]
    simp only [rowT]
    rw [rowT_snoc put l (n + 1) a, if_neg (by omega : ¬ n + 1 + l.length = 0), if_neg (by rw [List.length_cons]; omega : ¬ n + (b :: l).length = 0)]
    simp
theorem txt_len (t : ByteArray) : t.size + 2 ≤ (txt t).length := putS_len t
theorem txt_le (t : ByteArray) : (txt t).length ≤ 6 * t.size + 2 := by have := put_size t; unfold txt; rw [← ba_size]; exact this
theorem key_len (a : S42) : a.f0.size + 3 ≤ (fieldT a).length := by
  unfold fieldT; rw [List.length_append, List.length_cons]; have := txt_len a.f0; omega
/-! ### the whole text -/
def objT (l : List S42) : List UInt8 := 123 :: (rowT fieldT 0 l ++ [125])
theorem fineL_shape : ∀ (l : List S42) (seen : List (List UInt8)), fineL seen l = true → ∀ a ∈ l, (a.f3 = true → a.f1 = ofL []) ∧ (a.f3 = false → a.f2 = [])
  | [], _, _, _, h => absurd h (by simp)
  | x :: t, seen, hf, a, h => by
    simp only [fineL] at hf
    by_cases c1 : x.f0.toList ∈ seen
    · rw [if_pos c1] at hf; exact absurd hf (by simp)
    · rw [if_neg c1] at hf
      by_cases c2 : x.f3 = true ∧ x.f1.toList ≠ []
      · rw [if_pos c2] at hf; exact absurd hf (by simp)
      · rw [if_neg c2] at hf
        by_cases c3 : x.f3 = false ∧ 0 < x.f2.length
        · rw [if_pos c3] at hf; exact absurd hf (by simp)
        · rw [if_neg c3] at hf
          rcases List.mem_cons.1 h with h | h
          · subst h
            exact ⟨fun e => ba_ext (by rw [ofL_toList]; exact Classical.byContradiction fun e2 => c2 ⟨e, e2⟩), fun e => List.length_eq_zero_iff.1 (by have : ¬ 0 < a.f2.length := fun e2 => c3 ⟨e, e2⟩; omega)⟩
          · exact fineL_shape t _ hf a h
theorem fine_is (l : List S42) (h1 : l.length ≤ 1000000000) (h2 : ∀ a ∈ l, a.f0.size ≤ 1000000000) : object_fine.f l = some (fineL [] l) := by
  unfold object_fine.f
  rw [if_pos ⟨h1, List.all_eq_true.2 (fun a ha => decide_eq_true (h2 a ha))⟩]
theorem objRead_cases (k : Nat) (hk : 2000010 ≤ k) (s : ByteArray) (hs : s.size ≤ 1000000) :
    object_Read.f k s = some ([], 6) ∨ ∃ l, object_Read.f k s = some (l, 0) ∧ s.toList = objT l ∧ fineL [] l = true ∧ l.length ≤ 256 ∧ ∀ a ∈ l, okF a := by
  unfold object_Read.f
  obtain ⟨⟨⟨r, ok⟩, l⟩, e1, e2⟩ := rowF_total (fieldOk k hk) 123 s true hs
  rw [e1, Option.bind_some]
  try dsimp only
  by_cases hc : ok = true ∧ r.toList = []
  · rw [if_pos hc]
    obtain ⟨rfl, hr⟩ := hc
    obtain ⟨e3, e4, e5⟩ := rowF_sound (fieldOk k hk) 123 s true hs r l e1
    rw [hr] at e3
    have hlen := congrArg List.length e3
    rw [← ba_size, List.length_cons, List.length_append] at hlen
    have hkey : ∀ a ∈ l, a.f0.size ≤ 1000000000 := fun a ha => by
      have h1 := rowT_mem fieldT l 0 a ha
      have h2 := key_len a
      omega
    rw [fine_is l (by omega) hkey, Option.bind_some]
    cases hf : fineL [] l with
    | false => rw [if_neg (by simp)]; exact .inl rfl
    | true => rw [if_pos rfl]; exact .inr ⟨l, rfl, e3, hf, e4, e5⟩
  · rw [if_neg hc]; exact .inl rfl
theorem objRead_complete (k : Nat) (hk : 2000010 ≤ k) (l : List S42) (hf : fineL [] l = true) (hl : l.length ≤ 256) (h2 : ∀ a ∈ l, a.f2.length ≤ 256) (hs : (objT l).length ≤ 1000000) : object_Read.f k (ofL (objT l)) = some (l, 0) := by
  unfold object_Read.f
  have hok : ∀ a ∈ l, okF a := fun a ha => ⟨h2 a ha, fineL_shape l [] hf a ha⟩
  have hkey : ∀ a ∈ l, a.f0.size ≤ 1000000000 := fun a ha => by
    have h1 := rowT_mem fieldT l 0 a ha
    have h2 := key_len a
    unfold objT at hs
    rw [List.length_cons, List.length_append] at hs
    omega
  unfold objT at hs ⊢
  rw [rowF_complete (fieldOk k hk) 123 l [] hl hok hs, Option.bind_some]
  try dsimp only
  rw [if_pos ⟨rfl, ofL_toList []⟩, fine_is l (by omega) hkey, Option.bind_some, if_pos hf]
end Go.Proofs.Ytcgmododeiocpaa.PureObj
