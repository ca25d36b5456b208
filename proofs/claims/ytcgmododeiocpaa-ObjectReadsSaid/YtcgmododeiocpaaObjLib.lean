/- Plain facts on the object's reader: rows of things between two signs, texts, fields. No condition beyond those stated. -/
import Derived.Test.YtcgmododeiocpaaObjQuo
import Derived.Test.YtcgmododeiocpaaPObjx5
namespace Go.Proofs.Ytcgmododeiocpaa.PureObj
open Go.RowKit Go.Proofs.Ytcgmododeiocpaa.PObj Go.Proofs.YtcgmododeiocpaaW.PrintWords Go.Proofs.YtcgmododeiocpaaW.PrintLast
set_option linter.unusedVariables false
set_option linter.unusedSimpArgs false
/-! ### what a text with marks was -/
theorem rdS_cases : ∀ (n : Nat) (l : List UInt8) (acc : List Int), rdS n l acc = failR ∨ ∃ (s : List UInt8) (r : ByteArray), rdS n l acc = (strOfNums (acc ++ s.map fun c => (c.toNat : Int)), r, 0) ∧ l = s.flatMap qtOne ++ 34 :: r.toList
  | 0, l, acc => .inl rfl
  | n + 1, l, acc => by
    simp only [rdS]
    by_cases hl : l = []
    · rw [if_pos hl]; exact .inl rfl
    · rw [if_neg hl]
      by_cases h34 : (l.getD 0 0).toNat = 34
      · rw [if_pos h34]
        refine .inr ⟨[], ofL (l.drop 1), by rw [List.map_nil, List.append_nil], ?_⟩
        rw [ofL_toList, List.flatMap_nil, List.nil_append]
        exact cons34 l hl h34
      · rw [if_neg h34]
        have hso := stS_sound l hl h34
        cases hs : stS l with
        | none => exact .inl rfl
        | some p =>
          obtain ⟨c, m⟩ := p
          obtain ⟨_, h2⟩ := hso c m hs
          rcases rdS_cases n (l.drop m) (acc ++ [(c.toNat : Int)]) with h | ⟨s, r, h3, h4⟩
          · exact .inl h
          · refine .inr ⟨c :: s, r, ?_, ?_⟩
            · show rdS n (l.drop m) _ = _
              rw [h3, List.append_assoc]; rfl
            · rw [h4] at h2
              rw [h2, List.flatMap_cons, List.append_assoc]
theorem nums_of (s : List UInt8) : strOfNums (s.map fun c => (c.toNat : Int)) = ofL s := by
  have := nums_back (ofL s)
  rwa [ofL_toList] at this
theorem putS_toList (t : ByteArray) : (putS t).toList = 34 :: (t.toList.flatMap qtOne ++ [34]) := by unfold putS; rw [ofL_toList]
theorem readS_cases (s : ByteArray) : readS s = failR ∨ ∃ t r, readS s = (t, r, 0) ∧ s.toList = (putS t).toList ++ r.toList := by
  unfold readS
  by_cases h0 : s.toList = []
  · rw [if_pos h0]; exact .inl rfl
  · rw [if_neg h0]
    by_cases h34 : (s.toList.getD 0 0).toNat = 34
    · rw [if_pos h34]
      rcases rdS_cases (s.size + 1) (s.toList.drop 1) [] with h | ⟨t, r, h1, h2⟩
      · exact .inl h
      · refine .inr ⟨ofL t, r, by rw [h1, List.nil_append, nums_of], ?_⟩
        rw [putS_toList, ofL_toList]
        conv => lhs; rw [cons34 _ h0 h34, h2]
        simp
    · rw [if_neg h34]; exact .inl rfl
theorem flat_len (l : List UInt8) : l.length ≤ (l.flatMap qtOne).length := by
  induction l with
  | nil => simp
  | cons c l ih => rw [List.flatMap_cons, List.length_append, List.length_cons]; have := qt_pos c; omega
theorem putS_len (t : ByteArray) : t.size + 2 ≤ (putS t).toList.length := by
  rw [putS_toList, List.length_cons, List.length_append, List.length_singleton, ba_size]; have := flat_len t.toList; omega
theorem readS_size (s : ByteArray) : (readS s).2.1.size ≤ s.size ∧ (readS s).1.size ≤ s.size ∧ ((readS s).2.2 = 0 → (readS s).2.1.size + 2 ≤ s.size) := by
  rcases readS_cases s with h | ⟨t, r, h, h2⟩
  · rw [h]; exact ⟨Nat.zero_le _, Nat.zero_le _, fun h => absurd h (by decide)⟩
  · have h3 := congrArg List.length h2
    have h4 := putS_len t
    rw [List.length_append, ← ba_size, ← ba_size] at h3
    rw [← ba_size] at h4
    have h5 := ba_size r
    rw [h]
    exact ⟨by show r.size ≤ _; omega, by show t.size ≤ _; omega, fun _ => by show r.size + 2 ≤ _; omega⟩
theorem read_putL (t : ByteArray) (r : List UInt8) : readS (ofL ((putS t).toList ++ r)) = (t, ofL r, 0) := by
  have h := read_put t (ofL r)
  rw [← h]
  congr 1
  apply ba_ext
  rw [ba_append, ofL_toList, ofL_toList]
/-! ### rows -/
theorem head_is (l : List UInt8) (c : UInt8) : rdIs (ofL l) c = (l.head? == some c) := by unfold rdIs; rw [ofL_toList]
theorem rdIs_cons {s : ByteArray} {c : UInt8} (h : rdIs s c = true) : ∃ t, s = ofL (c :: t) := by
  unfold rdIs at h
  cases hl : s.toList with
  | nil => rw [hl] at h; exact absurd h (by simp)
  | cons x t =>
    rw [hl, List.head?_cons] at h
    have : x = c := by simpa using h
    subst this
    exact ⟨t, by rw [← hl, ofL_of]⟩
theorem sign_yes (c : UInt8) (t : List UInt8) (ok : Bool) : rdSign (ofL (c :: t)) ok c = (ofL t, ok) := by
  unfold rdSign
  rw [head_is, List.head?_cons, if_pos (by simp), ofL_drop]; rfl
theorem sign_no {s : ByteArray} {c : UInt8} (ok : Bool) (h : rdIs s c = false) : rdSign s ok c = (s, false) := by unfold rdSign; rw [h]; rfl
theorem sign_size (s : ByteArray) (ok : Bool) (c : UInt8) : (rdSign s ok c).1.size ≤ s.size := by
  cases h : rdIs s c with
  | false => rw [sign_no ok h]; exact Nat.le_refl _
  | true => obtain ⟨t, rfl⟩ := rdIs_cons h; rw [sign_yes, ofL_size, ofL_size]; simp
theorem sign_true {s : ByteArray} {ok : Bool} {c : UInt8} (h : (rdSign s ok c).2 = true) : ok = true ∧ ∃ t, s = ofL (c :: t) ∧ rdSign s ok c = (ofL t, true) := by
  cases hi : rdIs s c with
  | false => rw [sign_no ok hi] at h; exact absurd h (by simp)
  | true =>
    obtain ⟨t, rfl⟩ := rdIs_cons hi
    rw [sign_yes] at h
    have h : ok = true := h
    subst h
    exact ⟨rfl, t, rfl, sign_yes _ _ _⟩
/-- Things, with commas, behind n others. -/
def rowT {α : Type} (put : α → List UInt8) : Nat → List α → List UInt8
  | _, [] => []
  | n, a :: l => (if n = 0 then [] else [44]) ++ put a ++ rowT put (n + 1) l
structure RowOk {α : Type} (one : ByteArray → List α → Option ((ByteArray × Bool) × List α)) (rd : ByteArray → (ByteArray × Bool) × α) (put : α → List UInt8) (okA : α → Prop) (c2 : UInt8) (B : Nat) : Prop where
  h1 : ∀ s x, s.size ≤ B → x.length < 300 → one s x = some ((rd s).1, x ++ [(rd s).2])
  h2 : ∀ s, s.size ≤ B → (rd s).1.1.size ≤ s.size
  h3 : ∀ s, s.size ≤ B → (rd s).1.2 = true → s.toList = put (rd s).2 ++ (rd s).1.1.toList ∧ okA (rd s).2
  h4 : ∀ a r, okA a → (put a ++ r).length ≤ B → rd (ofL (put a ++ r)) = ((ofL r, true), a)
  h5 : ∀ a r, okA a → rdIs (ofL (put a ++ r)) c2 = false
  h6 : c2 ≠ 44
section
variable {α : Type} {one : ByteArray → List α → Option ((ByteArray × Bool) × List α)} {rd : ByteArray → (ByteArray × Bool) × α} {put : α → List UInt8} {okA : α → Prop} {c2 : UInt8} {B : Nat}
theorem rowL_false (d n : Nat) (s : ByteArray) (x : List α) : rowL one c2 (d + 1) n s false x = some ((s, false), x) := by
  simp only [rowL]
  rw [if_neg (fun h => absurd h.1 (by simp)), if_neg (by simp)]
theorem rowL_end (d n : Nat) (s : ByteArray) (x : List α) (h : rdIs s c2 = true) : rowL one c2 (d + 1) n s true x = some (rdSign s true c2, x) := by
  rw [rowL, h, if_neg (fun h => absurd h.2 (by simp)), if_pos rfl]
theorem rowL_go (d n : Nat) (s : ByteArray) (x : List α) (h : rdIs s c2 = false) : rowL one c2 (d + 1) n s true x = (fun p : ByteArray × Bool => if p.2 = true ∧ n ≠ 256 then (one p.1 x).bind fun r => rowL one c2 d (n + 1) r.1.1 r.1.2 r.2 else rowL one c2 d (n + 1) p.1 false x) (if n = 0 then (s, true) else rdSign s true 44) := by
  rw [rowL, h, if_pos ⟨rfl, rfl⟩]
theorem comma_size (n : Nat) (s : ByteArray) : (if n = 0 then (s, true) else rdSign s true 44).1.size ≤ s.size := by
  by_cases h : n = 0
  · rw [if_pos h]; exact Nat.le_refl _
  · rw [if_neg h]; exact sign_size _ _ _
theorem rowL_total (H : RowOk one rd put okA c2 B) : ∀ (d n : Nat) (s : ByteArray) (ok : Bool) (x : List α), n + d = 300 → n ≤ 257 → x.length ≤ n → s.size ≤ B → (n = 257 → ok = false) → ∃ r, rowL one c2 d n s ok x = some r ∧ r.1.1.size ≤ s.size
  | 0, n, s, ok, x, h1, h2, _, _, _ => by omega
  | d + 1, n, s, ok, x, h1, h2, h3, h4, h5 => by
    cases ok with
    | false => exact ⟨_, rowL_false d n s x, Nat.le_refl _⟩
    | true =>
      have hn : n ≤ 256 := by
        by_cases e : n = 257
        · exact absurd (h5 e) (by simp)
        · omega
      cases hi : rdIs s c2 with
      | true =>
        rw [rowL_end d n s x hi]
        exact ⟨_, rfl, sign_size _ _ _⟩
      | false =>
        rw [rowL_go d n s x hi]
        have hc := comma_size n s
        generalize (if n = 0 then (s, true) else rdSign s true 44) = p at hc ⊢
        obtain ⟨s1, ok1⟩ := p
        dsimp only at hc ⊢
        by_cases hp : ok1 = true ∧ n ≠ 256
        · rw [if_pos hp, H.h1 s1 x (Nat.le_trans hc h4) (by omega), Option.bind_some]
          have hz := H.h2 s1 (Nat.le_trans hc h4)
          obtain ⟨r, e1, e2⟩ := rowL_total H d (n + 1) (rd s1).1.1 (rd s1).1.2 (x ++ [(rd s1).2]) (by omega) (by omega) (by rw [List.length_append, List.length_singleton]; omega) (Nat.le_trans hz (Nat.le_trans hc h4)) (fun e => absurd e (by omega))
          exact ⟨r, e1, Nat.le_trans e2 (Nat.le_trans hz hc)⟩
        · rw [if_neg hp]
          obtain ⟨r, e1, e2⟩ := rowL_total H d (n + 1) s1 false x (by omega) (by omega) (by omega) (Nat.le_trans hc h4) (fun _ => rfl)
          exact ⟨r, e1, Nat.le_trans e2 hc⟩
theorem rowL_sound (H : RowOk one rd put okA c2 B) : ∀ (d n : Nat) (s : ByteArray) (ok : Bool) (x : List α) (r : ByteArray) (y : List α), n + d = 300 → n ≤ 257 → x.length ≤ n → s.size ≤ B → (n = 257 → ok = false) → rowL one c2 d n s ok x = some ((r, true), y) →
    ∃ l, y = x ++ l ∧ s.toList = rowT put n l ++ c2 :: r.toList ∧ n + l.length ≤ 256 ∧ ∀ a ∈ l, okA a
  | 0, n, s, ok, x, r, y, h1, h2, _, _, _, _ => by omega
  | d + 1, n, s, ok, x, r, y, h1, h2, h3, h4, h5, h => by
    cases ok with
    | false => rw [rowL_false] at h; exact absurd h (by simp)
    | true =>
      have hn : n ≤ 256 := by
        by_cases e : n = 257
        · exact absurd (h5 e) (by simp)
        · omega
      cases hi : rdIs s c2 with
      | true =>
        rw [rowL_end d n s x hi] at h
        obtain ⟨t, rfl⟩ := rdIs_cons hi
        rw [sign_yes] at h
        simp only [Option.some.injEq, Prod.mk.injEq] at h
        obtain ⟨⟨rfl, _⟩, rfl⟩ := h
        exact ⟨[], by rw [List.append_nil], by rw [ofL_toList, ofL_toList]; rfl, by simpa using hn, by simp⟩
      | false =>
        rw [rowL_go d n s x hi] at h
        have hc := comma_size n s
        have hc2 : (if n = 0 then (s, true) else rdSign s true 44).2 = true → s.toList = (if n = 0 then [] else [44]) ++ (if n = 0 then (s, true) else rdSign s true 44).1.toList := by
          intro e
          by_cases h0 : n = 0
          · rw [if_pos h0, if_pos h0]; rfl
          · rw [if_neg h0] at e ⊢
            rw [if_neg h0]
            obtain ⟨_, t, rfl, e2⟩ := sign_true e
            rw [e2, ofL_toList, ofL_toList]; rfl
        generalize (if n = 0 then (s, true) else rdSign s true 44) = p at hc hc2 h
        obtain ⟨s1, ok1⟩ := p
        dsimp only at hc h
        by_cases hp : ok1 = true ∧ n ≠ 256
        · rw [if_pos hp, H.h1 s1 x (Nat.le_trans hc h4) (by omega), Option.bind_some] at h
          have hz := H.h2 s1 (Nat.le_trans hc h4)
          have hok : (rd s1).1.2 = true := by
            cases he : (rd s1).1.2 with
            | true => rfl
            | false =>
              rw [he] at h
              obtain ⟨d, rfl⟩ : ∃ d', d = d' + 1 := ⟨d - 1, by omega⟩
              rw [rowL_false] at h
              exact absurd h (by simp)
          obtain ⟨e3, e4⟩ := H.h3 s1 (Nat.le_trans hc h4) hok
          obtain ⟨l, e5, e6, e7, e8⟩ := rowL_sound H d (n + 1) _ _ _ r y (by omega) (by omega) (by rw [List.length_append, List.length_singleton]; omega) (Nat.le_trans hz (Nat.le_trans hc h4)) (fun e => absurd e (by omega)) h
          refine ⟨(rd s1).2 :: l, by rw [e5, List.append_assoc]; rfl, ?_, by rw [List.length_cons]; omega, ?_⟩
          · rw [hc2 hp.1]
            show _ ++ s1.toList = _
            rw [e3, e6]
            simp only [rowT, List.append_assoc]
          · intro a ha
            rcases List.mem_cons.1 ha with ha | ha
            · rw [ha]; exact e4
            · exact e8 a ha
        · rw [if_neg hp] at h
          obtain ⟨d, rfl⟩ : ∃ d', d = d' + 1 := ⟨d - 1, by omega⟩
          rw [rowL_false] at h
          exact absurd h (by simp)
theorem rowL_complete (H : RowOk one rd put okA c2 B) : ∀ (l : List α) (d n : Nat) (x : List α) (r : List UInt8), n + d = 300 → n + l.length ≤ 256 → (∀ a ∈ l, okA a) → x.length ≤ n → (rowT put n l ++ c2 :: r).length ≤ B →
    rowL one c2 d n (ofL (rowT put n l ++ c2 :: r)) true x = some ((ofL r, true), x ++ l)
  | [], d, n, x, r, h1, h2, _, _, _ => by
    rw [List.length_nil] at h2
    obtain ⟨d, rfl⟩ : ∃ d', d = d' + 1 := ⟨d - 1, by omega⟩
    have hi : rdIs (ofL (rowT put n ([] : List α) ++ c2 :: r)) c2 = true := by rw [head_is]; simp [rowT]
    rw [rowL_end d n _ x hi, List.append_nil]
    show some (rdSign (ofL (c2 :: r)) true c2, x) = _
    rw [sign_yes]
  | a :: l, d, n, x, r, h1, h2, h3, h4, h5 => by
    rw [List.length_cons] at h2
    obtain ⟨d, rfl⟩ : ∃ d', d = d' + 1 := ⟨d - 1, by omega⟩
    have ha := h3 a (by simp)
    have hrow : rowT put n (a :: l) ++ c2 :: r = (if n = 0 then [] else [44]) ++ (put a ++ (rowT put (n + 1) l ++ c2 :: r)) := by simp only [rowT, List.append_assoc]
    rw [hrow] at h5 ⊢
    have hi : rdIs (ofL ((if n = 0 then [] else [44]) ++ (put a ++ (rowT put (n + 1) l ++ c2 :: r)))) c2 = false := by
      by_cases h0 : n = 0
      · rw [if_pos h0]; exact H.h5 a _ ha
      · rw [if_neg h0, head_is]
        have := H.h6
        simpa using fun e => this e.symm
    have hp : (if n = 0 then (ofL ((if n = 0 then [] else [44]) ++ (put a ++ (rowT put (n + 1) l ++ c2 :: r))), true) else rdSign (ofL ((if n = 0 then [] else [44]) ++ (put a ++ (rowT put (n + 1) l ++ c2 :: r)))) true 44) = (ofL (put a ++ (rowT put (n + 1) l ++ c2 :: r)), true) := by
      by_cases h0 : n = 0
      · rw [if_pos h0, if_pos h0]; rfl
      · rw [if_neg h0, if_neg h0]; exact sign_yes _ _ _
    have hl : (put a ++ (rowT put (n + 1) l ++ c2 :: r)).length ≤ B := by rw [List.length_append] at h5; omega
    rw [rowL_go d n _ x hi, hp]
    dsimp only
    rw [if_pos ⟨rfl, by omega⟩, H.h1 _ x (by rw [ofL_size]; exact hl) (by omega), Option.bind_some, H.h4 a _ ha hl]
    dsimp only
    rw [rowL_complete H l d (n + 1) (x ++ [a]) r (by omega) (by omega) (fun b hb => h3 b (by simp [hb])) (by rw [List.length_append, List.length_singleton]; omega) (by rw [List.length_append] at hl; omega), List.append_assoc]
    rfl
/-! ### between two signs -/
theorem rowF_total (H : RowOk one rd put okA c2 B) (c1 : UInt8) (s : ByteArray) (ok : Bool) (hs : s.size ≤ B) : ∃ r, rowF one c1 c2 s ok [] = some r ∧ r.1.1.size ≤ s.size := by
  have hz := sign_size s ok c1
  obtain ⟨r, e1, e2⟩ := rowL_total H 300 0 (rdSign s ok c1).1 (rdSign s ok c1).2 [] rfl (by omega) (by simp) (Nat.le_trans hz hs) (fun e => absurd e (by decide))
  exact ⟨r, e1, Nat.le_trans e2 hz⟩
theorem rowF_sound (H : RowOk one rd put okA c2 B) (c1 : UInt8) (s : ByteArray) (ok : Bool) (hs : s.size ≤ B) (r : ByteArray) (l : List α) (h : rowF one c1 c2 s ok [] = some ((r, true), l)) :
    s.toList = c1 :: (rowT put 0 l ++ c2 :: r.toList) ∧ l.length ≤ 256 ∧ ∀ a ∈ l, okA a := by
  have hz := sign_size s ok c1
  unfold rowF at h
  obtain ⟨l', e1, e2, e3, e4⟩ := rowL_sound H 300 0 _ _ [] r l rfl (by omega) (by simp) (Nat.le_trans hz hs) (fun e => absurd e (by decide)) h
  rw [List.nil_append] at e1
  subst e1
  have hk : (rdSign s ok c1).2 = true := by
    cases he : (rdSign s ok c1).2 with
    | true => rfl
    | false => rw [he, rowL_false 299] at h; exact absurd h (by simp)
  obtain ⟨_, t, rfl, e5⟩ := sign_true hk
  rw [e5] at e2
  rw [ofL_toList, ← e2, ofL_toList]
  exact ⟨rfl, by omega, e4⟩
theorem rowF_complete (H : RowOk one rd put okA c2 B) (c1 : UInt8) (l : List α) (r : List UInt8) (hl : l.length ≤ 256) (hok : ∀ a ∈ l, okA a) (hs : (c1 :: (rowT put 0 l ++ c2 :: r)).length ≤ B) :
    rowF one c1 c2 (ofL (c1 :: (rowT put 0 l ++ c2 :: r))) true [] = some ((ofL r, true), l) := by
  unfold rowF
  rw [sign_yes]
  have := rowL_complete H l 300 0 [] r rfl (by omega) hok (by simp) (by rw [List.length_cons] at hs; omega)
  rwa [List.nil_append] at this
end
end Go.Proofs.Ytcgmododeiocpaa.PureObj
