/- Written by wip/reuse.py: plain facts on the printed names functions, for another print. No condition beyond those stated. -/
import Derived.Test.YtcgmododeiocpaaScrHexa
namespace Go.Proofs.Ytcgmododeiocpaa.PureScr
open Go.RowKit Go.Proofs.Ytcgmododeiocpaa.PScr Go.Proofs.YtcgmododeiocpaaW.PrintWords Go.Proofs.YtcgmododeiocpaaW.PrintLast
set_option linter.unusedVariables false
set_option linter.unusedSimpArgs false
theorem plainDec_iff (l : List UInt8) (hn : l ≠ []) : plainDec l ↔ ¬ (1 < (ofL l).size ∧ bt (ofL l) 0 = 48) := by
  obtain ⟨c, t, rfl⟩ := List.exists_cons_of_ne_nil hn
  have hb : bt (ofL (c :: t)) 0 = ((c.toNat : Nat) : Int) := by
    have := bt_get (ofL (c :: t)) 0 (by rw [ofL_toList]; simp)
    simp only [ofL_toList] at this
    exact this
  rw [hb, ofL_size]
  unfold plainDec
  simp only [List.length_cons, List.head?_cons, ne_eq, Option.some.injEq]
  constructor
  · rintro (h | h) ⟨h1, h2⟩
    · omega
    · exact h (UInt8.toNat_inj.1 (by have : (48 : UInt8).toNat = 48 := rfl; omega))
  · intro h
    by_cases hl : t.length = 0
    · exact .inl (by omega)
    · right
      intro he
      apply h
      rw [he]
      exact ⟨by omega, rfl⟩
theorem digits_ev (n : Nat) : n < 10 ^ 15 → Ev (fun k => script_digits.f k (n : Int)) (ofL (dec n)) := by
  induction n using Nat.strongRecOn with
  | _ n ih =>
    intro hn
    by_cases h : n < 10
    · refine ⟨1, fun k hk => ?_⟩
      obtain ⟨k, rfl⟩ : ∃ m, k = m + 1 := ⟨k - 1, by omega⟩
      simp only [script_digits.f]
      rw [if_pos (by omega), dec_lt h]
      congr 1
      unfold strOfNums ofL
      rw [w64 (by omega) (by omega), List.map_cons, List.map_nil, show ((48 + (n : Int)) % 256).toNat = 48 + n by omega]
    · obtain ⟨K1, h1⟩ := ih (n / 10) (by omega) (by omega)
      obtain ⟨K2, h2⟩ := ih (n % 10) (by omega) (by omega)
      refine ⟨max K1 K2 + 1, fun k hk => ?_⟩
      obtain ⟨k, rfl⟩ : ∃ m, k = m + 1 := ⟨k - 1, by omega⟩
      have e1 : wrap64 (Int.tdiv (n : Int) 10) = ((n / 10 : Nat) : Int) := by
        rw [Int.tdiv_eq_ediv_of_nonneg (by omega), w64 (by omega) (by omega)]; rfl
      have e2 : Int.tmod (n : Int) 10 = ((n % 10 : Nat) : Int) := by
        rw [Int.tmod_eq_emod_of_nonneg (by omega)]; rfl
      have h1' : script_digits.f k ((n / 10 : Nat) : Int) = _ := h1 k (by omega)
      have h2' : script_digits.f k ((n % 10 : Nat) : Int) = _ := h2 k (by omega)
      simp only [script_digits.f]
      rw [if_neg (by omega), e1, e2, h1', Option.bind_some, h2', Option.bind_some, ofL_size, ofL_size, if_pos]
      · congr 1
        apply ba_ext
        rw [ba_append, ofL_toList, ofL_toList, ofL_toList, dec_ge h, dec_lt (show n % 10 < 10 by omega)]
      · have := dec_len_le 14 (n / 10) (by omega)
        have := dec_len_le 14 (n % 10) (by omega)
        omega
theorem one_digit (n : Int) (h0 : 0 ≤ n) (h : n < 10) : strOfNums [(wrap64 (48 + n)) % 256] = ofL [UInt8.ofNat (48 + n.toNat)] := by
  unfold strOfNums ofL
  rw [w64 (by omega) (by omega), List.map_cons, List.map_nil, show ((48 + n) % 256).toNat = 48 + n.toNat by omega]
theorem refDigits_ev (n : Nat) (hn : n < 10 ^ 15) : Ev (fun k => footbridgeref03_Digits.f k (n : Int)) (ofL (dec n)) := by
  have loop : ∀ n : Nat, ∀ acc : ByteArray, n + acc.size ≤ 2000000000000000 → Ev (fun k => footbridgeref03_Digits.l0 k (n : Int) acc) (ofL (dec n ++ acc.toList)) := by
    intro n
    induction n using Nat.strongRecOn with
    | _ n ih =>
      intro acc ha
      by_cases h : n < 10
      · refine ⟨1, fun k hk => ?_⟩
        obtain ⟨k, rfl⟩ : ∃ m, k = m + 1 := ⟨k - 1, by omega⟩
        simp only [footbridgeref03_Digits.l0]
        rw [if_neg (by omega), Option.bind_some, one_digit _ (by omega) (by omega), ofL_size, if_pos (by simp; omega), dec_lt h]
        congr 1
        apply ba_ext
        rw [ba_append, ofL_toList, ofL_toList]
        rfl
      · have e2 : Int.tmod (n : Int) 10 = ((n % 10 : Nat) : Int) := by
          rw [Int.tmod_eq_emod_of_nonneg (by omega)]; rfl
        have e1 : wrap64 (Int.tdiv (n : Int) 10) = ((n / 10 : Nat) : Int) := by
          rw [Int.tdiv_eq_ediv_of_nonneg (by omega), w64 (by omega) (by omega)]; rfl
        obtain ⟨K, hK⟩ := ih (n / 10) (by omega) (ofL [UInt8.ofNat (48 + n % 10)] ++ acc) (by rw [ByteArray.size_append, ofL_size]; simp; omega)
        refine ⟨K + 1, fun k hk => ?_⟩
        obtain ⟨k, rfl⟩ : ∃ m, k = m + 1 := ⟨k - 1, by omega⟩
        have hK' : footbridgeref03_Digits.l0 k ((n / 10 : Nat) : Int) _ = _ := hK k (by omega)
        simp only [footbridgeref03_Digits.l0]
        rw [if_pos (by omega), e1, e2, Option.bind_some, one_digit _ (by omega) (by omega), ofL_size, if_pos (by simp; omega), Int.toNat_natCast, hK']
        congr 2
        rw [ba_append, ofL_toList, dec_ge h, List.append_assoc]
  have := loop n (⟨#[]⟩ : ByteArray) (by show n + 0 ≤ _; omega)
  have e : (⟨#[]⟩ : ByteArray).toList = [] := by rw [ByteArray.toList_eq]
  rw [e, List.append_nil] at this
  exact this

theorem ofL_extract (l : List UInt8) (a b : Nat) : (ofL l).extract a b = ofL ((l.take b).drop a) := by
  apply ba_ext; rw [ba_extract, ofL_toList, ofL_toList]
theorem ofL_drop (l : List UInt8) (a : Nat) : (ofL l).extract a (ofL l).size = ofL (l.drop a) := by
  rw [ofL_extract, ofL_size, List.take_length]
theorem ofL_tail (l : List UInt8) (a : Nat) : (ofL l).extract a l.length = ofL (l.drop a) := by
  rw [ofL_extract, List.take_length]
theorem ofL_append (l m : List UInt8) : ofL l ++ ofL m = ofL (l ++ m) := by
  apply ba_ext; rw [ba_append, ofL_toList, ofL_toList, ofL_toList]
theorem ofL_nil : (⟨#[]⟩ : ByteArray) = ofL [] := rfl
def cutL (c : UInt8) : List UInt8 → Option (List UInt8 × List UInt8)
  | [] => none
  | x :: t => if x = c then some ([], t) else (cutL c t).map fun p => (x :: p.1, p.2)
theorem cutL_some {c : UInt8} : ∀ {l a b : List UInt8}, cutL c l = some (a, b) → l = a ++ c :: b
  | [], a, b, h => by simp [cutL] at h
  | x :: t, a, b, h => by
    simp only [cutL] at h
    by_cases hx : x = c
    · rw [if_pos hx] at h
      simp only [Option.some.injEq, Prod.mk.injEq] at h
      obtain ⟨rfl, rfl⟩ := h
      rw [hx]; rfl
    · rw [if_neg hx] at h
      obtain ⟨p, hp, he⟩ := Option.map_eq_some_iff.1 h
      simp only [Prod.mk.injEq] at he
      obtain ⟨rfl, rfl⟩ := he
      rw [List.cons_append, ← cutL_some (a := p.1) (b := p.2) hp]
theorem index_none {c : UInt8} : ∀ {l : List UInt8}, cutL c l = none → Lib.indexByte l c = -1
  | [], _ => rfl
  | x :: t, h => by
    simp only [cutL] at h
    by_cases hx : x = c
    · rw [if_pos hx] at h; simp at h
    · rw [if_neg hx] at h
      have ih := index_none (Option.map_eq_none_iff.1 h)
      simp [Lib.indexByte, ih, hx]
theorem index_some {c : UInt8} : ∀ {l a b : List UInt8}, cutL c l = some (a, b) → Lib.indexByte l c = (a.length : Int)
  | [], a, b, h => by simp [cutL] at h
  | x :: t, a, b, h => by
    simp only [cutL] at h
    by_cases hx : x = c
    · rw [if_pos hx] at h
      simp only [Option.some.injEq, Prod.mk.injEq] at h
      obtain ⟨rfl, rfl⟩ := h
      simp [Lib.indexByte, hx]
    · rw [if_neg hx] at h
      obtain ⟨p, hp, he⟩ := Option.map_eq_some_iff.1 h
      simp only [Prod.mk.injEq] at he
      obtain ⟨rfl, rfl⟩ := he
      have ih := index_some (a := p.1) (b := p.2) hp
      simp [Lib.indexByte, ih, hx]
      try omega
def cutS (c : UInt8) (l : List UInt8) (nf : ByteArray) : ByteArray × ByteArray × Bool := match cutL c l with
  | some (a, b) => (ofL a, ofL b, true)
  | none => (nf, ofL [], false)
theorem cut_is (l : List UInt8) (c : UInt8) (hl : l.length ≤ 1000000) : strings_Cut.f (ofL l) (ofL [c]) = some (cutS c l (ofL l)) := by
  unfold strings_Cut.f stringslite_Cut.f stringslite_Index.f cutS
  rw [ofL_toList, ofL_toList]
  cases h : cutL c l with
  | none =>
    simp only
    rw [index_none h, Option.bind_some, if_neg (by decide)]
    rfl
  | some p =>
    obtain ⟨a, b⟩ := p
    have hs := cutL_some h
    have hlen := congrArg List.length hs
    rw [List.length_append, List.length_cons] at hlen
    simp only
    have e1 : wrap64 ((a.length : Int) + ((ofL [c]).size : Int)) = ((a.length + 1 : Nat) : Int) := by
      rw [ofL_size, w64 (by simp; omega) (by simp; omega)]; simp
    rw [index_some h, Option.bind_some, if_pos (by omega), if_pos (by omega), e1, ofL_size, if_pos (by omega), if_pos (by omega), if_pos (by omega), Option.bind_some, Int.toNat_natCast, Int.toNat_natCast, ofL_tail, ofL_extract, List.drop_zero]
    congr 2
    · rw [hs, List.take_left]
    · congr 2
      rw [hs, show a ++ c :: b = (a ++ [c]) ++ b by simp, show a.length + 1 = (a ++ [c]).length by simp, List.drop_left]
/-- The number as the reference counts it. -/
def ival (t : List UInt8) (n : Int) : Int := t.foldl (fun n c => n * 10 + (c.toNat : Int) - 48) n
theorem ival_digs : ∀ (t : List UInt8) (n : Nat), (∀ c ∈ t, isDig c) → ival t (n : Int) = ((t.foldl dstep n : Nat) : Int)
  | [], n, _ => rfl
  | c :: t, n, h => by
    have hc := h c (by simp)
    have : (n : Int) * 10 + (c.toNat : Int) - 48 = ((dstep n c : Nat) : Int) := by unfold dstep; unfold isDig at hc; omega
    show ival t ((n : Int) * 10 + (c.toNat : Int) - 48) = _
    rw [this, ival_digs t _ (fun d hd => h d (by simp [hd]))]
    rfl

end Go.Proofs.Ytcgmododeiocpaa.PureScr
