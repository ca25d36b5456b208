/- Plain facts on the printed functions of royalty and of its reference. -/
import Derived.Test.YtfjneffmgmcdaaaRoyNames
namespace Go.Proofs.Ytfjneffmgmcdaaa.PureRoy
open Go.RowKit Go.Proofs.Ytfjneffmgmcdaaa.PRoy Go.Proofs.YtfjneffmgmcdaaaW.PrintWords Go.Proofs.YtfjneffmgmcdaaaW.PrintLast
set_option linter.unusedVariables false
set_option linter.unusedSimpArgs false
theorem ofL_extract (l : List UInt8) (a b : Nat) : (ofL l).extract a b = ofL ((l.take b).drop a) := by
  apply ba_ext; rw [ba_extract, ofL_toList, ofL_toList]
theorem ofL_drop (l : List UInt8) (a : Nat) : (ofL l).extract a (ofL l).size = ofL (l.drop a) := by
  rw [ofL_extract, ofL_size, List.take_length]
theorem ofL_tail (l : List UInt8) (a : Nat) : (ofL l).extract a l.length = ofL (l.drop a) := by
  rw [ofL_extract, List.take_length]
theorem ofL_append (l m : List UInt8) : ofL l ++ ofL m = ofL (l ++ m) := by
  apply ba_ext; rw [ba_append, ofL_toList, ofL_toList, ofL_toList]
theorem ofL_nil : (⟨#[]⟩ : ByteArray) = ofL [] := rfl
/-! ### Cut -/
def cutL (c : UInt8) : List UInt8 → Option (List UInt8 × List UInt8)
  | [] => none
  | x :: t => if x = c then some ([], t) else (cutL c t).map fun p => (x :: p.1, p.2)
theorem cutL_some {c : UInt8} : ∀ {l a b : List UInt8}, cutL c l = some (a, b) → l = a ++ c :: b
  | [], a, b, h => by simp [cutL] at h
  | x :: t, a, b, h => by
    simp only [cutL] at h
    by_cases hx : x = c
    · rw [if_pos hx] at h
      simp only [Option.some.injEq, Prod.mk.injEq] at h
      obtain ⟨rfl, rfl⟩ := h
      rw [hx]; rfl
    · rw [if_neg hx] at h
      obtain ⟨p, hp, he⟩ := Option.map_eq_some_iff.1 h
      simp only [Prod.mk.injEq] at he
      obtain ⟨rfl, rfl⟩ := he
      rw [List.cons_append, ← cutL_some (a := p.1) (b := p.2) hp]
theorem index_none {c : UInt8} : ∀ {l : List UInt8}, cutL c l = none → Lib.indexByte l c = -1
  | [], _ => rfl
  | x :: t, h => by
    simp only [cutL] at h
    by_cases hx : x = c
    · rw [if_pos hx] at h; simp at h
    · rw [if_neg hx] at h
      have ih := index_none (Option.map_eq_none_iff.1 h)
      simp [Lib.indexByte, ih, hx]
theorem index_some {c : UInt8} : ∀ {l a b : List UInt8}, cutL c l = some (a, b) → Lib.indexByte l c = (a.length : Int)
  | [], a, b, h => by simp [cutL] at h
  | x :: t, a, b, h => by
    simp only [cutL] at h
    by_cases hx : x = c
    · rw [if_pos hx] at h
      simp only [Option.some.injEq, Prod.mk.injEq] at h
      obtain ⟨rfl, rfl⟩ := h
      simp [Lib.indexByte, hx]
    · rw [if_neg hx] at h
      obtain ⟨p, hp, he⟩ := Option.map_eq_some_iff.1 h
      simp only [Prod.mk.injEq] at he
      obtain ⟨rfl, rfl⟩ := he
      have ih := index_some (a := p.1) (b := p.2) hp
      simp [Lib.indexByte, ih, hx]
      try omega
def cutS (c : UInt8) (l : List UInt8) (nf : ByteArray) : ByteArray × ByteArray × Bool := match cutL c l with
  | some (a, b) => (ofL a, ofL b, true)
  | none => (nf, ofL [], false)
theorem cut_is (l : List UInt8) (c : UInt8) (hl : l.length ≤ 1000000) : strings_Cut.f (ofL l) (ofL [c]) = some (cutS c l (ofL l)) := by
  unfold strings_Cut.f stringslite_Cut.f stringslite_Index.f cutS
  rw [ofL_toList, ofL_toList]
  cases h : cutL c l with
  | none =>
    simp only
    rw [index_none h, Option.bind_some, if_neg (by decide)]
    rfl
  | some p =>
    obtain ⟨a, b⟩ := p
    have hs := cutL_some h
    have hlen := congrArg List.length hs
    rw [List.length_append, List.length_cons] at hlen
    simp only
    have e1 : wrap64 ((a.length : Int) + ((ofL [c]).size : Int)) = ((a.length + 1 : Nat) : Int) := by
      rw [ofL_size, w64 (by simp; omega) (by simp; omega)]; simp
    rw [index_some h, Option.bind_some, if_pos (by omega), if_pos (by omega), e1, ofL_size, if_pos (by omega), if_pos (by omega), if_pos (by omega), Option.bind_some, Int.toNat_natCast, Int.toNat_natCast, ofL_tail, ofL_extract, List.drop_zero]
    congr 2
    · rw [hs, List.take_left]
    · congr 2
      rw [hs, show a ++ c :: b = (a ++ [c]) ++ b by simp, show a.length + 1 = (a ++ [c]).length by simp, List.drop_left]
theorem until_is (l : List UInt8) (c : UInt8) (hl : l.length ≤ 1000000) (k : Nat) (hk : l.length + 1 ≤ k) : footbridgeref33_until.f k (ofL l) (c.toNat : Int) = some (cutS c l (ofL [])) := by
  have loop : ∀ (r p : List UInt8) (k : Nat), l = p ++ r → r.length + 1 ≤ k → footbridgeref33_until.l0 k (ofL l) (c.toNat : Int) (p.length : Int) = some (match cutL c r with
      | some (a, b) => (ofL (p ++ a), ofL b, true)
      | none => (ofL [], ofL [], false)) := by
    intro r
    induction r with
    | nil =>
      intro p k hp hk
      obtain ⟨k, rfl⟩ : ∃ m, k = m + 1 := ⟨k - 1, by omega⟩
      rw [List.append_nil] at hp
      simp only [footbridgeref33_until.l0]
      rw [ofL_size, hp, if_neg (by omega)]
      rfl
    | cons x r ih =>
      intro p k hp hk
      obtain ⟨k, rfl⟩ : ∃ m, k = m + 1 := ⟨k - 1, by omega⟩
      have hlen := congrArg List.length hp
      rw [List.length_append, List.length_cons] at hlen
      rw [List.length_cons] at hk
      have hb : bt (ofL l) (p.length : Int) = (x.toNat : Int) := by
        rw [bt_toList _ _ (by omega), ofL_toList, Int.toNat_natCast, hp]
        simp [List.getD_eq_getElem?_getD]
      have e1 : wrap64 ((p.length : Int) + 1) = ((p.length + 1 : Nat) : Int) := by rw [w64 (by omega) (by omega)]; omega
      simp only [footbridgeref33_until.l0]
      rw [ofL_size, if_pos (by omega), if_pos (by omega), hb, e1]
      by_cases hx : x = c
      · subst hx
        rw [if_pos rfl, if_pos (by omega), if_pos (by omega), if_pos (by omega), Int.toNat_natCast, Int.toNat_natCast, ofL_tail, ofL_extract, List.drop_zero]
        simp only [cutL]
        rw [if_pos trivial]
        show _ = some (ofL (p ++ []), ofL r, true)
        rw [List.append_nil]
        congr 2
        · rw [hp, List.take_left]
        · congr 2
          rw [hp, show p ++ x :: r = (p ++ [x]) ++ r by simp, show p.length + 1 = (p ++ [x]).length by simp, List.drop_left]
      · have hne : ¬ (x.toNat : Int) = (c.toNat : Int) := fun h => hx (UInt8.toNat_inj.1 (by omega))
        have := ih (p ++ [x]) k (by rw [hp]; simp) (by omega)
        rw [List.length_append] at this
        rw [if_neg hne]
        refine Eq.trans this ?_
        simp only [cutL]
        rw [if_neg hx]
        cases cutL c r with
        | none => rfl
        | some q => simp
  have := loop l [] k rfl (by omega)
  unfold footbridgeref33_until.f cutS
  refine Eq.trans this ?_
  cases cutL c l with
  | none => rfl
  | some q => rfl
/-! ### numbers -/
def digsOk (t : List UInt8) : Prop := t ≠ [] ∧ t.length ≤ 5 ∧ plainDec t ∧ (∀ c ∈ t, isDig c)
instance (t : List UInt8) : Decidable (plainDec t) := by unfold plainDec; infer_instance
instance (t : List UInt8) : Decidable (digsOk t) := by unfold digsOk; infer_instance
theorem goR_is (s : ByteArray) (d : Nat) : ∀ (i n : Nat), i ≤ s.size → d = s.size + 1 - i → royalty_number.go s d i (n : Int) = if (∀ c ∈ s.toList.drop i, isDig c) then some (((s.toList.drop i).foldl dstep n : Nat) : Int) else none := by
  induction d with
  | zero => intro i n hi hd; omega
  | succ d ih =>
    intro i n hi hd
    unfold royalty_number.go
    by_cases h : i < s.size
    · have hl : i < s.toList.length := by rw [← ba_size]; exact h
      have hb := bt_get s i hl
      rw [if_pos h, List.drop_eq_getElem_cons hl]
      generalize s.toList[i] = c at *
      simp only [List.mem_cons, List.foldl_cons, forall_eq_or_imp]
      by_cases h1 : bt s i < 48
      · rw [if_pos h1, if_neg]
        rintro ⟨hc, _⟩
        unfold isDig at hc; omega
      · rw [if_neg h1]
        by_cases h2 : bt s i > 57
        · rw [if_pos h2, if_neg]
          rintro ⟨hc, _⟩
          unfold isDig at hc; omega
        · rw [if_neg h2]
          have hc : isDig c := by unfold isDig; omega
          have he : (n : Int) * 10 + (bt s i - 48) = ((dstep n c : Nat) : Int) := by unfold dstep; rw [hb]; unfold isDig at hc; omega
          rw [he, ih (i + 1) (dstep n c) (by omega) (by omega)]
          simp only [hc, true_and]
    · rw [if_neg h]
      have : s.toList.drop i = [] := by rw [List.drop_eq_nil_iff, ← ba_size]; omega
      rw [this]
      simp
def numS (t : List UInt8) : Int × Bool := if digsOk t then ((dval t : Int), decide ((dval t : Int) ≤ 10000)) else (0, false)
theorem numR_is (t : List UInt8) : royalty_number.f (ofL t) = some (numS t) := by
  unfold royalty_number.f numS
  rw [ofL_toList]
  by_cases h1 : t = []
  · rw [if_pos h1, if_neg (fun h : digsOk t => h.1 h1)]
  · rw [if_neg h1, ofL_size]
    by_cases h2 : 5 < t.length
    · rw [if_pos h2, if_neg (fun h : digsOk t => by have := h.2.1; omega)]
    · rw [if_neg h2]
      have hpi := plainDec_iff t h1
      rw [ofL_size] at hpi
      by_cases h3 : 1 < t.length ∧ bt (ofL t) 0 = 48
      · rw [if_pos h3, if_neg (fun h : digsOk t => hpi.1 h.2.2.1 h3)]
      · have hg := goR_is (ofL t) ((ofL t).size + 1) 0 0 (by omega) rfl
        rw [List.drop_zero, ofL_toList, ofL_size] at hg
        rw [if_neg h3, show (0 : Int) = ((0 : Nat) : Int) from rfl, hg]
        by_cases h4 : ∀ c ∈ t, isDig c
        · rw [if_pos h4, if_pos (show digsOk t from ⟨h1, by omega, hpi.2 h3, h4⟩)]; rfl
        · rw [if_neg h4, if_neg (fun h : digsOk t => h4 h.2.2.2)]
/-! ### Put -/
open Classical in
noncomputable def putS (o : List UInt8) (n : Int) (d : List UInt8) : ByteArray × Int := if plainP (ofL o) then (if n < 0 then (ofL [], 3) else if n > 10000 then (ofL [], 3) else (ofL ([114, 111, 121, 97, 108, 116, 121, 58] ++ o ++ [58] ++ dec n.toNat ++ [59] ++ d), 0)) else (ofL [], 7)
open Classical in
theorem check6 (s : ByteArray) : checkSpec 6 s = if plainP s then 0 else 7 := by
  unfold checkSpec
  rw [if_neg (by decide), if_neg (by decide), if_pos (by rfl)]
open Classical in
theorem put_ev (o : List UInt8) (n : Int) (d : List UInt8) (ho : o.length ≤ 1000000) (hd : d.length ≤ 1000000) : Ev (fun k => royalty_Put.f k (ofL o) n (ofL d)) (putS o n d) := by
  obtain ⟨K1, h1⟩ := check_ev 6 (ofL o) (by rw [ofL_size]; omega)
  by_cases hn : 0 ≤ n ∧ n ≤ 10000
  · obtain ⟨m, rfl⟩ := Int.eq_ofNat_of_zero_le hn.1
    have hm : m ≤ 10000 := by omega
    obtain ⟨K2, h2⟩ := digits_ev m (by omega)
    have hlen := dec_len_le 4 m (by omega)
    have a0 : ¬ (m : Int) < 0 := by omega
    have a1 : ¬ (m : Int) > 10000 := by omega
    refine ⟨max K1 K2, fun k hk => ?_⟩
    have h1 : names_Check.f k 6 (ofL o) = _ := h1 k (by omega)
    have h2 : royalty_digits.f k (m : Int) = _ := h2 k (by omega)
    show royalty_Put.f k _ _ _ = _
    unfold royalty_Put.f putS
    rw [h1, Option.bind_some, check6]
    by_cases hp : plainP (ofL o)
    · rw [if_pos hp, if_pos rfl, if_pos hp]
      simp only [if_neg a0, if_neg a1]
      rw [h2, show (⟨#[114, 111, 121, 97, 108, 116, 121, 58]⟩ : ByteArray) = ofL [114, 111, 121, 97, 108, 116, 121, 58] from rfl, show (⟨#[58]⟩ : ByteArray) = ofL [58] from rfl, show (⟨#[59]⟩ : ByteArray) = ofL [59] from rfl]
      simp only [ofL_append, ofL_size, List.length_append, List.length_cons, List.length_nil, Option.bind_some, Int.toNat_natCast]
      rw [if_pos (by omega), if_pos (by omega), if_pos (by omega), if_pos (by omega), if_pos (by omega)]
    · rw [if_neg hp, if_neg (by decide), if_neg hp]; rfl
  · refine ⟨K1, fun k hk => ?_⟩
    have h1 : names_Check.f k 6 (ofL o) = _ := h1 k (by omega)
    show royalty_Put.f k _ _ _ = _
    unfold royalty_Put.f putS
    rw [h1, Option.bind_some, check6]
    by_cases hp : plainP (ofL o)
    · rw [if_pos hp, if_pos rfl, if_pos hp]
      by_cases h3 : n < 0
      · rw [if_pos h3, if_pos h3]; rfl
      · rw [if_neg h3, if_pos (by omega), if_neg h3, if_pos (by omega)]; rfl
    · rw [if_neg hp, if_neg (by decide), if_neg hp]; rfl
open Classical in
theorem putRef_ev (o : List UInt8) (n : Int) (d : List UInt8) (ho : o.length ≤ 1000000) (hd : d.length ≤ 1000000) : Ev (fun k => footbridgeref33_Put.f k (ofL o) n (ofL d)) (putS o n d) := by
  obtain ⟨K1, h1⟩ := checkRef_ev 6 (ofL o) (by rw [ofL_size]; omega)
  by_cases hn : 0 ≤ n ∧ n ≤ 10000
  · obtain ⟨m, rfl⟩ := Int.eq_ofNat_of_zero_le hn.1
    have hm : m ≤ 10000 := by omega
    obtain ⟨K2, h2⟩ := refDigits_ev m (by omega)
    have hlen := dec_len_le 4 m (by omega)
    have a0 : ¬ (m : Int) < 0 := by omega
    have a1 : ¬ (m : Int) > 10000 := by omega
    refine ⟨max K1 K2, fun k hk => ?_⟩
    have h1 : footbridgeref03_Check.f k 6 (ofL o) = _ := h1 k (by omega)
    have h2 : footbridgeref03_Digits.f k (m : Int) = _ := h2 k (by omega)
    show footbridgeref33_Put.f k _ _ _ = _
    unfold footbridgeref33_Put.f putS
    rw [h1, Option.bind_some, check6]
    by_cases hp : plainP (ofL o)
    · rw [if_pos hp, if_pos rfl, if_pos hp]
      simp only [if_neg a0, if_neg a1]
      rw [h2, show (⟨#[114, 111, 121, 97, 108, 116, 121, 58]⟩ : ByteArray) = ofL [114, 111, 121, 97, 108, 116, 121, 58] from rfl, show (⟨#[58]⟩ : ByteArray) = ofL [58] from rfl, show (⟨#[59]⟩ : ByteArray) = ofL [59] from rfl]
      simp only [ofL_append, ofL_size, List.length_append, List.length_cons, List.length_nil, Option.bind_some, Int.toNat_natCast]
      rw [if_pos (by omega), if_pos (by omega), if_pos (by omega), if_pos (by omega), if_pos (by omega)]
    · rw [if_neg hp, if_neg (by decide), if_neg hp]; rfl
  · refine ⟨K1, fun k hk => ?_⟩
    have h1 : footbridgeref03_Check.f k 6 (ofL o) = _ := h1 k (by omega)
    show footbridgeref33_Put.f k _ _ _ = _
    unfold footbridgeref33_Put.f putS
    rw [h1, Option.bind_some, check6]
    by_cases hp : plainP (ofL o)
    · rw [if_pos hp, if_pos rfl, if_pos hp]
      by_cases h3 : n < 0
      · rw [if_pos h3, if_pos h3]; rfl
      · rw [if_neg h3, if_pos (by omega), if_neg h3, if_pos (by omega)]; rfl
    · rw [if_neg hp, if_neg (by decide), if_neg hp]; rfl
/-! ### Read -/
def roy : List UInt8 := [114, 111, 121, 97, 108, 116, 121, 58]
def badR : ByteArray × Int × ByteArray × Int := (ofL [], 0, ofL [], 19)
open Classical in
noncomputable def readS (s : List UInt8) : ByteArray × Int × ByteArray × Int :=
  if roy <+: s then match cutL 58 (s.drop 8) with
    | none => badR
    | some (o, r) => match cutL 59 r with
      | none => badR
      | some (t, d) => if digsOk t ∧ dval t ≤ 10000 ∧ plainP (ofL o) then (ofL o, (dval t : Int), ofL d, 0) else badR
  else (ofL [], 0, ofL s, 0)
open Classical in
theorem read_ev (s : List UInt8) (hs : s.length ≤ 1000000) : Ev (fun k => royalty_Read.f k (ofL s)) (readS s) := by
  have hcp := cutPrefix_is (ofL s) (⟨#[114, 111, 121, 97, 108, 116, 121, 58]⟩ : ByteArray)
  have hroy : (⟨#[114, 111, 121, 97, 108, 116, 121, 58]⟩ : ByteArray).toList = roy := by rw [ByteArray.toList_eq]; rfl
  rw [hroy, ofL_toList] at hcp
  unfold readS
  by_cases hp : roy <+: s
  · rw [if_pos hp] at hcp ⊢
    have hcp : strings_CutPrefix.f (ofL s) (⟨#[114, 111, 121, 97, 108, 116, 121, 58]⟩ : ByteArray) = some (ofL (s.drop 8), true) := hcp
    have hl1 : (s.drop 8).length ≤ 1000000 := by rw [List.length_drop]; omega
    cases h1 : cutL 58 (s.drop 8) with
    | none =>
      refine ⟨0, fun k _ => ?_⟩
      show royalty_Read.f k (ofL s) = _
      unfold royalty_Read.f
      rw [hcp, Option.bind_some, if_pos rfl, show (⟨#[58]⟩ : ByteArray) = ofL [58] from rfl, cut_is _ _ hl1, Option.bind_some]
      unfold cutS
      rw [h1]
      simp only
      rw [show (⟨#[59]⟩ : ByteArray) = ofL [59] from rfl, cut_is _ _ (by simp), Option.bind_some]
      unfold cutS
      simp only [cutL]
      rw [numR_is, Option.bind_some, if_neg (by simp)]
      rfl
    | some p =>
      obtain ⟨o, r⟩ := p
      have e1 := congrArg List.length (cutL_some h1)
      rw [List.length_append, List.length_cons] at e1
      simp only
      cases h2 : cutL 59 r with
      | none =>
        refine ⟨0, fun k _ => ?_⟩
        show royalty_Read.f k (ofL s) = _
        unfold royalty_Read.f
        rw [hcp, Option.bind_some, if_pos rfl, show (⟨#[58]⟩ : ByteArray) = ofL [58] from rfl, cut_is _ _ hl1, Option.bind_some]
        unfold cutS
        rw [h1]
        simp only
        rw [show (⟨#[59]⟩ : ByteArray) = ofL [59] from rfl, cut_is _ _ (by omega), Option.bind_some]
        unfold cutS
        rw [h2]
        simp only
        rw [numR_is, Option.bind_some, if_pos trivial, if_neg (by simp)]
        rfl
      | some q =>
        obtain ⟨t, d⟩ := q
        simp only
        obtain ⟨K, hK⟩ := check_ev 6 (ofL o) (by rw [ofL_size]; omega)
        refine ⟨K, fun k hk => ?_⟩
        have hK : names_Check.f k 6 (ofL o) = _ := hK k hk
        show royalty_Read.f k (ofL s) = _
        unfold royalty_Read.f
        rw [hcp, Option.bind_some, if_pos rfl, show (⟨#[58]⟩ : ByteArray) = ofL [58] from rfl, cut_is _ _ hl1, Option.bind_some]
        unfold cutS
        rw [h1]
        simp only
        rw [show (⟨#[59]⟩ : ByteArray) = ofL [59] from rfl, cut_is _ _ (by omega), Option.bind_some]
        unfold cutS
        rw [h2]
        simp only
        rw [numR_is, Option.bind_some, if_pos trivial, if_pos trivial]
        rw [hK, Option.bind_some, check6]
        unfold numS
        by_cases a1 : digsOk t
        · rw [if_pos a1]
          by_cases a2 : dval t ≤ 10000
          · rw [if_pos (decide_eq_true (show ((dval t : Int) ≤ 10000) from by omega))]
            by_cases a3 : plainP (ofL o)
            · rw [if_pos a3, if_pos rfl, if_pos ⟨a1, a2, a3⟩]
            · rw [if_neg a3, if_neg (by decide), if_neg (fun h => a3 h.2.2)]; rfl
          · rw [if_neg (show ¬ decide ((dval t : Int) ≤ 10000) = true from by rw [decide_eq_false (by omega)]; simp), if_neg (fun h => a2 h.2.1)]; rfl
        · rw [if_neg a1, if_neg (by simp), if_neg (fun h => a1 h.1)]; rfl
  · rw [if_neg hp] at hcp ⊢
    refine ⟨0, fun k _ => ?_⟩
    show royalty_Read.f k (ofL s) = _
    unfold royalty_Read.f
    rw [hcp, Option.bind_some, if_neg (by simp)]
    rfl
def bnd : Nat → Nat
  | 0 => 100
  | n + 1 => 10 * bnd n + 300
theorem bnd_succ (n : Nat) : bnd (n + 1) = 10 * bnd n + 300 := rfl
theorem bnd_le (n : Nat) (h : n ≤ 5) : bnd n ≤ 1000000000 := by
  have : ∀ i : Fin 6, bnd i.val ≤ 1000000000 := by decide
  exact this ⟨n, by omega⟩
theorem bnd_ex : ∃ f : Nat → Nat, f 0 = 100 ∧ (∀ n, f (n + 1) = 10 * f n + 300) ∧ ∀ n, n ≤ 5 → f n ≤ 1000000000 := ⟨bnd, rfl, bnd_succ, bnd_le⟩
/-- The number as the reference counts it. -/
def ival (t : List UInt8) (n : Int) : Int := t.foldl (fun n c => n * 10 + (c.toNat : Int) - 48) n
theorem ival_digs : ∀ (t : List UInt8) (n : Nat), (∀ c ∈ t, isDig c) → ival t (n : Int) = ((t.foldl dstep n : Nat) : Int)
  | [], n, _ => rfl
  | c :: t, n, h => by
    have hc := h c (by simp)
    have : (n : Int) * 10 + (c.toNat : Int) - 48 = ((dstep n c : Nat) : Int) := by unfold dstep; unfold isDig at hc; omega
    show ival t ((n : Int) * 10 + (c.toNat : Int) - 48) = _
    rw [this, ival_digs t _ (fun d hd => h d (by simp [hd]))]
    rfl
end Go.Proofs.Ytfjneffmgmcdaaa.PureRoy
