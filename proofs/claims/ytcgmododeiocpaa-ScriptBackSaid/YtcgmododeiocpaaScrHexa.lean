/- Written by wip/reuse.py: plain facts on the printed names functions, for another print. No condition beyond those stated. -/
import Derived.Test.YtcgmododeiocpaaPScrx10
namespace Go.Proofs.Ytcgmododeiocpaa.PureScr
open Go.RowKit Go.Proofs.Ytcgmododeiocpaa.PScr Go.Proofs.YtcgmododeiocpaaW.PrintWords Go.Proofs.YtcgmododeiocpaaW.PrintLast
set_option linter.unusedVariables false
set_option linter.unusedSimpArgs false

/-! ### bytes and numbers -/
def isByte (n : Int) : Prop := 0 ≤ n ∧ n ≤ 255
theorem bytesOf_byte (s : ByteArray) : ∀ n ∈ bytesOf s, isByte n := by
  intro n hn
  unfold bytesOf at hn
  rw [List.mem_map] at hn
  obtain ⟨b, _, rfl⟩ := hn
  have := b.toNat_lt
  exact ⟨by omega, by omega⟩
theorem bytesOf_str (l : List Int) (h : ∀ n ∈ l, isByte n) : bytesOf (strOfNums l) = l := by
  unfold bytesOf strOfNums
  simp only [List.map_map]
  conv => rhs; rw [← List.map_id l]
  refine List.map_congr_left fun n hn => ?_
  have := h n hn
  unfold isByte at this
  simp [UInt8.toNat_ofNat']
  omega
theorem str_bytesOf (s : ByteArray) : strOfNums (bytesOf s) = s := by
  unfold bytesOf strOfNums
  simp only [List.map_map]
  have : (List.map ((fun n : Int => UInt8.ofNat n.toNat) ∘ fun b : UInt8 => ((b.toNat : Nat) : Int)) s.data.toList) = s.data.toList := by
    conv => rhs; rw [← List.map_id s.data.toList]
    refine List.map_congr_left fun b _ => ?_
    simp
  rw [this]
theorem str_inj {l m : List Int} (hl : ∀ n ∈ l, isByte n) (hm : ∀ n ∈ m, isByte n) (h : strOfNums l = strOfNums m) : l = m := by
  rw [← bytesOf_str l hl, ← bytesOf_str m hm, h]
theorem bt_drop (s : ByteArray) (i : Nat) (h : i < s.size) : (bytesOf s).drop i = bt s i :: (bytesOf s).drop (i + 1) := by
  have hl : i < (bytesOf s).length := by rw [bytesOf_length]; exact h
  rw [List.drop_eq_getElem_cons hl]
  congr 1
  have := rd_bytesOf s i
  unfold rd at this
  rw [← this, Int.toNat_natCast, List.getD_eq_getElem?_getD, List.getElem?_eq_getElem hl]
  rfl
/-! ### digits -/
def hexP (l : List Int) : List Int := l.flatMap fun c => [hexDig (c / 16).toNat, hexDig (c % 16).toNat]
def halfI (a : Int) : Int := if 48 ≤ a ∧ a ≤ 57 then a - 48 else if 97 ≤ a ∧ a ≤ 102 then a - 87 else 16
theorem half_is (a : Int) : hexa_half.f a = some (halfI a) := rfl
theorem half_ref (a : Int) (k : Nat) (h : 1 ≤ k) (h0 : 0 ≤ a) (h1 : a ≤ 255) : footbridgeref02_half.f k a = some (halfI a) := by
  obtain ⟨k, rfl⟩ : ∃ m, k = m + 1 := ⟨k - 1, by omega⟩
  unfold footbridgeref02_half.f halfI
  simp only [footbridgeref02_half.j0]
  repeat' split
  all_goals (try simp only [decide_eq_true_iff, Bool.false_eq_true] at *)
  all_goals (first | (exfalso; omega) | (congr 1; omega))
theorem hexDig_byte (n : Nat) (h : n < 16) : 48 ≤ hexDig n ∧ hexDig n ≤ 102 := by unfold hexDig; split <;> omega
theorem half_dig (n : Nat) (h : n < 16) : halfI (hexDig n) = n := by
  unfold halfI hexDig
  repeat' split
  all_goals omega
theorem dig_half (a : Int) (h : halfI a ≠ 16) : hexDig (halfI a).toNat = a ∧ 0 ≤ halfI a ∧ halfI a < 16 := by
  unfold halfI at *
  split at h
  · rename_i h1; rw [if_pos h1]; unfold hexDig; rw [if_pos (by omega)]; omega
  · rename_i h1
    rw [if_neg h1]
    split at h
    · rename_i h2; rw [if_pos h2]; unfold hexDig; rw [if_neg (by omega)]; omega
    · exact absurd rfl h
theorem half_range (a : Int) : 0 ≤ halfI a ∧ halfI a ≤ 16 := by
  unfold halfI
  repeat' split
  all_goals omega
theorem hexP_byte (l : List Int) (h : ∀ n ∈ l, isByte n) : ∀ n ∈ hexP l, isByte n := by
  intro n hn
  unfold hexP at hn
  rw [List.mem_flatMap] at hn
  obtain ⟨c, hc, hn⟩ := hn
  have := h c hc
  unfold isByte at this
  have h1 := hexDig_byte (c / 16).toNat (by omega)
  have h2 := hexDig_byte (c % 16).toNat (by omega)
  simp only [List.mem_cons, List.not_mem_nil, or_false] at hn
  unfold isByte
  rcases hn with rfl | rfl <;> omega
theorem hexP_len (l : List Int) : (hexP l).length = 2 * l.length := by
  induction l with
  | nil => rfl
  | cons c l ih =>
    show (_ ++ hexP l).length = _
    rw [List.length_append, ih]
    simp; omega
theorem put_is (s : ByteArray) (h : s.size ≤ 1000000) : hexa_Put.f s = some (strOfNums (hexP (bytesOf s))) := by
  unfold hexa_Put.f; rw [if_pos h]; rfl
theorem digit_ref (c : Int) (h0 : 0 ≤ c) (h1 : c < 16) : footbridgeref02_digit.f c = some (hexDig c.toNat) := by
  unfold footbridgeref02_digit.f hexDig
  split
  · rw [if_pos (by omega)]; congr 1; omega
  · rw [if_neg (by omega)]; congr 1; omega
theorem putRef_ev (s : ByteArray) (hs : s.size ≤ 1000000) : Ev (fun k => footbridgeref02_Put.f k s) (strOfNums (hexP (bytesOf s))) := by
  have loop : ∀ (d i : Nat) (acc : List Int), d = s.size - i → i ≤ s.size → acc.length = 2 * i → ∀ k, d + 1 ≤ k → footbridgeref02_Put.l0 k s acc (i : Int) = some (strOfNums (acc ++ hexP ((bytesOf s).drop i))) := by
    intro d
    induction d with
    | zero =>
      intro i acc hd hi ha k hk
      obtain ⟨k, rfl⟩ : ∃ m, k = m + 1 := ⟨k - 1, by omega⟩
      simp only [footbridgeref02_Put.l0]
      rw [if_neg (by omega)]
      have : (bytesOf s).drop i = [] := by rw [List.drop_eq_nil_iff, bytesOf_length]; omega
      rw [this]
      show _ = some (strOfNums (acc ++ []))
      rw [List.append_nil]
    | succ d ih =>
      intro i acc hd hi ha k hk
      obtain ⟨k, rfl⟩ : ∃ m, k = m + 1 := ⟨k - 1, by omega⟩
      have hb := bt_range s i
      simp only [footbridgeref02_Put.l0]
      have e1 : Int.tdiv (bt s i) 16 % 256 = bt s i / 16 := by rw [Int.tdiv_eq_ediv_of_nonneg (by omega)]; omega
      have e2 : Int.tmod (bt s i) 16 = bt s i % 16 := by rw [Int.tmod_eq_emod_of_nonneg (by omega)]
      rw [if_pos (by omega), if_pos (by omega), e1, e2, digit_ref _ (by omega) (by omega), Option.bind_some, digit_ref _ (by omega) (by omega), Option.bind_some, Option.bind_some, if_pos (by simp only [List.length_cons, List.length_nil]; omega), w64 (by omega) (by omega), show ((i : Int) + 1) = ((i + 1 : Nat) : Int) from rfl, ih (i + 1) _ (by omega) (by omega) (by rw [List.length_append, ha]; simp; omega) k (by omega), bt_drop s i (by omega)]
      congr 2
      rw [List.append_assoc]
      rfl
  refine ⟨s.size + 1, fun k hk => ?_⟩
  have := loop s.size 0 [] (by omega) (by omega) rfl k hk
  exact this
/-! ### Read -/
def dec2 : List Int → Option (List Int)
  | [] => some []
  | [_] => none
  | a :: b :: t => if halfI a = 16 then none else if halfI b = 16 then none else (dec2 t).map fun l => (halfI a * 16 + halfI b) :: l
def rdSpec (s : ByteArray) : ByteArray × Int := if (s.size : Int) % 2 = 1 then (⟨#[]⟩, 6) else match dec2 (bytesOf s) with
  | some l => (strOfNums l, 0)
  | none => (⟨#[]⟩, 6)
theorem or_half (a b : Int) (h0 : 0 ≤ a) (h1 : a < 16) (g0 : 0 ≤ b) (g1 : b < 16) : Go.bits .or .u8 ((a * 16) % 256) b = a * 16 + b := by
  obtain ⟨m, rfl⟩ := Int.eq_ofNat_of_zero_le h0
  obtain ⟨n, rfl⟩ := Int.eq_ofNat_of_zero_le g0
  have : ∀ (m n : Fin 16), Go.bits .or .u8 ((((m.val : Nat) : Int) * 16) % 256) ((n.val : Nat) : Int) = ((m.val : Nat) : Int) * 16 + ((n.val : Nat) : Int) := by decide +kernel
  exact this ⟨m, by omega⟩ ⟨n, by omega⟩
theorem read_ev (s : ByteArray) (hs : s.size ≤ 1000000) : Ev (fun k => hexa_Read.f k s) (rdSpec s) := by
  by_cases he : (s.size : Int) % 2 = 1
  · refine ⟨0, fun k _ => ?_⟩
    show hexa_Read.f k s = _
    unfold hexa_Read.f rdSpec
    rw [if_pos he, if_pos he]
  · have loop : ∀ (d i : Nat) (done : List Int), d = s.size / 2 - i → i ≤ s.size / 2 → done.length = i → ∀ k, d + 1 ≤ k →
        hexa_Read.l0 k s (done ++ List.replicate d 0) ((s.size / 2 : Nat) : Int) (i : Int) = some (match dec2 ((bytesOf s).drop (2 * i)) with
          | some l => (strOfNums (done ++ l), 0)
          | none => (⟨#[]⟩, 6)) := by
      intro d
      induction d with
      | zero =>
        intro i done hd hi hl k hk
        obtain ⟨k, rfl⟩ : ∃ m, k = m + 1 := ⟨k - 1, by omega⟩
        simp only [hexa_Read.l0]
        rw [if_neg (by omega)]
        have : (bytesOf s).drop (2 * i) = [] := by rw [List.drop_eq_nil_iff, bytesOf_length]; omega
        rw [this]
        simp [dec2]
      | succ d ih =>
        intro i done hd hi hl k hk
        obtain ⟨k, rfl⟩ : ∃ m, k = m + 1 := ⟨k - 1, by omega⟩
        simp only [hexa_Read.l0]
        have e0 : wrap64 (2 * (i : Int)) = ((2 * i : Nat) : Int) := by rw [w64 (by omega) (by omega)]; omega
        have e1 : wrap64 (((2 * i : Nat) : Int) + 1) = ((2 * i + 1 : Nat) : Int) := by rw [w64 (by omega) (by omega)]; omega
        rw [if_pos (by omega), e0, e1, if_pos (by omega), if_pos (by omega), half_is, Option.bind_some, if_pos (by omega), if_pos (by omega), half_is, Option.bind_some, bt_drop s (2 * i) (by omega), bt_drop s (2 * i + 1) (by omega)]
        simp only [dec2]
        by_cases h1 : halfI (bt s ((2 * i : Nat) : Int)) = 16
        · rw [if_pos h1, if_pos h1]
        · rw [if_neg h1, if_neg h1]
          by_cases h2 : halfI (bt s ((2 * i + 1 : Nat) : Int)) = 16
          · rw [if_pos h2, if_pos h2]
          · have r1 := dig_half _ h1
            have r2 := dig_half _ h2
            rw [if_neg h2, if_neg h2, if_pos (by omega), if_pos (by rw [List.length_append, List.length_replicate]; omega), or_half _ _ r1.2.1 r1.2.2 r2.2.1 r2.2.2, w64 (by omega) (by omega), show ((i : Int) + 1) = ((i + 1 : Nat) : Int) from rfl, Int.toNat_natCast]
            have hset : (done ++ List.replicate (d + 1) 0).set i (halfI (bt s ((2 * i : Nat) : Int)) * 16 + halfI (bt s ((2 * i + 1 : Nat) : Int))) = (done ++ [halfI (bt s ((2 * i : Nat) : Int)) * 16 + halfI (bt s ((2 * i + 1 : Nat) : Int))]) ++ List.replicate d 0 := by
              rw [List.set_append_right _ _ (by omega), hl, Nat.sub_self, List.replicate_succ, List.set_cons_zero, List.append_assoc]
              rfl
            rw [hset, ih (i + 1) _ (by omega) (by omega) (by rw [List.length_append, hl]; rfl) k (by omega), show 2 * (i + 1) = 2 * i + 1 + 1 by omega]
            cases dec2 ((bytesOf s).drop (2 * i + 1 + 1)) with
            | none => rfl
            | some l => simp
    refine ⟨s.size / 2 + 2, fun k hk => ?_⟩
    show hexa_Read.f k s = _
    have := loop (s.size / 2) 0 [] (by omega) (by omega) rfl k (by omega)
    unfold hexa_Read.f rdSpec
    have e2 : wrap64 ((s.size : Int) / 2) = ((s.size / 2 : Nat) : Int) := by rw [w64 (by omega) (by omega)]; omega
    rw [if_neg he, if_neg he, e2, if_pos (by omega), Int.toNat_natCast, if_pos (by omega), Option.bind_some, List.length_replicate]
    rw [Nat.mul_zero, List.drop_zero, List.nil_append] at this
    refine Eq.trans (show _ = _ from this) ?_
    cases dec2 (bytesOf s) with
    | none => rfl
    | some l => rfl
theorem readRef_ev (s : ByteArray) (hs : s.size ≤ 1000000) : Ev (fun k => footbridgeref02_Read.f k s) (rdSpec s) := by
  by_cases he : (s.size : Int) % 2 = 1
  · refine ⟨0, fun k _ => ?_⟩
    show footbridgeref02_Read.f k s = _
    unfold footbridgeref02_Read.f rdSpec
    rw [if_pos he, if_pos he]
  · have loop : ∀ (d i : Nat) (done : List Int), d = s.size / 2 - i → i ≤ s.size / 2 → done.length = i → ∀ k, d + 2 ≤ k →
        footbridgeref02_Read.l0 k s done ((2 * i : Nat) : Int) = some (match dec2 ((bytesOf s).drop (2 * i)) with
          | some l => (strOfNums (done ++ l), 0)
          | none => (⟨#[]⟩, 6)) := by
      intro d
      induction d with
      | zero =>
        intro i done hd hi hl k hk
        obtain ⟨k, rfl⟩ : ∃ m, k = m + 1 := ⟨k - 1, by omega⟩
        simp only [footbridgeref02_Read.l0]
        rw [if_neg (by omega)]
        have : (bytesOf s).drop (2 * i) = [] := by rw [List.drop_eq_nil_iff, bytesOf_length]; omega
        rw [this]
        simp [dec2]
      | succ d ih =>
        intro i done hd hi hl k hk
        obtain ⟨k, rfl⟩ : ∃ m, k = m + 1 := ⟨k - 1, by omega⟩
        have b1 := bt_range s ((2 * i : Nat) : Int)
        have b2 := bt_range s ((2 * i + 1 : Nat) : Int)
        simp only [footbridgeref02_Read.l0]
        have e1 : wrap64 (((2 * i : Nat) : Int) + 1) = ((2 * i + 1 : Nat) : Int) := by rw [w64 (by omega) (by omega)]; omega
        have e2 : wrap64 (((2 * i : Nat) : Int) + 2) = ((2 * (i + 1) : Nat) : Int) := by rw [w64 (by omega) (by omega)]; omega
        rw [if_pos (by omega), e1, e2, if_pos (by omega), half_ref _ _ (by omega) b1.1 b1.2, Option.bind_some, if_pos (by omega), if_pos (by omega), half_ref _ _ (by omega) b2.1 b2.2, Option.bind_some, bt_drop s (2 * i) (by omega), bt_drop s (2 * i + 1) (by omega)]
        simp only [dec2]
        have g1 := half_range (bt s ((2 * i : Nat) : Int))
        have g2 := half_range (bt s ((2 * i + 1 : Nat) : Int))
        by_cases h1 : halfI (bt s ((2 * i : Nat) : Int)) = 16
        · rw [if_pos (by omega), if_pos h1]
        · rw [if_neg (by omega), if_neg h1]
          by_cases h2 : halfI (bt s ((2 * i + 1 : Nat) : Int)) = 16
          · rw [if_pos (by omega), if_pos h2]
          · have e3 : (halfI (bt s ((2 * i : Nat) : Int)) * 16 + halfI (bt s ((2 * i + 1 : Nat) : Int))) % 256 = halfI (bt s ((2 * i : Nat) : Int)) * 16 + halfI (bt s ((2 * i + 1 : Nat) : Int)) := by omega
            rw [if_neg (by omega), if_neg h2, if_pos (by omega), e3, ih (i + 1) _ (by omega) (by omega) (by rw [List.length_append, hl]; rfl) k (by omega), show 2 * (i + 1) = 2 * i + 1 + 1 by omega]
            cases dec2 ((bytesOf s).drop (2 * i + 1 + 1)) with
            | none => rfl
            | some l => simp
    refine ⟨s.size / 2 + 2, fun k hk => ?_⟩
    show footbridgeref02_Read.f k s = _
    have := loop (s.size / 2) 0 [] (by omega) (by omega) rfl k (by omega)
    unfold footbridgeref02_Read.f rdSpec
    rw [if_neg he, if_neg he]
    rw [Nat.mul_zero, List.drop_zero] at this
    refine Eq.trans (show _ = _ from this) ?_
    cases dec2 (bytesOf s) with
    | none => rfl
    | some l => rfl
theorem dec2_hexP (l : List Int) (h : ∀ n ∈ l, isByte n) : dec2 (hexP l) = some l := by
  induction l with
  | nil => rfl
  | cons c l ih =>
    have hc := h c (by simp)
    unfold isByte at hc
    show dec2 (hexDig (c / 16).toNat :: hexDig (c % 16).toNat :: hexP l) = _
    simp only [dec2]
    rw [half_dig _ (by omega), half_dig _ (by omega), if_neg (by omega), if_neg (by omega), ih (fun n hn => h n (by simp [hn]))]
    simp only [Option.map_some]
    congr 2
    omega
theorem hexP_dec2 : ∀ (l m : List Int), dec2 l = some m → hexP m = l ∧ ∀ n ∈ m, isByte n
  | [], m, h => by simp [dec2] at h; subst h; exact ⟨rfl, by simp⟩
  | [_], m, h => by simp [dec2] at h
  | a :: b :: t, m, h => by
    simp only [dec2] at h
    by_cases h1 : halfI a = 16
    · rw [if_pos h1] at h; simp at h
    · rw [if_neg h1] at h
      by_cases h2 : halfI b = 16
      · rw [if_pos h2] at h; simp at h
      · rw [if_neg h2] at h
        obtain ⟨u, hu, rfl⟩ := Option.map_eq_some_iff.1 h
        have ih := hexP_dec2 t u hu
        have r1 := dig_half a h1
        have r2 := dig_half b h2
        constructor
        · show hexDig ((halfI a * 16 + halfI b) / 16).toNat :: hexDig ((halfI a * 16 + halfI b) % 16).toNat :: hexP u = _
          rw [show (halfI a * 16 + halfI b) / 16 = halfI a by omega, show (halfI a * 16 + halfI b) % 16 = halfI b by omega, r1.1, r2.1, ih.1]
        · intro n hn
          rw [List.mem_cons] at hn
          rcases hn with rfl | hn
          · exact ⟨by omega, by omega⟩
          · exact ih.2 n hn
end Go.Proofs.Ytcgmododeiocpaa.PureScr
