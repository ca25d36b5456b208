/- Plain facts on the printed path functions: numbers, the examples. No condition beyond those stated. -/
import Derived.Test.YtcgmododeiocpaaDoorPatLib2
namespace Go.Proofs.YtcgmododeiocpaaDoor.PurePat
open Go.RowKit Go.Proofs.YtcgmododeiocpaaDoor.PPat Go.Proofs.YtcgmododeiocpaaDoorW.PrintWords Go.Proofs.YtcgmododeiocpaaDoorW.PrintLast Go.Proofs.YtcgmododeiocpaaDoorW.PrintMore
set_option linter.unusedVariables false
set_option linter.unusedSimpArgs false
def cl (a : Int) : Nat := if a < 0 then 0 else if 99999999999999 < a then 99999999999999 else a.toNat
theorem cl_le (a : Int) : cl a ≤ 99999999999999 := by unfold cl; split <;> (try split) <;> omega
theorem cl_ref (a : Int) : mx 0 (mn a 99999999999999) = (cl a : Int) := by
  unfold mx mn cl
  split <;> split <;> (try split) <;> (try split) <;> omega
theorem number_is (a : Int) : path_Number.f a = some (strOfNums (numL 14 (cl a))) := rfl
theorem numL_len : ∀ (k n : Nat), (numL k n).length = k
  | 0, _ => rfl
  | k + 1, n => by rw [numL, List.length_append, numL_len k]; rfl
theorem numberRef_go : ∀ (d i n : Nat) (t : List Int), i + d = 14 → n ≤ 99999999999999 → t.length = i → Ev (fun k => footbridgeref08_Number.l0 k (n : Int) (strOfNums t) (i : Int)) (strOfNums (numL d n ++ t)) := by
  intro d
  induction d with
  | zero =>
    intro i n t hi hn ht
    refine ⟨1, fun k hk => ?_⟩
    obtain ⟨m, rfl⟩ : ∃ m, k = m + 1 := ⟨k - 1, by omega⟩
    show footbridgeref08_Number.l0 (m + 1) (n : Int) (strOfNums t) (i : Int) = _
    simp only [footbridgeref08_Number.l0]
    rw [if_neg (by omega)]; rfl
  | succ d ih =>
    intro i n t hi hn ht
    obtain ⟨K, e⟩ := ih (i + 1) (n / 10) (((48 + n % 10 : Nat) : Int) :: t) (by omega) (by omega) (by rw [List.length_cons, ht])
    refine ⟨K + 1, fun k hk => ?_⟩
    obtain ⟨m, rfl⟩ : ∃ m, k = m + 1 := ⟨k - 1, by omega⟩
    have e : footbridgeref08_Number.l0 m ((n / 10 : Nat) : Int) (strOfNums (((48 + n % 10 : Nat) : Int) :: t)) ((i + 1 : Nat) : Int) = _ := e m (by omega)
    have e2 : Int.tmod (n : Int) 10 = ((n % 10 : Nat) : Int) := by
      rw [Int.tmod_eq_emod_of_nonneg (by omega)]; rfl
    have e1 : wrap64 (Int.tdiv (n : Int) 10) = ((n / 10 : Nat) : Int) := by
      rw [Int.tdiv_eq_ediv_of_nonneg (by omega), w64 (by omega) (by omega)]; rfl
    have e3 : (wrap64 (48 + ((n % 10 : Nat) : Int))) % 256 = ((48 + n % 10 : Nat) : Int) := by
      rw [w64 (by omega) (by omega)]; omega
    show footbridgeref08_Number.l0 (m + 1) (n : Int) (strOfNums t) (i : Int) = _
    simp only [footbridgeref08_Number.l0]
    rw [if_pos (by omega), e2, e3, Option.bind_some, if_pos (by rw [strOfNums_size, strOfNums_size, ht]; simp only [List.length_cons, List.length_nil]; omega), e1, w1 i (by omega), ← strOfNums_app, List.singleton_append, e, numL, List.append_assoc]
    rfl
theorem numberRef_ev (a : Int) : Ev (fun k => footbridgeref08_Number.f k a) (strOfNums (numL 14 (cl a))) := by
  obtain ⟨K, e⟩ := numberRef_go 14 0 (cl a) [] rfl (cl_le a) rfl
  refine ⟨K, fun k hk => ?_⟩
  have e : footbridgeref08_Number.l0 k (cl a : Int) (strOfNums []) 0 = _ := e k hk
  show footbridgeref08_Number.f k a = _
  unfold footbridgeref08_Number.f
  rw [cl_ref]
  rw [List.append_nil] at e
  exact e
/-! ### order -/
theorem bytesLess_app (c d : UInt8) : ∀ (l m : List UInt8), l.length = m.length → Op.bytesLess (l ++ [c]) (m ++ [d]) = (Op.bytesLess l m || (l == m && decide (c < d)))
  | [], [], _ => by simp [Op.bytesLess]
  | [], y :: m, h => by simp at h
  | x :: l, [], h => by simp at h
  | x :: l, y :: m, h => by
    have ih := bytesLess_app c d l m (by simpa using h)
    simp only [List.cons_append, Op.bytesLess]
    rw [ih]
    by_cases h1 : x = y
    · subst h1
      simp
    · rw [beq_eq_false_iff_ne.2 h1]; simp [h1]
def numB : Nat → Nat → List UInt8
  | 0, _ => []
  | k + 1, n => numB k (n / 10) ++ [UInt8.ofNat (48 + n % 10)]
theorem numB_is : ∀ k n, (strOfNums (numL k n)).toList = numB k n
  | 0, _ => by rw [numL, ByteArray.toList_eq]; rfl
  | k + 1, n => by
    rw [numL, strOfNums_app, ba_append, numB_is k, numB]
    congr 1
    rw [ByteArray.toList_eq, strOfNums_data]
    simp only [List.map_cons, List.map_nil, Int.toNat_natCast]
theorem numB_len : ∀ k n, (numB k n).length = k
  | 0, _ => rfl
  | k + 1, n => by rw [numB, List.length_append, numB_len k]; rfl
theorem u8_lt (a b : Nat) (ha : a < 10) (hb : b < 10) : (UInt8.ofNat (48 + a) < UInt8.ofNat (48 + b)) ↔ a < b := by
  rw [UInt8.lt_iff_toNat_lt, UInt8.toNat_ofNat', UInt8.toNat_ofNat', Nat.mod_eq_of_lt (by omega), Nat.mod_eq_of_lt (by omega)]
  omega
theorem numB_inj : ∀ k n m, n < 10 ^ k → m < 10 ^ k → numB k n = numB k m → n = m
  | 0, n, m, hn, hm, _ => by omega
  | k + 1, n, m, hn, hm, h => by
    rw [Nat.pow_succ] at hn hm
    rw [numB, numB] at h
    have h1 := List.append_inj' h rfl
    have h2 := numB_inj k (n / 10) (m / 10) (by omega) (by omega) h1.1
    have h3 : UInt8.ofNat (48 + n % 10) = UInt8.ofNat (48 + m % 10) := by simpa using h1.2
    have h4 := congrArg UInt8.toNat h3
    have m1 : (48 + n % 10) % 2 ^ 8 = 48 + n % 10 := Nat.mod_eq_of_lt (by omega)
    have m2 : (48 + m % 10) % 2 ^ 8 = 48 + m % 10 := Nat.mod_eq_of_lt (by omega)
    rw [UInt8.toNat_ofNat', UInt8.toNat_ofNat', m1, m2] at h4
    omega
theorem numB_less : ∀ k n m, n < 10 ^ k → m < 10 ^ k → Op.bytesLess (numB k n) (numB k m) = decide (n < m)
  | 0, n, m, hn, hm => by
    have h1 : n = 0 := by omega
    have h2 : m = 0 := by omega
    subst h1 h2; rfl
  | k + 1, n, m, hn, hm => by
    rw [Nat.pow_succ] at hn hm
    have hi := numB_inj k (n / 10) (m / 10) (by omega) (by omega)
    rw [numB, numB, bytesLess_app _ _ _ _ (by rw [numB_len, numB_len]), numB_less k (n / 10) (m / 10) (by omega) (by omega)]
    have hc := u8_lt (n % 10) (m % 10) (by omega) (by omega)
    by_cases h1 : n / 10 < m / 10
    · rw [decide_eq_true h1, decide_eq_true (show n < m by omega)]; rfl
    · rw [decide_eq_false h1, Bool.false_or]
      by_cases h2 : n / 10 = m / 10
      · rw [h2, beq_self_eq_true, Bool.true_and, decide_eq_decide, hc]
        omega
      · have h3 : ¬ numB k (n / 10) = numB k (m / 10) := fun e => h2 (hi e)
        rw [beq_eq_false_iff_ne.2 h3, Bool.false_and, decide_eq_false (show ¬ n < m by omega)]
/-! ### the examples -/
theorem pathSplit_at (s : List UInt8) (b : ByteArray) (hb : b.toList = s) (h : s.length ≤ 100000000) : path_Split.f b = some (splitSpec s) := by
  rw [← ofL_of b, hb]; exact pathSplit_is s h
theorem lit_list (l : List UInt8) : (⟨⟨l⟩⟩ : ByteArray).toList = l := by rw [ByteArray.toList_eq]
theorem awake_ev : Ev (fun k => footbridgelaw08_awake.f k) true := by
  have s1 : path_Split.f (⟨#[116, 111, 107, 101, 110, 47, 97, 37, 115, 98, 47, 99]⟩ : ByteArray) = some (ofL [116, 111, 107, 101, 110], [ofL [97, 47, 98], ofL [99]], 0) := pathSplit_at _ _ (lit_list _) (by decide)
  have s2 : path_Split.f (⟨#[97, 37]⟩ : ByteArray) = some ((⟨#[]⟩ : ByteArray), [], 6) := pathSplit_at _ _ (lit_list _) (by decide)
  have s3 : path_Split.f (⟨#[]⟩ : ByteArray) = some (ofL [], [], 0) := pathSplit_at _ _ (lit_list _) (by decide)
  obtain ⟨K1, e1⟩ := join_ev (⟨#[116, 111, 107, 101, 110]⟩ : ByteArray) [(⟨#[97, 47, 98]⟩ : ByteArray), (⟨#[99]⟩ : ByteArray)] (by decide) (by decide) (by decide)
  obtain ⟨K2, e2⟩ := join_ev (⟨#[37]⟩ : ByteArray) [] (by decide) (by decide) (by simp)
  obtain ⟨K3, e3⟩ := texts_ev [ofL [97, 47, 98], ofL [99]] [(⟨#[97, 47, 98]⟩ : ByteArray), (⟨#[99]⟩ : ByteArray)] (by decide)
  refine ⟨K1 + K2 + K3, fun k hk => ?_⟩
  have e1 : path_Join.f k (⟨#[116, 111, 107, 101, 110]⟩ : ByteArray) [(⟨#[97, 47, 98]⟩ : ByteArray), (⟨#[99]⟩ : ByteArray)] = _ := e1 k (by omega)
  have e2 : path_Join.f k (⟨#[37]⟩ : ByteArray) [] = _ := e2 k (by omega)
  have e3 : footbridgeref01_Texts.f k [ofL [97, 47, 98], ofL [99]] [(⟨#[97, 47, 98]⟩ : ByteArray), (⟨#[99]⟩ : ByteArray)] = _ := e3 k (by omega)
  have d3 : decide ([ofL [97, 47, 98], ofL [99]] = [(⟨#[97, 47, 98]⟩ : ByteArray), (⟨#[99]⟩ : ByteArray)]) = true := decide_eq_true rfl
  rw [d3] at e3
  show footbridgelaw08_awake.f k = _
  unfold footbridgelaw08_awake.f
  rw [s1, Option.bind_some, s2, Option.bind_some, s3, Option.bind_some, e1, Option.bind_some, ofL_toList]
  rw [List.map_cons, List.map_cons, List.map_nil, lit_list, lit_list, lit_list]
  rw [if_pos (by decide), if_pos (by rw [ofL_toList]), e3, Option.bind_some, if_pos rfl, if_pos rfl, if_pos rfl, if_pos (by rw [ofL_toList]), if_pos (by simp), if_pos rfl, e2, Option.bind_some, ofL_toList, lit_list]
  rw [if_pos (by decide), number_is, Option.bind_some, numB_is, if_pos (by decide), number_is, Option.bind_some, numB_is]
  exact congrArg some (by decide)
end Go.Proofs.YtcgmododeiocpaaDoor.PurePat
