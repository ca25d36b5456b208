/- Plain facts on the printed script functions: which steps may be, their lines. No condition beyond those stated. -/
import Derived.Test.YtcgmododeiocpaaScrLib
namespace Go.Proofs.Ytcgmododeiocpaa.PureScr
open Go.RowKit Go.Proofs.Ytcgmododeiocpaa.PScr Go.Proofs.YtcgmododeiocpaaW.PrintWords Go.Proofs.YtcgmododeiocpaaW.PrintLast
set_option linter.unusedVariables false
set_option linter.unusedSimpArgs false
/-! ### which steps may be -/
def okA (a : S54) : Prop := 0 ≤ a.f1 ∧ a.f1 ≤ 1 ∧ 0 ≤ a.f3 ∧ a.f3 ≤ 1073741824 ∧ ((a.f0 = 0 ∧ a.f2.toList ≠ [] ∧ a.f3 = 0) ∨ (a.f0 = 1 ∧ a.f2.toList = [] ∧ a.f3 = 0) ∨ (a.f0 = 2 ∧ a.f1 = 0 ∧ a.f2.toList = []) ∨ (a.f0 = 3 ∧ a.f1 = 0 ∧ a.f2.toList = [] ∧ a.f3 = 0) ∨ (a.f0 = 4 ∧ a.f1 = 0 ∧ a.f2.toList = [] ∧ a.f3 = 0))
instance (a : S54) : Decidable (okA a) := by unfold okA; infer_instance
def stp (a : S54) : Stp := if a.f0 = 0 then .deed a.f1 a.f2 else if a.f0 = 1 then .block a.f1 else if a.f0 = 2 then .tick a.f3 else if a.f0 = 3 then .word (⟨#[108, 105, 110, 107]⟩ : ByteArray) else .word (⟨#[114, 111, 117, 110, 100]⟩ : ByteArray)
def bodyL (a : S54) : List UInt8 := if a.f0 = 0 then [100, 111, 32] ++ dec a.f1.toNat ++ [32] ++ hx a.f2.toList else if a.f0 = 1 then [98, 108, 111, 99, 107, 32] ++ dec a.f1.toNat else if a.f0 = 2 then [116, 105, 99, 107, 32] ++ dec a.f3.toNat else if a.f0 = 3 then [108, 105, 110, 107] else [114, 111, 117, 110, 100]
theorem of_is (k : Nat) (kd sd : Int) (rw_ : ByteArray) (n : Int) : script_of.f (k + 8) kd sd rw_ n = some (if okA ⟨kd, sd, rw_, n⟩ then some (stp ⟨kd, sd, rw_, n⟩) else none) := by
  unfold script_of.f okA stp
  by_cases c1 : sd < 0
  · rw [if_pos c1]; simp only [script_of.j0]; rw [if_pos trivial, if_neg (by omega)]
  rw [if_neg c1]
  by_cases c2 : sd > 1
  · rw [if_pos c2]; simp only [script_of.j0]; rw [if_pos trivial, if_neg (by omega)]
  rw [if_neg c2]
  by_cases c3 : n < 0
  · rw [if_pos c3]; simp only [script_of.j0]; rw [if_pos trivial, if_neg (by omega)]
  rw [if_neg c3]
  by_cases c4 : n > 1073741824
  · rw [decide_eq_true c4]; simp only [script_of.j0]; rw [if_pos trivial, if_neg (by omega)]
  rw [decide_eq_false c4]
  have c1' : 0 ≤ sd := by omega
  have c2' : sd ≤ 1 := by omega
  have c3' : 0 ≤ n := by omega
  have c4' : n ≤ 1073741824 := by omega
  simp only [c1', c2', c3', c4', true_and]
  clear c1 c2 c3 c4 c1' c2' c3' c4'
  by_cases k0 : kd = 0
  · subst k0
    by_cases c5 : rw_.toList = [] <;> by_cases c6 : n = 0 <;> by_cases c7 : sd = 0 <;> simp [script_of.j0, script_of.j1, script_of.j2, script_of.j3, script_of.j4, script_of.j5, c5, c6, c7]
  by_cases k1 : kd = 1
  · subst k1
    by_cases c5 : rw_.toList = [] <;> by_cases c6 : n = 0 <;> by_cases c7 : sd = 0 <;> simp [script_of.j0, script_of.j1, script_of.j2, script_of.j3, script_of.j4, script_of.j5, c5, c6, c7]
  by_cases k2 : kd = 2
  · subst k2
    by_cases c5 : rw_.toList = [] <;> by_cases c6 : n = 0 <;> by_cases c7 : sd = 0 <;> simp [script_of.j0, script_of.j1, script_of.j2, script_of.j3, script_of.j4, script_of.j5, c5, c6, c7]
  by_cases k3 : kd = 3
  · subst k3
    by_cases c5 : rw_.toList = [] <;> by_cases c6 : n = 0 <;> by_cases c7 : sd = 0 <;> simp [script_of.j0, script_of.j1, script_of.j2, script_of.j3, script_of.j4, script_of.j5, c5, c6, c7]
  by_cases k4 : kd = 4
  · subst k4
    by_cases c5 : rw_.toList = [] <;> by_cases c6 : n = 0 <;> by_cases c7 : sd = 0 <;> simp [script_of.j0, script_of.j1, script_of.j2, script_of.j3, script_of.j4, script_of.j5, c5, c6, c7]
  by_cases c5 : rw_.toList = [] <;> by_cases c7 : sd = 0 <;> simp [script_of.j0, script_of.j1, script_of.j2, script_of.j3, script_of.j4, script_of.j5, k0, k1, k2, k3, k4, c5, c7]
theorem check_j3 (k : Nat) (b : Bool) (kd sd : Int) (rw_ : ByteArray) (n : Int) : footbridgeref45_check.j3 (k + 1) b kd sd rw_ n = some (if b = true then 1 else if (rw_.size : Int) > 65536 then 4 else 0) := by
  simp only [footbridgeref45_check.j3]
  repeat' split
  all_goals rfl
theorem check_j2 (k : Nat) (b : Bool) (kd sd : Int) (rw_ : ByteArray) (n : Int) : footbridgeref45_check.j2 (k + 2) b kd sd rw_ n = some (if b = true then 1 else if ¬ (rw_.toList = [] ↔ ¬ kd = 0) then 1 else if n < 0 ∨ n > 1073741824 ∨ (n ≠ 0 ∧ kd ≠ 2) then 1 else if (rw_.size : Int) > 65536 then 4 else 0) := by
  simp only [footbridgeref45_check.j2]
  by_cases h0 : b = true
  · rw [if_pos h0, if_pos h0]
  rw [if_neg h0, if_neg h0]
  by_cases h1 : rw_.toList = [] ↔ ¬ kd = 0
  · have e1 : ((rw_.toList != ([] : List UInt8)) != (kd == 0)) = false := by
      by_cases hk : kd = 0 <;> by_cases hr : rw_.toList = [] <;> simp [hk, hr] at h1 ⊢
    rw [e1, if_neg (by simp), if_neg (not_not_intro h1)]
    by_cases h2 : n < 0
    · rw [if_pos h2, check_j3, if_pos rfl, if_pos (.inl h2)]
    rw [if_neg h2]
    by_cases h3 : n > 1073741824
    · rw [if_pos h3, check_j3, if_pos rfl, if_pos (.inr (.inl h3))]
    rw [if_neg h3]
    by_cases h4 : n = 0
    · rw [if_pos h4, check_j3, if_neg (by simp), if_neg (show ¬ (n < 0 ∨ n > 1073741824 ∨ (n ≠ 0 ∧ kd ≠ 2)) by omega)]
    rw [if_neg h4, check_j3]
    by_cases h5 : kd = 2
    · rw [if_neg (by simp [h5]), if_neg (show ¬ (n < 0 ∨ n > 1073741824 ∨ (n ≠ 0 ∧ kd ≠ 2)) by omega)]
    · rw [if_pos (by simp [h5]), if_pos (.inr (.inr ⟨h4, h5⟩))]
  · have e1 : ((rw_.toList != ([] : List UInt8)) != (kd == 0)) = true := by
      by_cases hk : kd = 0 <;> by_cases hr : rw_.toList = []
      · simp [hk, hr]
      · exact absurd (by simp [hk, hr]) h1
      · exact absurd (by simp [hk, hr]) h1
      · have a1 : (rw_.toList != ([] : List UInt8)) = true := by simpa using hr
        have a2 : (kd == 0) = false := by simpa using hk
        rw [a1, a2]; rfl
    rw [e1, if_pos rfl, if_pos h1]
theorem check_j1 (k : Nat) (x b : Bool) (kd sd : Int) (rw_ : ByteArray) (n : Int) : footbridgeref45_check.j1 (k + 3) x b kd sd rw_ n = some (if b = true then 1 else if (¬ sd = 0 ∧ ¬ sd = 1) ∨ (sd = 1 ∧ x = false) then 1 else if ¬ (rw_.toList = [] ↔ ¬ kd = 0) then 1 else if n < 0 ∨ n > 1073741824 ∨ (n ≠ 0 ∧ kd ≠ 2) then 1 else if (rw_.size : Int) > 65536 then 4 else 0) := by
  simp only [footbridgeref45_check.j1]
  by_cases h0 : b = true
  · rw [if_pos h0, if_pos h0]
  rw [if_neg h0, if_neg h0]
  by_cases h1 : sd = 0
  · rw [if_pos h1, if_neg (show ¬ sd = 1 by omega), check_j2, if_neg (by simp), if_neg (show ¬ ((¬ sd = 0 ∧ ¬ sd = 1) ∨ (sd = 1 ∧ x = false)) by omega)]
  rw [if_neg h1]
  by_cases h2 : sd = 1
  · rw [if_pos h2, check_j2]
    cases x
    · rw [if_pos (by simp), if_pos (.inr ⟨h2, rfl⟩)]
    · rw [if_neg (show ¬ (!true) = true by simp), if_neg (show ¬ ((¬ sd = 0 ∧ ¬ sd = 1) ∨ (sd = 1 ∧ true = false)) by simp [h2])]
  · rw [if_neg h2, check_j2, if_pos rfl, if_pos (.inl ⟨h1, h2⟩)]
theorem check_is (k : Nat) (kd sd : Int) (rw_ : ByteArray) (n : Int) : footbridgeref45_check.f (k + 8) kd sd rw_ n = some (if okA ⟨kd, sd, rw_, n⟩ then (if (rw_.size : Int) > 65536 then 4 else 0) else 1) := by
  have hj : footbridgeref45_check.f (k + 8) kd sd rw_ n = footbridgeref45_check.j1 (k + 7) (decide (kd = 0 ∨ kd = 1)) (decide (kd < 0 ∨ kd > 4)) kd sd rw_ n := by
    unfold footbridgeref45_check.f
    have e0 : ∀ x, footbridgeref45_check.j0 (k + 8) x kd sd rw_ n = footbridgeref45_check.j1 (k + 7) x (decide (kd < 0 ∨ kd > 4)) kd sd rw_ n := by
      intro x
      simp only [footbridgeref45_check.j0]
      by_cases h : kd < 0
      · rw [if_pos h]; simp [h]
      · rw [if_neg h]; simp [h]
    by_cases h : kd = 0
    · rw [if_pos h, e0]; simp [h]
    · rw [if_neg h, e0, show (kd == 1) = decide (kd = 0 ∨ kd = 1) by simp [h]; rfl]
  rw [hj, check_j1]
  have key : okA ⟨kd, sd, rw_, n⟩ ↔ (¬ (kd < 0 ∨ kd > 4) ∧ ¬ ((¬ sd = 0 ∧ ¬ sd = 1) ∨ (sd = 1 ∧ ¬ (kd = 0 ∨ kd = 1))) ∧ (rw_.toList = [] ↔ ¬ kd = 0) ∧ ¬ (n < 0 ∨ n > 1073741824 ∨ (n ≠ 0 ∧ kd ≠ 2))) := by
    unfold okA
    by_cases hr : rw_.toList = []
    · simp only [hr, true_iff, ne_eq, not_true_eq_false, false_and, and_false, false_or, true_and, and_true]
      omega
    · simp only [hr, false_iff, ne_eq, not_false_eq_true, false_and, and_false, or_false, true_and, Decidable.not_not]
      omega
  simp only [decide_eq_true_eq, decide_eq_false_iff_not]
  congr 1
  by_cases q1 : kd < 0 ∨ kd > 4
  · rw [if_pos q1, if_neg (fun h => (key.1 h).1 q1)]
  rw [if_neg q1]
  by_cases q2 : (¬ sd = 0 ∧ ¬ sd = 1) ∨ (sd = 1 ∧ ¬ (kd = 0 ∨ kd = 1))
  · rw [if_pos q2, if_neg (fun h => (key.1 h).2.1 q2)]
  rw [if_neg q2]
  by_cases q3 : rw_.toList = [] ↔ ¬ kd = 0
  · rw [if_neg (not_not_intro q3)]
    by_cases q4 : n < 0 ∨ n > 1073741824 ∨ (n ≠ 0 ∧ kd ≠ 2)
    · rw [if_pos q4, if_neg (fun h => (key.1 h).2.2.2 q4)]
    · rw [if_neg q4, if_pos (key.2 ⟨q1, q2, q3, q4⟩)]
  · rw [if_pos q3, if_neg (fun h => q3 (key.1 h).2.2.1)]
/-! ### a step's line -/
theorem bodyL_no10 (a : S54) : (10 : UInt8) ∉ bodyL a := by
  have hd : ∀ n, (10 : UInt8) ∉ dec n := fun n h => by have := dec_digs n 10 h; unfold isDig at this; exact absurd this (by decide)
  have hh : ∀ s, (10 : UInt8) ∉ hx s := fun s h => by have := hx_mem s 10 h; exact absurd this (by decide)
  unfold bodyL
  split
  · simp [hd, hh]
  split
  · simp [hd]
  split
  · simp [hd]
  split <;> decide
theorem bodyL_len (a : S54) (h : okA a) : (bodyL a).length ≤ 2 * a.f2.toList.length + 20 := by
  obtain ⟨h1, h2, h3, h4, _⟩ := h
  have d1 := dec_len_le 0 a.f1.toNat (by omega)
  have d2 := dec_len_le 9 a.f3.toNat (by omega)
  have d3 := hx_len a.f2.toList
  unfold bodyL
  split
  · simp only [List.length_append, List.length_cons, List.length_nil]; omega
  split
  · simp only [List.length_append, List.length_cons, List.length_nil]; omega
  split
  · simp only [List.length_append, List.length_cons, List.length_nil]; omega
  split <;> (simp only [List.length_cons, List.length_nil]; omega)
theorem text_ev (a : S54) (h : okA a) (hr : a.f2.toList.length ≤ 1000000) : Ev (fun k => script_text.f k (some (stp a))) (ofL (bodyL a)) := by
  have hlen := bodyL_len a h
  obtain ⟨h1, h2, h3, h4, h5⟩ := h
  obtain ⟨K1, e1⟩ := digits_ev a.f1.toNat (by omega)
  obtain ⟨K2, e2⟩ := digits_ev a.f3.toNat (by omega)
  rw [Int.toNat_of_nonneg h1] at e1
  rw [Int.toNat_of_nonneg h3] at e2
  have d1 := dec_len_le 0 a.f1.toNat (by omega)
  have d2 := dec_len_le 9 a.f3.toNat (by omega)
  refine ⟨K1 + K2, fun k hk => ?_⟩
  have e1 := e1 k (by omega)
  have e2 := e2 k (by omega)
  have e3 := hx_put a.f2.toList hr
  have d3 := hx_len a.f2.toList
  rw [ofL_of] at e3
  dsimp only at e1 e2
  show script_text.f k (some (stp a)) = _
  by_cases k0 : a.f0 = 0
  · have hs : stp a = .deed a.f1 a.f2 := by unfold stp; rw [if_pos k0]
    have hb : bodyL a = [100, 111, 32] ++ dec a.f1.toNat ++ [32] ++ hx a.f2.toList := by unfold bodyL; rw [if_pos k0]
    rw [hs, hb]
    unfold script_text.f
    rw [if_neg (by simp)]
    simp only [Option.getD_some]
    rw [if_pos (by rfl)]
    simp only [Stp.side, Stp.raw]
    rw [e1, Option.bind_some, if_pos (by rw [ofL_size]; omega), if_pos (by rw [ByteArray.size_append, ofL_size]; show 3 + _ + 1 ≤ _; omega), e3, Option.bind_some, if_pos (by simp only [ByteArray.size_append, ofL_size]; show 3 + _ + 1 + _ ≤ _; omega)]
    exact congrArg some (ba_ext (by simp only [ba_append, ofL_toList]; rw [ByteArray.toList_eq, ByteArray.toList_eq]))
  by_cases k1 : a.f0 = 1
  · have hs : stp a = .block a.f1 := by unfold stp; rw [if_neg k0, if_pos k1]
    have hb : bodyL a = [98, 108, 111, 99, 107, 32] ++ dec a.f1.toNat := by unfold bodyL; rw [if_neg k0, if_pos k1]
    rw [hs, hb]
    unfold script_text.f
    rw [if_neg (by simp)]
    simp only [Option.getD_some]
    rw [if_neg (by simp [Stp.ty]), if_pos (by rfl)]
    simp only [Stp.side]
    rw [e1, Option.bind_some, if_pos (by rw [ofL_size]; omega)]
    exact congrArg some (ba_ext (by simp only [ba_append, ofL_toList]; rw [ByteArray.toList_eq]))
  by_cases k2 : a.f0 = 2
  · have hs : stp a = .tick a.f3 := by unfold stp; rw [if_neg k0, if_neg k1, if_pos k2]
    have hb : bodyL a = [116, 105, 99, 107, 32] ++ dec a.f3.toNat := by unfold bodyL; rw [if_neg k0, if_neg k1, if_pos k2]
    rw [hs, hb]
    unfold script_text.f
    rw [if_neg (by simp)]
    simp only [Option.getD_some]
    rw [if_neg (by simp [Stp.ty]), if_neg (by simp [Stp.ty]), if_pos (by rfl)]
    simp only [Stp.n]
    rw [e2, Option.bind_some, if_pos (by rw [ofL_size]; omega)]
    exact congrArg some (ba_ext (by simp only [ba_append, ofL_toList]; rw [ByteArray.toList_eq]))
  have hw : ∀ w, script_text.f k (some (.word w)) = some w := by
    intro w
    unfold script_text.f
    rw [if_neg (by simp)]
    simp only [Option.getD_some]
    rw [if_neg (by simp [Stp.ty]), if_neg (by simp [Stp.ty]), if_neg (by simp [Stp.ty]), if_pos (by rfl)]
    rfl
  by_cases k3 : a.f0 = 3
  · have hs : stp a = .word (⟨#[108, 105, 110, 107]⟩ : ByteArray) := by unfold stp; rw [if_neg k0, if_neg k1, if_neg k2, if_pos k3]
    have hb : bodyL a = [108, 105, 110, 107] := by unfold bodyL; rw [if_neg k0, if_neg k1, if_neg k2, if_pos k3]
    rw [hs, hb, hw]; rfl
  · have hs : stp a = .word (⟨#[114, 111, 117, 110, 100]⟩ : ByteArray) := by unfold stp; rw [if_neg k0, if_neg k1, if_neg k2, if_neg k3]
    have hb : bodyL a = [114, 111, 117, 110, 100] := by unfold bodyL; rw [if_neg k0, if_neg k1, if_neg k2, if_neg k3]
    rw [hs, hb, hw]; rfl
theorem line_ev (a : S54) (h : okA a) (hr : a.f2.toList.length ≤ 1000000) : Ev (fun k => footbridgeref45_line.f k a.f0 a.f1 a.f2 a.f3) (ofL (bodyL a ++ [10])) := by
  have hlen := bodyL_len a h
  obtain ⟨h1, h2, h3, h4, h5⟩ := h
  obtain ⟨K1, e1⟩ := refDigits_ev a.f1.toNat (by omega)
  obtain ⟨K2, e2⟩ := refDigits_ev a.f3.toNat (by omega)
  obtain ⟨K3, e3⟩ := hx_putRef a.f2.toList hr
  rw [Int.toNat_of_nonneg h1] at e1
  rw [Int.toNat_of_nonneg h3] at e2
  rw [ofL_of] at e3
  have d1 := dec_len_le 0 a.f1.toNat (by omega)
  have d2 := dec_len_le 9 a.f3.toNat (by omega)
  refine ⟨K1 + K2 + K3, fun k hk => ?_⟩
  have e1 : footbridgeref03_Digits.f k a.f1 = _ := e1 k (by omega)
  have e2 : footbridgeref03_Digits.f k a.f3 = _ := e2 k (by omega)
  have e3 : footbridgeref02_Put.f k a.f2 = _ := e3 k (by omega)
  have d3 := hx_len a.f2.toList
  show footbridgeref45_line.f k a.f0 a.f1 a.f2 a.f3 = _
  unfold footbridgeref45_line.f bodyL
  by_cases k0 : a.f0 = 0
  · rw [if_pos k0, if_pos k0]
    rw [e1, Option.bind_some, if_pos (by rw [ofL_size]; omega), if_pos (by rw [ByteArray.size_append, ofL_size]; show 3 + _ + 1 ≤ _; omega), e3, Option.bind_some, if_pos (by simp only [ByteArray.size_append, ofL_size]; show 3 + _ + 1 + _ ≤ _; omega), if_pos (by simp only [ByteArray.size_append, ofL_size]; show 3 + _ + 1 + _ + 1 ≤ _; omega)]
    exact congrArg some (ba_ext (by simp only [ba_append, ofL_toList]; simp [ByteArray.toList_eq]))
  rw [if_neg k0, if_neg k0]
  by_cases k1 : a.f0 = 1
  · rw [if_pos k1, if_pos k1]
    rw [e1, Option.bind_some, if_pos (by rw [ofL_size]; omega), if_pos (by rw [ByteArray.size_append, ofL_size]; show 6 + _ + 1 ≤ _; omega)]
    exact congrArg some (ba_ext (by simp only [ba_append, ofL_toList]; simp [ByteArray.toList_eq]))
  rw [if_neg k1, if_neg k1]
  by_cases k2 : a.f0 = 2
  · rw [if_pos k2, if_pos k2]
    rw [e2, Option.bind_some, if_pos (by rw [ofL_size]; omega), if_pos (by rw [ByteArray.size_append, ofL_size]; show 5 + _ + 1 ≤ _; omega)]
    exact congrArg some (ba_ext (by simp only [ba_append, ofL_toList]; simp [ByteArray.toList_eq]))
  rw [if_neg k2, if_neg k2]
  by_cases k3 : a.f0 = 3
  · rw [if_pos k3, if_pos k3]; rfl
  rw [if_neg k3, if_neg k3]; rfl
end Go.Proofs.Ytcgmododeiocpaa.PureScr
