/- A part of the walk of TokenPlays. No condition. -/
import Derived.Test.YtjappgjpikbdeaaGreatDoorPTkpx0
import Derived.Test.YtjappgjpikbdeaaGreatDoorPTkpx5
import Derived.Test.YtjappgjpikbdeaaGreatDoorPTkpx6
import Derived.Test.YtjappgjpikbdeaaGreatDoorPTkpx8
namespace Go.Proofs.YtjappgjpikbdeaaGreatDoor.PTkp
set_option maxRecDepth 100000
set_option maxHeartbeats 8000000
open Go.RowKit Go.Proofs.YtjappgjpikbdeaaGreatDoorW.PrintWords Go.Proofs.YtjappgjpikbdeaaGreatDoorW.PrintLast Go.Proofs.YtjappgjpikbdeaaGreatDoorW.PrintMore
attribute [local go_sem] max2_int min2_int max_two min_two max_three min_three max_four min_four   -- for this text's walks alone
set_option linter.unusedVariables false
set_option linter.unusedSimpArgs false
def footbridgeref03_Plain.l0 : Nat → ByteArray → Int → Option (Bool)
 | 0, _, _ => none
 | k + 1, x0, x3 => if x3 < (x0.size : Int) then (if 0 ≤ x3 then ((footbridgeref03_letter.f (bt x0 x3)).bind fun t345 => (if t345 = true then (footbridgeref03_Plain.l0 k x0 (wrap64 (x3 + 1))) else (some false))) else (none)) else (if (x0.size : Int) ≥ 1 then (some (decide ((x0.size : Int) ≤ 64))) else (some false))
def footbridgeref03_Plain.f (k : Nat) (a0 : ByteArray) : Option (Bool) := footbridgeref03_Plain.l0 k a0 0
theorem footbridgeref03_Plain.mono_l : ∀ k, (∀ y0 y1, LeO (footbridgeref03_Plain.l0 k y0 y1) (footbridgeref03_Plain.l0 (k + 1) y0 y1))
 | 0 => fun _ _ r h => by simp [footbridgeref03_Plain.l0] at h
 | k + 1 => by
  have ih0 := footbridgeref03_Plain.mono_l k
  ·intro y0 y1
   unfold footbridgeref03_Plain.l0
   repeat' first
   | (with_reducible exact ih0 _ _)
   | (with_reducible exact LeO.refl _)
   | (with_reducible exact LeO.none _)
   | (with_reducible refine LeO.ite ?_ ?_)
   | (with_reducible refine LeO.bind ?_ (fun _ => ?_))
   | exact ih0 _ _
   | exact LeO.none _
   | refine LeO.ite ?_ ?_
   | refine LeO.bind ?_ (fun _ => ?_)
theorem footbridgeref03_Plain.mono : ∀ a0 k, LeO (footbridgeref03_Plain.f k a0) (footbridgeref03_Plain.f (k + 1) a0) := by
 intro a0 k
 have ih0 := footbridgeref03_Plain.mono_l k
 unfold footbridgeref03_Plain.f
 repeat' first
   | (with_reducible exact ih0 _ _)
   | (with_reducible exact LeO.refl _)
   | (with_reducible exact LeO.none _)
   | (with_reducible refine LeO.ite ?_ ?_)
   | (with_reducible refine LeO.bind ?_ (fun _ => ?_))
   | exact ih0 _ _
   | exact LeO.none _
   | refine LeO.ite ?_ ?_
   | refine LeO.bind ?_ (fun _ => ?_)
theorem footbridgeref03_Plain.calls (k : Nat) (a0 : ByteArray) (r : Bool) (w : World) (h : footbridgeref03_Plain.f k a0 = some r) :
  Calls Tryz.prog 91 #[.string a0] w fun e w' => e = .returned (.bool r) ∧ Drawn0 w w' := by
 have H : (footbridgeref03_Plain.l0 k a0 0) = some r := h
 clear h
 have H' := As_ H
 clear H
 go_enter Tryz.func91, Tryz.ntmps91
 go_wp2
 go_loopg [3] k (fun kq v3 w' => ∃ (x3_1 : Int), v3 = .int .i64 x3_1 ∧ Aside0 (footbridgeref03_Plain.l0 kq a0 x3_1 = some r) ∧ Aside0 (kq ≤ k) ∧ Drawn0 w w')
 case atStart => exact ⟨(0), ap5_, H', ⟨Nat.le_refl _⟩, ap10_⟩
 case round =>
  clear H'
  obtain ⟨x3_1, rfl, HA, HK1, ⟨m1, rfl⟩⟩ := hrel
  cases gk with
  | zero => exact absurd HA.out (by simp [footbridgeref03_Plain.l0])
  | succ k1 =>
   have H := HA.out
   clear HA
   simp only [footbridgeref03_Plain.l0] at H
   by_cases c2 : x3_1 < (a0.size : Int)
   ·rw [if_pos c2] at H
    have c2b0 : decide (x3_1 < (a0.size : Int)) = true := decide_eq_true c2
    clear c2
    by_cases c3 : 0 ≤ x3_1
    ·rw [if_pos c3] at H
     have c3b0 : decide (0 ≤ x3_1) = true := decide_eq_true c3
     clear c3
     replace H := Option.bind_eq_some_iff.mp H
     obtain ⟨t345, A50, H⟩ := H
     try dsimp only at H
     have A5 := As_ A50
     clear A50
     by_cases c6 : t345 = true
     ·subst c6
      have H1 : (footbridgeref03_Plain.l0 k1 a0 (wrap64 (x3_1 + 1))) = some r := by rw [if_pos rfl] at H; exact H
      clear H
      have H := H1
      clear H1
      have H' := As_ H
      clear H
      have p4 : 0 ≤ (x3_1 : Int) := of_decide_eq_true ap7_
      have q4 : x3_1 < (a0.size : Int) := of_decide_eq_true ap7_
      have hx4 := bt_at a0 x3_1
      replace p4 := eq_true p4
      replace q4 := eq_true q4
      go_wp2_with (first | ((with_reducible refine gate_callee (f := 106) rfl ?_); refine gk_ (some 13) Tryz.func106 #[.int .u8 (bt a0 x3_1)] ?_; (with_reducible refine (footbridgeref03_letter.calls (bt a0 x3_1) true _ A5.out).mono ?_); rintro e w' ⟨rfl, ⟨nd, rfl⟩⟩; refine ⟨_, rfl, ?_⟩))
      go_roundg k1
      case measure => have := HK1.out; omega
      case rel => exact ⟨(wrap64 (x3_1 + 1)), ap5_, H', ⟨by have := HK1.out; omega⟩, ap10_⟩
     ·replace c6 := Bool.eq_false_iff.mpr c6
      subst c6
      have H1 : (some false) = some r := by rw [if_neg (show ¬ (false = true) by decide)] at H; exact H
      clear H
      have H := H1
      clear H1
      obtain rfl := Option.some.inj H
      have p4 : 0 ≤ (x3_1 : Int) := of_decide_eq_true ap7_
      have q4 : x3_1 < (a0.size : Int) := of_decide_eq_true ap7_
      have hx4 := bt_at a0 x3_1
      replace p4 := eq_true p4
      replace q4 := eq_true q4
      go_wp2_with (first | ((with_reducible refine gate_callee (f := 106) rfl ?_); refine gk_ (some 13) Tryz.func106 #[.int .u8 (bt a0 x3_1)] ?_; (with_reducible refine (footbridgeref03_letter.calls (bt a0 x3_1) false _ A5.out).mono ?_); rintro e w' ⟨rfl, ⟨nd, rfl⟩⟩; refine ⟨_, rfl, ?_⟩))
      go_ret
      exact ⟨ap5_, ap10_⟩
    ·rw [if_neg c3] at H
     exact absurd H (by simp)
   ·rw [if_neg c2] at H
    have c2b0 : decide (x3_1 < (a0.size : Int)) = false := decide_eq_false c2
    clear c2
    by_cases c7 : (a0.size : Int) ≥ 1
    ·rw [if_pos c7] at H
     have c7b0 : decide (1 ≤ (a0.size : Int)) = true := decide_eq_true c7
     have c7b1 : decide (1 ≤ a0.size) = true := decide_eq_true (by omega)
     clear c7
     obtain rfl := Option.some.inj H
     go_wp2
     go_ret
     exact ⟨ap5_, ap10_⟩
    ·rw [if_neg c7] at H
     have c7b0 : decide (1 ≤ (a0.size : Int)) = false := decide_eq_false c7
     have c7b1 : decide (1 ≤ a0.size) = false := decide_eq_false (by omega)
     clear c7
     obtain rfl := Option.some.inj H
     go_wp2
     go_ret
     exact ⟨ap5_, ap10_⟩
def footbridgeref03_Check.j0 : Nat → Int → ByteArray → Bool → Option (Int)
 | 0, _, _, _ => none
 | k + 1, x0, x1, x12 => if x12 = true then (some 1) else ((footbridgeref03_word.f x0).bind fun t346 => (if t346.toList = ([] : List UInt8) then ((footbridgeref03_Plain.f k x1).bind fun t347 => (if t347 = true then (some 0) else (some 7))) else ((footbridgeref03_Number.f k x0 x1).bind fun bt348 => (some bt348.2))))
def footbridgeref03_Check.f (k : Nat) (a0 : Int) (a1 : ByteArray) : Option (Int) := if a0 < 0 then (footbridgeref03_Check.j0 k a0 a1 true) else (footbridgeref03_Check.j0 k a0 a1 (decide (a0 > 6)))
theorem footbridgeref03_Check.mono_l : ∀ k, (∀ y0 y1 y2, LeO (footbridgeref03_Check.j0 k y0 y1 y2) (footbridgeref03_Check.j0 (k + 1) y0 y1 y2))
 | 0 => fun _ _ _ r h => by simp [footbridgeref03_Check.j0] at h
 | k + 1 => by
  have ih0 := footbridgeref03_Check.mono_l k
  ·intro y0 y1 y2
   unfold footbridgeref03_Check.j0
   repeat' first
   | (with_reducible exact ih0 _ _ _)
   | (with_reducible exact footbridgeref03_Number.mono _ _ _)
   | (with_reducible exact footbridgeref03_Plain.mono _ _)
   | (with_reducible exact LeO.refl _)
   | (with_reducible exact LeO.none _)
   | (with_reducible refine LeO.ite ?_ ?_)
   | (with_reducible refine LeO.bind ?_ (fun _ => ?_))
   | exact ih0 _ _ _
   | exact footbridgeref03_Number.mono _ _ _
   | exact footbridgeref03_Plain.mono _ _
   | exact LeO.none _
   | refine LeO.ite ?_ ?_
   | refine LeO.bind ?_ (fun _ => ?_)
theorem footbridgeref03_Check.mono : ∀ a0 a1 k, LeO (footbridgeref03_Check.f k a0 a1) (footbridgeref03_Check.f (k + 1) a0 a1) := by
 intro a0 a1 k
 have ih0 := footbridgeref03_Check.mono_l k
 unfold footbridgeref03_Check.f
 repeat' first
   | (with_reducible exact ih0 _ _ _)
   | (with_reducible exact footbridgeref03_Number.mono _ _ _)
   | (with_reducible exact footbridgeref03_Plain.mono _ _)
   | (with_reducible exact LeO.refl _)
   | (with_reducible exact LeO.none _)
   | (with_reducible refine LeO.ite ?_ ?_)
   | (with_reducible refine LeO.bind ?_ (fun _ => ?_))
   | exact ih0 _ _ _
   | exact footbridgeref03_Number.mono _ _ _
   | exact footbridgeref03_Plain.mono _ _
   | exact LeO.none _
   | refine LeO.ite ?_ ?_
   | refine LeO.bind ?_ (fun _ => ?_)
theorem footbridgeref03_Check.calls (k : Nat) (a0 : Int) (a1 : ByteArray) (r : Int) (w : World) (h : footbridgeref03_Check.f k a0 a1 = some r) :
  Calls Tryz.prog 69 #[.int .i64 a0, .string a1] w fun e w' => e = .returned (.int .i64 r) ∧ Below w.heap.size w w' := by
 have HB := As_ (Below.refl w.heap.size w)
 have H : (if a0 < 0 then (footbridgeref03_Check.j0 k a0 a1 true) else (footbridgeref03_Check.j0 k a0 a1 (decide (a0 > 6)))) = some r := h
 clear h
 have HC3 := As_ H
 clear H
 go_enter Tryz.func69, Tryz.ntmps69
 go_upto_region 1 with (fail)
 go_cut [12] (fun v12 wc => ∃ (kq : Nat) (x12_2 : Bool), v12 = .bool x12_2 ∧ Aside0 (footbridgeref03_Check.j0 kq a0 a1 x12_2 = some r) ∧ Aside0 (kq ≤ k) ∧ Aside0 (Below w.heap.size w wc))
 case first =>
  have H := HC3.out
  clear HC3
  by_cases c4 : a0 < 0
  ·rw [if_pos c4] at H
   have c4b0 : decide (a0 < 0) = true := decide_eq_true c4
   clear c4
   (first | rw [c4b0] | (simp only [i64_w, i32_w]; rw [c4b0]) | skip)
   have H' := As_ H
   clear H
   go_wp2
   go_meet
   case rel => exact ⟨_, (true), ap5_, H', ⟨ap1_⟩, ⟨ap50_⟩⟩
  ·rw [if_neg c4] at H
   have c4b0 : decide (a0 < 0) = false := decide_eq_false c4
   clear c4
   (first | rw [c4b0] | (simp only [i64_w, i32_w]; rw [c4b0]) | skip)
   have H' := As_ H
   clear H
   go_wp2
   go_meet
   case rel => exact ⟨_, (decide (a0 > 6)), ap5_, H', ⟨ap1_⟩, ⟨ap50_⟩⟩
 case rest =>
  clear HC3
  obtain ⟨kq, x12_2, rfl, HA, HJ2, HB⟩ := hcut
  cases kq with
  | zero => exact absurd HA.out (by simp [footbridgeref03_Check.j0])
  | succ kj2 =>
   have H := HA.out
   clear HA
   simp only [footbridgeref03_Check.j0] at H
   by_cases c5 : x12_2 = true
   ·subst c5
    have H1 : (some 1) = some r := by rw [if_pos rfl] at H; exact H
    clear H
    have H := H1
    clear H1
    obtain rfl := Option.some.inj H
    go_wp2
    go_ret
    exact ⟨ap17_, ap50_⟩
   ·replace c5 := Bool.eq_false_iff.mpr c5
    subst c5
    have H1 : ((footbridgeref03_word.f a0).bind fun t346 => (if t346.toList = ([] : List UInt8) then ((footbridgeref03_Plain.f kj2 a1).bind fun t347 => (if t347 = true then (some 0) else (some 7))) else ((footbridgeref03_Number.f kj2 a0 a1).bind fun bt348 => (some bt348.2)))) = some r := by rw [if_neg (show ¬ (false = true) by decide)] at H; exact H
    clear H
    have H := H1
    clear H1
    replace H := Option.bind_eq_some_iff.mp H
    obtain ⟨t346, A60, H⟩ := H
    try dsimp only at H
    have A6 := As_ A60
    clear A60
    by_cases c7 : t346.toList = ([] : List UInt8)
    ·rw [if_pos c7] at H
     have c7b0 : (t346.toList == ([] : List UInt8)) = true := beq_iff_eq.mpr c7
     have c7b1 : (t346.toList != ([] : List UInt8)) = false := bne_eq_false_iff_eq.mpr c7
     clear c7
     replace H := Option.bind_eq_some_iff.mp H
     obtain ⟨t347, A80, H⟩ := H
     try dsimp only at H
     have A8 := As_ A80
     clear A80
     by_cases c9 : t347 = true
     ·subst c9
      have H1 : (some 0) = some r := by rw [if_pos rfl] at H; exact H
      clear H
      have H := H1
      clear H1
      obtain rfl := Option.some.inj H
      go_wp2_with (first | ((with_reducible refine gate_callee (f := 89) rfl ?_); refine gk_ (some 14) Tryz.func89 #[.int .i64 a0] ?_; (with_reducible refine (footbridgeref03_word.calls a0 t346 _ A6.out).mono ?_); rintro e w' ⟨rfl, ⟨nd, rfl⟩⟩; refine ⟨_, rfl, ?_⟩) | ((with_reducible refine gate_callee (f := 91) rfl ?_); refine gk_ (some 24) Tryz.func91 #[.string a1] ?_; (with_reducible refine (footbridgeref03_Plain.calls kj2 a1 true _ A8.out).mono ?_); rintro e w' ⟨rfl, ⟨nd, rfl⟩⟩; refine ⟨_, rfl, ?_⟩))
      go_ret
      exact ⟨ap17_, ap50_⟩
     ·replace c9 := Bool.eq_false_iff.mpr c9
      subst c9
      have H1 : (some 7) = some r := by rw [if_neg (show ¬ (false = true) by decide)] at H; exact H
      clear H
      have H := H1
      clear H1
      obtain rfl := Option.some.inj H
      go_wp2_with (first | ((with_reducible refine gate_callee (f := 89) rfl ?_); refine gk_ (some 14) Tryz.func89 #[.int .i64 a0] ?_; (with_reducible refine (footbridgeref03_word.calls a0 t346 _ A6.out).mono ?_); rintro e w' ⟨rfl, ⟨nd, rfl⟩⟩; refine ⟨_, rfl, ?_⟩) | ((with_reducible refine gate_callee (f := 91) rfl ?_); refine gk_ (some 24) Tryz.func91 #[.string a1] ?_; (with_reducible refine (footbridgeref03_Plain.calls kj2 a1 false _ A8.out).mono ?_); rintro e w' ⟨rfl, ⟨nd, rfl⟩⟩; refine ⟨_, rfl, ?_⟩))
      go_ret
      exact ⟨ap17_, ap50_⟩
    ·rw [if_neg c7] at H
     have c7b0 : (t346.toList == ([] : List UInt8)) = false := beq_eq_false_iff_ne.mpr c7
     have c7b1 : (t346.toList != ([] : List UInt8)) = true := bne_iff_ne.mpr c7
     replace H := Option.bind_eq_some_iff.mp H
     obtain ⟨⟨t348, t349⟩, A100, H⟩ := H
     try dsimp only at H
     have A10 := As_ A100
     clear A100
     obtain rfl := Option.some.inj H
     go_wp2_with (first | ((with_reducible refine gate_callee (f := 89) rfl ?_); refine gk_ (some 14) Tryz.func89 #[.int .i64 a0] ?_; (with_reducible refine (footbridgeref03_word.calls a0 t346 _ A6.out).mono ?_); rintro e w' ⟨rfl, ⟨nd, rfl⟩⟩; refine ⟨_, rfl, ?_⟩) | ((with_reducible refine gate_callee (f := 90) rfl ?_); refine gk_ (some 19) Tryz.func90 #[.int .i64 a0, .string a1] ?_; (with_reducible refine (footbridgeref03_Number.calls kj2 a0 a1 t348 t349 _ A10.out).mono ?_); rintro e w11 ⟨rfl, hb⟩; refine ⟨_, rfl, ?_⟩; replace HB := As_ (below_step ap50_ hb); (try clear hb); (try clear hb2); (try clear hk); (try clear hi)))
     go_ret
     exact ⟨ap17_, ap50_⟩
def footbridgeref23_value.f (k : Nat) (a0_0 : ByteArray) (a0_1 : ByteArray) (a0_2 : ByteArray) (a0_3 : ByteArray) (a0_4 : ByteArray) : Option (ByteArray) := (footbridgeref14_Text.f k a0_2).bind fun t351 => ((footbridgeref14_Text.f k a0_3).bind fun t352 => (if t351.size + t352.size ≤ 9223372036854775807 then ((footbridgeref14_Text.f k a0_4).bind fun t353 => (if (t351 ++ t352).size + t353.size ≤ 9223372036854775807 then (some ((t351 ++ t352) ++ t353)) else (none))) else (none)))
theorem footbridgeref23_value.mono : ∀ a0 a1 a2 a3 a4 k, LeO (footbridgeref23_value.f k a0 a1 a2 a3 a4) (footbridgeref23_value.f (k + 1) a0 a1 a2 a3 a4) := by
 intro a0 a1 a2 a3 a4 k
 unfold footbridgeref23_value.f
 repeat' first
   | (with_reducible exact footbridgeref14_Text.mono _ _)
   | (with_reducible exact LeO.refl _)
   | (with_reducible exact LeO.none _)
   | (with_reducible refine LeO.ite ?_ ?_)
   | (with_reducible refine LeO.bind ?_ (fun _ => ?_))
   | exact footbridgeref14_Text.mono _ _
   | exact LeO.none _
   | refine LeO.ite ?_ ?_
   | refine LeO.bind ?_ (fun _ => ?_)
def footbridgeref23_value.T1 : Bool × List (List Nat × List Nat) := (true, [([], []), ([0], [0]), ([1], [1]), ([], []), ([3], [3]), ([4, 2], [4]), ([2, 5], [2, 5]), ([], []), ([7], [7]), ([8, 5], [8]), ([6, 9], [6, 9]), ([10, 9, 0, 1, 2, 3, 4, 5, 6, 7, 8, 9, 10], [10])])
def footbridgeref23_value.B1 : List Nat := [0, 1, 3, 0, 8, 31, 63, 0, 128, 447, 1023, 2047]
theorem footbridgeref23_value.tab1 : rtab .any (opsOf Tryz.f70 1) = footbridgeref23_value.T1 := by kernel_rfl
theorem footbridgeref23_value.bits1 : waitsOk footbridgeref23_value.T1.2 footbridgeref23_value.B1 = true := by kernel_rfl
theorem footbridgeref23_value.calls (k : Nat) (a0_0 : ByteArray) (a0_1 : ByteArray) (a0_2 : ByteArray) (a0_3 : ByteArray) (a0_4 : ByteArray) (r : ByteArray) (w : World) (h : footbridgeref23_value.f k a0_0 a0_1 a0_2 a0_3 a0_4 = some r) :
  Calls Tryz.prog 70 #[.agg #[.string a0_0, .string a0_1, .string a0_2, .string a0_3, .string a0_4]] w fun e w' => e = .returned (.string r) ∧ Below w.heap.size w w' := by
 have hu23 := Tryz.underlying23
 have HB := As_ (Below.refl w.heap.size w)
 have H : ((footbridgeref14_Text.f k a0_2).bind fun t351 => ((footbridgeref14_Text.f k a0_3).bind fun t352 => (if t351.size + t352.size ≤ 9223372036854775807 then ((footbridgeref14_Text.f k a0_4).bind fun t353 => (if (t351 ++ t352).size + t353.size ≤ 9223372036854775807 then (some ((t351 ++ t352) ++ t353)) else (none))) else (none)))) = some r := h
 clear h
 replace H := Option.bind_eq_some_iff.mp H
 obtain ⟨t351, A20, H⟩ := H
 try dsimp only at H
 have A2 := As_ A20
 clear A20
 replace H := Option.bind_eq_some_iff.mp H
 obtain ⟨t352, A30, H⟩ := H
 try dsimp only at H
 have A3 := As_ A30
 clear A30
 by_cases c4 : t351.size + t352.size ≤ 9223372036854775807
 ·rw [if_pos c4] at H
  have c4b0 := eq_true c4
  have c4b1 : decide (t351.size + t352.size ≤ 9223372036854775807) = true := decide_eq_true c4
  try have c4b2 : (9223372036854775807 < t351.size + t352.size) = False := eq_false (Nat.not_lt.2 c4)
  replace H := Option.bind_eq_some_iff.mp H
  obtain ⟨t353, A50, H⟩ := H
  try dsimp only at H
  have A5 := As_ A50
  clear A50
  by_cases c6 : (t351 ++ t352).size + t353.size ≤ 9223372036854775807
  ·rw [if_pos c6] at H
   have c6b0 := eq_true c6
   have c6b1 : decide ((t351 ++ t352).size + t353.size ≤ 9223372036854775807) = true := decide_eq_true c6
   try have c6b2 : (9223372036854775807 < (t351 ++ t352).size + t353.size) = False := eq_false (Nat.not_lt.2 c6)
   try (have c6b2_ := c6b2; simp only [ByteArray.size_append, my_lit_size, List.length_cons, List.length_nil, Nat.reduceAdd] at c6b2_)
   obtain rfl := Option.some.inj H
   go_enter Tryz.func70, Tryz.ntmps70
   try go_wp2_with (first | ((with_reducible refine gate_dst (N := 1) rfl ?_); refine bxE (N := 1) (cs := #[.string a0_0, .string a0_1, .string a0_2, .string a0_3, .string a0_4]) (t := 23) ?_; intro gb350 hg w7 hbox hb; have BK350 := As_ (hbox); have GW350 := As_ ((by rw [hg]; exact (below_size ap50_) : w.heap.size ≤ gb350)); have GE350 := As_ ((by rw [hg]; exact (below_size ap50_) : w.heap.size ≤ gb350)); replace HB := As_ (below_step ap50_ hb); clear hb hbox hg))
   replace BK350 := As_ (blk_drew BK350.out)
   replace HB := As_ (below_drew1 HB.out)
   refine start_ (n := 12) (S := fun w' => w'.cell? ⟨gb350, 0, none⟩ = some (.string a0_0) ∧ w'.cell? ⟨gb350, 1, none⟩ = some (.string a0_1) ∧ w'.cell? ⟨gb350, 2, none⟩ = some (.string a0_2) ∧ w'.cell? ⟨gb350, 3, none⟩ = some (.string a0_3) ∧ w'.cell? ⟨gb350, 4, none⟩ = some (.string a0_4)) (ds := []) #[false, false, false, false, false, false, false, false, false, false, false, false] (by kernel_rfl) rfl rfl ⟨(blk_cell BK350.out 0).trans rfl, (blk_cell BK350.out 1).trans rfl, (blk_cell BK350.out 2).trans rfl, (blk_cell BK350.out 3).trans rfl, (blk_cell BK350.out 4).trans rfl⟩ (fun hHeld => ?_); refine with_tabW footbridgeref23_value.tab1 footbridgeref23_value.bits1 (fun HT_ HW_ => ?_)
   generalize w7.drew = w8 at BK350 HB hHeld ⊢
   refine pure_ (i := 0) (N := some 3) #[true, false, false, false, false, false, false, false, false, false, false, false] rfl rfl (any_of HT_.out (by kernel_rfl)) (fun _ _ _ h => h) (Or.inl ⟨by rfl, ap2_⟩) ap35_ ?_
   refine pure_ (i := 3) (N := some 6) #[true, false, false, true, false, false, false, false, false, false, false, false] rfl rfl (any_of HT_.out (by kernel_rfl)) (fun _ _ _ h => h) (Or.inl ⟨by rfl, ap2_⟩) ap35_ ?_
   refine pure_ (i := 7) (N := some 10) #[true, false, false, true, false, false, false, true, false, false, false, false] rfl rfl (any_of HT_.out (by kernel_rfl)) (fun _ _ _ h => h) (Or.inl ⟨by rfl, ap2_⟩) ap35_ ?_
   refine take_ (i := 1) (N := some 4) #[true, true, false, true, false, false, false, true, false, false, false, false] rfl rfl (take_ofW HT_.out HW_.out (by kernel_rfl)) (fun _ _ _ h => h) (Or.inl ⟨by rfl, ap12_⟩) hHeld ap35_ ?_
   refine take_ (i := 4) (N := some 7) #[true, true, false, true, true, false, false, true, false, false, false, false] rfl rfl (take_ofW HT_.out HW_.out (by kernel_rfl)) (fun _ _ _ h => h) (Or.inl ⟨by rfl, ap12_⟩) hHeld ap35_ ?_
   refine take_ (i := 8) (N := some 11) #[true, true, false, true, true, false, false, true, true, false, false, false] rfl rfl (take_ofW HT_.out HW_.out (by kernel_rfl)) (fun _ _ _ h => h) (Or.inl ⟨by rfl, ap12_⟩) hHeld ap35_ ?_
   refine one_ (i := 2) (N := some 5) #[true, true, true, true, true, false, false, true, true, false, false, false] rfl rfl (one_of HT_.out (by kernel_rfl)) (by decide) (fun K hK => ?_)
   refine goes_ Tryz.func65 (by kernel_rfl) rfl #[.string a0_2] (by rfl) rfl rfl ap54_ ?_
   with_reducible refine (footbridgeref14_Text.calls k a0_2 t351 _ A2.out).mono ?_
   rintro e w9 ⟨rfl, hb⟩
   refine ⟨_, rfl, ?_⟩
   replace BK350 := As_ (blk_below (g := gb350) (o := .cells #[.string a0_0, .string a0_1, .string a0_2, .string a0_3, .string a0_4] 23 (0, 0)) ap48_ hb)
   replace HB := As_ (below_step ap68_ hb)
   (try clear hb)
   (try clear hb2)
   (try clear hk)
   (try clear hi)
   refine hK.out _ _ ⟨(blk_cell BK350.out 0).trans rfl, (blk_cell BK350.out 1).trans rfl, (blk_cell BK350.out 2).trans rfl, (blk_cell BK350.out 3).trans rfl, (blk_cell BK350.out 4).trans rfl⟩ (fun hHeld => ?_)
   clear hK K
   refine norm_ (a' := ?_) ?_ ?_
   rotate_left
   ·show Act.put _ (some 5) _ = _
    simp only [Act.put, List.setIfInBounds_toArray, List.set_cons_zero, List.set_cons_succ, i64_w, i32_w]
    rfl
   refine one_ (i := 5) (N := some 8) #[true, true, true, true, true, true, false, true, true, false, false, false] rfl rfl (one_of HT_.out (by kernel_rfl)) (by decide) (fun K hK => ?_)
   refine goes_ Tryz.func65 (by kernel_rfl) rfl #[.string a0_3] (by rfl) rfl rfl ap54_ ?_
   with_reducible refine (footbridgeref14_Text.calls k a0_3 t352 _ A3.out).mono ?_
   rintro e w10 ⟨rfl, hb⟩
   refine ⟨_, rfl, ?_⟩
   replace BK350 := As_ (blk_below (g := gb350) (o := .cells #[.string a0_0, .string a0_1, .string a0_2, .string a0_3, .string a0_4] 23 (0, 0)) ap48_ hb)
   replace HB := As_ (below_step ap68_ hb)
   (try clear hb)
   (try clear hb2)
   (try clear hk)
   (try clear hi)
   refine hK.out _ _ ⟨(blk_cell BK350.out 0).trans rfl, (blk_cell BK350.out 1).trans rfl, (blk_cell BK350.out 2).trans rfl, (blk_cell BK350.out 3).trans rfl, (blk_cell BK350.out 4).trans rfl⟩ (fun hHeld => ?_)
   clear hK K
   refine norm_ (a' := ?_) ?_ ?_
   rotate_left
   ·show Act.put _ (some 8) _ = _
    simp only [Act.put, List.setIfInBounds_toArray, List.set_cons_zero, List.set_cons_succ, i64_w, i32_w]
    rfl
   refine pure_ (i := 6) (N := some 9) #[true, true, true, true, true, true, true, true, true, false, false, false] rfl rfl (any_of HT_.out (by kernel_rfl)) (fun _ _ _ h => h) (Or.inl ⟨by rfl, ap2_⟩) ap35_ ?_
   refine one_ (i := 9) (N := some 12) #[true, true, true, true, true, true, true, true, true, true, false, false] rfl rfl (one_of HT_.out (by kernel_rfl)) (by decide) (fun K hK => ?_)
   refine goes_ Tryz.func65 (by kernel_rfl) rfl #[.string a0_4] (by rfl) rfl rfl ap54_ ?_
   with_reducible refine (footbridgeref14_Text.calls k a0_4 t353 _ A5.out).mono ?_
   rintro e w11 ⟨rfl, hb⟩
   refine ⟨_, rfl, ?_⟩
   replace BK350 := As_ (blk_below (g := gb350) (o := .cells #[.string a0_0, .string a0_1, .string a0_2, .string a0_3, .string a0_4] 23 (0, 0)) ap48_ hb)
   replace HB := As_ (below_step ap68_ hb)
   (try clear hb)
   (try clear hb2)
   (try clear hk)
   (try clear hi)
   refine hK.out _ _ ⟨(blk_cell BK350.out 0).trans rfl, (blk_cell BK350.out 1).trans rfl, (blk_cell BK350.out 2).trans rfl, (blk_cell BK350.out 3).trans rfl, (blk_cell BK350.out 4).trans rfl⟩ (fun hHeld => ?_)
   clear hK K
   refine norm_ (a' := ?_) ?_ ?_
   rotate_left
   ·show Act.put _ (some 12) _ = _
    simp only [Act.put, List.setIfInBounds_toArray, List.set_cons_zero, List.set_cons_succ, i64_w, i32_w]
    rfl
   refine pure_ (i := 10) (N := some 13) #[true, true, true, true, true, true, true, true, true, true, true, false] rfl rfl (any_of HT_.out (by kernel_rfl)) (fun _ _ _ h => h) (Or.inl ⟨by rfl, ap2_⟩) ap35_ ?_
   refine pure_ (i := 11) (N := some 2) #[true, true, true, true, true, true, true, true, true, true, true, true] rfl rfl (any_of HT_.out (by kernel_rfl)) (fun _ _ _ h => h) (Or.inl ⟨by rfl, ap2_⟩) ap35_ ?_
   refine done_ (done_of HT_.out (by kernel_rfl)) ?_
   try go_wp2
   go_ret
   exact ⟨ap17_, ap68_⟩
  ·rw [if_neg c6] at H
   exact absurd H (by simp)
 ·rw [if_neg c4] at H
  exact absurd H (by simp)
def footbridgeref23_own.f (k : Nat) (a0 : ByteArray) (a1 : ByteArray) (a2 : ByteArray) : Option (ByteArray) := (footbridgeref14_Key.f k (([(⟨#[111, 119, 110]⟩ : ByteArray), a0, a1, a2] : List ByteArray))).bind fun t357 => (some t357)
theorem footbridgeref23_own.mono : ∀ a0 a1 a2 k, LeO (footbridgeref23_own.f k a0 a1 a2) (footbridgeref23_own.f (k + 1) a0 a1 a2) := by
 intro a0 a1 a2 k
 unfold footbridgeref23_own.f
 repeat' first
   | (with_reducible exact footbridgeref14_Key.mono _ _)
   | (with_reducible exact LeO.refl _)
   | (with_reducible exact LeO.none _)
   | (with_reducible refine LeO.ite ?_ ?_)
   | (with_reducible refine LeO.bind ?_ (fun _ => ?_))
   | exact footbridgeref14_Key.mono _ _
   | exact LeO.none _
   | refine LeO.ite ?_ ?_
   | refine LeO.bind ?_ (fun _ => ?_)
theorem footbridgeref23_own.calls (k : Nat) (a0 : ByteArray) (a1 : ByteArray) (a2 : ByteArray) (r : ByteArray) (w : World) (h : footbridgeref23_own.f k a0 a1 a2 = some r) :
  Calls Tryz.prog 71 #[.string a0, .string a1, .string a2] w fun e w' => e = .returned (.string r) ∧ Below w.heap.size w w' := by
 have HB := As_ (Below.refl w.heap.size w)
 have H : ((footbridgeref14_Key.f k (([(⟨#[111, 119, 110]⟩ : ByteArray), a0, a1, a2] : List ByteArray))).bind fun t357 => (some t357)) = some r := h
 clear h
 obtain ⟨y354, hy354⟩ : ∃ y_ : List ByteArray, y_ = (([(⟨#[111, 119, 110]⟩ : ByteArray), a0, a1, a2] : List ByteArray)) := ⟨_, rfl⟩
 replace H : ((footbridgeref14_Key.f k y354).bind fun t357 => (some t357)) = some r := by first | (rw [hy354]; with_reducible exact H) | (have H2_ := (Option.bind_some _ _).symm.trans H; rw [hy354]; with_reducible exact H2_) | (have H2_ := (Option.bind_some _ _).symm.trans H; with_reducible exact H2_) | with_reducible exact H | (rw [hy354]; exact H) | exact H
 have Ny354 := As_ hy354
 clear hy354
 replace H := Option.bind_eq_some_iff.mp H
 obtain ⟨t357, A40, H⟩ := H
 try dsimp only at H
 have A4 := As_ A40
 clear A40
 obtain rfl := Option.some.inj H
 go_enter Tryz.func71, Tryz.ntmps71
 go_wp2_with (first | ((with_reducible refine gate_dst (N := 10) rfl ?_); refine Kd.R_lit Kd.string _ 9 ?hg (N := 10) ?hd (xs := ([(⟨#[111, 119, 110]⟩ : ByteArray), a0, a1, a2] : List ByteArray)) (inner := [.string ⟨#[111, 119, 110]⟩, .string a0, .string a1, .string a2]) (ok := fun _ => True) (okp := fun _ => True) ?hr ?hp (fun _ hk => hk) trivial (Below.refl _ _) (Nat.le_refl _) (by simp) ?_; (case hd => rfl); (case hg => rfl); (case hr => first | (go_simp; done) | (go_simp; rfl)); (case hp => exact (Reps.one (show Kd.M Kd.string _ _ _ (⟨#[111, 119, 110]⟩ : ByteArray) [.string ⟨#[111, 119, 110]⟩] from rfl) (Reps.one (show Kd.M Kd.string _ _ _ a0 [.string a0] from rfl) (Reps.one (show Kd.M Kd.string _ _ _ a1 [.string a1] from rfl) (Reps.one (show Kd.M Kd.string _ _ _ a2 [.string a2] from rfl) (Reps.none _ _)))))); intro v355 w5 ho6 hb hg_ hnew_; clear hg_ hnew_; (first | rw [← Ny354.out] at ho6 | (simp only [Int.reduceToNat] at ho6; rw [← Ny354.out] at ho6)); have HO356 := As_ (Kd.R_lower ho6 (below_size ap50_)); replace HB := As_ (below_step ap50_ hb); clear hb ho6; obtain ⟨Ao7, co7, eo7⟩ := Kd.R_slice HO356.out; subst eo7) | ((with_reducible refine gate_callee (f := 47) rfl ?_); refine gk_ (some 11) Tryz.func47 #[.slice Ao7 y354.length co7] ?_; (with_reducible refine (footbridgeref14_Key.calls k _ _ y354 t357 _ ?side1 ?side2 A4.out).mono ?_); (case side1 => repeat (first | exact (Kd.R_reads' HO356.out).2.2 | (with_reducible refine Kd.C_alloc ?_ _) | (with_reducible refine Kd.C_drewN ?_ _) | (with_reducible refine Kd.C_drew ?_))); (case side2 => exact (Kd.R_reads' HO356.out).2.1); rintro e w8 ⟨rfl, hb⟩; refine ⟨_, rfl, ?_⟩; replace HO356 := As_ (Kd.R_below (by (with_reducible repeat (first | apply Kd.R_alloc | apply Kd.R_drewN | apply Kd.R_drew)); exact HO356.out) hb); replace HB := As_ (below_step ap50_ hb); (try clear hb); (try clear hb2); (try clear hk); (try clear hi)))
 go_ret
 exact ⟨ap17_, ap50_⟩
def footbridgeref09_Del.f (k : Nat) (l0 : List (S82)) (a1 : ByteArray) : Option ((List (S82)) × Bool) := (footbridgeref09_at.f k l0 a1).bind fun t358 => (if t358 = (l0.length : Int) then (some (l0, false)) else (if 0 ≤ t358 then (if t358 < (l0.length : Int) then (if ((rd_T82 l0 t358).f0).toList = a1.toList then (if t358 ≤ (l0.length : Int) then ((some (l0.take (t358 : Int).toNat : List (S82))).bind fun y360 => (if ([] : List (S82)).length + y360.length < 4398046511104 then ((some (([] : List (S82)) ++ y360 : List (S82))).bind fun y365 => (if 0 ≤ (wrap64 (t358 + 1)) then (if (wrap64 (t358 + 1)) ≤ (l0.length : Int) then ((some (l0.drop ((wrap64 (t358 + 1)) : Int).toNat : List (S82))).bind fun y368 => (if y365.length + y368.length < 4398046511104 then (some ((y365 ++ y368), true)) else (none))) else (none)) else (none))) else (none))) else (none)) else (some (l0, false))) else (none)) else (none)))
theorem footbridgeref09_Del.mono : ∀ a0 a1 k, LeO (footbridgeref09_Del.f k a0 a1) (footbridgeref09_Del.f (k + 1) a0 a1) := by
 intro a0 a1 k
 unfold footbridgeref09_Del.f
 repeat' first
   | (with_reducible exact footbridgeref09_at.mono _ _ _)
   | (with_reducible exact LeO.refl _)
   | (with_reducible exact LeO.none _)
   | (with_reducible refine LeO.ite ?_ ?_)
   | (with_reducible refine LeO.bind ?_ (fun _ => ?_))
   | exact footbridgeref09_at.mono _ _ _
   | exact LeO.none _
   | refine LeO.ite ?_ ?_
   | refine LeO.bind ?_ (fun _ => ?_)
theorem footbridgeref09_Del.calls (k : Nat) (P0_ : Nat → Prop) (A0 : Option Addr) (c0 : Nat) (l0 : List (S82)) (a1 : ByteArray) (r1 : List (S82)) (r2 : Bool) (w : World) (hs0 : Kd.V k82 82 w w.heap.size (fun k_ => P0_ k_) (.slice A0 l0.length c0) l0) (h : footbridgeref09_Del.f k l0 a1 = some (r1, r2)) :
  Calls Tryz.prog 93 #[.slice A0 l0.length c0, .string a1] w fun e w' => ∃ v0_ : Value, e = .returned (.tuple #[v0_, .bool r2]) ∧ Kd.V k82 82 w' w.heap.size (fun k_ => (P0_ k_ ∨ w.heap.size ≤ k_)) v0_ r1 ∧ Below w.heap.size w w' := by
 have HO0 := As_ (show Kd.V k82 82 w w.heap.size (fun k_ => (P0_ k_ ∨ w.heap.size ≤ k_)) (.slice A0 l0.length c0) l0 from Kd.V_mono hs0 (fun k_ hk => .inl hk))
 have HB := As_ (Below.refl w.heap.size w)
 have H : ((footbridgeref09_at.f k l0 a1).bind fun t358 => (if t358 = (l0.length : Int) then (some (l0, false)) else (if 0 ≤ t358 then (if t358 < (l0.length : Int) then (if ((rd_T82 l0 t358).f0).toList = a1.toList then (if t358 ≤ (l0.length : Int) then ((some (l0.take (t358 : Int).toNat : List (S82))).bind fun y360 => (if ([] : List (S82)).length + y360.length < 4398046511104 then ((some (([] : List (S82)) ++ y360 : List (S82))).bind fun y365 => (if 0 ≤ (wrap64 (t358 + 1)) then (if (wrap64 (t358 + 1)) ≤ (l0.length : Int) then ((some (l0.drop ((wrap64 (t358 + 1)) : Int).toNat : List (S82))).bind fun y368 => (if y365.length + y368.length < 4398046511104 then (some ((y365 ++ y368), true)) else (none))) else (none)) else (none))) else (none))) else (none)) else (some (l0, false))) else (none)) else (none)))) = some (r1, r2) := h
 clear h
 replace H := Option.bind_eq_some_iff.mp H
 obtain ⟨t358, A30, H⟩ := H
 try dsimp only at H
 have A3 := As_ A30
 clear A30
 by_cases c4 : t358 = (l0.length : Int)
 ·rw [if_pos c4] at H
  have c4b0 : (t358 == (l0.length : Int)) = true := beq_iff_eq.mpr c4
  have c4b1 : (t358 != (l0.length : Int)) = false := bne_eq_false_iff_eq.mpr c4
  clear c4
  simp only [Option.some.injEq, Prod.mk.injEq] at H
  obtain ⟨rfl, rfl⟩ := H
  go_enter Tryz.func93, Tryz.ntmps93
  go_wp2_with (first | ((with_reducible refine gate_callee (f := 74) rfl ?_); refine gk_ (some 10) Tryz.func74 #[.slice A0 l0.length c0, .string a1] ?_; (with_reducible refine (footbridgeref09_at.calls k _ _ l0 a1 t358 _ ?side1 ?side2 A3.out).mono ?_); (case side1 => repeat (first | exact (Kd.V_reads' HO0.out).2.2 | (with_reducible refine Kd.C_alloc ?_ _) | (with_reducible refine Kd.C_drewN ?_ _) | (with_reducible refine Kd.C_drew ?_))); (case side2 => exact (Kd.V_reads' HO0.out).2.1); rintro e w' ⟨rfl, ⟨nd, rfl⟩⟩; refine ⟨_, rfl, ?_⟩))
  go_ret2
  exact ⟨_, ap17_, ap18_, ap50_⟩
 ·rw [if_neg c4] at H
  have c4b0 : (t358 == (l0.length : Int)) = false := beq_eq_false_iff_ne.mpr c4
  have c4b1 : (t358 != (l0.length : Int)) = true := bne_iff_ne.mpr c4
  by_cases c5 : 0 ≤ t358
  ·rw [if_pos c5] at H
   have c5b0 : decide (0 ≤ t358) = true := decide_eq_true c5
   clear c5
   by_cases c6 : t358 < (l0.length : Int)
   ·rw [if_pos c6] at H
    have c6b0 : decide (t358 < (l0.length : Int)) = true := decide_eq_true c6
    clear c6
    by_cases c7 : ((rd_T82 l0 t358).f0).toList = a1.toList
    ·rw [if_pos c7] at H
     have c7b0 : (((rd_T82 l0 t358).f0).toList == a1.toList) = true := beq_iff_eq.mpr c7
     have c7b1 : (((rd_T82 l0 t358).f0).toList != a1.toList) = false := bne_eq_false_iff_eq.mpr c7
     clear c7
     have c8b0 := eq_true (of_decide_eq_true ap7_ : 0 ≤ t358)
     by_cases c9 : t358 ≤ (l0.length : Int)
     ·rw [if_pos c9] at H
      have c9b0 := eq_true c9
      have c9b1 : decide (t358 ≤ (l0.length : Int)) = true := decide_eq_true c9
      clear c9
      obtain ⟨y360, hy360⟩ : ∃ y_ : List (S82), y_ = (l0.take (t358 : Int).toNat) := ⟨_, rfl⟩
      replace H : (if ([] : List (S82)).length + y360.length < 4398046511104 then ((some (([] : List (S82)) ++ y360 : List (S82))).bind fun y365 => (if 0 ≤ (wrap64 (t358 + 1)) then (if (wrap64 (t358 + 1)) ≤ (l0.length : Int) then ((some (l0.drop ((wrap64 (t358 + 1)) : Int).toNat : List (S82))).bind fun y368 => (if y365.length + y368.length < 4398046511104 then (some ((y365 ++ y368), true)) else (none))) else (none)) else (none))) else (none)) = some (r1, r2) := by first | (rw [hy360]; with_reducible exact H) | (have H2_ := (Option.bind_some _ _).symm.trans H; rw [hy360]; with_reducible exact H2_) | (have H2_ := (Option.bind_some _ _).symm.trans H; with_reducible exact H2_) | with_reducible exact H | (rw [hy360]; exact H) | exact H
      have Ny360 := As_ hy360
      clear hy360
      by_cases c10 : ([] : List (S82)).length + y360.length < 4398046511104
      ·rw [if_pos c10] at H
       have LMc10 := As_ c10
       clear c10
       obtain ⟨y365, hy365⟩ : ∃ y_ : List (S82), y_ = (([] : List (S82)) ++ y360) := ⟨_, rfl⟩
       replace H : (if 0 ≤ (wrap64 (t358 + 1)) then (if (wrap64 (t358 + 1)) ≤ (l0.length : Int) then ((some (l0.drop ((wrap64 (t358 + 1)) : Int).toNat : List (S82))).bind fun y368 => (if y365.length + y368.length < 4398046511104 then (some ((y365 ++ y368), true)) else (none))) else (none)) else (none)) = some (r1, r2) := by first | (rw [hy365]; with_reducible exact H) | (have H2_ := (Option.bind_some _ _).symm.trans H; rw [hy365]; with_reducible exact H2_) | (have H2_ := (Option.bind_some _ _).symm.trans H; with_reducible exact H2_) | with_reducible exact H | (rw [hy365]; exact H) | exact H
       have Ny365 := As_ hy365
       clear hy365
       obtain ⟨ji11, hji11⟩ : ∃ j_ : Int, (wrap64 (t358 + 1)) = j_ := ⟨_, rfl⟩
       replace H : (if 0 ≤ (ji11) then (if (ji11) ≤ (l0.length : Int) then ((some (l0.drop ((ji11) : Int).toNat : List (S82))).bind fun y368 => (if y365.length + y368.length < 4398046511104 then (some ((y365 ++ y368), true)) else (none))) else (none)) else (none)) = some (r1, r2) := by first | (rw [hji11] at H; exact H) | (simp only [hji11] at H ⊢; exact H)
       (try rw [hji11] at A3)
       have hji11w : (IntKind.i64.wrap (t358 + 1)) = ji11 := (i64_w _).trans hji11
       by_cases c12 : 0 ≤ (ji11)
       ·rw [if_pos c12] at H
        have c12b0 := eq_true c12
        have c12b1 : decide (0 ≤ (ji11)) = true := decide_eq_true c12
        clear c12
        by_cases c13 : (ji11) ≤ (l0.length : Int)
        ·rw [if_pos c13] at H
         have c13b0 := eq_true c13
         have c13b1 : decide ((ji11) ≤ (l0.length : Int)) = true := decide_eq_true c13
         clear c13
         obtain ⟨y368, hy368⟩ : ∃ y_ : List (S82), y_ = (l0.drop ((ji11) : Int).toNat) := ⟨_, rfl⟩
         replace H : (if y365.length + y368.length < 4398046511104 then (some ((y365 ++ y368), true)) else (none)) = some (r1, r2) := by first | (rw [hy368]; with_reducible exact H) | (have H2_ := (Option.bind_some _ _).symm.trans H; rw [hy368]; with_reducible exact H2_) | (have H2_ := (Option.bind_some _ _).symm.trans H; with_reducible exact H2_) | with_reducible exact H | (rw [hy368]; exact H) | exact H
         have Ny368 := As_ hy368
         clear hy368
         by_cases c14 : y365.length + y368.length < 4398046511104
         ·rw [if_pos c14] at H
          have LMc14 := As_ c14
          clear c14
          obtain ⟨y373, hy373⟩ : ∃ y_ : List (S82), y_ = (y365 ++ y368) := ⟨_, rfl⟩
          replace H : (some (y373, true)) = some (r1, r2) := by first | (rw [hy373]; with_reducible exact H) | (have H2_ := (Option.bind_some _ _).symm.trans H; rw [hy373]; with_reducible exact H2_) | (have H2_ := (Option.bind_some _ _).symm.trans H; with_reducible exact H2_) | with_reducible exact H | (rw [hy373]; exact H) | exact H
          have Ny373 := As_ hy373
          clear hy373
          simp only [Option.some.injEq, Prod.mk.injEq] at H
          obtain ⟨rfl, rfl⟩ := H
          go_enter Tryz.func93, Tryz.ntmps93
          go_wp2_with (first | ((with_reducible refine gate_callee (f := 74) rfl ?_); refine gk_ (some 10) Tryz.func74 #[.slice A0 l0.length c0, .string a1] ?_; (with_reducible refine (footbridgeref09_at.calls k _ _ l0 a1 t358 _ ?side1 ?side2 A3.out).mono ?_); (case side1 => repeat (first | exact (Kd.V_reads' HO0.out).2.2 | (with_reducible refine Kd.C_alloc ?_ _) | (with_reducible refine Kd.C_drewN ?_ _) | (with_reducible refine Kd.C_drew ?_))); (case side2 => exact (Kd.V_reads' HO0.out).2.1); rintro e w' ⟨rfl, ⟨nd, rfl⟩⟩; refine ⟨_, rfl, ?_⟩; have p359 : 0 ≤ (t358 : Int) := of_decide_eq_true ap7_; have q359 : t358 < (l0.length : Int) := of_decide_eq_true ap7_; obtain ⟨ad359, e359, hx359_0, hx359_1⟩ := at_T82 (Kd.V_reads' HO0.out).2.2 t358 p359 q359; cases e359; replace p359 := eq_true p359; replace q359 := eq_true q359; have q15 : (t358 : Int) ≤ ((l0.length : Int) : Int) := of_decide_eq_true ap7_; obtain ⟨i015, hi015, _, hsz15, _⟩ := info_parts info82; have hroom15 : l0.length ≤ c0 := (Kd.V_reads' HO0.out).2.1; have hC15 : Kd.F k82 _ _ (some ad359) l0.length l0 := (Kd.V_at (base := w.heap.size) HO0.out).2.2; have hcut15 := cut_to (P := Tryz.prog) 36 82 .i64 Tryz.underlying36 hi015 (some ad359) l0.length c0 t358 (of_decide_eq_true ap7_) q15 hroom15; have hr15 := Kd.F_take (m := (t358 : Int).toNat) hC15 (by omega); have hy15 : y360.length = (t358 : Int).toNat := (by rw [Ny360.out, List.length_take]; omega); rw [← Ny360.out] at hr15; rw [← hy15] at hcut15; have HO364 := As_ (show Kd.V k82 82 _ w.heap.size _ (.slice (some ad359) y360.length c0) y360 from Kd.V_mk (by omega) hr15); have HC364 := As_ (show y360.length ≤ c0 from by omega); clear hr15 hC15 hroom15 hi015 hsz15; have KY15 := As_ hy15; clear hy15; replace q15 := eq_true q15) | ((with_reducible refine gate_builtin (b := .append) (xs := #[.tmp 25, .tmp 28]) rfl ?_); at_builtin; refine Kd.R_append_rows k82 (w0 := w) w.heap.size rfl (.tmp 25) (.tmp 28) 36 82 (.agg #[(.string ⟨#[]⟩), (.string ⟨#[]⟩)]) 32 rfl Tryz.underlying36 info82 rfl (by decide) (by omega) (.slice none 0 0) ([] : List (S82)) y360 _ _ _ (fun k_ => (w.heap.size ≤ k_)) (fun _ => False) rfl rfl ?aO ?aR (fun _ _ h => h) (fun _ h => h.elim) ?aF ?aB ?aS ?aL ?_; (case aR => repeat (first | exact (Kd.V_reads' HO364.out).2.2 | (with_reducible refine Kd.C_alloc ?_ _) | (with_reducible refine Kd.C_drewN ?_ _) | (with_reducible refine Kd.C_drew ?_))); (case aB => exact ap50_); (case aF => exact (fun k_ hk => (Nat.le_trans (below_size ap50_) hk))); (case aO => exact ((Kd.R_nil _ _ _ _ (fun k_ => (w.heap.size ≤ k_))))); (case aS => exact (below_size ap50_)); (case aL => have := LMc10.out; omega); intro v366 w16 ho hb hg hat; rw [← Ny365.out] at ho; replace HO0 := As_ (Kd.V_afterv (Kd.V_apart_nil ap18_) hg hat); replace HO364 := As_ (Kd.V_afterv (Kd.V_apart_nil ap30_) hg hat); replace HB := As_ (hb); have HO367 := As_ (ho); clear ho hb hg hat; have q17 : ((ji11) : Int) ≤ ((l0.length : Int) : Int) := of_decide_eq_true ap7_; obtain ⟨i017, hi017, _, hsz17, _⟩ := info_parts info82; have hroom17 : l0.length ≤ c0 := (Kd.V_reads' HO0.out).2.1; have hC17 : Kd.F k82 _ _ (some ad359) l0.length l0 := (Kd.V_at (base := w.heap.size) HO0.out).2.2; have q017 : (0 : Int) ≤ ((ji11) : Int) := of_decide_eq_true ap7_; have hcut17 := cut_from (P := Tryz.prog) 36 82 .i64 Tryz.underlying36 hi017 2 hsz17 (some ad359) l0.length c0 (ji11) q017 q17; have hr17 := Kd.F_cut (m := ((ji11) : Int).toNat) (c := c0) hC17 (by omega) hroom17; obtain ⟨A17, hA17⟩ : ∃ A1, A1 = (if c0 = ((ji11) : Int).toNat then (some ad359) else ((some ad359) : Option Addr).map (·.add (((ji11) : Int).toNat * 2))) := ⟨_, rfl⟩; obtain ⟨c17, hc17⟩ : ∃ c1, c1 = c0 - ((ji11) : Int).toNat := ⟨_, rfl⟩; have hy17 : y368.length = l0.length - ((ji11) : Int).toNat := (by rw [Ny368.out, List.length_drop] <;> omega); rw [show (l0).drop ((ji11) : Int).toNat = y368 from Ny368.out.symm] at hr17; replace hr17 : Kd.F k82 _ _ A17 y368.length y368 := (by rw [hA17]; exact hr17); rw [← hy17, ← hA17, ← hc17] at hcut17; have HO372 := As_ (show Kd.V k82 82 _ w.heap.size _ (.slice A17 y368.length c17) y368 from Kd.V_mk (by rw [hy17, hc17]; exact Nat.sub_le_sub_right hroom17 _) hr17); have HC372 := As_ (show y368.length ≤ c17 from by rw [hy17, hc17]; exact Nat.sub_le_sub_right hroom17 _); clear hr17 hC17 hroom17 hi017 hsz17 hc17; have KY17 := As_ hy17; have KA17 := As_ hA17; clear hy17 hA17; replace q17 := eq_true q17) | ((with_reducible refine gate_builtin (b := .append) (xs := #[.tmp 30, .tmp 34]) rfl ?_); at_builtin; refine Kd.R_append_rows k82 (w0 := w) w.heap.size rfl (.tmp 30) (.tmp 34) 36 82 (.agg #[(.string ⟨#[]⟩), (.string ⟨#[]⟩)]) 32 rfl Tryz.underlying36 info82 rfl (by decide) (by omega) v366 y365 y368 _ _ _ (fun k_ => (w.heap.size ≤ k_)) (fun _ => False) rfl rfl ?aO ?aR (fun _ _ h => h) (fun _ h => h.elim) ?aF ?aB ?aS ?aL ?_; (case aR => repeat (first | exact (Kd.V_reads' HO372.out).2.2 | (with_reducible refine Kd.C_alloc ?_ _) | (with_reducible refine Kd.C_drewN ?_ _) | (with_reducible refine Kd.C_drew ?_))); (case aB => exact ap50_); (case aF => exact (fun k_ hk => (Nat.le_trans (below_size ap50_) hk))); (case aO => exact (by (with_reducible repeat (first | apply Kd.R_alloc | apply Kd.R_drewN | apply Kd.R_drew)); exact HO367.out)); (case aS => exact (below_size ap50_)); (case aL => have := LMc14.out; omega); intro v374 w18 ho hb hg hat; rw [← Ny373.out] at ho; have n0_ := As_ (Kd.V_afterv (ok := (fun k_ => (P0_ k_ ∨ w.heap.size ≤ k_))) ap18_ hg hat); have n1_ := As_ (Kd.V_afterv (ok := (fun k_ => (P0_ k_ ∨ w.heap.size ≤ k_))) ap30_ hg hat); have n2_ := As_ (Kd.V_afterv (ok := (fun k_ => (P0_ k_ ∨ w.heap.size ≤ k_))) (by (with_reducible repeat (first | apply Kd.V_alloc | apply Kd.V_drewN | apply Kd.V_drew)); exact HO372.out) hg hat); have n3_ := As_ (hb); have n4_ := As_ (ho); clear HO0; clear HO364; clear HO372; clear HB; clear HO367; have HO0 := n0_; have HO364 := n1_; have HO372 := n2_; have HB := n3_; have HO375 := n4_; clear n0_ n1_ n2_ n3_ n4_; clear ho hb hg hat))
          go_ret2
          exact ⟨_, by first | rfl | (simp [errW_none, errW_some] <;> rfl) | (simp only [← hji11]; first | rfl | (simp [errW_none, errW_some] <;> rfl)) | (simp [*, errW_none, errW_some] <;> rfl), Kd.V_mono (Kd.R_V (by (with_reducible repeat (first | apply Kd.R_alloc | apply Kd.R_drewN | apply Kd.R_drew)); exact HO375.out)) (fun k_ hk => by first | exact ⟨(.inr (hk.1)), hk.2⟩ | exact (.inr (hk))), ap50_⟩
         ·rw [if_neg c14] at H
          exact absurd H (by simp)
        ·rw [if_neg c13] at H
         exact absurd H (by simp)
       ·rw [if_neg c12] at H
        exact absurd H (by simp)
      ·rw [if_neg c10] at H
       exact absurd H (by simp)
     ·rw [if_neg c9] at H
      exact absurd H (by simp)
    ·rw [if_neg c7] at H
     have c7b0 : (((rd_T82 l0 t358).f0).toList == a1.toList) = false := beq_eq_false_iff_ne.mpr c7
     have c7b1 : (((rd_T82 l0 t358).f0).toList != a1.toList) = true := bne_iff_ne.mpr c7
     simp only [Option.some.injEq, Prod.mk.injEq] at H
     obtain ⟨rfl, rfl⟩ := H
     go_enter Tryz.func93, Tryz.ntmps93
     go_wp2_with (first | ((with_reducible refine gate_callee (f := 74) rfl ?_); refine gk_ (some 10) Tryz.func74 #[.slice A0 l0.length c0, .string a1] ?_; (with_reducible refine (footbridgeref09_at.calls k _ _ l0 a1 t358 _ ?side1 ?side2 A3.out).mono ?_); (case side1 => repeat (first | exact (Kd.V_reads' HO0.out).2.2 | (with_reducible refine Kd.C_alloc ?_ _) | (with_reducible refine Kd.C_drewN ?_ _) | (with_reducible refine Kd.C_drew ?_))); (case side2 => exact (Kd.V_reads' HO0.out).2.1); rintro e w' ⟨rfl, ⟨nd, rfl⟩⟩; refine ⟨_, rfl, ?_⟩; have p359 : 0 ≤ (t358 : Int) := of_decide_eq_true ap7_; have q359 : t358 < (l0.length : Int) := of_decide_eq_true ap7_; obtain ⟨ad359, e359, hx359_0, hx359_1⟩ := at_T82 (Kd.V_reads' HO0.out).2.2 t358 p359 q359; cases e359; replace p359 := eq_true p359; replace q359 := eq_true q359))
     go_ret2
     exact ⟨_, ap17_, ap18_, ap50_⟩
   ·rw [if_neg c6] at H
    exact absurd H (by simp)
  ·rw [if_neg c5] at H
   exact absurd H (by simp)
def footbridgeref23_drop.f (k : Nat) (l0 : List (S82)) (a1 : ByteArray) : Option ((List (S82))) := (footbridgeref09_Del.f k l0 a1).bind fun bt376 => (some bt376.1)
theorem footbridgeref23_drop.mono : ∀ a0 a1 k, LeO (footbridgeref23_drop.f k a0 a1) (footbridgeref23_drop.f (k + 1) a0 a1) := by
 intro a0 a1 k
 unfold footbridgeref23_drop.f
 repeat' first
   | (with_reducible exact footbridgeref09_Del.mono _ _ _)
   | (with_reducible exact LeO.refl _)
   | (with_reducible exact LeO.none _)
   | (with_reducible refine LeO.ite ?_ ?_)
   | (with_reducible refine LeO.bind ?_ (fun _ => ?_))
   | exact footbridgeref09_Del.mono _ _ _
   | exact LeO.none _
   | refine LeO.ite ?_ ?_
   | refine LeO.bind ?_ (fun _ => ?_)
theorem footbridgeref23_drop.calls (k : Nat) (P0_ : Nat → Prop) (A0 : Option Addr) (c0 : Nat) (l0 : List (S82)) (a1 : ByteArray) (r : List (S82)) (w : World) (hs0 : Kd.V k82 82 w w.heap.size (fun k_ => P0_ k_) (.slice A0 l0.length c0) l0) (h : footbridgeref23_drop.f k l0 a1 = some r) :
  Calls Tryz.prog 73 #[.slice A0 l0.length c0, .string a1] w fun e w' => ∃ v0_ : Value, e = .returned (v0_) ∧ Kd.V k82 82 w' w.heap.size (fun k_ => (P0_ k_ ∨ w.heap.size ≤ k_)) v0_ r ∧ Below w.heap.size w w' := by
 have HO0 := As_ (show Kd.V k82 82 w w.heap.size (fun k_ => (P0_ k_ ∨ w.heap.size ≤ k_)) (.slice A0 l0.length c0) l0 from Kd.V_mono hs0 (fun k_ hk => .inl hk))
 have HB := As_ (Below.refl w.heap.size w)
 have H : ((footbridgeref09_Del.f k l0 a1).bind fun bt376 => (some bt376.1)) = some r := h
 clear h
 replace H := Option.bind_eq_some_iff.mp H
 obtain ⟨⟨t376, t379⟩, A30, H⟩ := H
 try dsimp only at H
 have A3 := As_ A30
 clear A30
 obtain rfl := Option.some.inj H
 go_enter Tryz.func73, Tryz.ntmps73
 go_wp2_with (first | ((with_reducible refine gate_callee (f := 93) rfl ?_); refine gk_ (some 10) Tryz.func93 #[.slice A0 l0.length c0, .string a1] ?_; (with_reducible refine (footbridgeref09_Del.calls k (fun k_ => (P0_ k_ ∨ w.heap.size ≤ k_)) _ _ l0 a1 t376 t379 _ ?side1 A3.out).mono ?_); (case side1 => exact HO0.out); rintro e w4 ⟨v377, rfl, ho0, hb⟩; refine ⟨_, rfl, ?_⟩; replace HO0 := As_ (Kd.V_below ap18_ hb); have HO378 := As_ (Kd.V_lower (Kd.V_mono (ok' := fun k_ => (P0_ k_ ∨ w.heap.size ≤ k_)) ho0 (fun k_ hk_ => Or.elim hk_ (fun hs_ => hs_) (fun hn_ => (.inr (Nat.le_trans (below_size ap50_) hn_))))) (below_size ap50_)); replace HB := As_ (below_step ap50_ hb); (try clear hb); (try clear hb2); (try clear hk); (try clear hi); (try clear ho0)))
 go_ret
 exact ⟨_, ap17_, by (with_reducible repeat (first | apply Kd.V_alloc | apply Kd.V_drewN | apply Kd.V_drew)); exact HO378.out, ap50_⟩
def footbridgeref14_Num.f (k : Nat) (a0 : Int) : Option (ByteArray) := (footbridgeref01_Num.f k a0).bind fun bt380 => (some bt380.1)
theorem footbridgeref14_Num.mono : ∀ a0 k, LeO (footbridgeref14_Num.f k a0) (footbridgeref14_Num.f (k + 1) a0) := by
 intro a0 k
 unfold footbridgeref14_Num.f
 repeat' first
   | (with_reducible exact footbridgeref01_Num.mono _ _)
   | (with_reducible exact LeO.refl _)
   | (with_reducible exact LeO.none _)
   | (with_reducible refine LeO.ite ?_ ?_)
   | (with_reducible refine LeO.bind ?_ (fun _ => ?_))
   | exact footbridgeref01_Num.mono _ _
   | exact LeO.none _
   | refine LeO.ite ?_ ?_
   | refine LeO.bind ?_ (fun _ => ?_)
theorem footbridgeref14_Num.calls (k : Nat) (a0 : Int) (r : ByteArray) (w : World) (h : footbridgeref14_Num.f k a0 = some r) :
  Calls Tryz.prog 92 #[.int .i64 a0] w fun e w' => e = .returned (.string r) ∧ Below w.heap.size w w' := by
 have HB := As_ (Below.refl w.heap.size w)
 have H : ((footbridgeref01_Num.f k a0).bind fun bt380 => (some bt380.1)) = some r := h
 clear h
 replace H := Option.bind_eq_some_iff.mp H
 obtain ⟨⟨t380, t381⟩, A20, H⟩ := H
 try dsimp only at H
 have A2 := As_ A20
 clear A20
 obtain rfl := Option.some.inj H
 go_enter Tryz.func92, Tryz.ntmps92
 go_wp2_with (first | ((with_reducible refine gate_callee (f := 104) rfl ?_); refine gk_ (some 7) Tryz.func104 #[.int .i64 a0] ?_; (with_reducible refine (footbridgeref01_Num.calls k a0 t380 t381 _ A2.out).mono ?_); rintro e w3 ⟨rfl, hb⟩; refine ⟨_, rfl, ?_⟩; replace HB := As_ (below_step ap50_ hb); (try clear hb); (try clear hb2); (try clear hk); (try clear hi)))
 go_ret
 exact ⟨ap17_, ap50_⟩
def footbridgeref23_counted.f (k : Nat) (l0 : List (S82)) (a1 : ByteArray) (a2 : Int) : Option ((List (S82))) := (footbridgeref22_Supply.f k l0 a1).bind fun t382 => ((footbridgeref14_Key.f k (([(⟨#[115, 117, 112, 112, 108, 121]⟩ : ByteArray), a1] : List ByteArray))).bind fun t386 => (if (wrap64 (t382 + a2)) = 0 then ((footbridgeref23_drop.f k l0 t386).bind fun t387 => (some t387)) else ((footbridgeref14_Num.f k (wrap64 (t382 + a2))).bind fun t390 => ((footbridgeref14_Put.f k l0 t386 t390).bind fun t391 => (some t391)))))
theorem footbridgeref23_counted.mono : ∀ a0 a1 a2 k, LeO (footbridgeref23_counted.f k a0 a1 a2) (footbridgeref23_counted.f (k + 1) a0 a1 a2) := by
 intro a0 a1 a2 k
 unfold footbridgeref23_counted.f
 repeat' first
   | (with_reducible exact footbridgeref14_Key.mono _ _)
   | (with_reducible exact footbridgeref14_Num.mono _ _)
   | (with_reducible exact footbridgeref14_Put.mono _ _ _ _)
   | (with_reducible exact footbridgeref22_Supply.mono _ _ _)
   | (with_reducible exact footbridgeref23_drop.mono _ _ _)
   | (with_reducible exact LeO.refl _)
   | (with_reducible exact LeO.none _)
   | (with_reducible refine LeO.ite ?_ ?_)
   | (with_reducible refine LeO.bind ?_ (fun _ => ?_))
   | exact footbridgeref14_Key.mono _ _
   | exact footbridgeref14_Num.mono _ _
   | exact footbridgeref14_Put.mono _ _ _ _
   | exact footbridgeref22_Supply.mono _ _ _
   | exact footbridgeref23_drop.mono _ _ _
   | exact LeO.none _
   | refine LeO.ite ?_ ?_
   | refine LeO.bind ?_ (fun _ => ?_)
theorem footbridgeref23_counted.calls (k : Nat) (P0_ : Nat → Prop) (A0 : Option Addr) (c0 : Nat) (l0 : List (S82)) (a1 : ByteArray) (a2 : Int) (r : List (S82)) (w : World) (hs0 : Kd.V k82 82 w w.heap.size (fun k_ => P0_ k_) (.slice A0 l0.length c0) l0) (h : footbridgeref23_counted.f k l0 a1 a2 = some r) :
  Calls Tryz.prog 72 #[.slice A0 l0.length c0, .string a1, .int .i64 a2] w fun e w' => ∃ v0_ : Value, e = .returned (v0_) ∧ Kd.V k82 82 w' w.heap.size (fun k_ => (P0_ k_ ∨ w.heap.size ≤ k_)) v0_ r ∧ Below w.heap.size w w' := by
 have HO0 := As_ (show Kd.V k82 82 w w.heap.size (fun k_ => (P0_ k_ ∨ w.heap.size ≤ k_)) (.slice A0 l0.length c0) l0 from Kd.V_mono hs0 (fun k_ hk => .inl hk))
 have HB := As_ (Below.refl w.heap.size w)
 have H : ((footbridgeref22_Supply.f k l0 a1).bind fun t382 => ((footbridgeref14_Key.f k (([(⟨#[115, 117, 112, 112, 108, 121]⟩ : ByteArray), a1] : List ByteArray))).bind fun t386 => (if (wrap64 (t382 + a2)) = 0 then ((footbridgeref23_drop.f k l0 t386).bind fun t387 => (some t387)) else ((footbridgeref14_Num.f k (wrap64 (t382 + a2))).bind fun t390 => ((footbridgeref14_Put.f k l0 t386 t390).bind fun t391 => (some t391)))))) = some r := h
 clear h
 replace H := Option.bind_eq_some_iff.mp H
 obtain ⟨t382, A40, H⟩ := H
 try dsimp only at H
 have A4 := As_ A40
 clear A40
 obtain ⟨y383, hy383⟩ : ∃ y_ : List ByteArray, y_ = (([(⟨#[115, 117, 112, 112, 108, 121]⟩ : ByteArray), a1] : List ByteArray)) := ⟨_, rfl⟩
 replace H : ((footbridgeref14_Key.f k y383).bind fun t386 => (if (wrap64 (t382 + a2)) = 0 then ((footbridgeref23_drop.f k l0 t386).bind fun t387 => (some t387)) else ((footbridgeref14_Num.f k (wrap64 (t382 + a2))).bind fun t390 => ((footbridgeref14_Put.f k l0 t386 t390).bind fun t391 => (some t391))))) = some r := by first | (rw [hy383]; with_reducible exact H) | (have H2_ := (Option.bind_some _ _).symm.trans H; rw [hy383]; with_reducible exact H2_) | (have H2_ := (Option.bind_some _ _).symm.trans H; with_reducible exact H2_) | with_reducible exact H | (rw [hy383]; exact H) | exact H
 have Ny383 := As_ hy383
 clear hy383
 replace H := Option.bind_eq_some_iff.mp H
 obtain ⟨t386, A50, H⟩ := H
 try dsimp only at H
 have A5 := As_ A50
 clear A50
 by_cases c6 : (wrap64 (t382 + a2)) = 0
 ·rw [if_pos c6] at H
  have c6b0 : ((wrap64 (t382 + a2)) == 0) = true := beq_iff_eq.mpr c6
  have c6b1 : ((wrap64 (t382 + a2)) != 0) = false := bne_eq_false_iff_eq.mpr c6
  clear c6
  replace H := Option.bind_eq_some_iff.mp H
  obtain ⟨t387, A70, H⟩ := H
  try dsimp only at H
  have A7 := As_ A70
  clear A70
  obtain rfl := Option.some.inj H
  go_enter Tryz.func72, Tryz.ntmps72
  go_wp2_with (first | ((with_reducible refine gate_callee (f := 16) rfl ?_); refine gk_ (some 11) Tryz.func16 #[.slice A0 l0.length c0, .string a1] ?_; (with_reducible refine (footbridgeref22_Supply.calls k _ _ l0 a1 t382 _ ?side1 ?side2 A4.out).mono ?_); (case side1 => repeat (first | exact (Kd.V_reads' HO0.out).2.2 | (with_reducible refine Kd.C_alloc ?_ _) | (with_reducible refine Kd.C_drewN ?_ _) | (with_reducible refine Kd.C_drew ?_))); (case side2 => exact (Kd.V_reads' HO0.out).2.1); rintro e w8 ⟨rfl, hb⟩; refine ⟨_, rfl, ?_⟩; replace HO0 := As_ (Kd.V_below ap18_ hb); replace HB := As_ (below_step ap50_ hb); (try clear hb); (try clear hb2); (try clear hk); (try clear hi)) | ((with_reducible refine gate_dst (N := 15) rfl ?_); refine Kd.R_lit Kd.string _ 9 ?hg (N := 15) ?hd (xs := ([(⟨#[115, 117, 112, 112, 108, 121]⟩ : ByteArray), a1] : List ByteArray)) (inner := [.string ⟨#[115, 117, 112, 112, 108, 121]⟩, .string a1]) (ok := fun _ => True) (okp := fun _ => True) ?hr ?hp (fun _ hk => hk) trivial (Below.refl _ _) (Nat.le_refl _) (by simp) ?_; (case hd => rfl); (case hg => rfl); (case hr => first | (go_simp; done) | (go_simp; rfl)); (case hp => exact (Reps.one (show Kd.M Kd.string _ _ _ (⟨#[115, 117, 112, 112, 108, 121]⟩ : ByteArray) [.string ⟨#[115, 117, 112, 112, 108, 121]⟩] from rfl) (Reps.one (show Kd.M Kd.string _ _ _ a1 [.string a1] from rfl) (Reps.none _ _)))); intro v384 w9 ho10 hb hg_ hnew_; clear hg_ hnew_; (first | rw [← Ny383.out] at ho10 | (simp only [Int.reduceToNat] at ho10; rw [← Ny383.out] at ho10)); replace HO0 := As_ (Kd.V_elder' ap18_ (Kd.R_base ho10) hb); have HO385 := As_ (Kd.R_lower (Kd.R_newM (M := fun k_ => (w.heap.size ≤ k_)) ho10 (below_size ap50_) (fun k_ h_ => h_)) (below_size ap50_)); replace HB := As_ (below_step ap50_ hb); clear hb ho10; obtain ⟨Ao11, co11, eo11⟩ := Kd.R_slice HO385.out; subst eo11) | ((with_reducible refine gate_callee (f := 47) rfl ?_); refine gk_ (some 16) Tryz.func47 #[.slice Ao11 y383.length co11] ?_; (with_reducible refine (footbridgeref14_Key.calls k _ _ y383 t386 _ ?side1 ?side2 A5.out).mono ?_); (case side1 => repeat (first | exact (Kd.R_reads' HO385.out).2.2 | (with_reducible refine Kd.C_alloc ?_ _) | (with_reducible refine Kd.C_drewN ?_ _) | (with_reducible refine Kd.C_drew ?_))); (case side2 => exact (Kd.R_reads' HO385.out).2.1); rintro e w12 ⟨rfl, hb⟩; refine ⟨_, rfl, ?_⟩; replace HO0 := As_ (Kd.V_below ap18_ hb); replace HO385 := As_ (Kd.R_below ap24_ hb); replace HB := As_ (below_step ap50_ hb); (try clear hb); (try clear hb2); (try clear hk); (try clear hi)) | ((with_reducible refine gate_callee (f := 73) rfl ?_); refine gk_ (some 21) Tryz.func73 #[.slice A0 l0.length c0, .string t386] ?_; (with_reducible refine (footbridgeref23_drop.calls k (fun k_ => ((P0_ k_ ∨ w.heap.size ≤ k_) ∧ some k_ ≠ (.slice Ao11 y383.length co11 : Value).ownBlock)) _ _ l0 t386 t387 _ ?side1 A7.out).mono ?_); (case side1 => exact HO0.out); rintro e w13 ⟨v388, rfl, ho0, hb⟩; refine ⟨_, rfl, ?_⟩; replace HO0 := As_ (Kd.V_below ap18_ hb); have HO389 := As_ (Kd.V_lower (Kd.V_mono (ok' := fun k_ => (P0_ k_ ∨ w.heap.size ≤ k_) ∧ some k_ ≠ (.slice Ao11 y383.length co11 : Value).ownBlock) ho0 (fun k_ hk_ => ⟨Or.elim hk_ (fun hs_ => hs_.1) (fun hn_ => (.inr (Nat.le_trans (below_size ap50_) hn_))), Or.elim hk_ (fun hs_ => hs_.2) (fun hn_ => (Kd.fresh' (Kd.R_lt ap24_) k_ hn_))⟩)) (below_size ap50_)); replace HO385 := As_ (Kd.R_below ap24_ hb); replace HB := As_ (below_step ap50_ hb); (try clear hb); (try clear hb2); (try clear hk); (try clear hi); (try clear ho0)))
  go_ret
  exact ⟨_, ap17_, by (with_reducible repeat (first | apply Kd.V_alloc | apply Kd.V_drewN | apply Kd.V_drew)); exact Kd.V_mono HO389.out (fun _ hk => hk.1), ap50_⟩
 ·rw [if_neg c6] at H
  have c6b0 : ((wrap64 (t382 + a2)) == 0) = false := beq_eq_false_iff_ne.mpr c6
  have c6b1 : ((wrap64 (t382 + a2)) != 0) = true := bne_iff_ne.mpr c6
  replace H := Option.bind_eq_some_iff.mp H
  obtain ⟨t390, A140, H⟩ := H
  try dsimp only at H
  have A14 := As_ A140
  clear A140
  replace H := Option.bind_eq_some_iff.mp H
  obtain ⟨t391, A150, H⟩ := H
  try dsimp only at H
  have A15 := As_ A150
  clear A150
  obtain rfl := Option.some.inj H
  go_enter Tryz.func72, Tryz.ntmps72
  go_wp2_with (first | ((with_reducible refine gate_callee (f := 16) rfl ?_); refine gk_ (some 11) Tryz.func16 #[.slice A0 l0.length c0, .string a1] ?_; (with_reducible refine (footbridgeref22_Supply.calls k _ _ l0 a1 t382 _ ?side1 ?side2 A4.out).mono ?_); (case side1 => repeat (first | exact (Kd.V_reads' HO0.out).2.2 | (with_reducible refine Kd.C_alloc ?_ _) | (with_reducible refine Kd.C_drewN ?_ _) | (with_reducible refine Kd.C_drew ?_))); (case side2 => exact (Kd.V_reads' HO0.out).2.1); rintro e w16 ⟨rfl, hb⟩; refine ⟨_, rfl, ?_⟩; replace HO0 := As_ (Kd.V_below ap18_ hb); replace HB := As_ (below_step ap50_ hb); (try clear hb); (try clear hb2); (try clear hk); (try clear hi)) | ((with_reducible refine gate_dst (N := 15) rfl ?_); refine Kd.R_lit Kd.string _ 9 ?hg (N := 15) ?hd (xs := ([(⟨#[115, 117, 112, 112, 108, 121]⟩ : ByteArray), a1] : List ByteArray)) (inner := [.string ⟨#[115, 117, 112, 112, 108, 121]⟩, .string a1]) (ok := fun _ => True) (okp := fun _ => True) ?hr ?hp (fun _ hk => hk) trivial (Below.refl _ _) (Nat.le_refl _) (by simp) ?_; (case hd => rfl); (case hg => rfl); (case hr => first | (go_simp; done) | (go_simp; rfl)); (case hp => exact (Reps.one (show Kd.M Kd.string _ _ _ (⟨#[115, 117, 112, 112, 108, 121]⟩ : ByteArray) [.string ⟨#[115, 117, 112, 112, 108, 121]⟩] from rfl) (Reps.one (show Kd.M Kd.string _ _ _ a1 [.string a1] from rfl) (Reps.none _ _)))); intro v384 w17 ho18 hb hg_ hnew_; clear hg_ hnew_; (first | rw [← Ny383.out] at ho18 | (simp only [Int.reduceToNat] at ho18; rw [← Ny383.out] at ho18)); replace HO0 := As_ (Kd.V_elder' ap18_ (Kd.R_base ho18) hb); have HO385 := As_ (Kd.R_lower (Kd.R_newM (M := fun k_ => (w.heap.size ≤ k_)) ho18 (below_size ap50_) (fun k_ h_ => h_)) (below_size ap50_)); replace HB := As_ (below_step ap50_ hb); clear hb ho18; obtain ⟨Ao19, co19, eo19⟩ := Kd.R_slice HO385.out; subst eo19) | ((with_reducible refine gate_callee (f := 47) rfl ?_); refine gk_ (some 16) Tryz.func47 #[.slice Ao19 y383.length co19] ?_; (with_reducible refine (footbridgeref14_Key.calls k _ _ y383 t386 _ ?side1 ?side2 A5.out).mono ?_); (case side1 => repeat (first | exact (Kd.R_reads' HO385.out).2.2 | (with_reducible refine Kd.C_alloc ?_ _) | (with_reducible refine Kd.C_drewN ?_ _) | (with_reducible refine Kd.C_drew ?_))); (case side2 => exact (Kd.R_reads' HO385.out).2.1); rintro e w20 ⟨rfl, hb⟩; refine ⟨_, rfl, ?_⟩; replace HO0 := As_ (Kd.V_below ap18_ hb); replace HO385 := As_ (Kd.R_below ap24_ hb); replace HB := As_ (below_step ap50_ hb); (try clear hb); (try clear hb2); (try clear hk); (try clear hi)) | ((with_reducible refine gate_callee (f := 92) rfl ?_); refine gk_ (some 25) Tryz.func92 #[.int .i64 (wrap64 (t382 + a2))] ?_; (with_reducible refine (footbridgeref14_Num.calls k (wrap64 (t382 + a2)) t390 _ A14.out).mono ?_); rintro e w21 ⟨rfl, hb⟩; refine ⟨_, rfl, ?_⟩; replace HO0 := As_ (Kd.V_below ap18_ hb); replace HO385 := As_ (Kd.R_below ap24_ hb); replace HB := As_ (below_step ap50_ hb); (try clear hb); (try clear hb2); (try clear hk); (try clear hi)) | ((with_reducible refine gate_callee (f := 67) rfl ?_); refine gk_ (some 26) Tryz.func67 #[.slice A0 l0.length c0, .string t386, .string t390] ?_; (with_reducible refine (footbridgeref14_Put.calls k _ _ l0 t386 t390 t391 _ ?side1 ?side2 A15.out).mono ?_); (case side1 => repeat (first | exact (Kd.V_reads' HO0.out).2.2 | (with_reducible refine Kd.C_alloc ?_ _) | (with_reducible refine Kd.C_drewN ?_ _) | (with_reducible refine Kd.C_drew ?_))); (case side2 => exact (Kd.V_reads' HO0.out).2.1); rintro e w22 ⟨v392, rfl, ho0, hb⟩; refine ⟨_, rfl, ?_⟩; replace HO0 := As_ (Kd.V_elder' ap18_ (Kd.R_base ho0) hb); replace HO385 := As_ (Kd.R_below ap24_ hb); have HO393 := As_ (Kd.R_lower (Kd.R_newM (M := fun k_ => (w.heap.size ≤ k_)) ho0 (below_size ap50_) (fun k_ h_ => h_)) (below_size ap50_)); replace HB := As_ (below_step ap50_ hb); (try clear hb); (try clear hb2); (try clear hk); (try clear hi); (try clear ho0)))
  go_ret
  exact ⟨_, ap17_, Kd.V_mono (Kd.R_V (by (with_reducible repeat (first | apply Kd.R_alloc | apply Kd.R_drewN | apply Kd.R_drew)); exact Kd.R_mono HO393.out (fun _ hk => hk.1))) (fun k_ hk => by first | exact ⟨(.inr (hk.1)), hk.2⟩ | exact (.inr (hk))), ap50_⟩
mutual
def footbridgeref23_Mint.j0 : Nat → List (S82) → Bool → Bool → ByteArray → ByteArray → ByteArray → ByteArray → ByteArray → Option ((List (S82)) × Int)
 | 0, _, _, _, _, _, _, _, _ => none
 | k + 1, x0, x9, x31, x395000, x395001, x395002, x395003, x395004 => if x31 = true then (some (x0, 7)) else (if (x395002.size : Int) > 32768 then (footbridgeref23_Mint.j1 k x0 x9 true x395000 x395001 x395002 x395003 x395004) else (footbridgeref23_Mint.j1 k x0 x9 (decide ((x395003.size : Int) > 16384)) x395000 x395001 x395002 x395003 x395004))
def footbridgeref23_Mint.j1 : Nat → List (S82) → Bool → Bool → ByteArray → ByteArray → ByteArray → ByteArray → ByteArray → Option ((List (S82)) × Int)
 | 0, _, _, _, _, _, _, _, _ => none
 | k + 1, x0, x9, x43, x395000, x395001, x395002, x395003, x395004 => if x43 = true then (some (x0, 4)) else (if x9 = true then (some (x0, 9)) else ((footbridgeref23_key.f k x395000 x395001).bind fun t406 => ((footbridgeref23_value.f k x395000 x395001 x395002 x395003 x395004).bind fun t407 => ((footbridgeref14_Put.f k x0 t406 t407).bind fun t408 => ((footbridgeref23_own.f k x395004 x395000 x395001).bind fun t411 => ((footbridgeref14_Put.f k t408 t411 (⟨#[1]⟩ : ByteArray)).bind fun t412 => ((footbridgeref23_counted.f k t412 x395000 1).bind fun t415 => (some (t415, 0)))))))))
end
def footbridgeref23_Mint.f (k : Nat) (l0 : List (S82)) (a1_0 : ByteArray) (a1_1 : ByteArray) (a1_2 : ByteArray) (a1_3 : ByteArray) (a1_4 : ByteArray) : Option ((List (S82)) × Int) := (footbridgeref22_Get.f k l0 a1_0).bind fun bt395 => (if bt395.2.2.2.2 = 0 then ((footbridgeref23_key.f k a1_0 a1_1).bind fun t401 => ((footbridgeref09_Get.f k l0 t401).bind fun bt402 => ((footbridgeref03_Check.f k 5 a1_1).bind fun t404 => (if t404 = 0 then ((footbridgeref23_Named.f a1_4).bind fun t405 => (footbridgeref23_Mint.j0 k l0 bt402.2 (!t405) a1_0 a1_1 a1_2 a1_3 a1_4)) else (footbridgeref23_Mint.j0 k l0 bt402.2 true a1_0 a1_1 a1_2 a1_3 a1_4))))) else (some (l0, bt395.2.2.2.2)))
theorem footbridgeref23_Mint.mono_l : ∀ k, (∀ y0 y1 y2 y3 y4 y5 y6 y7, LeO (footbridgeref23_Mint.j0 k y0 y1 y2 y3 y4 y5 y6 y7) (footbridgeref23_Mint.j0 (k + 1) y0 y1 y2 y3 y4 y5 y6 y7)) ∧ (∀ y0 y1 y2 y3 y4 y5 y6 y7, LeO (footbridgeref23_Mint.j1 k y0 y1 y2 y3 y4 y5 y6 y7) (footbridgeref23_Mint.j1 (k + 1) y0 y1 y2 y3 y4 y5 y6 y7))
 | 0 => ⟨fun _ _ _ _ _ _ _ _ r h => by simp [footbridgeref23_Mint.j0] at h, fun _ _ _ _ _ _ _ _ r h => by simp [footbridgeref23_Mint.j1] at h⟩
 | k + 1 => by
  obtain ⟨ih0, ih1⟩ := footbridgeref23_Mint.mono_l k
  refine ⟨?_, ?_⟩
  ·intro y0 y1 y2 y3 y4 y5 y6 y7
   unfold footbridgeref23_Mint.j0
   repeat' first
   | (with_reducible exact ih0 _ _ _ _ _ _ _ _)
   | (with_reducible exact ih1 _ _ _ _ _ _ _ _)
   | (with_reducible exact footbridgeref03_Check.mono _ _ _)
   | (with_reducible exact footbridgeref09_Get.mono _ _ _)
   | (with_reducible exact footbridgeref14_Put.mono _ _ _ _)
   | (with_reducible exact footbridgeref22_Get.mono _ _ _)
   | (with_reducible exact footbridgeref23_counted.mono _ _ _ _)
   | (with_reducible exact footbridgeref23_key.mono _ _ _)
   | (with_reducible exact footbridgeref23_own.mono _ _ _ _)
   | (with_reducible exact footbridgeref23_value.mono _ _ _ _ _ _)
   | (with_reducible exact LeO.refl _)
   | (with_reducible exact LeO.none _)
   | (with_reducible refine LeO.ite ?_ ?_)
   | (with_reducible refine LeO.bind ?_ (fun _ => ?_))
   | exact ih0 _ _ _ _ _ _ _ _
   | exact ih1 _ _ _ _ _ _ _ _
   | exact footbridgeref03_Check.mono _ _ _
   | exact footbridgeref09_Get.mono _ _ _
   | exact footbridgeref14_Put.mono _ _ _ _
   | exact footbridgeref22_Get.mono _ _ _
   | exact footbridgeref23_counted.mono _ _ _ _
   | exact footbridgeref23_key.mono _ _ _
   | exact footbridgeref23_own.mono _ _ _ _
   | exact footbridgeref23_value.mono _ _ _ _ _ _
   | exact LeO.none _
   | refine LeO.ite ?_ ?_
   | refine LeO.bind ?_ (fun _ => ?_)
  ·intro y0 y1 y2 y3 y4 y5 y6 y7
   unfold footbridgeref23_Mint.j1
   repeat' first
   | (with_reducible exact ih0 _ _ _ _ _ _ _ _)
   | (with_reducible exact ih1 _ _ _ _ _ _ _ _)
   | (with_reducible exact footbridgeref03_Check.mono _ _ _)
   | (with_reducible exact footbridgeref09_Get.mono _ _ _)
   | (with_reducible exact footbridgeref14_Put.mono _ _ _ _)
   | (with_reducible exact footbridgeref22_Get.mono _ _ _)
   | (with_reducible exact footbridgeref23_counted.mono _ _ _ _)
   | (with_reducible exact footbridgeref23_key.mono _ _ _)
   | (with_reducible exact footbridgeref23_own.mono _ _ _ _)
   | (with_reducible exact footbridgeref23_value.mono _ _ _ _ _ _)
   | (with_reducible exact LeO.refl _)
   | (with_reducible exact LeO.none _)
   | (with_reducible refine LeO.ite ?_ ?_)
   | (with_reducible refine LeO.bind ?_ (fun _ => ?_))
   | exact ih0 _ _ _ _ _ _ _ _
   | exact ih1 _ _ _ _ _ _ _ _
   | exact footbridgeref03_Check.mono _ _ _
   | exact footbridgeref09_Get.mono _ _ _
   | exact footbridgeref14_Put.mono _ _ _ _
   | exact footbridgeref22_Get.mono _ _ _
   | exact footbridgeref23_counted.mono _ _ _ _
   | exact footbridgeref23_key.mono _ _ _
   | exact footbridgeref23_own.mono _ _ _ _
   | exact footbridgeref23_value.mono _ _ _ _ _ _
   | exact LeO.none _
   | refine LeO.ite ?_ ?_
   | refine LeO.bind ?_ (fun _ => ?_)
theorem footbridgeref23_Mint.mono : ∀ a0 a1 a2 a3 a4 a5 k, LeO (footbridgeref23_Mint.f k a0 a1 a2 a3 a4 a5) (footbridgeref23_Mint.f (k + 1) a0 a1 a2 a3 a4 a5) := by
 intro a0 a1 a2 a3 a4 a5 k
 obtain ⟨ih0, ih1⟩ := footbridgeref23_Mint.mono_l k
 unfold footbridgeref23_Mint.f
 repeat' first
   | (with_reducible exact ih0 _ _ _ _ _ _ _ _)
   | (with_reducible exact ih1 _ _ _ _ _ _ _ _)
   | (with_reducible exact footbridgeref03_Check.mono _ _ _)
   | (with_reducible exact footbridgeref09_Get.mono _ _ _)
   | (with_reducible exact footbridgeref14_Put.mono _ _ _ _)
   | (with_reducible exact footbridgeref22_Get.mono _ _ _)
   | (with_reducible exact footbridgeref23_counted.mono _ _ _ _)
   | (with_reducible exact footbridgeref23_key.mono _ _ _)
   | (with_reducible exact footbridgeref23_own.mono _ _ _ _)
   | (with_reducible exact footbridgeref23_value.mono _ _ _ _ _ _)
   | (with_reducible exact LeO.refl _)
   | (with_reducible exact LeO.none _)
   | (with_reducible refine LeO.ite ?_ ?_)
   | (with_reducible refine LeO.bind ?_ (fun _ => ?_))
   | exact ih0 _ _ _ _ _ _ _ _
   | exact ih1 _ _ _ _ _ _ _ _
   | exact footbridgeref03_Check.mono _ _ _
   | exact footbridgeref09_Get.mono _ _ _
   | exact footbridgeref14_Put.mono _ _ _ _
   | exact footbridgeref22_Get.mono _ _ _
   | exact footbridgeref23_counted.mono _ _ _ _
   | exact footbridgeref23_key.mono _ _ _
   | exact footbridgeref23_own.mono _ _ _ _
   | exact footbridgeref23_value.mono _ _ _ _ _ _
   | exact LeO.none _
   | refine LeO.ite ?_ ?_
   | refine LeO.bind ?_ (fun _ => ?_)
def footbridgeref23_Mint.T11 : Bool × List (List Nat × List Nat) := (true, [([], []), ([], []), ([1], [1]), ([], []), ([3], [3]), ([2, 4], [2, 4]), ([], []), ([6, 5], [6]), ([0, 5, 7, 7], [0, 5, 7]), ([8, 8, 0, 1, 2, 3, 4, 5, 6, 7, 8], [0, 8])])
def footbridgeref23_Mint.B11 : List Nat := [0, 0, 2, 0, 8, 30, 0, 126, 255, 511]
theorem footbridgeref23_Mint.tab11 : rtab .any (opsOf Tryz.f37 11) = footbridgeref23_Mint.T11 := by kernel_rfl
theorem footbridgeref23_Mint.bits11 : waitsOk footbridgeref23_Mint.T11.2 footbridgeref23_Mint.B11 = true := by kernel_rfl
theorem footbridgeref23_Mint.calls (k : Nat) (P0_ : Nat → Prop) (A0 : Option Addr) (c0 : Nat) (l0 : List (S82)) (a1_0 : ByteArray) (a1_1 : ByteArray) (a1_2 : ByteArray) (a1_3 : ByteArray) (a1_4 : ByteArray) (r1 : List (S82)) (r2 : Int) (w : World) (hs0 : Kd.V k82 82 w w.heap.size (fun k_ => P0_ k_) (.slice A0 l0.length c0) l0) (h : footbridgeref23_Mint.f k l0 a1_0 a1_1 a1_2 a1_3 a1_4 = some (r1, r2)) :
  Calls Tryz.prog 37 #[.slice A0 l0.length c0, .agg #[.string a1_0, .string a1_1, .string a1_2, .string a1_3, .string a1_4]] w fun e w' => ∃ v0_ : Value, e = .returned (.tuple #[v0_, .int .i64 r2]) ∧ Kd.V k82 82 w' w.heap.size (fun k_ => (P0_ k_ ∨ w.heap.size ≤ k_)) v0_ r1 ∧ Below w.heap.size w w' := by
 have hu23 := Tryz.underlying23
 have hu66 := Tryz.underlying66
 have HO0 := As_ (show Kd.V k82 82 w w.heap.size (fun k_ => (P0_ k_ ∨ w.heap.size ≤ k_)) (.slice A0 l0.length c0) l0 from Kd.V_mono hs0 (fun k_ hk => .inl hk))
 have HB := As_ (Below.refl w.heap.size w)
 have H : ((footbridgeref22_Get.f k l0 a1_0).bind fun bt395 => (if bt395.2.2.2.2 = 0 then ((footbridgeref23_key.f k a1_0 a1_1).bind fun t401 => ((footbridgeref09_Get.f k l0 t401).bind fun bt402 => ((footbridgeref03_Check.f k 5 a1_1).bind fun t404 => (if t404 = 0 then ((footbridgeref23_Named.f a1_4).bind fun t405 => (footbridgeref23_Mint.j0 k l0 bt402.2 (!t405) a1_0 a1_1 a1_2 a1_3 a1_4)) else (footbridgeref23_Mint.j0 k l0 bt402.2 true a1_0 a1_1 a1_2 a1_3 a1_4))))) else (some (l0, bt395.2.2.2.2)))) = some (r1, r2) := h
 clear h
 replace H := Option.bind_eq_some_iff.mp H
 obtain ⟨⟨t395, t396, t397, t398, t399⟩, A30, H⟩ := H
 try dsimp only at H
 have A3 := As_ A30
 clear A30
 by_cases c4 : t399 = 0
 ·rw [if_pos c4] at H
  have c4b0 : (t399 == 0) = true := beq_iff_eq.mpr c4
  have c4b1 : (t399 != 0) = false := bne_eq_false_iff_eq.mpr c4
  clear c4
  replace H := Option.bind_eq_some_iff.mp H
  obtain ⟨t401, A50, H⟩ := H
  try dsimp only at H
  have A5 := As_ A50
  clear A50
  replace H := Option.bind_eq_some_iff.mp H
  obtain ⟨⟨t402, t403⟩, A60, H⟩ := H
  try dsimp only at H
  have A6 := As_ A60
  clear A60
  have HC7 := As_ H
  clear H
  go_enter Tryz.func37, Tryz.ntmps37
  go_upto_region 5 with (first | ((with_reducible refine gate_dst (N := 3) rfl ?_); (try (refine gate_guard (by rfl) ?_; dsimp only)); refine bxE (N := 3) (cs := #[.string a1_0, .string a1_1, .string a1_2, .string a1_3, .string a1_4]) (t := 23) ?_; intro gb394 hg w8 hbox hb; replace HO0 := As_ (Kd.V_below (Kd.V_elderB ap18_ gb394 (Nat.le_of_eq hg.symm)) hb); have BK394 := As_ (hbox); have GW394 := As_ ((by rw [hg]; exact (below_size ap50_) : w.heap.size ≤ gb394)); have GE394 := As_ ((by rw [hg]; exact (below_size ap50_) : w.heap.size ≤ gb394)); replace HB := As_ (below_step ap50_ hb); clear hb hbox hg; obtain ⟨hcz9_0, hfz9_0, hcz9_1, hfz9_1, hcz9_2, hfz9_2, hcz9_3, hfz9_3, hcz9_4, hfz9_4⟩ := clN5 BK394.out) | ((with_reducible refine gate_callee (f := 68) rfl ?_); refine gk_ (some 14) Tryz.func68 #[.slice A0 l0.length c0, .string a1_0] ?_; (with_reducible refine (footbridgeref22_Get.calls k _ _ l0 a1_0 t395 t396 t397 t398 t399 _ ?side1 ?side2 A3.out).mono ?_); (case side1 => repeat (first | exact (Kd.V_reads' HO0.out).2.2 | (with_reducible refine Kd.C_alloc ?_ _) | (with_reducible refine Kd.C_drewN ?_ _) | (with_reducible refine Kd.C_drew ?_))); (case side2 => exact (Kd.V_reads' HO0.out).2.1); rintro e w10 ⟨rfl, hb⟩; refine ⟨_, rfl, ?_⟩; replace HO0 := As_ (Kd.V_below ap18_ hb); replace BK394 := As_ (blk_below (g := gb394) (o := .cells #[.string a1_0, .string a1_1, .string a1_2, .string a1_3, .string a1_4] 23 (0, 0)) ap37_ hb); replace HB := As_ (below_step ap64_ hb); (try clear hb); (try clear hb2); (try clear hk); (try clear hi)) | ((with_reducible refine gate_dst (N := 6) rfl ?_); (try (refine gate_guard (by rfl) ?_; dsimp only)); refine bxE (N := 6) (cs := #[.string ⟨#[]⟩, .string ⟨#[]⟩, .string ⟨#[]⟩, .string ⟨#[]⟩]) (t := 66) ?_; intro gb400 hg w11 hbox hb; replace HO0 := As_ (Kd.V_below (Kd.V_elderB ap18_ gb400 (Nat.le_of_eq hg.symm)) hb); have BK400 := As_ (hbox); have GW400 := As_ ((by rw [hg]; exact (below_size ap64_) : w.heap.size ≤ gb400)); have GE400 := As_ ((by rw [hg]; exact (below_size ap64_) : w.heap.size ≤ gb400)); replace HB := As_ (below_step ap64_ hb); have NB394_400 := As_ ((by rw [hg]; exact Nat.ne_of_lt (blk_lt (g := gb394) (o := .cells #[.string a1_0, .string a1_1, .string a1_2, .string a1_3, .string a1_4] 23 (0, 0)) ap37_) : gb394 ≠ gb400)); have NB400_394 := As_ ((by rw [hg]; exact Nat.ne_of_gt (blk_lt (g := gb394) (o := .cells #[.string a1_0, .string a1_1, .string a1_2, .string a1_3, .string a1_4] 23 (0, 0)) ap37_) : gb400 ≠ gb394)); replace BK394 := As_ (blk_below (g := gb394) (o := .cells #[.string a1_0, .string a1_1, .string a1_2, .string a1_3, .string a1_4] 23 (0, 0)) ap37_ hb); clear hb hbox hg; have hnb12 := NB400_394.out; have hnc12 := NB394_400.out; obtain ⟨hcz13_0, hfz13_0, hcz13_1, hfz13_1, hcz13_2, hfz13_2, hcz13_3, hfz13_3⟩ := clN4 BK400.out; obtain ⟨hcz14_0, hfz14_0, hcz14_1, hfz14_1, hcz14_2, hfz14_2, hcz14_3, hfz14_3, hcz14_4, hfz14_4⟩ := clN5 BK394.out) | ((with_reducible refine gate_callee (f := 41) rfl ?_); refine gk_ (some 27) Tryz.func41 #[.string a1_0, .string a1_1] ?_; (with_reducible refine (footbridgeref23_key.calls k a1_0 a1_1 t401 _ A5.out).mono ?_); rintro e w15 ⟨rfl, hb⟩; refine ⟨_, rfl, ?_⟩; replace HO0 := As_ (Kd.V_below (by (with_reducible repeat (first | apply Kd.V_alloc | apply Kd.V_drewN | apply Kd.V_drew)); exact (Kd.V_mono (Kd.V_far (p := ⟨gb400, 3, none⟩) (Kd.V_far (p := ⟨gb400, 2, none⟩) (Kd.V_far (p := ⟨gb400, 1, none⟩) (Kd.V_far (p := ⟨gb400, 0, none⟩) (Kd.V_mono HO0.out (fun k_ hk => (⟨hk, hk.2⟩ : _ ∧ k_ ≠ gb400))) (fun _ hk => hk.2) (.string t395)) (fun _ hk => hk.2) (.string t396)) (fun _ hk => hk.2) (.string t397)) (fun _ hk => hk.2) (.string t398)) (fun _ h_ => h_.1))) hb); replace BK394 := As_ (blk_below (g := gb394) (o := .cells #[.string a1_0, .string a1_1, .string a1_2, .string a1_3, .string a1_4] 23 (0, 0)) (by (with_reducible repeat (first | refine blk_drewN ?_ _ | refine blk_drew ?_ | refine blk_alloc ?_ _)); refine blk_far ?_ NB394_400.out _; (with_reducible repeat (first | refine blk_drewN ?_ _ | refine blk_drew ?_ | refine blk_alloc ?_ _)); refine blk_far ?_ NB394_400.out _; (with_reducible repeat (first | refine blk_drewN ?_ _ | refine blk_drew ?_ | refine blk_alloc ?_ _)); refine blk_far ?_ NB394_400.out _; (with_reducible repeat (first | refine blk_drewN ?_ _ | refine blk_drew ?_ | refine blk_alloc ?_ _)); refine blk_far ?_ NB394_400.out _; (with_reducible repeat (first | refine blk_drewN ?_ _ | refine blk_drew ?_ | refine blk_alloc ?_ _)); exact BK394.out) hb); replace BK400 := As_ (blk_below (g := gb400) (o := .cells #[.string t395, .string t396, .string t397, .string t398] 66 (0, 0)) (by (with_reducible repeat (first | refine blk_drewN ?_ _ | refine blk_drew ?_ | refine blk_alloc ?_ _)); refine blk_put (cs := #[.string t395, .string t396, .string t397, .string ⟨#[]⟩]) ?_ 3 _ rfl; (with_reducible repeat (first | refine blk_drewN ?_ _ | refine blk_drew ?_ | refine blk_alloc ?_ _)); refine blk_put (cs := #[.string t395, .string t396, .string ⟨#[]⟩, .string ⟨#[]⟩]) ?_ 2 _ rfl; (with_reducible repeat (first | refine blk_drewN ?_ _ | refine blk_drew ?_ | refine blk_alloc ?_ _)); refine blk_put (cs := #[.string t395, .string ⟨#[]⟩, .string ⟨#[]⟩, .string ⟨#[]⟩]) ?_ 1 _ rfl; (with_reducible repeat (first | refine blk_drewN ?_ _ | refine blk_drew ?_ | refine blk_alloc ?_ _)); refine blk_put (cs := #[.string ⟨#[]⟩, .string ⟨#[]⟩, .string ⟨#[]⟩, .string ⟨#[]⟩]) ?_ 0 _ rfl; (with_reducible repeat (first | refine blk_drewN ?_ _ | refine blk_drew ?_ | refine blk_alloc ?_ _)); exact BK400.out) hb); replace HB := As_ (below_step ap73_ hb); (try clear hb); (try clear hb2); (try clear hk); (try clear hi)) | ((with_reducible refine gate_callee (f := 40) rfl ?_); refine gk_ (some 28) Tryz.func40 #[.slice A0 l0.length c0, .string t401] ?_; (with_reducible refine (footbridgeref09_Get.calls k _ _ l0 t401 t402 t403 _ ?side1 ?side2 A6.out).mono ?_); (case side1 => repeat (first | exact (Kd.V_reads' HO0.out).2.2 | (with_reducible refine Kd.C_alloc ?_ _) | (with_reducible refine Kd.C_drewN ?_ _) | (with_reducible refine Kd.C_drew ?_))); (case side2 => exact (Kd.V_reads' HO0.out).2.1); rintro e w' ⟨rfl, ⟨nd, rfl⟩⟩; refine ⟨_, rfl, ?_⟩))
  (try simp only [Act.put, List.setIfInBounds_toArray, List.set_cons_zero, List.set_cons_succ])
  go_cut [31] (fun v31 wc => ∃ (kq : Nat) (x31_6 : Bool), v31 = .bool x31_6 ∧ Aside0 (footbridgeref23_Mint.j0 kq l0 t403 x31_6 a1_0 a1_1 a1_2 a1_3 a1_4 = some (r1, r2)) ∧ Aside0 (kq ≤ k) ∧ Aside0 (Kd.V k82 82 wc w.heap.size (fun k_ => (P0_ k_ ∨ w.heap.size ≤ k_) ∧ k_ ≠ gb394 ∧ k_ ≠ gb400) (.slice A0 l0.length c0) l0) ∧ Aside0 (wc.heap[gb394]? = some (.cells #[.string a1_0, .string a1_1, .string a1_2, .string a1_3, .string a1_4] 23 (0, 0))) ∧ Aside0 (wc.heap[gb400]? = some (.cells #[.string t395, .string t396, .string t397, .string t398] 66 (0, 0))) ∧ Aside0 (Below w.heap.size w wc))
  case first =>
   have H := HC7.out
   clear HC7
   replace H := Option.bind_eq_some_iff.mp H
   obtain ⟨t404, A160, H⟩ := H
   try dsimp only at H
   have A16 := As_ A160
   clear A160
   by_cases c17 : t404 = 0
   ·rw [if_pos c17] at H
    have c17b0 : (t404 == 0) = true := beq_iff_eq.mpr c17
    have c17b1 : (t404 != 0) = false := bne_eq_false_iff_eq.mpr c17
    clear c17
    (first | rw [c17b0] | (simp only [i64_w, i32_w]; rw [c17b0]) | skip)
    replace H := Option.bind_eq_some_iff.mp H
    obtain ⟨t405, A180, H⟩ := H
    try dsimp only at H
    have A18 := As_ A180
    clear A180
    have H' := As_ H
    clear H
    have hnb19 := NB394_400.out
    have hnc19 := NB400_394.out
    obtain ⟨hcz20_0, hfz20_0, hcz20_1, hfz20_1, hcz20_2, hfz20_2, hcz20_3, hfz20_3, hcz20_4, hfz20_4⟩ := clN5 BK394.out
    go_wp2_with (first | ((with_reducible refine gate_callee (f := 69) rfl ?_); refine gk_ (some 34) Tryz.func69 #[.int .i64 5, .string a1_1] ?_; (with_reducible refine (footbridgeref03_Check.calls k 5 a1_1 t404 _ A16.out).mono ?_); rintro e w21 ⟨rfl, hb⟩; refine ⟨_, rfl, ?_⟩; replace HO0 := As_ (Kd.V_below ap18_ hb); replace BK394 := As_ (blk_below (g := gb394) (o := .cells #[.string a1_0, .string a1_1, .string a1_2, .string a1_3, .string a1_4] 23 (0, 0)) ap37_ hb); replace BK400 := As_ (blk_below (g := gb400) (o := .cells #[.string t395, .string t396, .string t397, .string t398] 66 (0, 0)) ap42_ hb); replace HB := As_ (below_step ap73_ hb); (try clear hb); (try clear hb2); (try clear hk); (try clear hi); obtain ⟨hcz22_0, hfz22_0, hcz22_1, hfz22_1, hcz22_2, hfz22_2, hcz22_3, hfz22_3, hcz22_4, hfz22_4⟩ := clN5 BK394.out) | (go_at_call 19; (with_reducible refine (footbridgeref23_Named.calls a1_4 t405 _ A18.out).mono ?_); rintro e w' ⟨rfl, ⟨nd, rfl⟩⟩))
    go_meet
    case rel => exact ⟨_, (!t405), ap5_, H', ⟨ap1_⟩, ⟨ap56_⟩, ⟨ap37_⟩, ⟨ap42_⟩, ⟨ap73_⟩⟩
   ·rw [if_neg c17] at H
    have c17b0 : (t404 == 0) = false := beq_eq_false_iff_ne.mpr c17
    have c17b1 : (t404 != 0) = true := bne_iff_ne.mpr c17
    (first | rw [c17b0] | (simp only [i64_w, i32_w]; rw [c17b0]) | skip)
    have H' := As_ H
    clear H
    have hnb23 := NB394_400.out
    have hnc23 := NB400_394.out
    obtain ⟨hcz24_0, hfz24_0, hcz24_1, hfz24_1, hcz24_2, hfz24_2, hcz24_3, hfz24_3, hcz24_4, hfz24_4⟩ := clN5 BK394.out
    go_wp2_with (first | ((with_reducible refine gate_callee (f := 69) rfl ?_); refine gk_ (some 34) Tryz.func69 #[.int .i64 5, .string a1_1] ?_; (with_reducible refine (footbridgeref03_Check.calls k 5 a1_1 t404 _ A16.out).mono ?_); rintro e w25 ⟨rfl, hb⟩; refine ⟨_, rfl, ?_⟩; replace HO0 := As_ (Kd.V_below ap18_ hb); replace BK394 := As_ (blk_below (g := gb394) (o := .cells #[.string a1_0, .string a1_1, .string a1_2, .string a1_3, .string a1_4] 23 (0, 0)) ap37_ hb); replace BK400 := As_ (blk_below (g := gb400) (o := .cells #[.string t395, .string t396, .string t397, .string t398] 66 (0, 0)) ap42_ hb); replace HB := As_ (below_step ap73_ hb); (try clear hb); (try clear hb2); (try clear hk); (try clear hi)))
    go_meet
    case rel => exact ⟨_, (true), ap5_, H', ⟨ap1_⟩, ⟨ap56_⟩, ⟨ap37_⟩, ⟨ap42_⟩, ⟨ap73_⟩⟩
  case rest =>
   clear HC7
   try clear c4
   try clear c4b0
   try clear c4b1
   try clear hcz13_0
   try clear hcz13_1
   try clear hcz13_2
   try clear hcz13_3
   try clear hcz14_0
   try clear hcz14_1
   try clear hcz14_2
   try clear hcz14_3
   try clear hcz14_4
   try clear hcz9_0
   try clear hcz9_1
   try clear hcz9_2
   try clear hcz9_3
   try clear hcz9_4
   try clear hfz13_0
   try clear hfz13_1
   try clear hfz13_2
   try clear hfz13_3
   try clear hfz14_0
   try clear hfz14_1
   try clear hfz14_2
   try clear hfz14_3
   try clear hfz14_4
   try clear hfz9_0
   try clear hfz9_1
   try clear hfz9_2
   try clear hfz9_3
   try clear hfz9_4
   obtain ⟨kq, x31_6, rfl, HA, HJ6, HO_0, BK394, BK400, HB⟩ := hcut
   cases kq with
   | zero => exact absurd HA.out (by simp [footbridgeref23_Mint.j0])
   | succ kj6 =>
    have H := HA.out
    clear HA
    simp only [footbridgeref23_Mint.j0] at H
    by_cases c26 : x31_6 = true
    ·subst c26
     have H1 : (some (l0, 7)) = some (r1, r2) := by rw [if_pos rfl] at H; exact H
     clear H
     have H := H1
     clear H1
     simp only [Option.some.injEq, Prod.mk.injEq] at H
     obtain ⟨rfl, rfl⟩ := H
     go_wp2
     go_ret2
     exact ⟨_, ap17_, ap51_, ap73_⟩
    ·replace c26 := Bool.eq_false_iff.mpr c26
     subst c26
     have H1 : (if (a1_2.size : Int) > 32768 then (footbridgeref23_Mint.j1 kj6 l0 t403 true a1_0 a1_1 a1_2 a1_3 a1_4) else (footbridgeref23_Mint.j1 kj6 l0 t403 (decide ((a1_3.size : Int) > 16384)) a1_0 a1_1 a1_2 a1_3 a1_4)) = some (r1, r2) := by rw [if_neg (show ¬ (false = true) by decide)] at H; exact H
     clear H
     have H := H1
     clear H1
     have HC27 := As_ H
     clear H
     go_upto_region 7 with (fail)
     go_cut [43] (fun v43 wc => ∃ (kq : Nat) (x43_26 : Bool), v43 = .bool x43_26 ∧ Aside0 (footbridgeref23_Mint.j1 kq l0 t403 x43_26 a1_0 a1_1 a1_2 a1_3 a1_4 = some (r1, r2)) ∧ Aside0 (kq ≤ kj6) ∧ Aside0 (Kd.V k82 82 wc w.heap.size (fun k_ => (P0_ k_ ∨ w.heap.size ≤ k_) ∧ k_ ≠ gb394 ∧ k_ ≠ gb400) (.slice A0 l0.length c0) l0) ∧ Aside0 (wc.heap[gb394]? = some (.cells #[.string a1_0, .string a1_1, .string a1_2, .string a1_3, .string a1_4] 23 (0, 0))) ∧ Aside0 (wc.heap[gb400]? = some (.cells #[.string t395, .string t396, .string t397, .string t398] 66 (0, 0))) ∧ Aside0 (Below w.heap.size w wc))
     case first =>
      have H := HC27.out
      clear HC27
      by_cases c28 : (a1_2.size : Int) > 32768
      ·rw [if_pos c28] at H
       have c28b0 : decide (32768 < (a1_2.size : Int)) = true := decide_eq_true c28
       have c28b1 : decide (32768 < a1_2.size) = true := decide_eq_true (by omega)
       clear c28
       (first | rw [c28b0] | (simp only [i64_w, i32_w]; rw [c28b0]) | skip)
       have H' := As_ H
       clear H
       have hnb29 := NB394_400.out
       have hnc29 := NB400_394.out
       obtain ⟨hcz30_0, hfz30_0, hcz30_1, hfz30_1, hcz30_2, hfz30_2, hcz30_3, hfz30_3, hcz30_4, hfz30_4⟩ := clN5 BK394.out
       go_wp2
       go_meet
       case rel => exact ⟨_, (true), ap5_, H', ⟨by have := HJ6.out; first | omega | exact Nat.le_refl _⟩, ⟨ap19_⟩, ⟨ap37_⟩, ⟨ap42_⟩, ⟨ap73_⟩⟩
      ·rw [if_neg c28] at H
       have c28b0 : decide (32768 < (a1_2.size : Int)) = false := decide_eq_false c28
       have c28b1 : decide (32768 < a1_2.size) = false := decide_eq_false (by omega)
       clear c28
       (first | rw [c28b0] | (simp only [i64_w, i32_w]; rw [c28b0]) | skip)
       have H' := As_ H
       clear H
       have hnb31 := NB394_400.out
       have hnc31 := NB400_394.out
       obtain ⟨hcz32_0, hfz32_0, hcz32_1, hfz32_1, hcz32_2, hfz32_2, hcz32_3, hfz32_3, hcz32_4, hfz32_4⟩ := clN5 BK394.out
       go_wp2
       go_meet
       case rel => exact ⟨_, (decide ((a1_3.size : Int) > 16384)), ap5_, H', ⟨by have := HJ6.out; first | omega | exact Nat.le_refl _⟩, ⟨ap19_⟩, ⟨ap37_⟩, ⟨ap42_⟩, ⟨ap73_⟩⟩
     case rest =>
      clear HC27
      try clear c4
      try clear c4b0
      try clear c4b1
      try clear c26
      try clear hcz13_0
      try clear hcz13_1
      try clear hcz13_2
      try clear hcz13_3
      try clear hcz14_0
      try clear hcz14_1
      try clear hcz14_2
      try clear hcz14_3
      try clear hcz14_4
      try clear hcz9_0
      try clear hcz9_1
      try clear hcz9_2
      try clear hcz9_3
      try clear hcz9_4
      try clear hfz13_0
      try clear hfz13_1
      try clear hfz13_2
      try clear hfz13_3
      try clear hfz14_0
      try clear hfz14_1
      try clear hfz14_2
      try clear hfz14_3
      try clear hfz14_4
      try clear hfz9_0
      try clear hfz9_1
      try clear hfz9_2
      try clear hfz9_3
      try clear hfz9_4
      obtain ⟨kq, x43_26, rfl, HA, HJ26, HO_0, BK394, BK400, HB⟩ := hcut
      cases kq with
      | zero => exact absurd HA.out (by simp [footbridgeref23_Mint.j1])
      | succ kj26 =>
       have H := HA.out
       clear HA
       simp only [footbridgeref23_Mint.j1] at H
       by_cases c33 : x43_26 = true
       ·subst c33
        have H1 : (some (l0, 4)) = some (r1, r2) := by rw [if_pos rfl] at H; exact H
        clear H
        have H := H1
        clear H1
        simp only [Option.some.injEq, Prod.mk.injEq] at H
        obtain ⟨rfl, rfl⟩ := H
        go_wp2
        go_ret2
        exact ⟨_, ap17_, ap51_, ap73_⟩
       ·replace c33 := Bool.eq_false_iff.mpr c33
        subst c33
        have H1 : (if t403 = true then (some (l0, 9)) else ((footbridgeref23_key.f kj26 a1_0 a1_1).bind fun t406 => ((footbridgeref23_value.f kj26 a1_0 a1_1 a1_2 a1_3 a1_4).bind fun t407 => ((footbridgeref14_Put.f kj26 l0 t406 t407).bind fun t408 => ((footbridgeref23_own.f kj26 a1_4 a1_0 a1_1).bind fun t411 => ((footbridgeref14_Put.f kj26 t408 t411 (⟨#[1]⟩ : ByteArray)).bind fun t412 => ((footbridgeref23_counted.f kj26 t412 a1_0 1).bind fun t415 => (some (t415, 0))))))))) = some (r1, r2) := by rw [if_neg (show ¬ (false = true) by decide)] at H; exact H
        clear H
        have H := H1
        clear H1
        by_cases c34 : t403 = true
        ·subst c34
         have H1 : (some (l0, 9)) = some (r1, r2) := by rw [if_pos rfl] at H; exact H
         clear H
         have H := H1
         clear H1
         simp only [Option.some.injEq, Prod.mk.injEq] at H
         obtain ⟨rfl, rfl⟩ := H
         go_wp2
         go_ret2
         exact ⟨_, ap17_, ap51_, ap73_⟩
        ·replace c34 := Bool.eq_false_iff.mpr c34
         subst c34
         have H1 : ((footbridgeref23_key.f kj26 a1_0 a1_1).bind fun t406 => ((footbridgeref23_value.f kj26 a1_0 a1_1 a1_2 a1_3 a1_4).bind fun t407 => ((footbridgeref14_Put.f kj26 l0 t406 t407).bind fun t408 => ((footbridgeref23_own.f kj26 a1_4 a1_0 a1_1).bind fun t411 => ((footbridgeref14_Put.f kj26 t408 t411 (⟨#[1]⟩ : ByteArray)).bind fun t412 => ((footbridgeref23_counted.f kj26 t412 a1_0 1).bind fun t415 => (some (t415, 0)))))))) = some (r1, r2) := by rw [if_neg (show ¬ (false = true) by decide)] at H; exact H
         clear H
         have H := H1
         clear H1
         replace H := Option.bind_eq_some_iff.mp H
         obtain ⟨t406, A350, H⟩ := H
         try dsimp only at H
         have A35 := As_ A350
         clear A350
         replace H := Option.bind_eq_some_iff.mp H
         obtain ⟨t407, A360, H⟩ := H
         try dsimp only at H
         have A36 := As_ A360
         clear A360
         replace H := Option.bind_eq_some_iff.mp H
         obtain ⟨t408, A370, H⟩ := H
         try dsimp only at H
         have A37 := As_ A370
         clear A370
         replace H := Option.bind_eq_some_iff.mp H
         obtain ⟨t411, A380, H⟩ := H
         try dsimp only at H
         have A38 := As_ A380
         clear A380
         replace H := Option.bind_eq_some_iff.mp H
         obtain ⟨t412, A390, H⟩ := H
         try dsimp only at H
         have A39 := As_ A390
         clear A390
         replace H := Option.bind_eq_some_iff.mp H
         obtain ⟨t415, A400, H⟩ := H
         try dsimp only at H
         have A40 := As_ A400
         clear A400
         simp only [Option.some.injEq, Prod.mk.injEq] at H
         obtain ⟨rfl, rfl⟩ := H
         try go_wp2
         replace HO_0 := As_ (Kd.V_drew HO_0.out)
         replace BK394 := As_ (blk_drew BK394.out)
         replace BK400 := As_ (blk_drew BK400.out)
         replace HB := As_ (below_drew1 HB.out)
         refine start_ (n := 10) (S := fun w' => w'.cell? ⟨gb394, 0, none⟩ = some (.string a1_0) ∧ w'.cell? ⟨gb394, 1, none⟩ = some (.string a1_1) ∧ w'.cell? ⟨gb394, 2, none⟩ = some (.string a1_2) ∧ w'.cell? ⟨gb394, 3, none⟩ = some (.string a1_3) ∧ w'.cell? ⟨gb394, 4, none⟩ = some (.string a1_4)) (ds := []) #[false, false, false, false, false, false, false, false, false, false] (by kernel_rfl) rfl rfl ⟨(blk_cell BK394.out 0).trans rfl, (blk_cell BK394.out 1).trans rfl, (blk_cell BK394.out 2).trans rfl, (blk_cell BK394.out 3).trans rfl, (blk_cell BK394.out 4).trans rfl⟩ (fun hHeld => ?_); refine with_tabW footbridgeref23_Mint.tab11 footbridgeref23_Mint.bits11 (fun HT_ HW_ => ?_)
         generalize wc.drew = w41 at HO_0 BK394 BK400 HB hHeld ⊢
         refine pure_ (i := 0) (N := some 58) #[true, false, false, false, false, false, false, false, false, false] rfl rfl (any_of HT_.out (by kernel_rfl)) (fun _ _ _ h => h) (Or.inl ⟨by rfl, ap2_⟩) ap35_ ?_
         refine pure_ (i := 1) (N := some 59) #[true, true, false, false, false, false, false, false, false, false] rfl rfl (any_of HT_.out (by kernel_rfl)) (fun _ _ _ h => h) (Or.inl ⟨by rfl, ap2_⟩) ap35_ ?_
         refine pure_ (i := 3) (N := some 61) #[true, true, false, true, false, false, false, false, false, false] rfl rfl (any_of HT_.out (by kernel_rfl)) (fun _ _ _ h => h) (Or.inl ⟨by rfl, ap2_⟩) ap35_ ?_
         refine take_ (i := 2) (N := some 60) #[true, true, true, true, false, false, false, false, false, false] rfl rfl (take_ofW HT_.out HW_.out (by kernel_rfl)) (fun _ _ _ h => h) (Or.inl ⟨by rfl, ap12_⟩) hHeld ap35_ ?_
         refine take_ (i := 4) (N := some 62) #[true, true, true, true, true, false, false, false, false, false] rfl rfl (take_ofW HT_.out HW_.out (by kernel_rfl)) (fun _ _ _ h => h) (Or.inl ⟨by rfl, ap12_⟩) hHeld ap35_ ?_
         refine take_ (i := 6) (N := some 64) #[true, true, true, true, true, false, true, false, false, false] rfl rfl (take_ofW HT_.out HW_.out (by kernel_rfl)) (fun _ _ _ h => h) (Or.inl ⟨by rfl, ap12_⟩) hHeld ap35_ ?_
         refine one_ (i := 5) (N := some 63) #[true, true, true, true, true, true, true, false, false, false] rfl rfl (one_of HT_.out (by kernel_rfl)) (by decide) (fun K hK => ?_)
         refine goes_ Tryz.func41 (by kernel_rfl) rfl #[.string a1_0, .string a1_1] (by rfl) rfl rfl ap54_ ?_
         with_reducible refine (footbridgeref23_key.calls kj26 a1_0 a1_1 t406 _ A35.out).mono ?_
         rintro e w42 ⟨rfl, hb⟩
         refine ⟨_, rfl, ?_⟩
         replace HO_0 := As_ (Kd.V_below ap19_ hb)
         replace BK394 := As_ (blk_below (g := gb394) (o := .cells #[.string a1_0, .string a1_1, .string a1_2, .string a1_3, .string a1_4] 23 (0, 0)) ap37_ hb)
         replace BK400 := As_ (blk_below (g := gb400) (o := .cells #[.string t395, .string t396, .string t397, .string t398] 66 (0, 0)) ap42_ hb)
         replace HB := As_ (below_step ap73_ hb)
         (try clear hb)
         (try clear hb2)
         (try clear hk)
         (try clear hi)
         refine hK.out _ _ ⟨(blk_cell BK394.out 0).trans rfl, (blk_cell BK394.out 1).trans rfl, (blk_cell BK394.out 2).trans rfl, (blk_cell BK394.out 3).trans rfl, (blk_cell BK394.out 4).trans rfl⟩ (fun hHeld => ?_)
         clear hK K
         refine norm_ (a' := ?_) ?_ ?_
         rotate_left
         ·show Act.put _ (some 63) _ = _
          simp only [Act.put, List.setIfInBounds_toArray, List.set_cons_zero, List.set_cons_succ, i64_w, i32_w]
          rfl
         refine one_ (i := 7) (N := some 65) #[true, true, true, true, true, true, true, true, false, false] rfl rfl (one_of HT_.out (by kernel_rfl)) (by decide) (fun K hK => ?_)
         refine goes_ Tryz.func70 (by kernel_rfl) rfl #[.agg #[.string a1_0, .string a1_1, .string a1_2, .string a1_3, .string a1_4]] (by rfl) rfl rfl ap54_ ?_
         with_reducible refine (footbridgeref23_value.calls kj26 a1_0 a1_1 a1_2 a1_3 a1_4 t407 _ A36.out).mono ?_
         rintro e w43 ⟨rfl, hb⟩
         refine ⟨_, rfl, ?_⟩
         replace HO_0 := As_ (Kd.V_below ap19_ hb)
         replace BK394 := As_ (blk_below (g := gb394) (o := .cells #[.string a1_0, .string a1_1, .string a1_2, .string a1_3, .string a1_4] 23 (0, 0)) ap37_ hb)
         replace BK400 := As_ (blk_below (g := gb400) (o := .cells #[.string t395, .string t396, .string t397, .string t398] 66 (0, 0)) ap42_ hb)
         replace HB := As_ (below_step ap73_ hb)
         (try clear hb)
         (try clear hb2)
         (try clear hk)
         (try clear hi)
         refine hK.out _ _ ⟨(blk_cell BK394.out 0).trans rfl, (blk_cell BK394.out 1).trans rfl, (blk_cell BK394.out 2).trans rfl, (blk_cell BK394.out 3).trans rfl, (blk_cell BK394.out 4).trans rfl⟩ (fun hHeld => ?_)
         clear hK K
         refine norm_ (a' := ?_) ?_ ?_
         rotate_left
         ·show Act.put _ (some 65) _ = _
          simp only [Act.put, List.setIfInBounds_toArray, List.set_cons_zero, List.set_cons_succ, i64_w, i32_w]
          rfl
         refine one_ (i := 8) (N := some 66) #[true, true, true, true, true, true, true, true, true, false] rfl rfl (one_of HT_.out (by kernel_rfl)) (by decide) (fun K hK => ?_)
         refine goes_ Tryz.func67 (by kernel_rfl) rfl #[.slice A0 l0.length c0, .string t406, .string t407] (by rfl) rfl rfl ap54_ ?_
         with_reducible refine (footbridgeref14_Put.calls kj26 _ _ l0 t406 t407 t408 _ ?side1 ?side2 A37.out).mono ?_
         (case side1 => repeat (first | exact (Kd.V_reads' HO_0.out).2.2 | (with_reducible refine Kd.C_alloc ?_ _) | (with_reducible refine Kd.C_drewN ?_ _) | (with_reducible refine Kd.C_drew ?_)))
         (case side2 => exact (Kd.V_reads' HO_0.out).2.1)
         rintro e w44 ⟨v409, rfl, ho0, hb⟩
         refine ⟨_, rfl, ?_⟩
         replace HO_0 := As_ (Kd.V_elder' ap19_ (Kd.R_base ho0) hb)
         have HO410 := As_ (Kd.R_lower (Kd.R_newM (M := fun k_ => (w.heap.size ≤ k_)) ho0 (below_size ap73_) (fun k_ h_ => h_)) (below_size ap73_))
         replace BK394 := As_ (blk_below (g := gb394) (o := .cells #[.string a1_0, .string a1_1, .string a1_2, .string a1_3, .string a1_4] 23 (0, 0)) ap37_ hb)
         replace BK400 := As_ (blk_below (g := gb400) (o := .cells #[.string t395, .string t396, .string t397, .string t398] 66 (0, 0)) ap42_ hb)
         replace HB := As_ (below_step ap73_ hb)
         (try clear hb)
         (try clear hb2)
         (try clear hk)
         (try clear hi)
         (try clear ho0)
         refine hK.out _ _ ⟨(blk_cell BK394.out 0).trans rfl, (blk_cell BK394.out 1).trans rfl, (blk_cell BK394.out 2).trans rfl, (blk_cell BK394.out 3).trans rfl, (blk_cell BK394.out 4).trans rfl⟩ (fun hHeld => ?_)
         clear hK K
         refine norm_ (a' := ?_) ?_ ?_
         rotate_left
         ·show Act.put _ (some 66) _ = _
          simp only [Act.put, List.setIfInBounds_toArray, List.set_cons_zero, List.set_cons_succ, i64_w, i32_w]
          rfl
         refine pure_ (i := 9) (N := some 0) #[true, true, true, true, true, true, true, true, true, true] rfl rfl (any_of HT_.out (by kernel_rfl)) (fun _ _ _ h => h) (Or.inl ⟨by rfl, ap2_⟩) ap35_ ?_
         refine done_ (done_of HT_.out (by kernel_rfl)) ?_
         have hnb45 := NB394_400.out
         have hnc45 := NB400_394.out
         obtain ⟨hcz46_0, hfz46_0, hcz46_1, hfz46_1, hcz46_2, hfz46_2, hcz46_3, hfz46_3, hcz46_4, hfz46_4⟩ := clN5 BK394.out
         try go_wp2_with (first | ((with_reducible refine gate_callee (f := 71) rfl ?_); refine gk_ (some 74) Tryz.func71 #[.string a1_4, .string a1_0, .string a1_1] ?_; (with_reducible refine (footbridgeref23_own.calls kj26 a1_4 a1_0 a1_1 t411 _ A38.out).mono ?_); rintro e w47 ⟨rfl, hb⟩; refine ⟨_, rfl, ?_⟩; replace HO_0 := As_ (Kd.V_below ap19_ hb); replace HO410 := As_ (Kd.R_below ap27_ hb); replace BK394 := As_ (blk_below (g := gb394) (o := .cells #[.string a1_0, .string a1_1, .string a1_2, .string a1_3, .string a1_4] 23 (0, 0)) ap37_ hb); replace BK400 := As_ (blk_below (g := gb400) (o := .cells #[.string t395, .string t396, .string t397, .string t398] 66 (0, 0)) ap42_ hb); replace HB := As_ (below_step ap73_ hb); (try clear hb); (try clear hb2); (try clear hk); (try clear hi); obtain ⟨Ao48, co48, eo48⟩ := Kd.R_slice HO410.out; subst eo48) | ((with_reducible refine gate_callee (f := 67) rfl ?_); refine gk_ (some 75) Tryz.func67 #[.slice Ao48 t408.length co48, .string t411, .string ⟨#[1]⟩] ?_; (with_reducible refine (footbridgeref14_Put.calls kj26 _ _ t408 t411 (⟨#[1]⟩ : ByteArray) t412 _ ?side1 ?side2 A39.out).mono ?_); (case side1 => repeat (first | exact (Kd.R_reads' HO410.out).2.2 | (with_reducible refine Kd.C_alloc ?_ _) | (with_reducible refine Kd.C_drewN ?_ _) | (with_reducible refine Kd.C_drew ?_))); (case side2 => exact (Kd.R_reads' HO410.out).2.1); rintro e w49 ⟨v413, rfl, ho0, hb⟩; refine ⟨_, rfl, ?_⟩; replace HO_0 := As_ (Kd.V_elder' ap19_ (Kd.R_base ho0) hb); have HO414 := As_ (Kd.R_lower (Kd.R_new' (Kd.R_newM (M := fun k_ => (w.heap.size ≤ k_)) ho0 (below_size ap73_) (fun k_ h_ => h_)) (Kd.R_lt ap27_)) (below_size ap73_)); replace HO410 := As_ (Kd.R_elder' ap27_ (Kd.R_base ho0) hb); replace BK394 := As_ (blk_below (g := gb394) (o := .cells #[.string a1_0, .string a1_1, .string a1_2, .string a1_3, .string a1_4] 23 (0, 0)) ap37_ hb); replace BK400 := As_ (blk_below (g := gb400) (o := .cells #[.string t395, .string t396, .string t397, .string t398] 66 (0, 0)) ap42_ hb); replace HB := As_ (below_step ap73_ hb); (try clear hb); (try clear hb2); (try clear hk); (try clear hi); (try clear ho0); obtain ⟨hcz50_0, hfz50_0, hcz50_1, hfz50_1, hcz50_2, hfz50_2, hcz50_3, hfz50_3, hcz50_4, hfz50_4⟩ := clN5 BK394.out; obtain ⟨Ao51, co51, eo51⟩ := Kd.R_slice HO414.out; subst eo51) | ((with_reducible refine gate_callee (f := 72) rfl ?_); refine gk_ (some 79) Tryz.func72 #[.slice Ao51 t412.length co51, .string a1_0, .int .i64 1] ?_; (with_reducible refine (footbridgeref23_counted.calls kj26 (fun k_ => some k_ = (.slice Ao51 t412.length co51 : Value).ownBlock) _ _ t412 a1_0 1 t415 _ ?side1 A40.out).mono ?_); (case side1 => exact Kd.R_V (Kd.R_tight rfl (Kd.R_types (Kd.R_types (HO414.out) BK394.out (by decide)) BK400.out (by decide)))); rintro e w52 ⟨v416, rfl, ho0, hb⟩; refine ⟨_, rfl, ?_⟩; replace HO_0 := As_ (Kd.V_below ap19_ hb); have HO417 := As_ (Kd.V_lower (Kd.V_mono (ok' := fun k_ => (P0_ k_ ∨ w.heap.size ≤ k_) ∧ some k_ ≠ (.slice Ao48 t408.length co48 : Value).ownBlock ∧ k_ ≠ gb394 ∧ k_ ≠ gb400) ho0 (fun k_ hk_ => ⟨Or.elim hk_ (fun hs_ => (.inr (((Kd.R_types (Kd.R_types (HO414.out) BK394.out (by decide)) BK400.out (by decide)).1 k_ hs_.symm).1.1.1.1))) (fun hn_ => (.inr (Nat.le_trans (below_size ap73_) hn_))), Or.elim hk_ (fun hs_ => ((Kd.R_types (Kd.R_types (HO414.out) BK394.out (by decide)) BK400.out (by decide)).1 k_ hs_.symm).1.1.2) (fun hn_ => (Kd.fresh' (Kd.R_lt ap27_) k_ hn_)), Or.elim hk_ (fun hs_ => ((Kd.R_types (Kd.R_types (HO414.out) BK394.out (by decide)) BK400.out (by decide)).1 k_ hs_.symm).1.2) (fun hn_ => (Kd.freshB (g := gb394) (o := .cells #[.string a1_0, .string a1_1, .string a1_2, .string a1_3, .string a1_4] 23 (0, 0)) ap37_ k_ hn_)), Or.elim hk_ (fun hs_ => ((Kd.R_types (Kd.R_types (HO414.out) BK394.out (by decide)) BK400.out (by decide)).1 k_ hs_.symm).2) (fun hn_ => (Kd.freshB (g := gb400) (o := .cells #[.string t395, .string t396, .string t397, .string t398] 66 (0, 0)) ap42_ k_ hn_))⟩)) (below_size ap73_)); replace HO410 := As_ (Kd.R_below ap27_ hb); replace HO414 := As_ (Kd.R_below (by (with_reducible repeat (first | apply Kd.R_alloc | apply Kd.R_drewN | apply Kd.R_drew)); exact HO414.out) hb); replace BK394 := As_ (blk_below (g := gb394) (o := .cells #[.string a1_0, .string a1_1, .string a1_2, .string a1_3, .string a1_4] 23 (0, 0)) ap37_ hb); replace BK400 := As_ (blk_below (g := gb400) (o := .cells #[.string t395, .string t396, .string t397, .string t398] 66 (0, 0)) ap42_ hb); replace HB := As_ (below_step ap73_ hb); (try clear hb); (try clear hb2); (try clear hk); (try clear hi); (try clear ho0)))
         go_ret2
         exact ⟨_, ap17_, by (with_reducible repeat (first | apply Kd.V_alloc | apply Kd.V_drewN | apply Kd.V_drew)); exact Kd.V_mono HO417.out (fun _ hk => hk.1), ap73_⟩
 ·rw [if_neg c4] at H
  have c4b0 : (t399 == 0) = false := beq_eq_false_iff_ne.mpr c4
  have c4b1 : (t399 != 0) = true := bne_iff_ne.mpr c4
  simp only [Option.some.injEq, Prod.mk.injEq] at H
  obtain ⟨rfl, rfl⟩ := H
  go_enter Tryz.func37, Tryz.ntmps37
  go_wp2_with (first | ((with_reducible refine gate_dst (N := 3) rfl ?_); (try (refine gate_guard (by rfl) ?_; dsimp only)); refine bxE (N := 3) (cs := #[.string a1_0, .string a1_1, .string a1_2, .string a1_3, .string a1_4]) (t := 23) ?_; intro gb394 hg w53 hbox hb; replace HO0 := As_ (Kd.V_below (Kd.V_elderB ap18_ gb394 (Nat.le_of_eq hg.symm)) hb); have BK394 := As_ (hbox); have GW394 := As_ ((by rw [hg]; exact (below_size ap50_) : w.heap.size ≤ gb394)); have GE394 := As_ ((by rw [hg]; exact (below_size ap50_) : w.heap.size ≤ gb394)); replace HB := As_ (below_step ap50_ hb); clear hb hbox hg; obtain ⟨hcz54_0, hfz54_0, hcz54_1, hfz54_1, hcz54_2, hfz54_2, hcz54_3, hfz54_3, hcz54_4, hfz54_4⟩ := clN5 BK394.out) | ((with_reducible refine gate_callee (f := 68) rfl ?_); refine gk_ (some 14) Tryz.func68 #[.slice A0 l0.length c0, .string a1_0] ?_; (with_reducible refine (footbridgeref22_Get.calls k _ _ l0 a1_0 t395 t396 t397 t398 t399 _ ?side1 ?side2 A3.out).mono ?_); (case side1 => repeat (first | exact (Kd.V_reads' HO0.out).2.2 | (with_reducible refine Kd.C_alloc ?_ _) | (with_reducible refine Kd.C_drewN ?_ _) | (with_reducible refine Kd.C_drew ?_))); (case side2 => exact (Kd.V_reads' HO0.out).2.1); rintro e w55 ⟨rfl, hb⟩; refine ⟨_, rfl, ?_⟩; replace HO0 := As_ (Kd.V_below ap18_ hb); replace BK394 := As_ (blk_below (g := gb394) (o := .cells #[.string a1_0, .string a1_1, .string a1_2, .string a1_3, .string a1_4] 23 (0, 0)) ap37_ hb); replace HB := As_ (below_step ap64_ hb); (try clear hb); (try clear hb2); (try clear hk); (try clear hi)) | ((with_reducible refine gate_dst (N := 6) rfl ?_); (try (refine gate_guard (by rfl) ?_; dsimp only)); refine bxE (N := 6) (cs := #[.string ⟨#[]⟩, .string ⟨#[]⟩, .string ⟨#[]⟩, .string ⟨#[]⟩]) (t := 66) ?_; intro gb400 hg w56 hbox hb; replace HO0 := As_ (Kd.V_below (Kd.V_elderB ap18_ gb400 (Nat.le_of_eq hg.symm)) hb); have BK400 := As_ (hbox); have GW400 := As_ ((by rw [hg]; exact (below_size ap64_) : w.heap.size ≤ gb400)); have GE400 := As_ ((by rw [hg]; exact (below_size ap64_) : w.heap.size ≤ gb400)); replace HB := As_ (below_step ap64_ hb); have NB394_400 := As_ ((by rw [hg]; exact Nat.ne_of_lt (blk_lt (g := gb394) (o := .cells #[.string a1_0, .string a1_1, .string a1_2, .string a1_3, .string a1_4] 23 (0, 0)) ap37_) : gb394 ≠ gb400)); have NB400_394 := As_ ((by rw [hg]; exact Nat.ne_of_gt (blk_lt (g := gb394) (o := .cells #[.string a1_0, .string a1_1, .string a1_2, .string a1_3, .string a1_4] 23 (0, 0)) ap37_) : gb400 ≠ gb394)); replace BK394 := As_ (blk_below (g := gb394) (o := .cells #[.string a1_0, .string a1_1, .string a1_2, .string a1_3, .string a1_4] 23 (0, 0)) ap37_ hb); clear hb hbox hg; have hnb57 := NB400_394.out; have hnc57 := NB394_400.out; obtain ⟨hcz58_0, hfz58_0, hcz58_1, hfz58_1, hcz58_2, hfz58_2, hcz58_3, hfz58_3⟩ := clN4 BK400.out))
  go_ret2
  exact ⟨_, ap17_, by (with_reducible repeat (first | apply Kd.V_alloc | apply Kd.V_drewN | apply Kd.V_drew)); exact Kd.V_mono (Kd.V_far (p := ⟨gb400, 3, none⟩) (Kd.V_far (p := ⟨gb400, 2, none⟩) (Kd.V_far (p := ⟨gb400, 1, none⟩) (Kd.V_far (p := ⟨gb400, 0, none⟩) (Kd.V_mono HO0.out (fun k_ hk => (⟨hk, hk.2⟩ : _ ∧ k_ ≠ gb400))) (fun _ hk => hk.2) (.string t395)) (fun _ hk => hk.2) (.string t396)) (fun _ hk => hk.2) (.string t397)) (fun _ hk => hk.2) (.string t398)) (fun _ hk => hk.1.1.1), ap73_⟩
end Go.Proofs.YtjappgjpikbdeaaGreatDoor.PTkp
