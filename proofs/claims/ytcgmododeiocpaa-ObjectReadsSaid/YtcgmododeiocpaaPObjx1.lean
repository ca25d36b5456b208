-- written by wip/myprint.py over the kit's print; not a printed text of print.sh
import Derived.Test.YtcgmododeiocpaaPObjx0
namespace Go.Proofs.Ytcgmododeiocpaa.PObj
open Go.RowKit Go.Proofs.YtcgmododeiocpaaW.PrintWords Go.Proofs.YtcgmododeiocpaaW.PrintLast Go.Proofs.YtcgmododeiocpaaW.PrintMore
attribute [local go_sem] max2_int min2_int max_two min_two max_three min_three max_four min_four   -- for this text's walks alone
set_option linter.unusedVariables false
set_option linter.unusedSimpArgs false

/-! ### footbridgelaw07_few: function 15 -/
mutual
def footbridgelaw07_few.l0 : Nat → List (S42) → Int → Option (Bool)
  | 0, _, _ => none
  | k + 1, x0, x3 => if x3 < (x0.length : Int) then (if 0 ≤ x3 then (if (((rd_T42 x0 x3).f0).size : Int) > 100 then (footbridgelaw07_few.j1 k x0 x3 true) else (if (((rd_T42 x0 x3).f1).size : Int) > 200 then (footbridgelaw07_few.j1 k x0 x3 true) else (footbridgelaw07_few.j1 k x0 x3 (decide ((((rd_T42 x0 x3).f2).length : Int) > 20))))) else (none)) else (some true)
def footbridgelaw07_few.j1 : Nat → List (S42) → Int → Bool → Option (Bool)
  | 0, _, _, _ => none
  | k + 1, x0, x3, x38 => if x38 = true then (some false) else (footbridgelaw07_few.l1 k x0 x3 0)
def footbridgelaw07_few.l1 : Nat → List (S42) → Int → Int → Option (Bool)
  | 0, _, _, _ => none
  | k + 1, x0, x3, x4 => if 0 ≤ x3 then (if x3 < (x0.length : Int) then (if x4 < (((rd_T42 x0 x3).f2).length : Int) then (if 0 ≤ x4 then (if ((rdOf ByteArray.empty ((rd_T42 x0 x3).f2) x4).size : Int) > 100 then (some false) else (footbridgelaw07_few.l1 k x0 x3 (wrap64 (x4 + 1)))) else (none)) else (footbridgelaw07_few.l0 k x0 (wrap64 (x3 + 1)))) else (none)) else (none)
end
def footbridgelaw07_few.f (k : Nat) (l0 : List (S42)) : Option (Bool) := if (l0.length : Int) > 12 then (some false) else (footbridgelaw07_few.l0 k l0 0)
theorem footbridgelaw07_few.mono_l : ∀ k, (∀ y0 y1, LeO (footbridgelaw07_few.l0 k y0 y1) (footbridgelaw07_few.l0 (k + 1) y0 y1)) ∧ (∀ y0 y1 y2, LeO (footbridgelaw07_few.j1 k y0 y1 y2) (footbridgelaw07_few.j1 (k + 1) y0 y1 y2)) ∧ (∀ y0 y1 y2, LeO (footbridgelaw07_few.l1 k y0 y1 y2) (footbridgelaw07_few.l1 (k + 1) y0 y1 y2))
  | 0 => ⟨fun _ _ r h => by simp [footbridgelaw07_few.l0] at h, fun _ _ _ r h => by simp [footbridgelaw07_few.j1] at h, fun _ _ _ r h => by simp [footbridgelaw07_few.l1] at h⟩
  | k + 1 => by
    obtain ⟨ih0, ih1, ih2⟩ := footbridgelaw07_few.mono_l k
    refine ⟨?_, ?_, ?_⟩
    · intro y0 y1
      unfold footbridgelaw07_few.l0
      repeat' first
      | (with_reducible exact ih0 _ _)
      | (with_reducible exact ih1 _ _ _)
      | (with_reducible exact ih2 _ _ _)
      | (with_reducible exact LeO.refl _)
      | (with_reducible exact LeO.none _)
      | (with_reducible refine LeO.ite ?_ ?_)
      | (with_reducible refine LeO.bind ?_ (fun _ => ?_))
      | exact ih0 _ _
      | exact ih1 _ _ _
      | exact ih2 _ _ _
      | exact LeO.none _
      | refine LeO.ite ?_ ?_
      | refine LeO.bind ?_ (fun _ => ?_)
    · intro y0 y1 y2
      unfold footbridgelaw07_few.j1
      repeat' first
      | (with_reducible exact ih0 _ _)
      | (with_reducible exact ih1 _ _ _)
      | (with_reducible exact ih2 _ _ _)
      | (with_reducible exact LeO.refl _)
      | (with_reducible exact LeO.none _)
      | (with_reducible refine LeO.ite ?_ ?_)
      | (with_reducible refine LeO.bind ?_ (fun _ => ?_))
      | exact ih0 _ _
      | exact ih1 _ _ _
      | exact ih2 _ _ _
      | exact LeO.none _
      | refine LeO.ite ?_ ?_
      | refine LeO.bind ?_ (fun _ => ?_)
    · intro y0 y1 y2
      unfold footbridgelaw07_few.l1
      repeat' first
      | (with_reducible exact ih0 _ _)
      | (with_reducible exact ih1 _ _ _)
      | (with_reducible exact ih2 _ _ _)
      | (with_reducible exact LeO.refl _)
      | (with_reducible exact LeO.none _)
      | (with_reducible refine LeO.ite ?_ ?_)
      | (with_reducible refine LeO.bind ?_ (fun _ => ?_))
      | exact ih0 _ _
      | exact ih1 _ _ _
      | exact ih2 _ _ _
      | exact LeO.none _
      | refine LeO.ite ?_ ?_
      | refine LeO.bind ?_ (fun _ => ?_)
theorem footbridgelaw07_few.mono : ∀ a0 k, LeO (footbridgelaw07_few.f k a0) (footbridgelaw07_few.f (k + 1) a0) := by
  intro a0 k
  obtain ⟨ih0, ih1, ih2⟩ := footbridgelaw07_few.mono_l k
  unfold footbridgelaw07_few.f
  repeat' first
      | (with_reducible exact ih0 _ _)
      | (with_reducible exact ih1 _ _ _)
      | (with_reducible exact ih2 _ _ _)
      | (with_reducible exact LeO.refl _)
      | (with_reducible exact LeO.none _)
      | (with_reducible refine LeO.ite ?_ ?_)
      | (with_reducible refine LeO.bind ?_ (fun _ => ?_))
      | exact ih0 _ _
      | exact ih1 _ _ _
      | exact ih2 _ _ _
      | exact LeO.none _
      | refine LeO.ite ?_ ?_
      | refine LeO.bind ?_ (fun _ => ?_)
set_option maxHeartbeats 8000000 in
set_option maxRecDepth 100000 in
theorem footbridgelaw07_few.calls (k : Nat) (A0 : Option Addr) (c0 : Nat) (l0 : List (S42)) (r : Bool) (w : World) (hr0 : Kd.C k42 w A0 l0.length l0) (hc0 : l0.length ≤ c0) (h : footbridgelaw07_few.f k l0 = some r) :
    Calls Try.prog 15 #[.slice A0 l0.length c0] w fun e w' => e = .returned (.bool r) ∧ Drawn0 w w' := by
  have HR0 := Aside0.mk hr0
  have HC0 := Aside0.mk hc0
  clear hr0 hc0
  have H : (if (l0.length : Int) > 12 then (some false) else (footbridgelaw07_few.l0 k l0 0)) = some r := h
  clear h
  by_cases c2 : (l0.length : Int) > 12
  · rw [if_pos c2] at H
    have c2b0 : decide (12 < (l0.length : Int)) = true := decide_eq_true c2
    have c2b1 : decide (12 < l0.length) = true := decide_eq_true (by omega)
    clear c2
    obtain rfl := Option.some.inj H
    go_enter Try.func15, Try.ntmps15
    go_wp2
    go_ret
    exact ⟨by first | rfl | (simp; done) | (simp [*]; done), by repeat (first | exact Drawn0.refl _ | apply Drawn0.step)⟩
  · rw [if_neg c2] at H
    have c2b0 : decide (12 < (l0.length : Int)) = false := decide_eq_false c2
    have c2b1 : decide (12 < l0.length) = false := decide_eq_false (by omega)
    clear c2
    have H' := Aside0.mk H
    clear H
    go_enter Try.func15, Try.ntmps15
    go_wp2
    go_loopg [3] k (fun kq v3 w' => ∃ (x3_1 : Int), v3 = .int .i64 x3_1 ∧ Aside0 (footbridgelaw07_few.l0 kq l0 x3_1 = some r) ∧ Aside0 (kq ≤ k) ∧ Drawn0 w w')
    case atStart => exact ⟨(0), (by first | rfl | (simp; done) | (simp [*]; done)), H', ⟨Nat.le_refl _⟩, by repeat (first | exact Drawn0.refl _ | apply Drawn0.step)⟩
    case round =>
      clear H'
      try clear c1
      try clear c2
      try clear c2b0
      try clear c2b1
      try clear p2
      obtain ⟨x3_1, rfl, HA, HK1, ⟨m1, rfl⟩⟩ := hrel
      cases gk with
      | zero => exact absurd HA.out (by simp [footbridgelaw07_few.l0])
      | succ k1 =>
        have H := HA.out
        clear HA
        simp only [footbridgelaw07_few.l0] at H
        by_cases c3 : x3_1 < (l0.length : Int)
        · rw [if_pos c3] at H
          have c3b0 : decide (x3_1 < (l0.length : Int)) = true := decide_eq_true c3
          clear c3
          have HC4 := Aside0.mk H
          clear H
          go_upto_region 6 with (fail)
          go_cut [38] (fun v38 wc => ∃ (kq : Nat) (x38_3 : Bool), v38 = .bool x38_3 ∧ Aside0 (footbridgelaw07_few.j1 kq l0 x3_1 x38_3 = some r) ∧ Aside0 (kq ≤ k1) ∧ Drawn0 w wc)
          case first =>
            have H := HC4.out
            clear HC4
            by_cases c5 : 0 ≤ x3_1
            · rw [if_pos c5] at H
              have c5b0 : decide (0 ≤ x3_1) = true := decide_eq_true c5
              clear c5
              (first | rw [c5b0] | (simp only [i64_w, i32_w]; rw [c5b0]) | skip)
              by_cases c6 : (((rd_T42 l0 x3_1).f0).size : Int) > 100
              · rw [if_pos c6] at H
                have c6b0 : decide (100 < (((rd_T42 l0 x3_1).f0).size : Int)) = true := decide_eq_true c6
                have c6b1 : decide (100 < ((rd_T42 l0 x3_1).f0).size) = true := decide_eq_true (by omega)
                clear c6
                have H' := Aside0.mk H
                clear H
                have p101 : 0 ≤ (x3_1 : Int) := of_decide_eq_true (by first | (with_reducible assumption) | assumption)
                have q101 : x3_1 < (l0.length : Int) := of_decide_eq_true (by first | (with_reducible assumption) | assumption)
                obtain ⟨ad101, A101_2, c101_2, e101, hx101_0, hx101_1, hx101_2, hx101_3, hl101_2, hi101_2⟩ := at_T42 HR0.out x3_1 p101 q101
                cases e101
                have HR101_2 := Aside0.mk hi101_2
                have HC101_2 := Aside0.mk hl101_2
                clear hi101_2 hl101_2
                replace p101 := eq_true p101
                replace q101 := eq_true q101
                go_wp2
                go_meet
                case rel => exact ⟨_, (true), (by first | rfl | (simp; done) | (simp [*]; done)), H', ⟨by have := HK1.out; first | omega | exact Nat.le_refl _⟩, by repeat (first | exact Drawn0.refl _ | apply Drawn0.step)⟩
              · rw [if_neg c6] at H
                have c6b0 : decide (100 < (((rd_T42 l0 x3_1).f0).size : Int)) = false := decide_eq_false c6
                have c6b1 : decide (100 < ((rd_T42 l0 x3_1).f0).size) = false := decide_eq_false (by omega)
                clear c6
                by_cases c7 : (((rd_T42 l0 x3_1).f1).size : Int) > 200
                · rw [if_pos c7] at H
                  have c7b0 : decide (200 < (((rd_T42 l0 x3_1).f1).size : Int)) = true := decide_eq_true c7
                  have c7b1 : decide (200 < ((rd_T42 l0 x3_1).f1).size) = true := decide_eq_true (by omega)
                  clear c7
                  have H' := Aside0.mk H
                  clear H
                  have p101 : 0 ≤ (x3_1 : Int) := of_decide_eq_true (by first | (with_reducible assumption) | assumption)
                  have q101 : x3_1 < (l0.length : Int) := of_decide_eq_true (by first | (with_reducible assumption) | assumption)
                  obtain ⟨ad101, A101_2, c101_2, e101, hx101_0, hx101_1, hx101_2, hx101_3, hl101_2, hi101_2⟩ := at_T42 HR0.out x3_1 p101 q101
                  cases e101
                  have HR101_2 := Aside0.mk hi101_2
                  have HC101_2 := Aside0.mk hl101_2
                  clear hi101_2 hl101_2
                  replace p101 := eq_true p101
                  replace q101 := eq_true q101
                  have p102 : 0 ≤ (x3_1 : Int) := of_decide_eq_true (by first | (with_reducible assumption) | assumption)
                  have q102 : x3_1 < (l0.length : Int) := of_decide_eq_true (by first | (with_reducible assumption) | assumption)
                  obtain ⟨ad102, A102_2, c102_2, e102, hx102_0, hx102_1, hx102_2, hx102_3, hl102_2, hi102_2⟩ := at_T42 HR0.out x3_1 p102 q102
                  obtain rfl : ad101 = ad102 := (by injection e102)
                  have HR102_2 := Aside0.mk hi102_2
                  have HC102_2 := Aside0.mk hl102_2
                  clear hi102_2 hl102_2
                  replace p102 := eq_true p102
                  replace q102 := eq_true q102
                  have ea_ := Option.some.inj (hx101_2.symm.trans hx102_2)
                  injection ea_ with ea_ en_ ec_
                  subst ea_
                  subst ec_
                  clear en_
                  go_wp2
                  go_meet
                  case rel => exact ⟨_, (true), (by first | rfl | (simp; done) | (simp [*]; done)), H', ⟨by have := HK1.out; first | omega | exact Nat.le_refl _⟩, by repeat (first | exact Drawn0.refl _ | apply Drawn0.step)⟩
                · rw [if_neg c7] at H
                  have c7b0 : decide (200 < (((rd_T42 l0 x3_1).f1).size : Int)) = false := decide_eq_false c7
                  have c7b1 : decide (200 < ((rd_T42 l0 x3_1).f1).size) = false := decide_eq_false (by omega)
                  clear c7
                  have H' := Aside0.mk H
                  clear H
                  have p101 : 0 ≤ (x3_1 : Int) := of_decide_eq_true (by first | (with_reducible assumption) | assumption)
                  have q101 : x3_1 < (l0.length : Int) := of_decide_eq_true (by first | (with_reducible assumption) | assumption)
                  obtain ⟨ad101, A101_2, c101_2, e101, hx101_0, hx101_1, hx101_2, hx101_3, hl101_2, hi101_2⟩ := at_T42 HR0.out x3_1 p101 q101
                  cases e101
                  have HR101_2 := Aside0.mk hi101_2
                  have HC101_2 := Aside0.mk hl101_2
                  clear hi101_2 hl101_2
                  replace p101 := eq_true p101
                  replace q101 := eq_true q101
                  have p102 : 0 ≤ (x3_1 : Int) := of_decide_eq_true (by first | (with_reducible assumption) | assumption)
                  have q102 : x3_1 < (l0.length : Int) := of_decide_eq_true (by first | (with_reducible assumption) | assumption)
                  obtain ⟨ad102, A102_2, c102_2, e102, hx102_0, hx102_1, hx102_2, hx102_3, hl102_2, hi102_2⟩ := at_T42 HR0.out x3_1 p102 q102
                  obtain rfl : ad101 = ad102 := (by injection e102)
                  have HR102_2 := Aside0.mk hi102_2
                  have HC102_2 := Aside0.mk hl102_2
                  clear hi102_2 hl102_2
                  replace p102 := eq_true p102
                  replace q102 := eq_true q102
                  have ea_ := Option.some.inj (hx101_2.symm.trans hx102_2)
                  injection ea_ with ea_ en_ ec_
                  subst ea_
                  subst ec_
                  clear en_
                  have p103 : 0 ≤ (x3_1 : Int) := of_decide_eq_true (by first | (with_reducible assumption) | assumption)
                  have q103 : x3_1 < (l0.length : Int) := of_decide_eq_true (by first | (with_reducible assumption) | assumption)
                  obtain ⟨ad103, A103_2, c103_2, e103, hx103_0, hx103_1, hx103_2, hx103_3, hl103_2, hi103_2⟩ := at_T42 HR0.out x3_1 p103 q103
                  obtain rfl : ad101 = ad103 := (by injection e103)
                  have HR103_2 := Aside0.mk hi103_2
                  have HC103_2 := Aside0.mk hl103_2
                  clear hi103_2 hl103_2
                  replace p103 := eq_true p103
                  replace q103 := eq_true q103
                  have ea_ := Option.some.inj (hx101_2.symm.trans hx103_2)
                  injection ea_ with ea_ en_ ec_
                  subst ea_
                  subst ec_
                  clear en_
                  go_wp2
                  go_meet
                  case rel => exact ⟨_, (decide ((((rd_T42 l0 x3_1).f2).length : Int) > 20)), (by first | rfl | (simp; done) | (simp [*]; done)), H', ⟨by have := HK1.out; first | omega | exact Nat.le_refl _⟩, by repeat (first | exact Drawn0.refl _ | apply Drawn0.step)⟩
            · rw [if_neg c5] at H
              exact absurd H (by simp)
          case rest =>
            clear HC4
            try clear c1
            try clear p1
            try clear q1
            try clear hx1
            try clear c2
            try clear c2b0
            try clear c2b1
            try clear p2
            try clear c3
            try clear c3b0
            try clear c5
            try clear c5b0
            try clear c6
            try clear c6b0
            try clear c6b1
            try clear c7
            try clear c7b0
            try clear c7b1
            try clear hx101_0
            try clear hx101_1
            try clear hx101_2
            try clear hx101_3
            try clear hx102_0
            try clear hx102_1
            try clear hx102_2
            try clear hx102_3
            try clear hx103_0
            try clear hx103_1
            try clear hx103_2
            try clear hx103_3
            try clear p101
            try clear p102
            try clear p103
            try clear p2
            try clear q101
            try clear q102
            try clear q103
            obtain ⟨kq, x38_3, rfl, HA, HJ3, ⟨mc3, rfl⟩⟩ := hcut
            cases kq with
            | zero => exact absurd HA.out (by simp [footbridgelaw07_few.j1])
            | succ kj3 =>
              have H := HA.out
              clear HA
              simp only [footbridgelaw07_few.j1] at H
              by_cases c8 : x38_3 = true
              · subst c8
                have H1 : (some false) = some r := by rw [if_pos rfl] at H; exact H
                clear H
                have H := H1
                clear H1
                obtain rfl := Option.some.inj H
                go_wp2
                go_ret
                exact ⟨by first | rfl | (simp; done) | (simp [*]; done), by repeat (first | exact Drawn0.refl _ | apply Drawn0.step)⟩
              · replace c8 := Bool.eq_false_iff.mpr c8
                subst c8
                have H1 : (footbridgelaw07_few.l1 kj3 l0 x3_1 0) = some r := by rw [if_neg (show ¬ (false = true) by decide)] at H; exact H
                clear H
                have H := H1
                clear H1
                have H' := Aside0.mk H
                clear H
                go_wp2
                go_loopg [4] kj3 (fun kq v4 w' => ∃ (x4_3 : Int), v4 = .int .i64 x4_3 ∧ Aside0 (footbridgelaw07_few.l1 kq l0 x3_1 x4_3 = some r) ∧ Aside0 (kq ≤ kj3) ∧ Drawn0 w w')
                case atStart => exact ⟨(0), (by first | rfl | (simp; done) | (simp [*]; done)), H', ⟨Nat.le_refl _⟩, by repeat (first | exact Drawn0.refl _ | apply Drawn0.step)⟩
                case round =>
                  clear H'
                  try clear c1
                  try clear p1
                  try clear q1
                  try clear hx1
                  try clear c2
                  try clear c2b0
                  try clear c2b1
                  try clear p2
                  try clear c3
                  try clear c3b0
                  try clear c5
                  try clear c5b0
                  try clear c6
                  try clear c6b0
                  try clear c6b1
                  try clear c7
                  try clear c7b0
                  try clear c7b1
                  try clear c8
                  try clear hx101_0
                  try clear hx101_1
                  try clear hx101_2
                  try clear hx101_3
                  try clear hx102_0
                  try clear hx102_1
                  try clear hx102_2
                  try clear hx102_3
                  try clear hx103_0
                  try clear hx103_1
                  try clear hx103_2
                  try clear hx103_3
                  try clear p1
                  try clear p101
                  try clear p102
                  try clear p103
                  try clear p2
                  try clear q1
                  try clear q101
                  try clear q102
                  try clear q103
                  obtain ⟨x4_3, rfl, HA, HK3, ⟨m3, rfl⟩⟩ := hrel
                  cases gk with
                  | zero => exact absurd HA.out (by simp [footbridgelaw07_few.l1])
                  | succ k3 =>
                    have H := HA.out
                    clear HA
                    simp only [footbridgelaw07_few.l1] at H
                    by_cases c9 : 0 ≤ x3_1
                    · rw [if_pos c9] at H
                      have c9b0 : decide (0 ≤ x3_1) = true := decide_eq_true c9
                      clear c9
                      by_cases c10 : x3_1 < (l0.length : Int)
                      · rw [if_pos c10] at H
                        have c10b0 : decide (x3_1 < (l0.length : Int)) = true := decide_eq_true c10
                        try (simp only [hl103_2] at c10b0)
                        clear c10
                        by_cases c11 : x4_3 < (((rd_T42 l0 x3_1).f2).length : Int)
                        · rw [if_pos c11] at H
                          have c11b0 : decide (x4_3 < (((rd_T42 l0 x3_1).f2).length : Int)) = true := decide_eq_true c11
                          try (simp only [hl103_2] at c11b0)
                          clear c11
                          by_cases c12 : 0 ≤ x4_3
                          · rw [if_pos c12] at H
                            have c12b0 : decide (0 ≤ x4_3) = true := decide_eq_true c12
                            clear c12
                            by_cases c13 : ((rdOf ByteArray.empty ((rd_T42 l0 x3_1).f2) x4_3).size : Int) > 100
                            · rw [if_pos c13] at H
                              have c13b0 : decide (100 < ((rdOf ByteArray.empty ((rd_T42 l0 x3_1).f2) x4_3).size : Int)) = true := decide_eq_true c13
                              have c13b1 : decide (100 < (rdOf ByteArray.empty ((rd_T42 l0 x3_1).f2) x4_3).size) = true := decide_eq_true (by omega)
                              clear c13
                              obtain rfl := Option.some.inj H
                              have p104 : 0 ≤ (x3_1 : Int) := of_decide_eq_true (by first | (with_reducible assumption) | assumption)
                              have q104 : x3_1 < (l0.length : Int) := of_decide_eq_true (by first | (with_reducible assumption) | assumption)
                              obtain ⟨ad104, A104_2, c104_2, e104, hx104_0, hx104_1, hx104_2, hx104_3, hl104_2, hi104_2⟩ := at_T42 HR0.out x3_1 p104 q104
                              cases e104
                              have HR104_2 := Aside0.mk hi104_2
                              have HC104_2 := Aside0.mk hl104_2
                              clear hi104_2 hl104_2
                              replace p104 := eq_true p104
                              replace q104 := eq_true q104
                              have p105 : 0 ≤ (x3_1 : Int) := of_decide_eq_true (by first | (with_reducible assumption) | assumption)
                              have q105 : x3_1 < (l0.length : Int) := of_decide_eq_true (by first | (with_reducible assumption) | assumption)
                              obtain ⟨ad105, A105_2, c105_2, e105, hx105_0, hx105_1, hx105_2, hx105_3, hl105_2, hi105_2⟩ := at_T42 HR0.out x3_1 p105 q105
                              obtain rfl : ad104 = ad105 := (by injection e105)
                              have HR105_2 := Aside0.mk hi105_2
                              have HC105_2 := Aside0.mk hl105_2
                              clear hi105_2 hl105_2
                              replace p105 := eq_true p105
                              replace q105 := eq_true q105
                              have ea_ := Option.some.inj (hx104_2.symm.trans hx105_2)
                              injection ea_ with ea_ en_ ec_
                              subst ea_
                              subst ec_
                              clear en_
                              have p106 : 0 ≤ (x4_3 : Int) := of_decide_eq_true (by first | (with_reducible assumption) | assumption)
                              have q106 : x4_3 < (((rd_T42 l0 x3_1).f2).length : Int) := of_decide_eq_true (by first | (with_reducible assumption) | assumption)
                              obtain ⟨ad106, e106, hx106_0⟩ := Kd.at_string HR105_2.out x4_3 p106 q106
                              cases e106
                              replace p106 := eq_true p106
                              replace q106 := eq_true q106
                              go_wp2
                              go_ret
                              exact ⟨by first | rfl | (simp; done) | (simp [*]; done), by repeat (first | exact Drawn0.refl _ | apply Drawn0.step)⟩
                            · rw [if_neg c13] at H
                              have c13b0 : decide (100 < ((rdOf ByteArray.empty ((rd_T42 l0 x3_1).f2) x4_3).size : Int)) = false := decide_eq_false c13
                              have c13b1 : decide (100 < (rdOf ByteArray.empty ((rd_T42 l0 x3_1).f2) x4_3).size) = false := decide_eq_false (by omega)
                              clear c13
                              have H' := Aside0.mk H
                              clear H
                              have p104 : 0 ≤ (x3_1 : Int) := of_decide_eq_true (by first | (with_reducible assumption) | assumption)
                              have q104 : x3_1 < (l0.length : Int) := of_decide_eq_true (by first | (with_reducible assumption) | assumption)
                              obtain ⟨ad104, A104_2, c104_2, e104, hx104_0, hx104_1, hx104_2, hx104_3, hl104_2, hi104_2⟩ := at_T42 HR0.out x3_1 p104 q104
                              cases e104
                              have HR104_2 := Aside0.mk hi104_2
                              have HC104_2 := Aside0.mk hl104_2
                              clear hi104_2 hl104_2
                              replace p104 := eq_true p104
                              replace q104 := eq_true q104
                              have p105 : 0 ≤ (x3_1 : Int) := of_decide_eq_true (by first | (with_reducible assumption) | assumption)
                              have q105 : x3_1 < (l0.length : Int) := of_decide_eq_true (by first | (with_reducible assumption) | assumption)
                              obtain ⟨ad105, A105_2, c105_2, e105, hx105_0, hx105_1, hx105_2, hx105_3, hl105_2, hi105_2⟩ := at_T42 HR0.out x3_1 p105 q105
                              obtain rfl : ad104 = ad105 := (by injection e105)
                              have HR105_2 := Aside0.mk hi105_2
                              have HC105_2 := Aside0.mk hl105_2
                              clear hi105_2 hl105_2
                              replace p105 := eq_true p105
                              replace q105 := eq_true q105
                              have ea_ := Option.some.inj (hx104_2.symm.trans hx105_2)
                              injection ea_ with ea_ en_ ec_
                              subst ea_
                              subst ec_
                              clear en_
                              have p106 : 0 ≤ (x4_3 : Int) := of_decide_eq_true (by first | (with_reducible assumption) | assumption)
                              have q106 : x4_3 < (((rd_T42 l0 x3_1).f2).length : Int) := of_decide_eq_true (by first | (with_reducible assumption) | assumption)
                              obtain ⟨ad106, e106, hx106_0⟩ := Kd.at_string HR105_2.out x4_3 p106 q106
                              cases e106
                              replace p106 := eq_true p106
                              replace q106 := eq_true q106
                              go_wp2
                              go_roundg k3
                              case measure => have := HK1.out; have := HJ3.out; have := HK3.out; omega
                              case rel => exact ⟨(wrap64 (x4_3 + 1)), (by first | rfl | (simp; done) | (simp [*]; done)), H', ⟨by have := HK1.out; have := HJ3.out; have := HK3.out; omega⟩, by repeat (first | exact Drawn0.refl _ | apply Drawn0.step)⟩
                          · rw [if_neg c12] at H
                            exact absurd H (by simp)
                        · rw [if_neg c11] at H
                          have c11b0 : decide (x4_3 < (((rd_T42 l0 x3_1).f2).length : Int)) = false := decide_eq_false c11
                          try (simp only [hl105_2] at c11b0)
                          clear c11
                          have H' := Aside0.mk H
                          clear H
                          have p104 : 0 ≤ (x3_1 : Int) := of_decide_eq_true (by first | (with_reducible assumption) | assumption)
                          have q104 : x3_1 < (l0.length : Int) := of_decide_eq_true (by first | (with_reducible assumption) | assumption)
                          obtain ⟨ad104, A104_2, c104_2, e104, hx104_0, hx104_1, hx104_2, hx104_3, hl104_2, hi104_2⟩ := at_T42 HR0.out x3_1 p104 q104
                          cases e104
                          have HR104_2 := Aside0.mk hi104_2
                          have HC104_2 := Aside0.mk hl104_2
                          clear hi104_2 hl104_2
                          replace p104 := eq_true p104
                          replace q104 := eq_true q104
                          go_wp2
                          go_roundg k3
                          case measure => have := HK1.out; have := HJ3.out; have := HK3.out; omega
                          case rel => exact ⟨(wrap64 (x3_1 + 1)), (by first | rfl | (simp; done) | (simp [*]; done)), H', ⟨by have := HK1.out; have := HJ3.out; have := HK3.out; omega⟩, by repeat (first | exact Drawn0.refl _ | apply Drawn0.step)⟩
                      · rw [if_neg c10] at H
                        exact absurd H (by simp)
                    · rw [if_neg c9] at H
                      exact absurd H (by simp)
        · rw [if_neg c3] at H
          have c3b0 : decide (x3_1 < (l0.length : Int)) = false := decide_eq_false c3
          try (simp only [hl105_2] at c3b0)
          clear c3
          obtain rfl := Option.some.inj H
          go_wp2
          go_ret
          exact ⟨by first | rfl | (simp; done) | (simp [*]; done), by repeat (first | exact Drawn0.refl _ | apply Drawn0.step)⟩

/-! ### words: set.inc -/
/-- A map of the call's own that holds these keys, each with true. -/
def SetAt (g : Nat) (seen : List (List UInt8)) (w : World) : Prop := ∃ es clock, w.heap[g]? = some (.map es clock) ∧ es.toList.map (·.key) = seen.map (fun l => Value.string (ofL l)) ∧ ∀ e ∈ es.toList, e.val = .bool true
theorem SetAt.made (w : World) : SetAt w.heap.size [] (w.alloc (.map #[] 0)) := ⟨#[], 0, my_alloc_new w _, rfl, by simp⟩
theorem SetAt.of {g : Nat} {seen : List (List UInt8)} {w w1 : World} (h : SetAt g seen w) (hk : w1.heap[g]? = w.heap[g]?) : SetAt g seen w1 := by
  obtain ⟨es, clock, h1, h2⟩ := h
  exact ⟨es, clock, hk.trans h1, h2⟩
theorem SetAt.lt {g : Nat} {seen : List (List UInt8)} {w : World} (h : SetAt g seen w) : g < w.heap.size := by
  obtain ⟨es, clock, h1, _⟩ := h
  exact (Array.getElem?_eq_some_iff.1 h1).1
theorem SetAt.keysOf {g : Nat} {seen : List (List UInt8)} {P : Program} {k : TypeId} (hk : P.underlying k = some .string) (hs : ∀ s ∈ seen, s.length ≤ maxLen) {es : Array MapEntry} (h2 : es.toList.map (·.key) = seen.map (fun l => Value.string (ofL l))) : ∀ e ∈ es.toList, ∃ l, keyOf P k e.key = some l := fun e he => by
  have h3 : e.key ∈ seen.map (fun l => Value.string (ofL l)) := by rw [← h2]; exact List.mem_map.2 ⟨e, he, rfl⟩
  obtain ⟨s, hs1, hs2⟩ := List.mem_map.1 h3
  rw [← hs2]
  exact ⟨_, Go.WideMaps.keyOf_string_mk hk (by rw [ofL_size]; exact hs s hs1)⟩
theorem SetAt.look {g : Nat} {seen : List (List UInt8)} {w : World} (h : SetAt g seen w) {P : Program} {T k e : TypeId} (ht : P.underlying T = some (.map k e)) (hk : P.underlying k = some .string) (hz : (zeroValue e).run P w = .ok (.bool false) w) (s : ByteArray) (hs : s.size ≤ maxLen) (hs2 : ∀ s ∈ seen, s.length ≤ maxLen) :
    (Instr.lookup T (.map (some g)) (.string s) false).run P w = .ok (.bool (decide (s.toList ∈ seen))) w := by
  obtain ⟨es, clock, hb, h2, h3⟩ := h
  have K := Go.Maps.string_keyed hk
  have hkey := Go.WideMaps.keyOf_string_mk (P := P) hk hs
  rcases K.find w hkey es.toList (SetAt.keysOf (g := g) hk hs2 h2) with ⟨f1, f2⟩ | ⟨j, e0, f1, f2, f3⟩
  · have hn : ¬ s.toList ∈ seen := fun hm => by
      have h4 : Value.string s ∈ es.toList.map (·.key) := by rw [h2]; exact List.mem_map.2 ⟨s.toList, hm, by rw [ofL_of]⟩
      obtain ⟨e1, he1, he2⟩ := List.mem_map.1 h4
      exact f2 e1 he1 he2
    rw [decide_eq_false hn]
    simp [Instr.lookup, run_underlying ht, Go.MapKept.run_getObj_map hb, K.check w _ hkey, f1, hz, Result.andThen]
  · have hm0 : e0 ∈ es.toList := List.mem_of_getElem? f2
    have hn : s.toList ∈ seen := by
      have h4 : e0.key ∈ seen.map (fun l => Value.string (ofL l)) := by rw [← h2]; exact List.mem_map.2 ⟨e0, hm0, rfl⟩
      rw [f3] at h4
      obtain ⟨s1, hs1, hs2⟩ := List.mem_map.1 h4
      injection hs2 with hs2
      rw [← hs2, ofL_toList]; exact hs1
    rw [decide_eq_true hn]
    simp [Instr.lookup, run_underlying ht, Go.MapKept.run_getObj_map hb, K.check w _ hkey, f1, h3 e0 hm0, Result.andThen]
theorem SetAt.put {g : Nat} {seen : List (List UInt8)} {w : World} (h : SetAt g seen w) {P : Program} {T k e : TypeId} (ht : P.underlying T = some (.map k e)) (hk : P.underlying k = some .string) (s : ByteArray) (hs : s.size ≤ maxLen) (hs2 : ∀ s ∈ seen, s.length ≤ maxLen) (hn : ¬ s.toList ∈ seen) :
    ∃ w', (Instr.mapUpdate T (.map (some g)) (.string s) (.bool true)).run P w = .ok () w' ∧ SetAt g (seen ++ [s.toList]) w' ∧ w.grownBy w' (some g) := by
  obtain ⟨es, clock, hb, h2, h3⟩ := h
  have K := Go.Maps.string_keyed hk
  have hkey := Go.WideMaps.keyOf_string_mk (P := P) hk hs
  rcases K.find w hkey es.toList (SetAt.keysOf (g := g) hk hs2 h2) with ⟨f1, f2⟩ | ⟨j, e0, f1, f2, f3⟩
  · refine ⟨Go.ChangeMaps.setBlock w g (.map (es.push ⟨.string s, .bool true, clock⟩) (clock + 1)), by simp [Instr.mapUpdate, run_underlying ht, Go.MapKept.run_getObj_map hb, K.check w false hkey, f1, Go.MapKept.run_setObj_map _ hb, Result.andThen, Go.ChangeMaps.setBlock], ⟨_, _, Go.ChangeMaps.heap_setBlock_same hb _, ?_, ?_⟩, ⟨rfl, rfl, rfl, by simp [Go.ChangeMaps.setBlock], fun i _ hi => Go.ChangeMaps.heap_setBlock_other hb _ (fun e => hi (by rw [e]))⟩⟩
    · rw [Array.toList_push, List.map_append, h2, List.map_append, List.map_cons, List.map_nil, List.map_cons, List.map_nil, ofL_of]
    · intro x hx
      rw [Array.toList_push, List.mem_append] at hx
      rcases hx with hx | hx
      · exact h3 x hx
      · rw [List.mem_singleton.1 hx]
  · exfalso
    have hm0 : e0 ∈ es.toList := List.mem_of_getElem? f2
    apply hn
    have h4 : e0.key ∈ seen.map (fun l => Value.string (ofL l)) := by rw [← h2]; exact List.mem_map.2 ⟨e0, hm0, rfl⟩
    rw [f3] at h4
    obtain ⟨s1, hs1, hs2⟩ := List.mem_map.1 h4
    injection hs2 with hs2
    rw [← hs2, ofL_toList]; exact hs1

/-! ### object_fine: function 34 -/
/-- May these fields be, where those keys have been before? -/
def fineL : List (List UInt8) → List S42 → Bool
  | _, [] => true
  | seen, x :: t => if x.f0.toList ∈ seen then false else if x.f3 = true ∧ x.f1.toList ≠ [] then false else if x.f3 = false ∧ 0 < x.f2.length then false else fineL (seen ++ [x.f0.toList]) t
def object_fine.f (l0 : List S42) : Option Bool := if l0.length ≤ 1000000000 ∧ (l0.all fun x => decide (x.f0.size ≤ 1000000000)) = true then some (fineL [] l0) else none
set_option maxHeartbeats 4000000 in
set_option maxRecDepth 100000 in
theorem object_fine.calls (A0 : Option Addr) (c0 : Nat) (l0 : List S42) (r : Bool) (w : World) (hr0 : Kd.C k42 w A0 l0.length l0) (hc0 : l0.length ≤ c0) (h : object_fine.f l0 = some r) :
    Calls Try.prog 34 #[.slice A0 l0.length c0] w fun e w' => e = .returned (.bool r) ∧ Below w.heap.size w w' := by
  unfold object_fine.f at h
  by_cases hc : l0.length ≤ 1000000000 ∧ (l0.all fun x => decide (x.f0.size ≤ 1000000000)) = true
  case neg => rw [if_neg hc] at h; exact absurd h (by simp)
  rw [if_pos hc] at h
  obtain ⟨hlen, hall0⟩ := hc
  have hall := Aside0.mk (fun x hx => of_decide_eq_true (List.all_eq_true.1 hall0 x hx) : ∀ x ∈ l0, x.f0.size ≤ 1000000000)
  have hr := Aside0.mk (Option.some.inj h)
  clear h hall0
  have hu1 := Try.underlying42
  have HR0 := Aside0.mk hr0
  clear hr0
  have hmm := @run_makeMap Try.prog
  have h0 := Aside0.mk (SetAt.made w)
  have hb0 := Aside0.mk ((Below.refl w.heap.size w).alloc (Nat.le_refl _) (.map #[] 0))
  go_enter Try.func34, Try.ntmps34
  go_wp2_with fail
  clear hmm
  go_loopg [9] l0.length (fun gg s9 wx => ∃ (x : Nat) (seen : List (List UInt8)), s9 = .int .i64 x ∧ x + gg = l0.length ∧ Aside0 (SetAt w.heap.size seen wx) ∧ Aside0 (Below w.heap.size w wx) ∧ Aside0 (fineL seen (l0.drop x) = r) ∧ Aside0 (∀ s ∈ seen, s.length ≤ maxLen))
  case atStart => exact ⟨0, [], rfl, by omega, h0, hb0, hr, ⟨by simp⟩⟩
  case round =>
    clear h0 hb0 hr
    obtain ⟨x, seen, rfl, hx, HS, HB, HF, HM⟩ := hrel
    cases gk with
    | zero =>
      have hF := HF.out
      rw [List.drop_eq_nil_of_le (by omega)] at hF
      obtain rfl : true = r := hF
      have q1 : decide ((x : Int) < (l0.length : Int)) = false := decide_eq_false (by omega)
      go_wp2
      go_ret
      exact ⟨rfl, HB.out⟩
    | succ gg =>
      have hxl : x < l0.length := by omega
      have hx0 : (0 : Int) ≤ (x : Int) := by omega
      have hkl : (x : Int) < (l0.length : Int) := by omega
      have hrd : rd_T42 l0 (x : Int) = l0[x] := by
        unfold rd_T42
        rw [Int.toNat_natCast, List.getD_eq_getElem?_getD, List.getElem?_eq_getElem hxl]; rfl
      obtain ⟨ad, A2, c2, e1, hv0, hv1, hv2, hv3, hrest⟩ := at_T42 HR0.out x hx0 hkl
      cases e1
      rw [hrd] at hv0 hv1 hv2 hv3 hrest
      rw [Int.toNat_natCast] at hv0 hv1 hv2 hv3
      have hh := hall.out l0[x] (List.getElem_mem hxl)
      have hF := HF.out
      rw [List.drop_eq_getElem_cons hxl] at hF
      generalize l0[x] = f at hv0 hv1 hv2 hv3 hrest hh hF
      obtain ⟨f0, f1, f2, f3⟩ := f
      simp only at hv0 hv1 hv2 hv3 hrest hh
      replace hF := Aside0.mk hF
      have hf2 := hrest.1
      clear HF hrest hrd
      replace hv0 := (HB.out.cell (World.block_lt_of_cell? w _ hv0)).trans hv0
      replace hv1 := (HB.out.cell (World.block_lt_of_cell? w _ hv1)).trans hv1
      replace hv2 := (HB.out.cell (World.block_lt_of_cell? w _ hv2)).trans hv2
      replace hv3 := (HB.out.cell (World.block_lt_of_cell? w _ hv3)).trans hv3
      have p0 := eq_true hx0
      have q0 := eq_true hkl
      have q1 : decide ((x : Int) < (l0.length : Int)) = true := decide_eq_true hkl
      have HW := Aside0.mk (Below.refl wr.heap.size wr)
      go_upto_region 5 with (first | ((with_reducible refine gate_dst (N := 5) rfl ?_); (try (refine gate_guard (by rfl) ?_; dsimp only)); refine box_event ?hg (N := 5) ?hd (cs := #[.string (⟨#[]⟩ : ByteArray), .string (⟨#[]⟩ : ByteArray), .slice none 0 0, .bool false]) (t := 42) ?hr ?_; (case hd => rfl); (case hg => rfl); (case hr => first | (go_simp; done) | (go_simp; rfl)); intro gc hg w8 hbox hb; have n0_ := Aside0.mk (below_step (by repeat (first | exact HW.out | apply pw_below_drewN | apply below_drew1)) hb); have BC := Aside0.mk hbox; have GC := Aside0.mk ((by rw [hg]; exact (below_size (by repeat (first | exact HW.out | apply pw_below_drewN | apply below_drew1))) : wr.heap.size ≤ gc)); clear HW; have HW := n0_; clear n0_ hb hbox hg; have hz0 : w8.cell? ⟨gc, 0, none⟩ = some (.string (⟨#[]⟩ : ByteArray)) := (blk_cell BC.out 0).trans rfl; have hz1 : w8.cell? ⟨gc, 1, none⟩ = some (.string (⟨#[]⟩ : ByteArray)) := (blk_cell BC.out 1).trans rfl; have hz2 : w8.cell? ⟨gc, 2, none⟩ = some (.slice none 0 0) := (blk_cell BC.out 2).trans rfl; have hz3 : w8.cell? ⟨gc, 3, none⟩ = some (.bool false) := (blk_cell BC.out 3).trans rfl; have hf0 := blk_frozen BC.out 0; have hf1 := blk_frozen BC.out 1; have hf2_ := blk_frozen BC.out 2; have hf3 := blk_frozen BC.out 3) | fail)
      have HW9 := Aside0.mk (by repeat (first | exact HW.out | refine below_set ?_ GC.out) : Below wr.heap.size wr ((((w8.setCell ⟨gc, 0, none⟩ (.string f0)).setCell ⟨gc, 1, none⟩ (.string f1)).setCell ⟨gc, 2, none⟩ (.slice A2 f2.length c2)).setCell ⟨gc, 3, none⟩ (.bool f3)))
      have BC9 := Aside0.mk (blk_set (blk_set (blk_set (blk_set BC.out 0 (.string f0)) 1 (.string f1)) 2 (.slice A2 f2.length c2)) 3 (.bool f3))
      clear HW BC hz0 hz1 hz2 hz3 hf0 hf1 hf2_ hf3
      generalize ((((w8.setCell ⟨gc, 0, none⟩ (.string f0)).setCell ⟨gc, 1, none⟩ (.string f1)).setCell ⟨gc, 2, none⟩ (.slice A2 f2.length c2)).setCell ⟨gc, 3, none⟩ (.bool f3)) = w9 at HW9 BC9 ⊢
      have HS9 := Aside0.mk (HS.out.of (HW9.out.block _ HS.out.lt))
      have HB9 := Aside0.mk (below_step HB.out HW9.out)
      have y0 : w9.cell? ⟨gc, 0, none⟩ = some (.string f0) := (blk_cell BC9.out 0).trans rfl
      have y1 : w9.cell? ⟨gc, 1, none⟩ = some (.string f1) := (blk_cell BC9.out 1).trans rfl
      have y2 : w9.cell? ⟨gc, 2, none⟩ = some (.slice A2 f2.length c2) := (blk_cell BC9.out 2).trans rfl
      have y3 : w9.cell? ⟨gc, 3, none⟩ = some (.bool f3) := (blk_cell BC9.out 3).trans rfl
      have hfm : f0.size ≤ maxLen := by unfold maxLen; omega
      have hlk := SetAt.look HS9.out Try.underlying100 Try.underlying9 (by kernel_rfl : (zeroValue 4).run Try.prog w9 = .ok (.bool false) w9) f0 hfm HM.out
      by_cases hm : f0.toList ∈ seen
      · rw [decide_eq_true hm] at hlk
        have hF2 := hF.out
        simp only [fineL] at hF2
        rw [if_pos hm] at hF2
        subst hF2
        go_wp2
        go_ret
        exact ⟨rfl, HB9.out⟩
      rw [decide_eq_false hm] at hlk
      have hF2 := hF.out
      simp only [fineL] at hF2
      rw [if_neg hm] at hF2
      replace hm := Aside0.mk hm
      by_cases h1 : f3 = true ∧ f1.toList ≠ []
      · rw [if_pos h1] at hF2
        subst hF2
        obtain ⟨rfl, h1⟩ := h1
        have h1b : (f1.toList == []) = false := beq_eq_false_iff_ne.2 h1
        have h1c : f1.toList.isEmpty = false := by rw [List.isEmpty_eq_false_iff]; exact h1
        go_wp2
        go_ret
        exact ⟨rfl, HB9.out⟩
      rw [if_neg h1] at hF2
      by_cases h2 : f3 = false ∧ 0 < f2.length
      · rw [if_pos h2] at hF2
        subst hF2
        obtain ⟨rfl, h2⟩ := h2
        have h2b : decide (0 < (f2.length : Int)) = true := decide_eq_true (by omega)
        have h2c : (0 < (f2.length : Int)) := by omega
        go_wp2
        go_ret
        exact ⟨rfl, HB9.out⟩
      rw [if_neg h2] at hF2
      obtain ⟨w10, hup, HS10, hgr⟩ := SetAt.put HS9.out Try.underlying100 Try.underlying9 f0 hfm HM.out hm.out
      replace HS10 := Aside0.mk HS10
      have HB10 := Aside0.mk (HB9.out.grown hgr HB9.out.size (fun k hk => by injection hk with hk; omega))
      replace hF2 := Aside0.mk hF2
      have HM10 : Aside0 (∀ s ∈ seen ++ [f0.toList], s.length ≤ maxLen) := ⟨fun s hs => by
        rcases List.mem_append.1 hs with hs | hs
        · exact HM.out s hs
        · rw [List.mem_singleton.1 hs, ← ba_size]; exact hfm⟩
      have h3 : (f3 = true ∧ (f1.toList == []) = true ∧ f1.toList.isEmpty = true) ∨ (f3 = false ∧ decide (0 < (f2.length : Int)) = false ∧ ¬ (0 < (f2.length : Int))) := by
        cases f3 with
        | true => left; have h4 : f1.toList = [] := Classical.byContradiction fun e => h1 ⟨rfl, e⟩; rw [h4]; exact ⟨rfl, rfl, rfl⟩
        | false => right; have h4 : ¬ 0 < f2.length := fun e => h2 ⟨rfl, e⟩; exact ⟨rfl, decide_eq_false (by omega), by omega⟩
      clear h1 h2 hgr hF HS HB HM HS9
      rcases h3 with ⟨rfl, h1b, h1c⟩ | ⟨rfl, h2b, h2c⟩
      all_goals
        go_wp2
        go_roundg gg
        case measure => omega
        case rel => exact ⟨x + 1, seen ++ [f0.toList], by first | rfl | (simp; done), by omega, HS10, HB10, hF2, HM10⟩

/-! ### words: builder.inc -/
/-! ### strings.Builder: the writers, at a builder of the call's own -/
/-- Whatever block is neither the builder nor a plain row of bytes stands. -/
def BKept (e : TypeId) (g : Nat) (w w' : World) : Prop := ∀ i, i < w.heap.size → i ≠ g → (∀ cs, w.heap[i]? ≠ some (.cells cs e (0, 0))) → w'.heap[i]? = w.heap[i]?
theorem BKept.refl (e : TypeId) (g : Nat) (w : World) : BKept e g w w := fun _ _ _ _ => rfl
theorem BKept.trans {e : TypeId} {g : Nat} {w w1 w2 : World} (h : BKept e g w w1) (k : BKept e g w1 w2) (hs : w.heap.size ≤ w1.heap.size) : BKept e g w w2 := fun i hi hg hc => by
  have h1 := h i hi hg hc
  rw [k i (Nat.lt_of_lt_of_le hi hs) hg (fun cs hcs => hc cs (by rw [← h1]; exact hcs)), h1]
theorem BKept.setCell {e : TypeId} {g : Nat} {w w1 : World} (h : BKept e g w w1) (k : Nat) (v : Value) : BKept e g w (w1.setCell ⟨g, k, none⟩ v) := fun i hi hg hc => by
  rw [← h i hi hg hc]
  unfold World.setCell
  simp [Array.getElem?_modify, Ne.symm hg]
theorem BKept.grown {e : TypeId} {g : Nat} {w w1 : World} {base n : Nat} {v : Value} {xs : List Value} (ho : w.ownsRow base e 1 v n xs) (hg : w.grownBy w1 v.ownBlock) : BKept e g w w1 := fun i hi _ hc => by
  refine hg.block i hi (fun he => ?_)
  obtain ⟨cells, hcs⟩ := own_typed ho i he.symm
  exact hc cells hcs
theorem BKept.alloc {e : TypeId} {g : Nat} (w : World) (o : Obj) : BKept e g w (w.alloc o) := fun i hi _ _ => my_alloc_old w o i hi
theorem bi_size : (Try.prog.info? 58).map (·.size) = some 2 := by kernel_rfl
theorem bi_lies : liesAt Try.prog Try.prog.depth 58 (2 / Try.prog.cellsOf 58) 0 58 1 = true := by kernel_rfl
theorem bi_info : (Try.prog.info? 5).map (fun i => (i.zero, i.size, i.bytes)) = some (some (.int .u8 0), 1, 1) := by kernel_rfl
set_option maxHeartbeats 1000000 in
set_option maxRecDepth 100000 in
theorem bi_check_used (b : Nat) (w : World) (h0 : w.cell? ⟨b, 0, none⟩ = some (.pointer (some ⟨b, 0, none⟩))) :
    Calls Try.prog 46 #[.pointer (some ⟨b, 0, none⟩)] w fun e w' => e = .returned (.tuple #[]) ∧ w' = w := by
  obtain ⟨j, hj, _⟩ := Option.map_eq_some_iff.1 bi_size
  go_enter Try.func46, Try.ntmps46
  go_wp2
  rw [Lib.run_neq_ptr_same w _ Try.underlying55 hj]
  go_wp2
  go_end0
  exact ⟨rfl, rfl⟩
set_option maxHeartbeats 1000000 in
set_option maxRecDepth 100000 in
theorem bi_check_fresh (b : Nat) (w : World) (h0 : w.cell? ⟨b, 0, none⟩ = some (.pointer none)) (hsh : w.shape? b = some (58, 2)) (hfz : w.frozen? ⟨b, 0, none⟩ = false) :
    Calls Try.prog 46 #[.pointer (some ⟨b, 0, none⟩)] w fun e w' => e = .returned (.tuple #[]) ∧ w' = w.setCell ⟨b, 0, none⟩ (.pointer (some ⟨b, 0, none⟩)) := by
  obtain ⟨j, hj, hjs⟩ := Option.map_eq_some_iff.1 bi_size
  go_enter Try.func46, Try.ntmps46
  go_wp2
  rw [Lib.run_to_unsafe w ⟨b, 0, none⟩ Try.underlying55 Try.underlying111 hj (by rw [hjs]; decide) hsh (Nat.zero_lt_succ 1)]
  simp only [Result.andThen]
  rw [Oper.upon_value]
  go_wp2
  rw [run_callFunc_extern Try.func66 (by kernel_rfl) (by kernel_rfl) (by kernel_rfl) (e := Extern.AbiNoEscape.same) (by kernel_rfl)]
  rw [Lib.run_noEscape]
  simp only [Result.andThen]
  rw [Oper.upon_value]
  go_wp2
  rw [Lib.run_from_unsafe w ⟨b, 0, none⟩ Try.underlying111 Try.underlying55 hj hsh bi_lies]
  simp only [Result.andThen]
  rw [Oper.upon_value]
  go_wp2
  go_end0
  exact ⟨rfl, rfl⟩
theorem bi_check (B b : Nat) (bs : List Value) (w : World) (h : Lib.IsBuilder 58 5 B b bs w) :
    Calls Try.prog 46 #[.pointer (some ⟨b, 0, none⟩)] w fun e w' => e = .returned (.tuple #[]) ∧ Lib.BuilderAt 58 5 B b (.pointer (some ⟨b, 0, none⟩)) bs w' ∧ Below B w w' ∧ BKept 5 b w w' := by
  rcases h with h | h
  · refine (bi_check_fresh b w h.cell0 h.shape h.frozen0).mono ?_
    rintro e w' ⟨rfl, rfl⟩
    exact ⟨rfl, h.used _, (Below.refl B w).setCell (p := ⟨b, 0, none⟩) h.1 _, (BKept.refl _ _ _).setCell _ _⟩
  · refine (bi_check_used b w h.cell0).mono ?_
    rintro e w' ⟨rfl, rfl⟩
    exact ⟨rfl, h, Below.refl B _, BKept.refl _ _ _⟩
set_option maxHeartbeats 1000000 in
set_option maxRecDepth 100000 in
theorem bi_byte (B b : Nat) (bs : List Value) (c : Int) (w : World) (h : Lib.IsBuilder 58 5 B b bs w) (hlen : bs.length + 1 ≤ 140737488355328) (hBw : B ≤ w.heap.size) :
    Calls Try.prog 56 #[.pointer (some ⟨b, 0, none⟩), .int .u8 c] w fun e w' => e = .returned .nilIface ∧ Lib.IsBuilder 58 5 B b (bs ++ [.int .u8 c]) w' ∧ Below B w w' ∧ BKept 5 b w w' := by
  obtain ⟨i0, hi, hz0, hz1, hz2⟩ := info_parts bi_info
  have e240 : ∀ args w, (callFunc 46 args).run Try.prog w = .ok (.enter 46 args) w := enters_of Try.func46 (by kernel_rfl) rfl
  go_enter Try.func56, Try.ntmps56
  go_wp2_with (go_at_call 46; refine (bi_check B b bs _ h).mono ?_)
  rintro e w1 ⟨rfl, h1, hb1, hk1⟩
  obtain ⟨hB, v, hbk, hown, hne⟩ := h1
  have c0 : w1.cell? ⟨b, 0, none⟩ = some (.pointer (some ⟨b, 0, none⟩)) := by rw [Lib.cell_of_heap hbk]; rfl
  have c1 : w1.cell? ⟨b, 1, none⟩ = some v := by rw [Lib.cell_of_heap hbk]; rfl
  replace hk1 := Aside0.mk hk1
  go_wp2_with (at_builtin; refine wpList_append_own _ rfl _ _ 56 rfl B 5 i0 (.int .u8 0) 1 1 Try.underlying56 hi hz0 hz1 hz2 rfl (by decide) _ _ _ rfl (hown.alloc _) ⟨w1.heap.size, 0, none⟩ 1 1 [.int .u8 c] rfl rfl ?c1 ?c2 ?c3 ?c4 ?c5 ?_)
  case c1 =>
    intro j u hj
    match j, hj with
    | 0, hj => simp at hj; subst hj; simp [Addr.add]
  case c2 => intro u hu; simp at hu; subst hu; rfl
  case c3 => unfold maxLen; omega
  case c4 => omega
  case c5 => have := hb1.size; simp; omega
  intro v' w2 hown' hgrow _
  have hlt : b < w1.heap.size := (Array.getElem?_eq_some_iff.1 hbk).1
  have hb2 : w2.heap[b]? = some (.cells #[.pointer (some ⟨b, 0, none⟩), v] 58 (0, 0)) := by
    rw [hgrow.block b (by simp; omega) (fun e => hne e.symm), my_alloc_old w1 _ b hlt]
    exact hbk
  have d0 : w2.cell? ⟨b, 0, none⟩ = some (.pointer (some ⟨b, 0, none⟩)) := by rw [Lib.cell_of_heap hb2]; rfl
  have d1 : w2.cell? ⟨b, 1, none⟩ = some v := by rw [Lib.cell_of_heap hb2]; rfl
  have f1 : w2.frozen? ⟨b, 1, none⟩ = false := Lib.frozen_of_heap hb2 1
  have hkk := Aside0.mk ((hk1.out.trans ((BKept.alloc (e := 5) (g := b) w1 _).trans (BKept.grown (g := b) (hown.alloc _) hgrow) (by rw [my_alloc_size]; omega)) hb1.size).setCell 1 v')
  obtain ⟨g, cap, rfl⟩ : ∃ g cap, v' = .slice (some ⟨g, 0, none⟩) (bs.length + 1) cap := by
    rcases hown'.2 with ⟨_, h0⟩ | ⟨g, cap, cur, hv, _⟩
    · omega
    · exact ⟨g, cap, hv⟩
  go_wp2
  go_ret
  refine ⟨rfl, .inr ?_, ?_, hkk.out⟩
  · exact Lib.BuilderAt.put (T := 58) (e := 5) hB hb2 (bs' := bs ++ [.int .u8 c]) (by simpa using hown') (by decide)
  · exact ((hb1.alloc (by have := hb1.size; omega) _).grown hgrow (by have := hb1.size; simp; omega) (fun k hk => (hown.lt k hk).1)).setCell (p := ⟨b, 1, none⟩) hB _
set_option maxHeartbeats 1000000 in
set_option maxRecDepth 100000 in
theorem bi_str (B b : Nat) (bs : List Value) (s : ByteArray) (w : World) (h : Lib.IsBuilder 58 5 B b bs w) (hlen : bs.length + s.size ≤ 140737488355328) (hBw : B ≤ w.heap.size) :
    Calls Try.prog 26 #[.pointer (some ⟨b, 0, none⟩), .string s] w fun e w' => e = .returned (.tuple #[.int .i64 s.size, .nilIface]) ∧ Lib.IsBuilder 58 5 B b (bs ++ Lib.strCells s) w' ∧ Below B w w' ∧ BKept 5 b w w' := by
  obtain ⟨i0, hi, hz0, hz1, hz2⟩ := info_parts bi_info
  have e240 : ∀ args w, (callFunc 46 args).run Try.prog w = .ok (.enter 46 args) w := enters_of Try.func46 (by kernel_rfl) rfl
  go_enter Try.func26, Try.ntmps26
  go_wp2_with (go_at_call 46; refine (bi_check B b bs _ h).mono ?_)
  rintro e w1 ⟨rfl, h1, hb1, hk1⟩
  obtain ⟨hB, v, hbk, hown, hne⟩ := h1
  have c0 : w1.cell? ⟨b, 0, none⟩ = some (.pointer (some ⟨b, 0, none⟩)) := by rw [Lib.cell_of_heap hbk]; rfl
  have c1 : w1.cell? ⟨b, 1, none⟩ = some v := by rw [Lib.cell_of_heap hbk]; rfl
  replace hk1 := Aside0.mk hk1
  go_wp2_with (at_builtin; refine Lib.wpList_append_own_string _ rfl _ _ 56 9 rfl B 5 i0 Try.underlying56 Try.underlying9 hi hz0 hz1 hz2 _ _ _ rfl hown s rfl ?c3 ?c4 ?c5 ?_)
  case c3 => unfold maxLen; omega
  case c4 => omega
  case c5 => have := hb1.size; omega
  intro v' w2 hown' hgrow _
  have hlt : b < w1.heap.size := (Array.getElem?_eq_some_iff.1 hbk).1
  have hb2 : w2.heap[b]? = some (.cells #[.pointer (some ⟨b, 0, none⟩), v] 58 (0, 0)) := by
    rw [hgrow.block b hlt (fun e => hne e.symm)]
    exact hbk
  have d0 : w2.cell? ⟨b, 0, none⟩ = some (.pointer (some ⟨b, 0, none⟩)) := by rw [Lib.cell_of_heap hb2]; rfl
  have d1 : w2.cell? ⟨b, 1, none⟩ = some v := by rw [Lib.cell_of_heap hb2]; rfl
  have f1 : w2.frozen? ⟨b, 1, none⟩ = false := Lib.frozen_of_heap hb2 1
  have hkk := Aside0.mk ((hk1.out.trans (BKept.grown (g := b) hown hgrow) hb1.size).setCell 1 v')
  obtain ⟨ao, n', cap, rfl⟩ : ∃ ao n' cap, v' = .slice ao n' cap := by
    rcases hown'.2 with ⟨hv, _⟩ | ⟨g, cap, cur, hv, _⟩
    · exact ⟨_, _, _, hv⟩
    · exact ⟨_, _, _, hv⟩
  go_wp2
  go_ret2
  refine ⟨rfl, .inr ?_, ?_, hkk.out⟩
  · exact Lib.BuilderAt.put (T := 58) (e := 5) hB hb2 (bs' := bs ++ Lib.strCells s) (by simpa [Lib.strCells_length] using hown') (by decide)
  · exact (hb1.grown hgrow (by have := hb1.size; omega) (fun k hk => (hown.lt k hk).1)).setCell (p := ⟨b, 1, none⟩) hB _
theorem bi_new (B : Nat) (w : World) (h : B ≤ w.heap.size) : Lib.IsBuilder 58 5 B w.heap.size [] (w.alloc (.cells #[.pointer none, .slice none 0 0] 58)) := .inl ⟨h, _, my_alloc_new w _, ⟨rfl, .inl ⟨rfl, rfl⟩⟩, by simp [Value.ownBlock]⟩
theorem bi_below {B b : Nat} {bs : List Value} {w w1 : World} (h : Lib.IsBuilder 58 5 B b bs w) (hb : Below w.heap.size w w1) : Lib.IsBuilder 58 5 B b bs w1 := by
  have one : ∀ p, Lib.BuilderAt 58 5 B b p bs w → Lib.BuilderAt 58 5 B b p bs w1 := by
    rintro p ⟨h1, v, h2, h3, h4⟩
    exact ⟨h1, v, (hb.block b (Array.getElem?_eq_some_iff.1 h2).1).trans h2, pw_own_below h3 hb, h4⟩
  exact h.elim (fun x => .inl (one _ x)) (fun x => .inr (one _ x))

/-! ### words: strfn.inc -/
/-- A hexadecimal digit's byte. -/
def hexU (n : Nat) : UInt8 := if n < 10 then UInt8.ofNat (48 + n) else UInt8.ofNat (87 + n)
theorem byteCells_snoc (l : List UInt8) (c : UInt8) : Lib.byteCells (l ++ [c]) = Lib.byteCells l ++ [.int .u8 (c.toNat : Int)] := by simp [Lib.byteCells]
theorem byteCells_app (l m : List UInt8) : Lib.byteCells (l ++ m) = Lib.byteCells l ++ Lib.byteCells m := by simp [Lib.byteCells]
theorem strCells_app (l : List UInt8) (s : ByteArray) : Lib.byteCells l ++ Lib.strCells s = Lib.byteCells (l ++ s.toList) := by rw [Lib.strCells_eq, byteCells_app, ByteArray.toList_eq]
theorem hexU_at (n : Nat) (h : n < 16) (hn : n < (⟨#[48, 49, 50, 51, 52, 53, 54, 55, 56, 57, 97, 98, 99, 100, 101, 102]⟩ : ByteArray).size) : (⟨#[48, 49, 50, 51, 52, 53, 54, 55, 56, 57, 97, 98, 99, 100, 101, 102]⟩ : ByteArray)[n] = hexU n := by
  rcases n with _|_|_|_|_|_|_|_|_|_|_|_|_|_|_|_|n
  all_goals (first | rfl | (exfalso; omega))
theorem bi_byteU (B b : Nat) (l : List UInt8) (c : UInt8) (w : World) (h : Lib.IsBuilder 58 5 B b (Lib.byteCells l) w) (hlen : l.length + 1 ≤ 140737488355328) (hBw : B ≤ w.heap.size) :
    Calls Try.prog 56 #[.pointer (some ⟨b, 0, none⟩), .int .u8 (c.toNat : Int)] w fun e w' => e = .returned .nilIface ∧ Lib.IsBuilder 58 5 B b (Lib.byteCells (l ++ [c])) w' ∧ Below B w w' ∧ BKept 5 b w w' := by
  rw [byteCells_snoc]
  exact bi_byte B b _ _ w h (by rw [Lib.byteCells_length]; exact hlen) hBw
theorem bi_strU (B b : Nat) (l : List UInt8) (s : ByteArray) (w : World) (h : Lib.IsBuilder 58 5 B b (Lib.byteCells l) w) (hlen : l.length + s.size ≤ 140737488355328) (hBw : B ≤ w.heap.size) :
    Calls Try.prog 26 #[.pointer (some ⟨b, 0, none⟩), .string s] w fun e w' => e = .returned (.tuple #[.int .i64 s.size, .nilIface]) ∧ Lib.IsBuilder 58 5 B b (Lib.byteCells (l ++ s.toList)) w' ∧ Below B w w' ∧ BKept 5 b w w' := by
  rw [← strCells_app]
  exact bi_str B b _ s w h (by rw [Lib.byteCells_length]; exact hlen) hBw

end Go.Proofs.Ytcgmododeiocpaa.PObj
