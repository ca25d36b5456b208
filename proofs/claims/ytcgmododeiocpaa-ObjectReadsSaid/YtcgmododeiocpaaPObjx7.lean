-- written by wip/myprint.py over the kit's print; not a printed text of print.sh
import Derived.Test.YtcgmododeiocpaaPObjx0
namespace Go.Proofs.Ytcgmododeiocpaa.PObj
open Go.RowKit Go.Proofs.YtcgmododeiocpaaW.PrintWords Go.Proofs.YtcgmododeiocpaaW.PrintLast Go.Proofs.YtcgmododeiocpaaW.PrintMore
attribute [local go_sem] max2_int min2_int max_two min_two max_three min_three max_four min_four   -- for this text's walks alone
set_option linter.unusedVariables false
set_option linter.unusedSimpArgs false

/-! ### footbridgeref07_fine: function 38 -/
mutual
def footbridgeref07_fine.l0 : Nat → List (S42) → Int → Option (Bool)
  | 0, _, _ => none
  | k + 1, x0, x3 => if x3 < (x0.length : Int) then (if 0 ≤ x3 then (if (rd_T42 x0 x3).f3 = true then (if ((rd_T42 x0 x3).f1).toList = ([] : List UInt8) then (if ((rd_T42 x0 x3).f3 = true) then (footbridgeref07_fine.j1 k x0 x3 false) else (footbridgeref07_fine.j1 k x0 x3 (decide ((((rd_T42 x0 x3).f2).length : Int) > 0)))) else (footbridgeref07_fine.j1 k x0 x3 true)) else (if ((rd_T42 x0 x3).f3 = true) then (footbridgeref07_fine.j1 k x0 x3 false) else (footbridgeref07_fine.j1 k x0 x3 (decide ((((rd_T42 x0 x3).f2).length : Int) > 0))))) else (none)) else (some true)
def footbridgeref07_fine.j1 : Nat → List (S42) → Int → Bool → Option (Bool)
  | 0, _, _, _ => none
  | k + 1, x0, x3, x40 => if x40 = true then (some false) else (footbridgeref07_fine.l1 k x0 x3 0)
def footbridgeref07_fine.l1 : Nat → List (S42) → Int → Int → Option (Bool)
  | 0, _, _, _ => none
  | k + 1, x0, x3, x4 => if x4 < x3 then (if 0 ≤ x4 then (if x4 < (x0.length : Int) then (if 0 ≤ x3 then (if x3 < (x0.length : Int) then (if ((rd_T42 x0 x4).f0).toList = ((rd_T42 x0 x3).f0).toList then (some false) else (footbridgeref07_fine.l1 k x0 x3 (wrap64 (x4 + 1)))) else (none)) else (none)) else (none)) else (none)) else (footbridgeref07_fine.l0 k x0 (wrap64 (x3 + 1)))
end
def footbridgeref07_fine.f (k : Nat) (l0 : List (S42)) : Option (Bool) := footbridgeref07_fine.l0 k l0 0
theorem footbridgeref07_fine.mono_l : ∀ k, (∀ y0 y1, LeO (footbridgeref07_fine.l0 k y0 y1) (footbridgeref07_fine.l0 (k + 1) y0 y1)) ∧ (∀ y0 y1 y2, LeO (footbridgeref07_fine.j1 k y0 y1 y2) (footbridgeref07_fine.j1 (k + 1) y0 y1 y2)) ∧ (∀ y0 y1 y2, LeO (footbridgeref07_fine.l1 k y0 y1 y2) (footbridgeref07_fine.l1 (k + 1) y0 y1 y2))
  | 0 => ⟨fun _ _ r h => by simp [footbridgeref07_fine.l0] at h, fun _ _ _ r h => by simp [footbridgeref07_fine.j1] at h, fun _ _ _ r h => by simp [footbridgeref07_fine.l1] at h⟩
  | k + 1 => by
    obtain ⟨ih0, ih1, ih2⟩ := footbridgeref07_fine.mono_l k
    refine ⟨?_, ?_, ?_⟩
    · intro y0 y1
      unfold footbridgeref07_fine.l0
      repeat' first
      | (with_reducible exact ih0 _ _)
      | (with_reducible exact ih1 _ _ _)
      | (with_reducible exact ih2 _ _ _)
      | (with_reducible exact LeO.refl _)
      | (with_reducible exact LeO.none _)
      | (with_reducible refine LeO.ite ?_ ?_)
      | (with_reducible refine LeO.bind ?_ (fun _ => ?_))
      | exact ih0 _ _
      | exact ih1 _ _ _
      | exact ih2 _ _ _
      | exact LeO.none _
      | refine LeO.ite ?_ ?_
      | refine LeO.bind ?_ (fun _ => ?_)
    · intro y0 y1 y2
      unfold footbridgeref07_fine.j1
      repeat' first
      | (with_reducible exact ih0 _ _)
      | (with_reducible exact ih1 _ _ _)
      | (with_reducible exact ih2 _ _ _)
      | (with_reducible exact LeO.refl _)
      | (with_reducible exact LeO.none _)
      | (with_reducible refine LeO.ite ?_ ?_)
      | (with_reducible refine LeO.bind ?_ (fun _ => ?_))
      | exact ih0 _ _
      | exact ih1 _ _ _
      | exact ih2 _ _ _
      | exact LeO.none _
      | refine LeO.ite ?_ ?_
      | refine LeO.bind ?_ (fun _ => ?_)
    · intro y0 y1 y2
      unfold footbridgeref07_fine.l1
      repeat' first
      | (with_reducible exact ih0 _ _)
      | (with_reducible exact ih1 _ _ _)
      | (with_reducible exact ih2 _ _ _)
      | (with_reducible exact LeO.refl _)
      | (with_reducible exact LeO.none _)
      | (with_reducible refine LeO.ite ?_ ?_)
      | (with_reducible refine LeO.bind ?_ (fun _ => ?_))
      | exact ih0 _ _
      | exact ih1 _ _ _
      | exact ih2 _ _ _
      | exact LeO.none _
      | refine LeO.ite ?_ ?_
      | refine LeO.bind ?_ (fun _ => ?_)
theorem footbridgeref07_fine.mono : ∀ a0 k, LeO (footbridgeref07_fine.f k a0) (footbridgeref07_fine.f (k + 1) a0) := by
  intro a0 k
  obtain ⟨ih0, ih1, ih2⟩ := footbridgeref07_fine.mono_l k
  unfold footbridgeref07_fine.f
  repeat' first
      | (with_reducible exact ih0 _ _)
      | (with_reducible exact ih1 _ _ _)
      | (with_reducible exact ih2 _ _ _)
      | (with_reducible exact LeO.refl _)
      | (with_reducible exact LeO.none _)
      | (with_reducible refine LeO.ite ?_ ?_)
      | (with_reducible refine LeO.bind ?_ (fun _ => ?_))
      | exact ih0 _ _
      | exact ih1 _ _ _
      | exact ih2 _ _ _
      | exact LeO.none _
      | refine LeO.ite ?_ ?_
      | refine LeO.bind ?_ (fun _ => ?_)
set_option maxHeartbeats 8000000 in
set_option maxRecDepth 100000 in
theorem footbridgeref07_fine.calls (k : Nat) (A0 : Option Addr) (c0 : Nat) (l0 : List (S42)) (r : Bool) (w : World) (hr0 : Kd.C k42 w A0 l0.length l0) (hc0 : l0.length ≤ c0) (h : footbridgeref07_fine.f k l0 = some r) :
    Calls Try.prog 38 #[.slice A0 l0.length c0] w fun e w' => e = .returned (.bool r) ∧ Drawn0 w w' := by
  have HR0 := Aside0.mk hr0
  have HC0 := Aside0.mk hc0
  clear hr0 hc0
  have H : (footbridgeref07_fine.l0 k l0 0) = some r := h
  clear h
  have H' := Aside0.mk H
  clear H
  go_enter Try.func38, Try.ntmps38
  go_wp2
  repeat (go_quiet (fail); try go_wp2)
  go_loopg [3] k (fun kq v3 w' => ∃ (x3_1 : Int), v3 = .int .i64 x3_1 ∧ Aside0 (footbridgeref07_fine.l0 kq l0 x3_1 = some r) ∧ Aside0 (kq ≤ k) ∧ Drawn0 w w')
  case atStart => exact ⟨(0), (by first | rfl | (simp; done) | (simp [*]; done)), H', ⟨Nat.le_refl _⟩, by repeat (first | exact Drawn0.refl _ | apply Drawn0.step)⟩
  case round =>
    clear H'
    obtain ⟨x3_1, rfl, HA, HK1, ⟨m1, rfl⟩⟩ := hrel
    cases gk with
    | zero => exact absurd HA.out (by simp [footbridgeref07_fine.l0])
    | succ k1 =>
      have H := HA.out
      clear HA
      simp only [footbridgeref07_fine.l0] at H
      by_cases c2 : x3_1 < (l0.length : Int)
      · rw [if_pos c2] at H
        have c2b0 : decide (x3_1 < (l0.length : Int)) = true := decide_eq_true c2
        clear c2
        have HC3 := Aside0.mk H
        clear H
        go_upto_region 4 with (fail)
        repeat (go_quiet (fail); go_upto_region 4 with (fail))
        go_cut [40] (fun v40 wc => ∃ (kq : Nat) (x40_2 : Bool), v40 = .bool x40_2 ∧ Aside0 (footbridgeref07_fine.j1 kq l0 x3_1 x40_2 = some r) ∧ Aside0 (kq ≤ k1) ∧ Drawn0 w wc)
        case first =>
          have H := HC3.out
          clear HC3
          by_cases c4 : 0 ≤ x3_1
          · rw [if_pos c4] at H
            have c4b0 : decide (0 ≤ x3_1) = true := decide_eq_true c4
            clear c4
            (first | rw [c4b0] | (simp only [i64_w, i32_w]; rw [c4b0]) | skip)
            obtain ⟨bq5, hbq5⟩ : ∃ b_ : Bool, b_ = ((rd_T42 l0 x3_1).f3) := ⟨_, rfl⟩
            replace H : (if bq5 = true then (if ((rd_T42 l0 x3_1).f1).toList = ([] : List UInt8) then (if (bq5 = true) then (footbridgeref07_fine.j1 k1 l0 x3_1 false) else (footbridgeref07_fine.j1 k1 l0 x3_1 (decide ((((rd_T42 l0 x3_1).f2).length : Int) > 0)))) else (footbridgeref07_fine.j1 k1 l0 x3_1 true)) else (if (bq5 = true) then (footbridgeref07_fine.j1 k1 l0 x3_1 false) else (footbridgeref07_fine.j1 k1 l0 x3_1 (decide ((((rd_T42 l0 x3_1).f2).length : Int) > 0))))) = some r := by rw [← hbq5] at H; exact H
            have Nbq5 := Aside0.mk hbq5
            clear hbq5
            by_cases c6 : bq5 = true
            · subst c6
              have H1 : (if ((rd_T42 l0 x3_1).f1).toList = ([] : List UInt8) then (if (true = true) then (footbridgeref07_fine.j1 k1 l0 x3_1 false) else (footbridgeref07_fine.j1 k1 l0 x3_1 (decide ((((rd_T42 l0 x3_1).f2).length : Int) > 0)))) else (footbridgeref07_fine.j1 k1 l0 x3_1 true)) = some r := by rw [if_pos rfl] at H; exact H
              clear H
              have H := H1
              clear H1
              by_cases c7 : ((rd_T42 l0 x3_1).f1).toList = ([] : List UInt8)
              · rw [if_pos c7] at H
                have c7b0 : (((rd_T42 l0 x3_1).f1).toList == ([] : List UInt8)) = true := beq_iff_eq.mpr c7
                have c7b1 : (((rd_T42 l0 x3_1).f1).toList != ([] : List UInt8)) = false := bne_eq_false_iff_eq.mpr c7
                clear c7
                by_cases c8 : (true = true)
                · have H1 : (footbridgeref07_fine.j1 k1 l0 x3_1 false) = some r := by rw [if_pos rfl] at H; exact H
                  clear H
                  have H := H1
                  clear H1
                  have H' := Aside0.mk H
                  clear H
                  have p188 : 0 ≤ (x3_1 : Int) := of_decide_eq_true (by first | (with_reducible assumption) | assumption)
                  have q188 : x3_1 < (l0.length : Int) := of_decide_eq_true (by first | (with_reducible assumption) | assumption)
                  obtain ⟨ad188, A188_2, c188_2, e188, hx188_0, hx188_1, hx188_2, hx188_3, hl188_2, hi188_2⟩ := at_T42 HR0.out x3_1 p188 q188
                  (try rw [← Nbq5.out] at hx188_3)
                  cases e188
                  have HR188_2 := Aside0.mk hi188_2
                  have HC188_2 := Aside0.mk hl188_2
                  clear hi188_2 hl188_2
                  replace p188 := eq_true p188
                  replace q188 := eq_true q188
                  have p189 : 0 ≤ (x3_1 : Int) := of_decide_eq_true (by first | (with_reducible assumption) | assumption)
                  have q189 : x3_1 < (l0.length : Int) := of_decide_eq_true (by first | (with_reducible assumption) | assumption)
                  obtain ⟨ad189, A189_2, c189_2, e189, hx189_0, hx189_1, hx189_2, hx189_3, hl189_2, hi189_2⟩ := at_T42 HR0.out x3_1 p189 q189
                  (try rw [← Nbq5.out] at hx189_3)
                  obtain rfl : ad188 = ad189 := (by injection e189)
                  have HR189_2 := Aside0.mk hi189_2
                  have HC189_2 := Aside0.mk hl189_2
                  clear hi189_2 hl189_2
                  replace p189 := eq_true p189
                  replace q189 := eq_true q189
                  have ea_ := Option.some.inj (hx188_2.symm.trans hx189_2)
                  injection ea_ with ea_ en_ ec_
                  subst ea_
                  subst ec_
                  clear en_
                  have p190 : 0 ≤ (x3_1 : Int) := of_decide_eq_true (by first | (with_reducible assumption) | assumption)
                  have q190 : x3_1 < (l0.length : Int) := of_decide_eq_true (by first | (with_reducible assumption) | assumption)
                  obtain ⟨ad190, A190_2, c190_2, e190, hx190_0, hx190_1, hx190_2, hx190_3, hl190_2, hi190_2⟩ := at_T42 HR0.out x3_1 p190 q190
                  (try rw [← Nbq5.out] at hx190_3)
                  obtain rfl : ad188 = ad190 := (by injection e190)
                  have HR190_2 := Aside0.mk hi190_2
                  have HC190_2 := Aside0.mk hl190_2
                  clear hi190_2 hl190_2
                  replace p190 := eq_true p190
                  replace q190 := eq_true q190
                  have ea_ := Option.some.inj (hx188_2.symm.trans hx190_2)
                  injection ea_ with ea_ en_ ec_
                  subst ea_
                  subst ec_
                  clear en_
                  go_wp2
                  repeat (go_quiet (fail); try go_wp2)
                  go_meet
                  case rel => exact ⟨_, (false), (by first | rfl | (simp; done) | (simp [*]; done)), H', ⟨by have := HK1.out; first | omega | exact Nat.le_refl _⟩, by repeat (first | exact Drawn0.refl _ | apply Drawn0.step)⟩
                · exact absurd rfl c8
              · rw [if_neg c7] at H
                have c7b0 : (((rd_T42 l0 x3_1).f1).toList == ([] : List UInt8)) = false := beq_eq_false_iff_ne.mpr c7
                have c7b1 : (((rd_T42 l0 x3_1).f1).toList != ([] : List UInt8)) = true := bne_iff_ne.mpr c7
                have H' := Aside0.mk H
                clear H
                have p188 : 0 ≤ (x3_1 : Int) := of_decide_eq_true (by first | (with_reducible assumption) | assumption)
                have q188 : x3_1 < (l0.length : Int) := of_decide_eq_true (by first | (with_reducible assumption) | assumption)
                obtain ⟨ad188, A188_2, c188_2, e188, hx188_0, hx188_1, hx188_2, hx188_3, hl188_2, hi188_2⟩ := at_T42 HR0.out x3_1 p188 q188
                (try rw [← Nbq5.out] at hx188_3)
                cases e188
                have HR188_2 := Aside0.mk hi188_2
                have HC188_2 := Aside0.mk hl188_2
                clear hi188_2 hl188_2
                replace p188 := eq_true p188
                replace q188 := eq_true q188
                have p189 : 0 ≤ (x3_1 : Int) := of_decide_eq_true (by first | (with_reducible assumption) | assumption)
                have q189 : x3_1 < (l0.length : Int) := of_decide_eq_true (by first | (with_reducible assumption) | assumption)
                obtain ⟨ad189, A189_2, c189_2, e189, hx189_0, hx189_1, hx189_2, hx189_3, hl189_2, hi189_2⟩ := at_T42 HR0.out x3_1 p189 q189
                (try rw [← Nbq5.out] at hx189_3)
                obtain rfl : ad188 = ad189 := (by injection e189)
                have HR189_2 := Aside0.mk hi189_2
                have HC189_2 := Aside0.mk hl189_2
                clear hi189_2 hl189_2
                replace p189 := eq_true p189
                replace q189 := eq_true q189
                have ea_ := Option.some.inj (hx188_2.symm.trans hx189_2)
                injection ea_ with ea_ en_ ec_
                subst ea_
                subst ec_
                clear en_
                go_wp2
                repeat (go_quiet (fail); try go_wp2)
                go_meet
                case rel => exact ⟨_, (true), (by first | rfl | (simp; done) | (simp [*]; done)), H', ⟨by have := HK1.out; first | omega | exact Nat.le_refl _⟩, by repeat (first | exact Drawn0.refl _ | apply Drawn0.step)⟩
            · replace c6 := Bool.eq_false_iff.mpr c6
              subst c6
              have H1 : (if (false = true) then (footbridgeref07_fine.j1 k1 l0 x3_1 false) else (footbridgeref07_fine.j1 k1 l0 x3_1 (decide ((((rd_T42 l0 x3_1).f2).length : Int) > 0)))) = some r := by rw [if_neg (show ¬ (false = true) by decide)] at H; exact H
              clear H
              have H := H1
              clear H1
              by_cases c9 : (false = true)
              · exact absurd c9 (by decide)
              · have H1 : (footbridgeref07_fine.j1 k1 l0 x3_1 (decide ((((rd_T42 l0 x3_1).f2).length : Int) > 0))) = some r := by rw [if_neg (show ¬ (false = true) by decide)] at H; exact H
                clear H
                have H := H1
                clear H1
                have H' := Aside0.mk H
                clear H
                have p188 : 0 ≤ (x3_1 : Int) := of_decide_eq_true (by first | (with_reducible assumption) | assumption)
                have q188 : x3_1 < (l0.length : Int) := of_decide_eq_true (by first | (with_reducible assumption) | assumption)
                obtain ⟨ad188, A188_2, c188_2, e188, hx188_0, hx188_1, hx188_2, hx188_3, hl188_2, hi188_2⟩ := at_T42 HR0.out x3_1 p188 q188
                (try rw [← Nbq5.out] at hx188_3)
                cases e188
                have HR188_2 := Aside0.mk hi188_2
                have HC188_2 := Aside0.mk hl188_2
                clear hi188_2 hl188_2
                replace p188 := eq_true p188
                replace q188 := eq_true q188
                have p192 : 0 ≤ (x3_1 : Int) := of_decide_eq_true (by first | (with_reducible assumption) | assumption)
                have q192 : x3_1 < (l0.length : Int) := of_decide_eq_true (by first | (with_reducible assumption) | assumption)
                obtain ⟨ad192, A192_2, c192_2, e192, hx192_0, hx192_1, hx192_2, hx192_3, hl192_2, hi192_2⟩ := at_T42 HR0.out x3_1 p192 q192
                (try rw [← Nbq5.out] at hx192_3)
                obtain rfl : ad188 = ad192 := (by injection e192)
                have HR192_2 := Aside0.mk hi192_2
                have HC192_2 := Aside0.mk hl192_2
                clear hi192_2 hl192_2
                replace p192 := eq_true p192
                replace q192 := eq_true q192
                have ea_ := Option.some.inj (hx188_2.symm.trans hx192_2)
                injection ea_ with ea_ en_ ec_
                subst ea_
                subst ec_
                clear en_
                have p193 : 0 ≤ (x3_1 : Int) := of_decide_eq_true (by first | (with_reducible assumption) | assumption)
                have q193 : x3_1 < (l0.length : Int) := of_decide_eq_true (by first | (with_reducible assumption) | assumption)
                obtain ⟨ad193, A193_2, c193_2, e193, hx193_0, hx193_1, hx193_2, hx193_3, hl193_2, hi193_2⟩ := at_T42 HR0.out x3_1 p193 q193
                (try rw [← Nbq5.out] at hx193_3)
                obtain rfl : ad188 = ad193 := (by injection e193)
                have HR193_2 := Aside0.mk hi193_2
                have HC193_2 := Aside0.mk hl193_2
                clear hi193_2 hl193_2
                replace p193 := eq_true p193
                replace q193 := eq_true q193
                have ea_ := Option.some.inj (hx188_2.symm.trans hx193_2)
                injection ea_ with ea_ en_ ec_
                subst ea_
                subst ec_
                clear en_
                go_wp2
                repeat (go_quiet (fail); try go_wp2)
                go_meet
                case rel => exact ⟨_, (decide ((((rd_T42 l0 x3_1).f2).length : Int) > 0)), (by first | rfl | (simp; done) | (simp [*]; done)), H', ⟨by have := HK1.out; first | omega | exact Nat.le_refl _⟩, by repeat (first | exact Drawn0.refl _ | apply Drawn0.step)⟩
          · rw [if_neg c4] at H
            exact absurd H (by simp)
        case rest =>
          clear HC3
          try clear c1
          try clear p1
          try clear q1
          try clear hx1
          try clear c2
          try clear c2b0
          try clear p2
          try clear c3
          try clear c4
          try clear c4b0
          try clear q5
          try clear c6
          try clear c7
          try clear c7b0
          try clear c7b1
          try clear c8
          try clear c9
          try clear hx188_0
          try clear hx188_1
          try clear hx188_2
          try clear hx188_3
          try clear hx189_0
          try clear hx189_1
          try clear hx189_2
          try clear hx189_3
          try clear hx190_0
          try clear hx190_1
          try clear hx190_2
          try clear hx190_3
          try clear hx191_0
          try clear hx191_1
          try clear hx191_2
          try clear hx191_3
          try clear hx192_0
          try clear hx192_1
          try clear hx192_2
          try clear hx192_3
          try clear hx193_0
          try clear hx193_1
          try clear hx193_2
          try clear hx193_3
          try clear p188
          try clear p189
          try clear p190
          try clear p191
          try clear p192
          try clear p193
          try clear q188
          try clear q189
          try clear q190
          try clear q191
          try clear q192
          try clear q193
          obtain ⟨kq, x40_2, rfl, HA, HJ2, ⟨mc2, rfl⟩⟩ := hcut
          cases kq with
          | zero => exact absurd HA.out (by simp [footbridgeref07_fine.j1])
          | succ kj2 =>
            have H := HA.out
            clear HA
            simp only [footbridgeref07_fine.j1] at H
            by_cases c10 : x40_2 = true
            · subst c10
              have H1 : (some false) = some r := by rw [if_pos rfl] at H; exact H
              clear H
              have H := H1
              clear H1
              obtain rfl := Option.some.inj H
              go_wp2
              repeat (go_quiet (fail); try go_wp2)
              go_ret
              exact ⟨by first | rfl | (simp; done) | (simp [*]; done), by repeat (first | exact Drawn0.refl _ | apply Drawn0.step)⟩
            · replace c10 := Bool.eq_false_iff.mpr c10
              subst c10
              have H1 : (footbridgeref07_fine.l1 kj2 l0 x3_1 0) = some r := by rw [if_neg (show ¬ (false = true) by decide)] at H; exact H
              clear H
              have H := H1
              clear H1
              have H' := Aside0.mk H
              clear H
              go_wp2
              repeat (go_quiet (fail); try go_wp2)
              go_loopg [4] kj2 (fun kq v4 w' => ∃ (x4_3 : Int), v4 = .int .i64 x4_3 ∧ Aside0 (footbridgeref07_fine.l1 kq l0 x3_1 x4_3 = some r) ∧ Aside0 (kq ≤ kj2) ∧ Drawn0 w w')
              case atStart => exact ⟨(0), (by first | rfl | (simp; done) | (simp [*]; done)), H', ⟨Nat.le_refl _⟩, by repeat (first | exact Drawn0.refl _ | apply Drawn0.step)⟩
              case round =>
                clear H'
                try clear c1
                try clear p1
                try clear q1
                try clear hx1
                try clear c2
                try clear c2b0
                try clear p2
                try clear c3
                try clear c4
                try clear c4b0
                try clear q5
                try clear c6
                try clear c7
                try clear c7b0
                try clear c7b1
                try clear c8
                try clear c9
                try clear c10
                try clear hx188_0
                try clear hx188_1
                try clear hx188_2
                try clear hx188_3
                try clear hx189_0
                try clear hx189_1
                try clear hx189_2
                try clear hx189_3
                try clear hx190_0
                try clear hx190_1
                try clear hx190_2
                try clear hx190_3
                try clear hx191_0
                try clear hx191_1
                try clear hx191_2
                try clear hx191_3
                try clear hx192_0
                try clear hx192_1
                try clear hx192_2
                try clear hx192_3
                try clear hx193_0
                try clear hx193_1
                try clear hx193_2
                try clear hx193_3
                try clear p1
                try clear p188
                try clear p189
                try clear p190
                try clear p191
                try clear p192
                try clear p193
                try clear p2
                try clear q1
                try clear q188
                try clear q189
                try clear q190
                try clear q191
                try clear q192
                try clear q193
                try clear q5
                obtain ⟨x4_3, rfl, HA, HK3, ⟨m3, rfl⟩⟩ := hrel
                cases gk with
                | zero => exact absurd HA.out (by simp [footbridgeref07_fine.l1])
                | succ k3 =>
                  have H := HA.out
                  clear HA
                  simp only [footbridgeref07_fine.l1] at H
                  by_cases c11 : x4_3 < x3_1
                  · rw [if_pos c11] at H
                    have c11b0 : decide (x4_3 < x3_1) = true := decide_eq_true c11
                    clear c11
                    by_cases c12 : 0 ≤ x4_3
                    · rw [if_pos c12] at H
                      have c12b0 : decide (0 ≤ x4_3) = true := decide_eq_true c12
                      clear c12
                      by_cases c13 : x4_3 < (l0.length : Int)
                      · rw [if_pos c13] at H
                        have c13b0 : decide (x4_3 < (l0.length : Int)) = true := decide_eq_true c13
                        try (simp only [hl193_2] at c13b0)
                        clear c13
                        by_cases c14 : 0 ≤ x3_1
                        · rw [if_pos c14] at H
                          have c14b0 : decide (0 ≤ x3_1) = true := decide_eq_true c14
                          clear c14
                          by_cases c15 : x3_1 < (l0.length : Int)
                          · rw [if_pos c15] at H
                            have c15b0 : decide (x3_1 < (l0.length : Int)) = true := decide_eq_true c15
                            try (simp only [hl193_2] at c15b0)
                            clear c15
                            by_cases c16 : ((rd_T42 l0 x4_3).f0).toList = ((rd_T42 l0 x3_1).f0).toList
                            · rw [if_pos c16] at H
                              have c16b0 : (((rd_T42 l0 x4_3).f0).toList == ((rd_T42 l0 x3_1).f0).toList) = true := beq_iff_eq.mpr c16
                              have c16b1 : (((rd_T42 l0 x4_3).f0).toList != ((rd_T42 l0 x3_1).f0).toList) = false := bne_eq_false_iff_eq.mpr c16
                              clear c16
                              obtain rfl := Option.some.inj H
                              have p194 : 0 ≤ (x4_3 : Int) := of_decide_eq_true (by first | (with_reducible assumption) | assumption)
                              have q194 : x4_3 < (l0.length : Int) := of_decide_eq_true (by first | (with_reducible assumption) | assumption)
                              obtain ⟨ad194, A194_2, c194_2, e194, hx194_0, hx194_1, hx194_2, hx194_3, hl194_2, hi194_2⟩ := at_T42 HR0.out x4_3 p194 q194
                              cases e194
                              have HR194_2 := Aside0.mk hi194_2
                              have HC194_2 := Aside0.mk hl194_2
                              clear hi194_2 hl194_2
                              replace p194 := eq_true p194
                              replace q194 := eq_true q194
                              have p195 : 0 ≤ (x3_1 : Int) := of_decide_eq_true (by first | (with_reducible assumption) | assumption)
                              have q195 : x3_1 < (l0.length : Int) := of_decide_eq_true (by first | (with_reducible assumption) | assumption)
                              obtain ⟨ad195, A195_2, c195_2, e195, hx195_0, hx195_1, hx195_2, hx195_3, hl195_2, hi195_2⟩ := at_T42 HR0.out x3_1 p195 q195
                              obtain rfl : ad194 = ad195 := (by injection e195)
                              have HR195_2 := Aside0.mk hi195_2
                              have HC195_2 := Aside0.mk hl195_2
                              clear hi195_2 hl195_2
                              replace p195 := eq_true p195
                              replace q195 := eq_true q195
                              go_wp2
                              repeat (go_quiet (fail); try go_wp2)
                              go_ret
                              exact ⟨by first | rfl | (simp; done) | (simp [*]; done), by repeat (first | exact Drawn0.refl _ | apply Drawn0.step)⟩
                            · rw [if_neg c16] at H
                              have c16b0 : (((rd_T42 l0 x4_3).f0).toList == ((rd_T42 l0 x3_1).f0).toList) = false := beq_eq_false_iff_ne.mpr c16
                              have c16b1 : (((rd_T42 l0 x4_3).f0).toList != ((rd_T42 l0 x3_1).f0).toList) = true := bne_iff_ne.mpr c16
                              have H' := Aside0.mk H
                              clear H
                              have p194 : 0 ≤ (x4_3 : Int) := of_decide_eq_true (by first | (with_reducible assumption) | assumption)
                              have q194 : x4_3 < (l0.length : Int) := of_decide_eq_true (by first | (with_reducible assumption) | assumption)
                              obtain ⟨ad194, A194_2, c194_2, e194, hx194_0, hx194_1, hx194_2, hx194_3, hl194_2, hi194_2⟩ := at_T42 HR0.out x4_3 p194 q194
                              cases e194
                              have HR194_2 := Aside0.mk hi194_2
                              have HC194_2 := Aside0.mk hl194_2
                              clear hi194_2 hl194_2
                              replace p194 := eq_true p194
                              replace q194 := eq_true q194
                              have p195 : 0 ≤ (x3_1 : Int) := of_decide_eq_true (by first | (with_reducible assumption) | assumption)
                              have q195 : x3_1 < (l0.length : Int) := of_decide_eq_true (by first | (with_reducible assumption) | assumption)
                              obtain ⟨ad195, A195_2, c195_2, e195, hx195_0, hx195_1, hx195_2, hx195_3, hl195_2, hi195_2⟩ := at_T42 HR0.out x3_1 p195 q195
                              obtain rfl : ad194 = ad195 := (by injection e195)
                              have HR195_2 := Aside0.mk hi195_2
                              have HC195_2 := Aside0.mk hl195_2
                              clear hi195_2 hl195_2
                              replace p195 := eq_true p195
                              replace q195 := eq_true q195
                              go_wp2
                              repeat (go_quiet (fail); try go_wp2)
                              go_roundg k3
                              case measure => have := HK1.out; have := HJ2.out; have := HK3.out; omega
                              case rel => exact ⟨(wrap64 (x4_3 + 1)), (by first | rfl | (simp; done) | (simp [*]; done)), H', ⟨by have := HK1.out; have := HJ2.out; have := HK3.out; omega⟩, by repeat (first | exact Drawn0.refl _ | apply Drawn0.step)⟩
                          · rw [if_neg c15] at H
                            exact absurd H (by simp)
                        · rw [if_neg c14] at H
                          exact absurd H (by simp)
                      · rw [if_neg c13] at H
                        exact absurd H (by simp)
                    · rw [if_neg c12] at H
                      exact absurd H (by simp)
                  · rw [if_neg c11] at H
                    have c11b0 : decide (x4_3 < x3_1) = false := decide_eq_false c11
                    clear c11
                    have H' := Aside0.mk H
                    clear H
                    go_wp2
                    repeat (go_quiet (fail); try go_wp2)
                    go_roundg k3
                    case measure => have := HK1.out; have := HJ2.out; have := HK3.out; omega
                    case rel => exact ⟨(wrap64 (x3_1 + 1)), (by first | rfl | (simp; done) | (simp [*]; done)), H', ⟨by have := HK1.out; have := HJ2.out; have := HK3.out; omega⟩, by repeat (first | exact Drawn0.refl _ | apply Drawn0.step)⟩
      · rw [if_neg c2] at H
        have c2b0 : decide (x3_1 < (l0.length : Int)) = false := decide_eq_false c2
        try (simp only [hl195_2] at c2b0)
        clear c2
        obtain rfl := Option.some.inj H
        go_wp2
        repeat (go_quiet (fail); try go_wp2)
        go_ret
        exact ⟨by first | rfl | (simp; done) | (simp [*]; done), by repeat (first | exact Drawn0.refl _ | apply Drawn0.step)⟩

/-! ### footbridgeref02_digit: function 68 -/
def footbridgeref02_digit.f (a0 : Int) : Option (Int) := if a0 < 10 then (some ((48 + a0) % 256)) else (some ((((97 + a0) % 256) - 10) % 256))
set_option maxHeartbeats 8000000 in
set_option maxRecDepth 100000 in
theorem footbridgeref02_digit.calls (a0 : Int) (r : Int) (w : World) (h : footbridgeref02_digit.f a0 = some r) :
    Calls Try.prog 68 #[.int .u8 a0] w fun e w' => e = .returned (.int .u8 r) ∧ Drawn0 w w' := by
  have H : (if a0 < 10 then (some ((48 + a0) % 256)) else (some ((((97 + a0) % 256) - 10) % 256))) = some r := h
  clear h
  by_cases c2 : a0 < 10
  · rw [if_pos c2] at H
    have c2b0 : decide (a0 < 10) = true := decide_eq_true c2
    clear c2
    obtain rfl := Option.some.inj H
    go_enter Try.func68, Try.ntmps68
    go_wp2
    go_ret
    exact ⟨by first | rfl | (simp; done) | (simp [*]; done), by repeat (first | exact Drawn0.refl _ | apply Drawn0.step)⟩
  · rw [if_neg c2] at H
    have c2b0 : decide (a0 < 10) = false := decide_eq_false c2
    clear c2
    obtain rfl := Option.some.inj H
    go_enter Try.func68, Try.ntmps68
    go_wp2
    go_ret
    exact ⟨by first | rfl | (simp; done) | (simp [*]; done), by repeat (first | exact Drawn0.refl _ | apply Drawn0.step)⟩

/-! ### footbridgeref02_Put: function 50 -/
def footbridgeref02_Put.l0 : Nat → ByteArray → List Int → Int → Option (ByteArray)
  | 0, _, _, _ => none
  | k + 1, x0, x3, x4 => if x4 < (x0.size : Int) then (if 0 ≤ x4 then ((footbridgeref02_digit.f ((Int.tdiv (bt x0 x4) 16) % 256)).bind fun t196 => ((footbridgeref02_digit.f (Int.tmod (bt x0 x4) 16)).bind fun t197 => ((some (([t196, t197] : List Int) : List Int)).bind fun y198 => (if x3.length + y198.length < 140737488355328 then (footbridgeref02_Put.l0 k x0 (x3 ++ y198) (wrap64 (x4 + 1))) else (none))))) else (none)) else (some (strOfNums x3))
def footbridgeref02_Put.f (k : Nat) (a0 : ByteArray) : Option (ByteArray) := footbridgeref02_Put.l0 k a0 ([] : List Int) 0
theorem footbridgeref02_Put.mono_l : ∀ k, (∀ y0 y1 y2, LeO (footbridgeref02_Put.l0 k y0 y1 y2) (footbridgeref02_Put.l0 (k + 1) y0 y1 y2))
  | 0 => fun _ _ _ r h => by simp [footbridgeref02_Put.l0] at h
  | k + 1 => by
    have ih0 := footbridgeref02_Put.mono_l k
    · intro y0 y1 y2
      unfold footbridgeref02_Put.l0
      repeat' first
      | (with_reducible exact ih0 _ _ _)
      | (with_reducible exact LeO.refl _)
      | (with_reducible exact LeO.none _)
      | (with_reducible refine LeO.ite ?_ ?_)
      | (with_reducible refine LeO.bind ?_ (fun _ => ?_))
      | exact ih0 _ _ _
      | exact LeO.none _
      | refine LeO.ite ?_ ?_
      | refine LeO.bind ?_ (fun _ => ?_)
theorem footbridgeref02_Put.mono : ∀ a0 k, LeO (footbridgeref02_Put.f k a0) (footbridgeref02_Put.f (k + 1) a0) := by
  intro a0 k
  have ih0 := footbridgeref02_Put.mono_l k
  unfold footbridgeref02_Put.f
  repeat' first
      | (with_reducible exact ih0 _ _ _)
      | (with_reducible exact LeO.refl _)
      | (with_reducible exact LeO.none _)
      | (with_reducible refine LeO.ite ?_ ?_)
      | (with_reducible refine LeO.bind ?_ (fun _ => ?_))
      | exact ih0 _ _ _
      | exact LeO.none _
      | refine LeO.ite ?_ ?_
      | refine LeO.bind ?_ (fun _ => ?_)
def footbridgeref02_Put.T5 : Bool × List (List Nat × List Nat) := (true, [([], []), ([], []), ([], []), ([1, 2], [1, 2]), ([3], [3]), ([4], [4]), ([], []), ([], []), ([6, 7], [6, 7]), ([8], [8]), ([9, 5], [9]), ([5, 10], [5, 10]), ([0, 11, 10], [0, 11]), ([12, 12, 0, 1, 2, 3, 4, 5, 6, 7, 8, 9, 10, 11, 12], [0, 12])])
def footbridgeref02_Put.B5 : List Nat := [0, 0, 0, 6, 14, 30, 0, 0, 192, 448, 1022, 2046, 4095, 8191]
theorem footbridgeref02_Put.tab5 : rtab .any (opsOf Try.f50 5) = footbridgeref02_Put.T5 := by kernel_rfl
theorem footbridgeref02_Put.bits5 : waitsOk footbridgeref02_Put.T5.2 footbridgeref02_Put.B5 = true := by kernel_rfl
set_option maxHeartbeats 8000000 in
set_option maxRecDepth 100000 in
theorem footbridgeref02_Put.calls (k : Nat) (a0 : ByteArray) (r : ByteArray) (w : World) (h : footbridgeref02_Put.f k a0 = some r) :
    Calls Try.prog 50 #[.string a0] w fun e w' => e = .returned (.string r) ∧ Below w.heap.size w w' := by
  have HB := Aside0.mk (Below.refl w.heap.size w)
  have H : (footbridgeref02_Put.l0 k a0 ([] : List Int) 0) = some r := h
  clear h
  have H' := Aside0.mk H
  clear H
  go_enter Try.func50, Try.ntmps50
  go_wp2
  go_loopg [3, 4] k (fun kq v3 v4 w' => ∃ (x3_1 : List Int) (x4_1 : Int), v4 = .int .i64 x4_1 ∧ Aside0 (footbridgeref02_Put.l0 kq a0 x3_1 x4_1 = some r) ∧ Aside0 (kq ≤ k) ∧ Aside0 (Kd.R (Kd.int .u8) 5 w' w.heap.size (fun _ => True) v3 x3_1) ∧ Aside0 (Below w.heap.size w w'))
  case atStart => exact ⟨(([] : List Int)), (0), (by first | rfl | (simp; done) | (simp [*]; done)), H', ⟨Nat.le_refl _⟩, ⟨by first | exact Kd.R_nil _ _ _ _ _ | exact Kd.N_nil _ _ _ _ _ | exact Kd.V_nil _ _ _ _ _ | exact Kd.Q_nil _ _ _ _ _ | exact Kd.S_nil _ _ _ _ _⟩, ⟨by repeat (first | (with_reducible first | exact HB.out | apply below_alloc | apply pw_below_drewN | apply below_drew1) | exact HB.out)⟩⟩
  case round =>
    clear H'
    obtain ⟨x3_1, x4_1, rfl, HA, HK1, HO_3, HB⟩ := hrel
    cases gk with
    | zero => exact absurd HA.out (by simp [footbridgeref02_Put.l0])
    | succ k1 =>
      have H := HA.out
      clear HA
      simp only [footbridgeref02_Put.l0] at H
      by_cases c2 : x4_1 < (a0.size : Int)
      · rw [if_pos c2] at H
        have c2b0 : decide (x4_1 < (a0.size : Int)) = true := decide_eq_true c2
        clear c2
        by_cases c3 : 0 ≤ x4_1
        · rw [if_pos c3] at H
          have c3b0 : decide (0 ≤ x4_1) = true := decide_eq_true c3
          clear c3
          replace H := Option.bind_eq_some_iff.mp H
          obtain ⟨t196, A50, H⟩ := H
          replace H : ((footbridgeref02_digit.f (Int.tmod (bt a0 x4_1) 16)).bind fun t197 => ((some (([t196, t197] : List Int) : List Int)).bind fun y198 => (if x3_1.length + y198.length < 140737488355328 then (footbridgeref02_Put.l0 k1 a0 (x3_1 ++ y198) (wrap64 (x4_1 + 1))) else (none)))) = some r := H
          have A5 := Aside0.mk A50
          clear A50
          replace H := Option.bind_eq_some_iff.mp H
          obtain ⟨t197, A70, H⟩ := H
          replace H : ((some (([t196, t197] : List Int) : List Int)).bind fun y198 => (if x3_1.length + y198.length < 140737488355328 then (footbridgeref02_Put.l0 k1 a0 (x3_1 ++ y198) (wrap64 (x4_1 + 1))) else (none))) = some r := H
          have A7 := Aside0.mk A70
          clear A70
          obtain ⟨y198, hy198⟩ : ∃ y_ : List Int, y_ = (([t196, t197] : List Int)) := ⟨_, rfl⟩
          replace H : (if x3_1.length + y198.length < 140737488355328 then (footbridgeref02_Put.l0 k1 a0 (x3_1 ++ y198) (wrap64 (x4_1 + 1))) else (none)) = some r := by first | (rw [hy198]; with_reducible exact H) | (have H2_ := (Option.bind_some _ _).symm.trans H; rw [hy198]; with_reducible exact H2_) | (have H2_ := (Option.bind_some _ _).symm.trans H; with_reducible exact H2_) | with_reducible exact H | (rw [hy198]; exact H) | exact H
          have Ny198 := Aside0.mk hy198
          clear hy198
          by_cases c8 : x3_1.length + y198.length < 140737488355328
          · rw [if_pos c8] at H
            have LMc8 := Aside0.mk c8
            clear c8
            obtain ⟨y201, hy201⟩ : ∃ y_ : List Int, y_ = (x3_1 ++ y198) := ⟨_, rfl⟩
            replace H : (footbridgeref02_Put.l0 k1 a0 y201 (wrap64 (x4_1 + 1))) = some r := by first | (rw [hy201]; with_reducible exact H) | (have H2_ := (Option.bind_some _ _).symm.trans H; rw [hy201]; with_reducible exact H2_) | (have H2_ := (Option.bind_some _ _).symm.trans H; with_reducible exact H2_) | with_reducible exact H | (rw [hy201]; exact H) | exact H
            have Ny201 := Aside0.mk hy201
            clear hy201
            have H' := Aside0.mk H
            clear H
            try go_wp2
            have n0_ := Aside0.mk (Kd.R_drew HO_3.out)
            have n1_ := Aside0.mk (below_drew1 HB.out)
            clear HO_3
            clear HB
            have HO_3 := n0_
            have HB := n1_
            clear n0_ n1_
            have p4 : 0 ≤ (x4_1 : Int) := of_decide_eq_true (by first | (with_reducible assumption) | assumption)
            have q4 : x4_1 < (a0.size : Int) := of_decide_eq_true (by first | (with_reducible assumption) | assumption)
            have hx4 := bt_at a0 x4_1
            replace p4 := eq_true p4
            replace q4 := eq_true q4
            have p6 : 0 ≤ (x4_1 : Int) := of_decide_eq_true (by first | (with_reducible assumption) | assumption)
            have q6 : x4_1 < (a0.size : Int) := of_decide_eq_true (by first | (with_reducible assumption) | assumption)
            have hx6 := bt_at a0 x4_1
            replace p6 := eq_true p6
            replace q6 := eq_true q6
            refine start_ (n := 14) (S := fun w' => True) (ds := []) #[false, false, false, false, false, false, false, false, false, false, false, false, false, false] (by kernel_rfl) rfl rfl trivial (fun hHeld => ?_); refine with_tabW footbridgeref02_Put.tab5 footbridgeref02_Put.bits5 (fun HT_ HW_ => ?_)
            generalize wr.drew = w9 at HO_3 HB hHeld ⊢
            refine pure_ (i := 0) (N := some 11) (v := ?_) (a' := ?_) #[true, false, false, false, false, false, false, false, false, false, false, false, false, false] rfl rfl (any_of HT_.out (by kernel_rfl)) (fun _ _ _ h => h) (Or.inl ⟨by rfl, ?_⟩) ?_ ?_
            rotate_left
            · intro w'
              go_simp
              with_reducible rfl
            rotate_left
            · simp only [Act.put, List.setIfInBounds_toArray, List.set_cons_zero, List.set_cons_succ, i64_w, i32_w]
              rfl
            refine pure_ (i := 1) (N := some 12) (v := ?_) (a' := ?_) #[true, true, false, false, false, false, false, false, false, false, false, false, false, false] rfl rfl (any_of HT_.out (by kernel_rfl)) (fun _ _ _ h => h) (Or.inl ⟨by rfl, ?_⟩) ?_ ?_
            rotate_left
            · intro w'
              go_simp
              with_reducible rfl
            rotate_left
            · simp only [Act.put, List.setIfInBounds_toArray, List.set_cons_zero, List.set_cons_succ, i64_w, i32_w]
              rfl
            refine pure_ (i := 2) (N := some 13) (v := ?_) (a' := ?_) #[true, true, true, false, false, false, false, false, false, false, false, false, false, false] rfl rfl (any_of HT_.out (by kernel_rfl)) (fun _ _ _ h => h) (Or.inl ⟨by rfl, ?_⟩) ?_ ?_
            rotate_left
            · intro w'
              go_simp
              with_reducible rfl
            rotate_left
            · simp only [Act.put, List.setIfInBounds_toArray, List.set_cons_zero, List.set_cons_succ, i64_w, i32_w]
              rfl
            refine pure_ (i := 6) (N := some 17) (v := ?_) (a' := ?_) #[true, true, true, false, false, false, true, false, false, false, false, false, false, false] rfl rfl (any_of HT_.out (by kernel_rfl)) (fun _ _ _ h => h) (Or.inl ⟨by rfl, ?_⟩) ?_ ?_
            rotate_left
            · intro w'
              go_simp
              with_reducible rfl
            rotate_left
            · simp only [Act.put, List.setIfInBounds_toArray, List.set_cons_zero, List.set_cons_succ, i64_w, i32_w]
              rfl
            refine pure_ (i := 7) (N := some 18) (v := ?_) (a' := ?_) #[true, true, true, false, false, false, true, true, false, false, false, false, false, false] rfl rfl (any_of HT_.out (by kernel_rfl)) (fun _ _ _ h => h) (Or.inl ⟨by rfl, ?_⟩) ?_ ?_
            rotate_left
            · intro w'
              go_simp
              with_reducible rfl
            rotate_left
            · simp only [Act.put, List.setIfInBounds_toArray, List.set_cons_zero, List.set_cons_succ, i64_w, i32_w]
              rfl
            refine take_ (i := 3) (N := some 14) (v := ?_) (a' := ?_) #[true, true, true, true, false, false, true, true, false, false, false, false, false, false] rfl rfl (take_ofW HT_.out HW_.out (by kernel_rfl)) (fun _ _ _ h => h) (Or.inl ⟨by rfl, ?_⟩) hHeld ?_ ?_
            rotate_left
            · intro w' _
              go_simp
              with_reducible rfl
            rotate_left
            · simp only [Act.put, List.setIfInBounds_toArray, List.set_cons_zero, List.set_cons_succ, i64_w, i32_w]
              rfl
            refine pure_ (i := 4) (N := some 15) (v := ?_) (a' := ?_) #[true, true, true, true, true, false, true, true, false, false, false, false, false, false] rfl rfl (any_of HT_.out (by kernel_rfl)) (fun _ _ _ h => h) (Or.inl ⟨by rfl, ?_⟩) ?_ ?_
            rotate_left
            · intro w'
              go_simp
              with_reducible rfl
            rotate_left
            · simp only [Act.put, List.setIfInBounds_toArray, List.set_cons_zero, List.set_cons_succ, i64_w, i32_w]
              rfl
            refine take_ (i := 8) (N := some 19) (v := ?_) (a' := ?_) #[true, true, true, true, true, false, true, true, true, false, false, false, false, false] rfl rfl (take_ofW HT_.out HW_.out (by kernel_rfl)) (fun _ _ _ h => h) (Or.inl ⟨by rfl, ?_⟩) hHeld ?_ ?_
            rotate_left
            · intro w' _
              go_simp
              with_reducible rfl
            rotate_left
            · simp only [Act.put, List.setIfInBounds_toArray, List.set_cons_zero, List.set_cons_succ, i64_w, i32_w]
              rfl
            refine pure_ (i := 9) (N := some 20) (v := ?_) (a' := ?_) #[true, true, true, true, true, false, true, true, true, true, false, false, false, false] rfl rfl (any_of HT_.out (by kernel_rfl)) (fun _ _ _ h => h) (Or.inl ⟨by rfl, ?_⟩) ?_ ?_
            rotate_left
            · intro w'
              go_simp
              with_reducible rfl
            rotate_left
            · simp only [Act.put, List.setIfInBounds_toArray, List.set_cons_zero, List.set_cons_succ, i64_w, i32_w]
              rfl
            refine one_ (i := 5) (N := some 16) #[true, true, true, true, true, true, true, true, true, true, false, false, false, false] rfl rfl (one_of HT_.out (by kernel_rfl)) (by decide) (fun K hK => ?_)
            refine goes_ Try.func68 (by kernel_rfl) rfl #[.int .u8 ((Int.tdiv (bt a0 x4_1) 16) % 256)] (by rfl) rfl rfl (by (try simp only [List.map_toArray, List.map_cons, List.map_nil]); first | done | rfl | (simp only [List.length_drop, List.length_take]; rfl)) ?_
            with_reducible refine (footbridgeref02_digit.calls ((Int.tdiv (bt a0 x4_1) 16) % 256) t196 _ A5.out).mono ?_
            rintro e w' ⟨rfl, ⟨nd, rfl⟩⟩
            refine ⟨_, rfl, ?_⟩
            refine hK.out _ _ trivial (fun hHeld => ?_)
            clear hK K
            refine norm_ (a' := ?_) ?_ ?_
            rotate_left
            · show Act.put _ (some 16) _ = _
              simp only [Act.put, List.setIfInBounds_toArray, List.set_cons_zero, List.set_cons_succ, i64_w, i32_w]
              rfl
            refine one_ (i := 10) (N := some 21) #[true, true, true, true, true, true, true, true, true, true, true, false, false, false] rfl rfl (one_of HT_.out (by kernel_rfl)) (by decide) (fun K hK => ?_)
            refine goes_ Try.func68 (by kernel_rfl) rfl #[.int .u8 (Int.tmod (bt a0 x4_1) 16)] (by rfl) rfl rfl (by (try simp only [List.map_toArray, List.map_cons, List.map_nil]); first | done | rfl | (simp only [List.length_drop, List.length_take]; rfl)) ?_
            with_reducible refine (footbridgeref02_digit.calls (Int.tmod (bt a0 x4_1) 16) t197 _ A7.out).mono ?_
            rintro e w' ⟨rfl, ⟨nd, rfl⟩⟩
            refine ⟨_, rfl, ?_⟩
            refine hK.out _ _ trivial (fun hHeld => ?_)
            clear hK K
            refine norm_ (a' := ?_) ?_ ?_
            rotate_left
            · show Act.put _ (some 21) _ = _
              simp only [Act.put, List.setIfInBounds_toArray, List.set_cons_zero, List.set_cons_succ, i64_w, i32_w]
              rfl
            refine one_ (i := 11) (N := some 22) #[true, true, true, true, true, true, true, true, true, true, true, true, false, false] rfl rfl (one_of HT_.out (by kernel_rfl)) (by decide) (fun K hK => ?_)
            refine Kd.R_lit_step (Kd.int .u8) _ 5 ?hg (N := 22) ?hd (xs := ([t196, t197] : List Int)) (inner := [.int .u8 t196, .int .u8 t197]) (ok := fun _ => True) (okp := fun _ => True) ?hr ?hp (fun _ hk => hk) trivial (Below.refl _ _) (Nat.le_refl _) (by simp) ?_; (case hd => rfl); (case hg => rfl); (case hr => first | (go_simp; done) | (go_simp; rfl)); (case hp => exact (Reps.one (show Kd.M (Kd.int .u8) _ _ _ t196 [.int .u8 t196] from rfl) (Reps.one (show Kd.M (Kd.int .u8) _ _ _ t197 [.int .u8 t197] from rfl) (Reps.none _ _))))
            intro v199 w10 ho11 hb hg_ hnew_
            clear hg_ hnew_
            (first | rw [← Ny198.out] at ho11 | (simp only [Int.reduceToNat] at ho11; rw [← Ny198.out] at ho11))
            have n0_ := Aside0.mk (Kd.R_elder' (by (with_reducible repeat (first | apply Kd.R_alloc | apply Kd.R_drewN | apply Kd.R_drew)); exact HO_3.out) (Kd.R_base ho11) hb)
            have n1_ := Aside0.mk (Kd.R_lower (Kd.R_new' ho11 (Kd.R_lt (by (with_reducible repeat (first | apply Kd.R_alloc | apply Kd.R_drewN | apply Kd.R_drew)); exact HO_3.out))) (below_size (by repeat (first | (with_reducible first | exact HB.out | apply below_alloc | apply pw_below_drewN | apply below_drew1) | exact HB.out))))
            have n2_ := Aside0.mk (below_step (by repeat (first | (with_reducible first | exact HB.out | apply below_alloc | apply pw_below_drewN | apply below_drew1) | exact HB.out)) hb)
            clear HO_3
            clear HB
            have HO_3 := n0_
            have HO200 := n1_
            have HB := n2_
            clear n0_ n1_ n2_
            clear hb ho11
            obtain ⟨Ao13, co13, eo13⟩ := Kd.R_slice HO200.out
            (first | subst eo13 | (injection eo13 with f1_ f2_ f3_; have f4_ := f1_.symm; have f5_ := f3_.symm; clear f1_ f2_ f3_; subst f4_; subst f5_))
            refine hK.out _ _ trivial (fun hHeld => ?_)
            clear hK K
            refine norm_ (a' := ?_) ?_ ?_
            rotate_left
            · show Act.put _ (some 22) _ = _
              simp only [Act.put, List.setIfInBounds_toArray, List.set_cons_zero, List.set_cons_succ, i64_w, i32_w]
              rfl
            refine one_ (i := 12) (N := some 23) #[true, true, true, true, true, true, true, true, true, true, true, true, true, false] rfl rfl (one_of HT_.out (by kernel_rfl)) (by decide) (fun K hK => ?_)
            refine Kd.R_append_rows_step (Kd.int .u8) (w0 := w) w.heap.size (by rfl) (.tmp 11) (.tmp 22) 56 5 (.int .u8 0) 1 rfl Try.underlying56 info5 rfl (by decide) (by omega) u3 x3_1 y198 _ _ _ (fun k_ => some k_ ≠ (.slice Ao13 y198.length co13 : Value).ownBlock) (fun _ => False) rfl rfl ?aO ?aR (fun _ _ h => h) (fun _ h => h.elim) ?aF ?aB ?aS ?aL ?_
            (case aR => repeat (first | exact (Kd.R_reads' HO200.out).2.2 | (with_reducible refine Kd.C_alloc ?_ _) | (with_reducible refine Kd.C_drewN ?_ _) | (with_reducible refine Kd.C_drew ?_)))
            (case aB => exact (by repeat (first | (with_reducible first | exact HB.out | apply below_alloc | apply pw_below_drewN | apply below_drew1) | exact HB.out)))
            (case aF => exact (fun k_ hk => Kd.fresh' (Kd.R_lt (by (with_reducible repeat (first | apply Kd.R_alloc | apply Kd.R_drewN | apply Kd.R_drew)); exact HO200.out)) k_ hk))
            (case aO => exact (by (with_reducible repeat (first | apply Kd.R_alloc | apply Kd.R_drewN | apply Kd.R_drew)); exact Kd.R_mono HO_3.out (fun _ hk => hk.2)))
            (case aS => exact (below_size (by repeat (first | (with_reducible first | exact HB.out | apply below_alloc | apply pw_below_drewN | apply below_drew1) | exact HB.out))))
            (case aL => have := LMc8.out; omega)
            intro v202 w12 ho hb hg hat
            rw [← Ny201.out] at ho
            have n0_ := Aside0.mk (Kd.R_after (ok := (fun _ => True)) (by (with_reducible repeat (first | apply Kd.R_alloc | apply Kd.R_drewN | apply Kd.R_drew)); exact HO200.out) hg hat)
            have n1_ := Aside0.mk (hb)
            have n2_ := Aside0.mk (ho)
            clear HO200
            clear HB
            clear HO_3
            have HO200 := n0_
            have HB := n1_
            have HO203 := n2_
            clear n0_ n1_ n2_
            clear ho hb hg hat
            refine hK.out _ _ trivial (fun hHeld => ?_)
            clear hK K
            refine norm_ (a' := ?_) ?_ ?_
            rotate_left
            · show Act.put _ (some 23) _ = _
              simp only [Act.put, List.setIfInBounds_toArray, List.set_cons_zero, List.set_cons_succ, i64_w, i32_w]
              rfl
            refine pure_ (i := 13) (N := some 3) (v := ?_) (a' := ?_) #[true, true, true, true, true, true, true, true, true, true, true, true, true, true] rfl rfl (any_of HT_.out (by kernel_rfl)) (fun _ _ _ h => h) (Or.inl ⟨by rfl, ?_⟩) ?_ ?_
            rotate_left
            · intro w'
              go_simp
              with_reducible rfl
            rotate_left
            · simp only [Act.put, List.setIfInBounds_toArray, List.set_cons_zero, List.set_cons_succ, i64_w, i32_w]
              rfl
            refine done_ (done_of HT_.out (by kernel_rfl)) ?_
            try go_wp2
            go_roundg k1
            case measure => have := HK1.out; omega
            case rel => exact ⟨(y201), (wrap64 (x4_1 + 1)), (by first | rfl | (simp; done) | (simp [*]; done)), H', ⟨by have := HK1.out; omega⟩, ⟨by (with_reducible repeat (first | apply Kd.R_alloc | apply Kd.R_drewN | apply Kd.R_drew)); exact Kd.R_mono HO203.out (fun _ hk => trivial)⟩, ⟨by repeat (first | (with_reducible first | exact HB.out | apply below_alloc | apply pw_below_drewN | apply below_drew1) | exact HB.out)⟩⟩
          · rw [if_neg c8] at H
            exact absurd H (by simp)
        · rw [if_neg c3] at H
          exact absurd H (by simp)
      · rw [if_neg c2] at H
        have c2b0 : decide (x4_1 < (a0.size : Int)) = false := decide_eq_false c2
        clear c2
        obtain rfl := Option.some.inj H
        have hcv14 := own_string (P := Try.prog) Try.underlying56 Try.underlying5 Try.underlying9 (Kd.own_of_R HO_3.out)
        (try (have hcv14d := own_string (P := Try.prog) Try.underlying56 Try.underlying5 Try.underlying9 (Kd.own_of_R (Kd.R_drew (HO_3.out)))))
        go_wp2
        go_ret
        exact ⟨by first | rfl | (simp [errW_none, errW_some] <;> rfl) | (simp [*, errW_none, errW_some] <;> rfl), by repeat (first | (with_reducible first | exact HB.out | apply below_alloc | apply pw_below_drewN | apply below_drew1) | exact HB.out)⟩

end Go.Proofs.Ytcgmododeiocpaa.PObj
