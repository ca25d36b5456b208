-- written by wip/myprint.py over the kit's print; not a printed text of print.sh
import Derived.Test.YtfjneffmgmcdaaaPQuox0
import Derived.Test.YtfjneffmgmcdaaaPQuox1
namespace Go.Proofs.Ytfjneffmgmcdaaa.PQuo
open Go.RowKit Go.Proofs.YtfjneffmgmcdaaaW.PrintWords Go.Proofs.YtfjneffmgmcdaaaW.PrintLast Go.Proofs.YtfjneffmgmcdaaaW.PrintMore
attribute [local go_sem] max2_int min2_int max_two min_two max_three min_three max_four min_four   -- for this text's walks alone
set_option linter.unusedVariables false
set_option linter.unusedSimpArgs false

/-! ### quote_Read: function 28 -/
mutual
def quote_Read.j0 : Nat → ByteArray → Bool → Option (ByteArray × ByteArray × Int)
  | 0, _, _ => none
  | k + 1, x0, x14 => if x14 = true then (some ((⟨#[]⟩ : ByteArray), (⟨#[]⟩ : ByteArray), 6)) else (if 1 ≤ (x0.size : Int) then (quote_Read.l0 k (x0.extract 1 x0.size) ([] : List Int)) else (none))
def quote_Read.l0 : Nat → ByteArray → List Int → Option (ByteArray × ByteArray × Int)
  | 0, _, _ => none
  | k + 1, x0, x5 => if x0.toList = ([] : List UInt8) then (some ((⟨#[]⟩ : ByteArray), (⟨#[]⟩ : ByteArray), 6)) else (if 0 < (x0.size : Int) then (if (bt x0 0) = 34 then (if 1 ≤ (x0.size : Int) then (some (strOfNums x5, x0.extract 1 x0.size, 0)) else (none)) else (if (bt x0 0) = 92 then ((quote_hidden.f k x0).bind fun bt104 => (if bt104.2 = 0 then (some ((⟨#[]⟩ : ByteArray), (⟨#[]⟩ : ByteArray), 6)) else (if x5.length < 140737488355328 then (if 0 ≤ bt104.2 then (if bt104.2 ≤ (x0.size : Int) then (quote_Read.l0 k (x0.extract (bt104.2 : Int).toNat x0.size) (x5 ++ [bt104.1])) else (none)) else (none)) else (none)))) else (if (bt x0 0) < 32 then (quote_Read.j2 k x0 x5 (bt x0 0) 1 true) else (quote_Read.j2 k x0 x5 (bt x0 0) 1 ((bt x0 0) == 127))))) else (none))
def quote_Read.j2 : Nat → ByteArray → List Int → Int → Int → Bool → Option (ByteArray × ByteArray × Int)
  | 0, _, _, _, _, _ => none
  | k + 1, x0, x5, x6, x7, x36 => if x36 = true then (some ((⟨#[]⟩ : ByteArray), (⟨#[]⟩ : ByteArray), 6)) else (if x7 = 0 then (some ((⟨#[]⟩ : ByteArray), (⟨#[]⟩ : ByteArray), 6)) else (if x5.length < 140737488355328 then (if 0 ≤ x7 then (if x7 ≤ (x0.size : Int) then (quote_Read.l0 k (x0.extract (x7 : Int).toNat x0.size) (x5 ++ [x6])) else (none)) else (none)) else (none)))
end
def quote_Read.f (k : Nat) (a0 : ByteArray) : Option (ByteArray × ByteArray × Int) := if a0.toList = ([] : List UInt8) then (quote_Read.j0 k a0 true) else (if 0 < (a0.size : Int) then (quote_Read.j0 k a0 ((bt a0 0) != 34)) else (none))
theorem quote_Read.mono_l : ∀ k, (∀ y0 y1, LeO (quote_Read.j0 k y0 y1) (quote_Read.j0 (k + 1) y0 y1)) ∧ (∀ y0 y1, LeO (quote_Read.l0 k y0 y1) (quote_Read.l0 (k + 1) y0 y1)) ∧ (∀ y0 y1 y2 y3 y4, LeO (quote_Read.j2 k y0 y1 y2 y3 y4) (quote_Read.j2 (k + 1) y0 y1 y2 y3 y4))
  | 0 => ⟨fun _ _ r h => by simp [quote_Read.j0] at h, fun _ _ r h => by simp [quote_Read.l0] at h, fun _ _ _ _ _ r h => by simp [quote_Read.j2] at h⟩
  | k + 1 => by
    obtain ⟨ih0, ih1, ih2⟩ := quote_Read.mono_l k
    refine ⟨?_, ?_, ?_⟩
    · intro y0 y1
      unfold quote_Read.j0
      repeat' first
      | (with_reducible exact ih0 _ _)
      | (with_reducible exact ih1 _ _)
      | (with_reducible exact ih2 _ _ _ _ _)
      | (with_reducible exact quote_hidden.mono _ _)
      | (with_reducible exact LeO.refl _)
      | (with_reducible exact LeO.none _)
      | (with_reducible refine LeO.ite ?_ ?_)
      | (with_reducible refine LeO.bind ?_ (fun _ => ?_))
      | exact ih0 _ _
      | exact ih1 _ _
      | exact ih2 _ _ _ _ _
      | exact quote_hidden.mono _ _
      | exact LeO.none _
      | refine LeO.ite ?_ ?_
      | refine LeO.bind ?_ (fun _ => ?_)
    · intro y0 y1
      unfold quote_Read.l0
      repeat' first
      | (with_reducible exact ih0 _ _)
      | (with_reducible exact ih1 _ _)
      | (with_reducible exact ih2 _ _ _ _ _)
      | (with_reducible exact quote_hidden.mono _ _)
      | (with_reducible exact LeO.refl _)
      | (with_reducible exact LeO.none _)
      | (with_reducible refine LeO.ite ?_ ?_)
      | (with_reducible refine LeO.bind ?_ (fun _ => ?_))
      | exact ih0 _ _
      | exact ih1 _ _
      | exact ih2 _ _ _ _ _
      | exact quote_hidden.mono _ _
      | exact LeO.none _
      | refine LeO.ite ?_ ?_
      | refine LeO.bind ?_ (fun _ => ?_)
    · intro y0 y1 y2 y3 y4
      unfold quote_Read.j2
      repeat' first
      | (with_reducible exact ih0 _ _)
      | (with_reducible exact ih1 _ _)
      | (with_reducible exact ih2 _ _ _ _ _)
      | (with_reducible exact quote_hidden.mono _ _)
      | (with_reducible exact LeO.refl _)
      | (with_reducible exact LeO.none _)
      | (with_reducible refine LeO.ite ?_ ?_)
      | (with_reducible refine LeO.bind ?_ (fun _ => ?_))
      | exact ih0 _ _
      | exact ih1 _ _
      | exact ih2 _ _ _ _ _
      | exact quote_hidden.mono _ _
      | exact LeO.none _
      | refine LeO.ite ?_ ?_
      | refine LeO.bind ?_ (fun _ => ?_)
theorem quote_Read.mono : ∀ a0 k, LeO (quote_Read.f k a0) (quote_Read.f (k + 1) a0) := by
  intro a0 k
  obtain ⟨ih0, ih1, ih2⟩ := quote_Read.mono_l k
  unfold quote_Read.f
  repeat' first
      | (with_reducible exact ih0 _ _)
      | (with_reducible exact ih1 _ _)
      | (with_reducible exact ih2 _ _ _ _ _)
      | (with_reducible exact quote_hidden.mono _ _)
      | (with_reducible exact LeO.refl _)
      | (with_reducible exact LeO.none _)
      | (with_reducible refine LeO.ite ?_ ?_)
      | (with_reducible refine LeO.bind ?_ (fun _ => ?_))
      | exact ih0 _ _
      | exact ih1 _ _
      | exact ih2 _ _ _ _ _
      | exact quote_hidden.mono _ _
      | exact LeO.none _
      | refine LeO.ite ?_ ?_
      | refine LeO.bind ?_ (fun _ => ?_)
set_option maxHeartbeats 8000000 in
set_option maxRecDepth 100000 in
theorem quote_Read.calls (k : Nat) (a0 : ByteArray) (r1 : ByteArray) (r2 : ByteArray) (r3 : Int) (w : World) (h : quote_Read.f k a0 = some (r1, r2, r3)) :
    Calls Try.prog 28 #[.string a0] w fun e w' => e = .returned (.tuple #[.string r1, .string r2, .int .i64 r3]) ∧ Below w.heap.size w w' := by
  have HB := Aside0.mk (Below.refl w.heap.size w)
  have H : (if a0.toList = ([] : List UInt8) then (quote_Read.j0 k a0 true) else (if 0 < (a0.size : Int) then (quote_Read.j0 k a0 ((bt a0 0) != 34)) else (none))) = some (r1, r2, r3) := h
  clear h
  have HC2 := Aside0.mk H
  clear H
  go_enter Try.func28, Try.ntmps28
  go_upto_region 1 with (fail)
  repeat (go_quiet (fail); go_upto_region 1 with (fail))
  go_cut [14] (fun v14 wc => ∃ (kq : Nat) (x14_1 : Bool), v14 = .bool x14_1 ∧ Aside0 (quote_Read.j0 kq a0 x14_1 = some (r1, r2, r3)) ∧ Aside0 (kq ≤ k) ∧ Aside0 (Below w.heap.size w wc))
  case first =>
    have H := HC2.out
    clear HC2
    by_cases c3 : a0.toList = ([] : List UInt8)
    · rw [if_pos c3] at H
      have c3b0 : (a0.toList == ([] : List UInt8)) = true := beq_iff_eq.mpr c3
      have c3b1 : (a0.toList != ([] : List UInt8)) = false := bne_eq_false_iff_eq.mpr c3
      clear c3
      (first | rw [c3b0] | (simp only [i64_w, i32_w]; rw [c3b0]) | skip)
      have H' := Aside0.mk H
      clear H
      go_wp2
      repeat (first | (go_quiet (fail); try go_wp2) | (go_region; try go_wp2))
      go_meet
      case rel => exact ⟨_, (true), (by first | rfl | (simp; done) | (simp [*]; done)), H', ⟨by first | omega | exact Nat.le_refl _⟩, ⟨by repeat (first | (with_reducible first | exact HB.out | apply below_alloc | apply pw_below_drewN | apply below_drew1) | exact HB.out)⟩⟩
    · rw [if_neg c3] at H
      have c3b0 : (a0.toList == ([] : List UInt8)) = false := beq_eq_false_iff_ne.mpr c3
      have c3b1 : (a0.toList != ([] : List UInt8)) = true := bne_iff_ne.mpr c3
      (first | rw [c3b0] | (simp only [i64_w, i32_w]; rw [c3b0]) | skip)
      by_cases c4 : 0 < (a0.size : Int)
      · rw [if_pos c4] at H
        have c4b0 : decide (0 < (a0.size : Int)) = true := decide_eq_true c4
        have c4b1 : decide (0 < a0.size) = true := decide_eq_true (by omega)
        clear c4
        have H' := Aside0.mk H
        clear H
        have p5 : 0 ≤ (0 : Int) := (by omega)
        have q5 : 0 < a0.size := (by have : (0 : Int) < (a0.size : Int) := of_decide_eq_true (by first | (with_reducible assumption) | assumption); omega)
        have hx5 : ∀ h : 0 < a0.size, ((a0[0]'h).toNat : Int) = bt a0 0 := bt_at a0 0
        clear p5
        have qi5 : (0 < (a0.size : Int)) = True := eq_true (of_decide_eq_true (by first | (with_reducible assumption) | assumption))
        replace q5 := eq_true q5
        go_wp2
        repeat (first | (go_quiet (fail); try go_wp2) | (go_region; try go_wp2))
        go_meet
        case rel => exact ⟨_, (((bt a0 0) != 34)), (by first | rfl | (simp; done) | (simp [*]; done)), H', ⟨by first | omega | exact Nat.le_refl _⟩, ⟨by repeat (first | (with_reducible first | exact HB.out | apply below_alloc | apply pw_below_drewN | apply below_drew1) | exact HB.out)⟩⟩
      · rw [if_neg c4] at H
        exact absurd H (by simp)
  case rest =>
    clear HC2
    try clear c2
    try clear p2
    try clear c3
    try clear c3b0
    try clear c3b1
    try clear c4
    try clear c4b0
    try clear c4b1
    try clear p5
    try clear q5
    try clear hx5
    try clear qi5
    try clear p5
    try clear q5
    obtain ⟨kq, x14_1, rfl, HA, HJ1, HB⟩ := hcut
    cases kq with
    | zero => exact absurd HA.out (by simp [quote_Read.j0])
    | succ kj1 =>
      have H := HA.out
      clear HA
      simp only [quote_Read.j0] at H
      by_cases c6 : x14_1 = true
      · subst c6
        have H1 : (some ((⟨#[]⟩ : ByteArray), (⟨#[]⟩ : ByteArray), 6)) = some (r1, r2, r3) := by rw [if_pos rfl] at H; exact H
        clear H
        have H := H1
        clear H1
        simp only [Option.some.injEq, Prod.mk.injEq] at H
        obtain ⟨rfl, rfl, rfl⟩ := H
        go_wp2
        repeat (first | (go_quiet (fail); try go_wp2) | (go_region; try go_wp2))
        go_ret3
        exact ⟨by first | rfl | (simp [errW_none, errW_some] <;> rfl) | (simp [*, errW_none, errW_some] <;> rfl), by repeat (first | (with_reducible first | exact HB.out | apply below_alloc | apply pw_below_drewN | apply below_drew1) | exact HB.out)⟩
      · replace c6 := Bool.eq_false_iff.mpr c6
        subst c6
        have H1 : (if 1 ≤ (a0.size : Int) then (quote_Read.l0 kj1 (a0.extract 1 a0.size) ([] : List Int)) else (none)) = some (r1, r2, r3) := by rw [if_neg (show ¬ (false = true) by decide)] at H; exact H
        clear H
        have H := H1
        clear H1
        by_cases c7 : 1 ≤ (a0.size : Int)
        · rw [if_pos c7] at H
          have c7b0 := eq_true c7
          have c7b1 : decide (1 ≤ (a0.size : Int)) = true := decide_eq_true c7
          clear c7
          have H' := Aside0.mk H
          clear H
          go_wp2
          repeat (first | (go_quiet (fail); try go_wp2) | (go_region; try go_wp2))
          go_loopg [0, 5] kj1 (fun kq v0 v5 w' => ∃ (x0_2 : ByteArray) (x5_2 : List Int), v0 = .string x0_2 ∧ Aside0 (quote_Read.l0 kq x0_2 x5_2 = some (r1, r2, r3)) ∧ Aside0 (kq ≤ kj1) ∧ Aside0 (Kd.R (Kd.int .u8) 5 w' w.heap.size (fun _ => True) v5 x5_2) ∧ Aside0 (Below w.heap.size w w'))
          case atStart => exact ⟨(a0.extract 1 a0.size), (([] : List Int)), (by first | rfl | (simp; done) | (simp [*]; done)), H', ⟨Nat.le_refl _⟩, ⟨by first | exact Kd.R_nil _ _ _ _ _ | exact Kd.N_nil _ _ _ _ _ | exact Kd.V_nil _ _ _ _ _ | exact Kd.Q_nil _ _ _ _ _ | exact Kd.S_nil _ _ _ _ _⟩, ⟨by repeat (first | (with_reducible first | exact HB.out | apply below_alloc | apply pw_below_drewN | apply below_drew1) | exact HB.out)⟩⟩
          case round =>
            clear H'
            try clear c2
            try clear p2
            try clear c3
            try clear c3b0
            try clear c3b1
            try clear c4
            try clear c4b0
            try clear c4b1
            try clear p5
            try clear q5
            try clear hx5
            try clear qi5
            try clear c6
            try clear c7
            try clear c7b0
            try clear c7b1
            try clear p2
            try clear p5
            try clear q5
            obtain ⟨x0_2, x5_2, rfl, HA, HK2, HO_5, HB⟩ := hrel
            cases gk with
            | zero => exact absurd HA.out (by simp [quote_Read.l0])
            | succ k2 =>
              have H := HA.out
              clear HA
              simp only [quote_Read.l0] at H
              by_cases c8 : x0_2.toList = ([] : List UInt8)
              · rw [if_pos c8] at H
                have c8b0 : (x0_2.toList == ([] : List UInt8)) = true := beq_iff_eq.mpr c8
                have c8b1 : (x0_2.toList != ([] : List UInt8)) = false := bne_eq_false_iff_eq.mpr c8
                clear c8
                simp only [Option.some.injEq, Prod.mk.injEq] at H
                obtain ⟨rfl, rfl, rfl⟩ := H
                go_wp2
                repeat (first | (go_quiet (fail); try go_wp2) | (go_region; try go_wp2))
                go_ret3
                exact ⟨by first | rfl | (simp [errW_none, errW_some] <;> rfl) | (simp [*, errW_none, errW_some] <;> rfl), by repeat (first | (with_reducible first | exact HB.out | apply below_alloc | apply pw_below_drewN | apply below_drew1) | exact HB.out)⟩
              · rw [if_neg c8] at H
                have c8b0 : (x0_2.toList == ([] : List UInt8)) = false := beq_eq_false_iff_ne.mpr c8
                have c8b1 : (x0_2.toList != ([] : List UInt8)) = true := bne_iff_ne.mpr c8
                by_cases c9 : 0 < (x0_2.size : Int)
                · rw [if_pos c9] at H
                  have c9b0 : decide (0 < (x0_2.size : Int)) = true := decide_eq_true c9
                  have c9b1 : decide (0 < x0_2.size) = true := decide_eq_true (by omega)
                  clear c9
                  by_cases c11 : (bt x0_2 0) = 34
                  · rw [if_pos c11] at H
                    have c11b0 : ((bt x0_2 0) == 34) = true := beq_iff_eq.mpr c11
                    have c11b1 : ((bt x0_2 0) != 34) = false := bne_eq_false_iff_eq.mpr c11
                    clear c11
                    by_cases c12 : 1 ≤ (x0_2.size : Int)
                    · rw [if_pos c12] at H
                      have c12b0 := eq_true c12
                      have c12b1 : decide (1 ≤ (x0_2.size : Int)) = true := decide_eq_true c12
                      clear c12
                      simp only [Option.some.injEq, Prod.mk.injEq] at H
                      obtain ⟨rfl, rfl, rfl⟩ := H
                      have p10 : 0 ≤ (0 : Int) := (by omega)
                      have q10 : 0 < x0_2.size := (by have : (0 : Int) < (x0_2.size : Int) := of_decide_eq_true (by first | (with_reducible assumption) | assumption); omega)
                      have hx10 : ∀ h : 0 < x0_2.size, ((x0_2[0]'h).toNat : Int) = bt x0_2 0 := bt_at x0_2 0
                      clear p10
                      have qi10 : (0 < (x0_2.size : Int)) = True := eq_true (of_decide_eq_true (by first | (with_reducible assumption) | assumption))
                      replace q10 := eq_true q10
                      have hcv13 := own_string (P := Try.prog) Try.underlying78 Try.underlying5 Try.underlying9 (Kd.own_of_R HO_5.out)
                      (try (have hcv13d := own_string (P := Try.prog) Try.underlying78 Try.underlying5 Try.underlying9 (Kd.own_of_R (Kd.R_drew (HO_5.out)))))
                      go_wp2
                      repeat (first | (go_quiet (fail); try go_wp2) | (go_region; try go_wp2))
                      go_ret3
                      exact ⟨by first | rfl | (simp [errW_none, errW_some] <;> rfl) | (simp [*, errW_none, errW_some] <;> rfl), by repeat (first | (with_reducible first | exact HB.out | apply below_alloc | apply pw_below_drewN | apply below_drew1) | exact HB.out)⟩
                    · rw [if_neg c12] at H
                      exact absurd H (by simp)
                  · rw [if_neg c11] at H
                    have c11b0 : ((bt x0_2 0) == 34) = false := beq_eq_false_iff_ne.mpr c11
                    have c11b1 : ((bt x0_2 0) != 34) = true := bne_iff_ne.mpr c11
                    by_cases c14 : (bt x0_2 0) = 92
                    · rw [if_pos c14] at H
                      have c14b0 : ((bt x0_2 0) == 92) = true := beq_iff_eq.mpr c14
                      have c14b1 : ((bt x0_2 0) != 92) = false := bne_eq_false_iff_eq.mpr c14
                      clear c14
                      replace H := Option.bind_eq_some_iff.mp H
                      obtain ⟨⟨t104, t105⟩, A150, H⟩ := H
                      replace H : (if t105 = 0 then (some ((⟨#[]⟩ : ByteArray), (⟨#[]⟩ : ByteArray), 6)) else (if x5_2.length < 140737488355328 then (if 0 ≤ t105 then (if t105 ≤ (x0_2.size : Int) then (quote_Read.l0 k2 (x0_2.extract (t105 : Int).toNat x0_2.size) (x5_2 ++ [t104])) else (none)) else (none)) else (none))) = some (r1, r2, r3) := H
                      have A15 := Aside0.mk A150
                      clear A150
                      by_cases c16 : t105 = 0
                      · rw [if_pos c16] at H
                        have c16b0 : (t105 == 0) = true := beq_iff_eq.mpr c16
                        have c16b1 : (t105 != 0) = false := bne_eq_false_iff_eq.mpr c16
                        clear c16
                        simp only [Option.some.injEq, Prod.mk.injEq] at H
                        obtain ⟨rfl, rfl, rfl⟩ := H
                        have p10 : 0 ≤ (0 : Int) := (by omega)
                        have q10 : 0 < x0_2.size := (by have : (0 : Int) < (x0_2.size : Int) := of_decide_eq_true (by first | (with_reducible assumption) | assumption); omega)
                        have hx10 : ∀ h : 0 < x0_2.size, ((x0_2[0]'h).toNat : Int) = bt x0_2 0 := bt_at x0_2 0
                        clear p10
                        have qi10 : (0 < (x0_2.size : Int)) = True := eq_true (of_decide_eq_true (by first | (with_reducible assumption) | assumption))
                        replace q10 := eq_true q10
                        go_wp2_with (first | (go_at_call 62; (with_reducible refine (quote_hidden.calls k2 x0_2 t104 t105 _ A15.out).mono ?_); rintro e w' ⟨rfl, ⟨nd, rfl⟩⟩; (try first | exact ⟨rfl, _, World.drewN_drewN _ _ _⟩ | exact ⟨rfl, _, Eq.trans (World.drewN_drewN _ _ _) (congrArg (World.drewN _) (Nat.add_assoc _ _ _))⟩)))
                        repeat (go_quiet (first | (go_at_call 62; (with_reducible refine (quote_hidden.calls k2 x0_2 t104 t105 _ A15.out).mono ?_); rintro e w' ⟨rfl, ⟨nd, rfl⟩⟩; (try first | exact ⟨rfl, _, World.drewN_drewN _ _ _⟩ | exact ⟨rfl, _, Eq.trans (World.drewN_drewN _ _ _) (congrArg (World.drewN _) (Nat.add_assoc _ _ _))⟩))); try go_wp2_with (first | (go_at_call 62; (with_reducible refine (quote_hidden.calls k2 x0_2 t104 t105 _ A15.out).mono ?_); rintro e w' ⟨rfl, ⟨nd, rfl⟩⟩; (try first | exact ⟨rfl, _, World.drewN_drewN _ _ _⟩ | exact ⟨rfl, _, Eq.trans (World.drewN_drewN _ _ _) (congrArg (World.drewN _) (Nat.add_assoc _ _ _))⟩))))
                        go_ret3
                        exact ⟨by first | rfl | (simp [errW_none, errW_some] <;> rfl) | (simp [*, errW_none, errW_some] <;> rfl), by repeat (first | (with_reducible first | exact HB.out | apply below_alloc | apply pw_below_drewN | apply below_drew1) | exact HB.out)⟩
                      · rw [if_neg c16] at H
                        have c16b0 : (t105 == 0) = false := beq_eq_false_iff_ne.mpr c16
                        have c16b1 : (t105 != 0) = true := bne_iff_ne.mpr c16
                        by_cases c17 : x5_2.length < 140737488355328
                        · rw [if_pos c17] at H
                          have LMc17 := Aside0.mk c17
                          clear c17
                          obtain ⟨y106, hy106⟩ : ∃ y_ : List Int, y_ = (x5_2 ++ [t104]) := ⟨_, rfl⟩
                          replace H : (if 0 ≤ t105 then (if t105 ≤ (x0_2.size : Int) then (quote_Read.l0 k2 (x0_2.extract (t105 : Int).toNat x0_2.size) y106) else (none)) else (none)) = some (r1, r2, r3) := by first | (rw [hy106]; with_reducible exact H) | (have H2_ := (Option.bind_some _ _).symm.trans H; rw [hy106]; with_reducible exact H2_) | (have H2_ := (Option.bind_some _ _).symm.trans H; with_reducible exact H2_) | with_reducible exact H | (rw [hy106]; exact H) | exact H
                          have Ny106 := Aside0.mk hy106
                          clear hy106
                          by_cases c18 : 0 ≤ t105
                          · rw [if_pos c18] at H
                            have c18b0 := eq_true c18
                            have c18b1 : decide (0 ≤ t105) = true := decide_eq_true c18
                            clear c18
                            by_cases c19 : t105 ≤ (x0_2.size : Int)
                            · rw [if_pos c19] at H
                              have c19b0 := eq_true c19
                              have c19b1 : decide (t105 ≤ (x0_2.size : Int)) = true := decide_eq_true c19
                              clear c19
                              have H' := Aside0.mk H
                              clear H
                              have p10 : 0 ≤ (0 : Int) := (by omega)
                              have q10 : 0 < x0_2.size := (by have : (0 : Int) < (x0_2.size : Int) := of_decide_eq_true (by first | (with_reducible assumption) | assumption); omega)
                              have hx10 : ∀ h : 0 < x0_2.size, ((x0_2[0]'h).toNat : Int) = bt x0_2 0 := bt_at x0_2 0
                              clear p10
                              have qi10 : (0 < (x0_2.size : Int)) = True := eq_true (of_decide_eq_true (by first | (with_reducible assumption) | assumption))
                              replace q10 := eq_true q10
                              go_wp2_with (first | (go_at_call 62; (with_reducible refine (quote_hidden.calls k2 x0_2 t104 t105 _ A15.out).mono ?_); rintro e w' ⟨rfl, ⟨nd, rfl⟩⟩; (try first | exact ⟨rfl, _, World.drewN_drewN _ _ _⟩ | exact ⟨rfl, _, Eq.trans (World.drewN_drewN _ _ _) (congrArg (World.drewN _) (Nat.add_assoc _ _ _))⟩)) | ((with_reducible refine gate_builtin (b := .append) (xs := #[.tmp 45, .tmp 47]) rfl ?_); at_builtin; refine Kd.R_append (Kd.int .u8) (w0 := w) w.heap.size rfl (.tmp 45) (.tmp 47) 78 5 (.int .u8 0) 1 rfl Try.underlying78 info5 rfl (by decide) (by omega) u5 x5_2 t104 [.int .u8 t104] (fun _ => True) (fun _ => False) rfl rfl ?aP (fun _ hk => hk.elim) ?aF ?aO ?aB ?aS ?aL ?_; (case aP => exact rfl); (case aB => exact (by repeat (first | (with_reducible first | exact HB.out | apply below_alloc | apply pw_below_drewN | apply below_drew1) | exact HB.out))); (case aF => exact (fun _ _ => trivial)); (case aO => exact (by (with_reducible repeat (first | apply Kd.R_alloc | apply Kd.R_drewN | apply Kd.R_drew)); exact HO_5.out)); (case aS => exact (below_size (by repeat (first | (with_reducible first | exact HB.out | apply below_alloc | apply pw_below_drewN | apply below_drew1) | exact HB.out)))); (case aL => have := LMc17.out; omega); intro v107 w20 ho hb hg hat; rw [← Ny106.out] at ho; have n0_ := Aside0.mk (hb); have n1_ := Aside0.mk (ho); clear HB; clear HO_5; have HB := n0_; have HO108 := n1_; clear n0_ n1_; clear ho hb hg hat))
                              repeat (go_quiet (first | (go_at_call 62; (with_reducible refine (quote_hidden.calls k2 x0_2 t104 t105 _ A15.out).mono ?_); rintro e w' ⟨rfl, ⟨nd, rfl⟩⟩; (try first | exact ⟨rfl, _, World.drewN_drewN _ _ _⟩ | exact ⟨rfl, _, Eq.trans (World.drewN_drewN _ _ _) (congrArg (World.drewN _) (Nat.add_assoc _ _ _))⟩)) | ((with_reducible refine gate_builtin (b := .append) (xs := #[.tmp 45, .tmp 47]) rfl ?_); at_builtin; refine Kd.R_append (Kd.int .u8) (w0 := w) w.heap.size rfl (.tmp 45) (.tmp 47) 78 5 (.int .u8 0) 1 rfl Try.underlying78 info5 rfl (by decide) (by omega) u5 x5_2 t104 [.int .u8 t104] (fun _ => True) (fun _ => False) rfl rfl ?aP (fun _ hk => hk.elim) ?aF ?aO ?aB ?aS ?aL ?_; (case aP => exact rfl); (case aB => exact (by repeat (first | (with_reducible first | exact HB.out | apply below_alloc | apply pw_below_drewN | apply below_drew1) | exact HB.out))); (case aF => exact (fun _ _ => trivial)); (case aO => exact (by (with_reducible repeat (first | apply Kd.R_alloc | apply Kd.R_drewN | apply Kd.R_drew)); exact HO_5.out)); (case aS => exact (below_size (by repeat (first | (with_reducible first | exact HB.out | apply below_alloc | apply pw_below_drewN | apply below_drew1) | exact HB.out)))); (case aL => have := LMc17.out; omega); intro v107 w20 ho hb hg hat; rw [← Ny106.out] at ho; have n0_ := Aside0.mk (hb); have n1_ := Aside0.mk (ho); clear HB; clear HO_5; have HB := n0_; have HO108 := n1_; clear n0_ n1_; clear ho hb hg hat)); try go_wp2_with (first | (go_at_call 62; (with_reducible refine (quote_hidden.calls k2 x0_2 t104 t105 _ A15.out).mono ?_); rintro e w' ⟨rfl, ⟨nd, rfl⟩⟩; (try first | exact ⟨rfl, _, World.drewN_drewN _ _ _⟩ | exact ⟨rfl, _, Eq.trans (World.drewN_drewN _ _ _) (congrArg (World.drewN _) (Nat.add_assoc _ _ _))⟩)) | ((with_reducible refine gate_builtin (b := .append) (xs := #[.tmp 45, .tmp 47]) rfl ?_); at_builtin; refine Kd.R_append (Kd.int .u8) (w0 := w) w.heap.size rfl (.tmp 45) (.tmp 47) 78 5 (.int .u8 0) 1 rfl Try.underlying78 info5 rfl (by decide) (by omega) u5 x5_2 t104 [.int .u8 t104] (fun _ => True) (fun _ => False) rfl rfl ?aP (fun _ hk => hk.elim) ?aF ?aO ?aB ?aS ?aL ?_; (case aP => exact rfl); (case aB => exact (by repeat (first | (with_reducible first | exact HB.out | apply below_alloc | apply pw_below_drewN | apply below_drew1) | exact HB.out))); (case aF => exact (fun _ _ => trivial)); (case aO => exact (by (with_reducible repeat (first | apply Kd.R_alloc | apply Kd.R_drewN | apply Kd.R_drew)); exact HO_5.out)); (case aS => exact (below_size (by repeat (first | (with_reducible first | exact HB.out | apply below_alloc | apply pw_below_drewN | apply below_drew1) | exact HB.out)))); (case aL => have := LMc17.out; omega); intro v107 w20 ho hb hg hat; rw [← Ny106.out] at ho; have n0_ := Aside0.mk (hb); have n1_ := Aside0.mk (ho); clear HB; clear HO_5; have HB := n0_; have HO108 := n1_; clear n0_ n1_; clear ho hb hg hat)))
                              go_roundg k2
                              case measure => have := HJ1.out; have := HK2.out; omega
                              case rel => exact ⟨(x0_2.extract (t105 : Int).toNat x0_2.size), (y106), (by first | rfl | (simp; done) | (simp [*]; done)), H', ⟨by have := HJ1.out; have := HK2.out; omega⟩, ⟨by (with_reducible repeat (first | apply Kd.R_alloc | apply Kd.R_drewN | apply Kd.R_drew)); exact HO108.out⟩, ⟨by repeat (first | (with_reducible first | exact HB.out | apply below_alloc | apply pw_below_drewN | apply below_drew1) | exact HB.out)⟩⟩
                            · rw [if_neg c19] at H
                              exact absurd H (by simp)
                          · rw [if_neg c18] at H
                            exact absurd H (by simp)
                        · rw [if_neg c17] at H
                          exact absurd H (by simp)
                    · rw [if_neg c14] at H
                      have c14b0 : ((bt x0_2 0) == 92) = false := beq_eq_false_iff_ne.mpr c14
                      have c14b1 : ((bt x0_2 0) != 92) = true := bne_iff_ne.mpr c14
                      have HC21 := Aside0.mk H
                      clear H
                      have p10 : 0 ≤ (0 : Int) := (by omega)
                      have q10 : 0 < x0_2.size := (by have : (0 : Int) < (x0_2.size : Int) := of_decide_eq_true (by first | (with_reducible assumption) | assumption); omega)
                      have hx10 : ∀ h : 0 < x0_2.size, ((x0_2[0]'h).toNat : Int) = bt x0_2 0 := bt_at x0_2 0
                      clear p10
                      have qi10 : (0 < (x0_2.size : Int)) = True := eq_true (of_decide_eq_true (by first | (with_reducible assumption) | assumption))
                      replace q10 := eq_true q10
                      go_upto_region 11 with (fail)
                      repeat (go_quiet (fail); go_upto_region 11 with (fail))
                      go_cut [36] (fun v36 wc => ∃ (kq : Nat) (x36_20 : Bool), v36 = .bool x36_20 ∧ Aside0 (quote_Read.j2 kq x0_2 x5_2 (bt x0_2 0) 1 x36_20 = some (r1, r2, r3)) ∧ Aside0 (kq ≤ k2) ∧ Aside0 (Kd.R (Kd.int .u8) 5 wc w.heap.size (fun _ => True) u5 x5_2) ∧ Aside0 (Below w.heap.size w wc))
                      case first =>
                        have H := HC21.out
                        clear HC21
                        by_cases c22 : (bt x0_2 0) < 32
                        · rw [if_pos c22] at H
                          have c22b0 : decide ((bt x0_2 0) < 32) = true := decide_eq_true c22
                          clear c22
                          (first | rw [c22b0] | (simp only [i64_w, i32_w]; rw [c22b0]) | skip)
                          have H' := Aside0.mk H
                          clear H
                          go_wp2
                          repeat (first | (go_quiet (fail); try go_wp2) | (go_region; try go_wp2))
                          go_meet
                          case rel => exact ⟨_, (true), (by first | rfl | (simp; done) | (simp [*]; done)), H', ⟨by have := HJ1.out; have := HK2.out; first | omega | exact Nat.le_refl _⟩, ⟨by (with_reducible repeat (first | apply Kd.R_alloc | apply Kd.R_drewN | apply Kd.R_drew)); exact HO_5.out⟩, ⟨by repeat (first | (with_reducible first | exact HB.out | apply below_alloc | apply pw_below_drewN | apply below_drew1) | exact HB.out)⟩⟩
                        · rw [if_neg c22] at H
                          have c22b0 : decide ((bt x0_2 0) < 32) = false := decide_eq_false c22
                          clear c22
                          (first | rw [c22b0] | (simp only [i64_w, i32_w]; rw [c22b0]) | skip)
                          have H' := Aside0.mk H
                          clear H
                          go_wp2
                          repeat (first | (go_quiet (fail); try go_wp2) | (go_region; try go_wp2))
                          go_meet
                          case rel => exact ⟨_, (((bt x0_2 0) == 127)), (by first | rfl | (simp; done) | (simp [*]; done)), H', ⟨by have := HJ1.out; have := HK2.out; first | omega | exact Nat.le_refl _⟩, ⟨by (with_reducible repeat (first | apply Kd.R_alloc | apply Kd.R_drewN | apply Kd.R_drew)); exact HO_5.out⟩, ⟨by repeat (first | (with_reducible first | exact HB.out | apply below_alloc | apply pw_below_drewN | apply below_drew1) | exact HB.out)⟩⟩
                      case rest =>
                        clear HC21
                        try clear c1
                        try clear p1
                        try clear q1
                        try clear hx1
                        try clear hcv1
                        try clear qi1
                        try clear c2
                        try clear p2
                        try clear c3
                        try clear c3b0
                        try clear c3b1
                        try clear c4
                        try clear c4b0
                        try clear c4b1
                        try clear p5
                        try clear q5
                        try clear hx5
                        try clear qi5
                        try clear c6
                        try clear c7
                        try clear c7b0
                        try clear c7b1
                        try clear c8
                        try clear c8b0
                        try clear c8b1
                        try clear c9
                        try clear c9b0
                        try clear c9b1
                        try clear p10
                        try clear q10
                        try clear hx10
                        try clear qi10
                        try clear c11
                        try clear c11b0
                        try clear c11b1
                        try clear c12
                        try clear c12b0
                        try clear c12b1
                        try clear hcv13
                        try clear c14
                        try clear c14b0
                        try clear c14b1
                        try clear c16
                        try clear c16b0
                        try clear c16b1
                        try clear c17
                        try clear c18
                        try clear c18b0
                        try clear c18b1
                        try clear c19
                        try clear c19b0
                        try clear c19b1
                        try clear c22
                        try clear c22b0
                        try clear p10
                        try clear p2
                        try clear p5
                        try clear q10
                        try clear q5
                        obtain ⟨kq, x36_20, rfl, HA, HJ20, HO_5, HB⟩ := hcut
                        cases kq with
                        | zero => exact absurd HA.out (by simp [quote_Read.j2])
                        | succ kj20 =>
                          have H := HA.out
                          clear HA
                          simp only [quote_Read.j2] at H
                          by_cases c23 : x36_20 = true
                          · subst c23
                            have H1 : (some ((⟨#[]⟩ : ByteArray), (⟨#[]⟩ : ByteArray), 6)) = some (r1, r2, r3) := by rw [if_pos rfl] at H; exact H
                            clear H
                            have H := H1
                            clear H1
                            simp only [Option.some.injEq, Prod.mk.injEq] at H
                            obtain ⟨rfl, rfl, rfl⟩ := H
                            go_wp2
                            repeat (first | (go_quiet (fail); try go_wp2) | (go_region; try go_wp2))
                            go_ret3
                            exact ⟨by first | rfl | (simp [errW_none, errW_some] <;> rfl) | (simp [*, errW_none, errW_some] <;> rfl), by repeat (first | (with_reducible first | exact HB.out | apply below_alloc | apply pw_below_drewN | apply below_drew1) | exact HB.out)⟩
                          · replace c23 := Bool.eq_false_iff.mpr c23
                            subst c23
                            have H1 : (if 1 = 0 then (some ((⟨#[]⟩ : ByteArray), (⟨#[]⟩ : ByteArray), 6)) else (if x5_2.length < 140737488355328 then (if 0 ≤ 1 then (if 1 ≤ (x0_2.size : Int) then (quote_Read.l0 kj20 (x0_2.extract (1 : Int).toNat x0_2.size) (x5_2 ++ [(bt x0_2 0)])) else (none)) else (none)) else (none))) = some (r1, r2, r3) := by rw [if_neg (show ¬ (false = true) by decide)] at H; exact H
                            clear H
                            have H := H1
                            clear H1
                            rw [if_neg (by decide)] at H
                            by_cases c24 : x5_2.length < 140737488355328
                            · rw [if_pos c24] at H
                              have LMc24 := Aside0.mk c24
                              clear c24
                              obtain ⟨y109, hy109⟩ : ∃ y_ : List Int, y_ = (x5_2 ++ [(bt x0_2 0)]) := ⟨_, rfl⟩
                              replace H : (if 0 ≤ 1 then (if 1 ≤ (x0_2.size : Int) then (quote_Read.l0 kj20 (x0_2.extract (1 : Int).toNat x0_2.size) y109) else (none)) else (none)) = some (r1, r2, r3) := by first | (rw [hy109]; with_reducible exact H) | (have H2_ := (Option.bind_some _ _).symm.trans H; rw [hy109]; with_reducible exact H2_) | (have H2_ := (Option.bind_some _ _).symm.trans H; with_reducible exact H2_) | with_reducible exact H | (rw [hy109]; exact H) | exact H
                              have Ny109 := Aside0.mk hy109
                              clear hy109
                              rw [if_pos (by decide)] at H
                              by_cases c25 : 1 ≤ (x0_2.size : Int)
                              · rw [if_pos c25] at H
                                have c25b0 := eq_true c25
                                have c25b1 : decide (1 ≤ (x0_2.size : Int)) = true := decide_eq_true c25
                                clear c25
                                have H' := Aside0.mk H
                                clear H
                                go_wp2_with (first | ((with_reducible refine gate_builtin (b := .append) (xs := #[.tmp 45, .tmp 47]) rfl ?_); at_builtin; refine Kd.R_append (Kd.int .u8) (w0 := w) w.heap.size rfl (.tmp 45) (.tmp 47) 78 5 (.int .u8 0) 1 rfl Try.underlying78 info5 rfl (by decide) (by omega) u5 x5_2 (bt x0_2 0) [.int .u8 (bt x0_2 0)] (fun _ => True) (fun _ => False) rfl rfl ?aP (fun _ hk => hk.elim) ?aF ?aO ?aB ?aS ?aL ?_; (case aP => exact rfl); (case aB => exact (by repeat (first | (with_reducible first | exact HB.out | apply below_alloc | apply pw_below_drewN | apply below_drew1) | exact HB.out))); (case aF => exact (fun _ _ => trivial)); (case aO => exact (by (with_reducible repeat (first | apply Kd.R_alloc | apply Kd.R_drewN | apply Kd.R_drew)); exact HO_5.out)); (case aS => exact (below_size (by repeat (first | (with_reducible first | exact HB.out | apply below_alloc | apply pw_below_drewN | apply below_drew1) | exact HB.out)))); (case aL => have := LMc24.out; omega); intro v110 w26 ho hb hg hat; rw [← Ny109.out] at ho; have n0_ := Aside0.mk (hb); have n1_ := Aside0.mk (ho); clear HB; clear HO_5; have HB := n0_; have HO111 := n1_; clear n0_ n1_; clear ho hb hg hat))
                                repeat (go_quiet (first | ((with_reducible refine gate_builtin (b := .append) (xs := #[.tmp 45, .tmp 47]) rfl ?_); at_builtin; refine Kd.R_append (Kd.int .u8) (w0 := w) w.heap.size rfl (.tmp 45) (.tmp 47) 78 5 (.int .u8 0) 1 rfl Try.underlying78 info5 rfl (by decide) (by omega) u5 x5_2 (bt x0_2 0) [.int .u8 (bt x0_2 0)] (fun _ => True) (fun _ => False) rfl rfl ?aP (fun _ hk => hk.elim) ?aF ?aO ?aB ?aS ?aL ?_; (case aP => exact rfl); (case aB => exact (by repeat (first | (with_reducible first | exact HB.out | apply below_alloc | apply pw_below_drewN | apply below_drew1) | exact HB.out))); (case aF => exact (fun _ _ => trivial)); (case aO => exact (by (with_reducible repeat (first | apply Kd.R_alloc | apply Kd.R_drewN | apply Kd.R_drew)); exact HO_5.out)); (case aS => exact (below_size (by repeat (first | (with_reducible first | exact HB.out | apply below_alloc | apply pw_below_drewN | apply below_drew1) | exact HB.out)))); (case aL => have := LMc24.out; omega); intro v110 w26 ho hb hg hat; rw [← Ny109.out] at ho; have n0_ := Aside0.mk (hb); have n1_ := Aside0.mk (ho); clear HB; clear HO_5; have HB := n0_; have HO111 := n1_; clear n0_ n1_; clear ho hb hg hat)); try go_wp2_with (first | ((with_reducible refine gate_builtin (b := .append) (xs := #[.tmp 45, .tmp 47]) rfl ?_); at_builtin; refine Kd.R_append (Kd.int .u8) (w0 := w) w.heap.size rfl (.tmp 45) (.tmp 47) 78 5 (.int .u8 0) 1 rfl Try.underlying78 info5 rfl (by decide) (by omega) u5 x5_2 (bt x0_2 0) [.int .u8 (bt x0_2 0)] (fun _ => True) (fun _ => False) rfl rfl ?aP (fun _ hk => hk.elim) ?aF ?aO ?aB ?aS ?aL ?_; (case aP => exact rfl); (case aB => exact (by repeat (first | (with_reducible first | exact HB.out | apply below_alloc | apply pw_below_drewN | apply below_drew1) | exact HB.out))); (case aF => exact (fun _ _ => trivial)); (case aO => exact (by (with_reducible repeat (first | apply Kd.R_alloc | apply Kd.R_drewN | apply Kd.R_drew)); exact HO_5.out)); (case aS => exact (below_size (by repeat (first | (with_reducible first | exact HB.out | apply below_alloc | apply pw_below_drewN | apply below_drew1) | exact HB.out)))); (case aL => have := LMc24.out; omega); intro v110 w26 ho hb hg hat; rw [← Ny109.out] at ho; have n0_ := Aside0.mk (hb); have n1_ := Aside0.mk (ho); clear HB; clear HO_5; have HB := n0_; have HO111 := n1_; clear n0_ n1_; clear ho hb hg hat)))
                                go_roundg kj20
                                case measure => have := HJ1.out; have := HK2.out; have := HJ20.out; omega
                                case rel => exact ⟨(x0_2.extract (1 : Int).toNat x0_2.size), (y109), (by first | rfl | (simp; done) | (simp [*]; done)), H', ⟨by have := HJ1.out; have := HK2.out; have := HJ20.out; omega⟩, ⟨by (with_reducible repeat (first | apply Kd.R_alloc | apply Kd.R_drewN | apply Kd.R_drew)); exact HO111.out⟩, ⟨by repeat (first | (with_reducible first | exact HB.out | apply below_alloc | apply pw_below_drewN | apply below_drew1) | exact HB.out)⟩⟩
                              · rw [if_neg c25] at H
                                exact absurd H (by simp)
                            · rw [if_neg c24] at H
                              exact absurd H (by simp)
                · rw [if_neg c9] at H
                  exact absurd H (by simp)
        · rw [if_neg c7] at H
          exact absurd H (by simp)

/-! ### words: builder.inc -/
/-! ### strings.Builder: the writers, at a builder of the call's own -/
/-- Whatever block is neither the builder nor a plain row of bytes stands. -/
def BKept (e : TypeId) (g : Nat) (w w' : World) : Prop := ∀ i, i < w.heap.size → i ≠ g → (∀ cs, w.heap[i]? ≠ some (.cells cs e (0, 0))) → w'.heap[i]? = w.heap[i]?
theorem BKept.refl (e : TypeId) (g : Nat) (w : World) : BKept e g w w := fun _ _ _ _ => rfl
theorem BKept.trans {e : TypeId} {g : Nat} {w w1 w2 : World} (h : BKept e g w w1) (k : BKept e g w1 w2) (hs : w.heap.size ≤ w1.heap.size) : BKept e g w w2 := fun i hi hg hc => by
  have h1 := h i hi hg hc
  rw [k i (Nat.lt_of_lt_of_le hi hs) hg (fun cs hcs => hc cs (by rw [← h1]; exact hcs)), h1]
theorem BKept.setCell {e : TypeId} {g : Nat} {w w1 : World} (h : BKept e g w w1) (k : Nat) (v : Value) : BKept e g w (w1.setCell ⟨g, k, none⟩ v) := fun i hi hg hc => by
  rw [← h i hi hg hc]
  unfold World.setCell
  simp [Array.getElem?_modify, Ne.symm hg]
theorem BKept.grown {e : TypeId} {g : Nat} {w w1 : World} {base n : Nat} {v : Value} {xs : List Value} (ho : w.ownsRow base e 1 v n xs) (hg : w.grownBy w1 v.ownBlock) : BKept e g w w1 := fun i hi _ hc => by
  refine hg.block i hi (fun he => ?_)
  obtain ⟨cells, hcs⟩ := own_typed ho i he.symm
  exact hc cells hcs
theorem BKept.alloc {e : TypeId} {g : Nat} (w : World) (o : Obj) : BKept e g w (w.alloc o) := fun i hi _ _ => my_alloc_old w o i hi
theorem bi_size : (Try.prog.info? 89).map (·.size) = some 2 := by kernel_rfl
theorem bi_lies : liesAt Try.prog Try.prog.depth 89 (2 / Try.prog.cellsOf 89) 0 89 1 = true := by kernel_rfl
theorem bi_info : (Try.prog.info? 5).map (fun i => (i.zero, i.size, i.bytes)) = some (some (.int .u8 0), 1, 1) := by kernel_rfl
set_option maxHeartbeats 1000000 in
set_option maxRecDepth 100000 in
theorem bi_check_used (b : Nat) (w : World) (h0 : w.cell? ⟨b, 0, none⟩ = some (.pointer (some ⟨b, 0, none⟩))) :
    Calls Try.prog 86 #[.pointer (some ⟨b, 0, none⟩)] w fun e w' => e = .returned (.tuple #[]) ∧ w' = w := by
  obtain ⟨j, hj, _⟩ := Option.map_eq_some_iff.1 bi_size
  go_enter Try.func86, Try.ntmps86
  go_wp2
  rw [Lib.run_neq_ptr_same w _ Try.underlying87 hj]
  go_wp2
  go_end0
  exact ⟨rfl, rfl⟩
set_option maxHeartbeats 1000000 in
set_option maxRecDepth 100000 in
theorem bi_check_fresh (b : Nat) (w : World) (h0 : w.cell? ⟨b, 0, none⟩ = some (.pointer none)) (hsh : w.shape? b = some (89, 2)) (hfz : w.frozen? ⟨b, 0, none⟩ = false) :
    Calls Try.prog 86 #[.pointer (some ⟨b, 0, none⟩)] w fun e w' => e = .returned (.tuple #[]) ∧ w' = w.setCell ⟨b, 0, none⟩ (.pointer (some ⟨b, 0, none⟩)) := by
  obtain ⟨j, hj, hjs⟩ := Option.map_eq_some_iff.1 bi_size
  go_enter Try.func86, Try.ntmps86
  go_wp2
  rw [Lib.run_to_unsafe w ⟨b, 0, none⟩ Try.underlying87 Try.underlying128 hj (by rw [hjs]; decide) hsh (Nat.zero_lt_succ 1)]
  simp only [Result.andThen]
  rw [Oper.upon_value]
  go_wp2
  rw [run_callFunc_extern Try.func100 (by kernel_rfl) (by kernel_rfl) (by kernel_rfl) (e := Extern.AbiNoEscape.same) (by kernel_rfl)]
  rw [Lib.run_noEscape]
  simp only [Result.andThen]
  rw [Oper.upon_value]
  go_wp2
  rw [Lib.run_from_unsafe w ⟨b, 0, none⟩ Try.underlying128 Try.underlying87 hj hsh bi_lies]
  simp only [Result.andThen]
  rw [Oper.upon_value]
  go_wp2
  go_end0
  exact ⟨rfl, rfl⟩
theorem bi_check (B b : Nat) (bs : List Value) (w : World) (h : Lib.IsBuilder 89 5 B b bs w) :
    Calls Try.prog 86 #[.pointer (some ⟨b, 0, none⟩)] w fun e w' => e = .returned (.tuple #[]) ∧ Lib.BuilderAt 89 5 B b (.pointer (some ⟨b, 0, none⟩)) bs w' ∧ Below B w w' ∧ BKept 5 b w w' := by
  rcases h with h | h
  · refine (bi_check_fresh b w h.cell0 h.shape h.frozen0).mono ?_
    rintro e w' ⟨rfl, rfl⟩
    exact ⟨rfl, h.used _, (Below.refl B w).setCell (p := ⟨b, 0, none⟩) h.1 _, (BKept.refl _ _ _).setCell _ _⟩
  · refine (bi_check_used b w h.cell0).mono ?_
    rintro e w' ⟨rfl, rfl⟩
    exact ⟨rfl, h, Below.refl B _, BKept.refl _ _ _⟩
set_option maxHeartbeats 1000000 in
set_option maxRecDepth 100000 in
theorem bi_byte (B b : Nat) (bs : List Value) (c : Int) (w : World) (h : Lib.IsBuilder 89 5 B b bs w) (hlen : bs.length + 1 ≤ 140737488355328) (hBw : B ≤ w.heap.size) :
    Calls Try.prog 64 #[.pointer (some ⟨b, 0, none⟩), .int .u8 c] w fun e w' => e = .returned .nilIface ∧ Lib.IsBuilder 89 5 B b (bs ++ [.int .u8 c]) w' ∧ Below B w w' ∧ BKept 5 b w w' := by
  obtain ⟨i0, hi, hz0, hz1, hz2⟩ := info_parts bi_info
  have e240 : ∀ args w, (callFunc 86 args).run Try.prog w = .ok (.enter 86 args) w := enters_of Try.func86 (by kernel_rfl) rfl
  go_enter Try.func64, Try.ntmps64
  go_wp2_with (go_at_call 86; refine (bi_check B b bs _ h).mono ?_)
  rintro e w1 ⟨rfl, h1, hb1, hk1⟩
  obtain ⟨hB, v, hbk, hown, hne⟩ := h1
  have c0 : w1.cell? ⟨b, 0, none⟩ = some (.pointer (some ⟨b, 0, none⟩)) := by rw [Lib.cell_of_heap hbk]; rfl
  have c1 : w1.cell? ⟨b, 1, none⟩ = some v := by rw [Lib.cell_of_heap hbk]; rfl
  replace hk1 := Aside0.mk hk1
  go_wp2_with (at_builtin; refine wpList_append_own _ rfl _ _ 78 rfl B 5 i0 (.int .u8 0) 1 1 Try.underlying78 hi hz0 hz1 hz2 rfl (by decide) _ _ _ rfl (hown.alloc _) ⟨w1.heap.size, 0, none⟩ 1 1 [.int .u8 c] rfl rfl ?c1 ?c2 ?c3 ?c4 ?c5 ?_)
  case c1 =>
    intro j u hj
    match j, hj with
    | 0, hj => simp at hj; subst hj; simp [Addr.add]
  case c2 => intro u hu; simp at hu; subst hu; rfl
  case c3 => unfold maxLen; omega
  case c4 => omega
  case c5 => have := hb1.size; simp; omega
  intro v' w2 hown' hgrow _
  have hlt : b < w1.heap.size := (Array.getElem?_eq_some_iff.1 hbk).1
  have hb2 : w2.heap[b]? = some (.cells #[.pointer (some ⟨b, 0, none⟩), v] 89 (0, 0)) := by
    rw [hgrow.block b (by simp; omega) (fun e => hne e.symm), my_alloc_old w1 _ b hlt]
    exact hbk
  have d0 : w2.cell? ⟨b, 0, none⟩ = some (.pointer (some ⟨b, 0, none⟩)) := by rw [Lib.cell_of_heap hb2]; rfl
  have d1 : w2.cell? ⟨b, 1, none⟩ = some v := by rw [Lib.cell_of_heap hb2]; rfl
  have f1 : w2.frozen? ⟨b, 1, none⟩ = false := Lib.frozen_of_heap hb2 1
  have hkk := Aside0.mk ((hk1.out.trans ((BKept.alloc (e := 5) (g := b) w1 _).trans (BKept.grown (g := b) (hown.alloc _) hgrow) (by rw [my_alloc_size]; omega)) hb1.size).setCell 1 v')
  obtain ⟨g, cap, rfl⟩ : ∃ g cap, v' = .slice (some ⟨g, 0, none⟩) (bs.length + 1) cap := by
    rcases hown'.2 with ⟨_, h0⟩ | ⟨g, cap, cur, hv, _⟩
    · omega
    · exact ⟨g, cap, hv⟩
  go_wp2
  go_ret
  refine ⟨rfl, .inr ?_, ?_, hkk.out⟩
  · exact Lib.BuilderAt.put (T := 89) (e := 5) hB hb2 (bs' := bs ++ [.int .u8 c]) (by simpa using hown') (by decide)
  · exact ((hb1.alloc (by have := hb1.size; omega) _).grown hgrow (by have := hb1.size; simp; omega) (fun k hk => (hown.lt k hk).1)).setCell (p := ⟨b, 1, none⟩) hB _
set_option maxHeartbeats 1000000 in
set_option maxRecDepth 100000 in
theorem bi_str (B b : Nat) (bs : List Value) (s : ByteArray) (w : World) (h : Lib.IsBuilder 89 5 B b bs w) (hlen : bs.length + s.size ≤ 140737488355328) (hBw : B ≤ w.heap.size) :
    Calls Try.prog 87 #[.pointer (some ⟨b, 0, none⟩), .string s] w fun e w' => e = .returned (.tuple #[.int .i64 s.size, .nilIface]) ∧ Lib.IsBuilder 89 5 B b (bs ++ Lib.strCells s) w' ∧ Below B w w' ∧ BKept 5 b w w' := by
  obtain ⟨i0, hi, hz0, hz1, hz2⟩ := info_parts bi_info
  have e240 : ∀ args w, (callFunc 86 args).run Try.prog w = .ok (.enter 86 args) w := enters_of Try.func86 (by kernel_rfl) rfl
  go_enter Try.func87, Try.ntmps87
  go_wp2_with (go_at_call 86; refine (bi_check B b bs _ h).mono ?_)
  rintro e w1 ⟨rfl, h1, hb1, hk1⟩
  obtain ⟨hB, v, hbk, hown, hne⟩ := h1
  have c0 : w1.cell? ⟨b, 0, none⟩ = some (.pointer (some ⟨b, 0, none⟩)) := by rw [Lib.cell_of_heap hbk]; rfl
  have c1 : w1.cell? ⟨b, 1, none⟩ = some v := by rw [Lib.cell_of_heap hbk]; rfl
  replace hk1 := Aside0.mk hk1
  go_wp2_with (at_builtin; refine Lib.wpList_append_own_string _ rfl _ _ 78 9 rfl B 5 i0 Try.underlying78 Try.underlying9 hi hz0 hz1 hz2 _ _ _ rfl hown s rfl ?c3 ?c4 ?c5 ?_)
  case c3 => unfold maxLen; omega
  case c4 => omega
  case c5 => have := hb1.size; omega
  intro v' w2 hown' hgrow _
  have hlt : b < w1.heap.size := (Array.getElem?_eq_some_iff.1 hbk).1
  have hb2 : w2.heap[b]? = some (.cells #[.pointer (some ⟨b, 0, none⟩), v] 89 (0, 0)) := by
    rw [hgrow.block b hlt (fun e => hne e.symm)]
    exact hbk
  have d0 : w2.cell? ⟨b, 0, none⟩ = some (.pointer (some ⟨b, 0, none⟩)) := by rw [Lib.cell_of_heap hb2]; rfl
  have d1 : w2.cell? ⟨b, 1, none⟩ = some v := by rw [Lib.cell_of_heap hb2]; rfl
  have f1 : w2.frozen? ⟨b, 1, none⟩ = false := Lib.frozen_of_heap hb2 1
  have hkk := Aside0.mk ((hk1.out.trans (BKept.grown (g := b) hown hgrow) hb1.size).setCell 1 v')
  obtain ⟨ao, n', cap, rfl⟩ : ∃ ao n' cap, v' = .slice ao n' cap := by
    rcases hown'.2 with ⟨hv, _⟩ | ⟨g, cap, cur, hv, _⟩
    · exact ⟨_, _, _, hv⟩
    · exact ⟨_, _, _, hv⟩
  go_wp2
  go_ret2
  refine ⟨rfl, .inr ?_, ?_, hkk.out⟩
  · exact Lib.BuilderAt.put (T := 89) (e := 5) hB hb2 (bs' := bs ++ Lib.strCells s) (by simpa [Lib.strCells_length] using hown') (by decide)
  · exact (hb1.grown hgrow (by have := hb1.size; omega) (fun k hk => (hown.lt k hk).1)).setCell (p := ⟨b, 1, none⟩) hB _
theorem bi_new (B : Nat) (w : World) (h : B ≤ w.heap.size) : Lib.IsBuilder 89 5 B w.heap.size [] (w.alloc (.cells #[.pointer none, .slice none 0 0] 89)) := .inl ⟨h, _, my_alloc_new w _, ⟨rfl, .inl ⟨rfl, rfl⟩⟩, by simp [Value.ownBlock]⟩
theorem bi_below {B b : Nat} {bs : List Value} {w w1 : World} (h : Lib.IsBuilder 89 5 B b bs w) (hb : Below w.heap.size w w1) : Lib.IsBuilder 89 5 B b bs w1 := by
  have one : ∀ p, Lib.BuilderAt 89 5 B b p bs w → Lib.BuilderAt 89 5 B b p bs w1 := by
    rintro p ⟨h1, v, h2, h3, h4⟩
    exact ⟨h1, v, (hb.block b (Array.getElem?_eq_some_iff.1 h2).1).trans h2, pw_own_below h3 hb, h4⟩
  exact h.elim (fun x => .inl (one _ x)) (fun x => .inr (one _ x))

/-! ### words: strfn.inc -/
/-- A hexadecimal digit's byte. -/
def hexU (n : Nat) : UInt8 := if n < 10 then UInt8.ofNat (48 + n) else UInt8.ofNat (87 + n)
theorem byteCells_snoc (l : List UInt8) (c : UInt8) : Lib.byteCells (l ++ [c]) = Lib.byteCells l ++ [.int .u8 (c.toNat : Int)] := by simp [Lib.byteCells]
theorem byteCells_app (l m : List UInt8) : Lib.byteCells (l ++ m) = Lib.byteCells l ++ Lib.byteCells m := by simp [Lib.byteCells]
theorem strCells_app (l : List UInt8) (s : ByteArray) : Lib.byteCells l ++ Lib.strCells s = Lib.byteCells (l ++ s.toList) := by rw [Lib.strCells_eq, byteCells_app, ByteArray.toList_eq]
theorem hexU_at (n : Nat) (h : n < 16) (hn : n < (⟨#[48, 49, 50, 51, 52, 53, 54, 55, 56, 57, 97, 98, 99, 100, 101, 102]⟩ : ByteArray).size) : (⟨#[48, 49, 50, 51, 52, 53, 54, 55, 56, 57, 97, 98, 99, 100, 101, 102]⟩ : ByteArray)[n] = hexU n := by
  rcases n with _|_|_|_|_|_|_|_|_|_|_|_|_|_|_|_|n
  all_goals (first | rfl | (exfalso; omega))
theorem bi_byteU (B b : Nat) (l : List UInt8) (c : UInt8) (w : World) (h : Lib.IsBuilder 89 5 B b (Lib.byteCells l) w) (hlen : l.length + 1 ≤ 140737488355328) (hBw : B ≤ w.heap.size) :
    Calls Try.prog 64 #[.pointer (some ⟨b, 0, none⟩), .int .u8 (c.toNat : Int)] w fun e w' => e = .returned .nilIface ∧ Lib.IsBuilder 89 5 B b (Lib.byteCells (l ++ [c])) w' ∧ Below B w w' ∧ BKept 5 b w w' := by
  rw [byteCells_snoc]
  exact bi_byte B b _ _ w h (by rw [Lib.byteCells_length]; exact hlen) hBw
theorem bi_strU (B b : Nat) (l : List UInt8) (s : ByteArray) (w : World) (h : Lib.IsBuilder 89 5 B b (Lib.byteCells l) w) (hlen : l.length + s.size ≤ 140737488355328) (hBw : B ≤ w.heap.size) :
    Calls Try.prog 87 #[.pointer (some ⟨b, 0, none⟩), .string s] w fun e w' => e = .returned (.tuple #[.int .i64 s.size, .nilIface]) ∧ Lib.IsBuilder 89 5 B b (Lib.byteCells (l ++ s.toList)) w' ∧ Below B w w' ∧ BKept 5 b w w' := by
  rw [← strCells_app]
  exact bi_str B b _ s w h (by rw [Lib.byteCells_length]; exact hlen) hBw

/-! ### quote_Put: function 30 -/
/-- A byte within marks. -/
def qtOne (c : UInt8) : List UInt8 := if c.toNat < 32 ∨ c.toNat = 127 then [92, 117, 48, 48, hexU (c.toNat / 16), hexU (c.toNat % 16)] else if c.toNat = 34 ∨ c.toNat = 92 then [92, c] else [c]
theorem qtOne_len (c : UInt8) : (qtOne c).length ≤ 6 := by unfold qtOne; split <;> (try split) <;> simp
theorem qtAll_len (l : List UInt8) : (l.flatMap qtOne).length ≤ 6 * l.length := by
  induction l with
  | nil => simp
  | cons c l ih => rw [List.flatMap_cons, List.length_append, List.length_cons]; have := qtOne_len c; omega
set_option maxHeartbeats 2000000 in
set_option maxRecDepth 100000 in
theorem quote_put.calls (B b : Nat) (l : List UInt8) (c : UInt8) (w : World) (h : Lib.IsBuilder 89 5 B b (Lib.byteCells l) w) (hlen : l.length ≤ 100000000) (hBw : B ≤ w.heap.size) :
    Calls Try.prog 65 #[.pointer (some ⟨b, 0, none⟩), .int .u8 (c.toNat : Int)] w fun e w' => e = .returned (.tuple #[]) ∧ Lib.IsBuilder 89 5 B b (Lib.byteCells (l ++ qtOne c)) w' ∧ Below B w w' ∧ BKept 5 b w w' := by
  have hc := c.toNat_lt
  replace h := Aside0.mk h
  by_cases c1 : c.toNat < 32 ∨ c.toNat = 127
  · have hq : qtOne c = [92, 117, 48, 48, hexU (c.toNat / 16), hexU (c.toNat % 16)] := if_pos c1
    have hx1 : ∀ hn, (⟨#[48, 49, 50, 51, 52, 53, 54, 55, 56, 57, 97, 98, 99, 100, 101, 102]⟩ : ByteArray)[((c.toNat : Int) / 16).toNat]'hn = hexU (c.toNat / 16) := hexU_at (c.toNat / 16) (by omega)
    have hx2 : ∀ hn, (⟨#[48, 49, 50, 51, 52, 53, 54, 55, 56, 57, 97, 98, 99, 100, 101, 102]⟩ : ByteArray)[((c.toNat : Int) % 16).toNat]'hn = hexU (c.toNat % 16) := hexU_at (c.toNat % 16) (by omega)
    have hb3 : Go.bits .and .u8 (c.toNat : Int) 15 = (c.toNat : Int) % 16 := and_15 _ (by omega) (by omega)
    have hi1 : 0 ≤ (c.toNat : Int) / 16 := by omega
    have hi2 : (c.toNat : Int) / 16 < 16 := by omega
    have hi3 : 0 ≤ (c.toNat : Int) % 16 := by omega
    have hi4 : (c.toNat : Int) % 16 < 16 := by omega
    replace hq := Aside0.mk hq
    have c1b : decide ((c.toNat : Int) < 32) = true ∨ (decide ((c.toNat : Int) < 32) = false ∧ ((c.toNat : Int) == 127) = true) := by
      by_cases h32 : c.toNat < 32
      · exact .inl (decide_eq_true (by omega))
      · exact .inr ⟨decide_eq_false (by omega), beq_iff_eq.2 (by omega)⟩
    clear c1
    have e4 : (⟨#[92, 117, 48, 48]⟩ : ByteArray).toList = [92, 117, 48, 48] := by rw [ByteArray.toList_eq]
    replace e4 := Aside0.mk e4
    rcases c1b with c1b | ⟨c1b, c1c⟩
    all_goals
      go_enter Try.func65, Try.ntmps65
      go_wp2_with fail
      refine (bi_strU B b _ (⟨#[92, 117, 48, 48]⟩ : ByteArray) _ h.out (by show l.length + 4 ≤ _; omega) hBw).mono ?_
      rintro e w1 ⟨rfl, h1, hb1, hk1⟩
      replace h1 := Aside0.mk h1
      replace hk1 := Aside0.mk hk1
      replace hb1 := Aside0.mk hb1
      go_wp2_with fail
      refine (bi_byteU B b _ (hexU (c.toNat / 16)) _ h1.out (by rw [List.length_append, e4.out]; show l.length + 4 + 1 ≤ _; omega) (Nat.le_trans hBw hb1.out.size)).mono ?_
      rintro e w2 ⟨rfl, h2, hb2, hk2⟩
      replace h2 := Aside0.mk h2
      replace hk2 := Aside0.mk (hk1.out.trans hk2 hb1.out.size)
      replace hb2 := Aside0.mk (hb1.out.trans hb2)
      clear h1 hk1 hb1
      go_wp2_with fail
      refine (bi_byteU B b _ (hexU (c.toNat % 16)) _ h2.out (by rw [List.length_append, List.length_append, e4.out]; show l.length + 4 + 1 + 1 ≤ _; omega) (Nat.le_trans hBw hb2.out.size)).mono ?_
      rintro e w3 ⟨rfl, h3, hb3', hk3⟩
      replace h3 := Aside0.mk h3
      replace hk3 := Aside0.mk (hk2.out.trans hk3 hb2.out.size)
      replace hb3' := Aside0.mk (hb2.out.trans hb3')
      clear h2 hk2 hb2
      go_wp2_with fail
      first | go_end0 | ((try simp only [Exit.inBlock, Exit.then]); refine bodyPost_ret (results_none rfl _ _ _) rfl ?_)
      refine ⟨rfl, ?_, hb3'.out, hk3.out⟩
      rw [hq.out]
      have h4 := h3.out
      rw [List.append_assoc, List.append_assoc] at h4
      rw [e4.out] at h4
      exact h4
  · have c1b : decide ((c.toNat : Int) < 32) = false := decide_eq_false (by omega)
    have c1c : ((c.toNat : Int) == 127) = false := beq_eq_false_iff_ne.2 (by omega)
    by_cases c2 : c.toNat = 34 ∨ c.toNat = 92
    · have hq : Aside0 (qtOne c = [92, c]) := ⟨(if_neg c1).trans (if_pos c2)⟩
      have c2b : ((c.toNat : Int) == 34) = true ∨ (((c.toNat : Int) == 34) = false ∧ ((c.toNat : Int) == 92) = true) := by
        rcases c2 with c2 | c2
        · exact .inl (beq_iff_eq.2 (by omega))
        · exact .inr ⟨beq_eq_false_iff_ne.2 (by omega), beq_iff_eq.2 (by omega)⟩
      clear c1 c2
      rcases c2b with c2b | ⟨c2b, c2c⟩
      all_goals
        go_enter Try.func65, Try.ntmps65
        go_wp2_with fail
        refine (bi_byteU B b _ (92 : UInt8) _ h.out (by omega) hBw).mono ?_
        rintro e w1 ⟨rfl, h1, hb1, hk1⟩
        replace h1 := Aside0.mk h1
        replace hk1 := Aside0.mk hk1
        replace hb1 := Aside0.mk hb1
        go_wp2_with fail
        refine (bi_byteU B b _ c _ h1.out (by rw [List.length_append]; show l.length + 1 + 1 ≤ _; omega) (Nat.le_trans hBw hb1.out.size)).mono ?_
        rintro e w2 ⟨rfl, h2, hb2, hk2⟩
        replace h2 := Aside0.mk h2
        replace hk2 := Aside0.mk (hk1.out.trans hk2 hb1.out.size)
        replace hb2 := Aside0.mk (hb1.out.trans hb2)
        clear h1 hk1 hb1
        go_wp2_with fail
        first | go_end0 | ((try simp only [Exit.inBlock, Exit.then]); refine bodyPost_ret (results_none rfl _ _ _) rfl ?_)
        refine ⟨rfl, ?_, hb2.out, hk2.out⟩
        rw [hq.out]
        have h4 := h2.out
        rw [List.append_assoc] at h4
        exact h4
    · have hq : Aside0 (qtOne c = [c]) := ⟨(if_neg c1).trans (if_neg c2)⟩
      have c2b : ((c.toNat : Int) == 34) = false := beq_eq_false_iff_ne.2 (by omega)
      have c2c : ((c.toNat : Int) == 92) = false := beq_eq_false_iff_ne.2 (by omega)
      clear c1 c2
      go_enter Try.func65, Try.ntmps65
      go_wp2_with fail
      refine (bi_byteU B b _ c _ h.out (by omega) hBw).mono ?_
      rintro e w1 ⟨rfl, h1, hb1, hk1⟩
      replace h1 := Aside0.mk h1
      replace hk1 := Aside0.mk hk1
      replace hb1 := Aside0.mk hb1
      go_wp2_with fail
      first | go_end0 | ((try simp only [Exit.inBlock, Exit.then]); refine bodyPost_ret (results_none rfl _ _ _) rfl ?_)
      refine ⟨rfl, ?_, hb1.out, hk1.out⟩
      rw [hq.out]
      exact h1.out
def quote_Put.f (a0 : ByteArray) : Option ByteArray := if a0.size ≤ 1000000 then some (ofL (34 :: (a0.toList.flatMap qtOne ++ [34]))) else none
set_option maxHeartbeats 2000000 in
set_option maxRecDepth 100000 in
theorem quote_Put.calls (a0 : ByteArray) (r : ByteArray) (w : World) (h : quote_Put.f a0 = some r) :
    Calls Try.prog 30 #[.string a0] w fun e w' => e = .returned (.string r) ∧ Below w.heap.size w w' := by
  unfold quote_Put.f at h
  by_cases hs : a0.size ≤ 1000000
  case neg => rw [if_neg hs] at h; exact absurd h (by simp)
  rw [if_pos hs] at h
  obtain rfl := Option.some.inj h
  clear h
  have kb := fun W => print_bytes (P := Try.prog) 9 78 5 Try.underlying9 Try.underlying78 Try.underlying5 a0 W
  have h0 := Aside0.mk (bi_new w.heap.size w (Nat.le_refl _))
  go_enter Try.func30, Try.ntmps30
  go_wp2_with fail
  refine (bi_byteU w.heap.size w.heap.size [] (34 : UInt8) _ h0.out (by show 0 + 1 ≤ _; omega) (by simp)).mono ?_
  rintro e w1 ⟨rfl, h1, hb1, hk1⟩
  replace hb1 := Aside0.mk (((Below.refl w.heap.size w).alloc (Nat.le_refl _) _).trans hb1)
  replace h1 := Aside0.mk h1
  clear h0 hk1
  go_wp2_with fail
  have hS : Aside0 ((Lib.bytesWorld w1 5 a0).heap[w1.heap.size]? = some (.cells (Lib.bytesCells w1 5 a0) 5 ((Lib.bytesCells w1 5 a0).size, (Lib.bytesCells w1 5 a0).size + 1))) := ⟨Lib.bytesWorld_at_new w1 5 a0⟩
  have hc : Aside0 (∀ k, k < a0.size → (Lib.bytesCells w1 5 a0)[k]? = some (.int .u8 (bt a0 k))) := ⟨fun k hk => by
    have h1 := my_bytes_cell w1 5 a0 k w1.heap.size rfl hk
    simpa [World.cell?, hS.out] using h1⟩
  have hbl : Aside0 (Below w.heap.size w (Lib.bytesWorld w1 5 a0)) := ⟨bytes_below hb1.out hb1.out.size 5 a0⟩
  have hB : Aside0 (Lib.IsBuilder 89 5 w.heap.size w.heap.size (Lib.byteCells [34]) (Lib.bytesWorld w1 5 a0)) := ⟨bi_below h1.out (bytes_below (Below.refl _ _) (Nat.le_refl _) 5 a0)⟩
  have hSlt : w.heap.size < w1.heap.size := by
    rcases h1.out with x | x
    · obtain ⟨_, v, h2, _, _⟩ := x; exact (Array.getElem?_eq_some_iff.1 h2).1
    · obtain ⟨_, v, h2, _, _⟩ := x; exact (Array.getElem?_eq_some_iff.1 h2).1
  clear h1 hb1 kb
  generalize Lib.bytesCells w1 5 a0 = cs at hS hc
  generalize hSS : w1.heap.size = S at hS hSlt
  go_loopw [10] (fun i wr => ∃ k : Nat, k ≤ a0.size ∧ i = .int .i64 k ∧ Aside0 (Lib.IsBuilder 89 5 w.heap.size w.heap.size (Lib.byteCells (34 :: (a0.toList.take k).flatMap qtOne)) wr) ∧ Aside0 (wr.heap[S]? = some (.cells cs 5 (cs.size, cs.size + 1))) ∧ Aside0 (Below w.heap.size w wr)) (fun i _ => a0.size - (intOf i).toNat)
  case atStart => exact ⟨0, Nat.zero_le _, rfl, hB, hS, hbl⟩
  case round =>
    obtain ⟨k, hk, rfl, hB, hS, hbl⟩ := hrel
    have hlen : (34 :: (a0.toList.take k).flatMap qtOne).length ≤ 6 * k + 1 := by
      have := qtAll_len (a0.toList.take k)
      rw [List.length_take, ← ba_size] at this
      rw [List.length_cons]; omega
    by_cases hkl : k < a0.size
    · have hcell := my_cell_of hS.out (hc.out k hkl)
      have hl : k < a0.toList.length := by rw [← ba_size]; exact hkl
      have hbt := bt_get a0 k hl
      have htk := List.take_succ_eq_append_getElem hl
      generalize a0.toList[k] = c at hbt htk
      rw [hbt] at hcell
      replace htk := Aside0.mk htk
      clear hbt
      go_wp2_with fail
      refine (quote_put.calls w.heap.size w.heap.size _ c _ hB.out (by omega) hbl.out.size).mono ?_
      rintro e w2 ⟨rfl, h2, hb2, hk2⟩
      have hS2 : Aside0 (w2.heap[S]? = some (.cells cs 5 (cs.size, cs.size + 1))) := ⟨(hk2 S (Array.getElem?_eq_some_iff.1 hS.out).1 (Nat.ne_of_gt hSlt) (fun cs' he => by rw [hS.out] at he; injection he with he; injection he with _ _ h3; simp at h3)).trans hS.out⟩
      replace h2 := Aside0.mk h2
      replace hb2 := Aside0.mk (hbl.out.trans hb2)
      have h3 : Aside0 (Lib.IsBuilder 89 5 w.heap.size w.heap.size (Lib.byteCells (34 :: (a0.toList.take (k + 1)).flatMap qtOne)) w2) := ⟨by
        rw [htk.out, List.flatMap_append]
        have := h2.out
        rw [List.cons_append] at this
        simpa using this⟩
      clear hB hS hbl hk2 h2 htk hcell
      go_wp2
      go_roundw
      case rel => exact ⟨k + 1, by omega, by go_num, h3, hS2, hb2⟩
      case measure => simp [intOf]; omega
    · have hk2 : k = a0.size := by omega
      subst hk2
      have htk : a0.toList.take a0.size = a0.toList := by rw [ba_size]; exact List.take_length
      rw [htk] at hB hlen
      replace htk := Aside0.mk htk
      go_wp2_with fail
      refine (bi_byteU w.heap.size w.heap.size _ (34 : UInt8) _ hB.out (by omega) hbl.out.size).mono ?_
      rintro e w2 ⟨rfl, h2, hb2, hk2⟩
      replace h2 := Aside0.mk h2
      replace hb2 := Aside0.mk (hbl.out.trans hb2)
      clear hB hS hbl hk2 htk
      go_wp2_with fail
      refine (Try.Builder_String_any w.heap.size w.heap.size _ _ h2.out hb2.out.size).mono ?_
      rintro e w3 ⟨rfl, hb3⟩
      replace hb3 := Aside0.mk (hb2.out.trans hb3)
      clear h2 hb2
      go_wp2
      go_ret
      exact ⟨rfl, hb3.out⟩

end Go.Proofs.Ytfjneffmgmcdaaa.PQuo
