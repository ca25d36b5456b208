-- written by wip/myprint.py over the kit's print; not a printed text of print.sh
import Derived.Test.YtonipkgekhdogaaGreatDoorPBasx0
import Derived.Test.YtonipkgekhdogaaGreatDoorPBasx2
import Derived.Test.YtonipkgekhdogaaGreatDoorPBasx8
import Derived.Test.YtonipkgekhdogaaGreatDoorPBasx17
import Derived.Test.YtonipkgekhdogaaGreatDoorPBasx20
import Derived.Test.YtonipkgekhdogaaGreatDoorPBasx28
import Derived.Test.YtonipkgekhdogaaGreatDoorPBasx32
import Derived.Test.YtonipkgekhdogaaGreatDoorPBasx34
namespace Go.Proofs.YtonipkgekhdogaaGreatDoor.PBas
open Go.RowKit Go.Proofs.YtonipkgekhdogaaGreatDoorW.PrintWords Go.Proofs.YtonipkgekhdogaaGreatDoorW.PrintLast Go.Proofs.YtonipkgekhdogaaGreatDoorW.PrintMore
attribute [local go_sem] max2_int min2_int max_two min_two max_three min_three max_four min_four   -- for this text's walks alone
set_option linter.unusedVariables false
set_option linter.unusedSimpArgs false

/-! ### footbridgeref47_Pay: function 30 -/
mutual
def footbridgeref47_Pay.j0 : Nat → List (S73) → ByteArray → ByteArray → Int → Bool → Option ((List (S73)) × Int)
  | 0, _, _, _, _, _ => none
  | k + 1, x0, x1, x2, x3, x10 => if x10 = true then (some (x0, 7)) else (if x3 < 1 then (footbridgeref47_Pay.j1 k x0 x1 x2 x3 true) else (footbridgeref47_Pay.j1 k x0 x1 x2 x3 (decide (x3 > 1099511627776))))
def footbridgeref47_Pay.j1 : Nat → List (S73) → ByteArray → ByteArray → Int → Bool → Option ((List (S73)) × Int)
  | 0, _, _, _, _, _ => none
  | k + 1, x0, x1, x2, x3, x20 => if x20 = true then (some (x0, 3)) else ((footbridgeref47_Of.f k x0 x1).bind fun t309 => (if t309 < x3 then (some (x0, 21)) else ((footbridgeref47_key.f k x1).bind fun t310 => ((footbridgeref47_Of.f k x0 x1).bind fun t311 => ((footbridgeref47_set.f k x0 t310 (wrap64 (t311 - x3))).bind fun t312 => ((footbridgeref47_key.f k x2).bind fun t315 => ((footbridgeref47_Of.f k t312 x2).bind fun t316 => ((footbridgeref47_set.f k t312 t315 (wrap64 (t316 + x3))).bind fun t317 => (some (t317, 0))))))))))
end
def footbridgeref47_Pay.f (k : Nat) (l0 : List (S73)) (a1 : ByteArray) (a2 : ByteArray) (a3 : Int) : Option ((List (S73)) × Int) := (footbridgeref47_user.f k a1).bind fun t307 => (if t307 = true then ((footbridgeref47_user.f k a2).bind fun t308 => (footbridgeref47_Pay.j0 k l0 a1 a2 a3 (!t308))) else (footbridgeref47_Pay.j0 k l0 a1 a2 a3 true))
theorem footbridgeref47_Pay.mono_l : ∀ k, (∀ y0 y1 y2 y3 y4, LeO (footbridgeref47_Pay.j0 k y0 y1 y2 y3 y4) (footbridgeref47_Pay.j0 (k + 1) y0 y1 y2 y3 y4)) ∧ (∀ y0 y1 y2 y3 y4, LeO (footbridgeref47_Pay.j1 k y0 y1 y2 y3 y4) (footbridgeref47_Pay.j1 (k + 1) y0 y1 y2 y3 y4))
  | 0 => ⟨fun _ _ _ _ _ r h => by simp [footbridgeref47_Pay.j0] at h, fun _ _ _ _ _ r h => by simp [footbridgeref47_Pay.j1] at h⟩
  | k + 1 => by
    obtain ⟨ih0, ih1⟩ := footbridgeref47_Pay.mono_l k
    refine ⟨?_, ?_⟩
    · intro y0 y1 y2 y3 y4
      unfold footbridgeref47_Pay.j0
      repeat' first
      | (with_reducible exact ih0 _ _ _ _ _)
      | (with_reducible exact ih1 _ _ _ _ _)
      | (with_reducible exact footbridgeref47_Of.mono _ _ _)
      | (with_reducible exact footbridgeref47_key.mono _ _)
      | (with_reducible exact footbridgeref47_set.mono _ _ _ _)
      | (with_reducible exact footbridgeref47_user.mono _ _)
      | (with_reducible exact LeO.refl _)
      | (with_reducible exact LeO.none _)
      | (with_reducible refine LeO.ite ?_ ?_)
      | (with_reducible refine LeO.bind ?_ (fun _ => ?_))
      | exact ih0 _ _ _ _ _
      | exact ih1 _ _ _ _ _
      | exact footbridgeref47_Of.mono _ _ _
      | exact footbridgeref47_key.mono _ _
      | exact footbridgeref47_set.mono _ _ _ _
      | exact footbridgeref47_user.mono _ _
      | exact LeO.none _
      | refine LeO.ite ?_ ?_
      | refine LeO.bind ?_ (fun _ => ?_)
    · intro y0 y1 y2 y3 y4
      unfold footbridgeref47_Pay.j1
      repeat' first
      | (with_reducible exact ih0 _ _ _ _ _)
      | (with_reducible exact ih1 _ _ _ _ _)
      | (with_reducible exact footbridgeref47_Of.mono _ _ _)
      | (with_reducible exact footbridgeref47_key.mono _ _)
      | (with_reducible exact footbridgeref47_set.mono _ _ _ _)
      | (with_reducible exact footbridgeref47_user.mono _ _)
      | (with_reducible exact LeO.refl _)
      | (with_reducible exact LeO.none _)
      | (with_reducible refine LeO.ite ?_ ?_)
      | (with_reducible refine LeO.bind ?_ (fun _ => ?_))
      | exact ih0 _ _ _ _ _
      | exact ih1 _ _ _ _ _
      | exact footbridgeref47_Of.mono _ _ _
      | exact footbridgeref47_key.mono _ _
      | exact footbridgeref47_set.mono _ _ _ _
      | exact footbridgeref47_user.mono _ _
      | exact LeO.none _
      | refine LeO.ite ?_ ?_
      | refine LeO.bind ?_ (fun _ => ?_)
theorem footbridgeref47_Pay.mono : ∀ a0 a1 a2 a3 k, LeO (footbridgeref47_Pay.f k a0 a1 a2 a3) (footbridgeref47_Pay.f (k + 1) a0 a1 a2 a3) := by
  intro a0 a1 a2 a3 k
  obtain ⟨ih0, ih1⟩ := footbridgeref47_Pay.mono_l k
  unfold footbridgeref47_Pay.f
  repeat' first
      | (with_reducible exact ih0 _ _ _ _ _)
      | (with_reducible exact ih1 _ _ _ _ _)
      | (with_reducible exact footbridgeref47_Of.mono _ _ _)
      | (with_reducible exact footbridgeref47_key.mono _ _)
      | (with_reducible exact footbridgeref47_set.mono _ _ _ _)
      | (with_reducible exact footbridgeref47_user.mono _ _)
      | (with_reducible exact LeO.refl _)
      | (with_reducible exact LeO.none _)
      | (with_reducible refine LeO.ite ?_ ?_)
      | (with_reducible refine LeO.bind ?_ (fun _ => ?_))
      | exact ih0 _ _ _ _ _
      | exact ih1 _ _ _ _ _
      | exact footbridgeref47_Of.mono _ _ _
      | exact footbridgeref47_key.mono _ _
      | exact footbridgeref47_set.mono _ _ _ _
      | exact footbridgeref47_user.mono _ _
      | exact LeO.none _
      | refine LeO.ite ?_ ?_
      | refine LeO.bind ?_ (fun _ => ?_)
set_option maxHeartbeats 8000000 in
set_option maxRecDepth 100000 in
theorem footbridgeref47_Pay.calls (k : Nat) (P0_ : Nat → Prop) (A0 : Option Addr) (c0 : Nat) (l0 : List (S73)) (a1 : ByteArray) (a2 : ByteArray) (a3 : Int) (r1 : List (S73)) (r2 : Int) (w : World) (hs0 : Kd.V k73 73 w w.heap.size (fun k_ => P0_ k_) (.slice A0 l0.length c0) l0) (h : footbridgeref47_Pay.f k l0 a1 a2 a3 = some (r1, r2)) :
    Calls Tryz.prog 30 #[.slice A0 l0.length c0, .string a1, .string a2, .int .i64 a3] w fun e w' => ∃ v0_ : Value, e = .returned (.tuple #[v0_, .int .i64 r2]) ∧ Kd.V k73 73 w' w.heap.size (fun k_ => (P0_ k_ ∨ w.heap.size ≤ k_)) v0_ r1 ∧ Below w.heap.size w w' := by
  have HO0 := Aside0.mk (show Kd.V k73 73 w w.heap.size (fun k_ => (P0_ k_ ∨ w.heap.size ≤ k_)) (.slice A0 l0.length c0) l0 from Kd.V_mono hs0 (fun k_ hk => .inl hk))
  have HB := Aside0.mk (Below.refl w.heap.size w)
  have H : ((footbridgeref47_user.f k a1).bind fun t307 => (if t307 = true then ((footbridgeref47_user.f k a2).bind fun t308 => (footbridgeref47_Pay.j0 k l0 a1 a2 a3 (!t308))) else (footbridgeref47_Pay.j0 k l0 a1 a2 a3 true))) = some (r1, r2) := h
  clear h
  have HC5 := Aside0.mk H
  clear H
  go_enter Tryz.func30, Tryz.ntmps30
  go_upto_region 1 with (fail)
  go_cut [10] (fun v10 wc => ∃ (kq : Nat) (x10_4 : Bool), v10 = .bool x10_4 ∧ Aside0 (footbridgeref47_Pay.j0 kq l0 a1 a2 a3 x10_4 = some (r1, r2)) ∧ Aside0 (kq ≤ k) ∧ Aside0 (Kd.V k73 73 wc w.heap.size (fun k_ => (P0_ k_ ∨ w.heap.size ≤ k_)) (.slice A0 l0.length c0) l0) ∧ Aside0 (Below w.heap.size w wc))
  case first =>
    have H := HC5.out
    clear HC5
    replace H := Option.bind_eq_some_iff.mp H
    obtain ⟨t307, A60, H⟩ := H
    replace H : (if t307 = true then ((footbridgeref47_user.f k a2).bind fun t308 => (footbridgeref47_Pay.j0 k l0 a1 a2 a3 (!t308))) else (footbridgeref47_Pay.j0 k l0 a1 a2 a3 true)) = some (r1, r2) := H
    have A6 := Aside0.mk A60
    clear A60
    by_cases c7 : t307 = true
    · subst c7
      have H1 : ((footbridgeref47_user.f k a2).bind fun t308 => (footbridgeref47_Pay.j0 k l0 a1 a2 a3 (!t308))) = some (r1, r2) := by rw [if_pos rfl] at H; exact H
      clear H
      have H := H1
      clear H1
      replace H := Option.bind_eq_some_iff.mp H
      obtain ⟨t308, A80, H⟩ := H
      replace H : (footbridgeref47_Pay.j0 k l0 a1 a2 a3 (!t308)) = some (r1, r2) := H
      have A8 := Aside0.mk A80
      clear A80
      have H' := Aside0.mk H
      clear H
      go_wp2_with (first | ((with_reducible refine gate_callee (f := 57) rfl ?_); refine goesL_ (some 12) rfl rfl Tryz.func57 (by kernel_rfl) rfl #[.string a1] rfl (by (try simp only [List.map_toArray, List.map_cons, List.map_nil]); first | done | rfl | (simp only [List.length_drop, List.length_take]; rfl)) ?_; (with_reducible refine (footbridgeref47_user.calls k a1 true _ A6.out).mono ?_); rintro e w9 ⟨rfl, hb⟩; refine ⟨_, rfl, ?_⟩; have n0_ := Aside0.mk (Kd.V_below (by (with_reducible repeat (first | apply Kd.V_alloc | apply Kd.V_drewN | apply Kd.V_drew)); exact HO0.out) hb); have n1_ := Aside0.mk (below_step (by repeat (first | (with_reducible first | exact HB.out | apply below_alloc | apply pw_below_drewN | apply below_drew1) | exact HB.out)) hb); clear HO0; clear HB; have HO0 := n0_; have HB := n1_; clear n0_ n1_; (try clear hb); (try clear hb2); (try clear hk); (try clear hi)) | (go_at_call 57; (with_reducible refine (footbridgeref47_user.calls k a2 t308 _ A8.out).mono ?_); rintro e w10 ⟨rfl, hb⟩; have n0_ := Aside0.mk (Kd.V_below (by (with_reducible repeat (first | apply Kd.V_alloc | apply Kd.V_drewN | apply Kd.V_drew)); exact HO0.out) hb); have n1_ := Aside0.mk (below_step (by repeat (first | (with_reducible first | exact HB.out | apply below_alloc | apply pw_below_drewN | apply below_drew1) | exact HB.out)) hb); clear HO0; clear HB; have HO0 := n0_; have HB := n1_; clear n0_ n1_; (try clear hb); (try clear hb2); (try clear hk); (try clear hi)))
      go_meet
      case rel => exact ⟨_, (!t308), (by first | rfl | (simp; done) | (simp [*]; done)), H', ⟨by first | omega | exact Nat.le_refl _⟩, ⟨by (with_reducible repeat (first | apply Kd.V_alloc | apply Kd.V_drewN | apply Kd.V_drew)); exact HO0.out⟩, ⟨by repeat (first | (with_reducible first | exact HB.out | apply below_alloc | apply pw_below_drewN | apply below_drew1) | exact HB.out)⟩⟩
    · replace c7 := Bool.eq_false_iff.mpr c7
      subst c7
      have H1 : (footbridgeref47_Pay.j0 k l0 a1 a2 a3 true) = some (r1, r2) := by rw [if_neg (show ¬ (false = true) by decide)] at H; exact H
      clear H
      have H := H1
      clear H1
      have H' := Aside0.mk H
      clear H
      go_wp2_with (first | ((with_reducible refine gate_callee (f := 57) rfl ?_); refine goesL_ (some 12) rfl rfl Tryz.func57 (by kernel_rfl) rfl #[.string a1] rfl (by (try simp only [List.map_toArray, List.map_cons, List.map_nil]); first | done | rfl | (simp only [List.length_drop, List.length_take]; rfl)) ?_; (with_reducible refine (footbridgeref47_user.calls k a1 false _ A6.out).mono ?_); rintro e w11 ⟨rfl, hb⟩; refine ⟨_, rfl, ?_⟩; have n0_ := Aside0.mk (Kd.V_below (by (with_reducible repeat (first | apply Kd.V_alloc | apply Kd.V_drewN | apply Kd.V_drew)); exact HO0.out) hb); have n1_ := Aside0.mk (below_step (by repeat (first | (with_reducible first | exact HB.out | apply below_alloc | apply pw_below_drewN | apply below_drew1) | exact HB.out)) hb); clear HO0; clear HB; have HO0 := n0_; have HB := n1_; clear n0_ n1_; (try clear hb); (try clear hb2); (try clear hk); (try clear hi)))
      go_meet
      case rel => exact ⟨_, (true), (by first | rfl | (simp; done) | (simp [*]; done)), H', ⟨by first | omega | exact Nat.le_refl _⟩, ⟨by (with_reducible repeat (first | apply Kd.V_alloc | apply Kd.V_drewN | apply Kd.V_drew)); exact HO0.out⟩, ⟨by repeat (first | (with_reducible first | exact HB.out | apply below_alloc | apply pw_below_drewN | apply below_drew1) | exact HB.out)⟩⟩
  case rest =>
    clear HC5
    try clear p2
    try clear c3
    try clear c5
    try clear c7
    obtain ⟨kq, x10_4, rfl, HA, HJ4, HO_0, HB⟩ := hcut
    cases kq with
    | zero => exact absurd HA.out (by simp [footbridgeref47_Pay.j0])
    | succ kj4 =>
      have H := HA.out
      clear HA
      simp only [footbridgeref47_Pay.j0] at H
      by_cases c12 : x10_4 = true
      · subst c12
        have H1 : (some (l0, 7)) = some (r1, r2) := by rw [if_pos rfl] at H; exact H
        clear H
        have H := H1
        clear H1
        simp only [Option.some.injEq, Prod.mk.injEq] at H
        obtain ⟨rfl, rfl⟩ := H
        go_wp2
        go_ret2
        exact ⟨_, by first | rfl | (simp [errW_none, errW_some] <;> rfl) | (simp [*, errW_none, errW_some] <;> rfl), by (with_reducible repeat (first | apply Kd.V_alloc | apply Kd.V_drewN | apply Kd.V_drew)); exact HO_0.out, by repeat (first | (with_reducible first | exact HB.out | apply below_alloc | apply pw_below_drewN | apply below_drew1) | exact HB.out)⟩
      · replace c12 := Bool.eq_false_iff.mpr c12
        subst c12
        have H1 : (if a3 < 1 then (footbridgeref47_Pay.j1 kj4 l0 a1 a2 a3 true) else (footbridgeref47_Pay.j1 kj4 l0 a1 a2 a3 (decide (a3 > 1099511627776)))) = some (r1, r2) := by rw [if_neg (show ¬ (false = true) by decide)] at H; exact H
        clear H
        have H := H1
        clear H1
        have HC13 := Aside0.mk H
        clear H
        go_upto_region 3 with (fail)
        go_cut [20] (fun v20 wc => ∃ (kq : Nat) (x20_12 : Bool), v20 = .bool x20_12 ∧ Aside0 (footbridgeref47_Pay.j1 kq l0 a1 a2 a3 x20_12 = some (r1, r2)) ∧ Aside0 (kq ≤ kj4) ∧ Aside0 (Kd.V k73 73 wc w.heap.size (fun k_ => (P0_ k_ ∨ w.heap.size ≤ k_)) (.slice A0 l0.length c0) l0) ∧ Aside0 (Below w.heap.size w wc))
        case first =>
          have H := HC13.out
          clear HC13
          by_cases c14 : a3 < 1
          · rw [if_pos c14] at H
            have c14b0 : decide (a3 < 1) = true := decide_eq_true c14
            clear c14
            (first | rw [c14b0] | (simp only [i64_w, i32_w]; rw [c14b0]) | skip)
            have H' := Aside0.mk H
            clear H
            go_wp2
            go_meet
            case rel => exact ⟨_, (true), (by first | rfl | (simp; done) | (simp [*]; done)), H', ⟨by have := HJ4.out; first | omega | exact Nat.le_refl _⟩, ⟨by (with_reducible repeat (first | apply Kd.V_alloc | apply Kd.V_drewN | apply Kd.V_drew)); exact HO_0.out⟩, ⟨by repeat (first | (with_reducible first | exact HB.out | apply below_alloc | apply pw_below_drewN | apply below_drew1) | exact HB.out)⟩⟩
          · rw [if_neg c14] at H
            have c14b0 : decide (a3 < 1) = false := decide_eq_false c14
            clear c14
            (first | rw [c14b0] | (simp only [i64_w, i32_w]; rw [c14b0]) | skip)
            have H' := Aside0.mk H
            clear H
            go_wp2
            go_meet
            case rel => exact ⟨_, (decide (a3 > 1099511627776)), (by first | rfl | (simp; done) | (simp [*]; done)), H', ⟨by have := HJ4.out; first | omega | exact Nat.le_refl _⟩, ⟨by (with_reducible repeat (first | apply Kd.V_alloc | apply Kd.V_drewN | apply Kd.V_drew)); exact HO_0.out⟩, ⟨by repeat (first | (with_reducible first | exact HB.out | apply below_alloc | apply pw_below_drewN | apply below_drew1) | exact HB.out)⟩⟩
        case rest =>
          clear HC13
          try clear c1
          try clear p2
          try clear c3
          try clear c5
          try clear c7
          try clear c12
          try clear c14
          try clear c14b0
          try clear p2
          obtain ⟨kq, x20_12, rfl, HA, HJ12, HO_0, HB⟩ := hcut
          cases kq with
          | zero => exact absurd HA.out (by simp [footbridgeref47_Pay.j1])
          | succ kj12 =>
            have H := HA.out
            clear HA
            simp only [footbridgeref47_Pay.j1] at H
            by_cases c15 : x20_12 = true
            · subst c15
              have H1 : (some (l0, 3)) = some (r1, r2) := by rw [if_pos rfl] at H; exact H
              clear H
              have H := H1
              clear H1
              simp only [Option.some.injEq, Prod.mk.injEq] at H
              obtain ⟨rfl, rfl⟩ := H
              go_wp2
              go_ret2
              exact ⟨_, by first | rfl | (simp [errW_none, errW_some] <;> rfl) | (simp [*, errW_none, errW_some] <;> rfl), by (with_reducible repeat (first | apply Kd.V_alloc | apply Kd.V_drewN | apply Kd.V_drew)); exact HO_0.out, by repeat (first | (with_reducible first | exact HB.out | apply below_alloc | apply pw_below_drewN | apply below_drew1) | exact HB.out)⟩
            · replace c15 := Bool.eq_false_iff.mpr c15
              subst c15
              have H1 : ((footbridgeref47_Of.f kj12 l0 a1).bind fun t309 => (if t309 < a3 then (some (l0, 21)) else ((footbridgeref47_key.f kj12 a1).bind fun t310 => ((footbridgeref47_Of.f kj12 l0 a1).bind fun t311 => ((footbridgeref47_set.f kj12 l0 t310 (wrap64 (t311 - a3))).bind fun t312 => ((footbridgeref47_key.f kj12 a2).bind fun t315 => ((footbridgeref47_Of.f kj12 t312 a2).bind fun t316 => ((footbridgeref47_set.f kj12 t312 t315 (wrap64 (t316 + a3))).bind fun t317 => (some (t317, 0)))))))))) = some (r1, r2) := by rw [if_neg (show ¬ (false = true) by decide)] at H; exact H
              clear H
              have H := H1
              clear H1
              replace H := Option.bind_eq_some_iff.mp H
              obtain ⟨t309, A160, H⟩ := H
              replace H : (if t309 < a3 then (some (l0, 21)) else ((footbridgeref47_key.f kj12 a1).bind fun t310 => ((footbridgeref47_Of.f kj12 l0 a1).bind fun t311 => ((footbridgeref47_set.f kj12 l0 t310 (wrap64 (t311 - a3))).bind fun t312 => ((footbridgeref47_key.f kj12 a2).bind fun t315 => ((footbridgeref47_Of.f kj12 t312 a2).bind fun t316 => ((footbridgeref47_set.f kj12 t312 t315 (wrap64 (t316 + a3))).bind fun t317 => (some (t317, 0))))))))) = some (r1, r2) := H
              have A16 := Aside0.mk A160
              clear A160
              by_cases c17 : t309 < a3
              · rw [if_pos c17] at H
                have c17b0 : decide (t309 < a3) = true := decide_eq_true c17
                clear c17
                simp only [Option.some.injEq, Prod.mk.injEq] at H
                obtain ⟨rfl, rfl⟩ := H
                go_wp2_with (first | ((with_reducible refine gate_callee (f := 20) rfl ?_); refine goesL_ (some 31) rfl rfl Tryz.func20 (by kernel_rfl) rfl #[.slice A0 l0.length c0, .string a1] rfl (by (try simp only [List.map_toArray, List.map_cons, List.map_nil]); first | done | rfl | (simp only [List.length_drop, List.length_take]; rfl)) ?_; (with_reducible refine (footbridgeref47_Of.calls kj12 _ _ l0 a1 t309 _ ?side1 ?side2 A16.out).mono ?_); (case side1 => repeat (first | exact (Kd.V_reads' HO_0.out).2.2 | (with_reducible refine Kd.C_alloc ?_ _) | (with_reducible refine Kd.C_drewN ?_ _) | (with_reducible refine Kd.C_drew ?_))); (case side2 => exact (Kd.V_reads' HO_0.out).2.1); rintro e w18 ⟨rfl, hb⟩; refine ⟨_, rfl, ?_⟩; have n0_ := Aside0.mk (Kd.V_below (by (with_reducible repeat (first | apply Kd.V_alloc | apply Kd.V_drewN | apply Kd.V_drew)); exact HO_0.out) hb); have n1_ := Aside0.mk (below_step (by repeat (first | (with_reducible first | exact HB.out | apply below_alloc | apply pw_below_drewN | apply below_drew1) | exact HB.out)) hb); clear HO_0; clear HB; have HO_0 := n0_; have HB := n1_; clear n0_ n1_; (try clear hb); (try clear hb2); (try clear hk); (try clear hi)))
                go_ret2
                exact ⟨_, by first | rfl | (simp [errW_none, errW_some] <;> rfl) | (simp [*, errW_none, errW_some] <;> rfl), by (with_reducible repeat (first | apply Kd.V_alloc | apply Kd.V_drewN | apply Kd.V_drew)); exact HO_0.out, by repeat (first | (with_reducible first | exact HB.out | apply below_alloc | apply pw_below_drewN | apply below_drew1) | exact HB.out)⟩
              · rw [if_neg c17] at H
                have c17b0 : decide (t309 < a3) = false := decide_eq_false c17
                clear c17
                replace H := Option.bind_eq_some_iff.mp H
                obtain ⟨t310, A190, H⟩ := H
                replace H : ((footbridgeref47_Of.f kj12 l0 a1).bind fun t311 => ((footbridgeref47_set.f kj12 l0 t310 (wrap64 (t311 - a3))).bind fun t312 => ((footbridgeref47_key.f kj12 a2).bind fun t315 => ((footbridgeref47_Of.f kj12 t312 a2).bind fun t316 => ((footbridgeref47_set.f kj12 t312 t315 (wrap64 (t316 + a3))).bind fun t317 => (some (t317, 0))))))) = some (r1, r2) := H
                have A19 := Aside0.mk A190
                clear A190
                replace H := Option.bind_eq_some_iff.mp H
                obtain ⟨t311, A200, H⟩ := H
                replace H : ((footbridgeref47_set.f kj12 l0 t310 (wrap64 (t311 - a3))).bind fun t312 => ((footbridgeref47_key.f kj12 a2).bind fun t315 => ((footbridgeref47_Of.f kj12 t312 a2).bind fun t316 => ((footbridgeref47_set.f kj12 t312 t315 (wrap64 (t316 + a3))).bind fun t317 => (some (t317, 0)))))) = some (r1, r2) := H
                have A20 := Aside0.mk A200
                clear A200
                replace H := Option.bind_eq_some_iff.mp H
                obtain ⟨t312, A210, H⟩ := H
                replace H : ((footbridgeref47_key.f kj12 a2).bind fun t315 => ((footbridgeref47_Of.f kj12 t312 a2).bind fun t316 => ((footbridgeref47_set.f kj12 t312 t315 (wrap64 (t316 + a3))).bind fun t317 => (some (t317, 0))))) = some (r1, r2) := H
                have A21 := Aside0.mk A210
                clear A210
                replace H := Option.bind_eq_some_iff.mp H
                obtain ⟨t315, A220, H⟩ := H
                replace H : ((footbridgeref47_Of.f kj12 t312 a2).bind fun t316 => ((footbridgeref47_set.f kj12 t312 t315 (wrap64 (t316 + a3))).bind fun t317 => (some (t317, 0)))) = some (r1, r2) := H
                have A22 := Aside0.mk A220
                clear A220
                replace H := Option.bind_eq_some_iff.mp H
                obtain ⟨t316, A230, H⟩ := H
                replace H : ((footbridgeref47_set.f kj12 t312 t315 (wrap64 (t316 + a3))).bind fun t317 => (some (t317, 0))) = some (r1, r2) := H
                have A23 := Aside0.mk A230
                clear A230
                replace H := Option.bind_eq_some_iff.mp H
                obtain ⟨t317, A240, H⟩ := H
                replace H : (some (t317, 0)) = some (r1, r2) := H
                have A24 := Aside0.mk A240
                clear A240
                simp only [Option.some.injEq, Prod.mk.injEq] at H
                obtain ⟨rfl, rfl⟩ := H
                go_wp2_with (first | ((with_reducible refine gate_callee (f := 20) rfl ?_); refine goesL_ (some 31) rfl rfl Tryz.func20 (by kernel_rfl) rfl #[.slice A0 l0.length c0, .string a1] rfl (by (try simp only [List.map_toArray, List.map_cons, List.map_nil]); first | done | rfl | (simp only [List.length_drop, List.length_take]; rfl)) ?_; (with_reducible refine (footbridgeref47_Of.calls kj12 _ _ l0 a1 t309 _ ?side1 ?side2 A16.out).mono ?_); (case side1 => repeat (first | exact (Kd.V_reads' HO_0.out).2.2 | (with_reducible refine Kd.C_alloc ?_ _) | (with_reducible refine Kd.C_drewN ?_ _) | (with_reducible refine Kd.C_drew ?_))); (case side2 => exact (Kd.V_reads' HO_0.out).2.1); rintro e w25 ⟨rfl, hb⟩; refine ⟨_, rfl, ?_⟩; have n0_ := Aside0.mk (Kd.V_below (by (with_reducible repeat (first | apply Kd.V_alloc | apply Kd.V_drewN | apply Kd.V_drew)); exact HO_0.out) hb); have n1_ := Aside0.mk (below_step (by repeat (first | (with_reducible first | exact HB.out | apply below_alloc | apply pw_below_drewN | apply below_drew1) | exact HB.out)) hb); clear HO_0; clear HB; have HO_0 := n0_; have HB := n1_; clear n0_ n1_; (try clear hb); (try clear hb2); (try clear hk); (try clear hi)) | ((with_reducible refine gate_callee (f := 50) rfl ?_); refine goesL_ (some 37) rfl rfl Tryz.func50 (by kernel_rfl) rfl #[.string a1] rfl (by (try simp only [List.map_toArray, List.map_cons, List.map_nil]); first | done | rfl | (simp only [List.length_drop, List.length_take]; rfl)) ?_; (with_reducible refine (footbridgeref47_key.calls kj12 a1 t310 _ A19.out).mono ?_); rintro e w26 ⟨rfl, hb⟩; refine ⟨_, rfl, ?_⟩; have n0_ := Aside0.mk (Kd.V_below (by (with_reducible repeat (first | apply Kd.V_alloc | apply Kd.V_drewN | apply Kd.V_drew)); exact HO_0.out) hb); have n1_ := Aside0.mk (below_step (by repeat (first | (with_reducible first | exact HB.out | apply below_alloc | apply pw_below_drewN | apply below_drew1) | exact HB.out)) hb); clear HO_0; clear HB; have HO_0 := n0_; have HB := n1_; clear n0_ n1_; (try clear hb); (try clear hb2); (try clear hk); (try clear hi)) | ((with_reducible refine gate_callee (f := 20) rfl ?_); refine goesL_ (some 40) rfl rfl Tryz.func20 (by kernel_rfl) rfl #[.slice A0 l0.length c0, .string a1] rfl (by (try simp only [List.map_toArray, List.map_cons, List.map_nil]); first | done | rfl | (simp only [List.length_drop, List.length_take]; rfl)) ?_; (with_reducible refine (footbridgeref47_Of.calls kj12 _ _ l0 a1 t311 _ ?side1 ?side2 A20.out).mono ?_); (case side1 => repeat (first | exact (Kd.V_reads' HO_0.out).2.2 | (with_reducible refine Kd.C_alloc ?_ _) | (with_reducible refine Kd.C_drewN ?_ _) | (with_reducible refine Kd.C_drew ?_))); (case side2 => exact (Kd.V_reads' HO_0.out).2.1); rintro e w27 ⟨rfl, hb⟩; refine ⟨_, rfl, ?_⟩; have n0_ := Aside0.mk (Kd.V_below (by (with_reducible repeat (first | apply Kd.V_alloc | apply Kd.V_drewN | apply Kd.V_drew)); exact HO_0.out) hb); have n1_ := Aside0.mk (below_step (by repeat (first | (with_reducible first | exact HB.out | apply below_alloc | apply pw_below_drewN | apply below_drew1) | exact HB.out)) hb); clear HO_0; clear HB; have HO_0 := n0_; have HB := n1_; clear n0_ n1_; (try clear hb); (try clear hb2); (try clear hk); (try clear hi)) | ((with_reducible refine gate_callee (f := 58) rfl ?_); refine goesL_ (some 43) rfl rfl Tryz.func58 (by kernel_rfl) rfl #[.slice A0 l0.length c0, .string t310, .int .i64 (wrap64 (t311 - a3))] rfl (by (try simp only [List.map_toArray, List.map_cons, List.map_nil]); first | done | rfl | (simp only [List.length_drop, List.length_take]; rfl)) ?_; (with_reducible refine (footbridgeref47_set.calls kj12 (fun k_ => (P0_ k_ ∨ w.heap.size ≤ k_)) _ _ l0 t310 (wrap64 (t311 - a3)) t312 _ ?side1 A21.out).mono ?_); (case side1 => exact HO_0.out); rintro e w28 ⟨v313, rfl, ho0, hb⟩; refine ⟨_, rfl, ?_⟩; have n0_ := Aside0.mk (Kd.V_below (by (with_reducible repeat (first | apply Kd.V_alloc | apply Kd.V_drewN | apply Kd.V_drew)); exact HO_0.out) hb); have n1_ := Aside0.mk (Kd.V_lower (Kd.V_mono (ok' := fun k_ => (P0_ k_ ∨ w.heap.size ≤ k_)) ho0 (fun k_ hk_ => Or.elim hk_ (fun hs_ => hs_) (fun hn_ => (.inr (Nat.le_trans (below_size (by repeat (first | (with_reducible first | exact HB.out | apply below_alloc | apply pw_below_drewN | apply below_drew1) | exact HB.out))) hn_))))) (below_size (by repeat (first | (with_reducible first | exact HB.out | apply below_alloc | apply pw_below_drewN | apply below_drew1) | exact HB.out)))); have n2_ := Aside0.mk (below_step (by repeat (first | (with_reducible first | exact HB.out | apply below_alloc | apply pw_below_drewN | apply below_drew1) | exact HB.out)) hb); clear HO_0; clear HB; have HO_0 := n0_; have HO314 := n1_; have HB := n2_; clear n0_ n1_ n2_; (try clear hb); (try clear hb2); (try clear hk); (try clear hi); (try clear ho0)) | ((with_reducible refine gate_callee (f := 50) rfl ?_); refine goesL_ (some 46) rfl rfl Tryz.func50 (by kernel_rfl) rfl #[.string a2] rfl (by (try simp only [List.map_toArray, List.map_cons, List.map_nil]); first | done | rfl | (simp only [List.length_drop, List.length_take]; rfl)) ?_; (with_reducible refine (footbridgeref47_key.calls kj12 a2 t315 _ A22.out).mono ?_); rintro e w29 ⟨rfl, hb⟩; refine ⟨_, rfl, ?_⟩; have n0_ := Aside0.mk (Kd.V_below (by (with_reducible repeat (first | apply Kd.V_alloc | apply Kd.V_drewN | apply Kd.V_drew)); exact HO_0.out) hb); have n1_ := Aside0.mk (Kd.V_below (by (with_reducible repeat (first | apply Kd.V_alloc | apply Kd.V_drewN | apply Kd.V_drew)); exact HO314.out) hb); have n2_ := Aside0.mk (below_step (by repeat (first | (with_reducible first | exact HB.out | apply below_alloc | apply pw_below_drewN | apply below_drew1) | exact HB.out)) hb); clear HO_0; clear HO314; clear HB; have HO_0 := n0_; have HO314 := n1_; have HB := n2_; clear n0_ n1_ n2_; (try clear hb); (try clear hb2); (try clear hk); (try clear hi); obtain ⟨Ao30, co30, eo30⟩ := Kd.V_slice HO314.out; subst eo30) | ((with_reducible refine gate_callee (f := 20) rfl ?_); refine goesL_ (some 49) rfl rfl Tryz.func20 (by kernel_rfl) rfl #[.slice Ao30 t312.length co30, .string a2] rfl (by (try simp only [List.map_toArray, List.map_cons, List.map_nil]); first | done | rfl | (simp only [List.length_drop, List.length_take]; rfl)) ?_; (with_reducible refine (footbridgeref47_Of.calls kj12 _ _ t312 a2 t316 _ ?side1 ?side2 A23.out).mono ?_); (case side1 => repeat (first | exact (Kd.V_reads' HO314.out).2.2 | (with_reducible refine Kd.C_alloc ?_ _) | (with_reducible refine Kd.C_drewN ?_ _) | (with_reducible refine Kd.C_drew ?_))); (case side2 => exact (Kd.V_reads' HO314.out).2.1); rintro e w31 ⟨rfl, hb⟩; refine ⟨_, rfl, ?_⟩; have n0_ := Aside0.mk (Kd.V_below (by (with_reducible repeat (first | apply Kd.V_alloc | apply Kd.V_drewN | apply Kd.V_drew)); exact HO_0.out) hb); have n1_ := Aside0.mk (Kd.V_below (by (with_reducible repeat (first | apply Kd.V_alloc | apply Kd.V_drewN | apply Kd.V_drew)); exact HO314.out) hb); have n2_ := Aside0.mk (below_step (by repeat (first | (with_reducible first | exact HB.out | apply below_alloc | apply pw_below_drewN | apply below_drew1) | exact HB.out)) hb); clear HO_0; clear HO314; clear HB; have HO_0 := n0_; have HO314 := n1_; have HB := n2_; clear n0_ n1_ n2_; (try clear hb); (try clear hb2); (try clear hk); (try clear hi)) | ((with_reducible refine gate_callee (f := 58) rfl ?_); refine goesL_ (some 52) rfl rfl Tryz.func58 (by kernel_rfl) rfl #[.slice Ao30 t312.length co30, .string t315, .int .i64 (wrap64 (t316 + a3))] rfl (by (try simp only [List.map_toArray, List.map_cons, List.map_nil]); first | done | rfl | (simp only [List.length_drop, List.length_take]; rfl)) ?_; (with_reducible refine (footbridgeref47_set.calls kj12 (fun k_ => (P0_ k_ ∨ w.heap.size ≤ k_)) _ _ t312 t315 (wrap64 (t316 + a3)) t317 _ ?side1 A24.out).mono ?_); (case side1 => exact HO314.out); rintro e w32 ⟨v318, rfl, ho0, hb⟩; refine ⟨_, rfl, ?_⟩; have n0_ := Aside0.mk (Kd.V_below (by (with_reducible repeat (first | apply Kd.V_alloc | apply Kd.V_drewN | apply Kd.V_drew)); exact HO_0.out) hb); have n1_ := Aside0.mk (Kd.V_below (by (with_reducible repeat (first | apply Kd.V_alloc | apply Kd.V_drewN | apply Kd.V_drew)); exact HO314.out) hb); have n2_ := Aside0.mk (Kd.V_lower (Kd.V_mono (ok' := fun k_ => (P0_ k_ ∨ w.heap.size ≤ k_)) ho0 (fun k_ hk_ => Or.elim hk_ (fun hs_ => hs_) (fun hn_ => (.inr (Nat.le_trans (below_size (by repeat (first | (with_reducible first | exact HB.out | apply below_alloc | apply pw_below_drewN | apply below_drew1) | exact HB.out))) hn_))))) (below_size (by repeat (first | (with_reducible first | exact HB.out | apply below_alloc | apply pw_below_drewN | apply below_drew1) | exact HB.out)))); have n3_ := Aside0.mk (below_step (by repeat (first | (with_reducible first | exact HB.out | apply below_alloc | apply pw_below_drewN | apply below_drew1) | exact HB.out)) hb); clear HO_0; clear HO314; clear HB; have HO_0 := n0_; have HO314 := n1_; have HO319 := n2_; have HB := n3_; clear n0_ n1_ n2_ n3_; (try clear hb); (try clear hb2); (try clear hk); (try clear hi); (try clear ho0)))
                go_ret2
                exact ⟨_, by first | rfl | (simp [errW_none, errW_some] <;> rfl) | (simp [*, errW_none, errW_some] <;> rfl), by (with_reducible repeat (first | apply Kd.V_alloc | apply Kd.V_drewN | apply Kd.V_drew)); exact HO319.out, by repeat (first | (with_reducible first | exact HB.out | apply below_alloc | apply pw_below_drewN | apply below_drew1) | exact HB.out)⟩

/-! ### words: kget.inc -/
/-! ### stores: what is read behind a set, a del: plain -/
theorem getK_mem {l : List S73} (hs : sortK l) {p : S73} (hp : p ∈ l) : getK l p.f0 = (p.f1, true) ∧ hasK l p.f0 = true := by
  obtain ⟨A, B, rfl⟩ := List.append_of_mem hp
  have h := List.pairwise_append.1 hs
  have hA : ∀ a ∈ A, kLt a.f0 p.f0 = true := fun a ha => h.2.2 a ha p List.mem_cons_self
  have hB : ∀ b ∈ B, kLt b.f0 p.f0 = false := fun b hb => by
    cases e : kLt b.f0 p.f0 with
    | false => rfl
    | true =>
      have h3 := kLt_trans e (List.rel_of_pairwise_cons h.2.1 hb)
      rw [kLt_irr] at h3; cases h3
  exact ⟨getK_mid hA rfl hB, hasK_mid hA rfl hB⟩
theorem getK_none {l : List S73} {key : ByteArray} (h : ¬ hasK l key = true) : getK l key = ((⟨#[]⟩ : ByteArray), false) := getK_no (Bool.eq_false_iff.2 h)
theorem setK_keep {l : List S73} (hs : sortK l) {key : ByteArray} (value : ByteArray) {p : S73} (hp : p ∈ l) (hk : p.f0 ≠ key) : p ∈ setK l key value := by
  obtain ⟨A, B, hA, hB, h⟩ := decK hs key
  rcases h with ⟨_, x, hx, rfl⟩ | ⟨hn, rfl⟩
  · rw [setK_mid value hA hx hB]
    rcases List.mem_append.1 hp with hp | hp
    · exact List.mem_append_left _ hp
    · rcases List.mem_cons.1 hp with rfl | hp
      · exact absurd hx hk
      · exact List.mem_append_right _ (List.mem_cons_of_mem _ hp)
  · rw [setK_new value hA hB hn]
    rcases List.mem_append.1 hp with hp | hp
    · exact List.mem_append_left _ hp
    · exact List.mem_append_right _ (List.mem_cons_of_mem _ hp)
theorem delK_keep {l : List S73} (hs : sortK l) {key : ByteArray} {p : S73} (hp : p ∈ l) (hk : p.f0 ≠ key) : p ∈ delK l key := by
  by_cases hh : hasK l key = true
  · obtain ⟨A, B, hA, hB, h⟩ := decK hs key
    rcases h with ⟨_, x, hx, rfl⟩ | ⟨hn, rfl⟩
    · rw [delK_mid hA hx hB]
      rcases List.mem_append.1 hp with hp | hp
      · exact List.mem_append_left _ hp
      · rcases List.mem_cons.1 hp with rfl | hp
        · exact absurd hx hk
        · exact List.mem_append_right _ hp
    · rw [hn] at hh; cases hh
  · rw [delK_no hh]; exact hp
theorem hasK_setK {l : List S73} (hs : sortK l) {key k2 : ByteArray} (value : ByteArray) (h : k2 ≠ key) : hasK (setK l key value) k2 = hasK l k2 ∧ getK (setK l key value) k2 = getK l k2 := by
  by_cases hh : hasK l k2 = true
  · obtain ⟨p, hp, rfl⟩ := hasK_in hh
    have h1 := getK_mem hs hp
    have h2 := getK_mem (sortK_set hs key value) (setK_keep hs value hp h)
    exact ⟨h2.2.trans h1.2.symm, h2.1.trans h1.1.symm⟩
  · have h3 : ¬ hasK (setK l key value) k2 = true := fun e => by
      obtain ⟨p, hp, rfl⟩ := hasK_in e
      rcases mem_setK hp with rfl | hp
      · exact h rfl
      · exact hh (getK_mem hs hp).2
    rw [getK_none hh, getK_none h3, Bool.eq_false_iff.2 hh, Bool.eq_false_iff.2 h3]
    exact ⟨rfl, rfl⟩
theorem hasK_delK {l : List S73} (hs : sortK l) {key k2 : ByteArray} (h : k2 ≠ key) : hasK (delK l key) k2 = hasK l k2 ∧ getK (delK l key) k2 = getK l k2 := by
  by_cases hh : hasK l k2 = true
  · obtain ⟨p, hp, rfl⟩ := hasK_in hh
    have h1 := getK_mem hs hp
    have h2 := getK_mem (sortK_del hs key) (delK_keep hs hp h)
    exact ⟨h2.2.trans h1.2.symm, h2.1.trans h1.1.symm⟩
  · have h3 : ¬ hasK (delK l key) k2 = true := fun e => by
      obtain ⟨p, hp, rfl⟩ := hasK_in e
      exact hh (getK_mem hs (mem_delK hp)).2
    rw [getK_none hh, getK_none h3, Bool.eq_false_iff.2 hh, Bool.eq_false_iff.2 h3]
    exact ⟨rfl, rfl⟩
theorem hasK_gone {l : List S73} (hs : sortK l) (key : ByteArray) : hasK (delK l key) key = false := by
  by_cases hh : hasK l key = true
  · obtain ⟨A, B, hA, hB, h⟩ := decK hs key
    rcases h with ⟨_, x, hx, rfl⟩ | ⟨hn, rfl⟩
    · rw [delK_mid hA hx hB]
      refine hasK_not (fun p hp e => ?_)
      have h := List.pairwise_append.1 hs
      rcases List.mem_append.1 hp with hp | hp
      · have := hA p hp; rw [e, kLt_irr] at this; cases this
      · have := List.rel_of_pairwise_cons h.2.1 hp
        rw [hx, e, kLt_irr] at this; cases this
    · rw [hn] at hh; cases hh
  · rw [delK_no hh]; exact Bool.eq_false_iff.2 hh

/-! ### words: kext.inc -/
/-! ### stores that answer alike are alike: plain -/
theorem sortK_ext : ∀ (a b : List S73), sortK a → sortK b → (∀ p, p ∈ a ↔ p ∈ b) → a = b
  | [], [], _, _, _ => rfl
  | [], y :: b, _, _, h => absurd ((h y).2 List.mem_cons_self) (by simp)
  | x :: a, [], _, _, h => absurd ((h x).1 List.mem_cons_self) (by simp)
  | x :: a, y :: b, ha, hb, h => by
    have hxa := fun p (hp : p ∈ a) => List.rel_of_pairwise_cons ha hp
    have hyb := fun p (hp : p ∈ b) => List.rel_of_pairwise_cons hb hp
    have hxy : x = y := by
      rcases List.mem_cons.1 ((h x).1 List.mem_cons_self) with e | e
      · exact e
      · rcases List.mem_cons.1 ((h y).2 List.mem_cons_self) with e2 | e2
        · exact e2.symm
        · have := kLt_trans (hyb x e) (hxa y e2)
          rw [kLt_irr] at this; cases this
    subst hxy
    rw [sortK_ext a b (List.Pairwise.of_cons ha) (List.Pairwise.of_cons hb) (fun p => ?_)]
    constructor
    · intro hp
      rcases List.mem_cons.1 ((h p).1 (List.mem_cons_of_mem _ hp)) with rfl | e
      · have := hxa _ hp
        rw [kLt_irr] at this; cases this
      · exact e
    · intro hp
      rcases List.mem_cons.1 ((h p).2 (List.mem_cons_of_mem _ hp)) with rfl | e
      · have := hyb _ hp
        rw [kLt_irr] at this; cases this
      · exact e
theorem getK_iff {a : List S73} (ha : sortK a) (p : S73) : p ∈ a ↔ getK a p.f0 = (p.f1, true) := by
  constructor
  · intro hp; exact (getK_mem ha hp).1
  · intro e
    have hh : hasK a p.f0 = true := by
      unfold getK at e
      split at e
      · assumption
      · exact Bool.noConfusion (congrArg Prod.snd e : false = true)
    obtain ⟨q, hq, hqk⟩ := hasK_in hh
    have h2 := (getK_mem ha hq).1
    rw [hqk, e] at h2
    have h3 : p.f1 = q.f1 := congrArg Prod.fst h2
    obtain ⟨p0, p1⟩ := p
    obtain ⟨q0, q1⟩ := q
    simp only at hqk h3
    subst hqk h3
    exact hq
theorem sortK_get {a b : List S73} (ha : sortK a) (hb : sortK b) (h : ∀ k, getK a k = getK b k) : a = b :=
  sortK_ext a b ha hb (fun p => by rw [getK_iff ha, getK_iff hb, h])
theorem getK_setK {l : List S73} (hs : sortK l) (key value k2 : ByteArray) : getK (setK l key value) k2 = if k2 = key then (value, true) else getK l k2 := by
  by_cases h : k2 = key
  · rw [if_pos h, h]; exact getK_set hs key value
  · rw [if_neg h]; exact (hasK_setK hs value h).2
theorem getK_delK {l : List S73} (hs : sortK l) (key k2 : ByteArray) : getK (delK l key) k2 = if k2 = key then ((⟨#[]⟩ : ByteArray), false) else getK l k2 := by
  by_cases h : k2 = key
  · rw [if_pos h, h]; exact getK_no (hasK_gone hs key)
  · rw [if_neg h]; exact (hasK_delK hs h).2
theorem sortK_setC {l : List S73} (hs : sortK l) (key value : ByteArray) : sortK (setC l key value) := by
  unfold setC
  split
  · exact hs
  · exact sortK_set hs _ _
theorem getK_setC {l : List S73} (hs : sortK l) (key value k2 : ByteArray) : getK (setC l key value) k2 = if k2 = key ∧ ¬ (key.size > 65536 ∨ value.size > 65536) then (value, true) else getK l k2 := by
  unfold setC
  by_cases hb : key.size > 65536 ∨ value.size > 65536
  · rw [if_pos hb, if_neg (fun e => e.2 hb)]
  · rw [if_neg hb, getK_setK hs]
    by_cases h : k2 = key
    · rw [if_pos h, if_pos ⟨h, hb⟩]
    · rw [if_neg h, if_neg (fun e => h e.1)]

end Go.Proofs.YtonipkgekhdogaaGreatDoor.PBas
