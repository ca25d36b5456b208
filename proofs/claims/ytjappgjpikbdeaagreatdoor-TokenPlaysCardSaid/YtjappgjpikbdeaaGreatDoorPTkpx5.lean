/- A part of the walk of TokenPlays. No condition. -/
import Derived.Test.YtjappgjpikbdeaaGreatDoorPTkpx0
namespace Go.Proofs.YtjappgjpikbdeaaGreatDoor.PTkp
set_option maxRecDepth 100000
set_option maxHeartbeats 8000000
open Go.RowKit Go.Proofs.YtjappgjpikbdeaaGreatDoorW.PrintWords Go.Proofs.YtjappgjpikbdeaaGreatDoorW.PrintLast Go.Proofs.YtjappgjpikbdeaaGreatDoorW.PrintMore
attribute [local go_sem] max2_int min2_int max_two min_two max_three min_three max_four min_four   -- for this text's walks alone
set_option linter.unusedVariables false
set_option linter.unusedSimpArgs false
def footbridgeref09_at.l0 : Nat → List (S82) → ByteArray → Int → Option (Int)
 | 0, _, _, _ => none
 | k + 1, x0, x1, x5 => if x5 < (x0.length : Int) then (if 0 ≤ x5 then (if (Op.bytesLess (((rd_T82 x0 x5).f0).toList) x1.toList) = true then (footbridgeref09_at.l0 k x0 x1 (wrap64 (x5 + 1))) else (some x5)) else (none)) else (some x5)
def footbridgeref09_at.f (k : Nat) (l0 : List (S82)) (a1 : ByteArray) : Option (Int) := footbridgeref09_at.l0 k l0 a1 0
theorem footbridgeref09_at.mono_l : ∀ k, (∀ y0 y1 y2, LeO (footbridgeref09_at.l0 k y0 y1 y2) (footbridgeref09_at.l0 (k + 1) y0 y1 y2))
 | 0 => fun _ _ _ r h => by simp [footbridgeref09_at.l0] at h
 | k + 1 => by
  have ih0 := footbridgeref09_at.mono_l k
  ·intro y0 y1 y2
   unfold footbridgeref09_at.l0
   repeat' first
   | (with_reducible exact ih0 _ _ _)
   | (with_reducible exact LeO.refl _)
   | (with_reducible exact LeO.none _)
   | (with_reducible refine LeO.ite ?_ ?_)
   | (with_reducible refine LeO.bind ?_ (fun _ => ?_))
   | exact ih0 _ _ _
   | exact LeO.none _
   | refine LeO.ite ?_ ?_
   | refine LeO.bind ?_ (fun _ => ?_)
theorem footbridgeref09_at.mono : ∀ a0 a1 k, LeO (footbridgeref09_at.f k a0 a1) (footbridgeref09_at.f (k + 1) a0 a1) := by
 intro a0 a1 k
 have ih0 := footbridgeref09_at.mono_l k
 unfold footbridgeref09_at.f
 repeat' first
   | (with_reducible exact ih0 _ _ _)
   | (with_reducible exact LeO.refl _)
   | (with_reducible exact LeO.none _)
   | (with_reducible refine LeO.ite ?_ ?_)
   | (with_reducible refine LeO.bind ?_ (fun _ => ?_))
   | exact ih0 _ _ _
   | exact LeO.none _
   | refine LeO.ite ?_ ?_
   | refine LeO.bind ?_ (fun _ => ?_)
theorem footbridgeref09_at.calls (k : Nat) (A0 : Option Addr) (c0 : Nat) (l0 : List (S82)) (a1 : ByteArray) (r : Int) (w : World) (hr0 : Kd.C k82 w A0 l0.length l0) (hc0 : l0.length ≤ c0) (h : footbridgeref09_at.f k l0 a1 = some r) :
  Calls Tryz.prog 74 #[.slice A0 l0.length c0, .string a1] w fun e w' => e = .returned (.int .i64 r) ∧ Drawn0 w w' := by
 have HR0 := As_ hr0
 have HC0 := As_ hc0
 clear hr0 hc0
 have H : (footbridgeref09_at.l0 k l0 a1 0) = some r := h
 clear h
 have H' := As_ H
 clear H
 go_enter Tryz.func74, Tryz.ntmps74
 go_wp2
 go_loopg [5] k (fun kq v5 w' => ∃ (x5_1 : Int), v5 = .int .i64 x5_1 ∧ Aside0 (footbridgeref09_at.l0 kq l0 a1 x5_1 = some r) ∧ Aside0 (kq ≤ k) ∧ Drawn0 w w')
 case atStart => exact ⟨(0), ap5_, H', ⟨Nat.le_refl _⟩, ap10_⟩
 case round =>
  clear H'
  obtain ⟨x5_1, rfl, HA, HK1, ⟨m1, rfl⟩⟩ := hrel
  cases gk with
  | zero => exact absurd HA.out (by simp [footbridgeref09_at.l0])
  | succ k1 =>
   have H := HA.out
   clear HA
   simp only [footbridgeref09_at.l0] at H
   by_cases c3 : x5_1 < (l0.length : Int)
   ·rw [if_pos c3] at H
    have c3b0 : decide (x5_1 < (l0.length : Int)) = true := decide_eq_true c3
    clear c3
    by_cases c4 : 0 ≤ x5_1
    ·rw [if_pos c4] at H
     have c4b0 : decide (0 ≤ x5_1) = true := decide_eq_true c4
     clear c4
     by_cases c5 : (Op.bytesLess (((rd_T82 l0 x5_1).f0).toList) a1.toList) = true
     ·rw [if_pos c5] at H
      have c5b0 : (Op.bytesLess (((rd_T82 l0 x5_1).f0).toList) a1.toList) = true := c5
      clear c5
      have H' := As_ H
      clear H
      have p167 : 0 ≤ (x5_1 : Int) := of_decide_eq_true ap7_
      have q167 : x5_1 < (l0.length : Int) := of_decide_eq_true ap7_
      obtain ⟨ad167, e167, hx167_0, hx167_1⟩ := at_T82 HR0.out x5_1 p167 q167
      cases e167
      replace p167 := eq_true p167
      replace q167 := eq_true q167
      go_wp2
      go_roundg k1
      case measure => have := HK1.out; omega
      case rel => exact ⟨(wrap64 (x5_1 + 1)), ap5_, H', ⟨by have := HK1.out; omega⟩, ap10_⟩
     ·rw [if_neg c5] at H
      have c5b0 : (Op.bytesLess (((rd_T82 l0 x5_1).f0).toList) a1.toList) = false := by simpa using c5
      clear c5
      obtain rfl := Option.some.inj H
      have p167 : 0 ≤ (x5_1 : Int) := of_decide_eq_true ap7_
      have q167 : x5_1 < (l0.length : Int) := of_decide_eq_true ap7_
      obtain ⟨ad167, e167, hx167_0, hx167_1⟩ := at_T82 HR0.out x5_1 p167 q167
      cases e167
      replace p167 := eq_true p167
      replace q167 := eq_true q167
      go_wp2
      go_ret
      exact ⟨ap5_, ap10_⟩
    ·rw [if_neg c4] at H
     exact absurd H (by simp)
   ·rw [if_neg c3] at H
    have c3b0 : decide (x5_1 < (l0.length : Int)) = false := decide_eq_false c3
    clear c3
    obtain rfl := Option.some.inj H
    go_wp2
    go_ret
    exact ⟨ap5_, ap10_⟩
def footbridgeref09_Get.f (k : Nat) (l0 : List (S82)) (a1 : ByteArray) : Option (ByteArray × Bool) := (footbridgeref09_at.f k l0 a1).bind fun t168 => (if t168 < (l0.length : Int) then (if 0 ≤ t168 then (if ((rd_T82 l0 t168).f0).toList = a1.toList then (some ((rd_T82 l0 t168).f1, true)) else (some ((⟨#[]⟩ : ByteArray), false))) else (none)) else (some ((⟨#[]⟩ : ByteArray), false)))
theorem footbridgeref09_Get.mono : ∀ a0 a1 k, LeO (footbridgeref09_Get.f k a0 a1) (footbridgeref09_Get.f (k + 1) a0 a1) := by
 intro a0 a1 k
 unfold footbridgeref09_Get.f
 repeat' first
   | (with_reducible exact footbridgeref09_at.mono _ _ _)
   | (with_reducible exact LeO.refl _)
   | (with_reducible exact LeO.none _)
   | (with_reducible refine LeO.ite ?_ ?_)
   | (with_reducible refine LeO.bind ?_ (fun _ => ?_))
   | exact footbridgeref09_at.mono _ _ _
   | exact LeO.none _
   | refine LeO.ite ?_ ?_
   | refine LeO.bind ?_ (fun _ => ?_)
theorem footbridgeref09_Get.calls (k : Nat) (A0 : Option Addr) (c0 : Nat) (l0 : List (S82)) (a1 : ByteArray) (r1 : ByteArray) (r2 : Bool) (w : World) (hr0 : Kd.C k82 w A0 l0.length l0) (hc0 : l0.length ≤ c0) (h : footbridgeref09_Get.f k l0 a1 = some (r1, r2)) :
  Calls Tryz.prog 40 #[.slice A0 l0.length c0, .string a1] w fun e w' => e = .returned (.tuple #[.string r1, .bool r2]) ∧ Drawn0 w w' := by
 have HR0 := As_ hr0
 have HC0 := As_ hc0
 clear hr0 hc0
 have H : ((footbridgeref09_at.f k l0 a1).bind fun t168 => (if t168 < (l0.length : Int) then (if 0 ≤ t168 then (if ((rd_T82 l0 t168).f0).toList = a1.toList then (some ((rd_T82 l0 t168).f1, true)) else (some ((⟨#[]⟩ : ByteArray), false))) else (none)) else (some ((⟨#[]⟩ : ByteArray), false)))) = some (r1, r2) := h
 clear h
 replace H := Option.bind_eq_some_iff.mp H
 obtain ⟨t168, A30, H⟩ := H
 try dsimp only at H
 have A3 := As_ A30
 clear A30
 by_cases c4 : t168 < (l0.length : Int)
 ·rw [if_pos c4] at H
  have c4b0 : decide (t168 < (l0.length : Int)) = true := decide_eq_true c4
  clear c4
  by_cases c5 : 0 ≤ t168
  ·rw [if_pos c5] at H
   have c5b0 : decide (0 ≤ t168) = true := decide_eq_true c5
   clear c5
   by_cases c6 : ((rd_T82 l0 t168).f0).toList = a1.toList
   ·rw [if_pos c6] at H
    have c6b0 : (((rd_T82 l0 t168).f0).toList == a1.toList) = true := beq_iff_eq.mpr c6
    have c6b1 : (((rd_T82 l0 t168).f0).toList != a1.toList) = false := bne_eq_false_iff_eq.mpr c6
    clear c6
    simp only [Option.some.injEq, Prod.mk.injEq] at H
    obtain ⟨rfl, rfl⟩ := H
    go_enter Tryz.func40, Tryz.ntmps40
    go_wp2_with (first | ((with_reducible refine gate_callee (f := 74) rfl ?_); refine gk_ (some 9) Tryz.func74 #[.slice A0 l0.length c0, .string a1] ?_; (with_reducible refine (footbridgeref09_at.calls k _ _ l0 a1 t168 _ ?side1 ?side2 A3.out).mono ?_); (case side1 => repeat (first | exact HR0.out | (with_reducible refine Kd.C_alloc ?_ _) | (with_reducible refine Kd.C_drewN ?_ _) | (with_reducible refine Kd.C_drew ?_))); (case side2 => exact HC0.out); rintro e w' ⟨rfl, ⟨nd, rfl⟩⟩; refine ⟨_, rfl, ?_⟩; have p169 : 0 ≤ (t168 : Int) := of_decide_eq_true ap7_; have q169 : t168 < (l0.length : Int) := of_decide_eq_true ap7_; obtain ⟨ad169, e169, hx169_0, hx169_1⟩ := at_T82 HR0.out t168 p169 q169; cases e169; replace p169 := eq_true p169; replace q169 := eq_true q169; have p170 : 0 ≤ (t168 : Int) := of_decide_eq_true ap7_; have q170 : t168 < (l0.length : Int) := of_decide_eq_true ap7_; obtain ⟨ad170, e170, hx170_0, hx170_1⟩ := at_T82 HR0.out t168 p170 q170; obtain rfl : ad169 = ad170 := (by injection e170); replace p170 := eq_true p170; replace q170 := eq_true q170))
    go_ret2
    exact ⟨ap5_, ap10_⟩
   ·rw [if_neg c6] at H
    have c6b0 : (((rd_T82 l0 t168).f0).toList == a1.toList) = false := beq_eq_false_iff_ne.mpr c6
    have c6b1 : (((rd_T82 l0 t168).f0).toList != a1.toList) = true := bne_iff_ne.mpr c6
    simp only [Option.some.injEq, Prod.mk.injEq] at H
    obtain ⟨rfl, rfl⟩ := H
    go_enter Tryz.func40, Tryz.ntmps40
    go_wp2_with (first | ((with_reducible refine gate_callee (f := 74) rfl ?_); refine gk_ (some 9) Tryz.func74 #[.slice A0 l0.length c0, .string a1] ?_; (with_reducible refine (footbridgeref09_at.calls k _ _ l0 a1 t168 _ ?side1 ?side2 A3.out).mono ?_); (case side1 => repeat (first | exact HR0.out | (with_reducible refine Kd.C_alloc ?_ _) | (with_reducible refine Kd.C_drewN ?_ _) | (with_reducible refine Kd.C_drew ?_))); (case side2 => exact HC0.out); rintro e w' ⟨rfl, ⟨nd, rfl⟩⟩; refine ⟨_, rfl, ?_⟩; have p169 : 0 ≤ (t168 : Int) := of_decide_eq_true ap7_; have q169 : t168 < (l0.length : Int) := of_decide_eq_true ap7_; obtain ⟨ad169, e169, hx169_0, hx169_1⟩ := at_T82 HR0.out t168 p169 q169; cases e169; replace p169 := eq_true p169; replace q169 := eq_true q169))
    go_ret2
    exact ⟨ap5_, ap10_⟩
  ·rw [if_neg c5] at H
   exact absurd H (by simp)
 ·rw [if_neg c4] at H
  have c4b0 : decide (t168 < (l0.length : Int)) = false := decide_eq_false c4
  clear c4
  simp only [Option.some.injEq, Prod.mk.injEq] at H
  obtain ⟨rfl, rfl⟩ := H
  go_enter Tryz.func40, Tryz.ntmps40
  go_wp2_with (first | ((with_reducible refine gate_callee (f := 74) rfl ?_); refine gk_ (some 9) Tryz.func74 #[.slice A0 l0.length c0, .string a1] ?_; (with_reducible refine (footbridgeref09_at.calls k _ _ l0 a1 t168 _ ?side1 ?side2 A3.out).mono ?_); (case side1 => repeat (first | exact HR0.out | (with_reducible refine Kd.C_alloc ?_ _) | (with_reducible refine Kd.C_drewN ?_ _) | (with_reducible refine Kd.C_drew ?_))); (case side2 => exact HC0.out); rintro e w' ⟨rfl, ⟨nd, rfl⟩⟩; refine ⟨_, rfl, ?_⟩))
  go_ret2
  exact ⟨ap5_, ap10_⟩
mutual
def footbridgeref01_Num.j0 : Nat → Int → Bool → Option (ByteArray × Int)
 | 0, _, _ => none
 | k + 1, x0, x10 => if x10 = true then (some ((⟨#[]⟩ : ByteArray), 3)) else (footbridgeref01_Num.l0 k x0 (⟨#[]⟩ : ByteArray))
def footbridgeref01_Num.l0 : Nat → Int → ByteArray → Option (ByteArray × Int)
 | 0, _, _ => none
 | k + 1, x0, x4 => if x0 > 0 then ((some (([(Int.tmod x0 256) % 256] : List Int) : List Int)).bind fun y171 => (if (strOfNums y171).size + x4.size ≤ 9223372036854775807 then (footbridgeref01_Num.l0 k (wrap64 (Int.tdiv x0 256)) ((strOfNums y171) ++ x4)) else (none))) else ((some (([((x4.size : Int)) % 256] : List Int) : List Int)).bind fun y174 => (if (strOfNums y174).size + x4.size ≤ 9223372036854775807 then (some ((strOfNums y174) ++ x4, 0)) else (none)))
end
def footbridgeref01_Num.f (k : Nat) (a0 : Int) : Option (ByteArray × Int) := if a0 < 0 then (footbridgeref01_Num.j0 k a0 true) else (footbridgeref01_Num.j0 k a0 (decide (a0 > 9007199254740992)))
theorem footbridgeref01_Num.mono_l : ∀ k, (∀ y0 y1, LeO (footbridgeref01_Num.j0 k y0 y1) (footbridgeref01_Num.j0 (k + 1) y0 y1)) ∧ (∀ y0 y1, LeO (footbridgeref01_Num.l0 k y0 y1) (footbridgeref01_Num.l0 (k + 1) y0 y1))
 | 0 => ⟨fun _ _ r h => by simp [footbridgeref01_Num.j0] at h, fun _ _ r h => by simp [footbridgeref01_Num.l0] at h⟩
 | k + 1 => by
  obtain ⟨ih0, ih1⟩ := footbridgeref01_Num.mono_l k
  refine ⟨?_, ?_⟩
  ·intro y0 y1
   unfold footbridgeref01_Num.j0
   repeat' first
   | (with_reducible exact ih0 _ _)
   | (with_reducible exact ih1 _ _)
   | (with_reducible exact LeO.refl _)
   | (with_reducible exact LeO.none _)
   | (with_reducible refine LeO.ite ?_ ?_)
   | (with_reducible refine LeO.bind ?_ (fun _ => ?_))
   | exact ih0 _ _
   | exact ih1 _ _
   | exact LeO.none _
   | refine LeO.ite ?_ ?_
   | refine LeO.bind ?_ (fun _ => ?_)
  ·intro y0 y1
   unfold footbridgeref01_Num.l0
   repeat' first
   | (with_reducible exact ih0 _ _)
   | (with_reducible exact ih1 _ _)
   | (with_reducible exact LeO.refl _)
   | (with_reducible exact LeO.none _)
   | (with_reducible refine LeO.ite ?_ ?_)
   | (with_reducible refine LeO.bind ?_ (fun _ => ?_))
   | exact ih0 _ _
   | exact ih1 _ _
   | exact LeO.none _
   | refine LeO.ite ?_ ?_
   | refine LeO.bind ?_ (fun _ => ?_)
theorem footbridgeref01_Num.mono : ∀ a0 k, LeO (footbridgeref01_Num.f k a0) (footbridgeref01_Num.f (k + 1) a0) := by
 intro a0 k
 obtain ⟨ih0, ih1⟩ := footbridgeref01_Num.mono_l k
 unfold footbridgeref01_Num.f
 repeat' first
   | (with_reducible exact ih0 _ _)
   | (with_reducible exact ih1 _ _)
   | (with_reducible exact LeO.refl _)
   | (with_reducible exact LeO.none _)
   | (with_reducible refine LeO.ite ?_ ?_)
   | (with_reducible refine LeO.bind ?_ (fun _ => ?_))
   | exact ih0 _ _
   | exact ih1 _ _
   | exact LeO.none _
   | refine LeO.ite ?_ ?_
   | refine LeO.bind ?_ (fun _ => ?_)
theorem footbridgeref01_Num.calls (k : Nat) (a0 : Int) (r1 : ByteArray) (r2 : Int) (w : World) (h : footbridgeref01_Num.f k a0 = some (r1, r2)) :
  Calls Tryz.prog 104 #[.int .i64 a0] w fun e w' => e = .returned (.tuple #[.string r1, .int .i64 r2]) ∧ Below w.heap.size w w' := by
 have HB := As_ (Below.refl w.heap.size w)
 have H : (if a0 < 0 then (footbridgeref01_Num.j0 k a0 true) else (footbridgeref01_Num.j0 k a0 (decide (a0 > 9007199254740992)))) = some (r1, r2) := h
 clear h
 have HC2 := As_ H
 clear H
 go_enter Tryz.func104, Tryz.ntmps104
 go_upto_region 1 with (fail)
 go_cut [10] (fun v10 wc => ∃ (kq : Nat) (x10_1 : Bool), v10 = .bool x10_1 ∧ Aside0 (footbridgeref01_Num.j0 kq a0 x10_1 = some (r1, r2)) ∧ Aside0 (kq ≤ k) ∧ Aside0 (Below w.heap.size w wc))
 case first =>
  have H := HC2.out
  clear HC2
  by_cases c3 : a0 < 0
  ·rw [if_pos c3] at H
   have c3b0 : decide (a0 < 0) = true := decide_eq_true c3
   clear c3
   (first | rw [c3b0] | (simp only [i64_w, i32_w]; rw [c3b0]) | skip)
   have H' := As_ H
   clear H
   go_wp2
   go_meet
   case rel => exact ⟨_, (true), ap5_, H', ⟨ap1_⟩, ⟨ap50_⟩⟩
  ·rw [if_neg c3] at H
   have c3b0 : decide (a0 < 0) = false := decide_eq_false c3
   clear c3
   (first | rw [c3b0] | (simp only [i64_w, i32_w]; rw [c3b0]) | skip)
   have H' := As_ H
   clear H
   go_wp2
   go_meet
   case rel => exact ⟨_, (decide (a0 > 9007199254740992)), ap5_, H', ⟨ap1_⟩, ⟨ap50_⟩⟩
 case rest =>
  clear HC2
  obtain ⟨kq, x10_1, rfl, HA, HJ1, HB⟩ := hcut
  cases kq with
  | zero => exact absurd HA.out (by simp [footbridgeref01_Num.j0])
  | succ kj1 =>
   have H := HA.out
   clear HA
   simp only [footbridgeref01_Num.j0] at H
   by_cases c4 : x10_1 = true
   ·subst c4
    have H1 : (some ((⟨#[]⟩ : ByteArray), 3)) = some (r1, r2) := by rw [if_pos rfl] at H; exact H
    clear H
    have H := H1
    clear H1
    simp only [Option.some.injEq, Prod.mk.injEq] at H
    obtain ⟨rfl, rfl⟩ := H
    go_wp2
    go_ret2
    exact ⟨ap17_, ap50_⟩
   ·replace c4 := Bool.eq_false_iff.mpr c4
    subst c4
    have H1 : (footbridgeref01_Num.l0 kj1 a0 (⟨#[]⟩ : ByteArray)) = some (r1, r2) := by rw [if_neg (show ¬ (false = true) by decide)] at H; exact H
    clear H
    have H := H1
    clear H1
    have H' := As_ H
    clear H
    go_wp2
    go_loopg [0, 4] kj1 (fun kq v0 v4 w' => ∃ (x0_2 : Int) (x4_2 : ByteArray), v0 = .int .i64 x0_2 ∧ v4 = .string x4_2 ∧ Aside0 (footbridgeref01_Num.l0 kq x0_2 x4_2 = some (r1, r2)) ∧ Aside0 (kq ≤ kj1) ∧ Aside0 (Below w.heap.size w w'))
    case atStart => exact ⟨(a0), ((⟨#[]⟩ : ByteArray)), ap5_, ap5_, H', ⟨Nat.le_refl _⟩, ⟨ap50_⟩⟩
    case round =>
     clear H'
     try clear c4
     obtain ⟨x0_2, x4_2, rfl, rfl, HA, HK2, HB⟩ := hrel
     cases gk with
     | zero => exact absurd HA.out (by simp [footbridgeref01_Num.l0])
     | succ k2 =>
      have H := HA.out
      clear HA
      simp only [footbridgeref01_Num.l0] at H
      by_cases c5 : x0_2 > 0
      ·rw [if_pos c5] at H
       have c5b0 : decide (0 < x0_2) = true := decide_eq_true c5
       clear c5
       obtain ⟨y171, hy171⟩ : ∃ y_ : List Int, y_ = (([(Int.tmod x0_2 256) % 256] : List Int)) := ⟨_, rfl⟩
       replace H : (if (strOfNums y171).size + x4_2.size ≤ 9223372036854775807 then (footbridgeref01_Num.l0 k2 (wrap64 (Int.tdiv x0_2 256)) ((strOfNums y171) ++ x4_2)) else (none)) = some (r1, r2) := by first | (rw [hy171]; with_reducible exact H) | (have H2_ := (Option.bind_some _ _).symm.trans H; rw [hy171]; with_reducible exact H2_) | (have H2_ := (Option.bind_some _ _).symm.trans H; with_reducible exact H2_) | with_reducible exact H | (rw [hy171]; exact H) | exact H
       have Ny171 := As_ hy171
       clear hy171
       by_cases c6 : (strOfNums y171).size + x4_2.size ≤ 9223372036854775807
       ·rw [if_pos c6] at H
        have c6b0 := eq_true c6
        have c6b1 : decide ((strOfNums y171).size + x4_2.size ≤ 9223372036854775807) = true := decide_eq_true c6
        try have c6b2 : (9223372036854775807 < (strOfNums y171).size + x4_2.size) = False := eq_false (Nat.not_lt.2 c6)
        have H' := As_ H
        clear H
        go_wp2_with (first | ((with_reducible refine gate_dst (N := 16) rfl ?_); refine Kd.R_lit (Kd.int .u8) _ 5 ?hg (N := 16) ?hd (xs := ([(Int.tmod x0_2 256) % 256] : List Int)) (inner := [.int .u8 ((Int.tmod x0_2 256) % 256)]) (ok := fun _ => True) (okp := fun _ => True) ?hr ?hp (fun _ hk => hk) trivial (Below.refl _ _) (Nat.le_refl _) (by simp) ?_; (case hd => rfl); (case hg => rfl); (case hr => first | (go_simp; done) | (go_simp; rfl)); (case hp => exact (Reps.one (show Kd.M (Kd.int .u8) _ _ _ ((Int.tmod x0_2 256) % 256) [.int .u8 ((Int.tmod x0_2 256) % 256)] from rfl) (Reps.none _ _))); intro v172 w7 ho8 hb hg_ hnew_; clear hg_ hnew_; (first | rw [← Ny171.out] at ho8 | (simp only [Int.reduceToNat] at ho8; rw [← Ny171.out] at ho8)); have HO173 := As_ (Kd.R_lower ho8 (below_size ap50_)); replace HB := As_ (below_step ap50_ hb); clear hb ho8; have hcv9 := own_string (P := Tryz.prog) Tryz.underlying124 Tryz.underlying5 Tryz.underlying9 (Kd.own_of_R HO173.out)))
        go_roundg k2
        case measure => have := HJ1.out; have := HK2.out; omega
        case rel => exact ⟨(wrap64 (Int.tdiv x0_2 256)), ((strOfNums y171) ++ x4_2), ap5_, ap5_, H', ⟨by have := HJ1.out; have := HK2.out; omega⟩, ⟨ap50_⟩⟩
       ·rw [if_neg c6] at H
        exact absurd H (by simp)
      ·rw [if_neg c5] at H
       have c5b0 : decide (0 < x0_2) = false := decide_eq_false c5
       clear c5
       obtain ⟨y174, hy174⟩ : ∃ y_ : List Int, y_ = (([((x4_2.size : Int)) % 256] : List Int)) := ⟨_, rfl⟩
       replace H : (if (strOfNums y174).size + x4_2.size ≤ 9223372036854775807 then (some ((strOfNums y174) ++ x4_2, 0)) else (none)) = some (r1, r2) := by first | (rw [hy174]; with_reducible exact H) | (have H2_ := (Option.bind_some _ _).symm.trans H; rw [hy174]; with_reducible exact H2_) | (have H2_ := (Option.bind_some _ _).symm.trans H; with_reducible exact H2_) | with_reducible exact H | (rw [hy174]; exact H) | exact H
       have Ny174 := As_ hy174
       clear hy174
       by_cases c10 : (strOfNums y174).size + x4_2.size ≤ 9223372036854775807
       ·rw [if_pos c10] at H
        have c10b0 := eq_true c10
        have c10b1 : decide ((strOfNums y174).size + x4_2.size ≤ 9223372036854775807) = true := decide_eq_true c10
        try have c10b2 : (9223372036854775807 < (strOfNums y174).size + x4_2.size) = False := eq_false (Nat.not_lt.2 c10)
        simp only [Option.some.injEq, Prod.mk.injEq] at H
        obtain ⟨rfl, rfl⟩ := H
        go_wp2_with (first | ((with_reducible refine gate_dst (N := 25) rfl ?_); refine Kd.R_lit (Kd.int .u8) _ 5 ?hg (N := 25) ?hd (xs := ([((x4_2.size : Int)) % 256] : List Int)) (inner := [.int .u8 (((x4_2.size : Int)) % 256)]) (ok := fun _ => True) (okp := fun _ => True) ?hr ?hp (fun _ hk => hk) trivial (Below.refl _ _) (Nat.le_refl _) (by simp) ?_; (case hd => rfl); (case hg => rfl); (case hr => first | (go_simp; done) | (go_simp; rfl)); (case hp => exact (Reps.one (show Kd.M (Kd.int .u8) _ _ _ (((x4_2.size : Int)) % 256) [.int .u8 (((x4_2.size : Int)) % 256)] from rfl) (Reps.none _ _))); intro v175 w11 ho12 hb hg_ hnew_; clear hg_ hnew_; (first | rw [← Ny174.out] at ho12 | (simp only [Int.reduceToNat] at ho12; rw [← Ny174.out] at ho12)); have HO176 := As_ (Kd.R_lower ho12 (below_size ap50_)); replace HB := As_ (below_step ap50_ hb); clear hb ho12; have hcv13 := own_string (P := Tryz.prog) Tryz.underlying124 Tryz.underlying5 Tryz.underlying9 (Kd.own_of_R HO176.out)))
        go_ret2
        exact ⟨ap17_, ap50_⟩
       ·rw [if_neg c10] at H
        exact absurd H (by simp)
def footbridgeref01_Text.f (k : Nat) (a0 : ByteArray) : Option (ByteArray × Int) := if (a0.size : Int) > 65536 then (some ((⟨#[]⟩ : ByteArray), 4)) else ((footbridgeref01_Num.f k (a0.size : Int)).bind fun bt177 => (if bt177.1.size + a0.size ≤ 9223372036854775807 then (some (bt177.1 ++ a0, 0)) else (none)))
theorem footbridgeref01_Text.mono : ∀ a0 k, LeO (footbridgeref01_Text.f k a0) (footbridgeref01_Text.f (k + 1) a0) := by
 intro a0 k
 unfold footbridgeref01_Text.f
 repeat' first
   | (with_reducible exact footbridgeref01_Num.mono _ _)
   | (with_reducible exact LeO.refl _)
   | (with_reducible exact LeO.none _)
   | (with_reducible refine LeO.ite ?_ ?_)
   | (with_reducible refine LeO.bind ?_ (fun _ => ?_))
   | exact footbridgeref01_Num.mono _ _
   | exact LeO.none _
   | refine LeO.ite ?_ ?_
   | refine LeO.bind ?_ (fun _ => ?_)
theorem footbridgeref01_Text.calls (k : Nat) (a0 : ByteArray) (r1 : ByteArray) (r2 : Int) (w : World) (h : footbridgeref01_Text.f k a0 = some (r1, r2)) :
  Calls Tryz.prog 87 #[.string a0] w fun e w' => e = .returned (.tuple #[.string r1, .int .i64 r2]) ∧ Below w.heap.size w w' := by
 have HB := As_ (Below.refl w.heap.size w)
 have H : (if (a0.size : Int) > 65536 then (some ((⟨#[]⟩ : ByteArray), 4)) else ((footbridgeref01_Num.f k (a0.size : Int)).bind fun bt177 => (if bt177.1.size + a0.size ≤ 9223372036854775807 then (some (bt177.1 ++ a0, 0)) else (none)))) = some (r1, r2) := h
 clear h
 by_cases c2 : (a0.size : Int) > 65536
 ·rw [if_pos c2] at H
  have c2b0 : decide (65536 < (a0.size : Int)) = true := decide_eq_true c2
  have c2b1 : decide (65536 < a0.size) = true := decide_eq_true (by omega)
  clear c2
  simp only [Option.some.injEq, Prod.mk.injEq] at H
  obtain ⟨rfl, rfl⟩ := H
  go_enter Tryz.func87, Tryz.ntmps87
  go_wp2
  go_ret2
  exact ⟨ap17_, ap50_⟩
 ·rw [if_neg c2] at H
  have c2b0 : decide (65536 < (a0.size : Int)) = false := decide_eq_false c2
  have c2b1 : decide (65536 < a0.size) = false := decide_eq_false (by omega)
  clear c2
  replace H := Option.bind_eq_some_iff.mp H
  obtain ⟨⟨t177, t178⟩, A30, H⟩ := H
  try dsimp only at H
  have A3 := As_ A30
  clear A30
  by_cases c4 : t177.size + a0.size ≤ 9223372036854775807
  ·rw [if_pos c4] at H
   have c4b0 := eq_true c4
   have c4b1 : decide (t177.size + a0.size ≤ 9223372036854775807) = true := decide_eq_true c4
   try have c4b2 : (9223372036854775807 < t177.size + a0.size) = False := eq_false (Nat.not_lt.2 c4)
   simp only [Option.some.injEq, Prod.mk.injEq] at H
   obtain ⟨rfl, rfl⟩ := H
   go_enter Tryz.func87, Tryz.ntmps87
   go_wp2_with (first | ((with_reducible refine gate_callee (f := 104) rfl ?_); refine gk_ (some 12) Tryz.func104 #[.int .i64 (a0.size : Int)] ?_; (with_reducible refine (footbridgeref01_Num.calls k (a0.size : Int) t177 t178 _ A3.out).mono ?_); rintro e w5 ⟨rfl, hb⟩; refine ⟨_, rfl, ?_⟩; replace HB := As_ (below_step ap50_ hb); (try clear hb); (try clear hb2); (try clear hk); (try clear hi)))
   go_ret2
   exact ⟨ap17_, ap50_⟩
  ·rw [if_neg c4] at H
   exact absurd H (by simp)
def footbridgeref14_Text.f (k : Nat) (a0 : ByteArray) : Option (ByteArray) := (footbridgeref01_Text.f k a0).bind fun bt179 => (some bt179.1)
theorem footbridgeref14_Text.mono : ∀ a0 k, LeO (footbridgeref14_Text.f k a0) (footbridgeref14_Text.f (k + 1) a0) := by
 intro a0 k
 unfold footbridgeref14_Text.f
 repeat' first
   | (with_reducible exact footbridgeref01_Text.mono _ _)
   | (with_reducible exact LeO.refl _)
   | (with_reducible exact LeO.none _)
   | (with_reducible refine LeO.ite ?_ ?_)
   | (with_reducible refine LeO.bind ?_ (fun _ => ?_))
   | exact footbridgeref01_Text.mono _ _
   | exact LeO.none _
   | refine LeO.ite ?_ ?_
   | refine LeO.bind ?_ (fun _ => ?_)
theorem footbridgeref14_Text.calls (k : Nat) (a0 : ByteArray) (r : ByteArray) (w : World) (h : footbridgeref14_Text.f k a0 = some r) :
  Calls Tryz.prog 65 #[.string a0] w fun e w' => e = .returned (.string r) ∧ Below w.heap.size w w' := by
 have HB := As_ (Below.refl w.heap.size w)
 have H : ((footbridgeref01_Text.f k a0).bind fun bt179 => (some bt179.1)) = some r := h
 clear h
 replace H := Option.bind_eq_some_iff.mp H
 obtain ⟨⟨t179, t180⟩, A20, H⟩ := H
 try dsimp only at H
 have A2 := As_ A20
 clear A20
 obtain rfl := Option.some.inj H
 go_enter Tryz.func65, Tryz.ntmps65
 go_wp2_with (first | ((with_reducible refine gate_callee (f := 87) rfl ?_); refine gk_ (some 7) Tryz.func87 #[.string a0] ?_; (with_reducible refine (footbridgeref01_Text.calls k a0 t179 t180 _ A2.out).mono ?_); rintro e w3 ⟨rfl, hb⟩; refine ⟨_, rfl, ?_⟩; replace HB := As_ (below_step ap50_ hb); (try clear hb); (try clear hb2); (try clear hk); (try clear hi)))
 go_ret
 exact ⟨ap17_, ap50_⟩
def footbridgeref08_hidden.l0 : Nat → ByteArray → List Int → Int → Option (ByteArray)
 | 0, _, _, _ => none
 | k + 1, x0, x3, x4 => if x4 < (x0.size : Int) then (if 0 ≤ x4 then (if (bt x0 x4) = 37 then ((some (([37, 112] : List Int) : List Int)).bind fun y181 => (if x3.length + y181.length < 140737488355328 then (footbridgeref08_hidden.l0 k x0 (x3 ++ y181) (wrap64 (x4 + 1))) else (none))) else (if (bt x0 x4) = 47 then ((some (([37, 115] : List Int) : List Int)).bind fun y187 => (if x3.length + y187.length < 140737488355328 then (footbridgeref08_hidden.l0 k x0 (x3 ++ y187) (wrap64 (x4 + 1))) else (none))) else (if x3.length < 140737488355328 then (footbridgeref08_hidden.l0 k x0 (x3 ++ [bt x0 x4]) (wrap64 (x4 + 1))) else (none)))) else (none)) else (some (strOfNums x3))
def footbridgeref08_hidden.f (k : Nat) (a0 : ByteArray) : Option (ByteArray) := footbridgeref08_hidden.l0 k a0 ([] : List Int) 0
theorem footbridgeref08_hidden.mono_l : ∀ k, (∀ y0 y1 y2, LeO (footbridgeref08_hidden.l0 k y0 y1 y2) (footbridgeref08_hidden.l0 (k + 1) y0 y1 y2))
 | 0 => fun _ _ _ r h => by simp [footbridgeref08_hidden.l0] at h
 | k + 1 => by
  have ih0 := footbridgeref08_hidden.mono_l k
  ·intro y0 y1 y2
   unfold footbridgeref08_hidden.l0
   repeat' first
   | (with_reducible exact ih0 _ _ _)
   | (with_reducible exact LeO.refl _)
   | (with_reducible exact LeO.none _)
   | (with_reducible refine LeO.ite ?_ ?_)
   | (with_reducible refine LeO.bind ?_ (fun _ => ?_))
   | exact ih0 _ _ _
   | exact LeO.none _
   | refine LeO.ite ?_ ?_
   | refine LeO.bind ?_ (fun _ => ?_)
theorem footbridgeref08_hidden.mono : ∀ a0 k, LeO (footbridgeref08_hidden.f k a0) (footbridgeref08_hidden.f (k + 1) a0) := by
 intro a0 k
 have ih0 := footbridgeref08_hidden.mono_l k
 unfold footbridgeref08_hidden.f
 repeat' first
   | (with_reducible exact ih0 _ _ _)
   | (with_reducible exact LeO.refl _)
   | (with_reducible exact LeO.none _)
   | (with_reducible refine LeO.ite ?_ ?_)
   | (with_reducible refine LeO.bind ?_ (fun _ => ?_))
   | exact ih0 _ _ _
   | exact LeO.none _
   | refine LeO.ite ?_ ?_
   | refine LeO.bind ?_ (fun _ => ?_)
theorem footbridgeref08_hidden.calls (k : Nat) (a0 : ByteArray) (r : ByteArray) (w : World) (h : footbridgeref08_hidden.f k a0 = some r) :
  Calls Tryz.prog 95 #[.string a0] w fun e w' => e = .returned (.string r) ∧ Below w.heap.size w w' := by
 have HB := As_ (Below.refl w.heap.size w)
 have H : (footbridgeref08_hidden.l0 k a0 ([] : List Int) 0) = some r := h
 clear h
 have H' := As_ H
 clear H
 go_enter Tryz.func95, Tryz.ntmps95
 go_wp2
 go_loopg [3, 4] k (fun kq v3 v4 w' => ∃ (x3_1 : List Int) (x4_1 : Int), v4 = .int .i64 x4_1 ∧ Aside0 (footbridgeref08_hidden.l0 kq a0 x3_1 x4_1 = some r) ∧ Aside0 (kq ≤ k) ∧ Aside0 (Kd.R (Kd.int .u8) 5 w' w.heap.size (fun _ => True) v3 x3_1) ∧ Aside0 (Below w.heap.size w w'))
 case atStart => exact ⟨(([] : List Int)), (0), ap5_, H', ⟨Nat.le_refl _⟩, ⟨by first | exact Kd.R_nil _ _ _ _ _ | exact Kd.N_nil _ _ _ _ _ | exact Kd.V_nil _ _ _ _ _ | exact Kd.Q_nil _ _ _ _ _ | exact Kd.S_nil _ _ _ _ _⟩, ⟨ap50_⟩⟩
 case round =>
  clear H'
  obtain ⟨x3_1, x4_1, rfl, HA, HK1, HO_3, HB⟩ := hrel
  cases gk with
  | zero => exact absurd HA.out (by simp [footbridgeref08_hidden.l0])
  | succ k1 =>
   have H := HA.out
   clear HA
   simp only [footbridgeref08_hidden.l0] at H
   by_cases c2 : x4_1 < (a0.size : Int)
   ·rw [if_pos c2] at H
    have c2b0 : decide (x4_1 < (a0.size : Int)) = true := decide_eq_true c2
    clear c2
    by_cases c3 : 0 ≤ x4_1
    ·rw [if_pos c3] at H
     have c3b0 : decide (0 ≤ x4_1) = true := decide_eq_true c3
     clear c3
     by_cases c5 : (bt a0 x4_1) = 37
     ·rw [if_pos c5] at H
      have c5b0 : ((bt a0 x4_1) == 37) = true := beq_iff_eq.mpr c5
      have c5b1 : ((bt a0 x4_1) != 37) = false := bne_eq_false_iff_eq.mpr c5
      clear c5
      obtain ⟨y181, hy181⟩ : ∃ y_ : List Int, y_ = (([37, 112] : List Int)) := ⟨_, rfl⟩
      replace H : (if x3_1.length + y181.length < 140737488355328 then (footbridgeref08_hidden.l0 k1 a0 (x3_1 ++ y181) (wrap64 (x4_1 + 1))) else (none)) = some r := by first | (rw [hy181]; with_reducible exact H) | (have H2_ := (Option.bind_some _ _).symm.trans H; rw [hy181]; with_reducible exact H2_) | (have H2_ := (Option.bind_some _ _).symm.trans H; with_reducible exact H2_) | with_reducible exact H | (rw [hy181]; exact H) | exact H
      have Ny181 := As_ hy181
      clear hy181
      by_cases c6 : x3_1.length + y181.length < 140737488355328
      ·rw [if_pos c6] at H
       have LMc6 := As_ c6
       clear c6
       obtain ⟨y184, hy184⟩ : ∃ y_ : List Int, y_ = (x3_1 ++ y181) := ⟨_, rfl⟩
       replace H : (footbridgeref08_hidden.l0 k1 a0 y184 (wrap64 (x4_1 + 1))) = some r := by first | (rw [hy184]; with_reducible exact H) | (have H2_ := (Option.bind_some _ _).symm.trans H; rw [hy184]; with_reducible exact H2_) | (have H2_ := (Option.bind_some _ _).symm.trans H; with_reducible exact H2_) | with_reducible exact H | (rw [hy184]; exact H) | exact H
       have Ny184 := As_ hy184
       clear hy184
       have H' := As_ H
       clear H
       have p4 : 0 ≤ (x4_1 : Int) := of_decide_eq_true ap7_
       have q4 : x4_1 < (a0.size : Int) := of_decide_eq_true ap7_
       have hx4 := bt_at a0 x4_1
       replace p4 := eq_true p4
       replace q4 := eq_true q4
       go_wp2_with (first | ((with_reducible refine gate_dst (N := 23) rfl ?_); refine Kd.R_lit (Kd.int .u8) _ 5 ?hg (N := 23) ?hd (xs := ([37, 112] : List Int)) (inner := [.int .u8 37, .int .u8 112]) (ok := fun _ => True) (okp := fun _ => True) ?hr ?hp (fun _ hk => hk) trivial (Below.refl _ _) (Nat.le_refl _) (by simp) ?_; (case hd => rfl); (case hg => rfl); (case hr => first | (go_simp; done) | (go_simp; rfl)); (case hp => exact (Reps.one (show Kd.M (Kd.int .u8) _ _ _ 37 [.int .u8 37] from rfl) (Reps.one (show Kd.M (Kd.int .u8) _ _ _ 112 [.int .u8 112] from rfl) (Reps.none _ _)))); intro v182 w7 ho8 hb hg_ hnew_; clear hg_ hnew_; (first | rw [← Ny181.out] at ho8 | (simp only [Int.reduceToNat] at ho8; rw [← Ny181.out] at ho8)); have HO183 := As_ (Kd.R_lower (Kd.R_new' ho8 (Kd.R_lt ap20_)) (below_size ap50_)); replace HO_3 := As_ (Kd.R_elder' ap20_ (Kd.R_base ho8) hb); replace HB := As_ (below_step ap50_ hb); clear hb ho8; obtain ⟨Ao10, co10, eo10⟩ := Kd.R_slice HO183.out; subst eo10) | ((with_reducible refine gate_builtin (b := .append) (xs := #[.tmp 22, .tmp 23]) rfl ?_); at_builtin; refine Kd.R_append_rows (Kd.int .u8) (w0 := w) w.heap.size rfl (.tmp 22) (.tmp 23) 124 5 (.int .u8 0) 1 rfl Tryz.underlying124 info5 rfl (by decide) (by omega) u3 x3_1 y181 _ _ _ (fun k_ => some k_ ≠ (.slice Ao10 y181.length co10 : Value).ownBlock) (fun _ => False) rfl rfl ?aO ?aR (fun _ _ h => h) (fun _ h => h.elim) ?aF ?aB ?aS ?aL ?_; (case aR => repeat (first | exact (Kd.R_reads' HO183.out).2.2 | (with_reducible refine Kd.C_alloc ?_ _) | (with_reducible refine Kd.C_drewN ?_ _) | (with_reducible refine Kd.C_drew ?_))); (case aB => exact ap50_); (case aF => exact (fun k_ hk => Kd.fresh' (Kd.R_lt ap34_) k_ hk)); (case aO => exact ap52_); (case aS => exact (below_size ap50_)); (case aL => have := LMc6.out; omega); intro v185 w9 ho hb hg hat; rw [← Ny184.out] at ho; have n0_ := As_ (Kd.R_after (ok := (fun _ => True)) ap34_ hg hat); have n1_ := As_ (hb); have n2_ := As_ (ho); clear HO183; clear HB; clear HO_3; have HO183 := n0_; have HB := n1_; have HO186 := n2_; clear n0_ n1_ n2_; clear ho hb hg hat))
       go_roundg k1
       case measure => have := HK1.out; omega
       case rel => exact ⟨(y184), (wrap64 (x4_1 + 1)), ap5_, H', ⟨by have := HK1.out; omega⟩, ⟨by (with_reducible repeat (first | apply Kd.R_alloc | apply Kd.R_drewN | apply Kd.R_drew)); exact Kd.R_mono HO186.out (fun _ hk => trivial)⟩, ⟨ap50_⟩⟩
      ·rw [if_neg c6] at H
       exact absurd H (by simp)
     ·rw [if_neg c5] at H
      have c5b0 : ((bt a0 x4_1) == 37) = false := beq_eq_false_iff_ne.mpr c5
      have c5b1 : ((bt a0 x4_1) != 37) = true := bne_iff_ne.mpr c5
      by_cases c11 : (bt a0 x4_1) = 47
      ·rw [if_pos c11] at H
       have c11b0 : ((bt a0 x4_1) == 47) = true := beq_iff_eq.mpr c11
       have c11b1 : ((bt a0 x4_1) != 47) = false := bne_eq_false_iff_eq.mpr c11
       clear c11
       obtain ⟨y187, hy187⟩ : ∃ y_ : List Int, y_ = (([37, 115] : List Int)) := ⟨_, rfl⟩
       replace H : (if x3_1.length + y187.length < 140737488355328 then (footbridgeref08_hidden.l0 k1 a0 (x3_1 ++ y187) (wrap64 (x4_1 + 1))) else (none)) = some r := by first | (rw [hy187]; with_reducible exact H) | (have H2_ := (Option.bind_some _ _).symm.trans H; rw [hy187]; with_reducible exact H2_) | (have H2_ := (Option.bind_some _ _).symm.trans H; with_reducible exact H2_) | with_reducible exact H | (rw [hy187]; exact H) | exact H
       have Ny187 := As_ hy187
       clear hy187
       by_cases c12 : x3_1.length + y187.length < 140737488355328
       ·rw [if_pos c12] at H
        have LMc12 := As_ c12
        clear c12
        obtain ⟨y190, hy190⟩ : ∃ y_ : List Int, y_ = (x3_1 ++ y187) := ⟨_, rfl⟩
        replace H : (footbridgeref08_hidden.l0 k1 a0 y190 (wrap64 (x4_1 + 1))) = some r := by first | (rw [hy190]; with_reducible exact H) | (have H2_ := (Option.bind_some _ _).symm.trans H; rw [hy190]; with_reducible exact H2_) | (have H2_ := (Option.bind_some _ _).symm.trans H; with_reducible exact H2_) | with_reducible exact H | (rw [hy190]; exact H) | exact H
        have Ny190 := As_ hy190
        clear hy190
        have H' := As_ H
        clear H
        have p4 : 0 ≤ (x4_1 : Int) := of_decide_eq_true ap7_
        have q4 : x4_1 < (a0.size : Int) := of_decide_eq_true ap7_
        have hx4 := bt_at a0 x4_1
        replace p4 := eq_true p4
        replace q4 := eq_true q4
        go_wp2_with (first | ((with_reducible refine gate_dst (N := 28) rfl ?_); refine Kd.R_lit (Kd.int .u8) _ 5 ?hg (N := 28) ?hd (xs := ([37, 115] : List Int)) (inner := [.int .u8 37, .int .u8 115]) (ok := fun _ => True) (okp := fun _ => True) ?hr ?hp (fun _ hk => hk) trivial (Below.refl _ _) (Nat.le_refl _) (by simp) ?_; (case hd => rfl); (case hg => rfl); (case hr => first | (go_simp; done) | (go_simp; rfl)); (case hp => exact (Reps.one (show Kd.M (Kd.int .u8) _ _ _ 37 [.int .u8 37] from rfl) (Reps.one (show Kd.M (Kd.int .u8) _ _ _ 115 [.int .u8 115] from rfl) (Reps.none _ _)))); intro v188 w13 ho14 hb hg_ hnew_; clear hg_ hnew_; (first | rw [← Ny187.out] at ho14 | (simp only [Int.reduceToNat] at ho14; rw [← Ny187.out] at ho14)); have HO189 := As_ (Kd.R_lower (Kd.R_new' ho14 (Kd.R_lt ap20_)) (below_size ap50_)); replace HO_3 := As_ (Kd.R_elder' ap20_ (Kd.R_base ho14) hb); replace HB := As_ (below_step ap50_ hb); clear hb ho14; obtain ⟨Ao16, co16, eo16⟩ := Kd.R_slice HO189.out; subst eo16) | ((with_reducible refine gate_builtin (b := .append) (xs := #[.tmp 27, .tmp 28]) rfl ?_); at_builtin; refine Kd.R_append_rows (Kd.int .u8) (w0 := w) w.heap.size rfl (.tmp 27) (.tmp 28) 124 5 (.int .u8 0) 1 rfl Tryz.underlying124 info5 rfl (by decide) (by omega) u3 x3_1 y187 _ _ _ (fun k_ => some k_ ≠ (.slice Ao16 y187.length co16 : Value).ownBlock) (fun _ => False) rfl rfl ?aO ?aR (fun _ _ h => h) (fun _ h => h.elim) ?aF ?aB ?aS ?aL ?_; (case aR => repeat (first | exact (Kd.R_reads' HO189.out).2.2 | (with_reducible refine Kd.C_alloc ?_ _) | (with_reducible refine Kd.C_drewN ?_ _) | (with_reducible refine Kd.C_drew ?_))); (case aB => exact ap50_); (case aF => exact (fun k_ hk => Kd.fresh' (Kd.R_lt ap33_) k_ hk)); (case aO => exact ap52_); (case aS => exact (below_size ap50_)); (case aL => have := LMc12.out; omega); intro v191 w15 ho hb hg hat; rw [← Ny190.out] at ho; have n0_ := As_ (Kd.R_after (ok := (fun _ => True)) ap33_ hg hat); have n1_ := As_ (hb); have n2_ := As_ (ho); clear HO189; clear HB; clear HO_3; have HO189 := n0_; have HB := n1_; have HO192 := n2_; clear n0_ n1_ n2_; clear ho hb hg hat))
        go_roundg k1
        case measure => have := HK1.out; omega
        case rel => exact ⟨(y190), (wrap64 (x4_1 + 1)), ap5_, H', ⟨by have := HK1.out; omega⟩, ⟨by (with_reducible repeat (first | apply Kd.R_alloc | apply Kd.R_drewN | apply Kd.R_drew)); exact Kd.R_mono HO192.out (fun _ hk => trivial)⟩, ⟨ap50_⟩⟩
       ·rw [if_neg c12] at H
        exact absurd H (by simp)
      ·rw [if_neg c11] at H
       have c11b0 : ((bt a0 x4_1) == 47) = false := beq_eq_false_iff_ne.mpr c11
       have c11b1 : ((bt a0 x4_1) != 47) = true := bne_iff_ne.mpr c11
       by_cases c18 : x3_1.length < 140737488355328
       ·rw [if_pos c18] at H
        have LMc18 := As_ c18
        clear c18
        obtain ⟨y193, hy193⟩ : ∃ y_ : List Int, y_ = (x3_1 ++ [bt a0 x4_1]) := ⟨_, rfl⟩
        replace H : (footbridgeref08_hidden.l0 k1 a0 y193 (wrap64 (x4_1 + 1))) = some r := by first | (rw [hy193]; with_reducible exact H) | (have H2_ := (Option.bind_some _ _).symm.trans H; rw [hy193]; with_reducible exact H2_) | (have H2_ := (Option.bind_some _ _).symm.trans H; with_reducible exact H2_) | with_reducible exact H | (rw [hy193]; exact H) | exact H
        have Ny193 := As_ hy193
        clear hy193
        have H' := As_ H
        clear H
        have p4 : 0 ≤ (x4_1 : Int) := of_decide_eq_true ap7_
        have q4 : x4_1 < (a0.size : Int) := of_decide_eq_true ap7_
        have hx4 := bt_at a0 x4_1
        replace p4 := eq_true p4
        replace q4 := eq_true q4
        have p17 : 0 ≤ (x4_1 : Int) := of_decide_eq_true ap7_
        have q17 : x4_1 < (a0.size : Int) := of_decide_eq_true ap7_
        have hx17 := bt_at a0 x4_1
        replace p17 := eq_true p17
        replace q17 := eq_true q17
        go_wp2_with (first | ((with_reducible refine gate_builtin (b := .append) (xs := #[.tmp 14, .tmp 18]) rfl ?_); at_builtin; refine Kd.R_append (Kd.int .u8) (w0 := w) w.heap.size rfl (.tmp 14) (.tmp 18) 124 5 (.int .u8 0) 1 rfl Tryz.underlying124 info5 rfl (by decide) (by omega) u3 x3_1 (bt a0 x4_1) [.int .u8 (bt a0 x4_1)] (fun _ => True) (fun _ => False) rfl rfl ?aP (fun _ hk => hk.elim) ?aF ?aO ?aB ?aS ?aL ?_; (case aP => exact rfl); (case aB => exact ap50_); (case aF => exact (fun _ _ => trivial)); (case aO => exact ap20_); (case aS => exact (below_size ap50_)); (case aL => have := LMc18.out; omega); intro v194 w19 ho hb hg hat; rw [← Ny193.out] at ho; have n0_ := As_ (hb); have n1_ := As_ (ho); clear HB; clear HO_3; have HB := n0_; have HO195 := n1_; clear n0_ n1_; clear ho hb hg hat))
        go_roundg k1
        case measure => have := HK1.out; omega
        case rel => exact ⟨(y193), (wrap64 (x4_1 + 1)), ap5_, H', ⟨by have := HK1.out; omega⟩, ⟨by (with_reducible repeat (first | apply Kd.R_alloc | apply Kd.R_drewN | apply Kd.R_drew)); exact HO195.out⟩, ⟨ap50_⟩⟩
       ·rw [if_neg c18] at H
        exact absurd H (by simp)
    ·rw [if_neg c3] at H
     exact absurd H (by simp)
   ·rw [if_neg c2] at H
    have c2b0 : decide (x4_1 < (a0.size : Int)) = false := decide_eq_false c2
    clear c2
    obtain rfl := Option.some.inj H
    have hcv20 := own_string (P := Tryz.prog) Tryz.underlying124 Tryz.underlying5 Tryz.underlying9 (Kd.own_of_R HO_3.out)
    (try (have hcv20d := own_string (P := Tryz.prog) Tryz.underlying124 Tryz.underlying5 Tryz.underlying9 (Kd.own_of_R (Kd.R_drew (HO_3.out)))))
    go_wp2
    go_ret
    exact ⟨ap17_, ap50_⟩
def footbridgeref08_Join.l0 : Nat → List ByteArray → ByteArray → Int → Option (ByteArray)
 | 0, _, _, _ => none
 | k + 1, x1, x5, x6 => if x6 < (x1.length : Int) then (if x5.size + 1 ≤ 9223372036854775807 then (if 0 ≤ x6 then ((footbridgeref08_hidden.f k (rdOf ByteArray.empty x1 x6)).bind fun t198 => (if (x5 ++ (⟨#[47]⟩ : ByteArray)).size + t198.size ≤ 9223372036854775807 then (footbridgeref08_Join.l0 k x1 ((x5 ++ (⟨#[47]⟩ : ByteArray)) ++ t198) (wrap64 (x6 + 1))) else (none))) else (none)) else (none)) else (some x5)
def footbridgeref08_Join.f (k : Nat) (a0 : ByteArray) (l1 : List ByteArray) : Option (ByteArray) := (footbridgeref08_hidden.f k a0).bind fun t196 => (footbridgeref08_Join.l0 k l1 t196 0)
theorem footbridgeref08_Join.mono_l : ∀ k, (∀ y0 y1 y2, LeO (footbridgeref08_Join.l0 k y0 y1 y2) (footbridgeref08_Join.l0 (k + 1) y0 y1 y2))
 | 0 => fun _ _ _ r h => by simp [footbridgeref08_Join.l0] at h
 | k + 1 => by
  have ih0 := footbridgeref08_Join.mono_l k
  ·intro y0 y1 y2
   unfold footbridgeref08_Join.l0
   repeat' first
   | (with_reducible exact ih0 _ _ _)
   | (with_reducible exact footbridgeref08_hidden.mono _ _)
   | (with_reducible exact LeO.refl _)
   | (with_reducible exact LeO.none _)
   | (with_reducible refine LeO.ite ?_ ?_)
   | (with_reducible refine LeO.bind ?_ (fun _ => ?_))
   | exact ih0 _ _ _
   | exact footbridgeref08_hidden.mono _ _
   | exact LeO.none _
   | refine LeO.ite ?_ ?_
   | refine LeO.bind ?_ (fun _ => ?_)
theorem footbridgeref08_Join.mono : ∀ a0 a1 k, LeO (footbridgeref08_Join.f k a0 a1) (footbridgeref08_Join.f (k + 1) a0 a1) := by
 intro a0 a1 k
 have ih0 := footbridgeref08_Join.mono_l k
 unfold footbridgeref08_Join.f
 repeat' first
   | (with_reducible exact ih0 _ _ _)
   | (with_reducible exact footbridgeref08_hidden.mono _ _)
   | (with_reducible exact LeO.refl _)
   | (with_reducible exact LeO.none _)
   | (with_reducible refine LeO.ite ?_ ?_)
   | (with_reducible refine LeO.bind ?_ (fun _ => ?_))
   | exact ih0 _ _ _
   | exact footbridgeref08_hidden.mono _ _
   | exact LeO.none _
   | refine LeO.ite ?_ ?_
   | refine LeO.bind ?_ (fun _ => ?_)
theorem footbridgeref08_Join.calls (k : Nat) (a0 : ByteArray) (A1 : Option Addr) (c1 : Nat) (l1 : List ByteArray) (r : ByteArray) (w : World) (hr1 : Kd.C Kd.string w A1 l1.length l1) (hc1 : l1.length ≤ c1) (h : footbridgeref08_Join.f k a0 l1 = some r) :
  Calls Tryz.prog 78 #[.string a0, .slice A1 l1.length c1] w fun e w' => e = .returned (.string r) ∧ Below w.heap.size w w' := by
 have HR1 := As_ hr1
 have HC1 := As_ hc1
 clear hr1 hc1
 have HB := As_ (Below.refl w.heap.size w)
 have H : ((footbridgeref08_hidden.f k a0).bind fun t196 => (footbridgeref08_Join.l0 k l1 t196 0)) = some r := h
 clear h
 replace H := Option.bind_eq_some_iff.mp H
 obtain ⟨t196, A30, H⟩ := H
 try dsimp only at H
 have A3 := As_ A30
 clear A30
 have H' := As_ H
 clear H
 go_enter Tryz.func78, Tryz.ntmps78
 go_wp2_with (first | ((with_reducible refine gate_callee (f := 95) rfl ?_); refine gk_ (some 8) Tryz.func95 #[.string a0] ?_; (with_reducible refine (footbridgeref08_hidden.calls k a0 t196 _ A3.out).mono ?_); rintro e w4 ⟨rfl, hb⟩; refine ⟨_, rfl, ?_⟩; replace HB := As_ (below_step ap50_ hb); (try clear hb); (try clear hb2); (try clear hk); (try clear hi)))
 go_loopg [5, 6] k (fun kq v5 v6 w' => ∃ (x5_1 : ByteArray) (x6_1 : Int), v5 = .string x5_1 ∧ v6 = .int .i64 x6_1 ∧ Aside0 (footbridgeref08_Join.l0 kq l1 x5_1 x6_1 = some r) ∧ Aside0 (kq ≤ k) ∧ Aside0 (Below w.heap.size w w'))
 case atStart => exact ⟨(t196), (0), ap5_, ap5_, H', ⟨Nat.le_refl _⟩, ⟨ap50_⟩⟩
 case round =>
  clear H'
  try clear c1
  obtain ⟨x5_1, x6_1, rfl, rfl, HA, HK1, HB⟩ := hrel
  cases gk with
  | zero => exact absurd HA.out (by simp [footbridgeref08_Join.l0])
  | succ k1 =>
   have H := HA.out
   clear HA
   simp only [footbridgeref08_Join.l0] at H
   by_cases c5 : x6_1 < (l1.length : Int)
   ·rw [if_pos c5] at H
    have c5b0 : decide (x6_1 < (l1.length : Int)) = true := decide_eq_true c5
    clear c5
    by_cases c6 : x5_1.size + 1 ≤ 9223372036854775807
    ·rw [if_pos c6] at H
     have c6b0 := eq_true c6
     have c6b1 : decide (x5_1.size + 1 ≤ 9223372036854775807) = true := decide_eq_true c6
     try have c6b2 : (9223372036854775807 < x5_1.size + 1) = False := eq_false (Nat.not_lt.2 c6)
     by_cases c7 : 0 ≤ x6_1
     ·rw [if_pos c7] at H
      have c7b0 : decide (0 ≤ x6_1) = true := decide_eq_true c7
      clear c7
      replace H := Option.bind_eq_some_iff.mp H
      obtain ⟨t198, A80, H⟩ := H
      try dsimp only at H
      have A8 := As_ A80
      clear A80
      by_cases c9 : (x5_1 ++ (⟨#[47]⟩ : ByteArray)).size + t198.size ≤ 9223372036854775807
      ·rw [if_pos c9] at H
       have c9b0 := eq_true c9
       have c9b1 : decide ((x5_1 ++ (⟨#[47]⟩ : ByteArray)).size + t198.size ≤ 9223372036854775807) = true := decide_eq_true c9
       try have c9b2 : (9223372036854775807 < (x5_1 ++ (⟨#[47]⟩ : ByteArray)).size + t198.size) = False := eq_false (Nat.not_lt.2 c9)
       try (have c9b2_ := c9b2; simp only [ByteArray.size_append, my_lit_size, List.length_cons, List.length_nil, Nat.reduceAdd] at c9b2_)
       have H' := As_ H
       clear H
       have p197 : 0 ≤ (x6_1 : Int) := of_decide_eq_true ap7_
       have q197 : x6_1 < (l1.length : Int) := of_decide_eq_true ap7_
       obtain ⟨ad197, e197, hx197_0⟩ := Kd.at_string HR1.out x6_1 p197 q197
       cases e197
       replace hx197_0 := (HB.out.cell (World.block_lt_of_cell? w _ hx197_0)).trans hx197_0
       replace p197 := eq_true p197
       replace q197 := eq_true q197
       go_wp2_with (first | ((with_reducible refine gate_callee (f := 95) rfl ?_); refine gk_ (some 21) Tryz.func95 #[.string (rdOf ByteArray.empty l1 x6_1)] ?_; (with_reducible refine (footbridgeref08_hidden.calls k1 (rdOf ByteArray.empty l1 x6_1) t198 _ A8.out).mono ?_); rintro e w10 ⟨rfl, hb⟩; refine ⟨_, rfl, ?_⟩; replace HB := As_ (below_step ap50_ hb); (try clear hb); (try clear hb2); (try clear hk); (try clear hi)))
       go_roundg k1
       case measure => have := HK1.out; omega
       case rel => exact ⟨((x5_1 ++ (⟨#[47]⟩ : ByteArray)) ++ t198), (wrap64 (x6_1 + 1)), ap5_, ap5_, H', ⟨by have := HK1.out; omega⟩, ⟨ap50_⟩⟩
      ·rw [if_neg c9] at H
       exact absurd H (by simp)
     ·rw [if_neg c7] at H
      exact absurd H (by simp)
    ·rw [if_neg c6] at H
     exact absurd H (by simp)
   ·rw [if_neg c5] at H
    have c5b0 : decide (x6_1 < (l1.length : Int)) = false := decide_eq_false c5
    clear c5
    obtain rfl := Option.some.inj H
    go_wp2
    go_ret
    exact ⟨ap17_, ap50_⟩
def footbridgeref14_Key.f (k : Nat) (l0 : List ByteArray) : Option (ByteArray) := if 0 < (l0.length : Int) then (if 1 ≤ (l0.length : Int) then ((footbridgeref08_Join.f k (rdOf ByteArray.empty l0 0) (l0.drop 1)).bind fun t201 => (some t201)) else (none)) else (none)
theorem footbridgeref14_Key.mono : ∀ a0 k, LeO (footbridgeref14_Key.f k a0) (footbridgeref14_Key.f (k + 1) a0) := by
 intro a0 k
 unfold footbridgeref14_Key.f
 repeat' first
   | (with_reducible exact footbridgeref08_Join.mono _ _ _)
   | (with_reducible exact LeO.refl _)
   | (with_reducible exact LeO.none _)
   | (with_reducible refine LeO.ite ?_ ?_)
   | (with_reducible refine LeO.bind ?_ (fun _ => ?_))
   | exact footbridgeref08_Join.mono _ _ _
   | exact LeO.none _
   | refine LeO.ite ?_ ?_
   | refine LeO.bind ?_ (fun _ => ?_)
theorem footbridgeref14_Key.calls (k : Nat) (A0 : Option Addr) (c0 : Nat) (l0 : List ByteArray) (r : ByteArray) (w : World) (hr0 : Kd.C Kd.string w A0 l0.length l0) (hc0 : l0.length ≤ c0) (h : footbridgeref14_Key.f k l0 = some r) :
  Calls Tryz.prog 47 #[.slice A0 l0.length c0] w fun e w' => e = .returned (.string r) ∧ Below w.heap.size w w' := by
 have HR0 := As_ hr0
 have HC0 := As_ hc0
 clear hr0 hc0
 have HB := As_ (Below.refl w.heap.size w)
 have H : (if 0 < (l0.length : Int) then (if 1 ≤ (l0.length : Int) then ((footbridgeref08_Join.f k (rdOf ByteArray.empty l0 0) (l0.drop 1)).bind fun t201 => (some t201)) else (none)) else (none)) = some r := h
 clear h
 by_cases c2 : 0 < (l0.length : Int)
 ·rw [if_pos c2] at H
  have c2b0 : decide (0 < (l0.length : Int)) = true := decide_eq_true c2
  have c2b1 : decide (0 < l0.length) = true := decide_eq_true (by omega)
  clear c2
  by_cases c3 : 1 ≤ (l0.length : Int)
  ·rw [if_pos c3] at H
   have c3b0 := eq_true c3
   have c3b1 : decide (1 ≤ (l0.length : Int)) = true := decide_eq_true c3
   clear c3
   replace H := Option.bind_eq_some_iff.mp H
   obtain ⟨t201, A40, H⟩ := H
   try dsimp only at H
   have A4 := As_ A40
   clear A40
   obtain rfl := Option.some.inj H
   go_enter Tryz.func47, Tryz.ntmps47
   try go_wp2
   replace HB := As_ (below_drew1 HB.out)
   have p199 : 0 ≤ (0 : Int) := (by omega)
   have q199 : 0 < (l0.length : Int) := of_decide_eq_true ap7_
   obtain ⟨ad199, e199, hx199_0⟩ := Kd.at_string HR0.out 0 p199 q199
   have hw199_0 := hx199_0
   (try rw [show ((0 : Int)).toNat = 0 from rfl] at hw199_0)
   (try rw [show 0 * 1 = 0 from rfl] at hw199_0)
   (try rw [Addr.add_zero'] at hw199_0)
   cases e199
   have qi199 : (0 < l0.length) = True := eq_true (by omega)
   (try rw [show ((0 : Int)).toNat = 0 from rfl] at hx199_0)
   (try rw [Addr.add_zero'] at hx199_0)
   replace hx199_0 := (HB.out.cell (World.block_lt_of_cell? w _ hx199_0)).trans hx199_0
   replace p199 := eq_true p199
   replace q199 := eq_true q199
   obtain ⟨i06, hi06, _, hsz6, _⟩ := info_parts info9
   obtain ⟨A6, hcut6, hA6, hC6⟩ := print_drop_of (P := Tryz.prog) Value.string ⟨#[]⟩ 32 9 .i64 Tryz.underlying32 hi06 hsz6 (some ad199) c0 l0 1 (by omega) (of_decide_eq_true ap7_) HC0.out
   have HR200 := As_ (Kd.C_of_reads (h1 := fun _ => rfl) (hA6 _ (Kd.reads_of_C HR0.out)))
   have HC200 := As_ hC6
   clear hA6 hC6 hi06 hsz6
   refine start_ (n := 7) (S := fun w' => w'.cell? ad199 = some (.string (rdOf ByteArray.empty l0 0))) (ds := []) #[false, false, false, false, false, false, false] (by kernel_rfl) rfl rfl (((HB.out.cell (World.block_lt_of_cell? w _ hw199_0)).trans hw199_0)) (fun hHeld => ?_)
   generalize w.drew = w5 at HB HR200 hx199_0 hHeld ⊢
   refine pure_ (i := 0) (N := some 3) #[true, false, false, false, false, false, false] rfl rfl (by kernel_rfl) (fun _ _ _ h => h) (Or.inl ⟨by rfl, ap2_⟩) ap35_ ?_
   refine pure_ (i := 1) (N := some 4) #[true, true, false, false, false, false, false] rfl rfl (by kernel_rfl) (fun _ _ _ h => h) (Or.inl ⟨by rfl, ap2_⟩) ap35_ ?_
   refine pure_ (i := 3) (N := some 6) #[true, true, false, true, false, false, false] rfl rfl (by kernel_rfl) (fun _ _ _ h => h) (Or.inl ⟨by rfl, ap2_⟩) ap35_ ?_
   refine pure_ (i := 4) (N := some 7) #[true, true, false, true, true, false, false] rfl rfl (by kernel_rfl) (fun _ _ _ h => h) (Or.inl ⟨by rfl, ap2_⟩) ap35_ ?_
   refine take_ (i := 2) (N := some 5) #[true, true, true, true, true, false, false] rfl rfl (by kernel_rfl) (fun _ _ _ h => h) (Or.inl ⟨by rfl, (by intro w' s0; go_simp; with_reducible rfl)⟩) hHeld ap35_ ?_
   refine one_ (i := 5) (N := some 8) #[true, true, true, true, true, true, false] rfl rfl (by kernel_rfl) (by decide) (fun K hK => ?_)
   refine goes_ Tryz.func78 (by kernel_rfl) rfl #[.string (rdOf ByteArray.empty l0 0), .slice A6 (l0.drop 1).length (c0 - 1)] (by rfl) rfl rfl (by (try simp only [List.map_toArray, List.map_cons, List.map_nil]); first | done | (rw [show (l0.drop 1).length = (l0.length - 1) from List.length_drop] <;> rfl) | rfl | (simp only [List.length_drop, List.length_take]; rfl)) ?_
   with_reducible refine (footbridgeref08_Join.calls k (rdOf ByteArray.empty l0 0) _ _ (l0.drop 1) t201 _ ?side1 ?side2 A4.out).mono ?_
   (case side1 => repeat (first | exact (Kd.C_below HR200.out HB.out) | (with_reducible refine Kd.C_alloc ?_ _) | (with_reducible refine Kd.C_drewN ?_ _) | (with_reducible refine Kd.C_drew ?_)))
   (case side2 => exact HC200.out)
   rintro e w7 ⟨rfl, hb⟩
   refine ⟨_, rfl, ?_⟩
   replace HB := As_ (below_step ap50_ hb)
   (try clear hb)
   (try clear hb2)
   (try clear hk)
   (try clear hi)
   refine hK.out _ _ (((HB.out.cell (World.block_lt_of_cell? w _ hw199_0)).trans hw199_0)) (fun hHeld => ?_)
   clear hK K
   refine norm_ (a' := ?_) ?_ ?_
   rotate_left
   ·show Act.put _ (some 8) _ = _
    simp only [Act.put, List.setIfInBounds_toArray, List.set_cons_zero, List.set_cons_succ, i64_w, i32_w]
    rfl
   refine pure_ (i := 6) (N := some 2) #[true, true, true, true, true, true, true] rfl rfl (by kernel_rfl) (fun _ _ _ h => h) (Or.inl ⟨by rfl, ap2_⟩) ap35_ ?_
   refine done_ (by kernel_rfl) ?_
   try go_wp2
   go_ret
   exact ⟨ap17_, ap50_⟩
  ·rw [if_neg c3] at H
   exact absurd H (by simp)
 ·rw [if_neg c2] at H
  exact absurd H (by simp)
def footbridgeref22_key.f (k : Nat) (a0 : ByteArray) : Option (ByteArray) := (footbridgeref14_Key.f k (([(⟨#[99, 108, 97, 115, 115]⟩ : ByteArray), a0] : List ByteArray))).bind fun t205 => (some t205)
theorem footbridgeref22_key.mono : ∀ a0 k, LeO (footbridgeref22_key.f k a0) (footbridgeref22_key.f (k + 1) a0) := by
 intro a0 k
 unfold footbridgeref22_key.f
 repeat' first
   | (with_reducible exact footbridgeref14_Key.mono _ _)
   | (with_reducible exact LeO.refl _)
   | (with_reducible exact LeO.none _)
   | (with_reducible refine LeO.ite ?_ ?_)
   | (with_reducible refine LeO.bind ?_ (fun _ => ?_))
   | exact footbridgeref14_Key.mono _ _
   | exact LeO.none _
   | refine LeO.ite ?_ ?_
   | refine LeO.bind ?_ (fun _ => ?_)
theorem footbridgeref22_key.calls (k : Nat) (a0 : ByteArray) (r : ByteArray) (w : World) (h : footbridgeref22_key.f k a0 = some r) :
  Calls Tryz.prog 66 #[.string a0] w fun e w' => e = .returned (.string r) ∧ Below w.heap.size w w' := by
 have HB := As_ (Below.refl w.heap.size w)
 have H : ((footbridgeref14_Key.f k (([(⟨#[99, 108, 97, 115, 115]⟩ : ByteArray), a0] : List ByteArray))).bind fun t205 => (some t205)) = some r := h
 clear h
 obtain ⟨y202, hy202⟩ : ∃ y_ : List ByteArray, y_ = (([(⟨#[99, 108, 97, 115, 115]⟩ : ByteArray), a0] : List ByteArray)) := ⟨_, rfl⟩
 replace H : ((footbridgeref14_Key.f k y202).bind fun t205 => (some t205)) = some r := by first | (rw [hy202]; with_reducible exact H) | (have H2_ := (Option.bind_some _ _).symm.trans H; rw [hy202]; with_reducible exact H2_) | (have H2_ := (Option.bind_some _ _).symm.trans H; with_reducible exact H2_) | with_reducible exact H | (rw [hy202]; exact H) | exact H
 have Ny202 := As_ hy202
 clear hy202
 replace H := Option.bind_eq_some_iff.mp H
 obtain ⟨t205, A20, H⟩ := H
 try dsimp only at H
 have A2 := As_ A20
 clear A20
 obtain rfl := Option.some.inj H
 go_enter Tryz.func66, Tryz.ntmps66
 go_wp2_with (first | ((with_reducible refine gate_dst (N := 4) rfl ?_); refine Kd.R_lit Kd.string _ 9 ?hg (N := 4) ?hd (xs := ([(⟨#[99, 108, 97, 115, 115]⟩ : ByteArray), a0] : List ByteArray)) (inner := [.string ⟨#[99, 108, 97, 115, 115]⟩, .string a0]) (ok := fun _ => True) (okp := fun _ => True) ?hr ?hp (fun _ hk => hk) trivial (Below.refl _ _) (Nat.le_refl _) (by simp) ?_; (case hd => rfl); (case hg => rfl); (case hr => first | (go_simp; done) | (go_simp; rfl)); (case hp => exact (Reps.one (show Kd.M Kd.string _ _ _ (⟨#[99, 108, 97, 115, 115]⟩ : ByteArray) [.string ⟨#[99, 108, 97, 115, 115]⟩] from rfl) (Reps.one (show Kd.M Kd.string _ _ _ a0 [.string a0] from rfl) (Reps.none _ _)))); intro v203 w3 ho4 hb hg_ hnew_; clear hg_ hnew_; (first | rw [← Ny202.out] at ho4 | (simp only [Int.reduceToNat] at ho4; rw [← Ny202.out] at ho4)); have HO204 := As_ (Kd.R_lower ho4 (below_size ap50_)); replace HB := As_ (below_step ap50_ hb); clear hb ho4; obtain ⟨Ao5, co5, eo5⟩ := Kd.R_slice HO204.out; subst eo5) | ((with_reducible refine gate_callee (f := 47) rfl ?_); refine gk_ (some 5) Tryz.func47 #[.slice Ao5 y202.length co5] ?_; (with_reducible refine (footbridgeref14_Key.calls k _ _ y202 t205 _ ?side1 ?side2 A2.out).mono ?_); (case side1 => repeat (first | exact (Kd.R_reads' HO204.out).2.2 | (with_reducible refine Kd.C_alloc ?_ _) | (with_reducible refine Kd.C_drewN ?_ _) | (with_reducible refine Kd.C_drew ?_))); (case side2 => exact (Kd.R_reads' HO204.out).2.1); rintro e w6 ⟨rfl, hb⟩; refine ⟨_, rfl, ?_⟩; replace HO204 := As_ (Kd.R_below (by (with_reducible repeat (first | apply Kd.R_alloc | apply Kd.R_drewN | apply Kd.R_drew)); exact HO204.out) hb); replace HB := As_ (below_step ap50_ hb); (try clear hb); (try clear hb2); (try clear hk); (try clear hi)))
 go_ret
 exact ⟨ap17_, ap50_⟩
def footbridgeref09_Set.f (k : Nat) (l0 : List (S82)) (a1 : ByteArray) (a2 : ByteArray) : Option ((List (S82)) × Bool) := (footbridgeref09_at.f k l0 a1).bind fun t206 => (if t206 = (l0.length : Int) then (if 0 ≤ t206 then (if t206 ≤ (l0.length : Int) then ((some (l0.drop (t206 : Int).toNat : List (S82))).bind fun y207 => ((some (l0.take (t206 : Int).toNat : List (S82))).bind fun y211 => (if ([] : List (S82)).length + y211.length < 4398046511104 then ((some (([] : List (S82)) ++ y211 : List (S82))).bind fun y215 => (if y215.length < 4398046511104 then ((some (y215 ++ [(⟨a1, a2⟩ : S82)] : List (S82))).bind fun y218 => (if y218.length + y207.length < 4398046511104 then (some ((y218 ++ y207), true)) else (none))) else (none))) else (none)))) else (none)) else (none)) else (if 0 ≤ t206 then (if t206 < (l0.length : Int) then (if t206 ≤ (l0.length : Int) then ((some (l0.drop (t206 : Int).toNat : List (S82))).bind fun y225 => (if (¬ ((rd_T82 l0 t206).f0).toList = a1.toList) then ((some (l0.take (t206 : Int).toNat : List (S82))).bind fun y229 => (if ([] : List (S82)).length + y229.length < 4398046511104 then ((some (([] : List (S82)) ++ y229 : List (S82))).bind fun y233 => (if y233.length < 4398046511104 then ((some (y233 ++ [(⟨a1, a2⟩ : S82)] : List (S82))).bind fun y236 => (if y236.length + y225.length < 4398046511104 then (some ((y236 ++ y225), (((rd_T82 l0 t206).f0).toList != a1.toList))) else (none))) else (none))) else (none))) else (if 0 ≤ (wrap64 (t206 + 1)) then (if (wrap64 (t206 + 1)) ≤ (l0.length : Int) then ((some (l0.drop ((wrap64 (t206 + 1)) : Int).toNat : List (S82))).bind fun y242 => ((some (l0.take (t206 : Int).toNat : List (S82))).bind fun y246 => (if ([] : List (S82)).length + y246.length < 4398046511104 then ((some (([] : List (S82)) ++ y246 : List (S82))).bind fun y250 => (if y250.length < 4398046511104 then ((some (y250 ++ [(⟨a1, a2⟩ : S82)] : List (S82))).bind fun y253 => (if y253.length + y242.length < 4398046511104 then (some ((y253 ++ y242), (((rd_T82 l0 t206).f0).toList != a1.toList))) else (none))) else (none))) else (none)))) else (none)) else (none)))) else (none)) else (none)) else (none)))
theorem footbridgeref09_Set.mono : ∀ a0 a1 a2 k, LeO (footbridgeref09_Set.f k a0 a1 a2) (footbridgeref09_Set.f (k + 1) a0 a1 a2) := by
 intro a0 a1 a2 k
 unfold footbridgeref09_Set.f
 repeat' first
   | (with_reducible exact footbridgeref09_at.mono _ _ _)
   | (with_reducible exact LeO.refl _)
   | (with_reducible exact LeO.none _)
   | (with_reducible refine LeO.ite ?_ ?_)
   | (with_reducible refine LeO.bind ?_ (fun _ => ?_))
   | exact footbridgeref09_at.mono _ _ _
   | exact LeO.none _
   | refine LeO.ite ?_ ?_
   | refine LeO.bind ?_ (fun _ => ?_)
theorem footbridgeref09_Set.calls (k : Nat) (A0 : Option Addr) (c0 : Nat) (l0 : List (S82)) (a1 : ByteArray) (a2 : ByteArray) (r1 : List (S82)) (r2 : Bool) (w : World) (hr0 : Kd.C k82 w A0 l0.length l0) (hc0 : l0.length ≤ c0) (h : footbridgeref09_Set.f k l0 a1 a2 = some (r1, r2)) :
  Calls Tryz.prog 88 #[.slice A0 l0.length c0, .string a1, .string a2] w fun e w' => ∃ v0_ : Value, e = .returned (.tuple #[v0_, .bool r2]) ∧ Kd.R k82 82 w' w.heap.size (fun _ => True) v0_ r1 ∧ Below w.heap.size w w' := by
 have hu82 := Tryz.underlying82
 have HR0 := As_ hr0
 have HC0 := As_ hc0
 clear hr0 hc0
 have HB := As_ (Below.refl w.heap.size w)
 have H : ((footbridgeref09_at.f k l0 a1).bind fun t206 => (if t206 = (l0.length : Int) then (if 0 ≤ t206 then (if t206 ≤ (l0.length : Int) then ((some (l0.drop (t206 : Int).toNat : List (S82))).bind fun y207 => ((some (l0.take (t206 : Int).toNat : List (S82))).bind fun y211 => (if ([] : List (S82)).length + y211.length < 4398046511104 then ((some (([] : List (S82)) ++ y211 : List (S82))).bind fun y215 => (if y215.length < 4398046511104 then ((some (y215 ++ [(⟨a1, a2⟩ : S82)] : List (S82))).bind fun y218 => (if y218.length + y207.length < 4398046511104 then (some ((y218 ++ y207), true)) else (none))) else (none))) else (none)))) else (none)) else (none)) else (if 0 ≤ t206 then (if t206 < (l0.length : Int) then (if t206 ≤ (l0.length : Int) then ((some (l0.drop (t206 : Int).toNat : List (S82))).bind fun y225 => (if (¬ ((rd_T82 l0 t206).f0).toList = a1.toList) then ((some (l0.take (t206 : Int).toNat : List (S82))).bind fun y229 => (if ([] : List (S82)).length + y229.length < 4398046511104 then ((some (([] : List (S82)) ++ y229 : List (S82))).bind fun y233 => (if y233.length < 4398046511104 then ((some (y233 ++ [(⟨a1, a2⟩ : S82)] : List (S82))).bind fun y236 => (if y236.length + y225.length < 4398046511104 then (some ((y236 ++ y225), (((rd_T82 l0 t206).f0).toList != a1.toList))) else (none))) else (none))) else (none))) else (if 0 ≤ (wrap64 (t206 + 1)) then (if (wrap64 (t206 + 1)) ≤ (l0.length : Int) then ((some (l0.drop ((wrap64 (t206 + 1)) : Int).toNat : List (S82))).bind fun y242 => ((some (l0.take (t206 : Int).toNat : List (S82))).bind fun y246 => (if ([] : List (S82)).length + y246.length < 4398046511104 then ((some (([] : List (S82)) ++ y246 : List (S82))).bind fun y250 => (if y250.length < 4398046511104 then ((some (y250 ++ [(⟨a1, a2⟩ : S82)] : List (S82))).bind fun y253 => (if y253.length + y242.length < 4398046511104 then (some ((y253 ++ y242), (((rd_T82 l0 t206).f0).toList != a1.toList))) else (none))) else (none))) else (none)))) else (none)) else (none)))) else (none)) else (none)) else (none)))) = some (r1, r2) := h
 clear h
 replace H := Option.bind_eq_some_iff.mp H
 obtain ⟨t206, A40, H⟩ := H
 try dsimp only at H
 have A4 := As_ A40
 clear A40
 by_cases c5 : t206 = (l0.length : Int)
 ·rw [if_pos c5] at H
  have c5b0 : (t206 == (l0.length : Int)) = true := beq_iff_eq.mpr c5
  have c5b1 : (t206 != (l0.length : Int)) = false := bne_eq_false_iff_eq.mpr c5
  clear c5
  by_cases c6 : 0 ≤ t206
  ·rw [if_pos c6] at H
   have c6b0 := eq_true c6
   have c6b1 : decide (0 ≤ t206) = true := decide_eq_true c6
   clear c6
   by_cases c7 : t206 ≤ (l0.length : Int)
   ·rw [if_pos c7] at H
    have c7b0 := eq_true c7
    have c7b1 : decide (t206 ≤ (l0.length : Int)) = true := decide_eq_true c7
    clear c7
    obtain ⟨y207, hy207⟩ : ∃ y_ : List (S82), y_ = (l0.drop (t206 : Int).toNat) := ⟨_, rfl⟩
    replace H : ((some (l0.take (t206 : Int).toNat : List (S82))).bind fun y211 => (if ([] : List (S82)).length + y211.length < 4398046511104 then ((some (([] : List (S82)) ++ y211 : List (S82))).bind fun y215 => (if y215.length < 4398046511104 then ((some (y215 ++ [(⟨a1, a2⟩ : S82)] : List (S82))).bind fun y218 => (if y218.length + y207.length < 4398046511104 then (some ((y218 ++ y207), true)) else (none))) else (none))) else (none))) = some (r1, r2) := by first | (rw [hy207]; with_reducible exact H) | (have H2_ := (Option.bind_some _ _).symm.trans H; rw [hy207]; with_reducible exact H2_) | (have H2_ := (Option.bind_some _ _).symm.trans H; with_reducible exact H2_) | with_reducible exact H | (rw [hy207]; exact H) | exact H
    have Ny207 := As_ hy207
    clear hy207
    have c8b0 := eq_true (of_decide_eq_true ap7_ : 0 ≤ t206)
    have c9b0 := eq_true (of_decide_eq_true ap7_ : t206 ≤ (l0.length : Int))
    obtain ⟨y211, hy211⟩ : ∃ y_ : List (S82), y_ = (l0.take (t206 : Int).toNat) := ⟨_, rfl⟩
    replace H : (if ([] : List (S82)).length + y211.length < 4398046511104 then ((some (([] : List (S82)) ++ y211 : List (S82))).bind fun y215 => (if y215.length < 4398046511104 then ((some (y215 ++ [(⟨a1, a2⟩ : S82)] : List (S82))).bind fun y218 => (if y218.length + y207.length < 4398046511104 then (some ((y218 ++ y207), true)) else (none))) else (none))) else (none)) = some (r1, r2) := by first | (rw [hy211]; with_reducible exact H) | (have H2_ := (Option.bind_some _ _).symm.trans H; rw [hy211]; with_reducible exact H2_) | (have H2_ := (Option.bind_some _ _).symm.trans H; with_reducible exact H2_) | with_reducible exact H | (rw [hy211]; exact H) | exact H
    have Ny211 := As_ hy211
    clear hy211
    by_cases c10 : ([] : List (S82)).length + y211.length < 4398046511104
    ·rw [if_pos c10] at H
     have LMc10 := As_ c10
     clear c10
     obtain ⟨y215, hy215⟩ : ∃ y_ : List (S82), y_ = (([] : List (S82)) ++ y211) := ⟨_, rfl⟩
     replace H : (if y215.length < 4398046511104 then ((some (y215 ++ [(⟨a1, a2⟩ : S82)] : List (S82))).bind fun y218 => (if y218.length + y207.length < 4398046511104 then (some ((y218 ++ y207), true)) else (none))) else (none)) = some (r1, r2) := by first | (rw [hy215]; with_reducible exact H) | (have H2_ := (Option.bind_some _ _).symm.trans H; rw [hy215]; with_reducible exact H2_) | (have H2_ := (Option.bind_some _ _).symm.trans H; with_reducible exact H2_) | with_reducible exact H | (rw [hy215]; exact H) | exact H
     have Ny215 := As_ hy215
     clear hy215
     by_cases c11 : y215.length < 4398046511104
     ·rw [if_pos c11] at H
      have LMc11 := As_ c11
      clear c11
      obtain ⟨y218, hy218⟩ : ∃ y_ : List (S82), y_ = (y215 ++ [(⟨a1, a2⟩ : S82)]) := ⟨_, rfl⟩
      replace H : (if y218.length + y207.length < 4398046511104 then (some ((y218 ++ y207), true)) else (none)) = some (r1, r2) := by first | (rw [hy218]; with_reducible exact H) | (have H2_ := (Option.bind_some _ _).symm.trans H; rw [hy218]; with_reducible exact H2_) | (have H2_ := (Option.bind_some _ _).symm.trans H; with_reducible exact H2_) | with_reducible exact H | (rw [hy218]; exact H) | exact H
      have Ny218 := As_ hy218
      clear hy218
      by_cases c12 : y218.length + y207.length < 4398046511104
      ·rw [if_pos c12] at H
       have LMc12 := As_ c12
       clear c12
       obtain ⟨y221, hy221⟩ : ∃ y_ : List (S82), y_ = (y218 ++ y207) := ⟨_, rfl⟩
       replace H : (some (y221, true)) = some (r1, r2) := by first | (rw [hy221]; with_reducible exact H) | (have H2_ := (Option.bind_some _ _).symm.trans H; rw [hy221]; with_reducible exact H2_) | (have H2_ := (Option.bind_some _ _).symm.trans H; with_reducible exact H2_) | with_reducible exact H | (rw [hy221]; exact H) | exact H
       have Ny221 := As_ hy221
       clear hy221
       simp only [Option.some.injEq, Prod.mk.injEq] at H
       obtain ⟨rfl, rfl⟩ := H
       go_enter Tryz.func88, Tryz.ntmps88
       go_wp2_with (first | ((with_reducible refine gate_callee (f := 74) rfl ?_); refine gk_ (some 14) Tryz.func74 #[.slice A0 l0.length c0, .string a1] ?_; (with_reducible refine (footbridgeref09_at.calls k _ _ l0 a1 t206 _ ?side1 ?side2 A4.out).mono ?_); (case side1 => repeat (first | exact HR0.out | (with_reducible refine Kd.C_alloc ?_ _) | (with_reducible refine Kd.C_drewN ?_ _) | (with_reducible refine Kd.C_drew ?_))); (case side2 => exact HC0.out); rintro e w' ⟨rfl, ⟨nd, rfl⟩⟩; refine ⟨_, rfl, ?_⟩; have q13 : (t206 : Int) ≤ ((l0.length : Int) : Int) := of_decide_eq_true ap7_; obtain ⟨i013, hi013, _, hsz13, _⟩ := info_parts info82; have hroom13 : l0.length ≤ c0 := HC0.out; have hC13 : Kd.C k82 _ A0 l0.length l0 := HR0.out; have q013 : (0 : Int) ≤ (t206 : Int) := of_decide_eq_true ap7_; have hcut13 := cut_from (P := Tryz.prog) 36 82 .i64 Tryz.underlying36 hi013 2 hsz13 A0 l0.length c0 t206 q013 q13; have hr13 := Kd.C_drop (m := (t206 : Int).toNat) (c := c0) hC13 (by omega) hroom13; obtain ⟨A13, hA13⟩ : ∃ A1, A1 = (if c0 = (t206 : Int).toNat then A0 else (A0 : Option Addr).map (·.add ((t206 : Int).toNat * 2))) := ⟨_, rfl⟩; obtain ⟨c13, hc13⟩ : ∃ c1, c1 = c0 - (t206 : Int).toNat := ⟨_, rfl⟩; have hy13 : y207.length = l0.length - (t206 : Int).toNat := (by rw [Ny207.out, List.length_drop] <;> omega); rw [show (l0).drop (t206 : Int).toNat = y207 from Ny207.out.symm] at hr13; replace hr13 : Kd.C k82 _ A13 y207.length y207 := (by rw [hA13]; exact hr13); rw [← hy13, ← hA13, ← hc13] at hcut13; have HR210 := As_ hr13; have HC210 := As_ (show y207.length ≤ c13 from by rw [hy13, hc13]; exact Nat.sub_le_sub_right hroom13 _); clear hr13 hC13 hroom13 hi013 hsz13 hc13; have KY13 := As_ hy13; have KA13 := As_ hA13; clear hy13 hA13; replace q13 := eq_true q13; have q14 : (t206 : Int) ≤ ((l0.length : Int) : Int) := of_decide_eq_true ap7_; obtain ⟨i014, hi014, _, hsz14, _⟩ := info_parts info82; have hroom14 : l0.length ≤ c0 := HC0.out; have hC14 : Kd.C k82 _ A0 l0.length l0 := HR0.out; have hcut14 := cut_to (P := Tryz.prog) 36 82 .i64 Tryz.underlying36 hi014 A0 l0.length c0 t206 (of_decide_eq_true ap7_) q14 hroom14; have hr14 := Kd.C_take (m := (t206 : Int).toNat) hC14 (by omega); have hy14 : y211.length = (t206 : Int).toNat := (by rw [Ny211.out, List.length_take]; omega); rw [← Ny211.out] at hr14; rw [← hy14] at hcut14; have HR214 := As_ hr14; have HC214 := As_ (show y211.length ≤ c0 from by omega); clear hr14 hC14 hroom14 hi014 hsz14; have KY14 := As_ hy14; clear hy14; replace q14 := eq_true q14) | ((with_reducible refine gate_builtin (b := .append) (xs := #[.tmp 37, .tmp 40]) rfl ?_); at_builtin; refine Kd.R_append_rows k82 (w0 := w) w.heap.size rfl (.tmp 37) (.tmp 40) 36 82 (.agg #[(.string ⟨#[]⟩), (.string ⟨#[]⟩)]) 32 rfl Tryz.underlying36 info82 rfl (by decide) (by omega) (.slice none 0 0) ([] : List (S82)) y211 _ _ _ (fun _ => True) (fun _ => False) rfl rfl ?aO ?aR (fun _ _ h => h) (fun _ h => h.elim) ?aF ?aB ?aS ?aL ?_; (case aR => repeat (first | exact HR214.out | (with_reducible refine Kd.C_alloc ?_ _) | (with_reducible refine Kd.C_drewN ?_ _) | (with_reducible refine Kd.C_drew ?_))); (case aB => exact ap50_); (case aF => exact (fun _ _ => trivial)); (case aO => exact ((Kd.R_nil _ _ _ _ (fun _ => True)))); (case aS => exact (below_size ap50_)); (case aL => have := LMc10.out; omega); intro v216 w15 ho hb hg hat; rw [← Ny215.out] at ho; replace HB := As_ (hb); have HO217 := As_ (ho); clear ho hb hg hat) | ((with_reducible refine gate_builtin (b := .append) (xs := #[.tmp 42, .tmp 46]) rfl ?_); at_builtin; refine Kd.R_append k82 (w0 := w) w.heap.size rfl (.tmp 42) (.tmp 46) 36 82 (.agg #[(.string ⟨#[]⟩), (.string ⟨#[]⟩)]) 32 rfl Tryz.underlying36 info82 rfl (by decide) (by omega) v216 y215 (⟨a1, a2⟩ : S82) [.string a1, .string a2] (fun _ => True) (fun _ => False) rfl rfl ?aP (fun _ hk => hk.elim) ?aF ?aO ?aB ?aS ?aL ?_; (case aP => exact k82_mkM _ _ _ (⟨a1, a2⟩ : S82)); (case aB => exact ap50_); (case aF => exact (fun _ _ => trivial)); (case aO => exact (by (with_reducible repeat (first | apply Kd.R_alloc | apply Kd.R_drewN | apply Kd.R_drew)); exact HO217.out)); (case aS => exact (below_size ap50_)); (case aL => have := LMc11.out; omega); intro v219 w16 ho hb hg hat; rw [← Ny218.out] at ho; have n0_ := As_ (hb); have n1_ := As_ (ho); clear HB; clear HO217; have HB := n0_; have HO220 := n1_; clear n0_ n1_; clear ho hb hg hat) | ((with_reducible refine gate_builtin (b := .append) (xs := #[.tmp 48, .tmp 49]) rfl ?_); at_builtin; refine Kd.R_append_rows k82 (w0 := w) w.heap.size rfl (.tmp 48) (.tmp 49) 36 82 (.agg #[(.string ⟨#[]⟩), (.string ⟨#[]⟩)]) 32 rfl Tryz.underlying36 info82 rfl (by decide) (by omega) v219 y218 y207 _ _ _ (fun _ => True) (fun _ => False) rfl rfl ?aO ?aR (fun _ _ h => h) (fun _ h => h.elim) ?aF ?aB ?aS ?aL ?_; (case aR => repeat (first | exact (Kd.C_below HR210.out HB.out) | (with_reducible refine Kd.C_alloc ?_ _) | (with_reducible refine Kd.C_drewN ?_ _) | (with_reducible refine Kd.C_drew ?_))); (case aB => exact ap50_); (case aF => exact (fun _ _ => trivial)); (case aO => exact (by (with_reducible repeat (first | apply Kd.R_alloc | apply Kd.R_drewN | apply Kd.R_drew)); exact HO220.out)); (case aS => exact (below_size ap50_)); (case aL => have := LMc12.out; omega); intro v222 w17 ho hb hg hat; rw [← Ny221.out] at ho; have n0_ := As_ (hb); have n1_ := As_ (ho); clear HB; clear HO220; have HB := n0_; have HO223 := n1_; clear n0_ n1_; clear ho hb hg hat))
       go_ret2
       exact ⟨_, ap17_, by (with_reducible repeat (first | apply Kd.R_alloc | apply Kd.R_drewN | apply Kd.R_drew)); exact HO223.out, ap50_⟩
      ·rw [if_neg c12] at H
       exact absurd H (by simp)
     ·rw [if_neg c11] at H
      exact absurd H (by simp)
    ·rw [if_neg c10] at H
     exact absurd H (by simp)
   ·rw [if_neg c7] at H
    exact absurd H (by simp)
  ·rw [if_neg c6] at H
   exact absurd H (by simp)
 ·rw [if_neg c5] at H
  have c5b0 : (t206 == (l0.length : Int)) = false := beq_eq_false_iff_ne.mpr c5
  have c5b1 : (t206 != (l0.length : Int)) = true := bne_iff_ne.mpr c5
  by_cases c18 : 0 ≤ t206
  ·rw [if_pos c18] at H
   have c18b0 : decide (0 ≤ t206) = true := decide_eq_true c18
   clear c18
   by_cases c19 : t206 < (l0.length : Int)
   ·rw [if_pos c19] at H
    have c19b0 : decide (t206 < (l0.length : Int)) = true := decide_eq_true c19
    clear c19
    have c20b0 := eq_true (of_decide_eq_true ap7_ : 0 ≤ t206)
    by_cases c21 : t206 ≤ (l0.length : Int)
    ·rw [if_pos c21] at H
     have c21b0 := eq_true c21
     have c21b1 : decide (t206 ≤ (l0.length : Int)) = true := decide_eq_true c21
     clear c21
     obtain ⟨y225, hy225⟩ : ∃ y_ : List (S82), y_ = (l0.drop (t206 : Int).toNat) := ⟨_, rfl⟩
     replace H : (if (¬ ((rd_T82 l0 t206).f0).toList = a1.toList) then ((some (l0.take (t206 : Int).toNat : List (S82))).bind fun y229 => (if ([] : List (S82)).length + y229.length < 4398046511104 then ((some (([] : List (S82)) ++ y229 : List (S82))).bind fun y233 => (if y233.length < 4398046511104 then ((some (y233 ++ [(⟨a1, a2⟩ : S82)] : List (S82))).bind fun y236 => (if y236.length + y225.length < 4398046511104 then (some ((y236 ++ y225), (((rd_T82 l0 t206).f0).toList != a1.toList))) else (none))) else (none))) else (none))) else (if 0 ≤ (wrap64 (t206 + 1)) then (if (wrap64 (t206 + 1)) ≤ (l0.length : Int) then ((some (l0.drop ((wrap64 (t206 + 1)) : Int).toNat : List (S82))).bind fun y242 => ((some (l0.take (t206 : Int).toNat : List (S82))).bind fun y246 => (if ([] : List (S82)).length + y246.length < 4398046511104 then ((some (([] : List (S82)) ++ y246 : List (S82))).bind fun y250 => (if y250.length < 4398046511104 then ((some (y250 ++ [(⟨a1, a2⟩ : S82)] : List (S82))).bind fun y253 => (if y253.length + y242.length < 4398046511104 then (some ((y253 ++ y242), (((rd_T82 l0 t206).f0).toList != a1.toList))) else (none))) else (none))) else (none)))) else (none)) else (none))) = some (r1, r2) := by first | (rw [hy225]; with_reducible exact H) | (have H2_ := (Option.bind_some _ _).symm.trans H; rw [hy225]; with_reducible exact H2_) | (have H2_ := (Option.bind_some _ _).symm.trans H; with_reducible exact H2_) | with_reducible exact H | (rw [hy225]; exact H) | exact H
     have Ny225 := As_ hy225
     clear hy225
     by_cases c22 : (¬ ((rd_T82 l0 t206).f0).toList = a1.toList)
     ·rw [if_pos c22] at H
      have c22b0 : (((rd_T82 l0 t206).f0).toList == a1.toList) = false := beq_eq_false_iff_ne.mpr c22
      have c22b1 : (((rd_T82 l0 t206).f0).toList != a1.toList) = true := bne_iff_ne.mpr c22
      clear c22
      have c23b0 := eq_true (of_decide_eq_true ap7_ : 0 ≤ t206)
      have c24b0 := eq_true (of_decide_eq_true ap7_ : t206 ≤ (l0.length : Int))
      obtain ⟨y229, hy229⟩ : ∃ y_ : List (S82), y_ = (l0.take (t206 : Int).toNat) := ⟨_, rfl⟩
      replace H : (if ([] : List (S82)).length + y229.length < 4398046511104 then ((some (([] : List (S82)) ++ y229 : List (S82))).bind fun y233 => (if y233.length < 4398046511104 then ((some (y233 ++ [(⟨a1, a2⟩ : S82)] : List (S82))).bind fun y236 => (if y236.length + y225.length < 4398046511104 then (some ((y236 ++ y225), (((rd_T82 l0 t206).f0).toList != a1.toList))) else (none))) else (none))) else (none)) = some (r1, r2) := by first | (rw [hy229]; with_reducible exact H) | (have H2_ := (Option.bind_some _ _).symm.trans H; rw [hy229]; with_reducible exact H2_) | (have H2_ := (Option.bind_some _ _).symm.trans H; with_reducible exact H2_) | with_reducible exact H | (rw [hy229]; exact H) | exact H
      have Ny229 := As_ hy229
      clear hy229
      by_cases c25 : ([] : List (S82)).length + y229.length < 4398046511104
      ·rw [if_pos c25] at H
       have LMc25 := As_ c25
       clear c25
       obtain ⟨y233, hy233⟩ : ∃ y_ : List (S82), y_ = (([] : List (S82)) ++ y229) := ⟨_, rfl⟩
       replace H : (if y233.length < 4398046511104 then ((some (y233 ++ [(⟨a1, a2⟩ : S82)] : List (S82))).bind fun y236 => (if y236.length + y225.length < 4398046511104 then (some ((y236 ++ y225), (((rd_T82 l0 t206).f0).toList != a1.toList))) else (none))) else (none)) = some (r1, r2) := by first | (rw [hy233]; with_reducible exact H) | (have H2_ := (Option.bind_some _ _).symm.trans H; rw [hy233]; with_reducible exact H2_) | (have H2_ := (Option.bind_some _ _).symm.trans H; with_reducible exact H2_) | with_reducible exact H | (rw [hy233]; exact H) | exact H
       have Ny233 := As_ hy233
       clear hy233
       by_cases c26 : y233.length < 4398046511104
       ·rw [if_pos c26] at H
        have LMc26 := As_ c26
        clear c26
        obtain ⟨y236, hy236⟩ : ∃ y_ : List (S82), y_ = (y233 ++ [(⟨a1, a2⟩ : S82)]) := ⟨_, rfl⟩
        replace H : (if y236.length + y225.length < 4398046511104 then (some ((y236 ++ y225), (((rd_T82 l0 t206).f0).toList != a1.toList))) else (none)) = some (r1, r2) := by first | (rw [hy236]; with_reducible exact H) | (have H2_ := (Option.bind_some _ _).symm.trans H; rw [hy236]; with_reducible exact H2_) | (have H2_ := (Option.bind_some _ _).symm.trans H; with_reducible exact H2_) | with_reducible exact H | (rw [hy236]; exact H) | exact H
        have Ny236 := As_ hy236
        clear hy236
        by_cases c27 : y236.length + y225.length < 4398046511104
        ·rw [if_pos c27] at H
         have LMc27 := As_ c27
         clear c27
         obtain ⟨y239, hy239⟩ : ∃ y_ : List (S82), y_ = (y236 ++ y225) := ⟨_, rfl⟩
         replace H : (some (y239, (((rd_T82 l0 t206).f0).toList != a1.toList))) = some (r1, r2) := by first | (rw [hy239]; with_reducible exact H) | (have H2_ := (Option.bind_some _ _).symm.trans H; rw [hy239]; with_reducible exact H2_) | (have H2_ := (Option.bind_some _ _).symm.trans H; with_reducible exact H2_) | with_reducible exact H | (rw [hy239]; exact H) | exact H
         have Ny239 := As_ hy239
         clear hy239
         simp only [Option.some.injEq, Prod.mk.injEq] at H
         obtain ⟨rfl, rfl⟩ := H
         go_enter Tryz.func88, Tryz.ntmps88
         go_wp2_with (first | ((with_reducible refine gate_callee (f := 74) rfl ?_); refine gk_ (some 14) Tryz.func74 #[.slice A0 l0.length c0, .string a1] ?_; (with_reducible refine (footbridgeref09_at.calls k _ _ l0 a1 t206 _ ?side1 ?side2 A4.out).mono ?_); (case side1 => repeat (first | exact HR0.out | (with_reducible refine Kd.C_alloc ?_ _) | (with_reducible refine Kd.C_drewN ?_ _) | (with_reducible refine Kd.C_drew ?_))); (case side2 => exact HC0.out); rintro e w' ⟨rfl, ⟨nd, rfl⟩⟩; refine ⟨_, rfl, ?_⟩; have p224 : 0 ≤ (t206 : Int) := of_decide_eq_true ap7_; have q224 : t206 < (l0.length : Int) := of_decide_eq_true ap7_; obtain ⟨ad224, e224, hx224_0, hx224_1⟩ := at_T82 HR0.out t206 p224 q224; cases e224; replace p224 := eq_true p224; replace q224 := eq_true q224; have q28 : (t206 : Int) ≤ ((l0.length : Int) : Int) := of_decide_eq_true ap7_; obtain ⟨i028, hi028, _, hsz28, _⟩ := info_parts info82; have hroom28 : l0.length ≤ c0 := HC0.out; have hC28 : Kd.C k82 _ (some ad224) l0.length l0 := HR0.out; have q028 : (0 : Int) ≤ (t206 : Int) := of_decide_eq_true ap7_; have hcut28 := cut_from (P := Tryz.prog) 36 82 .i64 Tryz.underlying36 hi028 2 hsz28 (some ad224) l0.length c0 t206 q028 q28; have hr28 := Kd.C_drop (m := (t206 : Int).toNat) (c := c0) hC28 (by omega) hroom28; obtain ⟨A28, hA28⟩ : ∃ A1, A1 = (if c0 = (t206 : Int).toNat then (some ad224) else ((some ad224) : Option Addr).map (·.add ((t206 : Int).toNat * 2))) := ⟨_, rfl⟩; obtain ⟨c28, hc28⟩ : ∃ c1, c1 = c0 - (t206 : Int).toNat := ⟨_, rfl⟩; have hy28 : y225.length = l0.length - (t206 : Int).toNat := (by rw [Ny225.out, List.length_drop] <;> omega); rw [show (l0).drop (t206 : Int).toNat = y225 from Ny225.out.symm] at hr28; replace hr28 : Kd.C k82 _ A28 y225.length y225 := (by rw [hA28]; exact hr28); rw [← hy28, ← hA28, ← hc28] at hcut28; have HR228 := As_ hr28; have HC228 := As_ (show y225.length ≤ c28 from by rw [hy28, hc28]; exact Nat.sub_le_sub_right hroom28 _); clear hr28 hC28 hroom28 hi028 hsz28 hc28; have KY28 := As_ hy28; have KA28 := As_ hA28; clear hy28 hA28; replace q28 := eq_true q28; have q29 : (t206 : Int) ≤ ((l0.length : Int) : Int) := of_decide_eq_true ap7_; obtain ⟨i029, hi029, _, hsz29, _⟩ := info_parts info82; have hroom29 : l0.length ≤ c0 := HC0.out; have hC29 : Kd.C k82 _ (some ad224) l0.length l0 := HR0.out; have hcut29 := cut_to (P := Tryz.prog) 36 82 .i64 Tryz.underlying36 hi029 (some ad224) l0.length c0 t206 (of_decide_eq_true ap7_) q29 hroom29; have hr29 := Kd.C_take (m := (t206 : Int).toNat) hC29 (by omega); have hy29 : y229.length = (t206 : Int).toNat := (by rw [Ny229.out, List.length_take]; omega); rw [← Ny229.out] at hr29; rw [← hy29] at hcut29; have HR232 := As_ hr29; have HC232 := As_ (show y229.length ≤ c0 from by omega); clear hr29 hC29 hroom29 hi029 hsz29; have KY29 := As_ hy29; clear hy29; replace q29 := eq_true q29) | ((with_reducible refine gate_builtin (b := .append) (xs := #[.tmp 37, .tmp 40]) rfl ?_); at_builtin; refine Kd.R_append_rows k82 (w0 := w) w.heap.size rfl (.tmp 37) (.tmp 40) 36 82 (.agg #[(.string ⟨#[]⟩), (.string ⟨#[]⟩)]) 32 rfl Tryz.underlying36 info82 rfl (by decide) (by omega) (.slice none 0 0) ([] : List (S82)) y229 _ _ _ (fun _ => True) (fun _ => False) rfl rfl ?aO ?aR (fun _ _ h => h) (fun _ h => h.elim) ?aF ?aB ?aS ?aL ?_; (case aR => repeat (first | exact HR232.out | (with_reducible refine Kd.C_alloc ?_ _) | (with_reducible refine Kd.C_drewN ?_ _) | (with_reducible refine Kd.C_drew ?_))); (case aB => exact ap50_); (case aF => exact (fun _ _ => trivial)); (case aO => exact ((Kd.R_nil _ _ _ _ (fun _ => True)))); (case aS => exact (below_size ap50_)); (case aL => have := LMc25.out; omega); intro v234 w30 ho hb hg hat; rw [← Ny233.out] at ho; replace HB := As_ (hb); have HO235 := As_ (ho); clear ho hb hg hat) | ((with_reducible refine gate_builtin (b := .append) (xs := #[.tmp 42, .tmp 46]) rfl ?_); at_builtin; refine Kd.R_append k82 (w0 := w) w.heap.size rfl (.tmp 42) (.tmp 46) 36 82 (.agg #[(.string ⟨#[]⟩), (.string ⟨#[]⟩)]) 32 rfl Tryz.underlying36 info82 rfl (by decide) (by omega) v234 y233 (⟨a1, a2⟩ : S82) [.string a1, .string a2] (fun _ => True) (fun _ => False) rfl rfl ?aP (fun _ hk => hk.elim) ?aF ?aO ?aB ?aS ?aL ?_; (case aP => exact k82_mkM _ _ _ (⟨a1, a2⟩ : S82)); (case aB => exact ap50_); (case aF => exact (fun _ _ => trivial)); (case aO => exact (by (with_reducible repeat (first | apply Kd.R_alloc | apply Kd.R_drewN | apply Kd.R_drew)); exact HO235.out)); (case aS => exact (below_size ap50_)); (case aL => have := LMc26.out; omega); intro v237 w31 ho hb hg hat; rw [← Ny236.out] at ho; have n0_ := As_ (hb); have n1_ := As_ (ho); clear HB; clear HO235; have HB := n0_; have HO238 := n1_; clear n0_ n1_; clear ho hb hg hat) | ((with_reducible refine gate_builtin (b := .append) (xs := #[.tmp 48, .tmp 49]) rfl ?_); at_builtin; refine Kd.R_append_rows k82 (w0 := w) w.heap.size rfl (.tmp 48) (.tmp 49) 36 82 (.agg #[(.string ⟨#[]⟩), (.string ⟨#[]⟩)]) 32 rfl Tryz.underlying36 info82 rfl (by decide) (by omega) v237 y236 y225 _ _ _ (fun _ => True) (fun _ => False) rfl rfl ?aO ?aR (fun _ _ h => h) (fun _ h => h.elim) ?aF ?aB ?aS ?aL ?_; (case aR => repeat (first | exact (Kd.C_below HR228.out HB.out) | (with_reducible refine Kd.C_alloc ?_ _) | (with_reducible refine Kd.C_drewN ?_ _) | (with_reducible refine Kd.C_drew ?_))); (case aB => exact ap50_); (case aF => exact (fun _ _ => trivial)); (case aO => exact (by (with_reducible repeat (first | apply Kd.R_alloc | apply Kd.R_drewN | apply Kd.R_drew)); exact HO238.out)); (case aS => exact (below_size ap50_)); (case aL => have := LMc27.out; omega); intro v240 w32 ho hb hg hat; rw [← Ny239.out] at ho; have n0_ := As_ (hb); have n1_ := As_ (ho); clear HB; clear HO238; have HB := n0_; have HO241 := n1_; clear n0_ n1_; clear ho hb hg hat))
         go_ret2
         exact ⟨_, ap17_, by (with_reducible repeat (first | apply Kd.R_alloc | apply Kd.R_drewN | apply Kd.R_drew)); exact HO241.out, ap50_⟩
        ·rw [if_neg c27] at H
         exact absurd H (by simp)
       ·rw [if_neg c26] at H
        exact absurd H (by simp)
      ·rw [if_neg c25] at H
       exact absurd H (by simp)
     ·rw [if_neg c22] at H
      have c22b0 : (((rd_T82 l0 t206).f0).toList == a1.toList) = true := beq_iff_eq.mpr (Decidable.not_not.mp c22)
      have c22b1 : (((rd_T82 l0 t206).f0).toList != a1.toList) = false := bne_eq_false_iff_eq.mpr (Decidable.not_not.mp c22)
      obtain ⟨ji33, hji33⟩ : ∃ j_ : Int, (wrap64 (t206 + 1)) = j_ := ⟨_, rfl⟩
      replace H : (if 0 ≤ (ji33) then (if (ji33) ≤ (l0.length : Int) then ((some (l0.drop ((ji33) : Int).toNat : List (S82))).bind fun y242 => ((some (l0.take (t206 : Int).toNat : List (S82))).bind fun y246 => (if ([] : List (S82)).length + y246.length < 4398046511104 then ((some (([] : List (S82)) ++ y246 : List (S82))).bind fun y250 => (if y250.length < 4398046511104 then ((some (y250 ++ [(⟨a1, a2⟩ : S82)] : List (S82))).bind fun y253 => (if y253.length + y242.length < 4398046511104 then (some ((y253 ++ y242), (((rd_T82 l0 t206).f0).toList != a1.toList))) else (none))) else (none))) else (none)))) else (none)) else (none)) = some (r1, r2) := by first | (rw [hji33] at H; exact H) | (simp only [hji33] at H ⊢; exact H)
      (try rw [hji33] at A4)
      have hji33w : (IntKind.i64.wrap (t206 + 1)) = ji33 := (i64_w _).trans hji33
      by_cases c34 : 0 ≤ (ji33)
      ·rw [if_pos c34] at H
       have c34b0 := eq_true c34
       have c34b1 : decide (0 ≤ (ji33)) = true := decide_eq_true c34
       clear c34
       by_cases c35 : (ji33) ≤ (l0.length : Int)
       ·rw [if_pos c35] at H
        have c35b0 := eq_true c35
        have c35b1 : decide ((ji33) ≤ (l0.length : Int)) = true := decide_eq_true c35
        clear c35
        obtain ⟨y242, hy242⟩ : ∃ y_ : List (S82), y_ = (l0.drop ((ji33) : Int).toNat) := ⟨_, rfl⟩
        replace H : ((some (l0.take (t206 : Int).toNat : List (S82))).bind fun y246 => (if ([] : List (S82)).length + y246.length < 4398046511104 then ((some (([] : List (S82)) ++ y246 : List (S82))).bind fun y250 => (if y250.length < 4398046511104 then ((some (y250 ++ [(⟨a1, a2⟩ : S82)] : List (S82))).bind fun y253 => (if y253.length + y242.length < 4398046511104 then (some ((y253 ++ y242), (((rd_T82 l0 t206).f0).toList != a1.toList))) else (none))) else (none))) else (none))) = some (r1, r2) := by first | (rw [hy242]; with_reducible exact H) | (have H2_ := (Option.bind_some _ _).symm.trans H; rw [hy242]; with_reducible exact H2_) | (have H2_ := (Option.bind_some _ _).symm.trans H; with_reducible exact H2_) | with_reducible exact H | (rw [hy242]; exact H) | exact H
        have Ny242 := As_ hy242
        clear hy242
        have c36b0 := eq_true (of_decide_eq_true ap7_ : 0 ≤ t206)
        have c37b0 := eq_true (of_decide_eq_true ap7_ : t206 ≤ (l0.length : Int))
        obtain ⟨y246, hy246⟩ : ∃ y_ : List (S82), y_ = (l0.take (t206 : Int).toNat) := ⟨_, rfl⟩
        replace H : (if ([] : List (S82)).length + y246.length < 4398046511104 then ((some (([] : List (S82)) ++ y246 : List (S82))).bind fun y250 => (if y250.length < 4398046511104 then ((some (y250 ++ [(⟨a1, a2⟩ : S82)] : List (S82))).bind fun y253 => (if y253.length + y242.length < 4398046511104 then (some ((y253 ++ y242), (((rd_T82 l0 t206).f0).toList != a1.toList))) else (none))) else (none))) else (none)) = some (r1, r2) := by first | (rw [hy246]; with_reducible exact H) | (have H2_ := (Option.bind_some _ _).symm.trans H; rw [hy246]; with_reducible exact H2_) | (have H2_ := (Option.bind_some _ _).symm.trans H; with_reducible exact H2_) | with_reducible exact H | (rw [hy246]; exact H) | exact H
        have Ny246 := As_ hy246
        clear hy246
        by_cases c38 : ([] : List (S82)).length + y246.length < 4398046511104
        ·rw [if_pos c38] at H
         have LMc38 := As_ c38
         clear c38
         obtain ⟨y250, hy250⟩ : ∃ y_ : List (S82), y_ = (([] : List (S82)) ++ y246) := ⟨_, rfl⟩
         replace H : (if y250.length < 4398046511104 then ((some (y250 ++ [(⟨a1, a2⟩ : S82)] : List (S82))).bind fun y253 => (if y253.length + y242.length < 4398046511104 then (some ((y253 ++ y242), (((rd_T82 l0 t206).f0).toList != a1.toList))) else (none))) else (none)) = some (r1, r2) := by first | (rw [hy250]; with_reducible exact H) | (have H2_ := (Option.bind_some _ _).symm.trans H; rw [hy250]; with_reducible exact H2_) | (have H2_ := (Option.bind_some _ _).symm.trans H; with_reducible exact H2_) | with_reducible exact H | (rw [hy250]; exact H) | exact H
         have Ny250 := As_ hy250
         clear hy250
         by_cases c39 : y250.length < 4398046511104
         ·rw [if_pos c39] at H
          have LMc39 := As_ c39
          clear c39
          obtain ⟨y253, hy253⟩ : ∃ y_ : List (S82), y_ = (y250 ++ [(⟨a1, a2⟩ : S82)]) := ⟨_, rfl⟩
          replace H : (if y253.length + y242.length < 4398046511104 then (some ((y253 ++ y242), (((rd_T82 l0 t206).f0).toList != a1.toList))) else (none)) = some (r1, r2) := by first | (rw [hy253]; with_reducible exact H) | (have H2_ := (Option.bind_some _ _).symm.trans H; rw [hy253]; with_reducible exact H2_) | (have H2_ := (Option.bind_some _ _).symm.trans H; with_reducible exact H2_) | with_reducible exact H | (rw [hy253]; exact H) | exact H
          have Ny253 := As_ hy253
          clear hy253
          by_cases c40 : y253.length + y242.length < 4398046511104
          ·rw [if_pos c40] at H
           have LMc40 := As_ c40
           clear c40
           obtain ⟨y256, hy256⟩ : ∃ y_ : List (S82), y_ = (y253 ++ y242) := ⟨_, rfl⟩
           replace H : (some (y256, (((rd_T82 l0 t206).f0).toList != a1.toList))) = some (r1, r2) := by first | (rw [hy256]; with_reducible exact H) | (have H2_ := (Option.bind_some _ _).symm.trans H; rw [hy256]; with_reducible exact H2_) | (have H2_ := (Option.bind_some _ _).symm.trans H; with_reducible exact H2_) | with_reducible exact H | (rw [hy256]; exact H) | exact H
           have Ny256 := As_ hy256
           clear hy256
           simp only [Option.some.injEq, Prod.mk.injEq] at H
           obtain ⟨rfl, rfl⟩ := H
           go_enter Tryz.func88, Tryz.ntmps88
           go_wp2_with (first | ((with_reducible refine gate_callee (f := 74) rfl ?_); refine gk_ (some 14) Tryz.func74 #[.slice A0 l0.length c0, .string a1] ?_; (with_reducible refine (footbridgeref09_at.calls k _ _ l0 a1 t206 _ ?side1 ?side2 A4.out).mono ?_); (case side1 => repeat (first | exact HR0.out | (with_reducible refine Kd.C_alloc ?_ _) | (with_reducible refine Kd.C_drewN ?_ _) | (with_reducible refine Kd.C_drew ?_))); (case side2 => exact HC0.out); rintro e w' ⟨rfl, ⟨nd, rfl⟩⟩; refine ⟨_, rfl, ?_⟩; have p224 : 0 ≤ (t206 : Int) := of_decide_eq_true ap7_; have q224 : t206 < (l0.length : Int) := of_decide_eq_true ap7_; obtain ⟨ad224, e224, hx224_0, hx224_1⟩ := at_T82 HR0.out t206 p224 q224; cases e224; replace p224 := eq_true p224; replace q224 := eq_true q224; have q41 : (t206 : Int) ≤ ((l0.length : Int) : Int) := of_decide_eq_true ap7_; obtain ⟨i041, hi041, _, hsz41, _⟩ := info_parts info82; have hroom41 : l0.length ≤ c0 := HC0.out; have hC41 : Kd.C k82 _ (some ad224) l0.length l0 := HR0.out; have q041 : (0 : Int) ≤ (t206 : Int) := of_decide_eq_true ap7_; have hcut41 := cut_from (P := Tryz.prog) 36 82 .i64 Tryz.underlying36 hi041 2 hsz41 (some ad224) l0.length c0 t206 q041 q41; have hr41 := Kd.C_drop (m := (t206 : Int).toNat) (c := c0) hC41 (by omega) hroom41; obtain ⟨A41, hA41⟩ : ∃ A1, A1 = (if c0 = (t206 : Int).toNat then (some ad224) else ((some ad224) : Option Addr).map (·.add ((t206 : Int).toNat * 2))) := ⟨_, rfl⟩; obtain ⟨c41, hc41⟩ : ∃ c1, c1 = c0 - (t206 : Int).toNat := ⟨_, rfl⟩; have hy41 : y225.length = l0.length - (t206 : Int).toNat := (by rw [Ny225.out, List.length_drop] <;> omega); rw [show (l0).drop (t206 : Int).toNat = y225 from Ny225.out.symm] at hr41; replace hr41 : Kd.C k82 _ A41 y225.length y225 := (by rw [hA41]; exact hr41); rw [← hy41, ← hA41, ← hc41] at hcut41; have HR228 := As_ hr41; have HC228 := As_ (show y225.length ≤ c41 from by rw [hy41, hc41]; exact Nat.sub_le_sub_right hroom41 _); clear hr41 hC41 hroom41 hi041 hsz41 hc41; have KY41 := As_ hy41; have KA41 := As_ hA41; clear hy41 hA41; replace q41 := eq_true q41; have q42 : ((ji33) : Int) ≤ ((l0.length : Int) : Int) := of_decide_eq_true ap7_; obtain ⟨i042, hi042, _, hsz42, _⟩ := info_parts info82; have hroom42 : l0.length ≤ c0 := HC0.out; have hC42 : Kd.C k82 _ (some ad224) l0.length l0 := HR0.out; have q042 : (0 : Int) ≤ ((ji33) : Int) := of_decide_eq_true ap7_; have hcut42 := cut_from (P := Tryz.prog) 36 82 .i64 Tryz.underlying36 hi042 2 hsz42 (some ad224) l0.length c0 (ji33) q042 q42; have hr42 := Kd.C_drop (m := ((ji33) : Int).toNat) (c := c0) hC42 (by omega) hroom42; obtain ⟨A42, hA42⟩ : ∃ A1, A1 = (if c0 = ((ji33) : Int).toNat then (some ad224) else ((some ad224) : Option Addr).map (·.add (((ji33) : Int).toNat * 2))) := ⟨_, rfl⟩; obtain ⟨c42, hc42⟩ : ∃ c1, c1 = c0 - ((ji33) : Int).toNat := ⟨_, rfl⟩; have hy42 : y242.length = l0.length - ((ji33) : Int).toNat := (by rw [Ny242.out, List.length_drop] <;> omega); rw [show (l0).drop ((ji33) : Int).toNat = y242 from Ny242.out.symm] at hr42; replace hr42 : Kd.C k82 _ A42 y242.length y242 := (by rw [hA42]; exact hr42); rw [← hy42, ← hA42, ← hc42] at hcut42; have HR245 := As_ hr42; have HC245 := As_ (show y242.length ≤ c42 from by rw [hy42, hc42]; exact Nat.sub_le_sub_right hroom42 _); clear hr42 hC42 hroom42 hi042 hsz42 hc42; have KY42 := As_ hy42; have KA42 := As_ hA42; clear hy42 hA42; replace q42 := eq_true q42; have q43 : (t206 : Int) ≤ ((l0.length : Int) : Int) := of_decide_eq_true ap7_; obtain ⟨i043, hi043, _, hsz43, _⟩ := info_parts info82; have hroom43 : l0.length ≤ c0 := HC0.out; have hC43 : Kd.C k82 _ (some ad224) l0.length l0 := HR0.out; have hcut43 := cut_to (P := Tryz.prog) 36 82 .i64 Tryz.underlying36 hi043 (some ad224) l0.length c0 t206 (of_decide_eq_true ap7_) q43 hroom43; have hr43 := Kd.C_take (m := (t206 : Int).toNat) hC43 (by omega); have hy43 : y246.length = (t206 : Int).toNat := (by rw [Ny246.out, List.length_take]; omega); rw [← Ny246.out] at hr43; rw [← hy43] at hcut43; have HR249 := As_ hr43; have HC249 := As_ (show y246.length ≤ c0 from by omega); clear hr43 hC43 hroom43 hi043 hsz43; have KY43 := As_ hy43; clear hy43; replace q43 := eq_true q43) | ((with_reducible refine gate_builtin (b := .append) (xs := #[.tmp 37, .tmp 40]) rfl ?_); at_builtin; refine Kd.R_append_rows k82 (w0 := w) w.heap.size rfl (.tmp 37) (.tmp 40) 36 82 (.agg #[(.string ⟨#[]⟩), (.string ⟨#[]⟩)]) 32 rfl Tryz.underlying36 info82 rfl (by decide) (by omega) (.slice none 0 0) ([] : List (S82)) y246 _ _ _ (fun _ => True) (fun _ => False) rfl rfl ?aO ?aR (fun _ _ h => h) (fun _ h => h.elim) ?aF ?aB ?aS ?aL ?_; (case aR => repeat (first | exact HR249.out | (with_reducible refine Kd.C_alloc ?_ _) | (with_reducible refine Kd.C_drewN ?_ _) | (with_reducible refine Kd.C_drew ?_))); (case aB => exact ap50_); (case aF => exact (fun _ _ => trivial)); (case aO => exact ((Kd.R_nil _ _ _ _ (fun _ => True)))); (case aS => exact (below_size ap50_)); (case aL => have := LMc38.out; omega); intro v251 w44 ho hb hg hat; rw [← Ny250.out] at ho; replace HB := As_ (hb); have HO252 := As_ (ho); clear ho hb hg hat) | ((with_reducible refine gate_builtin (b := .append) (xs := #[.tmp 42, .tmp 46]) rfl ?_); at_builtin; refine Kd.R_append k82 (w0 := w) w.heap.size rfl (.tmp 42) (.tmp 46) 36 82 (.agg #[(.string ⟨#[]⟩), (.string ⟨#[]⟩)]) 32 rfl Tryz.underlying36 info82 rfl (by decide) (by omega) v251 y250 (⟨a1, a2⟩ : S82) [.string a1, .string a2] (fun _ => True) (fun _ => False) rfl rfl ?aP (fun _ hk => hk.elim) ?aF ?aO ?aB ?aS ?aL ?_; (case aP => exact k82_mkM _ _ _ (⟨a1, a2⟩ : S82)); (case aB => exact ap50_); (case aF => exact (fun _ _ => trivial)); (case aO => exact (by (with_reducible repeat (first | apply Kd.R_alloc | apply Kd.R_drewN | apply Kd.R_drew)); exact HO252.out)); (case aS => exact (below_size ap50_)); (case aL => have := LMc39.out; omega); intro v254 w45 ho hb hg hat; rw [← Ny253.out] at ho; have n0_ := As_ (hb); have n1_ := As_ (ho); clear HB; clear HO252; have HB := n0_; have HO255 := n1_; clear n0_ n1_; clear ho hb hg hat) | ((with_reducible refine gate_builtin (b := .append) (xs := #[.tmp 48, .tmp 49]) rfl ?_); at_builtin; refine Kd.R_append_rows k82 (w0 := w) w.heap.size rfl (.tmp 48) (.tmp 49) 36 82 (.agg #[(.string ⟨#[]⟩), (.string ⟨#[]⟩)]) 32 rfl Tryz.underlying36 info82 rfl (by decide) (by omega) v254 y253 y242 _ _ _ (fun _ => True) (fun _ => False) rfl rfl ?aO ?aR (fun _ _ h => h) (fun _ h => h.elim) ?aF ?aB ?aS ?aL ?_; (case aR => repeat (first | exact (Kd.C_below HR245.out HB.out) | (with_reducible refine Kd.C_alloc ?_ _) | (with_reducible refine Kd.C_drewN ?_ _) | (with_reducible refine Kd.C_drew ?_))); (case aB => exact ap50_); (case aF => exact (fun _ _ => trivial)); (case aO => exact (by (with_reducible repeat (first | apply Kd.R_alloc | apply Kd.R_drewN | apply Kd.R_drew)); exact HO255.out)); (case aS => exact (below_size ap50_)); (case aL => have := LMc40.out; omega); intro v257 w46 ho hb hg hat; rw [← Ny256.out] at ho; have n0_ := As_ (hb); have n1_ := As_ (ho); clear HB; clear HO255; have HB := n0_; have HO258 := n1_; clear n0_ n1_; clear ho hb hg hat))
           go_ret2
           exact ⟨_, by first | rfl | (simp [errW_none, errW_some] <;> rfl) | (simp only [← hji33]; first | rfl | (simp [errW_none, errW_some] <;> rfl)) | (simp [*, errW_none, errW_some] <;> rfl), by (with_reducible repeat (first | apply Kd.R_alloc | apply Kd.R_drewN | apply Kd.R_drew)); exact HO258.out, ap50_⟩
          ·rw [if_neg c40] at H
           exact absurd H (by simp)
         ·rw [if_neg c39] at H
          exact absurd H (by simp)
        ·rw [if_neg c38] at H
         exact absurd H (by simp)
       ·rw [if_neg c35] at H
        exact absurd H (by simp)
      ·rw [if_neg c34] at H
       exact absurd H (by simp)
    ·rw [if_neg c21] at H
     exact absurd H (by simp)
   ·rw [if_neg c19] at H
    exact absurd H (by simp)
  ·rw [if_neg c18] at H
   exact absurd H (by simp)
def footbridgeref14_Put.f (k : Nat) (l0 : List (S82)) (a1 : ByteArray) (a2 : ByteArray) : Option ((List (S82))) := (footbridgeref09_Set.f k l0 a1 a2).bind fun bt259 => (some bt259.1)
theorem footbridgeref14_Put.mono : ∀ a0 a1 a2 k, LeO (footbridgeref14_Put.f k a0 a1 a2) (footbridgeref14_Put.f (k + 1) a0 a1 a2) := by
 intro a0 a1 a2 k
 unfold footbridgeref14_Put.f
 repeat' first
   | (with_reducible exact footbridgeref09_Set.mono _ _ _ _)
   | (with_reducible exact LeO.refl _)
   | (with_reducible exact LeO.none _)
   | (with_reducible refine LeO.ite ?_ ?_)
   | (with_reducible refine LeO.bind ?_ (fun _ => ?_))
   | exact footbridgeref09_Set.mono _ _ _ _
   | exact LeO.none _
   | refine LeO.ite ?_ ?_
   | refine LeO.bind ?_ (fun _ => ?_)
theorem footbridgeref14_Put.calls (k : Nat) (A0 : Option Addr) (c0 : Nat) (l0 : List (S82)) (a1 : ByteArray) (a2 : ByteArray) (r : List (S82)) (w : World) (hr0 : Kd.C k82 w A0 l0.length l0) (hc0 : l0.length ≤ c0) (h : footbridgeref14_Put.f k l0 a1 a2 = some r) :
  Calls Tryz.prog 67 #[.slice A0 l0.length c0, .string a1, .string a2] w fun e w' => ∃ v0_ : Value, e = .returned (v0_) ∧ Kd.R k82 82 w' w.heap.size (fun _ => True) v0_ r ∧ Below w.heap.size w w' := by
 have HR0 := As_ hr0
 have HC0 := As_ hc0
 clear hr0 hc0
 have HB := As_ (Below.refl w.heap.size w)
 have H : ((footbridgeref09_Set.f k l0 a1 a2).bind fun bt259 => (some bt259.1)) = some r := h
 clear h
 replace H := Option.bind_eq_some_iff.mp H
 obtain ⟨⟨t259, t260⟩, A40, H⟩ := H
 try dsimp only at H
 have A4 := As_ A40
 clear A40
 obtain rfl := Option.some.inj H
 go_enter Tryz.func67, Tryz.ntmps67
 go_wp2_with (first | ((with_reducible refine gate_callee (f := 88) rfl ?_); refine gk_ (some 13) Tryz.func88 #[.slice A0 l0.length c0, .string a1, .string a2] ?_; (with_reducible refine (footbridgeref09_Set.calls k _ _ l0 a1 a2 t259 t260 _ ?side1 ?side2 A4.out).mono ?_); (case side1 => repeat (first | exact HR0.out | (with_reducible refine Kd.C_alloc ?_ _) | (with_reducible refine Kd.C_drewN ?_ _) | (with_reducible refine Kd.C_drew ?_))); (case side2 => exact HC0.out); rintro e w5 ⟨v261, rfl, ho0, hb⟩; refine ⟨_, rfl, ?_⟩; have HO262 := As_ (Kd.R_lower ho0 (below_size ap50_)); replace HB := As_ (below_step ap50_ hb); (try clear hb); (try clear hb2); (try clear hk); (try clear hi); (try clear ho0)))
 go_ret
 exact ⟨_, ap17_, by (with_reducible repeat (first | apply Kd.R_alloc | apply Kd.R_drewN | apply Kd.R_drew)); exact HO262.out, ap50_⟩
end Go.Proofs.YtjappgjpikbdeaaGreatDoor.PTkp
