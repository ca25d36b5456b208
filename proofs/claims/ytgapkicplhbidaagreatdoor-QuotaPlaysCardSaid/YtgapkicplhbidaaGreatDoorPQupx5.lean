/- A part of the walk of QuotaPlays. No condition. -/
import Derived.Test.YtgapkicplhbidaaGreatDoorPQupx0
import Derived.Test.YtgapkicplhbidaaGreatDoorPQupx4
namespace Go.Proofs.YtgapkicplhbidaaGreatDoor.PQup
set_option maxRecDepth 100000
set_option maxHeartbeats 8000000
open Go.RowKit Go.Proofs.YtgapkicplhbidaaGreatDoorW.PrintWords Go.Proofs.YtgapkicplhbidaaGreatDoorW.PrintLast Go.Proofs.YtgapkicplhbidaaGreatDoorW.PrintMore
attribute [local go_sem] max2_int min2_int max_two min_two max_three min_three max_four min_four   -- for this text's walks alone
set_option linter.unusedVariables false
set_option linter.unusedSimpArgs false
section
attribute [local go_sem high] eqA55
def footbridgeref09_Same.l0 : Nat → List (S55) → List (S55) → Int → Option (Bool)
 | 0, _, _, _ => none
 | k + 1, x0, x1, x5 => if x5 < (x0.length : Int) then (if 0 ≤ x5 then (if x5 < (x1.length : Int) then (if (!((((rd_T55 x0 x5).f0).toList) == (((rd_T55 x1 x5).f0).toList)) || (!((((rd_T55 x0 x5).f1).toList) == (((rd_T55 x1 x5).f1).toList)))) = true then (some false) else (footbridgeref09_Same.l0 k x0 x1 (wrap64 (x5 + 1)))) else (none)) else (none)) else (some true)
def footbridgeref09_Same.f (k : Nat) (l0 : List (S55)) (l1 : List (S55)) : Option (Bool) := if (l0.length : Int) = (l1.length : Int) then (footbridgeref09_Same.l0 k l0 l1 0) else (some false)
theorem footbridgeref09_Same.mono_l : ∀ k, (∀ y0 y1 y2, LeO (footbridgeref09_Same.l0 k y0 y1 y2) (footbridgeref09_Same.l0 (k + 1) y0 y1 y2))
 | 0 => fun _ _ _ r h => by simp [footbridgeref09_Same.l0] at h
 | k + 1 => by
  have ih0 := footbridgeref09_Same.mono_l k
  ·intro y0 y1 y2
   unfold footbridgeref09_Same.l0
   repeat' first
   | (with_reducible exact ih0 _ _ _)
   | (with_reducible exact LeO.refl _)
   | (with_reducible exact LeO.none _)
   | (with_reducible refine LeO.ite ?_ ?_)
   | (with_reducible refine LeO.bind ?_ (fun _ => ?_))
   | exact ih0 _ _ _
   | exact LeO.none _
   | refine LeO.ite ?_ ?_
   | refine LeO.bind ?_ (fun _ => ?_)
theorem footbridgeref09_Same.mono : ∀ a0 a1 k, LeO (footbridgeref09_Same.f k a0 a1) (footbridgeref09_Same.f (k + 1) a0 a1) := by
 intro a0 a1 k
 have ih0 := footbridgeref09_Same.mono_l k
 unfold footbridgeref09_Same.f
 repeat' first
   | (with_reducible exact ih0 _ _ _)
   | (with_reducible exact LeO.refl _)
   | (with_reducible exact LeO.none _)
   | (with_reducible refine LeO.ite ?_ ?_)
   | (with_reducible refine LeO.bind ?_ (fun _ => ?_))
   | exact ih0 _ _ _
   | exact LeO.none _
   | refine LeO.ite ?_ ?_
   | refine LeO.bind ?_ (fun _ => ?_)
theorem footbridgeref09_Same.calls (k : Nat) (A0 : Option Addr) (c0 : Nat) (l0 : List (S55)) (A1 : Option Addr) (c1 : Nat) (l1 : List (S55)) (r : Bool) (w : World) (hr0 : Kd.C k55 w A0 l0.length l0) (hc0 : l0.length ≤ c0) (hr1 : Kd.C k55 w A1 l1.length l1) (hc1 : l1.length ≤ c1) (h : footbridgeref09_Same.f k l0 l1 = some r) :
  Calls Tryz.prog 9 #[.slice A0 l0.length c0, .slice A1 l1.length c1] w fun e w' => e = .returned (.bool r) ∧ Drawn0 w w' := by
 have hu55 := Tryz.underlying55
 have HR0 := As_ hr0
 have HC0 := As_ hc0
 clear hr0 hc0
 have HR1 := As_ hr1
 have HC1 := As_ hc1
 clear hr1 hc1
 have H : (if (l0.length : Int) = (l1.length : Int) then (footbridgeref09_Same.l0 k l0 l1 0) else (some false)) = some r := h
 clear h
 by_cases c3 : (l0.length : Int) = (l1.length : Int)
 ·rw [if_pos c3] at H
  have c3b0 : ((l0.length : Int) == (l1.length : Int)) = true := beq_iff_eq.mpr c3
  have c3b1 : ((l0.length : Int) != (l1.length : Int)) = false := bne_eq_false_iff_eq.mpr c3
  have c3b2 : (l0.length == l1.length) = true := by first | simpa using c3 | (simp at c3 ⊢; omega)
  clear c3
  have H' := As_ H
  clear H
  go_enter Tryz.func9, Tryz.ntmps9
  go_wp2
  repeat (go_quiet (fail); try go_wp2)
  go_loopg [5] k (fun kq v5 w' => ∃ (x5_1 : Int), v5 = .int .i64 x5_1 ∧ Aside0 (footbridgeref09_Same.l0 kq l0 l1 x5_1 = some r) ∧ Aside0 (kq ≤ k) ∧ Drawn0 w w')
  case atStart => exact ⟨(0), ap4_, H', ⟨Nat.le_refl _⟩, ap7_⟩
  case round =>
   clear H'
   try clear c1
   try clear c3
   try clear c3b0
   try clear c3b1
   try clear c3b2
   obtain ⟨x5_1, rfl, HA, HK1, ⟨m1, rfl⟩⟩ := hrel
   cases gk with
   | zero => exact absurd HA.out (by simp [footbridgeref09_Same.l0])
   | succ k1 =>
    have H := HA.out
    clear HA
    simp only [footbridgeref09_Same.l0] at H
    by_cases c4 : x5_1 < (l0.length : Int)
    ·rw [if_pos c4] at H
     have c4b0 : decide (x5_1 < (l0.length : Int)) = true := decide_eq_true c4
     clear c4
     by_cases c5 : 0 ≤ x5_1
     ·rw [if_pos c5] at H
      have c5b0 : decide (0 ≤ x5_1) = true := decide_eq_true c5
      clear c5
      by_cases c6 : x5_1 < (l1.length : Int)
      ·rw [if_pos c6] at H
       have c6b0 : decide (x5_1 < (l1.length : Int)) = true := decide_eq_true c6
       clear c6
       by_cases c7 : (!((((rd_T55 l0 x5_1).f0).toList) == (((rd_T55 l1 x5_1).f0).toList)) || (!((((rd_T55 l0 x5_1).f1).toList) == (((rd_T55 l1 x5_1).f1).toList)))) = true
       ·rw [if_pos c7] at H
        have c7b0 : (!((((rd_T55 l0 x5_1).f0).toList) == (((rd_T55 l1 x5_1).f0).toList)) || (!((((rd_T55 l0 x5_1).f1).toList) == (((rd_T55 l1 x5_1).f1).toList)))) = true := c7
        clear c7
        obtain rfl := Option.some.inj H
        have p176 : 0 ≤ (x5_1 : Int) := of_decide_eq_true ap5_
        have q176 : x5_1 < (l0.length : Int) := of_decide_eq_true ap5_
        obtain ⟨ad176, e176, hx176_0, hx176_1⟩ := at_T55 HR0.out x5_1 p176 q176
        cases e176
        replace p176 := eq_true p176
        replace q176 := eq_true q176
        have p177 : 0 ≤ (x5_1 : Int) := of_decide_eq_true ap5_
        have q177 : x5_1 < (l1.length : Int) := of_decide_eq_true ap5_
        obtain ⟨ad177, e177, hx177_0, hx177_1⟩ := at_T55 HR1.out x5_1 p177 q177
        cases e177
        replace p177 := eq_true p177
        replace q177 := eq_true q177
        go_wp2
        repeat (go_quiet (fail); try go_wp2)
        go_ret
        exact ⟨ap4_, ap7_⟩
       ·rw [if_neg c7] at H
        have c7b0 : (!((((rd_T55 l0 x5_1).f0).toList) == (((rd_T55 l1 x5_1).f0).toList)) || (!((((rd_T55 l0 x5_1).f1).toList) == (((rd_T55 l1 x5_1).f1).toList)))) = false := by simpa using c7
        clear c7
        have H' := As_ H
        clear H
        have p176 : 0 ≤ (x5_1 : Int) := of_decide_eq_true ap5_
        have q176 : x5_1 < (l0.length : Int) := of_decide_eq_true ap5_
        obtain ⟨ad176, e176, hx176_0, hx176_1⟩ := at_T55 HR0.out x5_1 p176 q176
        cases e176
        replace p176 := eq_true p176
        replace q176 := eq_true q176
        have p177 : 0 ≤ (x5_1 : Int) := of_decide_eq_true ap5_
        have q177 : x5_1 < (l1.length : Int) := of_decide_eq_true ap5_
        obtain ⟨ad177, e177, hx177_0, hx177_1⟩ := at_T55 HR1.out x5_1 p177 q177
        cases e177
        replace p177 := eq_true p177
        replace q177 := eq_true q177
        go_wp2
        repeat (go_quiet (fail); try go_wp2)
        go_roundg k1
        case measure => have := HK1.out; omega
        case rel => exact ⟨(wrap64 (x5_1 + 1)), ap4_, H', ⟨by have := HK1.out; omega⟩, ap7_⟩
      ·rw [if_neg c6] at H
       exact absurd H (by simp)
     ·rw [if_neg c5] at H
      exact absurd H (by simp)
    ·rw [if_neg c4] at H
     have c4b0 : decide (x5_1 < (l0.length : Int)) = false := decide_eq_false c4
     clear c4
     obtain rfl := Option.some.inj H
     go_wp2
     repeat (go_quiet (fail); try go_wp2)
     go_ret
     exact ⟨ap4_, ap7_⟩
 ·rw [if_neg c3] at H
  have c3b0 : ((l0.length : Int) == (l1.length : Int)) = false := beq_eq_false_iff_ne.mpr c3
  have c3b1 : ((l0.length : Int) != (l1.length : Int)) = true := bne_iff_ne.mpr c3
  have c3b2 : (l0.length == l1.length) = false := by first | simpa using c3 | (simp at c3 ⊢; omega)
  obtain rfl := Option.some.inj H
  go_enter Tryz.func9, Tryz.ntmps9
  go_wp2
  repeat (go_quiet (fail); try go_wp2)
  go_ret
  exact ⟨ap4_, ap7_⟩
def footbridgeref03_word.f (a0 : Int) : Option (ByteArray) := if a0 = 1 then (some (⟨#[99, 104, 97, 110, 110, 101, 108, 45]⟩ : ByteArray)) else (if a0 = 2 then (some (⟨#[99, 111, 110, 110, 101, 99, 116, 105, 111, 110, 45]⟩ : ByteArray)) else (if a0 = 3 then (some (⟨#[99, 108, 105, 101, 110, 116, 45]⟩ : ByteArray)) else (some (⟨#[]⟩ : ByteArray))))
theorem footbridgeref03_word.calls (a0 : Int) (r : ByteArray) (w : World) (h : footbridgeref03_word.f a0 = some r) :
  Calls Tryz.prog 48 #[.int .i64 a0] w fun e w' => e = .returned (.string r) ∧ Drawn0 w w' := by
 have H : (if a0 = 1 then (some (⟨#[99, 104, 97, 110, 110, 101, 108, 45]⟩ : ByteArray)) else (if a0 = 2 then (some (⟨#[99, 111, 110, 110, 101, 99, 116, 105, 111, 110, 45]⟩ : ByteArray)) else (if a0 = 3 then (some (⟨#[99, 108, 105, 101, 110, 116, 45]⟩ : ByteArray)) else (some (⟨#[]⟩ : ByteArray))))) = some r := h
 clear h
 by_cases c2 : a0 = 1
 ·rw [if_pos c2] at H
  have c2b0 : (a0 == 1) = true := beq_iff_eq.mpr c2
  have c2b1 : (a0 != 1) = false := bne_eq_false_iff_eq.mpr c2
  clear c2
  obtain rfl := Option.some.inj H
  go_enter Tryz.func48, Tryz.ntmps48
  go_wp2
  go_ret
  exact ⟨ap4_, ap7_⟩
 ·rw [if_neg c2] at H
  have c2b0 : (a0 == 1) = false := beq_eq_false_iff_ne.mpr c2
  have c2b1 : (a0 != 1) = true := bne_iff_ne.mpr c2
  by_cases c3 : a0 = 2
  ·rw [if_pos c3] at H
   have c3b0 : (a0 == 2) = true := beq_iff_eq.mpr c3
   have c3b1 : (a0 != 2) = false := bne_eq_false_iff_eq.mpr c3
   clear c3
   obtain rfl := Option.some.inj H
   go_enter Tryz.func48, Tryz.ntmps48
   go_wp2
   go_ret
   exact ⟨ap4_, ap7_⟩
  ·rw [if_neg c3] at H
   have c3b0 : (a0 == 2) = false := beq_eq_false_iff_ne.mpr c3
   have c3b1 : (a0 != 2) = true := bne_iff_ne.mpr c3
   by_cases c4 : a0 = 3
   ·rw [if_pos c4] at H
    have c4b0 : (a0 == 3) = true := beq_iff_eq.mpr c4
    have c4b1 : (a0 != 3) = false := bne_eq_false_iff_eq.mpr c4
    clear c4
    obtain rfl := Option.some.inj H
    go_enter Tryz.func48, Tryz.ntmps48
    go_wp2
    go_ret
    exact ⟨ap4_, ap7_⟩
   ·rw [if_neg c4] at H
    have c4b0 : (a0 == 3) = false := beq_eq_false_iff_ne.mpr c4
    have c4b1 : (a0 != 3) = true := bne_iff_ne.mpr c4
    obtain rfl := Option.some.inj H
    go_enter Tryz.func48, Tryz.ntmps48
    go_wp2
    go_ret
    exact ⟨ap4_, ap7_⟩
def footbridgeref03_Digits.l0 : Nat → Int → ByteArray → Option (ByteArray)
 | 0, _, _ => none
 | k + 1, x0, x3 => if x0 ≥ 10 then ((some (([(wrap64 (48 + (Int.tmod x0 10))) % 256] : List Int) : List Int)).bind fun y178 => (if (strOfNums y178).size + x3.size ≤ 9223372036854775807 then (footbridgeref03_Digits.l0 k (wrap64 (Int.tdiv x0 10)) ((strOfNums y178) ++ x3)) else (none))) else ((some (([(wrap64 (48 + x0)) % 256] : List Int) : List Int)).bind fun y181 => (if (strOfNums y181).size + x3.size ≤ 9223372036854775807 then (some ((strOfNums y181) ++ x3)) else (none)))
def footbridgeref03_Digits.f (k : Nat) (a0 : Int) : Option (ByteArray) := footbridgeref03_Digits.l0 k a0 (⟨#[]⟩ : ByteArray)
theorem footbridgeref03_Digits.mono_l : ∀ k, (∀ y0 y1, LeO (footbridgeref03_Digits.l0 k y0 y1) (footbridgeref03_Digits.l0 (k + 1) y0 y1))
 | 0 => fun _ _ r h => by simp [footbridgeref03_Digits.l0] at h
 | k + 1 => by
  have ih0 := footbridgeref03_Digits.mono_l k
  ·intro y0 y1
   unfold footbridgeref03_Digits.l0
   repeat' first
   | (with_reducible exact ih0 _ _)
   | (with_reducible exact LeO.refl _)
   | (with_reducible exact LeO.none _)
   | (with_reducible refine LeO.ite ?_ ?_)
   | (with_reducible refine LeO.bind ?_ (fun _ => ?_))
   | exact ih0 _ _
   | exact LeO.none _
   | refine LeO.ite ?_ ?_
   | refine LeO.bind ?_ (fun _ => ?_)
theorem footbridgeref03_Digits.mono : ∀ a0 k, LeO (footbridgeref03_Digits.f k a0) (footbridgeref03_Digits.f (k + 1) a0) := by
 intro a0 k
 have ih0 := footbridgeref03_Digits.mono_l k
 unfold footbridgeref03_Digits.f
 repeat' first
   | (with_reducible exact ih0 _ _)
   | (with_reducible exact LeO.refl _)
   | (with_reducible exact LeO.none _)
   | (with_reducible refine LeO.ite ?_ ?_)
   | (with_reducible refine LeO.bind ?_ (fun _ => ?_))
   | exact ih0 _ _
   | exact LeO.none _
   | refine LeO.ite ?_ ?_
   | refine LeO.bind ?_ (fun _ => ?_)
theorem footbridgeref03_Digits.calls (k : Nat) (a0 : Int) (r : ByteArray) (w : World) (h : footbridgeref03_Digits.f k a0 = some r) :
  Calls Tryz.prog 80 #[.int .i64 a0] w fun e w' => e = .returned (.string r) ∧ Below w.heap.size w w' := by
 have HB := As_ (Below.refl w.heap.size w)
 have H : (footbridgeref03_Digits.l0 k a0 (⟨#[]⟩ : ByteArray)) = some r := h
 clear h
 have H' := As_ H
 clear H
 go_enter Tryz.func80, Tryz.ntmps80
 go_wp2
 go_loopg [0, 3] k (fun kq v0 v3 w' => ∃ (x0_1 : Int) (x3_1 : ByteArray), v0 = .int .i64 x0_1 ∧ v3 = .string x3_1 ∧ Aside0 (footbridgeref03_Digits.l0 kq x0_1 x3_1 = some r) ∧ Aside0 (kq ≤ k) ∧ Aside0 (Below w.heap.size w w'))
 case atStart => exact ⟨(a0), ((⟨#[]⟩ : ByteArray)), ap4_, ap4_, H', ⟨Nat.le_refl _⟩, ⟨ap28_⟩⟩
 case round =>
  clear H'
  obtain ⟨x0_1, x3_1, rfl, rfl, HA, HK1, HB⟩ := hrel
  cases gk with
  | zero => exact absurd HA.out (by simp [footbridgeref03_Digits.l0])
  | succ k1 =>
   have H := HA.out
   clear HA
   simp only [footbridgeref03_Digits.l0] at H
   by_cases c2 : x0_1 ≥ 10
   ·rw [if_pos c2] at H
    have c2b0 : decide (10 ≤ x0_1) = true := decide_eq_true c2
    clear c2
    obtain ⟨y178, hy178⟩ : ∃ y_ : List Int, y_ = (([(wrap64 (48 + (Int.tmod x0_1 10))) % 256] : List Int)) := ⟨_, rfl⟩
    replace H : (if (strOfNums y178).size + x3_1.size ≤ 9223372036854775807 then (footbridgeref03_Digits.l0 k1 (wrap64 (Int.tdiv x0_1 10)) ((strOfNums y178) ++ x3_1)) else (none)) = some r := by first | (rw [hy178]; with_reducible exact H) | (have H2_ := (Option.bind_some _ _).symm.trans H; rw [hy178]; with_reducible exact H2_) | (have H2_ := (Option.bind_some _ _).symm.trans H; with_reducible exact H2_) | with_reducible exact H | (rw [hy178]; exact H) | exact H
    have Ny178 := As_ hy178
    clear hy178
    by_cases c3 : (strOfNums y178).size + x3_1.size ≤ 9223372036854775807
    ·rw [if_pos c3] at H
     have c3b0 := eq_true c3
     have c3b1 : decide ((strOfNums y178).size + x3_1.size ≤ 9223372036854775807) = true := decide_eq_true c3
     try have c3b2 : (9223372036854775807 < (strOfNums y178).size + x3_1.size) = False := eq_false (Nat.not_lt.2 c3)
     have H' := As_ H
     clear H
     go_wp2_with (first | ((with_reducible refine gate_dst (N := 10) rfl ?_); refine Kd.R_lit (Kd.int .u8) _ 5 ?hg (N := 10) ?hd (xs := ([(wrap64 (48 + (Int.tmod x0_1 10))) % 256] : List Int)) (inner := [.int .u8 ((wrap64 (48 + (Int.tmod x0_1 10))) % 256)]) (ok := fun _ => True) (okp := fun _ => True) ?hr ?hp (fun _ hk => hk) trivial (Below.refl _ _) (Nat.le_refl _) (by simp) ?_; (case hd => rfl); (case hg => rfl); (case hr => first | (go_simp; done) | (go_simp; rfl)); (case hp => exact (Reps.one (show Kd.M (Kd.int .u8) _ _ _ ((wrap64 (48 + (Int.tmod x0_1 10))) % 256) [.int .u8 ((wrap64 (48 + (Int.tmod x0_1 10))) % 256)] from rfl) (Reps.none _ _))); intro v179 w4 ho5 hb hg_ hnew_; clear hg_ hnew_; (first | rw [← Ny178.out] at ho5 | (simp only [Int.reduceToNat] at ho5; rw [← Ny178.out] at ho5)); have HO180 := As_ (Kd.R_lower ho5 (below_size ap28_)); replace HB := As_ (below_step ap28_ hb); clear hb ho5; have hcv6 := own_string (P := Tryz.prog) Tryz.underlying108 Tryz.underlying5 Tryz.underlying9 (Kd.own_of_R HO180.out)))
     go_roundg k1
     case measure => have := HK1.out; omega
     case rel => exact ⟨(wrap64 (Int.tdiv x0_1 10)), ((strOfNums y178) ++ x3_1), ap4_, ap4_, H', ⟨by have := HK1.out; omega⟩, ⟨ap28_⟩⟩
    ·rw [if_neg c3] at H
     exact absurd H (by simp)
   ·rw [if_neg c2] at H
    have c2b0 : decide (10 ≤ x0_1) = false := decide_eq_false c2
    clear c2
    obtain ⟨y181, hy181⟩ : ∃ y_ : List Int, y_ = (([(wrap64 (48 + x0_1)) % 256] : List Int)) := ⟨_, rfl⟩
    replace H : (if (strOfNums y181).size + x3_1.size ≤ 9223372036854775807 then (some ((strOfNums y181) ++ x3_1)) else (none)) = some r := by first | (rw [hy181]; with_reducible exact H) | (have H2_ := (Option.bind_some _ _).symm.trans H; rw [hy181]; with_reducible exact H2_) | (have H2_ := (Option.bind_some _ _).symm.trans H; with_reducible exact H2_) | with_reducible exact H | (rw [hy181]; exact H) | exact H
    have Ny181 := As_ hy181
    clear hy181
    by_cases c7 : (strOfNums y181).size + x3_1.size ≤ 9223372036854775807
    ·rw [if_pos c7] at H
     have c7b0 := eq_true c7
     have c7b1 : decide ((strOfNums y181).size + x3_1.size ≤ 9223372036854775807) = true := decide_eq_true c7
     try have c7b2 : (9223372036854775807 < (strOfNums y181).size + x3_1.size) = False := eq_false (Nat.not_lt.2 c7)
     obtain rfl := Option.some.inj H
     go_wp2_with (first | ((with_reducible refine gate_dst (N := 19) rfl ?_); refine Kd.R_lit (Kd.int .u8) _ 5 ?hg (N := 19) ?hd (xs := ([(wrap64 (48 + x0_1)) % 256] : List Int)) (inner := [.int .u8 ((wrap64 (48 + x0_1)) % 256)]) (ok := fun _ => True) (okp := fun _ => True) ?hr ?hp (fun _ hk => hk) trivial (Below.refl _ _) (Nat.le_refl _) (by simp) ?_; (case hd => rfl); (case hg => rfl); (case hr => first | (go_simp; done) | (go_simp; rfl)); (case hp => exact (Reps.one (show Kd.M (Kd.int .u8) _ _ _ ((wrap64 (48 + x0_1)) % 256) [.int .u8 ((wrap64 (48 + x0_1)) % 256)] from rfl) (Reps.none _ _))); intro v182 w8 ho9 hb hg_ hnew_; clear hg_ hnew_; (first | rw [← Ny181.out] at ho9 | (simp only [Int.reduceToNat] at ho9; rw [← Ny181.out] at ho9)); have HO183 := As_ (Kd.R_lower ho9 (below_size ap28_)); replace HB := As_ (below_step ap28_ hb); clear hb ho9; have hcv10 := own_string (P := Tryz.prog) Tryz.underlying108 Tryz.underlying5 Tryz.underlying9 (Kd.own_of_R HO183.out)))
     go_ret
     exact ⟨ap14_, ap28_⟩
    ·rw [if_neg c7] at H
     exact absurd H (by simp)
end
def footbridgeref03_Make.j0 : Nat → Int → Int → Bool → Option (ByteArray × Int)
 | 0, _, _, _ => none
 | k + 1, x0, x1, x10 => if x10 = true then (some ((⟨#[]⟩ : ByteArray), 3)) else ((footbridgeref03_word.f x0).bind fun t185 => ((footbridgeref03_Digits.f k x1).bind fun t186 => (if t185.size + t186.size ≤ 9223372036854775807 then (some (t185 ++ t186, 0)) else (none))))
def footbridgeref03_Make.f (k : Nat) (a0 : Int) (a1 : Int) : Option (ByteArray × Int) := (footbridgeref03_word.f a0).bind fun t184 => (if t184.toList = ([] : List UInt8) then (some ((⟨#[]⟩ : ByteArray), 1)) else (if a1 < 0 then (footbridgeref03_Make.j0 k a0 a1 true) else (footbridgeref03_Make.j0 k a0 a1 (decide (a1 > 1099511627776)))))
theorem footbridgeref03_Make.mono_l : ∀ k, (∀ y0 y1 y2, LeO (footbridgeref03_Make.j0 k y0 y1 y2) (footbridgeref03_Make.j0 (k + 1) y0 y1 y2))
 | 0 => fun _ _ _ r h => by simp [footbridgeref03_Make.j0] at h
 | k + 1 => by
  have ih0 := footbridgeref03_Make.mono_l k
  ·intro y0 y1 y2
   unfold footbridgeref03_Make.j0
   repeat' first
   | (with_reducible exact ih0 _ _ _)
   | (with_reducible exact footbridgeref03_Digits.mono _ _)
   | (with_reducible exact LeO.refl _)
   | (with_reducible exact LeO.none _)
   | (with_reducible refine LeO.ite ?_ ?_)
   | (with_reducible refine LeO.bind ?_ (fun _ => ?_))
   | exact ih0 _ _ _
   | exact footbridgeref03_Digits.mono _ _
   | exact LeO.none _
   | refine LeO.ite ?_ ?_
   | refine LeO.bind ?_ (fun _ => ?_)
theorem footbridgeref03_Make.mono : ∀ a0 a1 k, LeO (footbridgeref03_Make.f k a0 a1) (footbridgeref03_Make.f (k + 1) a0 a1) := by
 intro a0 a1 k
 have ih0 := footbridgeref03_Make.mono_l k
 unfold footbridgeref03_Make.f
 repeat' first
   | (with_reducible exact ih0 _ _ _)
   | (with_reducible exact footbridgeref03_Digits.mono _ _)
   | (with_reducible exact LeO.refl _)
   | (with_reducible exact LeO.none _)
   | (with_reducible refine LeO.ite ?_ ?_)
   | (with_reducible refine LeO.bind ?_ (fun _ => ?_))
   | exact ih0 _ _ _
   | exact footbridgeref03_Digits.mono _ _
   | exact LeO.none _
   | refine LeO.ite ?_ ?_
   | refine LeO.bind ?_ (fun _ => ?_)
theorem footbridgeref03_Make.calls (k : Nat) (a0 : Int) (a1 : Int) (r1 : ByteArray) (r2 : Int) (w : World) (h : footbridgeref03_Make.f k a0 a1 = some (r1, r2)) :
  Calls Tryz.prog 67 #[.int .i64 a0, .int .i64 a1] w fun e w' => e = .returned (.tuple #[.string r1, .int .i64 r2]) ∧ Below w.heap.size w w' := by
 have HB := As_ (Below.refl w.heap.size w)
 have H : ((footbridgeref03_word.f a0).bind fun t184 => (if t184.toList = ([] : List UInt8) then (some ((⟨#[]⟩ : ByteArray), 1)) else (if a1 < 0 then (footbridgeref03_Make.j0 k a0 a1 true) else (footbridgeref03_Make.j0 k a0 a1 (decide (a1 > 1099511627776)))))) = some (r1, r2) := h
 clear h
 replace H := Option.bind_eq_some_iff.mp H
 obtain ⟨t184, A30, H⟩ := H
 try dsimp only at H
 have A3 := As_ A30
 clear A30
 by_cases c4 : t184.toList = ([] : List UInt8)
 ·rw [if_pos c4] at H
  have c4b0 : (t184.toList == ([] : List UInt8)) = true := beq_iff_eq.mpr c4
  have c4b1 : (t184.toList != ([] : List UInt8)) = false := bne_eq_false_iff_eq.mpr c4
  clear c4
  simp only [Option.some.injEq, Prod.mk.injEq] at H
  obtain ⟨rfl, rfl⟩ := H
  go_enter Tryz.func67, Tryz.ntmps67
  go_wp2_with (first | ((with_reducible refine gate_callee (f := 48) rfl ?_); refine gk_ (some 8) Tryz.func48 #[.int .i64 a0] ?_; (with_reducible refine (footbridgeref03_word.calls a0 t184 _ A3.out).mono ?_); rintro e w' ⟨rfl, ⟨nd, rfl⟩⟩; refine ⟨_, rfl, ?_⟩))
  go_ret2
  exact ⟨ap14_, ap28_⟩
 ·rw [if_neg c4] at H
  have c4b0 : (t184.toList == ([] : List UInt8)) = false := beq_eq_false_iff_ne.mpr c4
  have c4b1 : (t184.toList != ([] : List UInt8)) = true := bne_iff_ne.mpr c4
  have HC5 := As_ H
  clear H
  go_enter Tryz.func67, Tryz.ntmps67
  go_upto_region 3 with (first | ((with_reducible refine gate_callee (f := 48) rfl ?_); refine gk_ (some 8) Tryz.func48 #[.int .i64 a0] ?_; (with_reducible refine (footbridgeref03_word.calls a0 t184 _ A3.out).mono ?_); rintro e w' ⟨rfl, ⟨nd, rfl⟩⟩; refine ⟨_, rfl, ?_⟩))
  (try simp only [Act.put, List.setIfInBounds_toArray, List.set_cons_zero, List.set_cons_succ])
  go_cut [10] (fun v10 wc => ∃ (kq : Nat) (x10_4 : Bool), v10 = .bool x10_4 ∧ Aside0 (footbridgeref03_Make.j0 kq a0 a1 x10_4 = some (r1, r2)) ∧ Aside0 (kq ≤ k) ∧ Aside0 (Below w.heap.size w wc))
  case first =>
   have H := HC5.out
   clear HC5
   by_cases c6 : a1 < 0
   ·rw [if_pos c6] at H
    have c6b0 : decide (a1 < 0) = true := decide_eq_true c6
    clear c6
    (first | rw [c6b0] | (simp only [i64_w, i32_w]; rw [c6b0]) | skip)
    have H' := As_ H
    clear H
    go_wp2
    go_meet
    case rel => exact ⟨_, (true), ap4_, H', ⟨ap1_⟩, ⟨ap28_⟩⟩
   ·rw [if_neg c6] at H
    have c6b0 : decide (a1 < 0) = false := decide_eq_false c6
    clear c6
    (first | rw [c6b0] | (simp only [i64_w, i32_w]; rw [c6b0]) | skip)
    have H' := As_ H
    clear H
    go_wp2
    go_meet
    case rel => exact ⟨_, (decide (a1 > 1099511627776)), ap4_, H', ⟨ap1_⟩, ⟨ap28_⟩⟩
  case rest =>
   clear HC5
   try clear c4
   try clear c4b0
   try clear c4b1
   obtain ⟨kq, x10_4, rfl, HA, HJ4, HB⟩ := hcut
   cases kq with
   | zero => exact absurd HA.out (by simp [footbridgeref03_Make.j0])
   | succ kj4 =>
    have H := HA.out
    clear HA
    simp only [footbridgeref03_Make.j0] at H
    by_cases c7 : x10_4 = true
    ·subst c7
     have H1 : (some ((⟨#[]⟩ : ByteArray), 3)) = some (r1, r2) := by rw [if_pos rfl] at H; exact H
     clear H
     have H := H1
     clear H1
     simp only [Option.some.injEq, Prod.mk.injEq] at H
     obtain ⟨rfl, rfl⟩ := H
     go_wp2
     go_ret2
     exact ⟨ap14_, ap28_⟩
    ·replace c7 := Bool.eq_false_iff.mpr c7
     subst c7
     have H1 : ((footbridgeref03_word.f a0).bind fun t185 => ((footbridgeref03_Digits.f kj4 a1).bind fun t186 => (if t185.size + t186.size ≤ 9223372036854775807 then (some (t185 ++ t186, 0)) else (none)))) = some (r1, r2) := by rw [if_neg (show ¬ (false = true) by decide)] at H; exact H
     clear H
     have H := H1
     clear H1
     replace H := Option.bind_eq_some_iff.mp H
     obtain ⟨t185, A80, H⟩ := H
     try dsimp only at H
     have A8 := As_ A80
     clear A80
     replace H := Option.bind_eq_some_iff.mp H
     obtain ⟨t186, A90, H⟩ := H
     try dsimp only at H
     have A9 := As_ A90
     clear A90
     by_cases c10 : t185.size + t186.size ≤ 9223372036854775807
     ·rw [if_pos c10] at H
      have c10b0 := eq_true c10
      have c10b1 : decide (t185.size + t186.size ≤ 9223372036854775807) = true := decide_eq_true c10
      try have c10b2 : (9223372036854775807 < t185.size + t186.size) = False := eq_false (Nat.not_lt.2 c10)
      simp only [Option.some.injEq, Prod.mk.injEq] at H
      obtain ⟨rfl, rfl⟩ := H
      go_wp2_with (first | ((with_reducible refine gate_callee (f := 48) rfl ?_); refine gk_ (some 18) Tryz.func48 #[.int .i64 a0] ?_; (with_reducible refine (footbridgeref03_word.calls a0 t185 _ A8.out).mono ?_); rintro e w' ⟨rfl, ⟨nd, rfl⟩⟩; refine ⟨_, rfl, ?_⟩) | ((with_reducible refine gate_callee (f := 80) rfl ?_); refine gk_ (some 20) Tryz.func80 #[.int .i64 a1] ?_; (with_reducible refine (footbridgeref03_Digits.calls kj4 a1 t186 _ A9.out).mono ?_); rintro e w11 ⟨rfl, hb⟩; refine ⟨_, rfl, ?_⟩; replace HB := As_ (below_step ap28_ hb); (try clear hb); (try clear hb2); (try clear hk); (try clear hi)))
      go_ret2
      exact ⟨ap14_, ap28_⟩
     ·rw [if_neg c10] at H
      exact absurd H (by simp)
mutual
def footbridgeref03_Number.j0 : Nat → Int → ByteArray → ByteArray → Bool → Option (Int × Int)
 | 0, _, _, _, _ => none
 | k + 1, x0, x1, x6, x35 => if x35 = true then (some (0, 7)) else (footbridgeref03_Number.l0 k x0 x1 0 (x6.size : Int))
def footbridgeref03_Number.l0 : Nat → Int → ByteArray → Int → Int → Option (Int × Int)
 | 0, _, _, _, _ => none
 | k + 1, x0, x1, x7, x8 => if x8 < (x1.size : Int) then (if 0 ≤ x8 then (if (bt x1 x8) < 48 then (some (0, 7)) else (if (bt x1 x8) > 57 then (some (0, 7)) else (footbridgeref03_Number.l0 k x0 x1 (wrap64 ((wrap64 (x7 * 10)) + (((bt x1 x8) - 48) % 256))) (wrap64 (x8 + 1))))) else (none)) else ((footbridgeref03_Make.f k x0 x7).bind fun bt188 => (if bt188.2 = 0 then (if bt188.1.toList = x1.toList then (some (x7, 0)) else (some (0, 7))) else (some (0, 7))))
end
def footbridgeref03_Number.f (k : Nat) (a0 : Int) (a1 : ByteArray) : Option (Int × Int) := (footbridgeref03_word.f a0).bind fun t187 => (if t187.toList = ([] : List UInt8) then (some (0, 1)) else (if (a1.size : Int) ≤ (t187.size : Int) then (footbridgeref03_Number.j0 k a0 a1 t187 true) else (if (a1.size : Int) > (wrap64 ((t187.size : Int) + 13)) then (footbridgeref03_Number.j0 k a0 a1 t187 true) else (if 0 ≤ (t187.size : Int) then (if (t187.size : Int) ≤ (a1.size : Int) then (footbridgeref03_Number.j0 k a0 a1 t187 ((a1.extract 0 ((t187.size : Int) : Int).toNat).toList != t187.toList)) else (none)) else (none)))))
theorem footbridgeref03_Number.mono_l : ∀ k, (∀ y0 y1 y2 y3, LeO (footbridgeref03_Number.j0 k y0 y1 y2 y3) (footbridgeref03_Number.j0 (k + 1) y0 y1 y2 y3)) ∧ (∀ y0 y1 y2 y3, LeO (footbridgeref03_Number.l0 k y0 y1 y2 y3) (footbridgeref03_Number.l0 (k + 1) y0 y1 y2 y3))
 | 0 => ⟨fun _ _ _ _ r h => by simp [footbridgeref03_Number.j0] at h, fun _ _ _ _ r h => by simp [footbridgeref03_Number.l0] at h⟩
 | k + 1 => by
  obtain ⟨ih0, ih1⟩ := footbridgeref03_Number.mono_l k
  refine ⟨?_, ?_⟩
  ·intro y0 y1 y2 y3
   unfold footbridgeref03_Number.j0
   repeat' first
   | (with_reducible exact ih0 _ _ _ _)
   | (with_reducible exact ih1 _ _ _ _)
   | (with_reducible exact footbridgeref03_Make.mono _ _ _)
   | (with_reducible exact LeO.refl _)
   | (with_reducible exact LeO.none _)
   | (with_reducible refine LeO.ite ?_ ?_)
   | (with_reducible refine LeO.bind ?_ (fun _ => ?_))
   | exact ih0 _ _ _ _
   | exact ih1 _ _ _ _
   | exact footbridgeref03_Make.mono _ _ _
   | exact LeO.none _
   | refine LeO.ite ?_ ?_
   | refine LeO.bind ?_ (fun _ => ?_)
  ·intro y0 y1 y2 y3
   unfold footbridgeref03_Number.l0
   repeat' first
   | (with_reducible exact ih0 _ _ _ _)
   | (with_reducible exact ih1 _ _ _ _)
   | (with_reducible exact footbridgeref03_Make.mono _ _ _)
   | (with_reducible exact LeO.refl _)
   | (with_reducible exact LeO.none _)
   | (with_reducible refine LeO.ite ?_ ?_)
   | (with_reducible refine LeO.bind ?_ (fun _ => ?_))
   | exact ih0 _ _ _ _
   | exact ih1 _ _ _ _
   | exact footbridgeref03_Make.mono _ _ _
   | exact LeO.none _
   | refine LeO.ite ?_ ?_
   | refine LeO.bind ?_ (fun _ => ?_)
theorem footbridgeref03_Number.mono : ∀ a0 a1 k, LeO (footbridgeref03_Number.f k a0 a1) (footbridgeref03_Number.f (k + 1) a0 a1) := by
 intro a0 a1 k
 obtain ⟨ih0, ih1⟩ := footbridgeref03_Number.mono_l k
 unfold footbridgeref03_Number.f
 repeat' first
   | (with_reducible exact ih0 _ _ _ _)
   | (with_reducible exact ih1 _ _ _ _)
   | (with_reducible exact footbridgeref03_Make.mono _ _ _)
   | (with_reducible exact LeO.refl _)
   | (with_reducible exact LeO.none _)
   | (with_reducible refine LeO.ite ?_ ?_)
   | (with_reducible refine LeO.bind ?_ (fun _ => ?_))
   | exact ih0 _ _ _ _
   | exact ih1 _ _ _ _
   | exact footbridgeref03_Make.mono _ _ _
   | exact LeO.none _
   | refine LeO.ite ?_ ?_
   | refine LeO.bind ?_ (fun _ => ?_)
theorem footbridgeref03_Number.calls (k : Nat) (a0 : Int) (a1 : ByteArray) (r1 : Int) (r2 : Int) (w : World) (h : footbridgeref03_Number.f k a0 a1 = some (r1, r2)) :
  Calls Tryz.prog 49 #[.int .i64 a0, .string a1] w fun e w' => e = .returned (.tuple #[.int .i64 r1, .int .i64 r2]) ∧ Below w.heap.size w w' := by
 have HB := As_ (Below.refl w.heap.size w)
 have H : ((footbridgeref03_word.f a0).bind fun t187 => (if t187.toList = ([] : List UInt8) then (some (0, 1)) else (if (a1.size : Int) ≤ (t187.size : Int) then (footbridgeref03_Number.j0 k a0 a1 t187 true) else (if (a1.size : Int) > (wrap64 ((t187.size : Int) + 13)) then (footbridgeref03_Number.j0 k a0 a1 t187 true) else (if 0 ≤ (t187.size : Int) then (if (t187.size : Int) ≤ (a1.size : Int) then (footbridgeref03_Number.j0 k a0 a1 t187 ((a1.extract 0 ((t187.size : Int) : Int).toNat).toList != t187.toList)) else (none)) else (none)))))) = some (r1, r2) := h
 clear h
 replace H := Option.bind_eq_some_iff.mp H
 obtain ⟨t187, A30, H⟩ := H
 try dsimp only at H
 have A3 := As_ A30
 clear A30
 by_cases c4 : t187.toList = ([] : List UInt8)
 ·rw [if_pos c4] at H
  have c4b0 : (t187.toList == ([] : List UInt8)) = true := beq_iff_eq.mpr c4
  have c4b1 : (t187.toList != ([] : List UInt8)) = false := bne_eq_false_iff_eq.mpr c4
  clear c4
  simp only [Option.some.injEq, Prod.mk.injEq] at H
  obtain ⟨rfl, rfl⟩ := H
  go_enter Tryz.func49, Tryz.ntmps49
  go_wp2_with (first | ((with_reducible refine gate_callee (f := 48) rfl ?_); refine gk_ (some 12) Tryz.func48 #[.int .i64 a0] ?_; (with_reducible refine (footbridgeref03_word.calls a0 t187 _ A3.out).mono ?_); rintro e w' ⟨rfl, ⟨nd, rfl⟩⟩; refine ⟨_, rfl, ?_⟩))
  go_ret2
  exact ⟨ap14_, ap28_⟩
 ·rw [if_neg c4] at H
  have c4b0 : (t187.toList == ([] : List UInt8)) = false := beq_eq_false_iff_ne.mpr c4
  have c4b1 : (t187.toList != ([] : List UInt8)) = true := bne_iff_ne.mpr c4
  have HC5 := As_ H
  clear H
  go_enter Tryz.func49, Tryz.ntmps49
  go_upto_region 4 with (first | ((with_reducible refine gate_callee (f := 48) rfl ?_); refine gk_ (some 12) Tryz.func48 #[.int .i64 a0] ?_; (with_reducible refine (footbridgeref03_word.calls a0 t187 _ A3.out).mono ?_); rintro e w' ⟨rfl, ⟨nd, rfl⟩⟩; refine ⟨_, rfl, ?_⟩))
  (try simp only [Act.put, List.setIfInBounds_toArray, List.set_cons_zero, List.set_cons_succ])
  go_cut [35] (fun v35 wc => ∃ (kq : Nat) (x35_4 : Bool), v35 = .bool x35_4 ∧ Aside0 (footbridgeref03_Number.j0 kq a0 a1 t187 x35_4 = some (r1, r2)) ∧ Aside0 (kq ≤ k) ∧ Aside0 (Below w.heap.size w wc))
  case first =>
   have H := HC5.out
   clear HC5
   by_cases c6 : (a1.size : Int) ≤ (t187.size : Int)
   ·rw [if_pos c6] at H
    have c6b0 : decide ((a1.size : Int) ≤ (t187.size : Int)) = true := decide_eq_true c6
    have c6b1 : decide (a1.size ≤ t187.size) = true := decide_eq_true (Int.ofNat_le.mp c6)
    clear c6
    (first | rw [c6b0] | (simp only [i64_w, i32_w]; rw [c6b0]) | skip)
    have H' := As_ H
    clear H
    go_wp2
    go_meet
    case rel => exact ⟨_, (true), ap4_, H', ⟨ap1_⟩, ⟨ap28_⟩⟩
   ·rw [if_neg c6] at H
    have c6b0 : decide ((a1.size : Int) ≤ (t187.size : Int)) = false := decide_eq_false c6
    have c6b1 : decide (a1.size ≤ t187.size) = false := decide_eq_false (fun h => c6 (Int.ofNat_le.mpr h))
    clear c6
    (first | rw [c6b0] | (simp only [i64_w, i32_w]; rw [c6b0]) | skip)
    by_cases c7 : (a1.size : Int) > (wrap64 ((t187.size : Int) + 13))
    ·rw [if_pos c7] at H
     have c7b0 : decide ((wrap64 ((t187.size : Int) + 13)) < (a1.size : Int)) = true := decide_eq_true c7
     clear c7
     have H' := As_ H
     clear H
     go_wp2
     go_meet
     case rel => exact ⟨_, (true), ap4_, H', ⟨ap1_⟩, ⟨ap28_⟩⟩
    ·rw [if_neg c7] at H
     have c7b0 : decide ((wrap64 ((t187.size : Int) + 13)) < (a1.size : Int)) = false := decide_eq_false c7
     clear c7
     by_cases c8 : 0 ≤ (t187.size : Int)
     ·rw [if_pos c8] at H
      have c8b0 := eq_true c8
      have c8b1 : decide (0 ≤ (t187.size : Int)) = true := decide_eq_true c8
      clear c8
      by_cases c9 : (t187.size : Int) ≤ (a1.size : Int)
      ·rw [if_pos c9] at H
       have c9b0 := eq_true c9
       have c9b1 : decide ((t187.size : Int) ≤ (a1.size : Int)) = true := decide_eq_true c9
       clear c9
       have H' := As_ H
       clear H
       go_wp2
       go_meet
       case rel => exact ⟨_, (((a1.extract 0 ((t187.size : Int) : Int).toNat).toList != t187.toList)), ap4_, H', ⟨ap1_⟩, ⟨ap28_⟩⟩
      ·rw [if_neg c9] at H
       exact absurd H (by simp)
     ·rw [if_neg c8] at H
      exact absurd H (by simp)
  case rest =>
   clear HC5
   try clear c4
   try clear c4b0
   try clear c4b1
   obtain ⟨kq, x35_4, rfl, HA, HJ4, HB⟩ := hcut
   cases kq with
   | zero => exact absurd HA.out (by simp [footbridgeref03_Number.j0])
   | succ kj4 =>
    have H := HA.out
    clear HA
    simp only [footbridgeref03_Number.j0] at H
    by_cases c10 : x35_4 = true
    ·subst c10
     have H1 : (some (0, 7)) = some (r1, r2) := by rw [if_pos rfl] at H; exact H
     clear H
     have H := H1
     clear H1
     simp only [Option.some.injEq, Prod.mk.injEq] at H
     obtain ⟨rfl, rfl⟩ := H
     go_wp2
     go_ret2
     exact ⟨ap14_, ap28_⟩
    ·replace c10 := Bool.eq_false_iff.mpr c10
     subst c10
     have H1 : (footbridgeref03_Number.l0 kj4 a0 a1 0 (t187.size : Int)) = some (r1, r2) := by rw [if_neg (show ¬ (false = true) by decide)] at H; exact H
     clear H
     have H := H1
     clear H1
     have H' := As_ H
     clear H
     go_wp2
     go_loopg [7, 8] kj4 (fun kq v7 v8 w' => ∃ (x7_2 : Int) (x8_2 : Int), v7 = .int .i64 x7_2 ∧ v8 = .int .i64 x8_2 ∧ Aside0 (footbridgeref03_Number.l0 kq a0 a1 x7_2 x8_2 = some (r1, r2)) ∧ Aside0 (kq ≤ kj4) ∧ Aside0 (Below w.heap.size w w'))
     case atStart => exact ⟨(0), ((t187.size : Int)), ap4_, ap4_, H', ⟨Nat.le_refl _⟩, ⟨ap28_⟩⟩
     case round =>
      clear H'
      try clear c4
      try clear c4b0
      try clear c4b1
      try clear c10
      obtain ⟨x7_2, x8_2, rfl, rfl, HA, HK2, HB⟩ := hrel
      cases gk with
      | zero => exact absurd HA.out (by simp [footbridgeref03_Number.l0])
      | succ k2 =>
       have H := HA.out
       clear HA
       simp only [footbridgeref03_Number.l0] at H
       by_cases c11 : x8_2 < (a1.size : Int)
       ·rw [if_pos c11] at H
        have c11b0 : decide (x8_2 < (a1.size : Int)) = true := decide_eq_true c11
        clear c11
        by_cases c12 : 0 ≤ x8_2
        ·rw [if_pos c12] at H
         have c12b0 : decide (0 ≤ x8_2) = true := decide_eq_true c12
         clear c12
         by_cases c14 : (bt a1 x8_2) < 48
         ·rw [if_pos c14] at H
          have c14b0 : decide ((bt a1 x8_2) < 48) = true := decide_eq_true c14
          clear c14
          simp only [Option.some.injEq, Prod.mk.injEq] at H
          obtain ⟨rfl, rfl⟩ := H
          have p13 : 0 ≤ (x8_2 : Int) := of_decide_eq_true ap5_
          have q13 : x8_2 < (a1.size : Int) := of_decide_eq_true ap5_
          have hx13 := bt_at a1 x8_2
          replace p13 := eq_true p13
          replace q13 := eq_true q13
          go_wp2
          go_ret2
          exact ⟨ap14_, ap28_⟩
         ·rw [if_neg c14] at H
          have c14b0 : decide ((bt a1 x8_2) < 48) = false := decide_eq_false c14
          clear c14
          by_cases c16 : (bt a1 x8_2) > 57
          ·rw [if_pos c16] at H
           have c16b0 : decide (57 < (bt a1 x8_2)) = true := decide_eq_true c16
           clear c16
           simp only [Option.some.injEq, Prod.mk.injEq] at H
           obtain ⟨rfl, rfl⟩ := H
           have p13 : 0 ≤ (x8_2 : Int) := of_decide_eq_true ap5_
           have q13 : x8_2 < (a1.size : Int) := of_decide_eq_true ap5_
           have hx13 := bt_at a1 x8_2
           replace p13 := eq_true p13
           replace q13 := eq_true q13
           have p15 : 0 ≤ (x8_2 : Int) := of_decide_eq_true ap5_
           have q15 : x8_2 < (a1.size : Int) := of_decide_eq_true ap5_
           have hx15 := bt_at a1 x8_2
           replace p15 := eq_true p15
           replace q15 := eq_true q15
           go_wp2
           go_ret2
           exact ⟨ap14_, ap28_⟩
          ·rw [if_neg c16] at H
           have c16b0 : decide (57 < (bt a1 x8_2)) = false := decide_eq_false c16
           clear c16
           have H' := As_ H
           clear H
           have p13 : 0 ≤ (x8_2 : Int) := of_decide_eq_true ap5_
           have q13 : x8_2 < (a1.size : Int) := of_decide_eq_true ap5_
           have hx13 := bt_at a1 x8_2
           replace p13 := eq_true p13
           replace q13 := eq_true q13
           have p15 : 0 ≤ (x8_2 : Int) := of_decide_eq_true ap5_
           have q15 : x8_2 < (a1.size : Int) := of_decide_eq_true ap5_
           have hx15 := bt_at a1 x8_2
           replace p15 := eq_true p15
           replace q15 := eq_true q15
           have p17 : 0 ≤ (x8_2 : Int) := of_decide_eq_true ap5_
           have q17 : x8_2 < (a1.size : Int) := of_decide_eq_true ap5_
           have hx17 := bt_at a1 x8_2
           replace p17 := eq_true p17
           replace q17 := eq_true q17
           go_wp2
           go_roundg k2
           case measure => have := HJ4.out; have := HK2.out; omega
           case rel => exact ⟨(wrap64 ((wrap64 (x7_2 * 10)) + (((bt a1 x8_2) - 48) % 256))), (wrap64 (x8_2 + 1)), ap4_, ap4_, H', ⟨by have := HJ4.out; have := HK2.out; omega⟩, ⟨ap28_⟩⟩
        ·rw [if_neg c12] at H
         exact absurd H (by simp)
       ·rw [if_neg c11] at H
        have c11b0 : decide (x8_2 < (a1.size : Int)) = false := decide_eq_false c11
        clear c11
        replace H := Option.bind_eq_some_iff.mp H
        obtain ⟨⟨t188, t189⟩, A180, H⟩ := H
        try dsimp only at H
        have A18 := As_ A180
        clear A180
        by_cases c19 : t189 = 0
        ·rw [if_pos c19] at H
         have c19b0 : (t189 == 0) = true := beq_iff_eq.mpr c19
         have c19b1 : (t189 != 0) = false := bne_eq_false_iff_eq.mpr c19
         clear c19
         by_cases c20 : t188.toList = a1.toList
         ·rw [if_pos c20] at H
          have c20b0 : (t188.toList == a1.toList) = true := beq_iff_eq.mpr c20
          have c20b1 : (t188.toList != a1.toList) = false := bne_eq_false_iff_eq.mpr c20
          clear c20
          simp only [Option.some.injEq, Prod.mk.injEq] at H
          obtain ⟨rfl, rfl⟩ := H
          go_wp2_with (first | ((with_reducible refine gate_callee (f := 67) rfl ?_); refine gk_ (some 65) Tryz.func67 #[.int .i64 a0, .int .i64 x7_2] ?_; (with_reducible refine (footbridgeref03_Make.calls k2 a0 x7_2 t188 t189 _ A18.out).mono ?_); rintro e w21 ⟨rfl, hb⟩; refine ⟨_, rfl, ?_⟩; replace HB := As_ (below_step ap28_ hb); (try clear hb); (try clear hb2); (try clear hk); (try clear hi)))
          go_ret2
          exact ⟨ap14_, ap28_⟩
         ·rw [if_neg c20] at H
          have c20b0 : (t188.toList == a1.toList) = false := beq_eq_false_iff_ne.mpr c20
          have c20b1 : (t188.toList != a1.toList) = true := bne_iff_ne.mpr c20
          simp only [Option.some.injEq, Prod.mk.injEq] at H
          obtain ⟨rfl, rfl⟩ := H
          go_wp2_with (first | ((with_reducible refine gate_callee (f := 67) rfl ?_); refine gk_ (some 65) Tryz.func67 #[.int .i64 a0, .int .i64 x7_2] ?_; (with_reducible refine (footbridgeref03_Make.calls k2 a0 x7_2 t188 t189 _ A18.out).mono ?_); rintro e w22 ⟨rfl, hb⟩; refine ⟨_, rfl, ?_⟩; replace HB := As_ (below_step ap28_ hb); (try clear hb); (try clear hb2); (try clear hk); (try clear hi)))
          go_ret2
          exact ⟨ap14_, ap28_⟩
        ·rw [if_neg c19] at H
         have c19b0 : (t189 == 0) = false := beq_eq_false_iff_ne.mpr c19
         have c19b1 : (t189 != 0) = true := bne_iff_ne.mpr c19
         simp only [Option.some.injEq, Prod.mk.injEq] at H
         obtain ⟨rfl, rfl⟩ := H
         go_wp2_with (first | ((with_reducible refine gate_callee (f := 67) rfl ?_); refine gk_ (some 65) Tryz.func67 #[.int .i64 a0, .int .i64 x7_2] ?_; (with_reducible refine (footbridgeref03_Make.calls k2 a0 x7_2 t188 t189 _ A18.out).mono ?_); rintro e w23 ⟨rfl, hb⟩; refine ⟨_, rfl, ?_⟩; replace HB := As_ (below_step ap28_ hb); (try clear hb); (try clear hb2); (try clear hk); (try clear hi)))
         go_ret2
         exact ⟨ap14_, ap28_⟩
def footbridgeref03_letter.f (a0 : Int) : Option (Bool) := if a0 ≥ 97 then (if a0 ≤ 122 then (some true) else (if a0 ≥ 65 then (if a0 ≤ 90 then (some true) else (if a0 ≥ 48 then (if a0 ≤ 57 then (some true) else (if a0 = 46 then (some true) else (if a0 = 95 then (some true) else (some (a0 == 45))))) else (if a0 = 46 then (some true) else (if a0 = 95 then (some true) else (some (a0 == 45)))))) else (if a0 ≥ 48 then (if a0 ≤ 57 then (some true) else (if a0 = 46 then (some true) else (if a0 = 95 then (some true) else (some (a0 == 45))))) else (if a0 = 46 then (some true) else (if a0 = 95 then (some true) else (some (a0 == 45))))))) else (if a0 ≥ 65 then (if a0 ≤ 90 then (some true) else (if a0 ≥ 48 then (if a0 ≤ 57 then (some true) else (if a0 = 46 then (some true) else (if a0 = 95 then (some true) else (some (a0 == 45))))) else (if a0 = 46 then (some true) else (if a0 = 95 then (some true) else (some (a0 == 45)))))) else (if a0 ≥ 48 then (if a0 ≤ 57 then (some true) else (if a0 = 46 then (some true) else (if a0 = 95 then (some true) else (some (a0 == 45))))) else (if a0 = 46 then (some true) else (if a0 = 95 then (some true) else (some (a0 == 45))))))
theorem footbridgeref03_letter.calls (a0 : Int) (r : Bool) (w : World) (h : footbridgeref03_letter.f a0 = some r) :
  Calls Tryz.prog 68 #[.int .u8 a0] w fun e w' => e = .returned (.bool r) ∧ Drawn0 w w' := by
 have H : (if a0 ≥ 97 then (if a0 ≤ 122 then (some true) else (if a0 ≥ 65 then (if a0 ≤ 90 then (some true) else (if a0 ≥ 48 then (if a0 ≤ 57 then (some true) else (if a0 = 46 then (some true) else (if a0 = 95 then (some true) else (some (a0 == 45))))) else (if a0 = 46 then (some true) else (if a0 = 95 then (some true) else (some (a0 == 45)))))) else (if a0 ≥ 48 then (if a0 ≤ 57 then (some true) else (if a0 = 46 then (some true) else (if a0 = 95 then (some true) else (some (a0 == 45))))) else (if a0 = 46 then (some true) else (if a0 = 95 then (some true) else (some (a0 == 45))))))) else (if a0 ≥ 65 then (if a0 ≤ 90 then (some true) else (if a0 ≥ 48 then (if a0 ≤ 57 then (some true) else (if a0 = 46 then (some true) else (if a0 = 95 then (some true) else (some (a0 == 45))))) else (if a0 = 46 then (some true) else (if a0 = 95 then (some true) else (some (a0 == 45)))))) else (if a0 ≥ 48 then (if a0 ≤ 57 then (some true) else (if a0 = 46 then (some true) else (if a0 = 95 then (some true) else (some (a0 == 45))))) else (if a0 = 46 then (some true) else (if a0 = 95 then (some true) else (some (a0 == 45))))))) = some r := h
 clear h
 by_cases c2 : a0 ≥ 97
 ·rw [if_pos c2] at H
  have c2b0 : decide (97 ≤ a0) = true := decide_eq_true c2
  clear c2
  by_cases c3 : a0 ≤ 122
  ·rw [if_pos c3] at H
   have c3b0 : decide (a0 ≤ 122) = true := decide_eq_true c3
   clear c3
   obtain rfl := Option.some.inj H
   go_enter Tryz.func68, Tryz.ntmps68
   go_wp2
   go_ret
   exact ⟨ap4_, ap7_⟩
  ·rw [if_neg c3] at H
   have c3b0 : decide (a0 ≤ 122) = false := decide_eq_false c3
   clear c3
   by_cases c4 : a0 ≥ 65
   ·rw [if_pos c4] at H
    have c4b0 : decide (65 ≤ a0) = true := decide_eq_true c4
    clear c4
    by_cases c5 : a0 ≤ 90
    ·rw [if_pos c5] at H
     have c5b0 : decide (a0 ≤ 90) = true := decide_eq_true c5
     clear c5
     obtain rfl := Option.some.inj H
     go_enter Tryz.func68, Tryz.ntmps68
     go_wp2
     go_ret
     exact ⟨ap4_, ap7_⟩
    ·rw [if_neg c5] at H
     have c5b0 : decide (a0 ≤ 90) = false := decide_eq_false c5
     clear c5
     by_cases c6 : a0 ≥ 48
     ·rw [if_pos c6] at H
      have c6b0 : decide (48 ≤ a0) = true := decide_eq_true c6
      clear c6
      by_cases c7 : a0 ≤ 57
      ·rw [if_pos c7] at H
       have c7b0 : decide (a0 ≤ 57) = true := decide_eq_true c7
       clear c7
       obtain rfl := Option.some.inj H
       go_enter Tryz.func68, Tryz.ntmps68
       go_wp2
       go_ret
       exact ⟨ap4_, ap7_⟩
      ·rw [if_neg c7] at H
       have c7b0 : decide (a0 ≤ 57) = false := decide_eq_false c7
       clear c7
       by_cases c8 : a0 = 46
       ·rw [if_pos c8] at H
        have c8b0 : (a0 == 46) = true := beq_iff_eq.mpr c8
        have c8b1 : (a0 != 46) = false := bne_eq_false_iff_eq.mpr c8
        clear c8
        obtain rfl := Option.some.inj H
        go_enter Tryz.func68, Tryz.ntmps68
        go_wp2
        go_ret
        exact ⟨ap4_, ap7_⟩
       ·rw [if_neg c8] at H
        have c8b0 : (a0 == 46) = false := beq_eq_false_iff_ne.mpr c8
        have c8b1 : (a0 != 46) = true := bne_iff_ne.mpr c8
        by_cases c9 : a0 = 95
        ·rw [if_pos c9] at H
         have c9b0 : (a0 == 95) = true := beq_iff_eq.mpr c9
         have c9b1 : (a0 != 95) = false := bne_eq_false_iff_eq.mpr c9
         clear c9
         obtain rfl := Option.some.inj H
         go_enter Tryz.func68, Tryz.ntmps68
         go_wp2
         go_ret
         exact ⟨ap4_, ap7_⟩
        ·rw [if_neg c9] at H
         have c9b0 : (a0 == 95) = false := beq_eq_false_iff_ne.mpr c9
         have c9b1 : (a0 != 95) = true := bne_iff_ne.mpr c9
         obtain rfl := Option.some.inj H
         go_enter Tryz.func68, Tryz.ntmps68
         go_wp2
         go_ret
         exact ⟨ap4_, ap7_⟩
     ·rw [if_neg c6] at H
      have c6b0 : decide (48 ≤ a0) = false := decide_eq_false c6
      clear c6
      by_cases c10 : a0 = 46
      ·rw [if_pos c10] at H
       have c10b0 : (a0 == 46) = true := beq_iff_eq.mpr c10
       have c10b1 : (a0 != 46) = false := bne_eq_false_iff_eq.mpr c10
       clear c10
       obtain rfl := Option.some.inj H
       go_enter Tryz.func68, Tryz.ntmps68
       go_wp2
       go_ret
       exact ⟨ap4_, ap7_⟩
      ·rw [if_neg c10] at H
       have c10b0 : (a0 == 46) = false := beq_eq_false_iff_ne.mpr c10
       have c10b1 : (a0 != 46) = true := bne_iff_ne.mpr c10
       by_cases c11 : a0 = 95
       ·rw [if_pos c11] at H
        have c11b0 : (a0 == 95) = true := beq_iff_eq.mpr c11
        have c11b1 : (a0 != 95) = false := bne_eq_false_iff_eq.mpr c11
        clear c11
        obtain rfl := Option.some.inj H
        go_enter Tryz.func68, Tryz.ntmps68
        go_wp2
        go_ret
        exact ⟨ap4_, ap7_⟩
       ·rw [if_neg c11] at H
        have c11b0 : (a0 == 95) = false := beq_eq_false_iff_ne.mpr c11
        have c11b1 : (a0 != 95) = true := bne_iff_ne.mpr c11
        obtain rfl := Option.some.inj H
        go_enter Tryz.func68, Tryz.ntmps68
        go_wp2
        go_ret
        exact ⟨ap4_, ap7_⟩
   ·rw [if_neg c4] at H
    have c4b0 : decide (65 ≤ a0) = false := decide_eq_false c4
    clear c4
    by_cases c12 : a0 ≥ 48
    ·rw [if_pos c12] at H
     have c12b0 : decide (48 ≤ a0) = true := decide_eq_true c12
     clear c12
     by_cases c13 : a0 ≤ 57
     ·rw [if_pos c13] at H
      have c13b0 : decide (a0 ≤ 57) = true := decide_eq_true c13
      clear c13
      obtain rfl := Option.some.inj H
      go_enter Tryz.func68, Tryz.ntmps68
      go_wp2
      go_ret
      exact ⟨ap4_, ap7_⟩
     ·rw [if_neg c13] at H
      have c13b0 : decide (a0 ≤ 57) = false := decide_eq_false c13
      clear c13
      by_cases c14 : a0 = 46
      ·rw [if_pos c14] at H
       have c14b0 : (a0 == 46) = true := beq_iff_eq.mpr c14
       have c14b1 : (a0 != 46) = false := bne_eq_false_iff_eq.mpr c14
       clear c14
       obtain rfl := Option.some.inj H
       go_enter Tryz.func68, Tryz.ntmps68
       go_wp2
       go_ret
       exact ⟨ap4_, ap7_⟩
      ·rw [if_neg c14] at H
       have c14b0 : (a0 == 46) = false := beq_eq_false_iff_ne.mpr c14
       have c14b1 : (a0 != 46) = true := bne_iff_ne.mpr c14
       by_cases c15 : a0 = 95
       ·rw [if_pos c15] at H
        have c15b0 : (a0 == 95) = true := beq_iff_eq.mpr c15
        have c15b1 : (a0 != 95) = false := bne_eq_false_iff_eq.mpr c15
        clear c15
        obtain rfl := Option.some.inj H
        go_enter Tryz.func68, Tryz.ntmps68
        go_wp2
        go_ret
        exact ⟨ap4_, ap7_⟩
       ·rw [if_neg c15] at H
        have c15b0 : (a0 == 95) = false := beq_eq_false_iff_ne.mpr c15
        have c15b1 : (a0 != 95) = true := bne_iff_ne.mpr c15
        obtain rfl := Option.some.inj H
        go_enter Tryz.func68, Tryz.ntmps68
        go_wp2
        go_ret
        exact ⟨ap4_, ap7_⟩
    ·rw [if_neg c12] at H
     have c12b0 : decide (48 ≤ a0) = false := decide_eq_false c12
     clear c12
     by_cases c16 : a0 = 46
     ·rw [if_pos c16] at H
      have c16b0 : (a0 == 46) = true := beq_iff_eq.mpr c16
      have c16b1 : (a0 != 46) = false := bne_eq_false_iff_eq.mpr c16
      clear c16
      obtain rfl := Option.some.inj H
      go_enter Tryz.func68, Tryz.ntmps68
      go_wp2
      go_ret
      exact ⟨ap4_, ap7_⟩
     ·rw [if_neg c16] at H
      have c16b0 : (a0 == 46) = false := beq_eq_false_iff_ne.mpr c16
      have c16b1 : (a0 != 46) = true := bne_iff_ne.mpr c16
      by_cases c17 : a0 = 95
      ·rw [if_pos c17] at H
       have c17b0 : (a0 == 95) = true := beq_iff_eq.mpr c17
       have c17b1 : (a0 != 95) = false := bne_eq_false_iff_eq.mpr c17
       clear c17
       obtain rfl := Option.some.inj H
       go_enter Tryz.func68, Tryz.ntmps68
       go_wp2
       go_ret
       exact ⟨ap4_, ap7_⟩
      ·rw [if_neg c17] at H
       have c17b0 : (a0 == 95) = false := beq_eq_false_iff_ne.mpr c17
       have c17b1 : (a0 != 95) = true := bne_iff_ne.mpr c17
       obtain rfl := Option.some.inj H
       go_enter Tryz.func68, Tryz.ntmps68
       go_wp2
       go_ret
       exact ⟨ap4_, ap7_⟩
 ·rw [if_neg c2] at H
  have c2b0 : decide (97 ≤ a0) = false := decide_eq_false c2
  clear c2
  by_cases c18 : a0 ≥ 65
  ·rw [if_pos c18] at H
   have c18b0 : decide (65 ≤ a0) = true := decide_eq_true c18
   clear c18
   by_cases c19 : a0 ≤ 90
   ·rw [if_pos c19] at H
    have c19b0 : decide (a0 ≤ 90) = true := decide_eq_true c19
    clear c19
    obtain rfl := Option.some.inj H
    go_enter Tryz.func68, Tryz.ntmps68
    go_wp2
    go_ret
    exact ⟨ap4_, ap7_⟩
   ·rw [if_neg c19] at H
    have c19b0 : decide (a0 ≤ 90) = false := decide_eq_false c19
    clear c19
    by_cases c20 : a0 ≥ 48
    ·rw [if_pos c20] at H
     have c20b0 : decide (48 ≤ a0) = true := decide_eq_true c20
     clear c20
     by_cases c21 : a0 ≤ 57
     ·rw [if_pos c21] at H
      have c21b0 : decide (a0 ≤ 57) = true := decide_eq_true c21
      clear c21
      obtain rfl := Option.some.inj H
      go_enter Tryz.func68, Tryz.ntmps68
      go_wp2
      go_ret
      exact ⟨ap4_, ap7_⟩
     ·rw [if_neg c21] at H
      have c21b0 : decide (a0 ≤ 57) = false := decide_eq_false c21
      clear c21
      by_cases c22 : a0 = 46
      ·rw [if_pos c22] at H
       have c22b0 : (a0 == 46) = true := beq_iff_eq.mpr c22
       have c22b1 : (a0 != 46) = false := bne_eq_false_iff_eq.mpr c22
       clear c22
       obtain rfl := Option.some.inj H
       go_enter Tryz.func68, Tryz.ntmps68
       go_wp2
       go_ret
       exact ⟨ap4_, ap7_⟩
      ·rw [if_neg c22] at H
       have c22b0 : (a0 == 46) = false := beq_eq_false_iff_ne.mpr c22
       have c22b1 : (a0 != 46) = true := bne_iff_ne.mpr c22
       by_cases c23 : a0 = 95
       ·rw [if_pos c23] at H
        have c23b0 : (a0 == 95) = true := beq_iff_eq.mpr c23
        have c23b1 : (a0 != 95) = false := bne_eq_false_iff_eq.mpr c23
        clear c23
        obtain rfl := Option.some.inj H
        go_enter Tryz.func68, Tryz.ntmps68
        go_wp2
        go_ret
        exact ⟨ap4_, ap7_⟩
       ·rw [if_neg c23] at H
        have c23b0 : (a0 == 95) = false := beq_eq_false_iff_ne.mpr c23
        have c23b1 : (a0 != 95) = true := bne_iff_ne.mpr c23
        obtain rfl := Option.some.inj H
        go_enter Tryz.func68, Tryz.ntmps68
        go_wp2
        go_ret
        exact ⟨ap4_, ap7_⟩
    ·rw [if_neg c20] at H
     have c20b0 : decide (48 ≤ a0) = false := decide_eq_false c20
     clear c20
     by_cases c24 : a0 = 46
     ·rw [if_pos c24] at H
      have c24b0 : (a0 == 46) = true := beq_iff_eq.mpr c24
      have c24b1 : (a0 != 46) = false := bne_eq_false_iff_eq.mpr c24
      clear c24
      obtain rfl := Option.some.inj H
      go_enter Tryz.func68, Tryz.ntmps68
      go_wp2
      go_ret
      exact ⟨ap4_, ap7_⟩
     ·rw [if_neg c24] at H
      have c24b0 : (a0 == 46) = false := beq_eq_false_iff_ne.mpr c24
      have c24b1 : (a0 != 46) = true := bne_iff_ne.mpr c24
      by_cases c25 : a0 = 95
      ·rw [if_pos c25] at H
       have c25b0 : (a0 == 95) = true := beq_iff_eq.mpr c25
       have c25b1 : (a0 != 95) = false := bne_eq_false_iff_eq.mpr c25
       clear c25
       obtain rfl := Option.some.inj H
       go_enter Tryz.func68, Tryz.ntmps68
       go_wp2
       go_ret
       exact ⟨ap4_, ap7_⟩
      ·rw [if_neg c25] at H
       have c25b0 : (a0 == 95) = false := beq_eq_false_iff_ne.mpr c25
       have c25b1 : (a0 != 95) = true := bne_iff_ne.mpr c25
       obtain rfl := Option.some.inj H
       go_enter Tryz.func68, Tryz.ntmps68
       go_wp2
       go_ret
       exact ⟨ap4_, ap7_⟩
  ·rw [if_neg c18] at H
   have c18b0 : decide (65 ≤ a0) = false := decide_eq_false c18
   clear c18
   by_cases c26 : a0 ≥ 48
   ·rw [if_pos c26] at H
    have c26b0 : decide (48 ≤ a0) = true := decide_eq_true c26
    clear c26
    by_cases c27 : a0 ≤ 57
    ·rw [if_pos c27] at H
     have c27b0 : decide (a0 ≤ 57) = true := decide_eq_true c27
     clear c27
     obtain rfl := Option.some.inj H
     go_enter Tryz.func68, Tryz.ntmps68
     go_wp2
     go_ret
     exact ⟨ap4_, ap7_⟩
    ·rw [if_neg c27] at H
     have c27b0 : decide (a0 ≤ 57) = false := decide_eq_false c27
     clear c27
     by_cases c28 : a0 = 46
     ·rw [if_pos c28] at H
      have c28b0 : (a0 == 46) = true := beq_iff_eq.mpr c28
      have c28b1 : (a0 != 46) = false := bne_eq_false_iff_eq.mpr c28
      clear c28
      obtain rfl := Option.some.inj H
      go_enter Tryz.func68, Tryz.ntmps68
      go_wp2
      go_ret
      exact ⟨ap4_, ap7_⟩
     ·rw [if_neg c28] at H
      have c28b0 : (a0 == 46) = false := beq_eq_false_iff_ne.mpr c28
      have c28b1 : (a0 != 46) = true := bne_iff_ne.mpr c28
      by_cases c29 : a0 = 95
      ·rw [if_pos c29] at H
       have c29b0 : (a0 == 95) = true := beq_iff_eq.mpr c29
       have c29b1 : (a0 != 95) = false := bne_eq_false_iff_eq.mpr c29
       clear c29
       obtain rfl := Option.some.inj H
       go_enter Tryz.func68, Tryz.ntmps68
       go_wp2
       go_ret
       exact ⟨ap4_, ap7_⟩
      ·rw [if_neg c29] at H
       have c29b0 : (a0 == 95) = false := beq_eq_false_iff_ne.mpr c29
       have c29b1 : (a0 != 95) = true := bne_iff_ne.mpr c29
       obtain rfl := Option.some.inj H
       go_enter Tryz.func68, Tryz.ntmps68
       go_wp2
       go_ret
       exact ⟨ap4_, ap7_⟩
   ·rw [if_neg c26] at H
    have c26b0 : decide (48 ≤ a0) = false := decide_eq_false c26
    clear c26
    by_cases c30 : a0 = 46
    ·rw [if_pos c30] at H
     have c30b0 : (a0 == 46) = true := beq_iff_eq.mpr c30
     have c30b1 : (a0 != 46) = false := bne_eq_false_iff_eq.mpr c30
     clear c30
     obtain rfl := Option.some.inj H
     go_enter Tryz.func68, Tryz.ntmps68
     go_wp2
     go_ret
     exact ⟨ap4_, ap7_⟩
    ·rw [if_neg c30] at H
     have c30b0 : (a0 == 46) = false := beq_eq_false_iff_ne.mpr c30
     have c30b1 : (a0 != 46) = true := bne_iff_ne.mpr c30
     by_cases c31 : a0 = 95
     ·rw [if_pos c31] at H
      have c31b0 : (a0 == 95) = true := beq_iff_eq.mpr c31
      have c31b1 : (a0 != 95) = false := bne_eq_false_iff_eq.mpr c31
      clear c31
      obtain rfl := Option.some.inj H
      go_enter Tryz.func68, Tryz.ntmps68
      go_wp2
      go_ret
      exact ⟨ap4_, ap7_⟩
     ·rw [if_neg c31] at H
      have c31b0 : (a0 == 95) = false := beq_eq_false_iff_ne.mpr c31
      have c31b1 : (a0 != 95) = true := bne_iff_ne.mpr c31
      obtain rfl := Option.some.inj H
      go_enter Tryz.func68, Tryz.ntmps68
      go_wp2
      go_ret
      exact ⟨ap4_, ap7_⟩
def footbridgeref03_Plain.l0 : Nat → ByteArray → Int → Option (Bool)
 | 0, _, _ => none
 | k + 1, x0, x3 => if x3 < (x0.size : Int) then (if 0 ≤ x3 then ((footbridgeref03_letter.f (bt x0 x3)).bind fun t190 => (if t190 = true then (footbridgeref03_Plain.l0 k x0 (wrap64 (x3 + 1))) else (some false))) else (none)) else (if (x0.size : Int) ≥ 1 then (some (decide ((x0.size : Int) ≤ 64))) else (some false))
def footbridgeref03_Plain.f (k : Nat) (a0 : ByteArray) : Option (Bool) := footbridgeref03_Plain.l0 k a0 0
theorem footbridgeref03_Plain.mono_l : ∀ k, (∀ y0 y1, LeO (footbridgeref03_Plain.l0 k y0 y1) (footbridgeref03_Plain.l0 (k + 1) y0 y1))
 | 0 => fun _ _ r h => by simp [footbridgeref03_Plain.l0] at h
 | k + 1 => by
  have ih0 := footbridgeref03_Plain.mono_l k
  ·intro y0 y1
   unfold footbridgeref03_Plain.l0
   repeat' first
   | (with_reducible exact ih0 _ _)
   | (with_reducible exact LeO.refl _)
   | (with_reducible exact LeO.none _)
   | (with_reducible refine LeO.ite ?_ ?_)
   | (with_reducible refine LeO.bind ?_ (fun _ => ?_))
   | exact ih0 _ _
   | exact LeO.none _
   | refine LeO.ite ?_ ?_
   | refine LeO.bind ?_ (fun _ => ?_)
theorem footbridgeref03_Plain.mono : ∀ a0 k, LeO (footbridgeref03_Plain.f k a0) (footbridgeref03_Plain.f (k + 1) a0) := by
 intro a0 k
 have ih0 := footbridgeref03_Plain.mono_l k
 unfold footbridgeref03_Plain.f
 repeat' first
   | (with_reducible exact ih0 _ _)
   | (with_reducible exact LeO.refl _)
   | (with_reducible exact LeO.none _)
   | (with_reducible refine LeO.ite ?_ ?_)
   | (with_reducible refine LeO.bind ?_ (fun _ => ?_))
   | exact ih0 _ _
   | exact LeO.none _
   | refine LeO.ite ?_ ?_
   | refine LeO.bind ?_ (fun _ => ?_)
theorem footbridgeref03_Plain.calls (k : Nat) (a0 : ByteArray) (r : Bool) (w : World) (h : footbridgeref03_Plain.f k a0 = some r) :
  Calls Tryz.prog 50 #[.string a0] w fun e w' => e = .returned (.bool r) ∧ Drawn0 w w' := by
 have H : (footbridgeref03_Plain.l0 k a0 0) = some r := h
 clear h
 have H' := As_ H
 clear H
 go_enter Tryz.func50, Tryz.ntmps50
 go_wp2
 go_loopg [3] k (fun kq v3 w' => ∃ (x3_1 : Int), v3 = .int .i64 x3_1 ∧ Aside0 (footbridgeref03_Plain.l0 kq a0 x3_1 = some r) ∧ Aside0 (kq ≤ k) ∧ Drawn0 w w')
 case atStart => exact ⟨(0), ap4_, H', ⟨Nat.le_refl _⟩, ap7_⟩
 case round =>
  clear H'
  obtain ⟨x3_1, rfl, HA, HK1, ⟨m1, rfl⟩⟩ := hrel
  cases gk with
  | zero => exact absurd HA.out (by simp [footbridgeref03_Plain.l0])
  | succ k1 =>
   have H := HA.out
   clear HA
   simp only [footbridgeref03_Plain.l0] at H
   by_cases c2 : x3_1 < (a0.size : Int)
   ·rw [if_pos c2] at H
    have c2b0 : decide (x3_1 < (a0.size : Int)) = true := decide_eq_true c2
    clear c2
    by_cases c3 : 0 ≤ x3_1
    ·rw [if_pos c3] at H
     have c3b0 : decide (0 ≤ x3_1) = true := decide_eq_true c3
     clear c3
     replace H := Option.bind_eq_some_iff.mp H
     obtain ⟨t190, A50, H⟩ := H
     try dsimp only at H
     have A5 := As_ A50
     clear A50
     by_cases c6 : t190 = true
     ·subst c6
      have H1 : (footbridgeref03_Plain.l0 k1 a0 (wrap64 (x3_1 + 1))) = some r := by rw [if_pos rfl] at H; exact H
      clear H
      have H := H1
      clear H1
      have H' := As_ H
      clear H
      have p4 : 0 ≤ (x3_1 : Int) := of_decide_eq_true ap5_
      have q4 : x3_1 < (a0.size : Int) := of_decide_eq_true ap5_
      have hx4 := bt_at a0 x3_1
      replace p4 := eq_true p4
      replace q4 := eq_true q4
      go_wp2_with (first | ((with_reducible refine gate_callee (f := 68) rfl ?_); refine gk_ (some 13) Tryz.func68 #[.int .u8 (bt a0 x3_1)] ?_; (with_reducible refine (footbridgeref03_letter.calls (bt a0 x3_1) true _ A5.out).mono ?_); rintro e w' ⟨rfl, ⟨nd, rfl⟩⟩; refine ⟨_, rfl, ?_⟩))
      go_roundg k1
      case measure => have := HK1.out; omega
      case rel => exact ⟨(wrap64 (x3_1 + 1)), ap4_, H', ⟨by have := HK1.out; omega⟩, ap7_⟩
     ·replace c6 := Bool.eq_false_iff.mpr c6
      subst c6
      have H1 : (some false) = some r := by rw [if_neg (show ¬ (false = true) by decide)] at H; exact H
      clear H
      have H := H1
      clear H1
      obtain rfl := Option.some.inj H
      have p4 : 0 ≤ (x3_1 : Int) := of_decide_eq_true ap5_
      have q4 : x3_1 < (a0.size : Int) := of_decide_eq_true ap5_
      have hx4 := bt_at a0 x3_1
      replace p4 := eq_true p4
      replace q4 := eq_true q4
      go_wp2_with (first | ((with_reducible refine gate_callee (f := 68) rfl ?_); refine gk_ (some 13) Tryz.func68 #[.int .u8 (bt a0 x3_1)] ?_; (with_reducible refine (footbridgeref03_letter.calls (bt a0 x3_1) false _ A5.out).mono ?_); rintro e w' ⟨rfl, ⟨nd, rfl⟩⟩; refine ⟨_, rfl, ?_⟩))
      go_ret
      exact ⟨ap4_, ap7_⟩
    ·rw [if_neg c3] at H
     exact absurd H (by simp)
   ·rw [if_neg c2] at H
    have c2b0 : decide (x3_1 < (a0.size : Int)) = false := decide_eq_false c2
    clear c2
    by_cases c7 : (a0.size : Int) ≥ 1
    ·rw [if_pos c7] at H
     have c7b0 : decide (1 ≤ (a0.size : Int)) = true := decide_eq_true c7
     have c7b1 : decide (1 ≤ a0.size) = true := decide_eq_true (by omega)
     clear c7
     obtain rfl := Option.some.inj H
     go_wp2
     go_ret
     exact ⟨ap4_, ap7_⟩
    ·rw [if_neg c7] at H
     have c7b0 : decide (1 ≤ (a0.size : Int)) = false := decide_eq_false c7
     have c7b1 : decide (1 ≤ a0.size) = false := decide_eq_false (by omega)
     clear c7
     obtain rfl := Option.some.inj H
     go_wp2
     go_ret
     exact ⟨ap4_, ap7_⟩
def footbridgeref03_Check.j0 : Nat → Int → ByteArray → Bool → Option (Int)
 | 0, _, _, _ => none
 | k + 1, x0, x1, x12 => if x12 = true then (some 1) else ((footbridgeref03_word.f x0).bind fun t191 => (if t191.toList = ([] : List UInt8) then ((footbridgeref03_Plain.f k x1).bind fun t192 => (if t192 = true then (some 0) else (some 7))) else ((footbridgeref03_Number.f k x0 x1).bind fun bt193 => (some bt193.2))))
def footbridgeref03_Check.f (k : Nat) (a0 : Int) (a1 : ByteArray) : Option (Int) := if a0 < 0 then (footbridgeref03_Check.j0 k a0 a1 true) else (footbridgeref03_Check.j0 k a0 a1 (decide (a0 > 6)))
theorem footbridgeref03_Check.mono_l : ∀ k, (∀ y0 y1 y2, LeO (footbridgeref03_Check.j0 k y0 y1 y2) (footbridgeref03_Check.j0 (k + 1) y0 y1 y2))
 | 0 => fun _ _ _ r h => by simp [footbridgeref03_Check.j0] at h
 | k + 1 => by
  have ih0 := footbridgeref03_Check.mono_l k
  ·intro y0 y1 y2
   unfold footbridgeref03_Check.j0
   repeat' first
   | (with_reducible exact ih0 _ _ _)
   | (with_reducible exact footbridgeref03_Number.mono _ _ _)
   | (with_reducible exact footbridgeref03_Plain.mono _ _)
   | (with_reducible exact LeO.refl _)
   | (with_reducible exact LeO.none _)
   | (with_reducible refine LeO.ite ?_ ?_)
   | (with_reducible refine LeO.bind ?_ (fun _ => ?_))
   | exact ih0 _ _ _
   | exact footbridgeref03_Number.mono _ _ _
   | exact footbridgeref03_Plain.mono _ _
   | exact LeO.none _
   | refine LeO.ite ?_ ?_
   | refine LeO.bind ?_ (fun _ => ?_)
theorem footbridgeref03_Check.mono : ∀ a0 a1 k, LeO (footbridgeref03_Check.f k a0 a1) (footbridgeref03_Check.f (k + 1) a0 a1) := by
 intro a0 a1 k
 have ih0 := footbridgeref03_Check.mono_l k
 unfold footbridgeref03_Check.f
 repeat' first
   | (with_reducible exact ih0 _ _ _)
   | (with_reducible exact footbridgeref03_Number.mono _ _ _)
   | (with_reducible exact footbridgeref03_Plain.mono _ _)
   | (with_reducible exact LeO.refl _)
   | (with_reducible exact LeO.none _)
   | (with_reducible refine LeO.ite ?_ ?_)
   | (with_reducible refine LeO.bind ?_ (fun _ => ?_))
   | exact ih0 _ _ _
   | exact footbridgeref03_Number.mono _ _ _
   | exact footbridgeref03_Plain.mono _ _
   | exact LeO.none _
   | refine LeO.ite ?_ ?_
   | refine LeO.bind ?_ (fun _ => ?_)
theorem footbridgeref03_Check.calls (k : Nat) (a0 : Int) (a1 : ByteArray) (r : Int) (w : World) (h : footbridgeref03_Check.f k a0 a1 = some r) :
  Calls Tryz.prog 27 #[.int .i64 a0, .string a1] w fun e w' => e = .returned (.int .i64 r) ∧ Below w.heap.size w w' := by
 have HB := As_ (Below.refl w.heap.size w)
 have H : (if a0 < 0 then (footbridgeref03_Check.j0 k a0 a1 true) else (footbridgeref03_Check.j0 k a0 a1 (decide (a0 > 6)))) = some r := h
 clear h
 have HC3 := As_ H
 clear H
 go_enter Tryz.func27, Tryz.ntmps27
 go_upto_region 1 with (fail)
 go_cut [12] (fun v12 wc => ∃ (kq : Nat) (x12_2 : Bool), v12 = .bool x12_2 ∧ Aside0 (footbridgeref03_Check.j0 kq a0 a1 x12_2 = some r) ∧ Aside0 (kq ≤ k) ∧ Aside0 (Below w.heap.size w wc))
 case first =>
  have H := HC3.out
  clear HC3
  by_cases c4 : a0 < 0
  ·rw [if_pos c4] at H
   have c4b0 : decide (a0 < 0) = true := decide_eq_true c4
   clear c4
   (first | rw [c4b0] | (simp only [i64_w, i32_w]; rw [c4b0]) | skip)
   have H' := As_ H
   clear H
   go_wp2
   go_meet
   case rel => exact ⟨_, (true), ap4_, H', ⟨ap1_⟩, ⟨ap28_⟩⟩
  ·rw [if_neg c4] at H
   have c4b0 : decide (a0 < 0) = false := decide_eq_false c4
   clear c4
   (first | rw [c4b0] | (simp only [i64_w, i32_w]; rw [c4b0]) | skip)
   have H' := As_ H
   clear H
   go_wp2
   go_meet
   case rel => exact ⟨_, (decide (a0 > 6)), ap4_, H', ⟨ap1_⟩, ⟨ap28_⟩⟩
 case rest =>
  clear HC3
  obtain ⟨kq, x12_2, rfl, HA, HJ2, HB⟩ := hcut
  cases kq with
  | zero => exact absurd HA.out (by simp [footbridgeref03_Check.j0])
  | succ kj2 =>
   have H := HA.out
   clear HA
   simp only [footbridgeref03_Check.j0] at H
   by_cases c5 : x12_2 = true
   ·subst c5
    have H1 : (some 1) = some r := by rw [if_pos rfl] at H; exact H
    clear H
    have H := H1
    clear H1
    obtain rfl := Option.some.inj H
    go_wp2
    go_ret
    exact ⟨ap14_, ap28_⟩
   ·replace c5 := Bool.eq_false_iff.mpr c5
    subst c5
    have H1 : ((footbridgeref03_word.f a0).bind fun t191 => (if t191.toList = ([] : List UInt8) then ((footbridgeref03_Plain.f kj2 a1).bind fun t192 => (if t192 = true then (some 0) else (some 7))) else ((footbridgeref03_Number.f kj2 a0 a1).bind fun bt193 => (some bt193.2)))) = some r := by rw [if_neg (show ¬ (false = true) by decide)] at H; exact H
    clear H
    have H := H1
    clear H1
    replace H := Option.bind_eq_some_iff.mp H
    obtain ⟨t191, A60, H⟩ := H
    try dsimp only at H
    have A6 := As_ A60
    clear A60
    by_cases c7 : t191.toList = ([] : List UInt8)
    ·rw [if_pos c7] at H
     have c7b0 : (t191.toList == ([] : List UInt8)) = true := beq_iff_eq.mpr c7
     have c7b1 : (t191.toList != ([] : List UInt8)) = false := bne_eq_false_iff_eq.mpr c7
     clear c7
     replace H := Option.bind_eq_some_iff.mp H
     obtain ⟨t192, A80, H⟩ := H
     try dsimp only at H
     have A8 := As_ A80
     clear A80
     by_cases c9 : t192 = true
     ·subst c9
      have H1 : (some 0) = some r := by rw [if_pos rfl] at H; exact H
      clear H
      have H := H1
      clear H1
      obtain rfl := Option.some.inj H
      go_wp2_with (first | ((with_reducible refine gate_callee (f := 48) rfl ?_); refine gk_ (some 14) Tryz.func48 #[.int .i64 a0] ?_; (with_reducible refine (footbridgeref03_word.calls a0 t191 _ A6.out).mono ?_); rintro e w' ⟨rfl, ⟨nd, rfl⟩⟩; refine ⟨_, rfl, ?_⟩) | ((with_reducible refine gate_callee (f := 50) rfl ?_); refine gk_ (some 24) Tryz.func50 #[.string a1] ?_; (with_reducible refine (footbridgeref03_Plain.calls kj2 a1 true _ A8.out).mono ?_); rintro e w' ⟨rfl, ⟨nd, rfl⟩⟩; refine ⟨_, rfl, ?_⟩))
      go_ret
      exact ⟨ap14_, ap28_⟩
     ·replace c9 := Bool.eq_false_iff.mpr c9
      subst c9
      have H1 : (some 7) = some r := by rw [if_neg (show ¬ (false = true) by decide)] at H; exact H
      clear H
      have H := H1
      clear H1
      obtain rfl := Option.some.inj H
      go_wp2_with (first | ((with_reducible refine gate_callee (f := 48) rfl ?_); refine gk_ (some 14) Tryz.func48 #[.int .i64 a0] ?_; (with_reducible refine (footbridgeref03_word.calls a0 t191 _ A6.out).mono ?_); rintro e w' ⟨rfl, ⟨nd, rfl⟩⟩; refine ⟨_, rfl, ?_⟩) | ((with_reducible refine gate_callee (f := 50) rfl ?_); refine gk_ (some 24) Tryz.func50 #[.string a1] ?_; (with_reducible refine (footbridgeref03_Plain.calls kj2 a1 false _ A8.out).mono ?_); rintro e w' ⟨rfl, ⟨nd, rfl⟩⟩; refine ⟨_, rfl, ?_⟩))
      go_ret
      exact ⟨ap14_, ap28_⟩
    ·rw [if_neg c7] at H
     have c7b0 : (t191.toList == ([] : List UInt8)) = false := beq_eq_false_iff_ne.mpr c7
     have c7b1 : (t191.toList != ([] : List UInt8)) = true := bne_iff_ne.mpr c7
     replace H := Option.bind_eq_some_iff.mp H
     obtain ⟨⟨t193, t194⟩, A100, H⟩ := H
     try dsimp only at H
     have A10 := As_ A100
     clear A100
     obtain rfl := Option.some.inj H
     go_wp2_with (first | ((with_reducible refine gate_callee (f := 48) rfl ?_); refine gk_ (some 14) Tryz.func48 #[.int .i64 a0] ?_; (with_reducible refine (footbridgeref03_word.calls a0 t191 _ A6.out).mono ?_); rintro e w' ⟨rfl, ⟨nd, rfl⟩⟩; refine ⟨_, rfl, ?_⟩) | ((with_reducible refine gate_callee (f := 49) rfl ?_); refine gk_ (some 19) Tryz.func49 #[.int .i64 a0, .string a1] ?_; (with_reducible refine (footbridgeref03_Number.calls kj2 a0 a1 t193 t194 _ A10.out).mono ?_); rintro e w11 ⟨rfl, hb⟩; refine ⟨_, rfl, ?_⟩; replace HB := As_ (below_step ap28_ hb); (try clear hb); (try clear hb2); (try clear hk); (try clear hi)))
     go_ret
     exact ⟨ap14_, ap28_⟩
def footbridgeref09_Del.f (k : Nat) (l0 : List (S55)) (a1 : ByteArray) : Option ((List (S55)) × Bool) := (footbridgeref09_at.f k l0 a1).bind fun t195 => (if t195 = (l0.length : Int) then (some (l0, false)) else (if 0 ≤ t195 then (if t195 < (l0.length : Int) then (if ((rd_T55 l0 t195).f0).toList = a1.toList then (if t195 ≤ (l0.length : Int) then ((some (l0.take (t195 : Int).toNat : List (S55))).bind fun y197 => (if ([] : List (S55)).length + y197.length < 4398046511104 then ((some (([] : List (S55)) ++ y197 : List (S55))).bind fun y202 => (if 0 ≤ (wrap64 (t195 + 1)) then (if (wrap64 (t195 + 1)) ≤ (l0.length : Int) then ((some (l0.drop ((wrap64 (t195 + 1)) : Int).toNat : List (S55))).bind fun y205 => (if y202.length + y205.length < 4398046511104 then (some ((y202 ++ y205), true)) else (none))) else (none)) else (none))) else (none))) else (none)) else (some (l0, false))) else (none)) else (none)))
theorem footbridgeref09_Del.mono : ∀ a0 a1 k, LeO (footbridgeref09_Del.f k a0 a1) (footbridgeref09_Del.f (k + 1) a0 a1) := by
 intro a0 a1 k
 unfold footbridgeref09_Del.f
 repeat' first
   | (with_reducible exact footbridgeref09_at.mono _ _ _)
   | (with_reducible exact LeO.refl _)
   | (with_reducible exact LeO.none _)
   | (with_reducible refine LeO.ite ?_ ?_)
   | (with_reducible refine LeO.bind ?_ (fun _ => ?_))
   | exact footbridgeref09_at.mono _ _ _
   | exact LeO.none _
   | refine LeO.ite ?_ ?_
   | refine LeO.bind ?_ (fun _ => ?_)
theorem footbridgeref09_Del.calls (k : Nat) (P0_ : Nat → Prop) (A0 : Option Addr) (c0 : Nat) (l0 : List (S55)) (a1 : ByteArray) (r1 : List (S55)) (r2 : Bool) (w : World) (hs0 : Kd.V k55 55 w w.heap.size (fun k_ => P0_ k_) (.slice A0 l0.length c0) l0) (h : footbridgeref09_Del.f k l0 a1 = some (r1, r2)) :
  Calls Tryz.prog 28 #[.slice A0 l0.length c0, .string a1] w fun e w' => ∃ v0_ : Value, e = .returned (.tuple #[v0_, .bool r2]) ∧ Kd.V k55 55 w' w.heap.size (fun k_ => (P0_ k_ ∨ w.heap.size ≤ k_)) v0_ r1 ∧ Below w.heap.size w w' := by
 have HO0 := As_ (show Kd.V k55 55 w w.heap.size (fun k_ => (P0_ k_ ∨ w.heap.size ≤ k_)) (.slice A0 l0.length c0) l0 from Kd.V_mono hs0 (fun k_ hk => .inl hk))
 have HB := As_ (Below.refl w.heap.size w)
 have H : ((footbridgeref09_at.f k l0 a1).bind fun t195 => (if t195 = (l0.length : Int) then (some (l0, false)) else (if 0 ≤ t195 then (if t195 < (l0.length : Int) then (if ((rd_T55 l0 t195).f0).toList = a1.toList then (if t195 ≤ (l0.length : Int) then ((some (l0.take (t195 : Int).toNat : List (S55))).bind fun y197 => (if ([] : List (S55)).length + y197.length < 4398046511104 then ((some (([] : List (S55)) ++ y197 : List (S55))).bind fun y202 => (if 0 ≤ (wrap64 (t195 + 1)) then (if (wrap64 (t195 + 1)) ≤ (l0.length : Int) then ((some (l0.drop ((wrap64 (t195 + 1)) : Int).toNat : List (S55))).bind fun y205 => (if y202.length + y205.length < 4398046511104 then (some ((y202 ++ y205), true)) else (none))) else (none)) else (none))) else (none))) else (none)) else (some (l0, false))) else (none)) else (none)))) = some (r1, r2) := h
 clear h
 replace H := Option.bind_eq_some_iff.mp H
 obtain ⟨t195, A30, H⟩ := H
 try dsimp only at H
 have A3 := As_ A30
 clear A30
 by_cases c4 : t195 = (l0.length : Int)
 ·rw [if_pos c4] at H
  have c4b0 : (t195 == (l0.length : Int)) = true := beq_iff_eq.mpr c4
  have c4b1 : (t195 != (l0.length : Int)) = false := bne_eq_false_iff_eq.mpr c4
  clear c4
  simp only [Option.some.injEq, Prod.mk.injEq] at H
  obtain ⟨rfl, rfl⟩ := H
  go_enter Tryz.func28, Tryz.ntmps28
  go_wp2_with (first | ((with_reducible refine gate_callee (f := 51) rfl ?_); refine gk_ (some 10) Tryz.func51 #[.slice A0 l0.length c0, .string a1] ?_; (with_reducible refine (footbridgeref09_at.calls k _ _ l0 a1 t195 _ ?side1 ?side2 A3.out).mono ?_); (case side1 => repeat (first | exact (Kd.V_reads' HO0.out).2.2 | (with_reducible refine Kd.C_alloc ?_ _) | (with_reducible refine Kd.C_drewN ?_ _) | (with_reducible refine Kd.C_drew ?_))); (case side2 => exact (Kd.V_reads' HO0.out).2.1); rintro e w' ⟨rfl, ⟨nd, rfl⟩⟩; refine ⟨_, rfl, ?_⟩))
  go_ret2
  exact ⟨_, ap14_, ap15_, ap28_⟩
 ·rw [if_neg c4] at H
  have c4b0 : (t195 == (l0.length : Int)) = false := beq_eq_false_iff_ne.mpr c4
  have c4b1 : (t195 != (l0.length : Int)) = true := bne_iff_ne.mpr c4
  by_cases c5 : 0 ≤ t195
  ·rw [if_pos c5] at H
   have c5b0 : decide (0 ≤ t195) = true := decide_eq_true c5
   clear c5
   by_cases c6 : t195 < (l0.length : Int)
   ·rw [if_pos c6] at H
    have c6b0 : decide (t195 < (l0.length : Int)) = true := decide_eq_true c6
    clear c6
    by_cases c7 : ((rd_T55 l0 t195).f0).toList = a1.toList
    ·rw [if_pos c7] at H
     have c7b0 : (((rd_T55 l0 t195).f0).toList == a1.toList) = true := beq_iff_eq.mpr c7
     have c7b1 : (((rd_T55 l0 t195).f0).toList != a1.toList) = false := bne_eq_false_iff_eq.mpr c7
     clear c7
     have c8b0 := eq_true (of_decide_eq_true ap5_ : 0 ≤ t195)
     by_cases c9 : t195 ≤ (l0.length : Int)
     ·rw [if_pos c9] at H
      have c9b0 := eq_true c9
      have c9b1 : decide (t195 ≤ (l0.length : Int)) = true := decide_eq_true c9
      clear c9
      obtain ⟨y197, hy197⟩ : ∃ y_ : List (S55), y_ = (l0.take (t195 : Int).toNat) := ⟨_, rfl⟩
      replace H : (if ([] : List (S55)).length + y197.length < 4398046511104 then ((some (([] : List (S55)) ++ y197 : List (S55))).bind fun y202 => (if 0 ≤ (wrap64 (t195 + 1)) then (if (wrap64 (t195 + 1)) ≤ (l0.length : Int) then ((some (l0.drop ((wrap64 (t195 + 1)) : Int).toNat : List (S55))).bind fun y205 => (if y202.length + y205.length < 4398046511104 then (some ((y202 ++ y205), true)) else (none))) else (none)) else (none))) else (none)) = some (r1, r2) := by first | (rw [hy197]; with_reducible exact H) | (have H2_ := (Option.bind_some _ _).symm.trans H; rw [hy197]; with_reducible exact H2_) | (have H2_ := (Option.bind_some _ _).symm.trans H; with_reducible exact H2_) | with_reducible exact H | (rw [hy197]; exact H) | exact H
      have Ny197 := As_ hy197
      clear hy197
      by_cases c10 : ([] : List (S55)).length + y197.length < 4398046511104
      ·rw [if_pos c10] at H
       have LMc10 := As_ c10
       clear c10
       obtain ⟨y202, hy202⟩ : ∃ y_ : List (S55), y_ = (([] : List (S55)) ++ y197) := ⟨_, rfl⟩
       replace H : (if 0 ≤ (wrap64 (t195 + 1)) then (if (wrap64 (t195 + 1)) ≤ (l0.length : Int) then ((some (l0.drop ((wrap64 (t195 + 1)) : Int).toNat : List (S55))).bind fun y205 => (if y202.length + y205.length < 4398046511104 then (some ((y202 ++ y205), true)) else (none))) else (none)) else (none)) = some (r1, r2) := by first | (rw [hy202]; with_reducible exact H) | (have H2_ := (Option.bind_some _ _).symm.trans H; rw [hy202]; with_reducible exact H2_) | (have H2_ := (Option.bind_some _ _).symm.trans H; with_reducible exact H2_) | with_reducible exact H | (rw [hy202]; exact H) | exact H
       have Ny202 := As_ hy202
       clear hy202
       obtain ⟨ji11, hji11⟩ : ∃ j_ : Int, (wrap64 (t195 + 1)) = j_ := ⟨_, rfl⟩
       replace H : (if 0 ≤ (ji11) then (if (ji11) ≤ (l0.length : Int) then ((some (l0.drop ((ji11) : Int).toNat : List (S55))).bind fun y205 => (if y202.length + y205.length < 4398046511104 then (some ((y202 ++ y205), true)) else (none))) else (none)) else (none)) = some (r1, r2) := by first | (rw [hji11] at H; exact H) | (simp only [hji11] at H ⊢; exact H)
       (try rw [hji11] at A3)
       have hji11w : (IntKind.i64.wrap (t195 + 1)) = ji11 := (i64_w _).trans hji11
       by_cases c12 : 0 ≤ (ji11)
       ·rw [if_pos c12] at H
        have c12b0 := eq_true c12
        have c12b1 : decide (0 ≤ (ji11)) = true := decide_eq_true c12
        clear c12
        by_cases c13 : (ji11) ≤ (l0.length : Int)
        ·rw [if_pos c13] at H
         have c13b0 := eq_true c13
         have c13b1 : decide ((ji11) ≤ (l0.length : Int)) = true := decide_eq_true c13
         clear c13
         obtain ⟨y205, hy205⟩ : ∃ y_ : List (S55), y_ = (l0.drop ((ji11) : Int).toNat) := ⟨_, rfl⟩
         replace H : (if y202.length + y205.length < 4398046511104 then (some ((y202 ++ y205), true)) else (none)) = some (r1, r2) := by first | (rw [hy205]; with_reducible exact H) | (have H2_ := (Option.bind_some _ _).symm.trans H; rw [hy205]; with_reducible exact H2_) | (have H2_ := (Option.bind_some _ _).symm.trans H; with_reducible exact H2_) | with_reducible exact H | (rw [hy205]; exact H) | exact H
         have Ny205 := As_ hy205
         clear hy205
         by_cases c14 : y202.length + y205.length < 4398046511104
         ·rw [if_pos c14] at H
          have LMc14 := As_ c14
          clear c14
          obtain ⟨y210, hy210⟩ : ∃ y_ : List (S55), y_ = (y202 ++ y205) := ⟨_, rfl⟩
          replace H : (some (y210, true)) = some (r1, r2) := by first | (rw [hy210]; with_reducible exact H) | (have H2_ := (Option.bind_some _ _).symm.trans H; rw [hy210]; with_reducible exact H2_) | (have H2_ := (Option.bind_some _ _).symm.trans H; with_reducible exact H2_) | with_reducible exact H | (rw [hy210]; exact H) | exact H
          have Ny210 := As_ hy210
          clear hy210
          simp only [Option.some.injEq, Prod.mk.injEq] at H
          obtain ⟨rfl, rfl⟩ := H
          go_enter Tryz.func28, Tryz.ntmps28
          go_wp2_with (first | ((with_reducible refine gate_callee (f := 51) rfl ?_); refine gk_ (some 10) Tryz.func51 #[.slice A0 l0.length c0, .string a1] ?_; (with_reducible refine (footbridgeref09_at.calls k _ _ l0 a1 t195 _ ?side1 ?side2 A3.out).mono ?_); (case side1 => repeat (first | exact (Kd.V_reads' HO0.out).2.2 | (with_reducible refine Kd.C_alloc ?_ _) | (with_reducible refine Kd.C_drewN ?_ _) | (with_reducible refine Kd.C_drew ?_))); (case side2 => exact (Kd.V_reads' HO0.out).2.1); rintro e w' ⟨rfl, ⟨nd, rfl⟩⟩; refine ⟨_, rfl, ?_⟩; have p196 : 0 ≤ (t195 : Int) := of_decide_eq_true ap5_; have q196 : t195 < (l0.length : Int) := of_decide_eq_true ap5_; obtain ⟨ad196, e196, hx196_0, hx196_1⟩ := at_T55 (Kd.V_reads' HO0.out).2.2 t195 p196 q196; cases e196; replace p196 := eq_true p196; replace q196 := eq_true q196; have q15 : (t195 : Int) ≤ ((l0.length : Int) : Int) := of_decide_eq_true ap5_; obtain ⟨i015, hi015, _, hsz15, _⟩ := info_parts info55; have hroom15 : l0.length ≤ c0 := (Kd.V_reads' HO0.out).2.1; have hC15 : Kd.F k55 _ _ (some ad196) l0.length l0 := (Kd.V_at (base := w.heap.size) HO0.out).2.2; have hcut15 := cut_to (P := Tryz.prog) 27 55 .i64 Tryz.underlying27 hi015 (some ad196) l0.length c0 t195 (of_decide_eq_true ap5_) q15 hroom15; have hr15 := Kd.F_take (m := (t195 : Int).toNat) hC15 (by omega); have hy15 : y197.length = (t195 : Int).toNat := (by rw [Ny197.out, List.length_take]; omega); rw [← Ny197.out] at hr15; rw [← hy15] at hcut15; have HO201 := As_ (show Kd.V k55 55 _ w.heap.size _ (.slice (some ad196) y197.length c0) y197 from Kd.V_mk (by omega) hr15); have HC201 := As_ (show y197.length ≤ c0 from by omega); clear hr15 hC15 hroom15 hi015 hsz15; have KY15 := As_ hy15; clear hy15; replace q15 := eq_true q15) | ((with_reducible refine gate_builtin (b := .append) (xs := #[.tmp 25, .tmp 28]) rfl ?_); at_builtin; refine Kd.R_append_rows k55 (w0 := w) w.heap.size rfl (.tmp 25) (.tmp 28) 27 55 (.agg #[(.string ⟨#[]⟩), (.string ⟨#[]⟩)]) 32 rfl Tryz.underlying27 info55 rfl (by decide) (by omega) (.slice none 0 0) ([] : List (S55)) y197 _ _ _ (fun k_ => (w.heap.size ≤ k_)) (fun _ => False) rfl rfl ?aO ?aR (fun _ _ h => h) (fun _ h => h.elim) ?aF ?aB ?aS ?aL ?_; (case aR => repeat (first | exact (Kd.V_reads' HO201.out).2.2 | (with_reducible refine Kd.C_alloc ?_ _) | (with_reducible refine Kd.C_drewN ?_ _) | (with_reducible refine Kd.C_drew ?_))); (case aB => exact ap28_); (case aF => exact (fun k_ hk => (Nat.le_trans (below_size ap28_) hk))); (case aO => exact ((Kd.R_nil _ _ _ _ (fun k_ => (w.heap.size ≤ k_))))); (case aS => exact (below_size ap28_)); (case aL => have := LMc10.out; omega); intro v203 w16 ho hb hg hat; rw [← Ny202.out] at ho; replace HO0 := As_ (Kd.V_afterv (Kd.V_apart_nil ap15_) hg hat); replace HO201 := As_ (Kd.V_afterv (Kd.V_apart_nil ap22_) hg hat); replace HB := As_ (hb); have HO204 := As_ (ho); clear ho hb hg hat; have q17 : ((ji11) : Int) ≤ ((l0.length : Int) : Int) := of_decide_eq_true ap5_; obtain ⟨i017, hi017, _, hsz17, _⟩ := info_parts info55; have hroom17 : l0.length ≤ c0 := (Kd.V_reads' HO0.out).2.1; have hC17 : Kd.F k55 _ _ (some ad196) l0.length l0 := (Kd.V_at (base := w.heap.size) HO0.out).2.2; have q017 : (0 : Int) ≤ ((ji11) : Int) := of_decide_eq_true ap5_; have hcut17 := cut_from (P := Tryz.prog) 27 55 .i64 Tryz.underlying27 hi017 2 hsz17 (some ad196) l0.length c0 (ji11) q017 q17; have hr17 := Kd.F_cut (m := ((ji11) : Int).toNat) (c := c0) hC17 (by omega) hroom17; obtain ⟨A17, hA17⟩ : ∃ A1, A1 = (if c0 = ((ji11) : Int).toNat then (some ad196) else ((some ad196) : Option Addr).map (·.add (((ji11) : Int).toNat * 2))) := ⟨_, rfl⟩; obtain ⟨c17, hc17⟩ : ∃ c1, c1 = c0 - ((ji11) : Int).toNat := ⟨_, rfl⟩; have hy17 : y205.length = l0.length - ((ji11) : Int).toNat := (by rw [Ny205.out, List.length_drop] <;> omega); rw [show (l0).drop ((ji11) : Int).toNat = y205 from Ny205.out.symm] at hr17; replace hr17 : Kd.F k55 _ _ A17 y205.length y205 := (by rw [hA17]; exact hr17); rw [← hy17, ← hA17, ← hc17] at hcut17; have HO209 := As_ (show Kd.V k55 55 _ w.heap.size _ (.slice A17 y205.length c17) y205 from Kd.V_mk (by rw [hy17, hc17]; exact Nat.sub_le_sub_right hroom17 _) hr17); have HC209 := As_ (show y205.length ≤ c17 from by rw [hy17, hc17]; exact Nat.sub_le_sub_right hroom17 _); clear hr17 hC17 hroom17 hi017 hsz17 hc17; have KY17 := As_ hy17; have KA17 := As_ hA17; clear hy17 hA17; replace q17 := eq_true q17) | ((with_reducible refine gate_builtin (b := .append) (xs := #[.tmp 30, .tmp 34]) rfl ?_); at_builtin; refine Kd.R_append_rows k55 (w0 := w) w.heap.size rfl (.tmp 30) (.tmp 34) 27 55 (.agg #[(.string ⟨#[]⟩), (.string ⟨#[]⟩)]) 32 rfl Tryz.underlying27 info55 rfl (by decide) (by omega) v203 y202 y205 _ _ _ (fun k_ => (w.heap.size ≤ k_)) (fun _ => False) rfl rfl ?aO ?aR (fun _ _ h => h) (fun _ h => h.elim) ?aF ?aB ?aS ?aL ?_; (case aR => repeat (first | exact (Kd.V_reads' HO209.out).2.2 | (with_reducible refine Kd.C_alloc ?_ _) | (with_reducible refine Kd.C_drewN ?_ _) | (with_reducible refine Kd.C_drew ?_))); (case aB => exact ap28_); (case aF => exact (fun k_ hk => (Nat.le_trans (below_size ap28_) hk))); (case aO => exact (by (with_reducible repeat (first | apply Kd.R_alloc | apply Kd.R_drewN | apply Kd.R_drew)); exact HO204.out)); (case aS => exact (below_size ap28_)); (case aL => have := LMc14.out; omega); intro v211 w18 ho hb hg hat; rw [← Ny210.out] at ho; have n0_ := As_ (Kd.V_afterv (ok := (fun k_ => (P0_ k_ ∨ w.heap.size ≤ k_))) ap15_ hg hat); have n1_ := As_ (Kd.V_afterv (ok := (fun k_ => (P0_ k_ ∨ w.heap.size ≤ k_))) ap22_ hg hat); have n2_ := As_ (Kd.V_afterv (ok := (fun k_ => (P0_ k_ ∨ w.heap.size ≤ k_))) (by (with_reducible repeat (first | apply Kd.V_alloc | apply Kd.V_drewN | apply Kd.V_drew)); exact HO209.out) hg hat); have n3_ := As_ (hb); have n4_ := As_ (ho); clear HO0; clear HO201; clear HO209; clear HB; clear HO204; have HO0 := n0_; have HO201 := n1_; have HO209 := n2_; have HB := n3_; have HO212 := n4_; clear n0_ n1_ n2_ n3_ n4_; clear ho hb hg hat))
          go_ret2
          exact ⟨_, by first | rfl | (simp [errW_none, errW_some] <;> rfl) | (simp only [← hji11]; first | rfl | (simp [errW_none, errW_some] <;> rfl)) | (simp [*, errW_none, errW_some] <;> rfl), Kd.V_mono (Kd.R_V (by (with_reducible repeat (first | apply Kd.R_alloc | apply Kd.R_drewN | apply Kd.R_drew)); exact HO212.out)) (fun k_ hk => by first | exact ⟨(.inr (hk.1)), hk.2⟩ | exact (.inr (hk))), ap28_⟩
         ·rw [if_neg c14] at H
          exact absurd H (by simp)
        ·rw [if_neg c13] at H
         exact absurd H (by simp)
       ·rw [if_neg c12] at H
        exact absurd H (by simp)
      ·rw [if_neg c10] at H
       exact absurd H (by simp)
     ·rw [if_neg c9] at H
      exact absurd H (by simp)
    ·rw [if_neg c7] at H
     have c7b0 : (((rd_T55 l0 t195).f0).toList == a1.toList) = false := beq_eq_false_iff_ne.mpr c7
     have c7b1 : (((rd_T55 l0 t195).f0).toList != a1.toList) = true := bne_iff_ne.mpr c7
     simp only [Option.some.injEq, Prod.mk.injEq] at H
     obtain ⟨rfl, rfl⟩ := H
     go_enter Tryz.func28, Tryz.ntmps28
     go_wp2_with (first | ((with_reducible refine gate_callee (f := 51) rfl ?_); refine gk_ (some 10) Tryz.func51 #[.slice A0 l0.length c0, .string a1] ?_; (with_reducible refine (footbridgeref09_at.calls k _ _ l0 a1 t195 _ ?side1 ?side2 A3.out).mono ?_); (case side1 => repeat (first | exact (Kd.V_reads' HO0.out).2.2 | (with_reducible refine Kd.C_alloc ?_ _) | (with_reducible refine Kd.C_drewN ?_ _) | (with_reducible refine Kd.C_drew ?_))); (case side2 => exact (Kd.V_reads' HO0.out).2.1); rintro e w' ⟨rfl, ⟨nd, rfl⟩⟩; refine ⟨_, rfl, ?_⟩; have p196 : 0 ≤ (t195 : Int) := of_decide_eq_true ap5_; have q196 : t195 < (l0.length : Int) := of_decide_eq_true ap5_; obtain ⟨ad196, e196, hx196_0, hx196_1⟩ := at_T55 (Kd.V_reads' HO0.out).2.2 t195 p196 q196; cases e196; replace p196 := eq_true p196; replace q196 := eq_true q196))
     go_ret2
     exact ⟨_, ap14_, ap15_, ap28_⟩
   ·rw [if_neg c6] at H
    exact absurd H (by simp)
  ·rw [if_neg c5] at H
   exact absurd H (by simp)
end Go.Proofs.YtgapkicplhbidaaGreatDoor.PQup
