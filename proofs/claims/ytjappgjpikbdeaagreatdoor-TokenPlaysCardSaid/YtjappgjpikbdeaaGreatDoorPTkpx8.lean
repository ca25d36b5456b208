/- A part of the walk of TokenPlays. No condition. -/
import Derived.Test.YtjappgjpikbdeaaGreatDoorPTkpx0
import Derived.Test.YtjappgjpikbdeaaGreatDoorPTkpx5
import Derived.Test.YtjappgjpikbdeaaGreatDoorPTkpx7
namespace Go.Proofs.YtjappgjpikbdeaaGreatDoor.PTkp
set_option maxRecDepth 100000
set_option maxHeartbeats 8000000
open Go.RowKit Go.Proofs.YtjappgjpikbdeaaGreatDoorW.PrintWords Go.Proofs.YtjappgjpikbdeaaGreatDoorW.PrintLast Go.Proofs.YtjappgjpikbdeaaGreatDoorW.PrintMore
attribute [local go_sem] max2_int min2_int max_two min_two max_three min_three max_four min_four   -- for this text's walks alone
set_option linter.unusedVariables false
set_option linter.unusedSimpArgs false
section
attribute [local go_sem high] eqA82
def footbridgeref14_Count.f (k : Nat) (l0 : List (S82)) (a1 : ByteArray) : Option (Int) := (footbridgeref09_Get.f k l0 a1).bind fun bt303 => ((footbridgeref01_R_Num.f k bt303.1 0).bind fun bt306 => ((footbridgeref01_R_Done.f bt306.1 bt306.2.1).bind fun t309 => (if t309 = 0 then (some bt306.2.2) else (some 0))))
theorem footbridgeref14_Count.mono : ∀ a0 a1 k, LeO (footbridgeref14_Count.f k a0 a1) (footbridgeref14_Count.f (k + 1) a0 a1) := by
 intro a0 a1 k
 unfold footbridgeref14_Count.f
 repeat' first
   | (with_reducible exact footbridgeref01_R_Num.mono _ _ _)
   | (with_reducible exact footbridgeref09_Get.mono _ _ _)
   | (with_reducible exact LeO.refl _)
   | (with_reducible exact LeO.none _)
   | (with_reducible refine LeO.ite ?_ ?_)
   | (with_reducible refine LeO.bind ?_ (fun _ => ?_))
   | exact footbridgeref01_R_Num.mono _ _ _
   | exact footbridgeref09_Get.mono _ _ _
   | exact LeO.none _
   | refine LeO.ite ?_ ?_
   | refine LeO.bind ?_ (fun _ => ?_)
theorem footbridgeref14_Count.calls (k : Nat) (A0 : Option Addr) (c0 : Nat) (l0 : List (S82)) (a1 : ByteArray) (r : Int) (w : World) (hr0 : Kd.C k82 w A0 l0.length l0) (hc0 : l0.length ≤ c0) (h : footbridgeref14_Count.f k l0 a1 = some r) :
  Calls Tryz.prog 46 #[.slice A0 l0.length c0, .string a1] w fun e w' => e = .returned (.int .i64 r) ∧ Below w.heap.size w w' := by
 have hu75 := Tryz.underlying75
 have HR0 := As_ hr0
 have HC0 := As_ hc0
 clear hr0 hc0
 have HB := As_ (Below.refl w.heap.size w)
 have H : ((footbridgeref09_Get.f k l0 a1).bind fun bt303 => ((footbridgeref01_R_Num.f k bt303.1 0).bind fun bt306 => ((footbridgeref01_R_Done.f bt306.1 bt306.2.1).bind fun t309 => (if t309 = 0 then (some bt306.2.2) else (some 0))))) = some r := h
 clear h
 replace H := Option.bind_eq_some_iff.mp H
 obtain ⟨⟨t303, t304⟩, A30, H⟩ := H
 try dsimp only at H
 have A3 := As_ A30
 clear A30
 replace H := Option.bind_eq_some_iff.mp H
 obtain ⟨⟨t306, t307, t308⟩, A40, H⟩ := H
 try dsimp only at H
 have A4 := As_ A40
 clear A40
 replace H := Option.bind_eq_some_iff.mp H
 obtain ⟨t309, A50, H⟩ := H
 try dsimp only at H
 have A5 := As_ A50
 clear A50
 by_cases c6 : t309 = 0
 ·rw [if_pos c6] at H
  have c6b0 : (t309 == 0) = true := beq_iff_eq.mpr c6
  have c6b1 : (t309 != 0) = false := bne_eq_false_iff_eq.mpr c6
  clear c6
  obtain rfl := Option.some.inj H
  go_enter Tryz.func46, Tryz.ntmps46
  go_wp2_with (first | ((with_reducible refine gate_callee (f := 40) rfl ?_); refine gk_ (some 12) Tryz.func40 #[.slice A0 l0.length c0, .string a1] ?_; (with_reducible refine (footbridgeref09_Get.calls k _ _ l0 a1 t303 t304 _ ?side1 ?side2 A3.out).mono ?_); (case side1 => repeat (first | exact HR0.out | (with_reducible refine Kd.C_alloc ?_ _) | (with_reducible refine Kd.C_drewN ?_ _) | (with_reducible refine Kd.C_drew ?_))); (case side2 => exact HC0.out); rintro e w' ⟨rfl, ⟨nd, rfl⟩⟩; refine ⟨_, rfl, ?_⟩) | ((with_reducible refine gate_dst (N := 7) rfl ?_); refine bxE (N := 7) (cs := #[.string ⟨#[]⟩, .int .i64 0]) (t := 75) ?_; intro gb305 hg w7 hbox hb; have BK305 := As_ (hbox); have GW305 := As_ ((by rw [hg]; exact (below_size ap50_) : w.heap.size ≤ gb305)); have GE305 := As_ ((by rw [hg]; exact (below_size ap50_) : w.heap.size ≤ gb305)); replace HB := As_ (below_step ap50_ hb); clear hb hbox hg; obtain ⟨hcz8_0, hfz8_0, hcz8_1, hfz8_1⟩ := clN2 BK305.out) | ((with_reducible refine gate_callee (f := 75) rfl ?_); refine gk_ (some 19) Tryz.func75 #[.agg #[.string t303, .int .i64 0]] ?_; (with_reducible refine (footbridgeref01_R_Num.calls k t303 0 t306 t307 t308 _ A4.out).mono ?_); rintro e w9 ⟨rfl, hb⟩; refine ⟨_, rfl, ?_⟩; replace BK305 := As_ (blk_below (g := gb305) (o := .cells #[.string t303, .int .i64 0] 75 (0, 0)) ap90_ hb); replace HB := As_ (below_step ap65_ hb); (try clear hb); (try clear hb2); (try clear hk); (try clear hi); obtain ⟨hcz10_0, hfz10_0, hcz10_1, hfz10_1⟩ := clN2 BK305.out) | ((with_reducible refine gate_callee (f := 43) rfl ?_); refine gk_ (some 23) Tryz.func43 #[.agg #[.string t306, .int .i64 t307]] ?_; (with_reducible refine (footbridgeref01_R_Done.calls t306 t307 t309 _ A5.out).mono ?_); rintro e w11 ⟨rfl, hb⟩; refine ⟨_, rfl, ?_⟩; replace BK305 := As_ (blk_below (g := gb305) (o := .cells #[.string t306, .int .i64 t307] 75 (0, 0)) ap86_ hb); replace HB := As_ (below_step ap65_ hb); (try clear hb); (try clear hb2); (try clear hk); (try clear hi)))
  go_ret
  exact ⟨ap17_, ap65_⟩
 ·rw [if_neg c6] at H
  have c6b0 : (t309 == 0) = false := beq_eq_false_iff_ne.mpr c6
  have c6b1 : (t309 != 0) = true := bne_iff_ne.mpr c6
  obtain rfl := Option.some.inj H
  go_enter Tryz.func46, Tryz.ntmps46
  go_wp2_with (first | ((with_reducible refine gate_callee (f := 40) rfl ?_); refine gk_ (some 12) Tryz.func40 #[.slice A0 l0.length c0, .string a1] ?_; (with_reducible refine (footbridgeref09_Get.calls k _ _ l0 a1 t303 t304 _ ?side1 ?side2 A3.out).mono ?_); (case side1 => repeat (first | exact HR0.out | (with_reducible refine Kd.C_alloc ?_ _) | (with_reducible refine Kd.C_drewN ?_ _) | (with_reducible refine Kd.C_drew ?_))); (case side2 => exact HC0.out); rintro e w' ⟨rfl, ⟨nd, rfl⟩⟩; refine ⟨_, rfl, ?_⟩) | ((with_reducible refine gate_dst (N := 7) rfl ?_); refine bxE (N := 7) (cs := #[.string ⟨#[]⟩, .int .i64 0]) (t := 75) ?_; intro gb305 hg w12 hbox hb; have BK305 := As_ (hbox); have GW305 := As_ ((by rw [hg]; exact (below_size ap50_) : w.heap.size ≤ gb305)); have GE305 := As_ ((by rw [hg]; exact (below_size ap50_) : w.heap.size ≤ gb305)); replace HB := As_ (below_step ap50_ hb); clear hb hbox hg; obtain ⟨hcz13_0, hfz13_0, hcz13_1, hfz13_1⟩ := clN2 BK305.out) | ((with_reducible refine gate_callee (f := 75) rfl ?_); refine gk_ (some 19) Tryz.func75 #[.agg #[.string t303, .int .i64 0]] ?_; (with_reducible refine (footbridgeref01_R_Num.calls k t303 0 t306 t307 t308 _ A4.out).mono ?_); rintro e w14 ⟨rfl, hb⟩; refine ⟨_, rfl, ?_⟩; replace BK305 := As_ (blk_below (g := gb305) (o := .cells #[.string t303, .int .i64 0] 75 (0, 0)) ap90_ hb); replace HB := As_ (below_step ap65_ hb); (try clear hb); (try clear hb2); (try clear hk); (try clear hi); obtain ⟨hcz15_0, hfz15_0, hcz15_1, hfz15_1⟩ := clN2 BK305.out) | ((with_reducible refine gate_callee (f := 43) rfl ?_); refine gk_ (some 23) Tryz.func43 #[.agg #[.string t306, .int .i64 t307]] ?_; (with_reducible refine (footbridgeref01_R_Done.calls t306 t307 t309 _ A5.out).mono ?_); rintro e w16 ⟨rfl, hb⟩; refine ⟨_, rfl, ?_⟩; replace BK305 := As_ (blk_below (g := gb305) (o := .cells #[.string t306, .int .i64 t307] 75 (0, 0)) ap86_ hb); replace HB := As_ (below_step ap65_ hb); (try clear hb); (try clear hb2); (try clear hk); (try clear hi)))
  go_ret
  exact ⟨ap17_, ap65_⟩
def footbridgeref22_Supply.f (k : Nat) (l0 : List (S82)) (a1 : ByteArray) : Option (Int) := (footbridgeref14_Key.f k (([(⟨#[115, 117, 112, 112, 108, 121]⟩ : ByteArray), a1] : List ByteArray))).bind fun t313 => ((footbridgeref14_Count.f k l0 t313).bind fun t314 => (some t314))
theorem footbridgeref22_Supply.mono : ∀ a0 a1 k, LeO (footbridgeref22_Supply.f k a0 a1) (footbridgeref22_Supply.f (k + 1) a0 a1) := by
 intro a0 a1 k
 unfold footbridgeref22_Supply.f
 repeat' first
   | (with_reducible exact footbridgeref14_Count.mono _ _ _)
   | (with_reducible exact footbridgeref14_Key.mono _ _)
   | (with_reducible exact LeO.refl _)
   | (with_reducible exact LeO.none _)
   | (with_reducible refine LeO.ite ?_ ?_)
   | (with_reducible refine LeO.bind ?_ (fun _ => ?_))
   | exact footbridgeref14_Count.mono _ _ _
   | exact footbridgeref14_Key.mono _ _
   | exact LeO.none _
   | refine LeO.ite ?_ ?_
   | refine LeO.bind ?_ (fun _ => ?_)
theorem footbridgeref22_Supply.calls (k : Nat) (A0 : Option Addr) (c0 : Nat) (l0 : List (S82)) (a1 : ByteArray) (r : Int) (w : World) (hr0 : Kd.C k82 w A0 l0.length l0) (hc0 : l0.length ≤ c0) (h : footbridgeref22_Supply.f k l0 a1 = some r) :
  Calls Tryz.prog 16 #[.slice A0 l0.length c0, .string a1] w fun e w' => e = .returned (.int .i64 r) ∧ Below w.heap.size w w' := by
 have HR0 := As_ hr0
 have HC0 := As_ hc0
 clear hr0 hc0
 have HB := As_ (Below.refl w.heap.size w)
 have H : ((footbridgeref14_Key.f k (([(⟨#[115, 117, 112, 112, 108, 121]⟩ : ByteArray), a1] : List ByteArray))).bind fun t313 => ((footbridgeref14_Count.f k l0 t313).bind fun t314 => (some t314))) = some r := h
 clear h
 obtain ⟨y310, hy310⟩ : ∃ y_ : List ByteArray, y_ = (([(⟨#[115, 117, 112, 112, 108, 121]⟩ : ByteArray), a1] : List ByteArray)) := ⟨_, rfl⟩
 replace H : ((footbridgeref14_Key.f k y310).bind fun t313 => ((footbridgeref14_Count.f k l0 t313).bind fun t314 => (some t314))) = some r := by first | (rw [hy310]; with_reducible exact H) | (have H2_ := (Option.bind_some _ _).symm.trans H; rw [hy310]; with_reducible exact H2_) | (have H2_ := (Option.bind_some _ _).symm.trans H; with_reducible exact H2_) | with_reducible exact H | (rw [hy310]; exact H) | exact H
 have Ny310 := As_ hy310
 clear hy310
 replace H := Option.bind_eq_some_iff.mp H
 obtain ⟨t313, A30, H⟩ := H
 try dsimp only at H
 have A3 := As_ A30
 clear A30
 replace H := Option.bind_eq_some_iff.mp H
 obtain ⟨t314, A40, H⟩ := H
 try dsimp only at H
 have A4 := As_ A40
 clear A40
 obtain rfl := Option.some.inj H
 go_enter Tryz.func16, Tryz.ntmps16
 go_wp2_with (first | ((with_reducible refine gate_dst (N := 7) rfl ?_); refine Kd.R_lit Kd.string _ 9 ?hg (N := 7) ?hd (xs := ([(⟨#[115, 117, 112, 112, 108, 121]⟩ : ByteArray), a1] : List ByteArray)) (inner := [.string ⟨#[115, 117, 112, 112, 108, 121]⟩, .string a1]) (ok := fun _ => True) (okp := fun _ => True) ?hr ?hp (fun _ hk => hk) trivial (Below.refl _ _) (Nat.le_refl _) (by simp) ?_; (case hd => rfl); (case hg => rfl); (case hr => first | (go_simp; done) | (go_simp; rfl)); (case hp => exact (Reps.one (show Kd.M Kd.string _ _ _ (⟨#[115, 117, 112, 112, 108, 121]⟩ : ByteArray) [.string ⟨#[115, 117, 112, 112, 108, 121]⟩] from rfl) (Reps.one (show Kd.M Kd.string _ _ _ a1 [.string a1] from rfl) (Reps.none _ _)))); intro v311 w5 ho6 hb hg_ hnew_; clear hg_ hnew_; (first | rw [← Ny310.out] at ho6 | (simp only [Int.reduceToNat] at ho6; rw [← Ny310.out] at ho6)); have HO312 := As_ (Kd.R_lower ho6 (below_size ap50_)); replace HB := As_ (below_step ap50_ hb); clear hb ho6; obtain ⟨Ao7, co7, eo7⟩ := Kd.R_slice HO312.out; subst eo7) | ((with_reducible refine gate_callee (f := 47) rfl ?_); refine gk_ (some 8) Tryz.func47 #[.slice Ao7 y310.length co7] ?_; (with_reducible refine (footbridgeref14_Key.calls k _ _ y310 t313 _ ?side1 ?side2 A3.out).mono ?_); (case side1 => repeat (first | exact (Kd.R_reads' HO312.out).2.2 | (with_reducible refine Kd.C_alloc ?_ _) | (with_reducible refine Kd.C_drewN ?_ _) | (with_reducible refine Kd.C_drew ?_))); (case side2 => exact (Kd.R_reads' HO312.out).2.1); rintro e w8 ⟨rfl, hb⟩; refine ⟨_, rfl, ?_⟩; replace HO312 := As_ (Kd.R_below ap32_ hb); replace HB := As_ (below_step ap50_ hb); (try clear hb); (try clear hb2); (try clear hk); (try clear hi)) | ((with_reducible refine gate_callee (f := 46) rfl ?_); refine gk_ (some 9) Tryz.func46 #[.slice A0 l0.length c0, .string t313] ?_; (with_reducible refine (footbridgeref14_Count.calls k _ _ l0 t313 t314 _ ?side1 ?side2 A4.out).mono ?_); (case side1 => repeat (first | exact (Kd.C_below HR0.out HB.out) | (with_reducible refine Kd.C_alloc ?_ _) | (with_reducible refine Kd.C_drewN ?_ _) | (with_reducible refine Kd.C_drew ?_))); (case side2 => exact HC0.out); rintro e w9 ⟨rfl, hb⟩; refine ⟨_, rfl, ?_⟩; replace HO312 := As_ (Kd.R_below ap32_ hb); replace HB := As_ (below_step ap50_ hb); (try clear hb); (try clear hb2); (try clear hk); (try clear hi)))
 go_ret
 exact ⟨ap17_, ap50_⟩
def footbridgeref09_Same.l0 : Nat → List (S82) → List (S82) → Int → Option (Bool)
 | 0, _, _, _ => none
 | k + 1, x0, x1, x5 => if x5 < (x0.length : Int) then (if 0 ≤ x5 then (if x5 < (x1.length : Int) then (if (!((((rd_T82 x0 x5).f0).toList) == (((rd_T82 x1 x5).f0).toList)) || (!((((rd_T82 x0 x5).f1).toList) == (((rd_T82 x1 x5).f1).toList)))) = true then (some false) else (footbridgeref09_Same.l0 k x0 x1 (wrap64 (x5 + 1)))) else (none)) else (none)) else (some true)
def footbridgeref09_Same.f (k : Nat) (l0 : List (S82)) (l1 : List (S82)) : Option (Bool) := if (l0.length : Int) = (l1.length : Int) then (footbridgeref09_Same.l0 k l0 l1 0) else (some false)
theorem footbridgeref09_Same.mono_l : ∀ k, (∀ y0 y1 y2, LeO (footbridgeref09_Same.l0 k y0 y1 y2) (footbridgeref09_Same.l0 (k + 1) y0 y1 y2))
 | 0 => fun _ _ _ r h => by simp [footbridgeref09_Same.l0] at h
 | k + 1 => by
  have ih0 := footbridgeref09_Same.mono_l k
  ·intro y0 y1 y2
   unfold footbridgeref09_Same.l0
   repeat' first
   | (with_reducible exact ih0 _ _ _)
   | (with_reducible exact LeO.refl _)
   | (with_reducible exact LeO.none _)
   | (with_reducible refine LeO.ite ?_ ?_)
   | (with_reducible refine LeO.bind ?_ (fun _ => ?_))
   | exact ih0 _ _ _
   | exact LeO.none _
   | refine LeO.ite ?_ ?_
   | refine LeO.bind ?_ (fun _ => ?_)
theorem footbridgeref09_Same.mono : ∀ a0 a1 k, LeO (footbridgeref09_Same.f k a0 a1) (footbridgeref09_Same.f (k + 1) a0 a1) := by
 intro a0 a1 k
 have ih0 := footbridgeref09_Same.mono_l k
 unfold footbridgeref09_Same.f
 repeat' first
   | (with_reducible exact ih0 _ _ _)
   | (with_reducible exact LeO.refl _)
   | (with_reducible exact LeO.none _)
   | (with_reducible refine LeO.ite ?_ ?_)
   | (with_reducible refine LeO.bind ?_ (fun _ => ?_))
   | exact ih0 _ _ _
   | exact LeO.none _
   | refine LeO.ite ?_ ?_
   | refine LeO.bind ?_ (fun _ => ?_)
theorem footbridgeref09_Same.calls (k : Nat) (A0 : Option Addr) (c0 : Nat) (l0 : List (S82)) (A1 : Option Addr) (c1 : Nat) (l1 : List (S82)) (r : Bool) (w : World) (hr0 : Kd.C k82 w A0 l0.length l0) (hc0 : l0.length ≤ c0) (hr1 : Kd.C k82 w A1 l1.length l1) (hc1 : l1.length ≤ c1) (h : footbridgeref09_Same.f k l0 l1 = some r) :
  Calls Tryz.prog 17 #[.slice A0 l0.length c0, .slice A1 l1.length c1] w fun e w' => e = .returned (.bool r) ∧ Drawn0 w w' := by
 have hu82 := Tryz.underlying82
 have HR0 := As_ hr0
 have HC0 := As_ hc0
 clear hr0 hc0
 have HR1 := As_ hr1
 have HC1 := As_ hc1
 clear hr1 hc1
 have H : (if (l0.length : Int) = (l1.length : Int) then (footbridgeref09_Same.l0 k l0 l1 0) else (some false)) = some r := h
 clear h
 by_cases c3 : (l0.length : Int) = (l1.length : Int)
 ·rw [if_pos c3] at H
  have c3b0 : ((l0.length : Int) == (l1.length : Int)) = true := beq_iff_eq.mpr c3
  have c3b1 : ((l0.length : Int) != (l1.length : Int)) = false := bne_eq_false_iff_eq.mpr c3
  have c3b2 : (l0.length == l1.length) = true := by first | simpa using c3 | (simp at c3 ⊢; omega)
  clear c3
  have H' := As_ H
  clear H
  go_enter Tryz.func17, Tryz.ntmps17
  go_wp2
  repeat (go_quiet (fail); try go_wp2)
  go_loopg [5] k (fun kq v5 w' => ∃ (x5_1 : Int), v5 = .int .i64 x5_1 ∧ Aside0 (footbridgeref09_Same.l0 kq l0 l1 x5_1 = some r) ∧ Aside0 (kq ≤ k) ∧ Drawn0 w w')
  case atStart => exact ⟨(0), ap5_, H', ⟨Nat.le_refl _⟩, ap10_⟩
  case round =>
   clear H'
   try clear c1
   try clear c3
   try clear c3b0
   try clear c3b1
   try clear c3b2
   obtain ⟨x5_1, rfl, HA, HK1, ⟨m1, rfl⟩⟩ := hrel
   cases gk with
   | zero => exact absurd HA.out (by simp [footbridgeref09_Same.l0])
   | succ k1 =>
    have H := HA.out
    clear HA
    simp only [footbridgeref09_Same.l0] at H
    by_cases c4 : x5_1 < (l0.length : Int)
    ·rw [if_pos c4] at H
     have c4b0 : decide (x5_1 < (l0.length : Int)) = true := decide_eq_true c4
     clear c4
     by_cases c5 : 0 ≤ x5_1
     ·rw [if_pos c5] at H
      have c5b0 : decide (0 ≤ x5_1) = true := decide_eq_true c5
      clear c5
      by_cases c6 : x5_1 < (l1.length : Int)
      ·rw [if_pos c6] at H
       have c6b0 : decide (x5_1 < (l1.length : Int)) = true := decide_eq_true c6
       clear c6
       by_cases c7 : (!((((rd_T82 l0 x5_1).f0).toList) == (((rd_T82 l1 x5_1).f0).toList)) || (!((((rd_T82 l0 x5_1).f1).toList) == (((rd_T82 l1 x5_1).f1).toList)))) = true
       ·rw [if_pos c7] at H
        have c7b0 : (!((((rd_T82 l0 x5_1).f0).toList) == (((rd_T82 l1 x5_1).f0).toList)) || (!((((rd_T82 l0 x5_1).f1).toList) == (((rd_T82 l1 x5_1).f1).toList)))) = true := c7
        clear c7
        obtain rfl := Option.some.inj H
        have p315 : 0 ≤ (x5_1 : Int) := of_decide_eq_true ap7_
        have q315 : x5_1 < (l0.length : Int) := of_decide_eq_true ap7_
        obtain ⟨ad315, e315, hx315_0, hx315_1⟩ := at_T82 HR0.out x5_1 p315 q315
        cases e315
        replace p315 := eq_true p315
        replace q315 := eq_true q315
        have p316 : 0 ≤ (x5_1 : Int) := of_decide_eq_true ap7_
        have q316 : x5_1 < (l1.length : Int) := of_decide_eq_true ap7_
        obtain ⟨ad316, e316, hx316_0, hx316_1⟩ := at_T82 HR1.out x5_1 p316 q316
        cases e316
        replace p316 := eq_true p316
        replace q316 := eq_true q316
        go_wp2
        repeat (go_quiet (fail); try go_wp2)
        go_ret
        exact ⟨ap5_, ap10_⟩
       ·rw [if_neg c7] at H
        have c7b0 : (!((((rd_T82 l0 x5_1).f0).toList) == (((rd_T82 l1 x5_1).f0).toList)) || (!((((rd_T82 l0 x5_1).f1).toList) == (((rd_T82 l1 x5_1).f1).toList)))) = false := by simpa using c7
        clear c7
        have H' := As_ H
        clear H
        have p315 : 0 ≤ (x5_1 : Int) := of_decide_eq_true ap7_
        have q315 : x5_1 < (l0.length : Int) := of_decide_eq_true ap7_
        obtain ⟨ad315, e315, hx315_0, hx315_1⟩ := at_T82 HR0.out x5_1 p315 q315
        cases e315
        replace p315 := eq_true p315
        replace q315 := eq_true q315
        have p316 : 0 ≤ (x5_1 : Int) := of_decide_eq_true ap7_
        have q316 : x5_1 < (l1.length : Int) := of_decide_eq_true ap7_
        obtain ⟨ad316, e316, hx316_0, hx316_1⟩ := at_T82 HR1.out x5_1 p316 q316
        cases e316
        replace p316 := eq_true p316
        replace q316 := eq_true q316
        go_wp2
        repeat (go_quiet (fail); try go_wp2)
        go_roundg k1
        case measure => have := HK1.out; omega
        case rel => exact ⟨(wrap64 (x5_1 + 1)), ap5_, H', ⟨by have := HK1.out; omega⟩, ap10_⟩
      ·rw [if_neg c6] at H
       exact absurd H (by simp)
     ·rw [if_neg c5] at H
      exact absurd H (by simp)
    ·rw [if_neg c4] at H
     have c4b0 : decide (x5_1 < (l0.length : Int)) = false := decide_eq_false c4
     clear c4
     obtain rfl := Option.some.inj H
     go_wp2
     repeat (go_quiet (fail); try go_wp2)
     go_ret
     exact ⟨ap5_, ap10_⟩
 ·rw [if_neg c3] at H
  have c3b0 : ((l0.length : Int) == (l1.length : Int)) = false := beq_eq_false_iff_ne.mpr c3
  have c3b1 : ((l0.length : Int) != (l1.length : Int)) = true := bne_iff_ne.mpr c3
  have c3b2 : (l0.length == l1.length) = false := by first | simpa using c3 | (simp at c3 ⊢; omega)
  obtain rfl := Option.some.inj H
  go_enter Tryz.func17, Tryz.ntmps17
  go_wp2
  repeat (go_quiet (fail); try go_wp2)
  go_ret
  exact ⟨ap5_, ap10_⟩
def footbridgeref23_Named.f (a0 : ByteArray) : Option (Bool) := if (a0.size : Int) ≥ 1 then (some (decide ((a0.size : Int) ≤ 512))) else (some false)
theorem footbridgeref23_Named.calls (a0 : ByteArray) (r : Bool) (w : World) (h : footbridgeref23_Named.f a0 = some r) :
  Calls Tryz.prog 19 #[.string a0] w fun e w' => e = .returned (.bool r) ∧ Drawn0 w w' := by
 have H : (if (a0.size : Int) ≥ 1 then (some (decide ((a0.size : Int) ≤ 512))) else (some false)) = some r := h
 clear h
 by_cases c2 : (a0.size : Int) ≥ 1
 ·rw [if_pos c2] at H
  have c2b0 : decide (1 ≤ (a0.size : Int)) = true := decide_eq_true c2
  have c2b1 : decide (1 ≤ a0.size) = true := decide_eq_true (by omega)
  clear c2
  obtain rfl := Option.some.inj H
  go_enter Tryz.func19, Tryz.ntmps19
  go_wp2
  go_ret
  exact ⟨ap5_, ap10_⟩
 ·rw [if_neg c2] at H
  have c2b0 : decide (1 ≤ (a0.size : Int)) = false := decide_eq_false c2
  have c2b1 : decide (1 ≤ a0.size) = false := decide_eq_false (by omega)
  clear c2
  obtain rfl := Option.some.inj H
  go_enter Tryz.func19, Tryz.ntmps19
  go_wp2
  go_ret
  exact ⟨ap5_, ap10_⟩
def footbridgeref22_Get.f (k : Nat) (l0 : List (S82)) (a1 : ByteArray) : Option (ByteArray × ByteArray × ByteArray × ByteArray × Int) := (footbridgeref22_key.f k a1).bind fun t318 => ((footbridgeref09_Get.f k l0 t318).bind fun bt319 => ((footbridgeref01_R_Text.f k bt319.1 0).bind fun bt323 => ((footbridgeref01_R_Text.f k bt323.1 bt323.2.1).bind fun bt326 => ((footbridgeref01_R_Text.f k bt326.1 bt326.2.1).bind fun bt329 => (if bt319.2 = true then ((footbridgeref01_R_Done.f bt329.1 bt329.2.1).bind fun t332 => (if t332 = 0 then (some (a1, bt323.2.2, bt326.2.2, bt329.2.2, 0)) else (some ((⟨#[]⟩ : ByteArray), (⟨#[]⟩ : ByteArray), (⟨#[]⟩ : ByteArray), (⟨#[]⟩ : ByteArray), 8)))) else (some ((⟨#[]⟩ : ByteArray), (⟨#[]⟩ : ByteArray), (⟨#[]⟩ : ByteArray), (⟨#[]⟩ : ByteArray), 8)))))))
theorem footbridgeref22_Get.mono : ∀ a0 a1 k, LeO (footbridgeref22_Get.f k a0 a1) (footbridgeref22_Get.f (k + 1) a0 a1) := by
 intro a0 a1 k
 unfold footbridgeref22_Get.f
 repeat' first
   | (with_reducible exact footbridgeref01_R_Text.mono _ _ _)
   | (with_reducible exact footbridgeref09_Get.mono _ _ _)
   | (with_reducible exact footbridgeref22_key.mono _ _)
   | (with_reducible exact LeO.refl _)
   | (with_reducible exact LeO.none _)
   | (with_reducible refine LeO.ite ?_ ?_)
   | (with_reducible refine LeO.bind ?_ (fun _ => ?_))
   | exact footbridgeref01_R_Text.mono _ _ _
   | exact footbridgeref09_Get.mono _ _ _
   | exact footbridgeref22_key.mono _ _
   | exact LeO.none _
   | refine LeO.ite ?_ ?_
   | refine LeO.bind ?_ (fun _ => ?_)
theorem footbridgeref22_Get.calls (k : Nat) (A0 : Option Addr) (c0 : Nat) (l0 : List (S82)) (a1 : ByteArray) (r1 : ByteArray) (r2 : ByteArray) (r3 : ByteArray) (r4 : ByteArray) (r5 : Int) (w : World) (hr0 : Kd.C k82 w A0 l0.length l0) (hc0 : l0.length ≤ c0) (h : footbridgeref22_Get.f k l0 a1 = some (r1, r2, r3, r4, r5)) :
  Calls Tryz.prog 68 #[.slice A0 l0.length c0, .string a1] w fun e w' => e = .returned (.tuple #[.agg #[.string r1, .string r2, .string r3, .string r4], .int .i64 r5]) ∧ Below w.heap.size w w' := by
 have hu66 := Tryz.underlying66
 have hu75 := Tryz.underlying75
 have HR0 := As_ hr0
 have HC0 := As_ hc0
 clear hr0 hc0
 have HB := As_ (Below.refl w.heap.size w)
 have H : ((footbridgeref22_key.f k a1).bind fun t318 => ((footbridgeref09_Get.f k l0 t318).bind fun bt319 => ((footbridgeref01_R_Text.f k bt319.1 0).bind fun bt323 => ((footbridgeref01_R_Text.f k bt323.1 bt323.2.1).bind fun bt326 => ((footbridgeref01_R_Text.f k bt326.1 bt326.2.1).bind fun bt329 => (if bt319.2 = true then ((footbridgeref01_R_Done.f bt329.1 bt329.2.1).bind fun t332 => (if t332 = 0 then (some (a1, bt323.2.2, bt326.2.2, bt329.2.2, 0)) else (some ((⟨#[]⟩ : ByteArray), (⟨#[]⟩ : ByteArray), (⟨#[]⟩ : ByteArray), (⟨#[]⟩ : ByteArray), 8)))) else (some ((⟨#[]⟩ : ByteArray), (⟨#[]⟩ : ByteArray), (⟨#[]⟩ : ByteArray), (⟨#[]⟩ : ByteArray), 8)))))))) = some (r1, r2, r3, r4, r5) := h
 clear h
 replace H := Option.bind_eq_some_iff.mp H
 obtain ⟨t318, A30, H⟩ := H
 try dsimp only at H
 have A3 := As_ A30
 clear A30
 replace H := Option.bind_eq_some_iff.mp H
 obtain ⟨⟨t319, t320⟩, A40, H⟩ := H
 try dsimp only at H
 have A4 := As_ A40
 clear A40
 replace H := Option.bind_eq_some_iff.mp H
 obtain ⟨⟨t323, t324, t325⟩, A50, H⟩ := H
 try dsimp only at H
 have A5 := As_ A50
 clear A50
 replace H := Option.bind_eq_some_iff.mp H
 obtain ⟨⟨t326, t327, t328⟩, A60, H⟩ := H
 try dsimp only at H
 have A6 := As_ A60
 clear A60
 replace H := Option.bind_eq_some_iff.mp H
 obtain ⟨⟨t329, t330, t331⟩, A70, H⟩ := H
 try dsimp only at H
 have A7 := As_ A70
 clear A70
 by_cases c8 : t320 = true
 ·subst c8
  have H1 : ((footbridgeref01_R_Done.f t329 t330).bind fun t332 => (if t332 = 0 then (some (a1, t325, t328, t331, 0)) else (some ((⟨#[]⟩ : ByteArray), (⟨#[]⟩ : ByteArray), (⟨#[]⟩ : ByteArray), (⟨#[]⟩ : ByteArray), 8)))) = some (r1, r2, r3, r4, r5) := by rw [if_pos rfl] at H; exact H
  clear H
  have H := H1
  clear H1
  replace H := Option.bind_eq_some_iff.mp H
  obtain ⟨t332, A90, H⟩ := H
  try dsimp only at H
  have A9 := As_ A90
  clear A90
  by_cases c10 : t332 = 0
  ·rw [if_pos c10] at H
   have c10b0 : (t332 == 0) = true := beq_iff_eq.mpr c10
   have c10b1 : (t332 != 0) = false := bne_eq_false_iff_eq.mpr c10
   clear c10
   simp only [Option.some.injEq, Prod.mk.injEq] at H
   obtain ⟨rfl, rfl, rfl, rfl, rfl⟩ := H
   go_enter Tryz.func68, Tryz.ntmps68
   go_wp2_with (first | ((with_reducible refine gate_dst (N := 4) rfl ?_); refine bxE (N := 4) (cs := #[.string ⟨#[]⟩, .string ⟨#[]⟩, .string ⟨#[]⟩, .string ⟨#[]⟩]) (t := 66) ?_; intro gb317 hg w11 hbox hb; have BK317 := As_ (hbox); have GW317 := As_ ((by rw [hg]; exact (below_size ap50_) : w.heap.size ≤ gb317)); have GE317 := As_ ((by rw [hg]; exact (below_size ap50_) : w.heap.size ≤ gb317)); replace HB := As_ (below_step ap50_ hb); clear hb hbox hg) | ((with_reducible refine gate_callee (f := 66) rfl ?_); refine gk_ (some 16) Tryz.func66 #[.string a1] ?_; (with_reducible refine (footbridgeref22_key.calls k a1 t318 _ A3.out).mono ?_); rintro e w12 ⟨rfl, hb⟩; refine ⟨_, rfl, ?_⟩; replace BK317 := As_ (blk_below (g := gb317) (o := .cells #[.string ⟨#[]⟩, .string ⟨#[]⟩, .string ⟨#[]⟩, .string ⟨#[]⟩] 66 (0, 0)) ap40_ hb); replace HB := As_ (below_step ap60_ hb); (try clear hb); (try clear hb2); (try clear hk); (try clear hi)) | ((with_reducible refine gate_callee (f := 40) rfl ?_); refine gk_ (some 17) Tryz.func40 #[.slice A0 l0.length c0, .string t318] ?_; (with_reducible refine (footbridgeref09_Get.calls k _ _ l0 t318 t319 true _ ?side1 ?side2 A4.out).mono ?_); (case side1 => repeat (first | exact (Kd.C_below HR0.out HB.out) | (with_reducible refine Kd.C_alloc ?_ _) | (with_reducible refine Kd.C_drewN ?_ _) | (with_reducible refine Kd.C_drew ?_))); (case side2 => exact HC0.out); rintro e w' ⟨rfl, ⟨nd, rfl⟩⟩; refine ⟨_, rfl, ?_⟩; (try (rw [drewN_self w12]; generalize hq_ : World.drewN w12 _ = w12; have n0_ : Aside0 (w12.heap[gb317]? = some (.cells #[.string ⟨#[]⟩, .string ⟨#[]⟩, .string ⟨#[]⟩, .string ⟨#[]⟩] 66 (0, 0))) := ⟨by rw [← hq_]; exact ap40_⟩; have n1_ : Aside0 (Below w.heap.size w w12) := ⟨by rw [← hq_]; exact ap60_⟩; clear BK317 HB hq_; have BK317 := n0_; have HB := n1_; clear n0_ n1_))) | ((with_reducible refine gate_dst (N := 8) rfl ?_); refine bxE (N := 8) (cs := #[.string ⟨#[]⟩, .string ⟨#[]⟩, .string ⟨#[]⟩, .string ⟨#[]⟩]) (t := 66) ?_; intro gb321 hg w13 hbox hb; have BK321 := As_ (hbox); have GW321 := As_ ((by rw [hg]; exact (below_size ap60_) : w.heap.size ≤ gb321)); have GE321 := As_ ((by rw [hg]; exact (below_size ap60_) : w.heap.size ≤ gb321)); replace HB := As_ (below_step ap60_ hb); have NB317_321 := As_ ((by rw [hg]; exact Nat.ne_of_lt (blk_lt (g := gb317) (o := .cells #[.string ⟨#[]⟩, .string ⟨#[]⟩, .string ⟨#[]⟩, .string ⟨#[]⟩] 66 (0, 0)) ap40_) : gb317 ≠ gb321)); have NB321_317 := As_ ((by rw [hg]; exact Nat.ne_of_gt (blk_lt (g := gb317) (o := .cells #[.string ⟨#[]⟩, .string ⟨#[]⟩, .string ⟨#[]⟩, .string ⟨#[]⟩] 66 (0, 0)) ap40_) : gb321 ≠ gb317)); replace BK317 := As_ (blk_below (g := gb317) (o := .cells #[.string ⟨#[]⟩, .string ⟨#[]⟩, .string ⟨#[]⟩, .string ⟨#[]⟩] 66 (0, 0)) ap40_ hb); clear hb hbox hg; have hnb14 := NB321_317.out; have hnc14 := NB317_321.out; obtain ⟨hcz15_0, hfz15_0, hcz15_1, hfz15_1, hcz15_2, hfz15_2, hcz15_3, hfz15_3⟩ := clN4 BK321.out) | ((with_reducible refine gate_dst (N := 9) rfl ?_); refine bxE (N := 9) (cs := #[.string ⟨#[]⟩, .int .i64 0]) (t := 75) ?_; intro gb322 hg w16 hbox hb; have BK322 := As_ (hbox); have GW322 := As_ ((by rw [hg]; exact (below_size ap76_) : w.heap.size ≤ gb322)); have GE322 := As_ ((by rw [hg]; exact (below_size ap76_) : w.heap.size ≤ gb322)); replace HB := As_ (below_step ap76_ hb); have NB317_322 := As_ ((by rw [hg]; exact Nat.ne_of_lt (blk_lt (g := gb317) (o := .cells #[.string ⟨#[]⟩, .string ⟨#[]⟩, .string ⟨#[]⟩, .string ⟨#[]⟩] 66 (0, 0)) ap106_) : gb317 ≠ gb322)); have NB322_317 := As_ ((by rw [hg]; exact Nat.ne_of_gt (blk_lt (g := gb317) (o := .cells #[.string ⟨#[]⟩, .string ⟨#[]⟩, .string ⟨#[]⟩, .string ⟨#[]⟩] 66 (0, 0)) ap106_) : gb322 ≠ gb317)); replace BK317 := As_ (blk_below (g := gb317) (o := .cells #[.string ⟨#[]⟩, .string ⟨#[]⟩, .string ⟨#[]⟩, .string ⟨#[]⟩] 66 (0, 0)) ap106_ hb); have NB321_322 := As_ ((by rw [hg]; exact Nat.ne_of_lt (blk_lt (g := gb321) (o := .cells #[.string a1, .string ⟨#[]⟩, .string ⟨#[]⟩, .string ⟨#[]⟩] 66 (0, 0)) ap109_) : gb321 ≠ gb322)); have NB322_321 := As_ ((by rw [hg]; exact Nat.ne_of_gt (blk_lt (g := gb321) (o := .cells #[.string a1, .string ⟨#[]⟩, .string ⟨#[]⟩, .string ⟨#[]⟩] 66 (0, 0)) ap109_) : gb322 ≠ gb321)); replace BK321 := As_ (blk_below (g := gb321) (o := .cells #[.string a1, .string ⟨#[]⟩, .string ⟨#[]⟩, .string ⟨#[]⟩] 66 (0, 0)) ap109_ hb); clear hb hbox hg; have hnb17 := NB322_317.out; have hnc17 := NB317_322.out; have hnb18 := NB322_321.out; have hnc18 := NB321_322.out; obtain ⟨hcz19_0, hfz19_0, hcz19_1, hfz19_1⟩ := clN2 BK322.out) | ((with_reducible refine gate_callee (f := 42) rfl ?_); refine gk_ (some 26) Tryz.func42 #[.agg #[.string t319, .int .i64 0]] ?_; (with_reducible refine (footbridgeref01_R_Text.calls k t319 0 t323 t324 t325 _ A5.out).mono ?_); rintro e w20 ⟨rfl, hb⟩; refine ⟨_, rfl, ?_⟩; replace BK317 := As_ (blk_below (g := gb317) (o := .cells #[.string ⟨#[]⟩, .string ⟨#[]⟩, .string ⟨#[]⟩, .string ⟨#[]⟩] 66 (0, 0)) ap83_ hb); replace BK321 := As_ (blk_below (g := gb321) (o := .cells #[.string a1, .string ⟨#[]⟩, .string ⟨#[]⟩, .string ⟨#[]⟩] 66 (0, 0)) ap82_ hb); replace BK322 := As_ (blk_below (g := gb322) (o := .cells #[.string t319, .int .i64 0] 75 (0, 0)) ap88_ hb); replace HB := As_ (below_step ap79_ hb); (try clear hb); (try clear hb2); (try clear hk); (try clear hi); obtain ⟨hcz21_0, hfz21_0, hcz21_1, hfz21_1⟩ := clN2 BK322.out; obtain ⟨hcz22_0, hfz22_0, hcz22_1, hfz22_1, hcz22_2, hfz22_2, hcz22_3, hfz22_3⟩ := clN4 BK321.out) | ((with_reducible refine gate_callee (f := 42) rfl ?_); refine gk_ (some 33) Tryz.func42 #[.agg #[.string t323, .int .i64 t324]] ?_; (with_reducible refine (footbridgeref01_R_Text.calls k t323 t324 t326 t327 t328 _ A6.out).mono ?_); rintro e w23 ⟨rfl, hb⟩; refine ⟨_, rfl, ?_⟩; replace BK317 := As_ (blk_below (g := gb317) (o := .cells #[.string ⟨#[]⟩, .string ⟨#[]⟩, .string ⟨#[]⟩, .string ⟨#[]⟩] 66 (0, 0)) ap91_ hb); replace BK321 := As_ (blk_below (g := gb321) (o := .cells #[.string a1, .string t325, .string ⟨#[]⟩, .string ⟨#[]⟩] 66 (0, 0)) ap98_ hb); replace BK322 := As_ (blk_below (g := gb322) (o := .cells #[.string t323, .int .i64 t324] 75 (0, 0)) ap96_ hb); replace HB := As_ (below_step ap79_ hb); (try clear hb); (try clear hb2); (try clear hk); (try clear hi); obtain ⟨hcz24_0, hfz24_0, hcz24_1, hfz24_1⟩ := clN2 BK322.out; obtain ⟨hcz25_0, hfz25_0, hcz25_1, hfz25_1, hcz25_2, hfz25_2, hcz25_3, hfz25_3⟩ := clN4 BK321.out) | ((with_reducible refine gate_callee (f := 42) rfl ?_); refine gk_ (some 40) Tryz.func42 #[.agg #[.string t326, .int .i64 t327]] ?_; (with_reducible refine (footbridgeref01_R_Text.calls k t326 t327 t329 t330 t331 _ A7.out).mono ?_); rintro e w26 ⟨rfl, hb⟩; refine ⟨_, rfl, ?_⟩; replace BK317 := As_ (blk_below (g := gb317) (o := .cells #[.string ⟨#[]⟩, .string ⟨#[]⟩, .string ⟨#[]⟩, .string ⟨#[]⟩] 66 (0, 0)) ap91_ hb); replace BK321 := As_ (blk_below (g := gb321) (o := .cells #[.string a1, .string t325, .string t328, .string ⟨#[]⟩] 66 (0, 0)) ap95_ hb); replace BK322 := As_ (blk_below (g := gb322) (o := .cells #[.string t326, .int .i64 t327] 75 (0, 0)) ap99_ hb); replace HB := As_ (below_step ap79_ hb); (try clear hb); (try clear hb2); (try clear hk); (try clear hi); obtain ⟨hcz27_0, hfz27_0, hcz27_1, hfz27_1⟩ := clN2 BK322.out; obtain ⟨hcz28_0, hfz28_0, hcz28_1, hfz28_1, hcz28_2, hfz28_2, hcz28_3, hfz28_3⟩ := clN4 BK321.out) | (go_at_call 43; (with_reducible refine (footbridgeref01_R_Done.calls t329 t330 t332 _ A9.out).mono ?_); rintro e w29 ⟨rfl, hb⟩; replace BK317 := As_ (blk_below (g := gb317) (o := .cells #[.string ⟨#[]⟩, .string ⟨#[]⟩, .string ⟨#[]⟩, .string ⟨#[]⟩] 66 (0, 0)) ap91_ hb); replace BK321 := As_ (blk_below (g := gb321) (o := .cells #[.string a1, .string t325, .string t328, .string t331] 66 (0, 0)) ap94_ hb); replace BK322 := As_ (blk_below (g := gb322) (o := .cells #[.string t329, .int .i64 t330] 75 (0, 0)) ap101_ hb); replace HB := As_ (below_step ap79_ hb); (try clear hb); (try clear hb2); (try clear hk); (try clear hi); obtain ⟨hcz30_0, hfz30_0, hcz30_1, hfz30_1, hcz30_2, hfz30_2, hcz30_3, hfz30_3⟩ := clN4 BK321.out; obtain ⟨hcz31_0, hfz31_0, hcz31_1, hfz31_1, hcz31_2, hfz31_2, hcz31_3, hfz31_3⟩ := clN4 BK317.out))
   refine bodyPost_ret (results_ct rfl _ _ gb317 66 #[.string a1, .string t325, .string t328, .string t331] (0, 0) _ rfl (by (with_reducible repeat (first | refine blk_drewN ?_ _ | refine blk_drew ?_ | refine blk_alloc ?_ _)); refine blk_put (cs := #[.string a1, .string t325, .string t328, .string ⟨#[]⟩]) ?_ 3 _ rfl; (with_reducible repeat (first | refine blk_drewN ?_ _ | refine blk_drew ?_ | refine blk_alloc ?_ _)); refine blk_put (cs := #[.string a1, .string t325, .string ⟨#[]⟩, .string ⟨#[]⟩]) ?_ 2 _ rfl; (with_reducible repeat (first | refine blk_drewN ?_ _ | refine blk_drew ?_ | refine blk_alloc ?_ _)); refine blk_put (cs := #[.string a1, .string ⟨#[]⟩, .string ⟨#[]⟩, .string ⟨#[]⟩]) ?_ 1 _ rfl; (with_reducible repeat (first | refine blk_drewN ?_ _ | refine blk_drew ?_ | refine blk_alloc ?_ _)); refine blk_put (cs := #[.string ⟨#[]⟩, .string ⟨#[]⟩, .string ⟨#[]⟩, .string ⟨#[]⟩]) ?_ 0 _ rfl; (with_reducible repeat (first | refine blk_drewN ?_ _ | refine blk_drew ?_ | refine blk_alloc ?_ _)); exact BK317.out) Tryz.underlying66 rfl (by kernel_rfl)) rfl ?_
   exact ⟨ap17_, ap79_⟩
  ·rw [if_neg c10] at H
   have c10b0 : (t332 == 0) = false := beq_eq_false_iff_ne.mpr c10
   have c10b1 : (t332 != 0) = true := bne_iff_ne.mpr c10
   simp only [Option.some.injEq, Prod.mk.injEq] at H
   obtain ⟨rfl, rfl, rfl, rfl, rfl⟩ := H
   go_enter Tryz.func68, Tryz.ntmps68
   go_wp2_with (first | ((with_reducible refine gate_dst (N := 4) rfl ?_); refine bxE (N := 4) (cs := #[.string ⟨#[]⟩, .string ⟨#[]⟩, .string ⟨#[]⟩, .string ⟨#[]⟩]) (t := 66) ?_; intro gb317 hg w32 hbox hb; have BK317 := As_ (hbox); have GW317 := As_ ((by rw [hg]; exact (below_size ap50_) : w.heap.size ≤ gb317)); have GE317 := As_ ((by rw [hg]; exact (below_size ap50_) : w.heap.size ≤ gb317)); replace HB := As_ (below_step ap50_ hb); clear hb hbox hg) | ((with_reducible refine gate_callee (f := 66) rfl ?_); refine gk_ (some 16) Tryz.func66 #[.string a1] ?_; (with_reducible refine (footbridgeref22_key.calls k a1 t318 _ A3.out).mono ?_); rintro e w33 ⟨rfl, hb⟩; refine ⟨_, rfl, ?_⟩; replace BK317 := As_ (blk_below (g := gb317) (o := .cells #[.string ⟨#[]⟩, .string ⟨#[]⟩, .string ⟨#[]⟩, .string ⟨#[]⟩] 66 (0, 0)) ap40_ hb); replace HB := As_ (below_step ap60_ hb); (try clear hb); (try clear hb2); (try clear hk); (try clear hi)) | ((with_reducible refine gate_callee (f := 40) rfl ?_); refine gk_ (some 17) Tryz.func40 #[.slice A0 l0.length c0, .string t318] ?_; (with_reducible refine (footbridgeref09_Get.calls k _ _ l0 t318 t319 true _ ?side1 ?side2 A4.out).mono ?_); (case side1 => repeat (first | exact (Kd.C_below HR0.out HB.out) | (with_reducible refine Kd.C_alloc ?_ _) | (with_reducible refine Kd.C_drewN ?_ _) | (with_reducible refine Kd.C_drew ?_))); (case side2 => exact HC0.out); rintro e w' ⟨rfl, ⟨nd, rfl⟩⟩; refine ⟨_, rfl, ?_⟩; (try (rw [drewN_self w33]; generalize hq_ : World.drewN w33 _ = w33; have n0_ : Aside0 (w33.heap[gb317]? = some (.cells #[.string ⟨#[]⟩, .string ⟨#[]⟩, .string ⟨#[]⟩, .string ⟨#[]⟩] 66 (0, 0))) := ⟨by rw [← hq_]; exact ap40_⟩; have n1_ : Aside0 (Below w.heap.size w w33) := ⟨by rw [← hq_]; exact ap60_⟩; clear BK317 HB hq_; have BK317 := n0_; have HB := n1_; clear n0_ n1_))) | ((with_reducible refine gate_dst (N := 8) rfl ?_); refine bxE (N := 8) (cs := #[.string ⟨#[]⟩, .string ⟨#[]⟩, .string ⟨#[]⟩, .string ⟨#[]⟩]) (t := 66) ?_; intro gb321 hg w34 hbox hb; have BK321 := As_ (hbox); have GW321 := As_ ((by rw [hg]; exact (below_size ap60_) : w.heap.size ≤ gb321)); have GE321 := As_ ((by rw [hg]; exact (below_size ap60_) : w.heap.size ≤ gb321)); replace HB := As_ (below_step ap60_ hb); have NB317_321 := As_ ((by rw [hg]; exact Nat.ne_of_lt (blk_lt (g := gb317) (o := .cells #[.string ⟨#[]⟩, .string ⟨#[]⟩, .string ⟨#[]⟩, .string ⟨#[]⟩] 66 (0, 0)) ap40_) : gb317 ≠ gb321)); have NB321_317 := As_ ((by rw [hg]; exact Nat.ne_of_gt (blk_lt (g := gb317) (o := .cells #[.string ⟨#[]⟩, .string ⟨#[]⟩, .string ⟨#[]⟩, .string ⟨#[]⟩] 66 (0, 0)) ap40_) : gb321 ≠ gb317)); replace BK317 := As_ (blk_below (g := gb317) (o := .cells #[.string ⟨#[]⟩, .string ⟨#[]⟩, .string ⟨#[]⟩, .string ⟨#[]⟩] 66 (0, 0)) ap40_ hb); clear hb hbox hg; have hnb35 := NB321_317.out; have hnc35 := NB317_321.out; obtain ⟨hcz36_0, hfz36_0, hcz36_1, hfz36_1, hcz36_2, hfz36_2, hcz36_3, hfz36_3⟩ := clN4 BK321.out) | ((with_reducible refine gate_dst (N := 9) rfl ?_); refine bxE (N := 9) (cs := #[.string ⟨#[]⟩, .int .i64 0]) (t := 75) ?_; intro gb322 hg w37 hbox hb; have BK322 := As_ (hbox); have GW322 := As_ ((by rw [hg]; exact (below_size ap76_) : w.heap.size ≤ gb322)); have GE322 := As_ ((by rw [hg]; exact (below_size ap76_) : w.heap.size ≤ gb322)); replace HB := As_ (below_step ap76_ hb); have NB317_322 := As_ ((by rw [hg]; exact Nat.ne_of_lt (blk_lt (g := gb317) (o := .cells #[.string ⟨#[]⟩, .string ⟨#[]⟩, .string ⟨#[]⟩, .string ⟨#[]⟩] 66 (0, 0)) ap106_) : gb317 ≠ gb322)); have NB322_317 := As_ ((by rw [hg]; exact Nat.ne_of_gt (blk_lt (g := gb317) (o := .cells #[.string ⟨#[]⟩, .string ⟨#[]⟩, .string ⟨#[]⟩, .string ⟨#[]⟩] 66 (0, 0)) ap106_) : gb322 ≠ gb317)); replace BK317 := As_ (blk_below (g := gb317) (o := .cells #[.string ⟨#[]⟩, .string ⟨#[]⟩, .string ⟨#[]⟩, .string ⟨#[]⟩] 66 (0, 0)) ap106_ hb); have NB321_322 := As_ ((by rw [hg]; exact Nat.ne_of_lt (blk_lt (g := gb321) (o := .cells #[.string a1, .string ⟨#[]⟩, .string ⟨#[]⟩, .string ⟨#[]⟩] 66 (0, 0)) ap109_) : gb321 ≠ gb322)); have NB322_321 := As_ ((by rw [hg]; exact Nat.ne_of_gt (blk_lt (g := gb321) (o := .cells #[.string a1, .string ⟨#[]⟩, .string ⟨#[]⟩, .string ⟨#[]⟩] 66 (0, 0)) ap109_) : gb322 ≠ gb321)); replace BK321 := As_ (blk_below (g := gb321) (o := .cells #[.string a1, .string ⟨#[]⟩, .string ⟨#[]⟩, .string ⟨#[]⟩] 66 (0, 0)) ap109_ hb); clear hb hbox hg; have hnb38 := NB322_317.out; have hnc38 := NB317_322.out; have hnb39 := NB322_321.out; have hnc39 := NB321_322.out; obtain ⟨hcz40_0, hfz40_0, hcz40_1, hfz40_1⟩ := clN2 BK322.out) | ((with_reducible refine gate_callee (f := 42) rfl ?_); refine gk_ (some 26) Tryz.func42 #[.agg #[.string t319, .int .i64 0]] ?_; (with_reducible refine (footbridgeref01_R_Text.calls k t319 0 t323 t324 t325 _ A5.out).mono ?_); rintro e w41 ⟨rfl, hb⟩; refine ⟨_, rfl, ?_⟩; replace BK317 := As_ (blk_below (g := gb317) (o := .cells #[.string ⟨#[]⟩, .string ⟨#[]⟩, .string ⟨#[]⟩, .string ⟨#[]⟩] 66 (0, 0)) ap83_ hb); replace BK321 := As_ (blk_below (g := gb321) (o := .cells #[.string a1, .string ⟨#[]⟩, .string ⟨#[]⟩, .string ⟨#[]⟩] 66 (0, 0)) ap82_ hb); replace BK322 := As_ (blk_below (g := gb322) (o := .cells #[.string t319, .int .i64 0] 75 (0, 0)) ap88_ hb); replace HB := As_ (below_step ap79_ hb); (try clear hb); (try clear hb2); (try clear hk); (try clear hi); obtain ⟨hcz42_0, hfz42_0, hcz42_1, hfz42_1⟩ := clN2 BK322.out; obtain ⟨hcz43_0, hfz43_0, hcz43_1, hfz43_1, hcz43_2, hfz43_2, hcz43_3, hfz43_3⟩ := clN4 BK321.out) | ((with_reducible refine gate_callee (f := 42) rfl ?_); refine gk_ (some 33) Tryz.func42 #[.agg #[.string t323, .int .i64 t324]] ?_; (with_reducible refine (footbridgeref01_R_Text.calls k t323 t324 t326 t327 t328 _ A6.out).mono ?_); rintro e w44 ⟨rfl, hb⟩; refine ⟨_, rfl, ?_⟩; replace BK317 := As_ (blk_below (g := gb317) (o := .cells #[.string ⟨#[]⟩, .string ⟨#[]⟩, .string ⟨#[]⟩, .string ⟨#[]⟩] 66 (0, 0)) ap91_ hb); replace BK321 := As_ (blk_below (g := gb321) (o := .cells #[.string a1, .string t325, .string ⟨#[]⟩, .string ⟨#[]⟩] 66 (0, 0)) ap98_ hb); replace BK322 := As_ (blk_below (g := gb322) (o := .cells #[.string t323, .int .i64 t324] 75 (0, 0)) ap96_ hb); replace HB := As_ (below_step ap79_ hb); (try clear hb); (try clear hb2); (try clear hk); (try clear hi); obtain ⟨hcz45_0, hfz45_0, hcz45_1, hfz45_1⟩ := clN2 BK322.out; obtain ⟨hcz46_0, hfz46_0, hcz46_1, hfz46_1, hcz46_2, hfz46_2, hcz46_3, hfz46_3⟩ := clN4 BK321.out) | ((with_reducible refine gate_callee (f := 42) rfl ?_); refine gk_ (some 40) Tryz.func42 #[.agg #[.string t326, .int .i64 t327]] ?_; (with_reducible refine (footbridgeref01_R_Text.calls k t326 t327 t329 t330 t331 _ A7.out).mono ?_); rintro e w47 ⟨rfl, hb⟩; refine ⟨_, rfl, ?_⟩; replace BK317 := As_ (blk_below (g := gb317) (o := .cells #[.string ⟨#[]⟩, .string ⟨#[]⟩, .string ⟨#[]⟩, .string ⟨#[]⟩] 66 (0, 0)) ap91_ hb); replace BK321 := As_ (blk_below (g := gb321) (o := .cells #[.string a1, .string t325, .string t328, .string ⟨#[]⟩] 66 (0, 0)) ap95_ hb); replace BK322 := As_ (blk_below (g := gb322) (o := .cells #[.string t326, .int .i64 t327] 75 (0, 0)) ap99_ hb); replace HB := As_ (below_step ap79_ hb); (try clear hb); (try clear hb2); (try clear hk); (try clear hi); obtain ⟨hcz48_0, hfz48_0, hcz48_1, hfz48_1⟩ := clN2 BK322.out; obtain ⟨hcz49_0, hfz49_0, hcz49_1, hfz49_1, hcz49_2, hfz49_2, hcz49_3, hfz49_3⟩ := clN4 BK321.out) | (go_at_call 43; (with_reducible refine (footbridgeref01_R_Done.calls t329 t330 t332 _ A9.out).mono ?_); rintro e w50 ⟨rfl, hb⟩; replace BK317 := As_ (blk_below (g := gb317) (o := .cells #[.string ⟨#[]⟩, .string ⟨#[]⟩, .string ⟨#[]⟩, .string ⟨#[]⟩] 66 (0, 0)) ap91_ hb); replace BK321 := As_ (blk_below (g := gb321) (o := .cells #[.string a1, .string t325, .string t328, .string t331] 66 (0, 0)) ap94_ hb); replace BK322 := As_ (blk_below (g := gb322) (o := .cells #[.string t329, .int .i64 t330] 75 (0, 0)) ap101_ hb); replace HB := As_ (below_step ap79_ hb); (try clear hb); (try clear hb2); (try clear hk); (try clear hi); obtain ⟨hcz51_0, hfz51_0, hcz51_1, hfz51_1, hcz51_2, hfz51_2, hcz51_3, hfz51_3⟩ := clN4 BK317.out))
   refine bodyPost_ret (results_ct rfl _ _ gb317 66 #[.string ⟨#[]⟩, .string ⟨#[]⟩, .string ⟨#[]⟩, .string ⟨#[]⟩] (0, 0) _ rfl (by (with_reducible repeat (first | refine blk_drewN ?_ _ | refine blk_drew ?_ | refine blk_alloc ?_ _)); refine blk_put (cs := #[.string ⟨#[]⟩, .string ⟨#[]⟩, .string ⟨#[]⟩, .string ⟨#[]⟩]) ?_ 3 _ rfl; (with_reducible repeat (first | refine blk_drewN ?_ _ | refine blk_drew ?_ | refine blk_alloc ?_ _)); refine blk_put (cs := #[.string ⟨#[]⟩, .string ⟨#[]⟩, .string ⟨#[]⟩, .string ⟨#[]⟩]) ?_ 2 _ rfl; (with_reducible repeat (first | refine blk_drewN ?_ _ | refine blk_drew ?_ | refine blk_alloc ?_ _)); refine blk_put (cs := #[.string ⟨#[]⟩, .string ⟨#[]⟩, .string ⟨#[]⟩, .string ⟨#[]⟩]) ?_ 1 _ rfl; (with_reducible repeat (first | refine blk_drewN ?_ _ | refine blk_drew ?_ | refine blk_alloc ?_ _)); refine blk_put (cs := #[.string ⟨#[]⟩, .string ⟨#[]⟩, .string ⟨#[]⟩, .string ⟨#[]⟩]) ?_ 0 _ rfl; (with_reducible repeat (first | refine blk_drewN ?_ _ | refine blk_drew ?_ | refine blk_alloc ?_ _)); exact BK317.out) Tryz.underlying66 rfl (by kernel_rfl)) rfl ?_
   exact ⟨ap17_, ap79_⟩
 ·replace c8 := Bool.eq_false_iff.mpr c8
  subst c8
  have H1 : (some ((⟨#[]⟩ : ByteArray), (⟨#[]⟩ : ByteArray), (⟨#[]⟩ : ByteArray), (⟨#[]⟩ : ByteArray), 8)) = some (r1, r2, r3, r4, r5) := by rw [if_neg (show ¬ (false = true) by decide)] at H; exact H
  clear H
  have H := H1
  clear H1
  simp only [Option.some.injEq, Prod.mk.injEq] at H
  obtain ⟨rfl, rfl, rfl, rfl, rfl⟩ := H
  go_enter Tryz.func68, Tryz.ntmps68
  go_wp2_with (first | ((with_reducible refine gate_dst (N := 4) rfl ?_); refine bxE (N := 4) (cs := #[.string ⟨#[]⟩, .string ⟨#[]⟩, .string ⟨#[]⟩, .string ⟨#[]⟩]) (t := 66) ?_; intro gb317 hg w52 hbox hb; have BK317 := As_ (hbox); have GW317 := As_ ((by rw [hg]; exact (below_size ap50_) : w.heap.size ≤ gb317)); have GE317 := As_ ((by rw [hg]; exact (below_size ap50_) : w.heap.size ≤ gb317)); replace HB := As_ (below_step ap50_ hb); clear hb hbox hg) | ((with_reducible refine gate_callee (f := 66) rfl ?_); refine gk_ (some 16) Tryz.func66 #[.string a1] ?_; (with_reducible refine (footbridgeref22_key.calls k a1 t318 _ A3.out).mono ?_); rintro e w53 ⟨rfl, hb⟩; refine ⟨_, rfl, ?_⟩; replace BK317 := As_ (blk_below (g := gb317) (o := .cells #[.string ⟨#[]⟩, .string ⟨#[]⟩, .string ⟨#[]⟩, .string ⟨#[]⟩] 66 (0, 0)) ap40_ hb); replace HB := As_ (below_step ap60_ hb); (try clear hb); (try clear hb2); (try clear hk); (try clear hi)) | ((with_reducible refine gate_callee (f := 40) rfl ?_); refine gk_ (some 17) Tryz.func40 #[.slice A0 l0.length c0, .string t318] ?_; (with_reducible refine (footbridgeref09_Get.calls k _ _ l0 t318 t319 false _ ?side1 ?side2 A4.out).mono ?_); (case side1 => repeat (first | exact (Kd.C_below HR0.out HB.out) | (with_reducible refine Kd.C_alloc ?_ _) | (with_reducible refine Kd.C_drewN ?_ _) | (with_reducible refine Kd.C_drew ?_))); (case side2 => exact HC0.out); rintro e w' ⟨rfl, ⟨nd, rfl⟩⟩; refine ⟨_, rfl, ?_⟩; (try (rw [drewN_self w53]; generalize hq_ : World.drewN w53 _ = w53; have n0_ : Aside0 (w53.heap[gb317]? = some (.cells #[.string ⟨#[]⟩, .string ⟨#[]⟩, .string ⟨#[]⟩, .string ⟨#[]⟩] 66 (0, 0))) := ⟨by rw [← hq_]; exact ap40_⟩; have n1_ : Aside0 (Below w.heap.size w w53) := ⟨by rw [← hq_]; exact ap60_⟩; clear BK317 HB hq_; have BK317 := n0_; have HB := n1_; clear n0_ n1_))) | ((with_reducible refine gate_dst (N := 8) rfl ?_); refine bxE (N := 8) (cs := #[.string ⟨#[]⟩, .string ⟨#[]⟩, .string ⟨#[]⟩, .string ⟨#[]⟩]) (t := 66) ?_; intro gb321 hg w54 hbox hb; have BK321 := As_ (hbox); have GW321 := As_ ((by rw [hg]; exact (below_size ap60_) : w.heap.size ≤ gb321)); have GE321 := As_ ((by rw [hg]; exact (below_size ap60_) : w.heap.size ≤ gb321)); replace HB := As_ (below_step ap60_ hb); have NB317_321 := As_ ((by rw [hg]; exact Nat.ne_of_lt (blk_lt (g := gb317) (o := .cells #[.string ⟨#[]⟩, .string ⟨#[]⟩, .string ⟨#[]⟩, .string ⟨#[]⟩] 66 (0, 0)) ap40_) : gb317 ≠ gb321)); have NB321_317 := As_ ((by rw [hg]; exact Nat.ne_of_gt (blk_lt (g := gb317) (o := .cells #[.string ⟨#[]⟩, .string ⟨#[]⟩, .string ⟨#[]⟩, .string ⟨#[]⟩] 66 (0, 0)) ap40_) : gb321 ≠ gb317)); replace BK317 := As_ (blk_below (g := gb317) (o := .cells #[.string ⟨#[]⟩, .string ⟨#[]⟩, .string ⟨#[]⟩, .string ⟨#[]⟩] 66 (0, 0)) ap40_ hb); clear hb hbox hg; have hnb55 := NB321_317.out; have hnc55 := NB317_321.out; obtain ⟨hcz56_0, hfz56_0, hcz56_1, hfz56_1, hcz56_2, hfz56_2, hcz56_3, hfz56_3⟩ := clN4 BK321.out) | ((with_reducible refine gate_dst (N := 9) rfl ?_); refine bxE (N := 9) (cs := #[.string ⟨#[]⟩, .int .i64 0]) (t := 75) ?_; intro gb322 hg w57 hbox hb; have BK322 := As_ (hbox); have GW322 := As_ ((by rw [hg]; exact (below_size ap76_) : w.heap.size ≤ gb322)); have GE322 := As_ ((by rw [hg]; exact (below_size ap76_) : w.heap.size ≤ gb322)); replace HB := As_ (below_step ap76_ hb); have NB317_322 := As_ ((by rw [hg]; exact Nat.ne_of_lt (blk_lt (g := gb317) (o := .cells #[.string ⟨#[]⟩, .string ⟨#[]⟩, .string ⟨#[]⟩, .string ⟨#[]⟩] 66 (0, 0)) ap106_) : gb317 ≠ gb322)); have NB322_317 := As_ ((by rw [hg]; exact Nat.ne_of_gt (blk_lt (g := gb317) (o := .cells #[.string ⟨#[]⟩, .string ⟨#[]⟩, .string ⟨#[]⟩, .string ⟨#[]⟩] 66 (0, 0)) ap106_) : gb322 ≠ gb317)); replace BK317 := As_ (blk_below (g := gb317) (o := .cells #[.string ⟨#[]⟩, .string ⟨#[]⟩, .string ⟨#[]⟩, .string ⟨#[]⟩] 66 (0, 0)) ap106_ hb); have NB321_322 := As_ ((by rw [hg]; exact Nat.ne_of_lt (blk_lt (g := gb321) (o := .cells #[.string a1, .string ⟨#[]⟩, .string ⟨#[]⟩, .string ⟨#[]⟩] 66 (0, 0)) ap109_) : gb321 ≠ gb322)); have NB322_321 := As_ ((by rw [hg]; exact Nat.ne_of_gt (blk_lt (g := gb321) (o := .cells #[.string a1, .string ⟨#[]⟩, .string ⟨#[]⟩, .string ⟨#[]⟩] 66 (0, 0)) ap109_) : gb322 ≠ gb321)); replace BK321 := As_ (blk_below (g := gb321) (o := .cells #[.string a1, .string ⟨#[]⟩, .string ⟨#[]⟩, .string ⟨#[]⟩] 66 (0, 0)) ap109_ hb); clear hb hbox hg; have hnb58 := NB322_317.out; have hnc58 := NB317_322.out; have hnb59 := NB322_321.out; have hnc59 := NB321_322.out; obtain ⟨hcz60_0, hfz60_0, hcz60_1, hfz60_1⟩ := clN2 BK322.out) | ((with_reducible refine gate_callee (f := 42) rfl ?_); refine gk_ (some 26) Tryz.func42 #[.agg #[.string t319, .int .i64 0]] ?_; (with_reducible refine (footbridgeref01_R_Text.calls k t319 0 t323 t324 t325 _ A5.out).mono ?_); rintro e w61 ⟨rfl, hb⟩; refine ⟨_, rfl, ?_⟩; replace BK317 := As_ (blk_below (g := gb317) (o := .cells #[.string ⟨#[]⟩, .string ⟨#[]⟩, .string ⟨#[]⟩, .string ⟨#[]⟩] 66 (0, 0)) ap83_ hb); replace BK321 := As_ (blk_below (g := gb321) (o := .cells #[.string a1, .string ⟨#[]⟩, .string ⟨#[]⟩, .string ⟨#[]⟩] 66 (0, 0)) ap82_ hb); replace BK322 := As_ (blk_below (g := gb322) (o := .cells #[.string t319, .int .i64 0] 75 (0, 0)) ap88_ hb); replace HB := As_ (below_step ap79_ hb); (try clear hb); (try clear hb2); (try clear hk); (try clear hi); obtain ⟨hcz62_0, hfz62_0, hcz62_1, hfz62_1⟩ := clN2 BK322.out; obtain ⟨hcz63_0, hfz63_0, hcz63_1, hfz63_1, hcz63_2, hfz63_2, hcz63_3, hfz63_3⟩ := clN4 BK321.out) | ((with_reducible refine gate_callee (f := 42) rfl ?_); refine gk_ (some 33) Tryz.func42 #[.agg #[.string t323, .int .i64 t324]] ?_; (with_reducible refine (footbridgeref01_R_Text.calls k t323 t324 t326 t327 t328 _ A6.out).mono ?_); rintro e w64 ⟨rfl, hb⟩; refine ⟨_, rfl, ?_⟩; replace BK317 := As_ (blk_below (g := gb317) (o := .cells #[.string ⟨#[]⟩, .string ⟨#[]⟩, .string ⟨#[]⟩, .string ⟨#[]⟩] 66 (0, 0)) ap91_ hb); replace BK321 := As_ (blk_below (g := gb321) (o := .cells #[.string a1, .string t325, .string ⟨#[]⟩, .string ⟨#[]⟩] 66 (0, 0)) ap98_ hb); replace BK322 := As_ (blk_below (g := gb322) (o := .cells #[.string t323, .int .i64 t324] 75 (0, 0)) ap96_ hb); replace HB := As_ (below_step ap79_ hb); (try clear hb); (try clear hb2); (try clear hk); (try clear hi); obtain ⟨hcz65_0, hfz65_0, hcz65_1, hfz65_1⟩ := clN2 BK322.out; obtain ⟨hcz66_0, hfz66_0, hcz66_1, hfz66_1, hcz66_2, hfz66_2, hcz66_3, hfz66_3⟩ := clN4 BK321.out) | ((with_reducible refine gate_callee (f := 42) rfl ?_); refine gk_ (some 40) Tryz.func42 #[.agg #[.string t326, .int .i64 t327]] ?_; (with_reducible refine (footbridgeref01_R_Text.calls k t326 t327 t329 t330 t331 _ A7.out).mono ?_); rintro e w67 ⟨rfl, hb⟩; refine ⟨_, rfl, ?_⟩; replace BK317 := As_ (blk_below (g := gb317) (o := .cells #[.string ⟨#[]⟩, .string ⟨#[]⟩, .string ⟨#[]⟩, .string ⟨#[]⟩] 66 (0, 0)) ap91_ hb); replace BK321 := As_ (blk_below (g := gb321) (o := .cells #[.string a1, .string t325, .string t328, .string ⟨#[]⟩] 66 (0, 0)) ap95_ hb); replace BK322 := As_ (blk_below (g := gb322) (o := .cells #[.string t326, .int .i64 t327] 75 (0, 0)) ap99_ hb); replace HB := As_ (below_step ap79_ hb); (try clear hb); (try clear hb2); (try clear hk); (try clear hi); obtain ⟨hcz68_0, hfz68_0, hcz68_1, hfz68_1⟩ := clN2 BK322.out; obtain ⟨hcz69_0, hfz69_0, hcz69_1, hfz69_1, hcz69_2, hfz69_2, hcz69_3, hfz69_3⟩ := clN4 BK321.out; obtain ⟨hcz70_0, hfz70_0, hcz70_1, hfz70_1, hcz70_2, hfz70_2, hcz70_3, hfz70_3⟩ := clN4 BK317.out))
  refine bodyPost_ret (results_ct rfl _ _ gb317 66 #[.string ⟨#[]⟩, .string ⟨#[]⟩, .string ⟨#[]⟩, .string ⟨#[]⟩] (0, 0) _ rfl (by (with_reducible repeat (first | refine blk_drewN ?_ _ | refine blk_drew ?_ | refine blk_alloc ?_ _)); refine blk_put (cs := #[.string ⟨#[]⟩, .string ⟨#[]⟩, .string ⟨#[]⟩, .string ⟨#[]⟩]) ?_ 3 _ rfl; (with_reducible repeat (first | refine blk_drewN ?_ _ | refine blk_drew ?_ | refine blk_alloc ?_ _)); refine blk_put (cs := #[.string ⟨#[]⟩, .string ⟨#[]⟩, .string ⟨#[]⟩, .string ⟨#[]⟩]) ?_ 2 _ rfl; (with_reducible repeat (first | refine blk_drewN ?_ _ | refine blk_drew ?_ | refine blk_alloc ?_ _)); refine blk_put (cs := #[.string ⟨#[]⟩, .string ⟨#[]⟩, .string ⟨#[]⟩, .string ⟨#[]⟩]) ?_ 1 _ rfl; (with_reducible repeat (first | refine blk_drewN ?_ _ | refine blk_drew ?_ | refine blk_alloc ?_ _)); refine blk_put (cs := #[.string ⟨#[]⟩, .string ⟨#[]⟩, .string ⟨#[]⟩, .string ⟨#[]⟩]) ?_ 0 _ rfl; (with_reducible repeat (first | refine blk_drewN ?_ _ | refine blk_drew ?_ | refine blk_alloc ?_ _)); refine blk_far ?_ NB317_321.out _; (with_reducible repeat (first | refine blk_drewN ?_ _ | refine blk_drew ?_ | refine blk_alloc ?_ _)); refine blk_far ?_ NB317_322.out _; (with_reducible repeat (first | refine blk_drewN ?_ _ | refine blk_drew ?_ | refine blk_alloc ?_ _)); refine blk_far ?_ NB317_322.out _; (with_reducible repeat (first | refine blk_drewN ?_ _ | refine blk_drew ?_ | refine blk_alloc ?_ _)); exact BK317.out) Tryz.underlying66 rfl (by kernel_rfl)) rfl ?_
  exact ⟨ap17_, ap79_⟩
end
def footbridgeref03_word.f (a0 : Int) : Option (ByteArray) := if a0 = 1 then (some (⟨#[99, 104, 97, 110, 110, 101, 108, 45]⟩ : ByteArray)) else (if a0 = 2 then (some (⟨#[99, 111, 110, 110, 101, 99, 116, 105, 111, 110, 45]⟩ : ByteArray)) else (if a0 = 3 then (some (⟨#[99, 108, 105, 101, 110, 116, 45]⟩ : ByteArray)) else (some (⟨#[]⟩ : ByteArray))))
theorem footbridgeref03_word.calls (a0 : Int) (r : ByteArray) (w : World) (h : footbridgeref03_word.f a0 = some r) :
  Calls Tryz.prog 89 #[.int .i64 a0] w fun e w' => e = .returned (.string r) ∧ Drawn0 w w' := by
 have H : (if a0 = 1 then (some (⟨#[99, 104, 97, 110, 110, 101, 108, 45]⟩ : ByteArray)) else (if a0 = 2 then (some (⟨#[99, 111, 110, 110, 101, 99, 116, 105, 111, 110, 45]⟩ : ByteArray)) else (if a0 = 3 then (some (⟨#[99, 108, 105, 101, 110, 116, 45]⟩ : ByteArray)) else (some (⟨#[]⟩ : ByteArray))))) = some r := h
 clear h
 by_cases c2 : a0 = 1
 ·rw [if_pos c2] at H
  have c2b0 : (a0 == 1) = true := beq_iff_eq.mpr c2
  have c2b1 : (a0 != 1) = false := bne_eq_false_iff_eq.mpr c2
  clear c2
  obtain rfl := Option.some.inj H
  go_enter Tryz.func89, Tryz.ntmps89
  go_wp2
  go_ret
  exact ⟨ap5_, ap10_⟩
 ·rw [if_neg c2] at H
  have c2b0 : (a0 == 1) = false := beq_eq_false_iff_ne.mpr c2
  have c2b1 : (a0 != 1) = true := bne_iff_ne.mpr c2
  by_cases c3 : a0 = 2
  ·rw [if_pos c3] at H
   have c3b0 : (a0 == 2) = true := beq_iff_eq.mpr c3
   have c3b1 : (a0 != 2) = false := bne_eq_false_iff_eq.mpr c3
   clear c3
   obtain rfl := Option.some.inj H
   go_enter Tryz.func89, Tryz.ntmps89
   go_wp2
   go_ret
   exact ⟨ap5_, ap10_⟩
  ·rw [if_neg c3] at H
   have c3b0 : (a0 == 2) = false := beq_eq_false_iff_ne.mpr c3
   have c3b1 : (a0 != 2) = true := bne_iff_ne.mpr c3
   by_cases c4 : a0 = 3
   ·rw [if_pos c4] at H
    have c4b0 : (a0 == 3) = true := beq_iff_eq.mpr c4
    have c4b1 : (a0 != 3) = false := bne_eq_false_iff_eq.mpr c4
    clear c4
    obtain rfl := Option.some.inj H
    go_enter Tryz.func89, Tryz.ntmps89
    go_wp2
    go_ret
    exact ⟨ap5_, ap10_⟩
   ·rw [if_neg c4] at H
    have c4b0 : (a0 == 3) = false := beq_eq_false_iff_ne.mpr c4
    have c4b1 : (a0 != 3) = true := bne_iff_ne.mpr c4
    obtain rfl := Option.some.inj H
    go_enter Tryz.func89, Tryz.ntmps89
    go_wp2
    go_ret
    exact ⟨ap5_, ap10_⟩
def footbridgeref03_Digits.l0 : Nat → Int → ByteArray → Option (ByteArray)
 | 0, _, _ => none
 | k + 1, x0, x3 => if x0 ≥ 10 then ((some (([(wrap64 (48 + (Int.tmod x0 10))) % 256] : List Int) : List Int)).bind fun y333 => (if (strOfNums y333).size + x3.size ≤ 9223372036854775807 then (footbridgeref03_Digits.l0 k (wrap64 (Int.tdiv x0 10)) ((strOfNums y333) ++ x3)) else (none))) else ((some (([(wrap64 (48 + x0)) % 256] : List Int) : List Int)).bind fun y336 => (if (strOfNums y336).size + x3.size ≤ 9223372036854775807 then (some ((strOfNums y336) ++ x3)) else (none)))
def footbridgeref03_Digits.f (k : Nat) (a0 : Int) : Option (ByteArray) := footbridgeref03_Digits.l0 k a0 (⟨#[]⟩ : ByteArray)
theorem footbridgeref03_Digits.mono_l : ∀ k, (∀ y0 y1, LeO (footbridgeref03_Digits.l0 k y0 y1) (footbridgeref03_Digits.l0 (k + 1) y0 y1))
 | 0 => fun _ _ r h => by simp [footbridgeref03_Digits.l0] at h
 | k + 1 => by
  have ih0 := footbridgeref03_Digits.mono_l k
  ·intro y0 y1
   unfold footbridgeref03_Digits.l0
   repeat' first
   | (with_reducible exact ih0 _ _)
   | (with_reducible exact LeO.refl _)
   | (with_reducible exact LeO.none _)
   | (with_reducible refine LeO.ite ?_ ?_)
   | (with_reducible refine LeO.bind ?_ (fun _ => ?_))
   | exact ih0 _ _
   | exact LeO.none _
   | refine LeO.ite ?_ ?_
   | refine LeO.bind ?_ (fun _ => ?_)
theorem footbridgeref03_Digits.mono : ∀ a0 k, LeO (footbridgeref03_Digits.f k a0) (footbridgeref03_Digits.f (k + 1) a0) := by
 intro a0 k
 have ih0 := footbridgeref03_Digits.mono_l k
 unfold footbridgeref03_Digits.f
 repeat' first
   | (with_reducible exact ih0 _ _)
   | (with_reducible exact LeO.refl _)
   | (with_reducible exact LeO.none _)
   | (with_reducible refine LeO.ite ?_ ?_)
   | (with_reducible refine LeO.bind ?_ (fun _ => ?_))
   | exact ih0 _ _
   | exact LeO.none _
   | refine LeO.ite ?_ ?_
   | refine LeO.bind ?_ (fun _ => ?_)
theorem footbridgeref03_Digits.calls (k : Nat) (a0 : Int) (r : ByteArray) (w : World) (h : footbridgeref03_Digits.f k a0 = some r) :
  Calls Tryz.prog 114 #[.int .i64 a0] w fun e w' => e = .returned (.string r) ∧ Below w.heap.size w w' := by
 have HB := As_ (Below.refl w.heap.size w)
 have H : (footbridgeref03_Digits.l0 k a0 (⟨#[]⟩ : ByteArray)) = some r := h
 clear h
 have H' := As_ H
 clear H
 go_enter Tryz.func114, Tryz.ntmps114
 go_wp2
 go_loopg [0, 3] k (fun kq v0 v3 w' => ∃ (x0_1 : Int) (x3_1 : ByteArray), v0 = .int .i64 x0_1 ∧ v3 = .string x3_1 ∧ Aside0 (footbridgeref03_Digits.l0 kq x0_1 x3_1 = some r) ∧ Aside0 (kq ≤ k) ∧ Aside0 (Below w.heap.size w w'))
 case atStart => exact ⟨(a0), ((⟨#[]⟩ : ByteArray)), ap5_, ap5_, H', ⟨Nat.le_refl _⟩, ⟨ap50_⟩⟩
 case round =>
  clear H'
  obtain ⟨x0_1, x3_1, rfl, rfl, HA, HK1, HB⟩ := hrel
  cases gk with
  | zero => exact absurd HA.out (by simp [footbridgeref03_Digits.l0])
  | succ k1 =>
   have H := HA.out
   clear HA
   simp only [footbridgeref03_Digits.l0] at H
   by_cases c2 : x0_1 ≥ 10
   ·rw [if_pos c2] at H
    have c2b0 : decide (10 ≤ x0_1) = true := decide_eq_true c2
    clear c2
    obtain ⟨y333, hy333⟩ : ∃ y_ : List Int, y_ = (([(wrap64 (48 + (Int.tmod x0_1 10))) % 256] : List Int)) := ⟨_, rfl⟩
    replace H : (if (strOfNums y333).size + x3_1.size ≤ 9223372036854775807 then (footbridgeref03_Digits.l0 k1 (wrap64 (Int.tdiv x0_1 10)) ((strOfNums y333) ++ x3_1)) else (none)) = some r := by first | (rw [hy333]; with_reducible exact H) | (have H2_ := (Option.bind_some _ _).symm.trans H; rw [hy333]; with_reducible exact H2_) | (have H2_ := (Option.bind_some _ _).symm.trans H; with_reducible exact H2_) | with_reducible exact H | (rw [hy333]; exact H) | exact H
    have Ny333 := As_ hy333
    clear hy333
    by_cases c3 : (strOfNums y333).size + x3_1.size ≤ 9223372036854775807
    ·rw [if_pos c3] at H
     have c3b0 := eq_true c3
     have c3b1 : decide ((strOfNums y333).size + x3_1.size ≤ 9223372036854775807) = true := decide_eq_true c3
     try have c3b2 : (9223372036854775807 < (strOfNums y333).size + x3_1.size) = False := eq_false (Nat.not_lt.2 c3)
     have H' := As_ H
     clear H
     go_wp2_with (first | ((with_reducible refine gate_dst (N := 10) rfl ?_); refine Kd.R_lit (Kd.int .u8) _ 5 ?hg (N := 10) ?hd (xs := ([(wrap64 (48 + (Int.tmod x0_1 10))) % 256] : List Int)) (inner := [.int .u8 ((wrap64 (48 + (Int.tmod x0_1 10))) % 256)]) (ok := fun _ => True) (okp := fun _ => True) ?hr ?hp (fun _ hk => hk) trivial (Below.refl _ _) (Nat.le_refl _) (by simp) ?_; (case hd => rfl); (case hg => rfl); (case hr => first | (go_simp; done) | (go_simp; rfl)); (case hp => exact (Reps.one (show Kd.M (Kd.int .u8) _ _ _ ((wrap64 (48 + (Int.tmod x0_1 10))) % 256) [.int .u8 ((wrap64 (48 + (Int.tmod x0_1 10))) % 256)] from rfl) (Reps.none _ _))); intro v334 w4 ho5 hb hg_ hnew_; clear hg_ hnew_; (first | rw [← Ny333.out] at ho5 | (simp only [Int.reduceToNat] at ho5; rw [← Ny333.out] at ho5)); have HO335 := As_ (Kd.R_lower ho5 (below_size ap50_)); replace HB := As_ (below_step ap50_ hb); clear hb ho5; have hcv6 := own_string (P := Tryz.prog) Tryz.underlying124 Tryz.underlying5 Tryz.underlying9 (Kd.own_of_R HO335.out)))
     go_roundg k1
     case measure => have := HK1.out; omega
     case rel => exact ⟨(wrap64 (Int.tdiv x0_1 10)), ((strOfNums y333) ++ x3_1), ap5_, ap5_, H', ⟨by have := HK1.out; omega⟩, ⟨ap50_⟩⟩
    ·rw [if_neg c3] at H
     exact absurd H (by simp)
   ·rw [if_neg c2] at H
    have c2b0 : decide (10 ≤ x0_1) = false := decide_eq_false c2
    clear c2
    obtain ⟨y336, hy336⟩ : ∃ y_ : List Int, y_ = (([(wrap64 (48 + x0_1)) % 256] : List Int)) := ⟨_, rfl⟩
    replace H : (if (strOfNums y336).size + x3_1.size ≤ 9223372036854775807 then (some ((strOfNums y336) ++ x3_1)) else (none)) = some r := by first | (rw [hy336]; with_reducible exact H) | (have H2_ := (Option.bind_some _ _).symm.trans H; rw [hy336]; with_reducible exact H2_) | (have H2_ := (Option.bind_some _ _).symm.trans H; with_reducible exact H2_) | with_reducible exact H | (rw [hy336]; exact H) | exact H
    have Ny336 := As_ hy336
    clear hy336
    by_cases c7 : (strOfNums y336).size + x3_1.size ≤ 9223372036854775807
    ·rw [if_pos c7] at H
     have c7b0 := eq_true c7
     have c7b1 : decide ((strOfNums y336).size + x3_1.size ≤ 9223372036854775807) = true := decide_eq_true c7
     try have c7b2 : (9223372036854775807 < (strOfNums y336).size + x3_1.size) = False := eq_false (Nat.not_lt.2 c7)
     obtain rfl := Option.some.inj H
     go_wp2_with (first | ((with_reducible refine gate_dst (N := 19) rfl ?_); refine Kd.R_lit (Kd.int .u8) _ 5 ?hg (N := 19) ?hd (xs := ([(wrap64 (48 + x0_1)) % 256] : List Int)) (inner := [.int .u8 ((wrap64 (48 + x0_1)) % 256)]) (ok := fun _ => True) (okp := fun _ => True) ?hr ?hp (fun _ hk => hk) trivial (Below.refl _ _) (Nat.le_refl _) (by simp) ?_; (case hd => rfl); (case hg => rfl); (case hr => first | (go_simp; done) | (go_simp; rfl)); (case hp => exact (Reps.one (show Kd.M (Kd.int .u8) _ _ _ ((wrap64 (48 + x0_1)) % 256) [.int .u8 ((wrap64 (48 + x0_1)) % 256)] from rfl) (Reps.none _ _))); intro v337 w8 ho9 hb hg_ hnew_; clear hg_ hnew_; (first | rw [← Ny336.out] at ho9 | (simp only [Int.reduceToNat] at ho9; rw [← Ny336.out] at ho9)); have HO338 := As_ (Kd.R_lower ho9 (below_size ap50_)); replace HB := As_ (below_step ap50_ hb); clear hb ho9; have hcv10 := own_string (P := Tryz.prog) Tryz.underlying124 Tryz.underlying5 Tryz.underlying9 (Kd.own_of_R HO338.out)))
     go_ret
     exact ⟨ap17_, ap50_⟩
    ·rw [if_neg c7] at H
     exact absurd H (by simp)
def footbridgeref03_Make.j0 : Nat → Int → Int → Bool → Option (ByteArray × Int)
 | 0, _, _, _ => none
 | k + 1, x0, x1, x10 => if x10 = true then (some ((⟨#[]⟩ : ByteArray), 3)) else ((footbridgeref03_word.f x0).bind fun t340 => ((footbridgeref03_Digits.f k x1).bind fun t341 => (if t340.size + t341.size ≤ 9223372036854775807 then (some (t340 ++ t341, 0)) else (none))))
def footbridgeref03_Make.f (k : Nat) (a0 : Int) (a1 : Int) : Option (ByteArray × Int) := (footbridgeref03_word.f a0).bind fun t339 => (if t339.toList = ([] : List UInt8) then (some ((⟨#[]⟩ : ByteArray), 1)) else (if a1 < 0 then (footbridgeref03_Make.j0 k a0 a1 true) else (footbridgeref03_Make.j0 k a0 a1 (decide (a1 > 1099511627776)))))
theorem footbridgeref03_Make.mono_l : ∀ k, (∀ y0 y1 y2, LeO (footbridgeref03_Make.j0 k y0 y1 y2) (footbridgeref03_Make.j0 (k + 1) y0 y1 y2))
 | 0 => fun _ _ _ r h => by simp [footbridgeref03_Make.j0] at h
 | k + 1 => by
  have ih0 := footbridgeref03_Make.mono_l k
  ·intro y0 y1 y2
   unfold footbridgeref03_Make.j0
   repeat' first
   | (with_reducible exact ih0 _ _ _)
   | (with_reducible exact footbridgeref03_Digits.mono _ _)
   | (with_reducible exact LeO.refl _)
   | (with_reducible exact LeO.none _)
   | (with_reducible refine LeO.ite ?_ ?_)
   | (with_reducible refine LeO.bind ?_ (fun _ => ?_))
   | exact ih0 _ _ _
   | exact footbridgeref03_Digits.mono _ _
   | exact LeO.none _
   | refine LeO.ite ?_ ?_
   | refine LeO.bind ?_ (fun _ => ?_)
theorem footbridgeref03_Make.mono : ∀ a0 a1 k, LeO (footbridgeref03_Make.f k a0 a1) (footbridgeref03_Make.f (k + 1) a0 a1) := by
 intro a0 a1 k
 have ih0 := footbridgeref03_Make.mono_l k
 unfold footbridgeref03_Make.f
 repeat' first
   | (with_reducible exact ih0 _ _ _)
   | (with_reducible exact footbridgeref03_Digits.mono _ _)
   | (with_reducible exact LeO.refl _)
   | (with_reducible exact LeO.none _)
   | (with_reducible refine LeO.ite ?_ ?_)
   | (with_reducible refine LeO.bind ?_ (fun _ => ?_))
   | exact ih0 _ _ _
   | exact footbridgeref03_Digits.mono _ _
   | exact LeO.none _
   | refine LeO.ite ?_ ?_
   | refine LeO.bind ?_ (fun _ => ?_)
theorem footbridgeref03_Make.calls (k : Nat) (a0 : Int) (a1 : Int) (r1 : ByteArray) (r2 : Int) (w : World) (h : footbridgeref03_Make.f k a0 a1 = some (r1, r2)) :
  Calls Tryz.prog 105 #[.int .i64 a0, .int .i64 a1] w fun e w' => e = .returned (.tuple #[.string r1, .int .i64 r2]) ∧ Below w.heap.size w w' := by
 have HB := As_ (Below.refl w.heap.size w)
 have H : ((footbridgeref03_word.f a0).bind fun t339 => (if t339.toList = ([] : List UInt8) then (some ((⟨#[]⟩ : ByteArray), 1)) else (if a1 < 0 then (footbridgeref03_Make.j0 k a0 a1 true) else (footbridgeref03_Make.j0 k a0 a1 (decide (a1 > 1099511627776)))))) = some (r1, r2) := h
 clear h
 replace H := Option.bind_eq_some_iff.mp H
 obtain ⟨t339, A30, H⟩ := H
 try dsimp only at H
 have A3 := As_ A30
 clear A30
 by_cases c4 : t339.toList = ([] : List UInt8)
 ·rw [if_pos c4] at H
  have c4b0 : (t339.toList == ([] : List UInt8)) = true := beq_iff_eq.mpr c4
  have c4b1 : (t339.toList != ([] : List UInt8)) = false := bne_eq_false_iff_eq.mpr c4
  clear c4
  simp only [Option.some.injEq, Prod.mk.injEq] at H
  obtain ⟨rfl, rfl⟩ := H
  go_enter Tryz.func105, Tryz.ntmps105
  go_wp2_with (first | ((with_reducible refine gate_callee (f := 89) rfl ?_); refine gk_ (some 8) Tryz.func89 #[.int .i64 a0] ?_; (with_reducible refine (footbridgeref03_word.calls a0 t339 _ A3.out).mono ?_); rintro e w' ⟨rfl, ⟨nd, rfl⟩⟩; refine ⟨_, rfl, ?_⟩))
  go_ret2
  exact ⟨ap17_, ap50_⟩
 ·rw [if_neg c4] at H
  have c4b0 : (t339.toList == ([] : List UInt8)) = false := beq_eq_false_iff_ne.mpr c4
  have c4b1 : (t339.toList != ([] : List UInt8)) = true := bne_iff_ne.mpr c4
  have HC5 := As_ H
  clear H
  go_enter Tryz.func105, Tryz.ntmps105
  go_upto_region 3 with (first | ((with_reducible refine gate_callee (f := 89) rfl ?_); refine gk_ (some 8) Tryz.func89 #[.int .i64 a0] ?_; (with_reducible refine (footbridgeref03_word.calls a0 t339 _ A3.out).mono ?_); rintro e w' ⟨rfl, ⟨nd, rfl⟩⟩; refine ⟨_, rfl, ?_⟩))
  (try simp only [Act.put, List.setIfInBounds_toArray, List.set_cons_zero, List.set_cons_succ])
  go_cut [10] (fun v10 wc => ∃ (kq : Nat) (x10_4 : Bool), v10 = .bool x10_4 ∧ Aside0 (footbridgeref03_Make.j0 kq a0 a1 x10_4 = some (r1, r2)) ∧ Aside0 (kq ≤ k) ∧ Aside0 (Below w.heap.size w wc))
  case first =>
   have H := HC5.out
   clear HC5
   by_cases c6 : a1 < 0
   ·rw [if_pos c6] at H
    have c6b0 : decide (a1 < 0) = true := decide_eq_true c6
    clear c6
    (first | rw [c6b0] | (simp only [i64_w, i32_w]; rw [c6b0]) | skip)
    have H' := As_ H
    clear H
    go_wp2
    go_meet
    case rel => exact ⟨_, (true), ap5_, H', ⟨ap1_⟩, ⟨ap50_⟩⟩
   ·rw [if_neg c6] at H
    have c6b0 : decide (a1 < 0) = false := decide_eq_false c6
    clear c6
    (first | rw [c6b0] | (simp only [i64_w, i32_w]; rw [c6b0]) | skip)
    have H' := As_ H
    clear H
    go_wp2
    go_meet
    case rel => exact ⟨_, (decide (a1 > 1099511627776)), ap5_, H', ⟨ap1_⟩, ⟨ap50_⟩⟩
  case rest =>
   clear HC5
   try clear c4
   try clear c4b0
   try clear c4b1
   obtain ⟨kq, x10_4, rfl, HA, HJ4, HB⟩ := hcut
   cases kq with
   | zero => exact absurd HA.out (by simp [footbridgeref03_Make.j0])
   | succ kj4 =>
    have H := HA.out
    clear HA
    simp only [footbridgeref03_Make.j0] at H
    by_cases c7 : x10_4 = true
    ·subst c7
     have H1 : (some ((⟨#[]⟩ : ByteArray), 3)) = some (r1, r2) := by rw [if_pos rfl] at H; exact H
     clear H
     have H := H1
     clear H1
     simp only [Option.some.injEq, Prod.mk.injEq] at H
     obtain ⟨rfl, rfl⟩ := H
     go_wp2
     go_ret2
     exact ⟨ap17_, ap50_⟩
    ·replace c7 := Bool.eq_false_iff.mpr c7
     subst c7
     have H1 : ((footbridgeref03_word.f a0).bind fun t340 => ((footbridgeref03_Digits.f kj4 a1).bind fun t341 => (if t340.size + t341.size ≤ 9223372036854775807 then (some (t340 ++ t341, 0)) else (none)))) = some (r1, r2) := by rw [if_neg (show ¬ (false = true) by decide)] at H; exact H
     clear H
     have H := H1
     clear H1
     replace H := Option.bind_eq_some_iff.mp H
     obtain ⟨t340, A80, H⟩ := H
     try dsimp only at H
     have A8 := As_ A80
     clear A80
     replace H := Option.bind_eq_some_iff.mp H
     obtain ⟨t341, A90, H⟩ := H
     try dsimp only at H
     have A9 := As_ A90
     clear A90
     by_cases c10 : t340.size + t341.size ≤ 9223372036854775807
     ·rw [if_pos c10] at H
      have c10b0 := eq_true c10
      have c10b1 : decide (t340.size + t341.size ≤ 9223372036854775807) = true := decide_eq_true c10
      try have c10b2 : (9223372036854775807 < t340.size + t341.size) = False := eq_false (Nat.not_lt.2 c10)
      simp only [Option.some.injEq, Prod.mk.injEq] at H
      obtain ⟨rfl, rfl⟩ := H
      go_wp2_with (first | ((with_reducible refine gate_callee (f := 89) rfl ?_); refine gk_ (some 18) Tryz.func89 #[.int .i64 a0] ?_; (with_reducible refine (footbridgeref03_word.calls a0 t340 _ A8.out).mono ?_); rintro e w' ⟨rfl, ⟨nd, rfl⟩⟩; refine ⟨_, rfl, ?_⟩) | ((with_reducible refine gate_callee (f := 114) rfl ?_); refine gk_ (some 20) Tryz.func114 #[.int .i64 a1] ?_; (with_reducible refine (footbridgeref03_Digits.calls kj4 a1 t341 _ A9.out).mono ?_); rintro e w11 ⟨rfl, hb⟩; refine ⟨_, rfl, ?_⟩; replace HB := As_ (below_step ap50_ hb); (try clear hb); (try clear hb2); (try clear hk); (try clear hi)))
      go_ret2
      exact ⟨ap17_, ap50_⟩
     ·rw [if_neg c10] at H
      exact absurd H (by simp)
mutual
def footbridgeref03_Number.j0 : Nat → Int → ByteArray → ByteArray → Bool → Option (Int × Int)
 | 0, _, _, _, _ => none
 | k + 1, x0, x1, x6, x35 => if x35 = true then (some (0, 7)) else (footbridgeref03_Number.l0 k x0 x1 0 (x6.size : Int))
def footbridgeref03_Number.l0 : Nat → Int → ByteArray → Int → Int → Option (Int × Int)
 | 0, _, _, _, _ => none
 | k + 1, x0, x1, x7, x8 => if x8 < (x1.size : Int) then (if 0 ≤ x8 then (if (bt x1 x8) < 48 then (some (0, 7)) else (if (bt x1 x8) > 57 then (some (0, 7)) else (footbridgeref03_Number.l0 k x0 x1 (wrap64 ((wrap64 (x7 * 10)) + (((bt x1 x8) - 48) % 256))) (wrap64 (x8 + 1))))) else (none)) else ((footbridgeref03_Make.f k x0 x7).bind fun bt343 => (if bt343.2 = 0 then (if bt343.1.toList = x1.toList then (some (x7, 0)) else (some (0, 7))) else (some (0, 7))))
end
def footbridgeref03_Number.f (k : Nat) (a0 : Int) (a1 : ByteArray) : Option (Int × Int) := (footbridgeref03_word.f a0).bind fun t342 => (if t342.toList = ([] : List UInt8) then (some (0, 1)) else (if (a1.size : Int) ≤ (t342.size : Int) then (footbridgeref03_Number.j0 k a0 a1 t342 true) else (if (a1.size : Int) > (wrap64 ((t342.size : Int) + 13)) then (footbridgeref03_Number.j0 k a0 a1 t342 true) else (if 0 ≤ (t342.size : Int) then (if (t342.size : Int) ≤ (a1.size : Int) then (footbridgeref03_Number.j0 k a0 a1 t342 ((a1.extract 0 ((t342.size : Int) : Int).toNat).toList != t342.toList)) else (none)) else (none)))))
theorem footbridgeref03_Number.mono_l : ∀ k, (∀ y0 y1 y2 y3, LeO (footbridgeref03_Number.j0 k y0 y1 y2 y3) (footbridgeref03_Number.j0 (k + 1) y0 y1 y2 y3)) ∧ (∀ y0 y1 y2 y3, LeO (footbridgeref03_Number.l0 k y0 y1 y2 y3) (footbridgeref03_Number.l0 (k + 1) y0 y1 y2 y3))
 | 0 => ⟨fun _ _ _ _ r h => by simp [footbridgeref03_Number.j0] at h, fun _ _ _ _ r h => by simp [footbridgeref03_Number.l0] at h⟩
 | k + 1 => by
  obtain ⟨ih0, ih1⟩ := footbridgeref03_Number.mono_l k
  refine ⟨?_, ?_⟩
  ·intro y0 y1 y2 y3
   unfold footbridgeref03_Number.j0
   repeat' first
   | (with_reducible exact ih0 _ _ _ _)
   | (with_reducible exact ih1 _ _ _ _)
   | (with_reducible exact footbridgeref03_Make.mono _ _ _)
   | (with_reducible exact LeO.refl _)
   | (with_reducible exact LeO.none _)
   | (with_reducible refine LeO.ite ?_ ?_)
   | (with_reducible refine LeO.bind ?_ (fun _ => ?_))
   | exact ih0 _ _ _ _
   | exact ih1 _ _ _ _
   | exact footbridgeref03_Make.mono _ _ _
   | exact LeO.none _
   | refine LeO.ite ?_ ?_
   | refine LeO.bind ?_ (fun _ => ?_)
  ·intro y0 y1 y2 y3
   unfold footbridgeref03_Number.l0
   repeat' first
   | (with_reducible exact ih0 _ _ _ _)
   | (with_reducible exact ih1 _ _ _ _)
   | (with_reducible exact footbridgeref03_Make.mono _ _ _)
   | (with_reducible exact LeO.refl _)
   | (with_reducible exact LeO.none _)
   | (with_reducible refine LeO.ite ?_ ?_)
   | (with_reducible refine LeO.bind ?_ (fun _ => ?_))
   | exact ih0 _ _ _ _
   | exact ih1 _ _ _ _
   | exact footbridgeref03_Make.mono _ _ _
   | exact LeO.none _
   | refine LeO.ite ?_ ?_
   | refine LeO.bind ?_ (fun _ => ?_)
theorem footbridgeref03_Number.mono : ∀ a0 a1 k, LeO (footbridgeref03_Number.f k a0 a1) (footbridgeref03_Number.f (k + 1) a0 a1) := by
 intro a0 a1 k
 obtain ⟨ih0, ih1⟩ := footbridgeref03_Number.mono_l k
 unfold footbridgeref03_Number.f
 repeat' first
   | (with_reducible exact ih0 _ _ _ _)
   | (with_reducible exact ih1 _ _ _ _)
   | (with_reducible exact footbridgeref03_Make.mono _ _ _)
   | (with_reducible exact LeO.refl _)
   | (with_reducible exact LeO.none _)
   | (with_reducible refine LeO.ite ?_ ?_)
   | (with_reducible refine LeO.bind ?_ (fun _ => ?_))
   | exact ih0 _ _ _ _
   | exact ih1 _ _ _ _
   | exact footbridgeref03_Make.mono _ _ _
   | exact LeO.none _
   | refine LeO.ite ?_ ?_
   | refine LeO.bind ?_ (fun _ => ?_)
theorem footbridgeref03_Number.calls (k : Nat) (a0 : Int) (a1 : ByteArray) (r1 : Int) (r2 : Int) (w : World) (h : footbridgeref03_Number.f k a0 a1 = some (r1, r2)) :
  Calls Tryz.prog 90 #[.int .i64 a0, .string a1] w fun e w' => e = .returned (.tuple #[.int .i64 r1, .int .i64 r2]) ∧ Below w.heap.size w w' := by
 have HB := As_ (Below.refl w.heap.size w)
 have H : ((footbridgeref03_word.f a0).bind fun t342 => (if t342.toList = ([] : List UInt8) then (some (0, 1)) else (if (a1.size : Int) ≤ (t342.size : Int) then (footbridgeref03_Number.j0 k a0 a1 t342 true) else (if (a1.size : Int) > (wrap64 ((t342.size : Int) + 13)) then (footbridgeref03_Number.j0 k a0 a1 t342 true) else (if 0 ≤ (t342.size : Int) then (if (t342.size : Int) ≤ (a1.size : Int) then (footbridgeref03_Number.j0 k a0 a1 t342 ((a1.extract 0 ((t342.size : Int) : Int).toNat).toList != t342.toList)) else (none)) else (none)))))) = some (r1, r2) := h
 clear h
 replace H := Option.bind_eq_some_iff.mp H
 obtain ⟨t342, A30, H⟩ := H
 try dsimp only at H
 have A3 := As_ A30
 clear A30
 by_cases c4 : t342.toList = ([] : List UInt8)
 ·rw [if_pos c4] at H
  have c4b0 : (t342.toList == ([] : List UInt8)) = true := beq_iff_eq.mpr c4
  have c4b1 : (t342.toList != ([] : List UInt8)) = false := bne_eq_false_iff_eq.mpr c4
  clear c4
  simp only [Option.some.injEq, Prod.mk.injEq] at H
  obtain ⟨rfl, rfl⟩ := H
  go_enter Tryz.func90, Tryz.ntmps90
  go_wp2_with (first | ((with_reducible refine gate_callee (f := 89) rfl ?_); refine gk_ (some 12) Tryz.func89 #[.int .i64 a0] ?_; (with_reducible refine (footbridgeref03_word.calls a0 t342 _ A3.out).mono ?_); rintro e w' ⟨rfl, ⟨nd, rfl⟩⟩; refine ⟨_, rfl, ?_⟩))
  go_ret2
  exact ⟨ap17_, ap50_⟩
 ·rw [if_neg c4] at H
  have c4b0 : (t342.toList == ([] : List UInt8)) = false := beq_eq_false_iff_ne.mpr c4
  have c4b1 : (t342.toList != ([] : List UInt8)) = true := bne_iff_ne.mpr c4
  have HC5 := As_ H
  clear H
  go_enter Tryz.func90, Tryz.ntmps90
  go_upto_region 4 with (first | ((with_reducible refine gate_callee (f := 89) rfl ?_); refine gk_ (some 12) Tryz.func89 #[.int .i64 a0] ?_; (with_reducible refine (footbridgeref03_word.calls a0 t342 _ A3.out).mono ?_); rintro e w' ⟨rfl, ⟨nd, rfl⟩⟩; refine ⟨_, rfl, ?_⟩))
  (try simp only [Act.put, List.setIfInBounds_toArray, List.set_cons_zero, List.set_cons_succ])
  go_cut [35] (fun v35 wc => ∃ (kq : Nat) (x35_4 : Bool), v35 = .bool x35_4 ∧ Aside0 (footbridgeref03_Number.j0 kq a0 a1 t342 x35_4 = some (r1, r2)) ∧ Aside0 (kq ≤ k) ∧ Aside0 (Below w.heap.size w wc))
  case first =>
   have H := HC5.out
   clear HC5
   by_cases c6 : (a1.size : Int) ≤ (t342.size : Int)
   ·rw [if_pos c6] at H
    have c6b0 : decide ((a1.size : Int) ≤ (t342.size : Int)) = true := decide_eq_true c6
    have c6b1 : decide (a1.size ≤ t342.size) = true := decide_eq_true (Int.ofNat_le.mp c6)
    clear c6
    (first | rw [c6b0] | (simp only [i64_w, i32_w]; rw [c6b0]) | skip)
    have H' := As_ H
    clear H
    go_wp2
    go_meet
    case rel => exact ⟨_, (true), ap5_, H', ⟨ap1_⟩, ⟨ap50_⟩⟩
   ·rw [if_neg c6] at H
    have c6b0 : decide ((a1.size : Int) ≤ (t342.size : Int)) = false := decide_eq_false c6
    have c6b1 : decide (a1.size ≤ t342.size) = false := decide_eq_false (fun h => c6 (Int.ofNat_le.mpr h))
    clear c6
    (first | rw [c6b0] | (simp only [i64_w, i32_w]; rw [c6b0]) | skip)
    by_cases c7 : (a1.size : Int) > (wrap64 ((t342.size : Int) + 13))
    ·rw [if_pos c7] at H
     have c7b0 : decide ((wrap64 ((t342.size : Int) + 13)) < (a1.size : Int)) = true := decide_eq_true c7
     clear c7
     have H' := As_ H
     clear H
     go_wp2
     go_meet
     case rel => exact ⟨_, (true), ap5_, H', ⟨ap1_⟩, ⟨ap50_⟩⟩
    ·rw [if_neg c7] at H
     have c7b0 : decide ((wrap64 ((t342.size : Int) + 13)) < (a1.size : Int)) = false := decide_eq_false c7
     clear c7
     by_cases c8 : 0 ≤ (t342.size : Int)
     ·rw [if_pos c8] at H
      have c8b0 := eq_true c8
      have c8b1 : decide (0 ≤ (t342.size : Int)) = true := decide_eq_true c8
      clear c8
      by_cases c9 : (t342.size : Int) ≤ (a1.size : Int)
      ·rw [if_pos c9] at H
       have c9b0 := eq_true c9
       have c9b1 : decide ((t342.size : Int) ≤ (a1.size : Int)) = true := decide_eq_true c9
       clear c9
       have H' := As_ H
       clear H
       go_wp2
       go_meet
       case rel => exact ⟨_, (((a1.extract 0 ((t342.size : Int) : Int).toNat).toList != t342.toList)), ap5_, H', ⟨ap1_⟩, ⟨ap50_⟩⟩
      ·rw [if_neg c9] at H
       exact absurd H (by simp)
     ·rw [if_neg c8] at H
      exact absurd H (by simp)
  case rest =>
   clear HC5
   try clear c4
   try clear c4b0
   try clear c4b1
   obtain ⟨kq, x35_4, rfl, HA, HJ4, HB⟩ := hcut
   cases kq with
   | zero => exact absurd HA.out (by simp [footbridgeref03_Number.j0])
   | succ kj4 =>
    have H := HA.out
    clear HA
    simp only [footbridgeref03_Number.j0] at H
    by_cases c10 : x35_4 = true
    ·subst c10
     have H1 : (some (0, 7)) = some (r1, r2) := by rw [if_pos rfl] at H; exact H
     clear H
     have H := H1
     clear H1
     simp only [Option.some.injEq, Prod.mk.injEq] at H
     obtain ⟨rfl, rfl⟩ := H
     go_wp2
     go_ret2
     exact ⟨ap17_, ap50_⟩
    ·replace c10 := Bool.eq_false_iff.mpr c10
     subst c10
     have H1 : (footbridgeref03_Number.l0 kj4 a0 a1 0 (t342.size : Int)) = some (r1, r2) := by rw [if_neg (show ¬ (false = true) by decide)] at H; exact H
     clear H
     have H := H1
     clear H1
     have H' := As_ H
     clear H
     go_wp2
     go_loopg [7, 8] kj4 (fun kq v7 v8 w' => ∃ (x7_2 : Int) (x8_2 : Int), v7 = .int .i64 x7_2 ∧ v8 = .int .i64 x8_2 ∧ Aside0 (footbridgeref03_Number.l0 kq a0 a1 x7_2 x8_2 = some (r1, r2)) ∧ Aside0 (kq ≤ kj4) ∧ Aside0 (Below w.heap.size w w'))
     case atStart => exact ⟨(0), ((t342.size : Int)), ap5_, ap5_, H', ⟨Nat.le_refl _⟩, ⟨ap50_⟩⟩
     case round =>
      clear H'
      try clear c4
      try clear c4b0
      try clear c4b1
      try clear c10
      obtain ⟨x7_2, x8_2, rfl, rfl, HA, HK2, HB⟩ := hrel
      cases gk with
      | zero => exact absurd HA.out (by simp [footbridgeref03_Number.l0])
      | succ k2 =>
       have H := HA.out
       clear HA
       simp only [footbridgeref03_Number.l0] at H
       by_cases c11 : x8_2 < (a1.size : Int)
       ·rw [if_pos c11] at H
        have c11b0 : decide (x8_2 < (a1.size : Int)) = true := decide_eq_true c11
        clear c11
        by_cases c12 : 0 ≤ x8_2
        ·rw [if_pos c12] at H
         have c12b0 : decide (0 ≤ x8_2) = true := decide_eq_true c12
         clear c12
         by_cases c14 : (bt a1 x8_2) < 48
         ·rw [if_pos c14] at H
          have c14b0 : decide ((bt a1 x8_2) < 48) = true := decide_eq_true c14
          clear c14
          simp only [Option.some.injEq, Prod.mk.injEq] at H
          obtain ⟨rfl, rfl⟩ := H
          have p13 : 0 ≤ (x8_2 : Int) := of_decide_eq_true ap7_
          have q13 : x8_2 < (a1.size : Int) := of_decide_eq_true ap7_
          have hx13 := bt_at a1 x8_2
          replace p13 := eq_true p13
          replace q13 := eq_true q13
          go_wp2
          go_ret2
          exact ⟨ap17_, ap50_⟩
         ·rw [if_neg c14] at H
          have c14b0 : decide ((bt a1 x8_2) < 48) = false := decide_eq_false c14
          clear c14
          by_cases c16 : (bt a1 x8_2) > 57
          ·rw [if_pos c16] at H
           have c16b0 : decide (57 < (bt a1 x8_2)) = true := decide_eq_true c16
           clear c16
           simp only [Option.some.injEq, Prod.mk.injEq] at H
           obtain ⟨rfl, rfl⟩ := H
           have p13 : 0 ≤ (x8_2 : Int) := of_decide_eq_true ap7_
           have q13 : x8_2 < (a1.size : Int) := of_decide_eq_true ap7_
           have hx13 := bt_at a1 x8_2
           replace p13 := eq_true p13
           replace q13 := eq_true q13
           have p15 : 0 ≤ (x8_2 : Int) := of_decide_eq_true ap7_
           have q15 : x8_2 < (a1.size : Int) := of_decide_eq_true ap7_
           have hx15 := bt_at a1 x8_2
           replace p15 := eq_true p15
           replace q15 := eq_true q15
           go_wp2
           go_ret2
           exact ⟨ap17_, ap50_⟩
          ·rw [if_neg c16] at H
           have c16b0 : decide (57 < (bt a1 x8_2)) = false := decide_eq_false c16
           clear c16
           have H' := As_ H
           clear H
           have p13 : 0 ≤ (x8_2 : Int) := of_decide_eq_true ap7_
           have q13 : x8_2 < (a1.size : Int) := of_decide_eq_true ap7_
           have hx13 := bt_at a1 x8_2
           replace p13 := eq_true p13
           replace q13 := eq_true q13
           have p15 : 0 ≤ (x8_2 : Int) := of_decide_eq_true ap7_
           have q15 : x8_2 < (a1.size : Int) := of_decide_eq_true ap7_
           have hx15 := bt_at a1 x8_2
           replace p15 := eq_true p15
           replace q15 := eq_true q15
           have p17 : 0 ≤ (x8_2 : Int) := of_decide_eq_true ap7_
           have q17 : x8_2 < (a1.size : Int) := of_decide_eq_true ap7_
           have hx17 := bt_at a1 x8_2
           replace p17 := eq_true p17
           replace q17 := eq_true q17
           go_wp2
           go_roundg k2
           case measure => have := HJ4.out; have := HK2.out; omega
           case rel => exact ⟨(wrap64 ((wrap64 (x7_2 * 10)) + (((bt a1 x8_2) - 48) % 256))), (wrap64 (x8_2 + 1)), ap5_, ap5_, H', ⟨by have := HJ4.out; have := HK2.out; omega⟩, ⟨ap50_⟩⟩
        ·rw [if_neg c12] at H
         exact absurd H (by simp)
       ·rw [if_neg c11] at H
        have c11b0 : decide (x8_2 < (a1.size : Int)) = false := decide_eq_false c11
        clear c11
        replace H := Option.bind_eq_some_iff.mp H
        obtain ⟨⟨t343, t344⟩, A180, H⟩ := H
        try dsimp only at H
        have A18 := As_ A180
        clear A180
        by_cases c19 : t344 = 0
        ·rw [if_pos c19] at H
         have c19b0 : (t344 == 0) = true := beq_iff_eq.mpr c19
         have c19b1 : (t344 != 0) = false := bne_eq_false_iff_eq.mpr c19
         clear c19
         by_cases c20 : t343.toList = a1.toList
         ·rw [if_pos c20] at H
          have c20b0 : (t343.toList == a1.toList) = true := beq_iff_eq.mpr c20
          have c20b1 : (t343.toList != a1.toList) = false := bne_eq_false_iff_eq.mpr c20
          clear c20
          simp only [Option.some.injEq, Prod.mk.injEq] at H
          obtain ⟨rfl, rfl⟩ := H
          go_wp2_with (first | ((with_reducible refine gate_callee (f := 105) rfl ?_); refine gk_ (some 65) Tryz.func105 #[.int .i64 a0, .int .i64 x7_2] ?_; (with_reducible refine (footbridgeref03_Make.calls k2 a0 x7_2 t343 t344 _ A18.out).mono ?_); rintro e w21 ⟨rfl, hb⟩; refine ⟨_, rfl, ?_⟩; replace HB := As_ (below_step ap50_ hb); (try clear hb); (try clear hb2); (try clear hk); (try clear hi)))
          go_ret2
          exact ⟨ap17_, ap50_⟩
         ·rw [if_neg c20] at H
          have c20b0 : (t343.toList == a1.toList) = false := beq_eq_false_iff_ne.mpr c20
          have c20b1 : (t343.toList != a1.toList) = true := bne_iff_ne.mpr c20
          simp only [Option.some.injEq, Prod.mk.injEq] at H
          obtain ⟨rfl, rfl⟩ := H
          go_wp2_with (first | ((with_reducible refine gate_callee (f := 105) rfl ?_); refine gk_ (some 65) Tryz.func105 #[.int .i64 a0, .int .i64 x7_2] ?_; (with_reducible refine (footbridgeref03_Make.calls k2 a0 x7_2 t343 t344 _ A18.out).mono ?_); rintro e w22 ⟨rfl, hb⟩; refine ⟨_, rfl, ?_⟩; replace HB := As_ (below_step ap50_ hb); (try clear hb); (try clear hb2); (try clear hk); (try clear hi)))
          go_ret2
          exact ⟨ap17_, ap50_⟩
        ·rw [if_neg c19] at H
         have c19b0 : (t344 == 0) = false := beq_eq_false_iff_ne.mpr c19
         have c19b1 : (t344 != 0) = true := bne_iff_ne.mpr c19
         simp only [Option.some.injEq, Prod.mk.injEq] at H
         obtain ⟨rfl, rfl⟩ := H
         go_wp2_with (first | ((with_reducible refine gate_callee (f := 105) rfl ?_); refine gk_ (some 65) Tryz.func105 #[.int .i64 a0, .int .i64 x7_2] ?_; (with_reducible refine (footbridgeref03_Make.calls k2 a0 x7_2 t343 t344 _ A18.out).mono ?_); rintro e w23 ⟨rfl, hb⟩; refine ⟨_, rfl, ?_⟩; replace HB := As_ (below_step ap50_ hb); (try clear hb); (try clear hb2); (try clear hk); (try clear hi)))
         go_ret2
         exact ⟨ap17_, ap50_⟩
def footbridgeref03_letter.f (a0 : Int) : Option (Bool) := if a0 ≥ 97 then (if a0 ≤ 122 then (some true) else (if a0 ≥ 65 then (if a0 ≤ 90 then (some true) else (if a0 ≥ 48 then (if a0 ≤ 57 then (some true) else (if a0 = 46 then (some true) else (if a0 = 95 then (some true) else (some (a0 == 45))))) else (if a0 = 46 then (some true) else (if a0 = 95 then (some true) else (some (a0 == 45)))))) else (if a0 ≥ 48 then (if a0 ≤ 57 then (some true) else (if a0 = 46 then (some true) else (if a0 = 95 then (some true) else (some (a0 == 45))))) else (if a0 = 46 then (some true) else (if a0 = 95 then (some true) else (some (a0 == 45))))))) else (if a0 ≥ 65 then (if a0 ≤ 90 then (some true) else (if a0 ≥ 48 then (if a0 ≤ 57 then (some true) else (if a0 = 46 then (some true) else (if a0 = 95 then (some true) else (some (a0 == 45))))) else (if a0 = 46 then (some true) else (if a0 = 95 then (some true) else (some (a0 == 45)))))) else (if a0 ≥ 48 then (if a0 ≤ 57 then (some true) else (if a0 = 46 then (some true) else (if a0 = 95 then (some true) else (some (a0 == 45))))) else (if a0 = 46 then (some true) else (if a0 = 95 then (some true) else (some (a0 == 45))))))
theorem footbridgeref03_letter.calls (a0 : Int) (r : Bool) (w : World) (h : footbridgeref03_letter.f a0 = some r) :
  Calls Tryz.prog 106 #[.int .u8 a0] w fun e w' => e = .returned (.bool r) ∧ Drawn0 w w' := by
 have H : (if a0 ≥ 97 then (if a0 ≤ 122 then (some true) else (if a0 ≥ 65 then (if a0 ≤ 90 then (some true) else (if a0 ≥ 48 then (if a0 ≤ 57 then (some true) else (if a0 = 46 then (some true) else (if a0 = 95 then (some true) else (some (a0 == 45))))) else (if a0 = 46 then (some true) else (if a0 = 95 then (some true) else (some (a0 == 45)))))) else (if a0 ≥ 48 then (if a0 ≤ 57 then (some true) else (if a0 = 46 then (some true) else (if a0 = 95 then (some true) else (some (a0 == 45))))) else (if a0 = 46 then (some true) else (if a0 = 95 then (some true) else (some (a0 == 45))))))) else (if a0 ≥ 65 then (if a0 ≤ 90 then (some true) else (if a0 ≥ 48 then (if a0 ≤ 57 then (some true) else (if a0 = 46 then (some true) else (if a0 = 95 then (some true) else (some (a0 == 45))))) else (if a0 = 46 then (some true) else (if a0 = 95 then (some true) else (some (a0 == 45)))))) else (if a0 ≥ 48 then (if a0 ≤ 57 then (some true) else (if a0 = 46 then (some true) else (if a0 = 95 then (some true) else (some (a0 == 45))))) else (if a0 = 46 then (some true) else (if a0 = 95 then (some true) else (some (a0 == 45))))))) = some r := h
 clear h
 by_cases c2 : a0 ≥ 97
 ·rw [if_pos c2] at H
  have c2b0 : decide (97 ≤ a0) = true := decide_eq_true c2
  clear c2
  by_cases c3 : a0 ≤ 122
  ·rw [if_pos c3] at H
   have c3b0 : decide (a0 ≤ 122) = true := decide_eq_true c3
   clear c3
   obtain rfl := Option.some.inj H
   go_enter Tryz.func106, Tryz.ntmps106
   go_wp2
   go_ret
   exact ⟨ap5_, ap10_⟩
  ·rw [if_neg c3] at H
   have c3b0 : decide (a0 ≤ 122) = false := decide_eq_false c3
   clear c3
   by_cases c4 : a0 ≥ 65
   ·rw [if_pos c4] at H
    have c4b0 : decide (65 ≤ a0) = true := decide_eq_true c4
    clear c4
    by_cases c5 : a0 ≤ 90
    ·rw [if_pos c5] at H
     have c5b0 : decide (a0 ≤ 90) = true := decide_eq_true c5
     clear c5
     obtain rfl := Option.some.inj H
     go_enter Tryz.func106, Tryz.ntmps106
     go_wp2
     go_ret
     exact ⟨ap5_, ap10_⟩
    ·rw [if_neg c5] at H
     have c5b0 : decide (a0 ≤ 90) = false := decide_eq_false c5
     clear c5
     by_cases c6 : a0 ≥ 48
     ·rw [if_pos c6] at H
      have c6b0 : decide (48 ≤ a0) = true := decide_eq_true c6
      clear c6
      by_cases c7 : a0 ≤ 57
      ·rw [if_pos c7] at H
       have c7b0 : decide (a0 ≤ 57) = true := decide_eq_true c7
       clear c7
       obtain rfl := Option.some.inj H
       go_enter Tryz.func106, Tryz.ntmps106
       go_wp2
       go_ret
       exact ⟨ap5_, ap10_⟩
      ·rw [if_neg c7] at H
       have c7b0 : decide (a0 ≤ 57) = false := decide_eq_false c7
       clear c7
       by_cases c8 : a0 = 46
       ·rw [if_pos c8] at H
        have c8b0 : (a0 == 46) = true := beq_iff_eq.mpr c8
        have c8b1 : (a0 != 46) = false := bne_eq_false_iff_eq.mpr c8
        clear c8
        obtain rfl := Option.some.inj H
        go_enter Tryz.func106, Tryz.ntmps106
        go_wp2
        go_ret
        exact ⟨ap5_, ap10_⟩
       ·rw [if_neg c8] at H
        have c8b0 : (a0 == 46) = false := beq_eq_false_iff_ne.mpr c8
        have c8b1 : (a0 != 46) = true := bne_iff_ne.mpr c8
        by_cases c9 : a0 = 95
        ·rw [if_pos c9] at H
         have c9b0 : (a0 == 95) = true := beq_iff_eq.mpr c9
         have c9b1 : (a0 != 95) = false := bne_eq_false_iff_eq.mpr c9
         clear c9
         obtain rfl := Option.some.inj H
         go_enter Tryz.func106, Tryz.ntmps106
         go_wp2
         go_ret
         exact ⟨ap5_, ap10_⟩
        ·rw [if_neg c9] at H
         have c9b0 : (a0 == 95) = false := beq_eq_false_iff_ne.mpr c9
         have c9b1 : (a0 != 95) = true := bne_iff_ne.mpr c9
         obtain rfl := Option.some.inj H
         go_enter Tryz.func106, Tryz.ntmps106
         go_wp2
         go_ret
         exact ⟨ap5_, ap10_⟩
     ·rw [if_neg c6] at H
      have c6b0 : decide (48 ≤ a0) = false := decide_eq_false c6
      clear c6
      by_cases c10 : a0 = 46
      ·rw [if_pos c10] at H
       have c10b0 : (a0 == 46) = true := beq_iff_eq.mpr c10
       have c10b1 : (a0 != 46) = false := bne_eq_false_iff_eq.mpr c10
       clear c10
       obtain rfl := Option.some.inj H
       go_enter Tryz.func106, Tryz.ntmps106
       go_wp2
       go_ret
       exact ⟨ap5_, ap10_⟩
      ·rw [if_neg c10] at H
       have c10b0 : (a0 == 46) = false := beq_eq_false_iff_ne.mpr c10
       have c10b1 : (a0 != 46) = true := bne_iff_ne.mpr c10
       by_cases c11 : a0 = 95
       ·rw [if_pos c11] at H
        have c11b0 : (a0 == 95) = true := beq_iff_eq.mpr c11
        have c11b1 : (a0 != 95) = false := bne_eq_false_iff_eq.mpr c11
        clear c11
        obtain rfl := Option.some.inj H
        go_enter Tryz.func106, Tryz.ntmps106
        go_wp2
        go_ret
        exact ⟨ap5_, ap10_⟩
       ·rw [if_neg c11] at H
        have c11b0 : (a0 == 95) = false := beq_eq_false_iff_ne.mpr c11
        have c11b1 : (a0 != 95) = true := bne_iff_ne.mpr c11
        obtain rfl := Option.some.inj H
        go_enter Tryz.func106, Tryz.ntmps106
        go_wp2
        go_ret
        exact ⟨ap5_, ap10_⟩
   ·rw [if_neg c4] at H
    have c4b0 : decide (65 ≤ a0) = false := decide_eq_false c4
    clear c4
    by_cases c12 : a0 ≥ 48
    ·rw [if_pos c12] at H
     have c12b0 : decide (48 ≤ a0) = true := decide_eq_true c12
     clear c12
     by_cases c13 : a0 ≤ 57
     ·rw [if_pos c13] at H
      have c13b0 : decide (a0 ≤ 57) = true := decide_eq_true c13
      clear c13
      obtain rfl := Option.some.inj H
      go_enter Tryz.func106, Tryz.ntmps106
      go_wp2
      go_ret
      exact ⟨ap5_, ap10_⟩
     ·rw [if_neg c13] at H
      have c13b0 : decide (a0 ≤ 57) = false := decide_eq_false c13
      clear c13
      by_cases c14 : a0 = 46
      ·rw [if_pos c14] at H
       have c14b0 : (a0 == 46) = true := beq_iff_eq.mpr c14
       have c14b1 : (a0 != 46) = false := bne_eq_false_iff_eq.mpr c14
       clear c14
       obtain rfl := Option.some.inj H
       go_enter Tryz.func106, Tryz.ntmps106
       go_wp2
       go_ret
       exact ⟨ap5_, ap10_⟩
      ·rw [if_neg c14] at H
       have c14b0 : (a0 == 46) = false := beq_eq_false_iff_ne.mpr c14
       have c14b1 : (a0 != 46) = true := bne_iff_ne.mpr c14
       by_cases c15 : a0 = 95
       ·rw [if_pos c15] at H
        have c15b0 : (a0 == 95) = true := beq_iff_eq.mpr c15
        have c15b1 : (a0 != 95) = false := bne_eq_false_iff_eq.mpr c15
        clear c15
        obtain rfl := Option.some.inj H
        go_enter Tryz.func106, Tryz.ntmps106
        go_wp2
        go_ret
        exact ⟨ap5_, ap10_⟩
       ·rw [if_neg c15] at H
        have c15b0 : (a0 == 95) = false := beq_eq_false_iff_ne.mpr c15
        have c15b1 : (a0 != 95) = true := bne_iff_ne.mpr c15
        obtain rfl := Option.some.inj H
        go_enter Tryz.func106, Tryz.ntmps106
        go_wp2
        go_ret
        exact ⟨ap5_, ap10_⟩
    ·rw [if_neg c12] at H
     have c12b0 : decide (48 ≤ a0) = false := decide_eq_false c12
     clear c12
     by_cases c16 : a0 = 46
     ·rw [if_pos c16] at H
      have c16b0 : (a0 == 46) = true := beq_iff_eq.mpr c16
      have c16b1 : (a0 != 46) = false := bne_eq_false_iff_eq.mpr c16
      clear c16
      obtain rfl := Option.some.inj H
      go_enter Tryz.func106, Tryz.ntmps106
      go_wp2
      go_ret
      exact ⟨ap5_, ap10_⟩
     ·rw [if_neg c16] at H
      have c16b0 : (a0 == 46) = false := beq_eq_false_iff_ne.mpr c16
      have c16b1 : (a0 != 46) = true := bne_iff_ne.mpr c16
      by_cases c17 : a0 = 95
      ·rw [if_pos c17] at H
       have c17b0 : (a0 == 95) = true := beq_iff_eq.mpr c17
       have c17b1 : (a0 != 95) = false := bne_eq_false_iff_eq.mpr c17
       clear c17
       obtain rfl := Option.some.inj H
       go_enter Tryz.func106, Tryz.ntmps106
       go_wp2
       go_ret
       exact ⟨ap5_, ap10_⟩
      ·rw [if_neg c17] at H
       have c17b0 : (a0 == 95) = false := beq_eq_false_iff_ne.mpr c17
       have c17b1 : (a0 != 95) = true := bne_iff_ne.mpr c17
       obtain rfl := Option.some.inj H
       go_enter Tryz.func106, Tryz.ntmps106
       go_wp2
       go_ret
       exact ⟨ap5_, ap10_⟩
 ·rw [if_neg c2] at H
  have c2b0 : decide (97 ≤ a0) = false := decide_eq_false c2
  clear c2
  by_cases c18 : a0 ≥ 65
  ·rw [if_pos c18] at H
   have c18b0 : decide (65 ≤ a0) = true := decide_eq_true c18
   clear c18
   by_cases c19 : a0 ≤ 90
   ·rw [if_pos c19] at H
    have c19b0 : decide (a0 ≤ 90) = true := decide_eq_true c19
    clear c19
    obtain rfl := Option.some.inj H
    go_enter Tryz.func106, Tryz.ntmps106
    go_wp2
    go_ret
    exact ⟨ap5_, ap10_⟩
   ·rw [if_neg c19] at H
    have c19b0 : decide (a0 ≤ 90) = false := decide_eq_false c19
    clear c19
    by_cases c20 : a0 ≥ 48
    ·rw [if_pos c20] at H
     have c20b0 : decide (48 ≤ a0) = true := decide_eq_true c20
     clear c20
     by_cases c21 : a0 ≤ 57
     ·rw [if_pos c21] at H
      have c21b0 : decide (a0 ≤ 57) = true := decide_eq_true c21
      clear c21
      obtain rfl := Option.some.inj H
      go_enter Tryz.func106, Tryz.ntmps106
      go_wp2
      go_ret
      exact ⟨ap5_, ap10_⟩
     ·rw [if_neg c21] at H
      have c21b0 : decide (a0 ≤ 57) = false := decide_eq_false c21
      clear c21
      by_cases c22 : a0 = 46
      ·rw [if_pos c22] at H
       have c22b0 : (a0 == 46) = true := beq_iff_eq.mpr c22
       have c22b1 : (a0 != 46) = false := bne_eq_false_iff_eq.mpr c22
       clear c22
       obtain rfl := Option.some.inj H
       go_enter Tryz.func106, Tryz.ntmps106
       go_wp2
       go_ret
       exact ⟨ap5_, ap10_⟩
      ·rw [if_neg c22] at H
       have c22b0 : (a0 == 46) = false := beq_eq_false_iff_ne.mpr c22
       have c22b1 : (a0 != 46) = true := bne_iff_ne.mpr c22
       by_cases c23 : a0 = 95
       ·rw [if_pos c23] at H
        have c23b0 : (a0 == 95) = true := beq_iff_eq.mpr c23
        have c23b1 : (a0 != 95) = false := bne_eq_false_iff_eq.mpr c23
        clear c23
        obtain rfl := Option.some.inj H
        go_enter Tryz.func106, Tryz.ntmps106
        go_wp2
        go_ret
        exact ⟨ap5_, ap10_⟩
       ·rw [if_neg c23] at H
        have c23b0 : (a0 == 95) = false := beq_eq_false_iff_ne.mpr c23
        have c23b1 : (a0 != 95) = true := bne_iff_ne.mpr c23
        obtain rfl := Option.some.inj H
        go_enter Tryz.func106, Tryz.ntmps106
        go_wp2
        go_ret
        exact ⟨ap5_, ap10_⟩
    ·rw [if_neg c20] at H
     have c20b0 : decide (48 ≤ a0) = false := decide_eq_false c20
     clear c20
     by_cases c24 : a0 = 46
     ·rw [if_pos c24] at H
      have c24b0 : (a0 == 46) = true := beq_iff_eq.mpr c24
      have c24b1 : (a0 != 46) = false := bne_eq_false_iff_eq.mpr c24
      clear c24
      obtain rfl := Option.some.inj H
      go_enter Tryz.func106, Tryz.ntmps106
      go_wp2
      go_ret
      exact ⟨ap5_, ap10_⟩
     ·rw [if_neg c24] at H
      have c24b0 : (a0 == 46) = false := beq_eq_false_iff_ne.mpr c24
      have c24b1 : (a0 != 46) = true := bne_iff_ne.mpr c24
      by_cases c25 : a0 = 95
      ·rw [if_pos c25] at H
       have c25b0 : (a0 == 95) = true := beq_iff_eq.mpr c25
       have c25b1 : (a0 != 95) = false := bne_eq_false_iff_eq.mpr c25
       clear c25
       obtain rfl := Option.some.inj H
       go_enter Tryz.func106, Tryz.ntmps106
       go_wp2
       go_ret
       exact ⟨ap5_, ap10_⟩
      ·rw [if_neg c25] at H
       have c25b0 : (a0 == 95) = false := beq_eq_false_iff_ne.mpr c25
       have c25b1 : (a0 != 95) = true := bne_iff_ne.mpr c25
       obtain rfl := Option.some.inj H
       go_enter Tryz.func106, Tryz.ntmps106
       go_wp2
       go_ret
       exact ⟨ap5_, ap10_⟩
  ·rw [if_neg c18] at H
   have c18b0 : decide (65 ≤ a0) = false := decide_eq_false c18
   clear c18
   by_cases c26 : a0 ≥ 48
   ·rw [if_pos c26] at H
    have c26b0 : decide (48 ≤ a0) = true := decide_eq_true c26
    clear c26
    by_cases c27 : a0 ≤ 57
    ·rw [if_pos c27] at H
     have c27b0 : decide (a0 ≤ 57) = true := decide_eq_true c27
     clear c27
     obtain rfl := Option.some.inj H
     go_enter Tryz.func106, Tryz.ntmps106
     go_wp2
     go_ret
     exact ⟨ap5_, ap10_⟩
    ·rw [if_neg c27] at H
     have c27b0 : decide (a0 ≤ 57) = false := decide_eq_false c27
     clear c27
     by_cases c28 : a0 = 46
     ·rw [if_pos c28] at H
      have c28b0 : (a0 == 46) = true := beq_iff_eq.mpr c28
      have c28b1 : (a0 != 46) = false := bne_eq_false_iff_eq.mpr c28
      clear c28
      obtain rfl := Option.some.inj H
      go_enter Tryz.func106, Tryz.ntmps106
      go_wp2
      go_ret
      exact ⟨ap5_, ap10_⟩
     ·rw [if_neg c28] at H
      have c28b0 : (a0 == 46) = false := beq_eq_false_iff_ne.mpr c28
      have c28b1 : (a0 != 46) = true := bne_iff_ne.mpr c28
      by_cases c29 : a0 = 95
      ·rw [if_pos c29] at H
       have c29b0 : (a0 == 95) = true := beq_iff_eq.mpr c29
       have c29b1 : (a0 != 95) = false := bne_eq_false_iff_eq.mpr c29
       clear c29
       obtain rfl := Option.some.inj H
       go_enter Tryz.func106, Tryz.ntmps106
       go_wp2
       go_ret
       exact ⟨ap5_, ap10_⟩
      ·rw [if_neg c29] at H
       have c29b0 : (a0 == 95) = false := beq_eq_false_iff_ne.mpr c29
       have c29b1 : (a0 != 95) = true := bne_iff_ne.mpr c29
       obtain rfl := Option.some.inj H
       go_enter Tryz.func106, Tryz.ntmps106
       go_wp2
       go_ret
       exact ⟨ap5_, ap10_⟩
   ·rw [if_neg c26] at H
    have c26b0 : decide (48 ≤ a0) = false := decide_eq_false c26
    clear c26
    by_cases c30 : a0 = 46
    ·rw [if_pos c30] at H
     have c30b0 : (a0 == 46) = true := beq_iff_eq.mpr c30
     have c30b1 : (a0 != 46) = false := bne_eq_false_iff_eq.mpr c30
     clear c30
     obtain rfl := Option.some.inj H
     go_enter Tryz.func106, Tryz.ntmps106
     go_wp2
     go_ret
     exact ⟨ap5_, ap10_⟩
    ·rw [if_neg c30] at H
     have c30b0 : (a0 == 46) = false := beq_eq_false_iff_ne.mpr c30
     have c30b1 : (a0 != 46) = true := bne_iff_ne.mpr c30
     by_cases c31 : a0 = 95
     ·rw [if_pos c31] at H
      have c31b0 : (a0 == 95) = true := beq_iff_eq.mpr c31
      have c31b1 : (a0 != 95) = false := bne_eq_false_iff_eq.mpr c31
      clear c31
      obtain rfl := Option.some.inj H
      go_enter Tryz.func106, Tryz.ntmps106
      go_wp2
      go_ret
      exact ⟨ap5_, ap10_⟩
     ·rw [if_neg c31] at H
      have c31b0 : (a0 == 95) = false := beq_eq_false_iff_ne.mpr c31
      have c31b1 : (a0 != 95) = true := bne_iff_ne.mpr c31
      obtain rfl := Option.some.inj H
      go_enter Tryz.func106, Tryz.ntmps106
      go_wp2
      go_ret
      exact ⟨ap5_, ap10_⟩
end Go.Proofs.YtjappgjpikbdeaaGreatDoor.PTkp
