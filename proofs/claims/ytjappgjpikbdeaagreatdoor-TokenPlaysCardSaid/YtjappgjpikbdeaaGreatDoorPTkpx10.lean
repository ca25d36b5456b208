/- A part of the walk of TokenPlays. No condition. -/
import Derived.Test.YtjappgjpikbdeaaGreatDoorPTkpx0
import Derived.Test.YtjappgjpikbdeaaGreatDoorPTkpx1
import Derived.Test.YtjappgjpikbdeaaGreatDoorPTkpx2
import Derived.Test.YtjappgjpikbdeaaGreatDoorPTkpx3
import Derived.Test.YtjappgjpikbdeaaGreatDoorPTkpx4
import Derived.Test.YtjappgjpikbdeaaGreatDoorPTkpx5
import Derived.Test.YtjappgjpikbdeaaGreatDoorPTkpx6
import Derived.Test.YtjappgjpikbdeaaGreatDoorPTkpx7
import Derived.Test.YtjappgjpikbdeaaGreatDoorPTkpx8
import Derived.Test.YtjappgjpikbdeaaGreatDoorPTkpx9
namespace Go.Proofs.YtjappgjpikbdeaaGreatDoor.PTkp
set_option maxRecDepth 100000
set_option maxHeartbeats 8000000
open Go.RowKit Go.Proofs.YtjappgjpikbdeaaGreatDoorW.PrintWords Go.Proofs.YtjappgjpikbdeaaGreatDoorW.PrintLast Go.Proofs.YtjappgjpikbdeaaGreatDoorW.PrintMore
attribute [local go_sem] max2_int min2_int max_two min_two max_three min_three max_four min_four   -- for this text's walks alone
set_option linter.unusedVariables false
set_option linter.unusedSimpArgs false
def footbridgeref23_Burn.f (k : Nat) (l0 : List (S82)) (a1 : ByteArray) (a2 : ByteArray) : Option ((List (S82)) × Int) := (footbridgeref23_Get.f k l0 a1 a2).bind fun bt418 => (if bt418.2.2.2.2.2 = 0 then ((footbridgeref23_key.f k a1 a2).bind fun t425 => ((footbridgeref23_drop.f k l0 t425).bind fun t426 => ((footbridgeref23_own.f k bt418.2.2.2.2.1 a1 a2).bind fun t429 => ((footbridgeref23_drop.f k t426 t429).bind fun t430 => ((footbridgeref14_Key.f k (([(⟨#[109, 97, 121]⟩ : ByteArray), a1, a2] : List ByteArray))).bind fun t436 => ((footbridgeref23_drop.f k t430 t436).bind fun t437 => ((footbridgeref23_counted.f k t437 a1 (-1)).bind fun t440 => (some (t440, 0))))))))) else (some (l0, bt418.2.2.2.2.2)))
theorem footbridgeref23_Burn.mono : ∀ a0 a1 a2 k, LeO (footbridgeref23_Burn.f k a0 a1 a2) (footbridgeref23_Burn.f (k + 1) a0 a1 a2) := by
 intro a0 a1 a2 k
 unfold footbridgeref23_Burn.f
 repeat' first
   | (with_reducible exact footbridgeref14_Key.mono _ _)
   | (with_reducible exact footbridgeref23_Get.mono _ _ _ _)
   | (with_reducible exact footbridgeref23_counted.mono _ _ _ _)
   | (with_reducible exact footbridgeref23_drop.mono _ _ _)
   | (with_reducible exact footbridgeref23_key.mono _ _ _)
   | (with_reducible exact footbridgeref23_own.mono _ _ _ _)
   | (with_reducible exact LeO.refl _)
   | (with_reducible exact LeO.none _)
   | (with_reducible refine LeO.ite ?_ ?_)
   | (with_reducible refine LeO.bind ?_ (fun _ => ?_))
   | exact footbridgeref14_Key.mono _ _
   | exact footbridgeref23_Get.mono _ _ _ _
   | exact footbridgeref23_counted.mono _ _ _ _
   | exact footbridgeref23_drop.mono _ _ _
   | exact footbridgeref23_key.mono _ _ _
   | exact footbridgeref23_own.mono _ _ _ _
   | exact LeO.none _
   | refine LeO.ite ?_ ?_
   | refine LeO.bind ?_ (fun _ => ?_)
theorem footbridgeref23_Burn.calls (k : Nat) (P0_ : Nat → Prop) (A0 : Option Addr) (c0 : Nat) (l0 : List (S82)) (a1 : ByteArray) (a2 : ByteArray) (r1 : List (S82)) (r2 : Int) (w : World) (hs0 : Kd.V k82 82 w w.heap.size (fun k_ => P0_ k_) (.slice A0 l0.length c0) l0) (h : footbridgeref23_Burn.f k l0 a1 a2 = some (r1, r2)) :
  Calls Tryz.prog 38 #[.slice A0 l0.length c0, .string a1, .string a2] w fun e w' => ∃ v0_ : Value, e = .returned (.tuple #[v0_, .int .i64 r2]) ∧ Kd.V k82 82 w' w.heap.size (fun k_ => (P0_ k_ ∨ w.heap.size ≤ k_)) v0_ r1 ∧ Below w.heap.size w w' := by
 have hu23 := Tryz.underlying23
 have HO0 := As_ (show Kd.V k82 82 w w.heap.size (fun k_ => (P0_ k_ ∨ w.heap.size ≤ k_)) (.slice A0 l0.length c0) l0 from Kd.V_mono hs0 (fun k_ hk => .inl hk))
 have HB := As_ (Below.refl w.heap.size w)
 have H : ((footbridgeref23_Get.f k l0 a1 a2).bind fun bt418 => (if bt418.2.2.2.2.2 = 0 then ((footbridgeref23_key.f k a1 a2).bind fun t425 => ((footbridgeref23_drop.f k l0 t425).bind fun t426 => ((footbridgeref23_own.f k bt418.2.2.2.2.1 a1 a2).bind fun t429 => ((footbridgeref23_drop.f k t426 t429).bind fun t430 => ((footbridgeref14_Key.f k (([(⟨#[109, 97, 121]⟩ : ByteArray), a1, a2] : List ByteArray))).bind fun t436 => ((footbridgeref23_drop.f k t430 t436).bind fun t437 => ((footbridgeref23_counted.f k t437 a1 (-1)).bind fun t440 => (some (t440, 0))))))))) else (some (l0, bt418.2.2.2.2.2)))) = some (r1, r2) := h
 clear h
 replace H := Option.bind_eq_some_iff.mp H
 obtain ⟨⟨t418, t419, t420, t421, t422, t423⟩, A40, H⟩ := H
 try dsimp only at H
 have A4 := As_ A40
 clear A40
 by_cases c5 : t423 = 0
 ·rw [if_pos c5] at H
  have c5b0 : (t423 == 0) = true := beq_iff_eq.mpr c5
  have c5b1 : (t423 != 0) = false := bne_eq_false_iff_eq.mpr c5
  clear c5
  replace H := Option.bind_eq_some_iff.mp H
  obtain ⟨t425, A60, H⟩ := H
  try dsimp only at H
  have A6 := As_ A60
  clear A60
  replace H := Option.bind_eq_some_iff.mp H
  obtain ⟨t426, A70, H⟩ := H
  try dsimp only at H
  have A7 := As_ A70
  clear A70
  replace H := Option.bind_eq_some_iff.mp H
  obtain ⟨t429, A80, H⟩ := H
  try dsimp only at H
  have A8 := As_ A80
  clear A80
  replace H := Option.bind_eq_some_iff.mp H
  obtain ⟨t430, A90, H⟩ := H
  try dsimp only at H
  have A9 := As_ A90
  clear A90
  obtain ⟨y433, hy433⟩ : ∃ y_ : List ByteArray, y_ = (([(⟨#[109, 97, 121]⟩ : ByteArray), a1, a2] : List ByteArray)) := ⟨_, rfl⟩
  replace H : ((footbridgeref14_Key.f k y433).bind fun t436 => ((footbridgeref23_drop.f k t430 t436).bind fun t437 => ((footbridgeref23_counted.f k t437 a1 (-1)).bind fun t440 => (some (t440, 0))))) = some (r1, r2) := by first | (rw [hy433]; with_reducible exact H) | (have H2_ := (Option.bind_some _ _).symm.trans H; rw [hy433]; with_reducible exact H2_) | (have H2_ := (Option.bind_some _ _).symm.trans H; with_reducible exact H2_) | with_reducible exact H | (rw [hy433]; exact H) | exact H
  have Ny433 := As_ hy433
  clear hy433
  replace H := Option.bind_eq_some_iff.mp H
  obtain ⟨t436, A100, H⟩ := H
  try dsimp only at H
  have A10 := As_ A100
  clear A100
  replace H := Option.bind_eq_some_iff.mp H
  obtain ⟨t437, A110, H⟩ := H
  try dsimp only at H
  have A11 := As_ A110
  clear A110
  replace H := Option.bind_eq_some_iff.mp H
  obtain ⟨t440, A120, H⟩ := H
  try dsimp only at H
  have A12 := As_ A120
  clear A120
  simp only [Option.some.injEq, Prod.mk.injEq] at H
  obtain ⟨rfl, rfl⟩ := H
  go_enter Tryz.func38, Tryz.ntmps38
  go_wp2_with (first | ((with_reducible refine gate_callee (f := 14) rfl ?_); refine gk_ (some 14) Tryz.func14 #[.slice A0 l0.length c0, .string a1, .string a2] ?_; (with_reducible refine (footbridgeref23_Get.calls k _ _ l0 a1 a2 t418 t419 t420 t421 t422 t423 _ ?side1 ?side2 A4.out).mono ?_); (case side1 => repeat (first | exact (Kd.V_reads' HO0.out).2.2 | (with_reducible refine Kd.C_alloc ?_ _) | (with_reducible refine Kd.C_drewN ?_ _) | (with_reducible refine Kd.C_drew ?_))); (case side2 => exact (Kd.V_reads' HO0.out).2.1); rintro e w13 ⟨rfl, hb⟩; refine ⟨_, rfl, ?_⟩; replace HO0 := As_ (Kd.V_below ap18_ hb); replace HB := As_ (below_step ap50_ hb); (try clear hb); (try clear hb2); (try clear hk); (try clear hi)) | ((with_reducible refine gate_dst (N := 8) rfl ?_); refine bxE (N := 8) (cs := #[.string ⟨#[]⟩, .string ⟨#[]⟩, .string ⟨#[]⟩, .string ⟨#[]⟩, .string ⟨#[]⟩]) (t := 23) ?_; intro gb424 hg w14 hbox hb; replace HO0 := As_ (Kd.V_below (Kd.V_elderB ap18_ gb424 (Nat.le_of_eq hg.symm)) hb); have BK424 := As_ (hbox); have GW424 := As_ ((by rw [hg]; exact (below_size ap50_) : w.heap.size ≤ gb424)); have GE424 := As_ ((by rw [hg]; exact (below_size ap50_) : w.heap.size ≤ gb424)); replace HB := As_ (below_step ap50_ hb); clear hb hbox hg; obtain ⟨hcz15_0, hfz15_0, hcz15_1, hfz15_1, hcz15_2, hfz15_2, hcz15_3, hfz15_3, hcz15_4, hfz15_4⟩ := clN5 BK424.out) | ((with_reducible refine gate_callee (f := 41) rfl ?_); refine gk_ (some 24) Tryz.func41 #[.string a1, .string a2] ?_; (with_reducible refine (footbridgeref23_key.calls k a1 a2 t425 _ A6.out).mono ?_); rintro e w16 ⟨rfl, hb⟩; refine ⟨_, rfl, ?_⟩; replace HO0 := As_ (Kd.V_below (by (with_reducible repeat (first | apply Kd.V_alloc | apply Kd.V_drewN | apply Kd.V_drew)); exact (Kd.V_mono (Kd.V_far (p := ⟨gb424, 4, none⟩) (Kd.V_far (p := ⟨gb424, 3, none⟩) (Kd.V_far (p := ⟨gb424, 2, none⟩) (Kd.V_far (p := ⟨gb424, 1, none⟩) (Kd.V_far (p := ⟨gb424, 0, none⟩) (Kd.V_mono HO0.out (fun k_ hk => (⟨hk, hk.2⟩ : _ ∧ k_ ≠ gb424))) (fun _ hk => hk.2) (.string t418)) (fun _ hk => hk.2) (.string t419)) (fun _ hk => hk.2) (.string t420)) (fun _ hk => hk.2) (.string t421)) (fun _ hk => hk.2) (.string t422)) (fun _ h_ => h_.1))) hb); replace BK424 := As_ (blk_below (g := gb424) (o := .cells #[.string t418, .string t419, .string t420, .string t421, .string t422] 23 (0, 0)) (by (with_reducible repeat (first | refine blk_drewN ?_ _ | refine blk_drew ?_ | refine blk_alloc ?_ _)); refine blk_put (cs := #[.string t418, .string t419, .string t420, .string t421, .string ⟨#[]⟩]) ?_ 4 _ rfl; (with_reducible repeat (first | refine blk_drewN ?_ _ | refine blk_drew ?_ | refine blk_alloc ?_ _)); refine blk_put (cs := #[.string t418, .string t419, .string t420, .string ⟨#[]⟩, .string ⟨#[]⟩]) ?_ 3 _ rfl; (with_reducible repeat (first | refine blk_drewN ?_ _ | refine blk_drew ?_ | refine blk_alloc ?_ _)); refine blk_put (cs := #[.string t418, .string t419, .string ⟨#[]⟩, .string ⟨#[]⟩, .string ⟨#[]⟩]) ?_ 2 _ rfl; (with_reducible repeat (first | refine blk_drewN ?_ _ | refine blk_drew ?_ | refine blk_alloc ?_ _)); refine blk_put (cs := #[.string t418, .string ⟨#[]⟩, .string ⟨#[]⟩, .string ⟨#[]⟩, .string ⟨#[]⟩]) ?_ 1 _ rfl; (with_reducible repeat (first | refine blk_drewN ?_ _ | refine blk_drew ?_ | refine blk_alloc ?_ _)); refine blk_put (cs := #[.string ⟨#[]⟩, .string ⟨#[]⟩, .string ⟨#[]⟩, .string ⟨#[]⟩, .string ⟨#[]⟩]) ?_ 0 _ rfl; (with_reducible repeat (first | refine blk_drewN ?_ _ | refine blk_drew ?_ | refine blk_alloc ?_ _)); exact BK424.out) hb); replace HB := As_ (below_step ap58_ hb); (try clear hb); (try clear hb2); (try clear hk); (try clear hi)) | ((with_reducible refine gate_callee (f := 73) rfl ?_); refine gk_ (some 25) Tryz.func73 #[.slice A0 l0.length c0, .string t425] ?_; (with_reducible refine (footbridgeref23_drop.calls k (fun k_ => ((P0_ k_ ∨ w.heap.size ≤ k_) ∧ k_ ≠ gb424)) _ _ l0 t425 t426 _ ?side1 A7.out).mono ?_); (case side1 => exact HO0.out); rintro e w17 ⟨v427, rfl, ho0, hb⟩; refine ⟨_, rfl, ?_⟩; replace HO0 := As_ (Kd.V_below ap18_ hb); have HO428 := As_ (Kd.V_lower (Kd.V_mono (ok' := fun k_ => (P0_ k_ ∨ w.heap.size ≤ k_) ∧ k_ ≠ gb424) ho0 (fun k_ hk_ => ⟨Or.elim hk_ (fun hs_ => hs_.1) (fun hn_ => (.inr (Nat.le_trans (below_size ap58_) hn_))), Or.elim hk_ (fun hs_ => hs_.2) (fun hn_ => (Kd.freshB (g := gb424) (o := .cells #[.string t418, .string t419, .string t420, .string t421, .string t422] 23 (0, 0)) ap44_ k_ hn_))⟩)) (below_size ap58_)); replace BK424 := As_ (blk_below (g := gb424) (o := .cells #[.string t418, .string t419, .string t420, .string t421, .string t422] 23 (0, 0)) ap44_ hb); replace HB := As_ (below_step ap58_ hb); (try clear hb); (try clear hb2); (try clear hk); (try clear hi); (try clear ho0); obtain ⟨hcz18_0, hfz18_0, hcz18_1, hfz18_1, hcz18_2, hfz18_2, hcz18_3, hfz18_3, hcz18_4, hfz18_4⟩ := clN5 BK424.out) | ((with_reducible refine gate_callee (f := 71) rfl ?_); refine gk_ (some 31) Tryz.func71 #[.string t422, .string a1, .string a2] ?_; (with_reducible refine (footbridgeref23_own.calls k t422 a1 a2 t429 _ A8.out).mono ?_); rintro e w19 ⟨rfl, hb⟩; refine ⟨_, rfl, ?_⟩; replace HO0 := As_ (Kd.V_below ap18_ hb); replace HO428 := As_ (Kd.V_below ap23_ hb); replace BK424 := As_ (blk_below (g := gb424) (o := .cells #[.string t418, .string t419, .string t420, .string t421, .string t422] 23 (0, 0)) ap44_ hb); replace HB := As_ (below_step ap58_ hb); (try clear hb); (try clear hb2); (try clear hk); (try clear hi); obtain ⟨Ao20, co20, eo20⟩ := Kd.V_slice HO428.out; subst eo20) | ((with_reducible refine gate_callee (f := 73) rfl ?_); refine gk_ (some 32) Tryz.func73 #[.slice Ao20 t426.length co20, .string t429] ?_; (with_reducible refine (footbridgeref23_drop.calls k (fun k_ => ((P0_ k_ ∨ w.heap.size ≤ k_) ∧ k_ ≠ gb424)) _ _ t426 t429 t430 _ ?side1 A9.out).mono ?_); (case side1 => exact HO428.out); rintro e w21 ⟨v431, rfl, ho0, hb⟩; refine ⟨_, rfl, ?_⟩; replace HO0 := As_ (Kd.V_below ap18_ hb); replace HO428 := As_ (Kd.V_below ap23_ hb); have HO432 := As_ (Kd.V_lower (Kd.V_mono (ok' := fun k_ => (P0_ k_ ∨ w.heap.size ≤ k_) ∧ k_ ≠ gb424) ho0 (fun k_ hk_ => ⟨Or.elim hk_ (fun hs_ => hs_.1) (fun hn_ => (.inr (Nat.le_trans (below_size ap58_) hn_))), Or.elim hk_ (fun hs_ => hs_.2) (fun hn_ => (Kd.freshB (g := gb424) (o := .cells #[.string t418, .string t419, .string t420, .string t421, .string t422] 23 (0, 0)) ap44_ k_ hn_))⟩)) (below_size ap58_)); replace BK424 := As_ (blk_below (g := gb424) (o := .cells #[.string t418, .string t419, .string t420, .string t421, .string t422] 23 (0, 0)) ap44_ hb); replace HB := As_ (below_step ap58_ hb); (try clear hb); (try clear hb2); (try clear hk); (try clear hi); (try clear ho0)) | ((with_reducible refine gate_dst (N := 36) rfl ?_); refine Kd.R_lit Kd.string _ 9 ?hg (N := 36) ?hd (xs := ([(⟨#[109, 97, 121]⟩ : ByteArray), a1, a2] : List ByteArray)) (inner := [.string ⟨#[109, 97, 121]⟩, .string a1, .string a2]) (ok := fun _ => True) (okp := fun _ => True) ?hr ?hp (fun _ hk => hk) trivial (Below.refl _ _) (Nat.le_refl _) (by simp) ?_; (case hd => rfl); (case hg => rfl); (case hr => first | (go_simp; done) | (go_simp; rfl)); (case hp => exact (Reps.one (show Kd.M Kd.string _ _ _ (⟨#[109, 97, 121]⟩ : ByteArray) [.string ⟨#[109, 97, 121]⟩] from rfl) (Reps.one (show Kd.M Kd.string _ _ _ a1 [.string a1] from rfl) (Reps.one (show Kd.M Kd.string _ _ _ a2 [.string a2] from rfl) (Reps.none _ _))))); intro v434 w22 ho23 hb hg_ hnew_; clear hg_ hnew_; (first | rw [← Ny433.out] at ho23 | (simp only [Int.reduceToNat] at ho23; rw [← Ny433.out] at ho23)); replace HO0 := As_ (Kd.V_elder' ap18_ (Kd.R_base ho23) hb); replace HO428 := As_ (Kd.V_elder' ap23_ (Kd.R_base ho23) hb); replace HO432 := As_ (Kd.V_elder' ap28_ (Kd.R_base ho23) hb); have HO435 := As_ (Kd.R_lower (Kd.R_newM (M := fun k_ => (w.heap.size ≤ k_)) ho23 (below_size ap58_) (fun k_ h_ => h_)) (below_size ap58_)); replace BK424 := As_ (blk_below (g := gb424) (o := .cells #[.string t418, .string t419, .string t420, .string t421, .string t422] 23 (0, 0)) ap44_ hb); replace HB := As_ (below_step ap58_ hb); clear hb ho23; obtain ⟨Ao24, co24, eo24⟩ := Kd.R_slice HO435.out; subst eo24) | ((with_reducible refine gate_callee (f := 47) rfl ?_); refine gk_ (some 37) Tryz.func47 #[.slice Ao24 y433.length co24] ?_; (with_reducible refine (footbridgeref14_Key.calls k _ _ y433 t436 _ ?side1 ?side2 A10.out).mono ?_); (case side1 => repeat (first | exact (Kd.R_reads' HO435.out).2.2 | (with_reducible refine Kd.C_alloc ?_ _) | (with_reducible refine Kd.C_drewN ?_ _) | (with_reducible refine Kd.C_drew ?_))); (case side2 => exact (Kd.R_reads' HO435.out).2.1); rintro e w25 ⟨rfl, hb⟩; refine ⟨_, rfl, ?_⟩; replace HO0 := As_ (Kd.V_below ap18_ hb); replace HO428 := As_ (Kd.V_below ap23_ hb); replace HO432 := As_ (Kd.V_below ap28_ hb); replace HO435 := As_ (Kd.R_below ap26_ hb); replace BK424 := As_ (blk_below (g := gb424) (o := .cells #[.string t418, .string t419, .string t420, .string t421, .string t422] 23 (0, 0)) ap44_ hb); replace HB := As_ (below_step ap58_ hb); (try clear hb); (try clear hb2); (try clear hk); (try clear hi); obtain ⟨Ao26, co26, eo26⟩ := Kd.V_slice HO432.out; subst eo26) | ((with_reducible refine gate_callee (f := 73) rfl ?_); refine gk_ (some 38) Tryz.func73 #[.slice Ao26 t430.length co26, .string t436] ?_; (with_reducible refine (footbridgeref23_drop.calls k (fun k_ => (((P0_ k_ ∨ w.heap.size ≤ k_) ∧ k_ ≠ gb424) ∧ some k_ ≠ (.slice Ao24 y433.length co24 : Value).ownBlock)) _ _ t430 t436 t437 _ ?side1 A11.out).mono ?_); (case side1 => exact HO432.out); rintro e w27 ⟨v438, rfl, ho0, hb⟩; refine ⟨_, rfl, ?_⟩; replace HO0 := As_ (Kd.V_below ap18_ hb); replace HO428 := As_ (Kd.V_below ap23_ hb); replace HO432 := As_ (Kd.V_below ap28_ hb); have HO439 := As_ (Kd.V_lower (Kd.V_mono (ok' := fun k_ => (P0_ k_ ∨ w.heap.size ≤ k_) ∧ some k_ ≠ (.slice Ao24 y433.length co24 : Value).ownBlock ∧ k_ ≠ gb424) ho0 (fun k_ hk_ => ⟨Or.elim hk_ (fun hs_ => hs_.1.1) (fun hn_ => (.inr (Nat.le_trans (below_size ap58_) hn_))), Or.elim hk_ (fun hs_ => hs_.2) (fun hn_ => (Kd.fresh' (Kd.R_lt ap26_) k_ hn_)), Or.elim hk_ (fun hs_ => hs_.1.2) (fun hn_ => (Kd.freshB (g := gb424) (o := .cells #[.string t418, .string t419, .string t420, .string t421, .string t422] 23 (0, 0)) ap44_ k_ hn_))⟩)) (below_size ap58_)); replace HO435 := As_ (Kd.R_below ap26_ hb); replace BK424 := As_ (blk_below (g := gb424) (o := .cells #[.string t418, .string t419, .string t420, .string t421, .string t422] 23 (0, 0)) ap44_ hb); replace HB := As_ (below_step ap58_ hb); (try clear hb); (try clear hb2); (try clear hk); (try clear hi); (try clear ho0); obtain ⟨Ao28, co28, eo28⟩ := Kd.V_slice HO439.out; subst eo28) | ((with_reducible refine gate_callee (f := 72) rfl ?_); refine gk_ (some 41) Tryz.func72 #[.slice Ao28 t437.length co28, .string a1, .int .i64 (-1)] ?_; (with_reducible refine (footbridgeref23_counted.calls k (fun k_ => ((P0_ k_ ∨ w.heap.size ≤ k_) ∧ (some k_ ≠ (.slice Ao24 y433.length co24 : Value).ownBlock ∧ k_ ≠ gb424))) _ _ t437 a1 (-1) t440 _ ?side1 A12.out).mono ?_); (case side1 => exact HO439.out); rintro e w29 ⟨v441, rfl, ho0, hb⟩; refine ⟨_, rfl, ?_⟩; replace HO0 := As_ (Kd.V_below ap18_ hb); replace HO428 := As_ (Kd.V_below ap23_ hb); replace HO432 := As_ (Kd.V_below ap28_ hb); replace HO439 := As_ (Kd.V_below (by (with_reducible repeat (first | apply Kd.V_alloc | apply Kd.V_drewN | apply Kd.V_drew)); exact HO439.out) hb); have HO442 := As_ (Kd.V_lower (Kd.V_mono (ok' := fun k_ => (P0_ k_ ∨ w.heap.size ≤ k_) ∧ some k_ ≠ (.slice Ao24 y433.length co24 : Value).ownBlock ∧ k_ ≠ gb424) ho0 (fun k_ hk_ => ⟨Or.elim hk_ (fun hs_ => hs_.1) (fun hn_ => (.inr (Nat.le_trans (below_size ap58_) hn_))), Or.elim hk_ (fun hs_ => hs_.2.1) (fun hn_ => (Kd.fresh' (Kd.R_lt ap26_) k_ hn_)), Or.elim hk_ (fun hs_ => hs_.2.2) (fun hn_ => (Kd.freshB (g := gb424) (o := .cells #[.string t418, .string t419, .string t420, .string t421, .string t422] 23 (0, 0)) ap44_ k_ hn_))⟩)) (below_size ap58_)); replace HO435 := As_ (Kd.R_below ap26_ hb); replace BK424 := As_ (blk_below (g := gb424) (o := .cells #[.string t418, .string t419, .string t420, .string t421, .string t422] 23 (0, 0)) ap44_ hb); replace HB := As_ (below_step ap58_ hb); (try clear hb); (try clear hb2); (try clear hk); (try clear hi); (try clear ho0)))
  go_ret2
  exact ⟨_, ap17_, by (with_reducible repeat (first | apply Kd.V_alloc | apply Kd.V_drewN | apply Kd.V_drew)); exact Kd.V_mono HO442.out (fun _ hk => hk.1), ap58_⟩
 ·rw [if_neg c5] at H
  have c5b0 : (t423 == 0) = false := beq_eq_false_iff_ne.mpr c5
  have c5b1 : (t423 != 0) = true := bne_iff_ne.mpr c5
  simp only [Option.some.injEq, Prod.mk.injEq] at H
  obtain ⟨rfl, rfl⟩ := H
  go_enter Tryz.func38, Tryz.ntmps38
  go_wp2_with (first | ((with_reducible refine gate_callee (f := 14) rfl ?_); refine gk_ (some 14) Tryz.func14 #[.slice A0 l0.length c0, .string a1, .string a2] ?_; (with_reducible refine (footbridgeref23_Get.calls k _ _ l0 a1 a2 t418 t419 t420 t421 t422 t423 _ ?side1 ?side2 A4.out).mono ?_); (case side1 => repeat (first | exact (Kd.V_reads' HO0.out).2.2 | (with_reducible refine Kd.C_alloc ?_ _) | (with_reducible refine Kd.C_drewN ?_ _) | (with_reducible refine Kd.C_drew ?_))); (case side2 => exact (Kd.V_reads' HO0.out).2.1); rintro e w30 ⟨rfl, hb⟩; refine ⟨_, rfl, ?_⟩; replace HO0 := As_ (Kd.V_below ap18_ hb); replace HB := As_ (below_step ap50_ hb); (try clear hb); (try clear hb2); (try clear hk); (try clear hi)) | ((with_reducible refine gate_dst (N := 8) rfl ?_); refine bxE (N := 8) (cs := #[.string ⟨#[]⟩, .string ⟨#[]⟩, .string ⟨#[]⟩, .string ⟨#[]⟩, .string ⟨#[]⟩]) (t := 23) ?_; intro gb424 hg w31 hbox hb; replace HO0 := As_ (Kd.V_below (Kd.V_elderB ap18_ gb424 (Nat.le_of_eq hg.symm)) hb); have BK424 := As_ (hbox); have GW424 := As_ ((by rw [hg]; exact (below_size ap50_) : w.heap.size ≤ gb424)); have GE424 := As_ ((by rw [hg]; exact (below_size ap50_) : w.heap.size ≤ gb424)); replace HB := As_ (below_step ap50_ hb); clear hb hbox hg; obtain ⟨hcz32_0, hfz32_0, hcz32_1, hfz32_1, hcz32_2, hfz32_2, hcz32_3, hfz32_3, hcz32_4, hfz32_4⟩ := clN5 BK424.out))
  go_ret2
  exact ⟨_, ap17_, by (with_reducible repeat (first | apply Kd.V_alloc | apply Kd.V_drewN | apply Kd.V_drew)); exact Kd.V_mono (Kd.V_far (p := ⟨gb424, 4, none⟩) (Kd.V_far (p := ⟨gb424, 3, none⟩) (Kd.V_far (p := ⟨gb424, 2, none⟩) (Kd.V_far (p := ⟨gb424, 1, none⟩) (Kd.V_far (p := ⟨gb424, 0, none⟩) (Kd.V_mono HO0.out (fun k_ hk => (⟨hk, hk.2⟩ : _ ∧ k_ ≠ gb424))) (fun _ hk => hk.2) (.string t418)) (fun _ hk => hk.2) (.string t419)) (fun _ hk => hk.2) (.string t420)) (fun _ hk => hk.2) (.string t421)) (fun _ hk => hk.2) (.string t422)) (fun _ hk => hk.1.1), ap58_⟩
def footbridgeref23_Move.f (k : Nat) (l0 : List (S82)) (a1 : ByteArray) (a2 : ByteArray) (a3 : ByteArray) : Option ((List (S82)) × Int) := (footbridgeref23_Get.f k l0 a1 a2).bind fun bt443 => (if bt443.2.2.2.2.2 = 0 then ((footbridgeref23_Named.f a3).bind fun t450 => (if t450 = true then ((footbridgeref23_own.f k bt443.2.2.2.2.1 a1 a2).bind fun t451 => ((footbridgeref23_drop.f k l0 t451).bind fun t452 => ((footbridgeref14_Key.f k (([(⟨#[109, 97, 121]⟩ : ByteArray), a1, a2] : List ByteArray))).bind fun t458 => ((footbridgeref23_drop.f k t452 t458).bind fun t459 => ((footbridgeref23_key.f k a1 a2).bind fun t462 => ((footbridgeref23_value.f k bt443.1 bt443.2.1 bt443.2.2.1 bt443.2.2.2.1 a3).bind fun t463 => ((footbridgeref14_Put.f k t459 t462 t463).bind fun t464 => ((footbridgeref23_own.f k a3 a1 a2).bind fun t467 => ((footbridgeref14_Put.f k t464 t467 (⟨#[1]⟩ : ByteArray)).bind fun t468 => (some (t468, 0))))))))))) else (some (l0, 7)))) else (some (l0, bt443.2.2.2.2.2)))
theorem footbridgeref23_Move.mono : ∀ a0 a1 a2 a3 k, LeO (footbridgeref23_Move.f k a0 a1 a2 a3) (footbridgeref23_Move.f (k + 1) a0 a1 a2 a3) := by
 intro a0 a1 a2 a3 k
 unfold footbridgeref23_Move.f
 repeat' first
   | (with_reducible exact footbridgeref14_Key.mono _ _)
   | (with_reducible exact footbridgeref14_Put.mono _ _ _ _)
   | (with_reducible exact footbridgeref23_Get.mono _ _ _ _)
   | (with_reducible exact footbridgeref23_drop.mono _ _ _)
   | (with_reducible exact footbridgeref23_key.mono _ _ _)
   | (with_reducible exact footbridgeref23_own.mono _ _ _ _)
   | (with_reducible exact footbridgeref23_value.mono _ _ _ _ _ _)
   | (with_reducible exact LeO.refl _)
   | (with_reducible exact LeO.none _)
   | (with_reducible refine LeO.ite ?_ ?_)
   | (with_reducible refine LeO.bind ?_ (fun _ => ?_))
   | exact footbridgeref14_Key.mono _ _
   | exact footbridgeref14_Put.mono _ _ _ _
   | exact footbridgeref23_Get.mono _ _ _ _
   | exact footbridgeref23_drop.mono _ _ _
   | exact footbridgeref23_key.mono _ _ _
   | exact footbridgeref23_own.mono _ _ _ _
   | exact footbridgeref23_value.mono _ _ _ _ _ _
   | exact LeO.none _
   | refine LeO.ite ?_ ?_
   | refine LeO.bind ?_ (fun _ => ?_)
def footbridgeref23_Move.T9 : Bool × List (List Nat × List Nat) := (true, [([], []), ([], []), ([], []), ([1, 2], [1, 2]), ([], []), ([4, 3], [4]), ([0, 3, 5, 5], [0, 3, 5]), ([6, 6, 0, 1, 2, 3, 4, 5, 6], [0, 6])])
def footbridgeref23_Move.B9 : List Nat := [0, 0, 0, 6, 0, 30, 63, 127]
theorem footbridgeref23_Move.tab9 : rtab .any (opsOf Tryz.f39 9) = footbridgeref23_Move.T9 := by kernel_rfl
theorem footbridgeref23_Move.bits9 : waitsOk footbridgeref23_Move.T9.2 footbridgeref23_Move.B9 = true := by kernel_rfl
theorem footbridgeref23_Move.calls (k : Nat) (P0_ : Nat → Prop) (A0 : Option Addr) (c0 : Nat) (l0 : List (S82)) (a1 : ByteArray) (a2 : ByteArray) (a3 : ByteArray) (r1 : List (S82)) (r2 : Int) (w : World) (hs0 : Kd.V k82 82 w w.heap.size (fun k_ => P0_ k_) (.slice A0 l0.length c0) l0) (h : footbridgeref23_Move.f k l0 a1 a2 a3 = some (r1, r2)) :
  Calls Tryz.prog 39 #[.slice A0 l0.length c0, .string a1, .string a2, .string a3] w fun e w' => ∃ v0_ : Value, e = .returned (.tuple #[v0_, .int .i64 r2]) ∧ Kd.V k82 82 w' w.heap.size (fun k_ => (P0_ k_ ∨ w.heap.size ≤ k_)) v0_ r1 ∧ Below w.heap.size w w' := by
 have hu23 := Tryz.underlying23
 have HO0 := As_ (show Kd.V k82 82 w w.heap.size (fun k_ => (P0_ k_ ∨ w.heap.size ≤ k_)) (.slice A0 l0.length c0) l0 from Kd.V_mono hs0 (fun k_ hk => .inl hk))
 have HB := As_ (Below.refl w.heap.size w)
 have H : ((footbridgeref23_Get.f k l0 a1 a2).bind fun bt443 => (if bt443.2.2.2.2.2 = 0 then ((footbridgeref23_Named.f a3).bind fun t450 => (if t450 = true then ((footbridgeref23_own.f k bt443.2.2.2.2.1 a1 a2).bind fun t451 => ((footbridgeref23_drop.f k l0 t451).bind fun t452 => ((footbridgeref14_Key.f k (([(⟨#[109, 97, 121]⟩ : ByteArray), a1, a2] : List ByteArray))).bind fun t458 => ((footbridgeref23_drop.f k t452 t458).bind fun t459 => ((footbridgeref23_key.f k a1 a2).bind fun t462 => ((footbridgeref23_value.f k bt443.1 bt443.2.1 bt443.2.2.1 bt443.2.2.2.1 a3).bind fun t463 => ((footbridgeref14_Put.f k t459 t462 t463).bind fun t464 => ((footbridgeref23_own.f k a3 a1 a2).bind fun t467 => ((footbridgeref14_Put.f k t464 t467 (⟨#[1]⟩ : ByteArray)).bind fun t468 => (some (t468, 0))))))))))) else (some (l0, 7)))) else (some (l0, bt443.2.2.2.2.2)))) = some (r1, r2) := h
 clear h
 replace H := Option.bind_eq_some_iff.mp H
 obtain ⟨⟨t443, t444, t445, t446, t447, t448⟩, A50, H⟩ := H
 try dsimp only at H
 have A5 := As_ A50
 clear A50
 by_cases c6 : t448 = 0
 ·rw [if_pos c6] at H
  have c6b0 : (t448 == 0) = true := beq_iff_eq.mpr c6
  have c6b1 : (t448 != 0) = false := bne_eq_false_iff_eq.mpr c6
  clear c6
  replace H := Option.bind_eq_some_iff.mp H
  obtain ⟨t450, A70, H⟩ := H
  try dsimp only at H
  have A7 := As_ A70
  clear A70
  by_cases c8 : t450 = true
  ·subst c8
   have H1 : ((footbridgeref23_own.f k t447 a1 a2).bind fun t451 => ((footbridgeref23_drop.f k l0 t451).bind fun t452 => ((footbridgeref14_Key.f k (([(⟨#[109, 97, 121]⟩ : ByteArray), a1, a2] : List ByteArray))).bind fun t458 => ((footbridgeref23_drop.f k t452 t458).bind fun t459 => ((footbridgeref23_key.f k a1 a2).bind fun t462 => ((footbridgeref23_value.f k t443 t444 t445 t446 a3).bind fun t463 => ((footbridgeref14_Put.f k t459 t462 t463).bind fun t464 => ((footbridgeref23_own.f k a3 a1 a2).bind fun t467 => ((footbridgeref14_Put.f k t464 t467 (⟨#[1]⟩ : ByteArray)).bind fun t468 => (some (t468, 0))))))))))) = some (r1, r2) := by rw [if_pos rfl] at H; exact H
   clear H
   have H := H1
   clear H1
   replace H := Option.bind_eq_some_iff.mp H
   obtain ⟨t451, A90, H⟩ := H
   try dsimp only at H
   have A9 := As_ A90
   clear A90
   replace H := Option.bind_eq_some_iff.mp H
   obtain ⟨t452, A100, H⟩ := H
   try dsimp only at H
   have A10 := As_ A100
   clear A100
   obtain ⟨y455, hy455⟩ : ∃ y_ : List ByteArray, y_ = (([(⟨#[109, 97, 121]⟩ : ByteArray), a1, a2] : List ByteArray)) := ⟨_, rfl⟩
   replace H : ((footbridgeref14_Key.f k y455).bind fun t458 => ((footbridgeref23_drop.f k t452 t458).bind fun t459 => ((footbridgeref23_key.f k a1 a2).bind fun t462 => ((footbridgeref23_value.f k t443 t444 t445 t446 a3).bind fun t463 => ((footbridgeref14_Put.f k t459 t462 t463).bind fun t464 => ((footbridgeref23_own.f k a3 a1 a2).bind fun t467 => ((footbridgeref14_Put.f k t464 t467 (⟨#[1]⟩ : ByteArray)).bind fun t468 => (some (t468, 0))))))))) = some (r1, r2) := by first | (rw [hy455]; with_reducible exact H) | (have H2_ := (Option.bind_some _ _).symm.trans H; rw [hy455]; with_reducible exact H2_) | (have H2_ := (Option.bind_some _ _).symm.trans H; with_reducible exact H2_) | with_reducible exact H | (rw [hy455]; exact H) | exact H
   have Ny455 := As_ hy455
   clear hy455
   replace H := Option.bind_eq_some_iff.mp H
   obtain ⟨t458, A110, H⟩ := H
   try dsimp only at H
   have A11 := As_ A110
   clear A110
   replace H := Option.bind_eq_some_iff.mp H
   obtain ⟨t459, A120, H⟩ := H
   try dsimp only at H
   have A12 := As_ A120
   clear A120
   replace H := Option.bind_eq_some_iff.mp H
   obtain ⟨t462, A130, H⟩ := H
   try dsimp only at H
   have A13 := As_ A130
   clear A130
   replace H := Option.bind_eq_some_iff.mp H
   obtain ⟨t463, A140, H⟩ := H
   try dsimp only at H
   have A14 := As_ A140
   clear A140
   replace H := Option.bind_eq_some_iff.mp H
   obtain ⟨t464, A150, H⟩ := H
   try dsimp only at H
   have A15 := As_ A150
   clear A150
   replace H := Option.bind_eq_some_iff.mp H
   obtain ⟨t467, A160, H⟩ := H
   try dsimp only at H
   have A16 := As_ A160
   clear A160
   replace H := Option.bind_eq_some_iff.mp H
   obtain ⟨t468, A170, H⟩ := H
   try dsimp only at H
   have A17 := As_ A170
   clear A170
   simp only [Option.some.injEq, Prod.mk.injEq] at H
   obtain ⟨rfl, rfl⟩ := H
   go_enter Tryz.func39, Tryz.ntmps39
   try go_wp2_with (first | ((with_reducible refine gate_callee (f := 14) rfl ?_); refine gk_ (some 16) Tryz.func14 #[.slice A0 l0.length c0, .string a1, .string a2] ?_; (with_reducible refine (footbridgeref23_Get.calls k _ _ l0 a1 a2 t443 t444 t445 t446 t447 t448 _ ?side1 ?side2 A5.out).mono ?_); (case side1 => repeat (first | exact (Kd.V_reads' HO0.out).2.2 | (with_reducible refine Kd.C_alloc ?_ _) | (with_reducible refine Kd.C_drewN ?_ _) | (with_reducible refine Kd.C_drew ?_))); (case side2 => exact (Kd.V_reads' HO0.out).2.1); rintro e w18 ⟨rfl, hb⟩; refine ⟨_, rfl, ?_⟩; replace HO0 := As_ (Kd.V_below ap18_ hb); replace HB := As_ (below_step ap50_ hb); (try clear hb); (try clear hb2); (try clear hk); (try clear hi)) | ((with_reducible refine gate_dst (N := 10) rfl ?_); refine bxE (N := 10) (cs := #[.string ⟨#[]⟩, .string ⟨#[]⟩, .string ⟨#[]⟩, .string ⟨#[]⟩, .string ⟨#[]⟩]) (t := 23) ?_; intro gb449 hg w19 hbox hb; replace HO0 := As_ (Kd.V_below (Kd.V_elderB ap18_ gb449 (Nat.le_of_eq hg.symm)) hb); have BK449 := As_ (hbox); have GW449 := As_ ((by rw [hg]; exact (below_size ap50_) : w.heap.size ≤ gb449)); have GE449 := As_ ((by rw [hg]; exact (below_size ap50_) : w.heap.size ≤ gb449)); replace HB := As_ (below_step ap50_ hb); clear hb hbox hg; obtain ⟨hcz20_0, hfz20_0, hcz20_1, hfz20_1, hcz20_2, hfz20_2, hcz20_3, hfz20_3, hcz20_4, hfz20_4⟩ := clN5 BK449.out) | ((with_reducible refine gate_callee (f := 19) rfl ?_); refine gk_ (some 24) Tryz.func19 #[.string a3] ?_; (with_reducible refine (footbridgeref23_Named.calls a3 true _ A7.out).mono ?_); rintro e w' ⟨rfl, ⟨nd, rfl⟩⟩; refine ⟨_, rfl, ?_⟩) | ((with_reducible refine gate_callee (f := 71) rfl ?_); refine gk_ (some 32) Tryz.func71 #[.string t447, .string a1, .string a2] ?_; (with_reducible refine (footbridgeref23_own.calls k t447 a1 a2 t451 _ A9.out).mono ?_); rintro e w21 ⟨rfl, hb⟩; refine ⟨_, rfl, ?_⟩; replace HO0 := As_ (Kd.V_below (by (with_reducible repeat (first | apply Kd.V_alloc | apply Kd.V_drewN | apply Kd.V_drew)); exact (Kd.V_mono (Kd.V_far (p := ⟨gb449, 4, none⟩) (Kd.V_far (p := ⟨gb449, 3, none⟩) (Kd.V_far (p := ⟨gb449, 2, none⟩) (Kd.V_far (p := ⟨gb449, 1, none⟩) (Kd.V_far (p := ⟨gb449, 0, none⟩) (Kd.V_mono HO0.out (fun k_ hk => (⟨hk, hk.2⟩ : _ ∧ k_ ≠ gb449))) (fun _ hk => hk.2) (.string t443)) (fun _ hk => hk.2) (.string t444)) (fun _ hk => hk.2) (.string t445)) (fun _ hk => hk.2) (.string t446)) (fun _ hk => hk.2) (.string t447)) (fun _ h_ => h_.1))) hb); replace BK449 := As_ (blk_below (g := gb449) (o := .cells #[.string t443, .string t444, .string t445, .string t446, .string t447] 23 (0, 0)) (by (with_reducible repeat (first | refine blk_drewN ?_ _ | refine blk_drew ?_ | refine blk_alloc ?_ _)); refine blk_put (cs := #[.string t443, .string t444, .string t445, .string t446, .string ⟨#[]⟩]) ?_ 4 _ rfl; (with_reducible repeat (first | refine blk_drewN ?_ _ | refine blk_drew ?_ | refine blk_alloc ?_ _)); refine blk_put (cs := #[.string t443, .string t444, .string t445, .string ⟨#[]⟩, .string ⟨#[]⟩]) ?_ 3 _ rfl; (with_reducible repeat (first | refine blk_drewN ?_ _ | refine blk_drew ?_ | refine blk_alloc ?_ _)); refine blk_put (cs := #[.string t443, .string t444, .string ⟨#[]⟩, .string ⟨#[]⟩, .string ⟨#[]⟩]) ?_ 2 _ rfl; (with_reducible repeat (first | refine blk_drewN ?_ _ | refine blk_drew ?_ | refine blk_alloc ?_ _)); refine blk_put (cs := #[.string t443, .string ⟨#[]⟩, .string ⟨#[]⟩, .string ⟨#[]⟩, .string ⟨#[]⟩]) ?_ 1 _ rfl; (with_reducible repeat (first | refine blk_drewN ?_ _ | refine blk_drew ?_ | refine blk_alloc ?_ _)); refine blk_put (cs := #[.string ⟨#[]⟩, .string ⟨#[]⟩, .string ⟨#[]⟩, .string ⟨#[]⟩, .string ⟨#[]⟩]) ?_ 0 _ rfl; (with_reducible repeat (first | refine blk_drewN ?_ _ | refine blk_drew ?_ | refine blk_alloc ?_ _)); exact BK449.out) hb); replace HB := As_ (below_step ap57_ hb); (try clear hb); (try clear hb2); (try clear hk); (try clear hi)) | ((with_reducible refine gate_callee (f := 73) rfl ?_); refine gk_ (some 33) Tryz.func73 #[.slice A0 l0.length c0, .string t451] ?_; (with_reducible refine (footbridgeref23_drop.calls k (fun k_ => ((P0_ k_ ∨ w.heap.size ≤ k_) ∧ k_ ≠ gb449)) _ _ l0 t451 t452 _ ?side1 A10.out).mono ?_); (case side1 => exact HO0.out); rintro e w22 ⟨v453, rfl, ho0, hb⟩; refine ⟨_, rfl, ?_⟩; replace HO0 := As_ (Kd.V_below ap18_ hb); have HO454 := As_ (Kd.V_lower (Kd.V_mono (ok' := fun k_ => (P0_ k_ ∨ w.heap.size ≤ k_) ∧ k_ ≠ gb449) ho0 (fun k_ hk_ => ⟨Or.elim hk_ (fun hs_ => hs_.1) (fun hn_ => (.inr (Nat.le_trans (below_size ap57_) hn_))), Or.elim hk_ (fun hs_ => hs_.2) (fun hn_ => (Kd.freshB (g := gb449) (o := .cells #[.string t443, .string t444, .string t445, .string t446, .string t447] 23 (0, 0)) ap43_ k_ hn_))⟩)) (below_size ap57_)); replace BK449 := As_ (blk_below (g := gb449) (o := .cells #[.string t443, .string t444, .string t445, .string t446, .string t447] 23 (0, 0)) ap43_ hb); replace HB := As_ (below_step ap57_ hb); (try clear hb); (try clear hb2); (try clear hk); (try clear hi); (try clear ho0)) | ((with_reducible refine gate_dst (N := 37) rfl ?_); refine Kd.R_lit Kd.string _ 9 ?hg (N := 37) ?hd (xs := ([(⟨#[109, 97, 121]⟩ : ByteArray), a1, a2] : List ByteArray)) (inner := [.string ⟨#[109, 97, 121]⟩, .string a1, .string a2]) (ok := fun _ => True) (okp := fun _ => True) ?hr ?hp (fun _ hk => hk) trivial (Below.refl _ _) (Nat.le_refl _) (by simp) ?_; (case hd => rfl); (case hg => rfl); (case hr => first | (go_simp; done) | (go_simp; rfl)); (case hp => exact (Reps.one (show Kd.M Kd.string _ _ _ (⟨#[109, 97, 121]⟩ : ByteArray) [.string ⟨#[109, 97, 121]⟩] from rfl) (Reps.one (show Kd.M Kd.string _ _ _ a1 [.string a1] from rfl) (Reps.one (show Kd.M Kd.string _ _ _ a2 [.string a2] from rfl) (Reps.none _ _))))); intro v456 w23 ho24 hb hg_ hnew_; clear hg_ hnew_; (first | rw [← Ny455.out] at ho24 | (simp only [Int.reduceToNat] at ho24; rw [← Ny455.out] at ho24)); replace HO0 := As_ (Kd.V_elder' ap18_ (Kd.R_base ho24) hb); replace HO454 := As_ (Kd.V_elder' ap21_ (Kd.R_base ho24) hb); have HO457 := As_ (Kd.R_lower (Kd.R_newM (M := fun k_ => (w.heap.size ≤ k_)) ho24 (below_size ap57_) (fun k_ h_ => h_)) (below_size ap57_)); replace BK449 := As_ (blk_below (g := gb449) (o := .cells #[.string t443, .string t444, .string t445, .string t446, .string t447] 23 (0, 0)) ap43_ hb); replace HB := As_ (below_step ap57_ hb); clear hb ho24; obtain ⟨Ao25, co25, eo25⟩ := Kd.R_slice HO457.out; subst eo25) | ((with_reducible refine gate_callee (f := 47) rfl ?_); refine gk_ (some 38) Tryz.func47 #[.slice Ao25 y455.length co25] ?_; (with_reducible refine (footbridgeref14_Key.calls k _ _ y455 t458 _ ?side1 ?side2 A11.out).mono ?_); (case side1 => repeat (first | exact (Kd.R_reads' HO457.out).2.2 | (with_reducible refine Kd.C_alloc ?_ _) | (with_reducible refine Kd.C_drewN ?_ _) | (with_reducible refine Kd.C_drew ?_))); (case side2 => exact (Kd.R_reads' HO457.out).2.1); rintro e w26 ⟨rfl, hb⟩; refine ⟨_, rfl, ?_⟩; replace HO0 := As_ (Kd.V_below ap18_ hb); replace HO454 := As_ (Kd.V_below ap21_ hb); replace HO457 := As_ (Kd.R_below ap22_ hb); replace BK449 := As_ (blk_below (g := gb449) (o := .cells #[.string t443, .string t444, .string t445, .string t446, .string t447] 23 (0, 0)) ap43_ hb); replace HB := As_ (below_step ap57_ hb); (try clear hb); (try clear hb2); (try clear hk); (try clear hi); obtain ⟨Ao27, co27, eo27⟩ := Kd.V_slice HO454.out; subst eo27) | ((with_reducible refine gate_callee (f := 73) rfl ?_); refine gk_ (some 39) Tryz.func73 #[.slice Ao27 t452.length co27, .string t458] ?_; (with_reducible refine (footbridgeref23_drop.calls k (fun k_ => (((P0_ k_ ∨ w.heap.size ≤ k_) ∧ k_ ≠ gb449) ∧ some k_ ≠ (.slice Ao25 y455.length co25 : Value).ownBlock)) _ _ t452 t458 t459 _ ?side1 A12.out).mono ?_); (case side1 => exact HO454.out); rintro e w28 ⟨v460, rfl, ho0, hb⟩; refine ⟨_, rfl, ?_⟩; replace HO0 := As_ (Kd.V_below ap18_ hb); replace HO454 := As_ (Kd.V_below ap21_ hb); have HO461 := As_ (Kd.V_lower (Kd.V_mono (ok' := fun k_ => (P0_ k_ ∨ w.heap.size ≤ k_) ∧ some k_ ≠ (.slice Ao25 y455.length co25 : Value).ownBlock ∧ k_ ≠ gb449) ho0 (fun k_ hk_ => ⟨Or.elim hk_ (fun hs_ => hs_.1.1) (fun hn_ => (.inr (Nat.le_trans (below_size ap57_) hn_))), Or.elim hk_ (fun hs_ => hs_.2) (fun hn_ => (Kd.fresh' (Kd.R_lt ap22_) k_ hn_)), Or.elim hk_ (fun hs_ => hs_.1.2) (fun hn_ => (Kd.freshB (g := gb449) (o := .cells #[.string t443, .string t444, .string t445, .string t446, .string t447] 23 (0, 0)) ap43_ k_ hn_))⟩)) (below_size ap57_)); replace HO457 := As_ (Kd.R_below ap22_ hb); replace BK449 := As_ (blk_below (g := gb449) (o := .cells #[.string t443, .string t444, .string t445, .string t446, .string t447] 23 (0, 0)) ap43_ hb); replace HB := As_ (below_step ap57_ hb); (try clear hb); (try clear hb2); (try clear hk); (try clear hi); (try clear ho0); obtain ⟨hcz29_0, hfz29_0, hcz29_1, hfz29_1, hcz29_2, hfz29_2, hcz29_3, hfz29_3, hcz29_4, hfz29_4⟩ := clN5 BK449.out))
   have n0_ : Aside0 (Kd.V k82 82 (w28.setCell ⟨gb449, 4, none⟩ (.string a3)) w.heap.size (fun k_ => (P0_ k_ ∨ w.heap.size ≤ k_) ∧ some k_ ≠ (.slice Ao25 y455.length co25 : Value).ownBlock ∧ k_ ≠ gb449) (.slice A0 l0.length c0) l0) := ⟨by (with_reducible repeat (first | apply Kd.V_alloc | apply Kd.V_drewN | apply Kd.V_drew)); exact Kd.V_mono (Kd.V_far (p := ⟨gb449, 4, none⟩) (Kd.V_mono HO0.out (fun k_ hk => (⟨hk, hk.1.2⟩ : _ ∧ k_ ≠ gb449))) (fun _ hk => hk.2) (.string a3)) (fun _ hk => ⟨hk.1.1.1, ⟨hk.1.2, hk.1.1.2⟩⟩)⟩
   have n1_ : Aside0 (Kd.V k82 82 (w28.setCell ⟨gb449, 4, none⟩ (.string a3)) w.heap.size (fun k_ => (P0_ k_ ∨ w.heap.size ≤ k_) ∧ some k_ ≠ (.slice Ao25 y455.length co25 : Value).ownBlock ∧ k_ ≠ gb449) (.slice Ao27 t452.length co27) t452) := ⟨by (with_reducible repeat (first | apply Kd.V_alloc | apply Kd.V_drewN | apply Kd.V_drew)); exact Kd.V_mono (Kd.V_far (p := ⟨gb449, 4, none⟩) (Kd.V_mono HO454.out (fun k_ hk => (⟨hk, hk.1.2⟩ : _ ∧ k_ ≠ gb449))) (fun _ hk => hk.2) (.string a3)) (fun _ hk => ⟨hk.1.1.1, ⟨hk.1.2, hk.1.1.2⟩⟩)⟩
   have n2_ : Aside0 (Kd.R Kd.string 9 (w28.setCell ⟨gb449, 4, none⟩ (.string a3)) w.heap.size (fun k_ => (w.heap.size ≤ k_)) (.slice Ao25 y455.length co25) y455) := ⟨by (with_reducible repeat (first | apply Kd.R_alloc | apply Kd.R_drewN | apply Kd.R_drew)); exact Kd.R_mono (Kd.R_far (p := ⟨gb449, 4, none⟩) (Kd.R_types HO457.out BK449.out (by decide)) (fun _ hk => hk.2) (.string a3)) (fun _ hk => hk.1.1)⟩
   have n3_ : Aside0 (Kd.V k82 82 (w28.setCell ⟨gb449, 4, none⟩ (.string a3)) w.heap.size (fun k_ => (P0_ k_ ∨ w.heap.size ≤ k_) ∧ some k_ ≠ (.slice Ao25 y455.length co25 : Value).ownBlock ∧ k_ ≠ gb449) v460 t459) := ⟨by (with_reducible repeat (first | apply Kd.V_alloc | apply Kd.V_drewN | apply Kd.V_drew)); exact Kd.V_mono (Kd.V_far (p := ⟨gb449, 4, none⟩) (Kd.V_mono HO461.out (fun k_ hk => (⟨hk, hk.2.2⟩ : _ ∧ k_ ≠ gb449))) (fun _ hk => hk.2) (.string a3)) (fun _ hk => ⟨hk.1.1, ⟨hk.1.2.1, hk.1.2.2⟩⟩)⟩
   have n4_ : Aside0 ((w28.setCell ⟨gb449, 4, none⟩ (.string a3)).heap[gb449]? = some (.cells #[.string t443, .string t444, .string t445, .string t446, .string a3] 23 (0, 0))) := ⟨by (with_reducible repeat (first | refine blk_drewN ?_ _ | refine blk_drew ?_ | refine blk_alloc ?_ _)); refine blk_put (cs := #[.string t443, .string t444, .string t445, .string t446, .string t447]) ?_ 4 _ rfl; (with_reducible repeat (first | refine blk_drewN ?_ _ | refine blk_drew ?_ | refine blk_alloc ?_ _)); exact BK449.out⟩
   have n5_ : Aside0 (Below w.heap.size w (w28.setCell ⟨gb449, 4, none⟩ (.string a3))) := ⟨ap57_⟩
   (try clear HO0)
   (try clear HO454)
   (try clear HO457)
   (try clear HO461)
   (try clear BK449)
   (try clear HB)
   generalize (w28.setCell ⟨gb449, 4, none⟩ (.string a3)) = w30 at n0_ n1_ n2_ n3_ n4_ n5_ ⊢
   have HO0 := n0_
   have HO454 := n1_
   have HO457 := n2_
   have HO461 := n3_
   have BK449 := n4_
   have HB := n5_
   clear n0_ n1_ n2_ n3_ n4_ n5_
   replace HO0 := As_ (Kd.V_drew HO0.out)
   replace HO454 := As_ (Kd.V_drew HO454.out)
   replace HO457 := As_ (Kd.R_drew HO457.out)
   replace HO461 := As_ (Kd.V_drew HO461.out)
   replace BK449 := As_ (blk_drew BK449.out)
   replace HB := As_ (below_drew1 HB.out)
   refine start_ (n := 8) (S := fun w' => w'.cell? ⟨gb449, 0, none⟩ = some (.string t443) ∧ w'.cell? ⟨gb449, 1, none⟩ = some (.string t444) ∧ w'.cell? ⟨gb449, 2, none⟩ = some (.string t445) ∧ w'.cell? ⟨gb449, 3, none⟩ = some (.string t446) ∧ w'.cell? ⟨gb449, 4, none⟩ = some (.string a3)) (ds := []) #[false, false, false, false, false, false, false, false] (by kernel_rfl) rfl rfl ⟨(blk_cell BK449.out 0).trans rfl, (blk_cell BK449.out 1).trans rfl, (blk_cell BK449.out 2).trans rfl, (blk_cell BK449.out 3).trans rfl, (blk_cell BK449.out 4).trans rfl⟩ (fun hHeld => ?_); refine with_tabW footbridgeref23_Move.tab9 footbridgeref23_Move.bits9 (fun HT_ HW_ => ?_)
   generalize w30.drew = w31 at HO0 HO454 HO457 HO461 BK449 HB hHeld ⊢
   refine pure_ (i := 0) (N := some 42) #[true, false, false, false, false, false, false, false] rfl rfl (any_of HT_.out (by kernel_rfl)) (fun _ _ _ h => h) (Or.inl ⟨by rfl, ap2_⟩) ap35_ ?_
   refine pure_ (i := 1) (N := some 43) #[true, true, false, false, false, false, false, false] rfl rfl (any_of HT_.out (by kernel_rfl)) (fun _ _ _ h => h) (Or.inl ⟨by rfl, ap2_⟩) ap35_ ?_
   refine pure_ (i := 2) (N := some 44) #[true, true, true, false, false, false, false, false] rfl rfl (any_of HT_.out (by kernel_rfl)) (fun _ _ _ h => h) (Or.inl ⟨by rfl, ap2_⟩) ap35_ ?_
   refine take_ (i := 4) (N := some 46) #[true, true, true, false, true, false, false, false] rfl rfl (take_ofW HT_.out HW_.out (by kernel_rfl)) (fun _ _ _ h => h) (Or.inl ⟨by rfl, ap12_⟩) hHeld ap35_ ?_
   refine one_ (i := 3) (N := some 45) #[true, true, true, true, true, false, false, false] rfl rfl (one_of HT_.out (by kernel_rfl)) (by decide) (fun K hK => ?_)
   refine goes_ Tryz.func41 (by kernel_rfl) rfl #[.string a1, .string a2] (by rfl) rfl rfl ap54_ ?_
   with_reducible refine (footbridgeref23_key.calls k a1 a2 t462 _ A13.out).mono ?_
   rintro e w32 ⟨rfl, hb⟩
   refine ⟨_, rfl, ?_⟩
   replace HO0 := As_ (Kd.V_below ap18_ hb)
   replace HO454 := As_ (Kd.V_below ap21_ hb)
   replace HO457 := As_ (Kd.R_below ap22_ hb)
   replace HO461 := As_ (Kd.V_below ap25_ hb)
   replace BK449 := As_ (blk_below (g := gb449) (o := .cells #[.string t443, .string t444, .string t445, .string t446, .string a3] 23 (0, 0)) ap43_ hb)
   replace HB := As_ (below_step ap57_ hb)
   (try clear hb)
   (try clear hb2)
   (try clear hk)
   (try clear hi)
   refine hK.out _ _ ⟨(blk_cell BK449.out 0).trans rfl, (blk_cell BK449.out 1).trans rfl, (blk_cell BK449.out 2).trans rfl, (blk_cell BK449.out 3).trans rfl, (blk_cell BK449.out 4).trans rfl⟩ (fun hHeld => ?_)
   clear hK K
   refine norm_ (a' := ?_) ?_ ?_
   rotate_left
   ·show Act.put _ (some 45) _ = _
    simp only [Act.put, List.setIfInBounds_toArray, List.set_cons_zero, List.set_cons_succ, i64_w, i32_w]
    rfl
   refine one_ (i := 5) (N := some 47) #[true, true, true, true, true, true, false, false] rfl rfl (one_of HT_.out (by kernel_rfl)) (by decide) (fun K hK => ?_)
   refine goes_ Tryz.func70 (by kernel_rfl) rfl #[.agg #[.string t443, .string t444, .string t445, .string t446, .string a3]] (by rfl) rfl rfl ap54_ ?_
   with_reducible refine (footbridgeref23_value.calls k t443 t444 t445 t446 a3 t463 _ A14.out).mono ?_
   rintro e w33 ⟨rfl, hb⟩
   refine ⟨_, rfl, ?_⟩
   replace HO0 := As_ (Kd.V_below ap18_ hb)
   replace HO454 := As_ (Kd.V_below ap21_ hb)
   replace HO457 := As_ (Kd.R_below ap22_ hb)
   replace HO461 := As_ (Kd.V_below ap25_ hb)
   replace BK449 := As_ (blk_below (g := gb449) (o := .cells #[.string t443, .string t444, .string t445, .string t446, .string a3] 23 (0, 0)) ap43_ hb)
   replace HB := As_ (below_step ap57_ hb)
   (try clear hb)
   (try clear hb2)
   (try clear hk)
   (try clear hi)
   obtain ⟨Ao34, co34, eo34⟩ := Kd.V_slice HO461.out
   (first | subst eo34 | (injection eo34 with f1_ f2_ f3_; have f4_ := f1_.symm; have f5_ := f3_.symm; clear f1_ f2_ f3_; subst f4_; subst f5_))
   refine hK.out _ _ ⟨(blk_cell BK449.out 0).trans rfl, (blk_cell BK449.out 1).trans rfl, (blk_cell BK449.out 2).trans rfl, (blk_cell BK449.out 3).trans rfl, (blk_cell BK449.out 4).trans rfl⟩ (fun hHeld => ?_)
   clear hK K
   refine norm_ (a' := ?_) ?_ ?_
   rotate_left
   ·show Act.put _ (some 47) _ = _
    simp only [Act.put, List.setIfInBounds_toArray, List.set_cons_zero, List.set_cons_succ, i64_w, i32_w]
    rfl
   refine one_ (i := 6) (N := some 48) #[true, true, true, true, true, true, true, false] rfl rfl (one_of HT_.out (by kernel_rfl)) (by decide) (fun K hK => ?_)
   refine goes_ Tryz.func67 (by kernel_rfl) rfl #[.slice Ao34 t459.length co34, .string t462, .string t463] (by rfl) rfl rfl ap54_ ?_
   with_reducible refine (footbridgeref14_Put.calls k _ _ t459 t462 t463 t464 _ ?side1 ?side2 A15.out).mono ?_
   (case side1 => repeat (first | exact (Kd.V_reads' HO461.out).2.2 | (with_reducible refine Kd.C_alloc ?_ _) | (with_reducible refine Kd.C_drewN ?_ _) | (with_reducible refine Kd.C_drew ?_)))
   (case side2 => exact (Kd.V_reads' HO461.out).2.1)
   rintro e w35 ⟨v465, rfl, ho0, hb⟩
   refine ⟨_, rfl, ?_⟩
   replace HO0 := As_ (Kd.V_elder' ap18_ (Kd.R_base ho0) hb)
   replace HO454 := As_ (Kd.V_elder' ap21_ (Kd.R_base ho0) hb)
   replace HO457 := As_ (Kd.R_below ap22_ hb)
   replace HO461 := As_ (Kd.V_elder' ap25_ (Kd.R_base ho0) hb)
   have HO466 := As_ (Kd.R_lower (Kd.R_newM (M := fun k_ => (w.heap.size ≤ k_)) ho0 (below_size ap57_) (fun k_ h_ => h_)) (below_size ap57_))
   replace BK449 := As_ (blk_below (g := gb449) (o := .cells #[.string t443, .string t444, .string t445, .string t446, .string a3] 23 (0, 0)) ap43_ hb)
   replace HB := As_ (below_step ap57_ hb)
   (try clear hb)
   (try clear hb2)
   (try clear hk)
   (try clear hi)
   (try clear ho0)
   refine hK.out _ _ ⟨(blk_cell BK449.out 0).trans rfl, (blk_cell BK449.out 1).trans rfl, (blk_cell BK449.out 2).trans rfl, (blk_cell BK449.out 3).trans rfl, (blk_cell BK449.out 4).trans rfl⟩ (fun hHeld => ?_)
   clear hK K
   refine norm_ (a' := ?_) ?_ ?_
   rotate_left
   ·show Act.put _ (some 48) _ = _
    simp only [Act.put, List.setIfInBounds_toArray, List.set_cons_zero, List.set_cons_succ, i64_w, i32_w]
    rfl
   refine pure_ (i := 7) (N := some 0) #[true, true, true, true, true, true, true, true] rfl rfl (any_of HT_.out (by kernel_rfl)) (fun _ _ _ h => h) (Or.inl ⟨by rfl, ap2_⟩) ap35_ ?_
   refine done_ (done_of HT_.out (by kernel_rfl)) ?_
   try go_wp2_with (first | ((with_reducible refine gate_callee (f := 71) rfl ?_); refine gk_ (some 53) Tryz.func71 #[.string a3, .string a1, .string a2] ?_; (with_reducible refine (footbridgeref23_own.calls k a3 a1 a2 t467 _ A16.out).mono ?_); rintro e w36 ⟨rfl, hb⟩; refine ⟨_, rfl, ?_⟩; replace HO0 := As_ (Kd.V_below ap18_ hb); replace HO454 := As_ (Kd.V_below ap21_ hb); replace HO457 := As_ (Kd.R_below ap22_ hb); replace HO461 := As_ (Kd.V_below ap25_ hb); replace HO466 := As_ (Kd.R_below ap29_ hb); replace BK449 := As_ (blk_below (g := gb449) (o := .cells #[.string t443, .string t444, .string t445, .string t446, .string a3] 23 (0, 0)) ap43_ hb); replace HB := As_ (below_step ap57_ hb); (try clear hb); (try clear hb2); (try clear hk); (try clear hi); obtain ⟨Ao37, co37, eo37⟩ := Kd.R_slice HO466.out; subst eo37) | ((with_reducible refine gate_callee (f := 67) rfl ?_); refine gk_ (some 54) Tryz.func67 #[.slice Ao37 t464.length co37, .string t467, .string ⟨#[1]⟩] ?_; (with_reducible refine (footbridgeref14_Put.calls k _ _ t464 t467 (⟨#[1]⟩ : ByteArray) t468 _ ?side1 ?side2 A17.out).mono ?_); (case side1 => repeat (first | exact (Kd.R_reads' HO466.out).2.2 | (with_reducible refine Kd.C_alloc ?_ _) | (with_reducible refine Kd.C_drewN ?_ _) | (with_reducible refine Kd.C_drew ?_))); (case side2 => exact (Kd.R_reads' HO466.out).2.1); rintro e w38 ⟨v469, rfl, ho0, hb⟩; refine ⟨_, rfl, ?_⟩; replace HO0 := As_ (Kd.V_elder' ap18_ (Kd.R_base ho0) hb); replace HO454 := As_ (Kd.V_elder' ap21_ (Kd.R_base ho0) hb); replace HO457 := As_ (Kd.R_below ap22_ hb); replace HO461 := As_ (Kd.V_elder' ap25_ (Kd.R_base ho0) hb); have HO470 := As_ (Kd.R_lower (Kd.R_new' (Kd.R_newM (M := fun k_ => (w.heap.size ≤ k_)) ho0 (below_size ap57_) (fun k_ h_ => h_)) (Kd.R_lt ap29_)) (below_size ap57_)); replace HO466 := As_ (Kd.R_elder' ap29_ (Kd.R_base ho0) hb); replace BK449 := As_ (blk_below (g := gb449) (o := .cells #[.string t443, .string t444, .string t445, .string t446, .string a3] 23 (0, 0)) ap43_ hb); replace HB := As_ (below_step ap57_ hb); (try clear hb); (try clear hb2); (try clear hk); (try clear hi); (try clear ho0)))
   go_ret2
   exact ⟨_, ap17_, Kd.V_mono (Kd.R_V (by (with_reducible repeat (first | apply Kd.R_alloc | apply Kd.R_drewN | apply Kd.R_drew)); exact Kd.R_mono HO470.out (fun _ hk => hk.1.1))) (fun k_ hk => by first | exact ⟨(.inr (hk.1)), hk.2⟩ | exact (.inr (hk))), ap57_⟩
  ·replace c8 := Bool.eq_false_iff.mpr c8
   subst c8
   have H1 : (some (l0, 7)) = some (r1, r2) := by rw [if_neg (show ¬ (false = true) by decide)] at H; exact H
   clear H
   have H := H1
   clear H1
   simp only [Option.some.injEq, Prod.mk.injEq] at H
   obtain ⟨rfl, rfl⟩ := H
   go_enter Tryz.func39, Tryz.ntmps39
   go_wp2_with (first | ((with_reducible refine gate_callee (f := 14) rfl ?_); refine gk_ (some 16) Tryz.func14 #[.slice A0 l0.length c0, .string a1, .string a2] ?_; (with_reducible refine (footbridgeref23_Get.calls k _ _ l0 a1 a2 t443 t444 t445 t446 t447 t448 _ ?side1 ?side2 A5.out).mono ?_); (case side1 => repeat (first | exact (Kd.V_reads' HO0.out).2.2 | (with_reducible refine Kd.C_alloc ?_ _) | (with_reducible refine Kd.C_drewN ?_ _) | (with_reducible refine Kd.C_drew ?_))); (case side2 => exact (Kd.V_reads' HO0.out).2.1); rintro e w39 ⟨rfl, hb⟩; refine ⟨_, rfl, ?_⟩; replace HO0 := As_ (Kd.V_below ap18_ hb); replace HB := As_ (below_step ap50_ hb); (try clear hb); (try clear hb2); (try clear hk); (try clear hi)) | ((with_reducible refine gate_dst (N := 10) rfl ?_); refine bxE (N := 10) (cs := #[.string ⟨#[]⟩, .string ⟨#[]⟩, .string ⟨#[]⟩, .string ⟨#[]⟩, .string ⟨#[]⟩]) (t := 23) ?_; intro gb449 hg w40 hbox hb; replace HO0 := As_ (Kd.V_below (Kd.V_elderB ap18_ gb449 (Nat.le_of_eq hg.symm)) hb); have BK449 := As_ (hbox); have GW449 := As_ ((by rw [hg]; exact (below_size ap50_) : w.heap.size ≤ gb449)); have GE449 := As_ ((by rw [hg]; exact (below_size ap50_) : w.heap.size ≤ gb449)); replace HB := As_ (below_step ap50_ hb); clear hb hbox hg; obtain ⟨hcz41_0, hfz41_0, hcz41_1, hfz41_1, hcz41_2, hfz41_2, hcz41_3, hfz41_3, hcz41_4, hfz41_4⟩ := clN5 BK449.out) | ((with_reducible refine gate_callee (f := 19) rfl ?_); refine gk_ (some 24) Tryz.func19 #[.string a3] ?_; (with_reducible refine (footbridgeref23_Named.calls a3 false _ A7.out).mono ?_); rintro e w' ⟨rfl, ⟨nd, rfl⟩⟩; refine ⟨_, rfl, ?_⟩))
   go_ret2
   exact ⟨_, ap17_, ap93_, ap57_⟩
 ·rw [if_neg c6] at H
  have c6b0 : (t448 == 0) = false := beq_eq_false_iff_ne.mpr c6
  have c6b1 : (t448 != 0) = true := bne_iff_ne.mpr c6
  simp only [Option.some.injEq, Prod.mk.injEq] at H
  obtain ⟨rfl, rfl⟩ := H
  go_enter Tryz.func39, Tryz.ntmps39
  go_wp2_with (first | ((with_reducible refine gate_callee (f := 14) rfl ?_); refine gk_ (some 16) Tryz.func14 #[.slice A0 l0.length c0, .string a1, .string a2] ?_; (with_reducible refine (footbridgeref23_Get.calls k _ _ l0 a1 a2 t443 t444 t445 t446 t447 t448 _ ?side1 ?side2 A5.out).mono ?_); (case side1 => repeat (first | exact (Kd.V_reads' HO0.out).2.2 | (with_reducible refine Kd.C_alloc ?_ _) | (with_reducible refine Kd.C_drewN ?_ _) | (with_reducible refine Kd.C_drew ?_))); (case side2 => exact (Kd.V_reads' HO0.out).2.1); rintro e w42 ⟨rfl, hb⟩; refine ⟨_, rfl, ?_⟩; replace HO0 := As_ (Kd.V_below ap18_ hb); replace HB := As_ (below_step ap50_ hb); (try clear hb); (try clear hb2); (try clear hk); (try clear hi)) | ((with_reducible refine gate_dst (N := 10) rfl ?_); refine bxE (N := 10) (cs := #[.string ⟨#[]⟩, .string ⟨#[]⟩, .string ⟨#[]⟩, .string ⟨#[]⟩, .string ⟨#[]⟩]) (t := 23) ?_; intro gb449 hg w43 hbox hb; replace HO0 := As_ (Kd.V_below (Kd.V_elderB ap18_ gb449 (Nat.le_of_eq hg.symm)) hb); have BK449 := As_ (hbox); have GW449 := As_ ((by rw [hg]; exact (below_size ap50_) : w.heap.size ≤ gb449)); have GE449 := As_ ((by rw [hg]; exact (below_size ap50_) : w.heap.size ≤ gb449)); replace HB := As_ (below_step ap50_ hb); clear hb hbox hg; obtain ⟨hcz44_0, hfz44_0, hcz44_1, hfz44_1, hcz44_2, hfz44_2, hcz44_3, hfz44_3, hcz44_4, hfz44_4⟩ := clN5 BK449.out))
  go_ret2
  exact ⟨_, ap17_, ap93_, ap57_⟩
theorem del_f (l : List S82) (key : ByteArray) (k : Nat) (hs : sortK l) (hl : l.length ≤ 1000000000) (hk : l.length < k) : footbridgeref09_Del.f k l key = some (delK l key, hasK l key) := by
 unfold footbridgeref09_Del.f delK
 rw [at_f l key k hs hl hk, Option.bind_some]
 have hd : ∀ i, (l.drop i).length ≤ 1000000000 := fun i => by rw [List.length_drop]; omega
 have ht : ∀ i, (l.take i).length ≤ 1000000000 := fun i => by rw [List.length_take]; omega
 rcases hasK_cases l key with ⟨hp, hh⟩ | ⟨hp, hh⟩
 ·have h1 := ht (posK l key)
  have h3 := hd (posK l key + 1)
  rw [if_neg (by omega), if_pos (by omega), if_pos (by omega), rdP l _ hp]
  by_cases he : l[posK l key].f0.toList = key.toList
  ·rw [if_pos he, if_pos (by omega), Option.bind_some, Int.toNat_natCast, List.nil_append, if_pos ap0_, Option.bind_some, w64p _ (by omega), if_pos (by omega), if_pos (by omega), Int.toNat_natCast, Option.bind_some, if_pos (by omega)]
   rw [hh, beq_iff_eq.2 he, if_pos rfl]
  ·rw [if_neg he, hh, beq_eq_false_iff_ne.2 he, if_neg (by simp)]
 ·rw [if_pos (by omega), hh, if_neg (by simp)]
theorem same_l0 (l : List S82) (hl : l.length ≤ 1000000000) : ∀ m j k, l.length - j = m → m < k → footbridgeref09_Same.l0 k l l (j : Int) = some true := by
 intro m
 induction m with
 | zero =>
  intro j k h1 h2
  obtain ⟨k, rfl⟩ : ∃ k', k = k' + 1 := ⟨k - 1, by omega⟩
  rw [footbridgeref09_Same.l0, if_neg (by omega)]
 | succ m ih =>
  intro j k h1 h2
  obtain ⟨k, rfl⟩ : ∃ k', k = k' + 1 := ⟨k - 1, by omega⟩
  rw [footbridgeref09_Same.l0, if_pos (by omega), if_pos (by omega), if_pos (by omega), if_neg (by simp), w64p j (by omega)]
  exact ih (j + 1) k (by omega) (by omega)
theorem same_f (l : List S82) (k : Nat) (hl : l.length ≤ 1000000000) (hk : l.length < k) : footbridgeref09_Same.f k l l = some true := by
 unfold footbridgeref09_Same.f
 rw [if_pos rfl]
 exact same_l0 l hl l.length 0 k (by omega) hk
theorem refRNum_go (s : ByteArray) (c : Nat) (hc : c ≤ 7) (hs : c < s.size) (hsz : s.size ≤ 1000000000) : ∀ d i k, d = c + 1 - i → 1 ≤ i → i ≤ c + 1 → d < k → footbridgeref01_R_Num.l0 k (c : Int) (nBy s (i - 1) : Int) (i : Int) s 0 = some (if 9007199254740992 < nBy s c then (s, 3, 0) else (s.extract (c + 1) s.size, 0, (nBy s c : Int))) := by
 intro d
 induction d with
 | zero =>
  intro i k hd h1 h2 hk
  obtain ⟨k, rfl⟩ : ∃ m, k = m + 1 := ⟨k - 1, by omega⟩
  obtain rfl : i = c + 1 := by omega
  simp only [footbridgeref01_R_Num.l0]
  rw [if_neg (by omega), Nat.add_sub_cancel]
  by_cases hb : 9007199254740992 < nBy s c
  ·rw [if_pos (by omega), if_pos hb]
  ·have e : wrap64 (1 + (c : Int)) = ((c + 1 : Nat) : Int) := by rw [w64 (by omega) (by omega)]; omega
   rw [if_neg (by omega), if_neg hb, e, if_pos (by omega), if_pos (by omega), Int.toNat_natCast]
 | succ d ih =>
  intro i k hd h1 h2 hk
  obtain ⟨k, rfl⟩ : ∃ m, k = m + 1 := ⟨k - 1, by omega⟩
  obtain ⟨i, rfl⟩ : ∃ m, i = m + 1 := ⟨i - 1, by omega⟩
  have ic : i < c := by omega
  have hp := nBy_pow s i
  have hpow : 256 ^ i ≤ 256 ^ 6 := Nat.pow_le_pow_right (by decide) (by omega)
  have hbt := bt_range s ((i + 1 : Nat) : Int)
  have e3 : nBy s (i + 1) = nBy s i * 256 + (bt s ((i + 1 : Nat) : Int)).toNat := rfl
  have ex : wrap64 ((wrap64 ((nBy s i : Int) * 256)) + (wrap64 (bt s ((i + 1 : Nat) : Int)))) = (nBy s (i + 1) : Int) := by
   rw [w64 (x := (nBy s i : Int) * 256) (by omega) (by omega), w64 (x := bt s ((i + 1 : Nat) : Int)) (by omega) (by omega), w64 (by omega) (by omega), e3]; omega
  simp only [footbridgeref01_R_Num.l0]
  rw [if_pos (by omega), if_pos (by omega), if_pos (by omega), Nat.add_sub_cancel, ex, w_one (i + 1) (by omega)]
  exact ih (i + 1 + 1) k (by omega) (by omega) (by omega) (by omega)
theorem refRNum_ev (s : ByteArray) (e : Int) (hs : s.size ≤ 1000000000) : Ev (fun k => footbridgeref01_R_Num.f k s e) ((rNum s e).2.1, (rNum s e).2.2, (rNum s e).1) := by
 refine ⟨20, fun k hk => ?_⟩
 obtain ⟨k, rfl⟩ : ∃ m, k = m + 1 := ⟨k - 1, by omega⟩
 show footbridgeref01_R_Num.f (k + 1) s e = _
 unfold footbridgeref01_R_Num.f rNum
 by_cases he : e = 0
 ·subst he
  rw [if_pos rfl, if_pos rfl]
  dsimp only
  have hw : numW s = (wire_number.f s).getD (0, 0, 0) := rfl
  unfold wire_number.f at hw
  have hb := bt_range s 0
  have hwb : wrap64 (bt s 0) = bt s 0 := w64 (by omega) (by omega)
  by_cases h0 : s.toList = []
  ·have hz : s.size = 0 := by rw [ba_size, h0]; rfl
   rw [if_pos hz] at hw
   rw [if_pos h0, hw]
   rfl
  have hz : ¬ s.size = 0 := fun e => h0 (List.length_eq_zero_iff.1 (by rw [← ba_size]; exact e))
  rw [if_neg hz] at hw
  rw [if_neg h0, if_pos (by omega), hwb]
  by_cases h7 : bt s 0 > 7
  ·rw [if_pos (.inl h7)] at hw
   rw [if_pos h7, hw]; rfl
  rw [if_neg h7]
  by_cases h1 : 0 < bt s 0 ∧ 1 < s.size ∧ bt s 1 = 0
  ·rw [if_pos (.inr h1)] at hw
   rw [if_pos h1.1, if_pos (by omega), if_pos (by omega), hw]
   simp only [footbridgeref01_R_Num.j0]
   rw [if_pos (by rw [beq_iff_eq]; exact h1.2.2)]
   rfl
  rw [if_neg (fun e => e.elim h7 h1)] at hw
  obtain ⟨c, hc⟩ : ∃ c : Nat, bt s 0 = (c : Int) := ⟨(bt s 0).toNat, by omega⟩
  have hj : (if bt s 0 > 0 then (if (s.size : Int) > 1 then (if 1 < (s.size : Int) then (footbridgeref01_R_Num.j0 (k + 1) (bt s 0) ((bt s 1) == 0) s 0) else none) else (footbridgeref01_R_Num.j0 (k + 1) (bt s 0) false s 0)) else (footbridgeref01_R_Num.j0 (k + 1) (bt s 0) false s 0)) = footbridgeref01_R_Num.j0 (k + 1) (bt s 0) false s 0 := by
   by_cases g1 : bt s 0 > 0
   ·rw [if_pos g1]
    by_cases g2 : (s.size : Int) > 1
    ·rw [if_pos g2, if_pos g2, beq_eq_false_iff_ne.2 (fun e => h1 ⟨g1, by omega, e⟩)]
    ·rw [if_neg g2]
   ·rw [if_neg g1]
  rw [hj]
  simp only [footbridgeref01_R_Num.j0]
  rw [if_neg (by simp), w64 (by omega) (by omega)]
  by_cases h3 : (s.size : Int) ≤ bt s 0
  ·rw [if_pos h3] at hw
   rw [if_pos (by omega), hw]; rfl
  rw [if_neg h3] at hw
  rw [if_neg (by omega)]
  have hl := refRNum_go s c (by omega) (by omega) hs c 1 k (by omega) (by omega) (by omega) (by omega)
  rw [hc]
  rw [hc, Int.toNat_natCast] at hw
  have hl : footbridgeref01_R_Num.l0 k (c : Int) 0 1 s 0 = _ := hl
  rw [hl]
  by_cases h4 : 9007199254740992 < nBy s c
  ·rw [if_pos h4] at hw
   rw [if_pos h4, hw]; rfl
  ·rw [if_neg h4] at hw
   rw [if_neg h4, hw]
   show some (s.extract (c + 1) s.size, (0 : Int), (nBy s c : Int)) = some (s.extract ((c : Int) + 1).toNat s.size, 0, (nBy s c : Int))
   rw [show ((c : Int) + 1).toNat = c + 1 by omega]
 ·rw [if_neg he, if_neg he]
theorem refRDone (s : ByteArray) (e : Int) : footbridgeref01_R_Done.f s e = some (rDone s e) := by
 unfold footbridgeref01_R_Done.f rDone
 by_cases he : e = 0
 ·rw [if_pos he, if_pos he]
  by_cases h : s.toList = []
  ·rw [if_pos h, if_pos h, he]
  ·rw [if_neg h, if_neg h]
 ·rw [if_neg he, if_neg he]
theorem ext_ext (s : ByteArray) (a b c : Nat) : (s.extract a s.size).extract b c = s.extract (a + b) (a + c) := by
 apply ba_ext
 rw [ba_extract, ba_extract, ba_extract, ba_size s, List.take_length, List.take_drop, List.drop_drop]
theorem refRText_ev (s : ByteArray) (e : Int) (hs : s.size ≤ 1000000000) : Ev (fun k => footbridgeref01_R_Text.f k s e) ((rText s e).2.1, (rText s e).2.2, (rText s e).1) := by
 obtain ⟨K, hK⟩ := refRNum_ev s e hs
 refine ⟨K, fun k hk => ?_⟩
 have h : footbridgeref01_R_Num.f k s e = _ := hK k hk
 show footbridgeref01_R_Text.f k s e = _
 unfold footbridgeref01_R_Text.f
 rw [h, Option.bind_some]
 dsimp only
 unfold rNum rText
 by_cases he : e = 0
 ·subst he
  rw [if_pos rfl, if_pos rfl]
  dsimp only
  obtain ⟨⟨h1, h2⟩, h3, h4⟩ := numW_bd s
  by_cases hw : (numW s).2.2 = 0
  ·rw [if_pos hw, if_pos hw, if_pos hw]
   by_cases hb : (numW s).1 > 65536
   ·rw [if_pos hb, if_pos hb]
   ·rw [if_neg hb, if_neg hb]
    have hx : ((s.extract (numW s).2.1.toNat s.size).size : Int) = (s.size : Int) - (numW s).2.1 := by
     rw [ba_size, ba_extract, ba_size s, List.take_length, List.length_drop, ← ba_size]; omega
    rw [hx]
    by_cases hc : (numW s).1 > (s.size : Int) - (numW s).2.1
    ·rw [if_pos hc, if_pos hc]
    ·rw [if_neg hc, if_neg hc, if_pos h1, if_pos (by omega), ext_ext, ext_ext]
     have hx2 : (s.extract (numW s).2.1.toNat s.size).size = s.size - (numW s).2.1.toNat := by omega
     rw [hx2]
     rw [show (numW s).2.1.toNat + (numW s).1.toNat = ((numW s).2.1 + (numW s).1).toNat by omega, show (numW s).2.1.toNat + (s.size - (numW s).2.1.toNat) = s.size by omega, Nat.add_zero]
  ·rw [if_neg hw, if_neg hw, if_neg hw]
 ·rw [if_neg he, if_neg he]
  dsimp only
  rw [if_neg he]
theorem ref22Get_ev (cur : List S82) (id : ByteArray) (h : KV 1000 cur) (h0 : id.size ≤ 1000) : Ev (fun k => footbridgeref22_Get.f k cur id) (clGet cur id) := by
 have hlen := h.len
 obtain ⟨K4, hh4⟩ := ref22Key_ev id (by omega)
 have hsz := h.get (keyB (⟨#[99, 108, 97, 115, 115]⟩ : ByteArray) [id])
 unfold clGet
 have h2 := getK_2 cur (keyB (⟨#[99, 108, 97, 115, 115]⟩ : ByteArray) [id])
 have t7 := fun m (hm : 1000 < m) => get_f cur (keyB (⟨#[99, 108, 97, 115, 115]⟩ : ByteArray) [id]) m h.so (by omega) (by omega)
 generalize keyB (⟨#[99, 108, 97, 115, 115]⟩ : ByteArray) [id] = key at hh4 hsz h2 t7
 generalize getK cur key = v at hsz h2 t7
 have z1 := rText_sz v.1 0
 have z2 := rText_sz (rText v.1 0).2.1 (rText v.1 0).2.2
 obtain ⟨K1, hh1⟩ := refRText_ev v.1 0 (by omega)
 obtain ⟨K2, hh2⟩ := refRText_ev (rText v.1 0).2.1 (rText v.1 0).2.2 (by omega)
 obtain ⟨K3, hh3⟩ := refRText_ev (rText (rText v.1 0).2.1 (rText v.1 0).2.2).2.1 (rText (rText v.1 0).2.1 (rText v.1 0).2.2).2.2 (by omega)
 refine ⟨K1 + K2 + K3 + K4 + 1000005, fun k hk => ?_⟩
 have t1 : footbridgeref01_R_Text.f k v.1 0 = _ := hh1 k (by omega)
 have t2 : footbridgeref01_R_Text.f k _ _ = _ := hh2 k (by omega)
 have t3 : footbridgeref01_R_Text.f k _ _ = _ := hh3 k (by omega)
 have t4 : footbridgeref22_key.f k id = _ := hh4 k (by omega)
 show footbridgeref22_Get.f k cur id = _
 unfold footbridgeref22_Get.f txt3
 rw [t4, Option.bind_some, t7 k (by omega), Option.bind_some, t1, Option.bind_some]
 dsimp only
 rw [t2, Option.bind_some]
 dsimp only
 rw [t3, Option.bind_some]
 dsimp only
 rw [refRDone, h2]
 by_cases a : hasK cur key = true
 ·rw [if_pos a, Option.bind_some]
  by_cases b : rDone (rText (rText (rText v.1 0).2.1 (rText v.1 0).2.2).2.1 (rText (rText v.1 0).2.1 (rText v.1 0).2.2).2.2).2.1 (rText (rText (rText v.1 0).2.1 (rText v.1 0).2.2).2.1 (rText (rText v.1 0).2.1 (rText v.1 0).2.2).2.2).2.2 = 0
  ·rw [if_pos b, if_pos ⟨a, b⟩]
  ·rw [if_neg b, if_neg (fun e => b e.2)]
 ·rw [if_neg a, if_neg (fun e => a e.1)]
theorem nm_word_is (a : Int) : footbridgeref03_word.f a = some (ofL (nm_headL a)) := nm_head_is a
theorem nm_letter_ref (c : Int) : footbridgeref03_letter.f c = some (decide (nm_letP c)) := by
 unfold footbridgeref03_letter.f
 repeat' split
 all_goals (first | exact congrArg some (decide_eq_true (by unfold nm_letP; omega)).symm | exact congrArg some (decide_eq_false (by unfold nm_letP; omega)).symm | (by_cases h45 : c = 45; (subst h45; rfl); exact congrArg some ((beq_eq_false_iff_ne.2 h45).trans (decide_eq_false (by unfold nm_letP; omega)).symm)))
open Classical in
theorem nm_plain_ref (s : ByteArray) (hs : s.size ≤ 140737488351232) : Ev (fun k => footbridgeref03_Plain.f k s) (decide (nm_plainP s)) := by
 have loop : ∀ (d i : Nat), d = s.size - i → i ≤ s.size → ∀ k, d + 1 ≤ k → footbridgeref03_Plain.l0 k s (i : Int) = some (decide (1 ≤ s.size ∧ s.size ≤ 64 ∧ ∀ j : Nat, i ≤ j → j < s.size → nm_letP (bt s j))) := by
  intro d
  induction d with
  | zero =>
   intro i hd hi k hk
   obtain ⟨k, rfl⟩ : ∃ m, k = m + 1 := ⟨k - 1, by omega⟩
   simp only [footbridgeref03_Plain.l0]
   rw [if_neg (by omega)]
   split
   ·congr 1
    rw [decide_eq_decide]
    exact ⟨fun h => ⟨by omega, by omega, fun j h1 h2 => by omega⟩, fun h => by omega⟩
   ·congr 1
    symm
    rw [decide_eq_false_iff_not]
    rintro ⟨h, _⟩
    omega
  | succ d ih =>
   intro i hd hi k hk
   obtain ⟨k, rfl⟩ : ∃ m, k = m + 1 := ⟨k - 1, by omega⟩
   simp only [footbridgeref03_Plain.l0]
   rw [if_pos (by omega), if_pos (by omega), nm_letter_ref, Option.bind_some]
   by_cases hl : nm_letP (bt s i)
   ·rw [decide_eq_true hl, if_pos rfl, w64 (by omega) (by omega), show ((i : Int) + 1) = ((i + 1 : Nat) : Int) from rfl, ih (i + 1) (by omega) (by omega) _ (by omega)]
    congr 1
    rw [decide_eq_decide]
    constructor
    ·rintro ⟨ha, hb, h⟩
     refine ⟨ha, hb, fun j h1 h2 => ?_⟩
     by_cases he : j = i
     ·rw [he]; exact hl
     ·exact h j (by omega) h2
    ·rintro ⟨ha, hb, h⟩
     exact ⟨ha, hb, fun j h1 h2 => h j (by omega) h2⟩
   ·rw [decide_eq_false hl, if_neg (by simp), decide_eq_false (fun h => hl (h.2.2 i (Nat.le_refl _) (by omega)))]
 refine ⟨s.size + 1, fun k hk => ?_⟩
 have hl := loop s.size 0 (by omega) (by omega) k (by omega)
 unfold footbridgeref03_Plain.f
 rw [show ((0 : Nat) : Int) = 0 from rfl] at hl
 refine hl.trans ?_
 congr 1
 rw [decide_eq_decide]
 unfold nm_plainP
 exact ⟨fun h => ⟨h.1, h.2.1, fun i hi => h.2.2 i (Nat.zero_le _) hi⟩, fun h => ⟨h.1, h.2.1, fun i _ hi => h.2.2 i hi⟩⟩
theorem nm_one_digit (n : Int) (h0 : 0 ≤ n) (h : n < 10) : strOfNums [(wrap64 (48 + n)) % 256] = ofL [UInt8.ofNat (48 + n.toNat)] := by
 unfold strOfNums ofL
 rw [w64 (by omega) (by omega), List.map_cons, List.map_nil, show ((48 + n) % 256).toNat = 48 + n.toNat by omega]
theorem nm_refDigits_ev (n : Nat) (hn : n < 10 ^ 15) : Ev (fun k => footbridgeref03_Digits.f k (n : Int)) (ofL (dec n)) := by
 have loop : ∀ n : Nat, ∀ acc : ByteArray, n + acc.size ≤ 2000000000000000 → Ev (fun k => footbridgeref03_Digits.l0 k (n : Int) acc) (ofL (dec n ++ acc.toList)) := by
  intro n
  induction n using Nat.strongRecOn with
  | _ n ih =>
   intro acc ha
   by_cases h : n < 10
   ·refine ⟨1, fun k hk => ?_⟩
    obtain ⟨k, rfl⟩ : ∃ m, k = m + 1 := ⟨k - 1, by omega⟩
    simp only [footbridgeref03_Digits.l0]
    rw [if_neg (by omega), Option.bind_some, nm_one_digit _ (by omega) (by omega), ofL_size, if_pos (by simp; omega), dec_lt h]
    congr 1
    apply ba_ext
    rw [ba_append, ofL_toList, ofL_toList]
    rfl
   ·have e2 : Int.tmod (n : Int) 10 = ((n % 10 : Nat) : Int) := by
     rw [Int.tmod_eq_emod_of_nonneg (by omega)]; rfl
    have e1 : wrap64 (Int.tdiv (n : Int) 10) = ((n / 10 : Nat) : Int) := by
     rw [Int.tdiv_eq_ediv_of_nonneg (by omega), w64 (by omega) (by omega)]; rfl
    obtain ⟨K, hK⟩ := ih (n / 10) (by omega) (ofL [UInt8.ofNat (48 + n % 10)] ++ acc) (by rw [ByteArray.size_append, ofL_size]; simp; omega)
    refine ⟨K + 1, fun k hk => ?_⟩
    obtain ⟨k, rfl⟩ : ∃ m, k = m + 1 := ⟨k - 1, by omega⟩
    have hK' : footbridgeref03_Digits.l0 k ((n / 10 : Nat) : Int) _ = _ := hK k (by omega)
    simp only [footbridgeref03_Digits.l0]
    rw [if_pos (by omega), e1, e2, Option.bind_some, nm_one_digit _ (by omega) (by omega), ofL_size, if_pos (by simp; omega), Int.toNat_natCast, hK']
    congr 2
    rw [ba_append, ofL_toList, dec_ge h, List.append_assoc]
 have := loop n (⟨#[]⟩ : ByteArray) (by show n + 0 ≤ _; omega)
 have e : (⟨#[]⟩ : ByteArray).toList = [] := by rw [ByteArray.toList_eq]
 rw [e, List.append_nil] at this
 exact this
def nm_mkSpec (a n : Int) : ByteArray × Int := if nm_headL a = [] then (⟨#[]⟩, 1) else if n < 0 then (⟨#[]⟩, 3) else if n > 1099511627776 then (⟨#[]⟩, 3) else (ofL (nm_headL a ++ dec n.toNat), 0)
theorem nm_headL_len (a : Int) : (nm_headL a).length ≤ 11 := by
 unfold nm_headL
 repeat' split
 all_goals simp
theorem nm_makeRef_ev (a n : Int) : Ev (fun k => footbridgeref03_Make.f k a n) (nm_mkSpec a n) := by
 unfold nm_mkSpec
 by_cases h1 : nm_headL a = []
 ·refine ⟨0, fun k _ => ?_⟩
  show footbridgeref03_Make.f k a n = _
  unfold footbridgeref03_Make.f
  rw [nm_word_is, Option.bind_some, ofL_toList, if_pos h1, if_pos h1]
 ·by_cases h2 : n < 0
  ·refine ⟨1, fun k hk => ?_⟩
   obtain ⟨k, rfl⟩ : ∃ m, k = m + 1 := ⟨k - 1, by omega⟩
   show footbridgeref03_Make.f _ a n = _
   unfold footbridgeref03_Make.f
   rw [nm_word_is, Option.bind_some, ofL_toList, if_neg h1, if_neg h1, if_pos h2, if_pos h2]
   simp only [footbridgeref03_Make.j0]
   rw [if_pos trivial]
  ·by_cases h3 : n > 1099511627776
   ·refine ⟨1, fun k hk => ?_⟩
    obtain ⟨k, rfl⟩ : ∃ m, k = m + 1 := ⟨k - 1, by omega⟩
    show footbridgeref03_Make.f _ a n = _
    unfold footbridgeref03_Make.f
    rw [nm_word_is, Option.bind_some, ofL_toList, if_neg h1, if_neg h1, if_neg h2, if_neg h2, if_pos h3, decide_eq_true h3]
    simp only [footbridgeref03_Make.j0]
    rw [if_pos trivial]
   ·obtain ⟨m, rfl⟩ := Int.eq_ofNat_of_zero_le (show 0 ≤ n by omega)
    obtain ⟨K, hK⟩ := nm_refDigits_ev m (by omega)
    refine ⟨K + 1, fun k hk => ?_⟩
    obtain ⟨k, rfl⟩ : ∃ m, k = m + 1 := ⟨k - 1, by omega⟩
    have hK' : footbridgeref03_Digits.f k ((m : Nat) : Int) = _ := hK k (by omega)
    show footbridgeref03_Make.f _ a _ = _
    unfold footbridgeref03_Make.f
    rw [nm_word_is, Option.bind_some, ofL_toList, if_neg h1, if_neg h1, if_neg h2, if_neg h2, if_neg h3, decide_eq_false h3]
    simp only [footbridgeref03_Make.j0]
    rw [if_neg (by simp), nm_word_is, Option.bind_some, hK', Option.bind_some, Int.toNat_natCast, if_pos]
    ·exact congrArg some (Prod.ext (ba_ext (by rw [ba_append, ofL_toList, ofL_toList, ofL_toList])) rfl)
    ·have := nm_headL_len a
     have := dec_len_le 14 m (by omega)
     rw [ofL_size, ofL_size]; omega
theorem nm_numOk_iff (h l : List UInt8) (hp : h <+: l) (hn : l.drop h.length ≠ []) : nm_numOk h l ↔ (∀ c ∈ l.drop h.length, isDig c) ∧ dval (l.drop h.length) ≤ 1099511627776 ∧ h ++ dec (dval (l.drop h.length)) = l := by
 have hl : h ++ l.drop h.length = l := by
  obtain ⟨t, rfl⟩ := hp
  rw [List.drop_left]
 unfold nm_numOk
 constructor
 ·rintro ⟨_, _, h3, h4, h5⟩
  exact ⟨h4, h5, by rw [dec_dval _ h4 hn h3]; exact hl⟩
 ·rintro ⟨h4, h5, h6⟩
  refine ⟨hp, hn, ?_, h4, h5⟩
  have : dec (dval (l.drop h.length)) = l.drop h.length := List.append_cancel_left (h6.trans hl.symm)
  rw [← this]
  exact dec_head _
theorem nm_numberRef_ev (a : Int) (s : ByteArray) (hs : s.size ≤ 140737488351232) : Ev (fun k => footbridgeref03_Number.f k a s) (nm_numSpec (nm_headL a) s.toList) := by
 unfold nm_numSpec
 have hle := nm_headL_len a
 by_cases h1 : nm_headL a = []
 ·refine ⟨0, fun k _ => ?_⟩
  show footbridgeref03_Number.f k a s = _
  unfold footbridgeref03_Number.f
  rw [nm_word_is, Option.bind_some, ofL_toList, if_pos h1, if_pos h1]
 ·rw [if_neg h1]
  by_cases h2 : (s.size : Int) ≤ ((nm_headL a).length : Int)
  ·refine ⟨1, fun k hk => ?_⟩
   obtain ⟨k, rfl⟩ : ∃ m, k = m + 1 := ⟨k - 1, by omega⟩
   show footbridgeref03_Number.f _ a s = _
   unfold footbridgeref03_Number.f
   rw [nm_word_is, Option.bind_some, ofL_toList, if_neg h1, ofL_size, if_pos h2]
   simp only [footbridgeref03_Number.j0]
   rw [if_pos trivial, if_neg]
   rintro ⟨_, hn, _⟩
   apply hn
   rw [List.drop_eq_nil_iff, ← ba_size]; omega
  ·by_cases h3 : (s.size : Int) > ((nm_headL a).length : Int) + 13
   ·refine ⟨1, fun k hk => ?_⟩
    obtain ⟨k, rfl⟩ : ∃ m, k = m + 1 := ⟨k - 1, by omega⟩
    show footbridgeref03_Number.f _ a s = _
    unfold footbridgeref03_Number.f
    rw [nm_word_is, Option.bind_some, ofL_toList, if_neg h1, ofL_size, if_neg h2, w64 (by omega) (by omega), if_pos h3]
    simp only [footbridgeref03_Number.j0]
    rw [if_pos trivial, if_neg]
    rintro ⟨_, hn, hpl, hd, hv⟩
    have hlen : (s.toList.drop (nm_headL a).length).length ≥ 14 := by rw [List.length_drop, ← ba_size]; omega
    obtain ⟨c, t, hct⟩ := List.exists_cons_of_ne_nil hn
    rw [hct] at hpl hd hv hlen
    have hc : isDig c := hd c (by simp)
    unfold isDig at hc
    have hc0 : c.toNat ≠ 48 := by
     intro he
     rcases hpl with hpl | hpl
     ·rw [hpl] at hlen; omega
     ·apply hpl
      simp only [List.head?_cons, Option.some.injEq]
      exact UInt8.toNat_inj.1 he
    have hp := foldl_dstep_pow t (dstep 0 c)
    have hv2 : List.foldl dstep (dstep 0 c) t ≤ 1099511627776 := hv
    have h13 : 10 ^ 13 ≤ 10 ^ t.length := Nat.pow_le_pow_right (by omega) (by simp at hlen; omega)
    have hs1 : 1 ≤ dstep 0 c := by unfold dstep; omega
    have : 1 * 10 ^ 13 ≤ dstep 0 c * 10 ^ t.length := Nat.mul_le_mul hs1 h13
    omega
   ·by_cases hp : nm_headL a <+: s.toList
    ·have hn : s.toList.drop (nm_headL a).length ≠ [] := by
      intro he
      rw [List.drop_eq_nil_iff, ← ba_size] at he; omega
     -- the loop
     have loop : ∀ (d i n : Nat), d = s.size - i → (nm_headL a).length ≤ i → i ≤ s.size → n < 10 ^ (i - (nm_headL a).length) →
       Ev (fun k => footbridgeref03_Number.l0 k a s (n : Int) (i : Int)) (if (∀ c ∈ s.toList.drop i, isDig c) ∧ (s.toList.drop i).foldl dstep n ≤ 1099511627776 ∧ nm_headL a ++ dec ((s.toList.drop i).foldl dstep n) = s.toList then (((s.toList.drop i).foldl dstep n : Nat), 0) else (0, 7)) := by
      intro d
      induction d with
      | zero =>
       intro i n hd hi hi2 hb
       have hnil : s.toList.drop i = [] := by rw [List.drop_eq_nil_iff, ← ba_size]; omega
       rw [hnil]
       simp only [List.foldl_nil, List.not_mem_nil, false_implies, implies_true, true_and]
       have hb15 : n < 10 ^ 15 := Nat.lt_of_lt_of_le hb (Nat.pow_le_pow_right (by omega) (by omega))
       obtain ⟨K, hK⟩ := nm_makeRef_ev a (n : Int)
       refine ⟨K + 1, fun k hk => ?_⟩
       obtain ⟨k, rfl⟩ : ∃ m, k = m + 1 := ⟨k - 1, by omega⟩
       have hK' : footbridgeref03_Make.f k a (n : Int) = _ := hK k (by omega)
       show footbridgeref03_Number.l0 _ a s _ _ = _
       simp only [footbridgeref03_Number.l0]
       rw [if_neg (by omega), hK', Option.bind_some]
       unfold nm_mkSpec
       rw [if_neg h1, if_neg (show ¬ ((n : Int) < 0) by omega)]
       by_cases hm : (n : Int) > 1099511627776
       ·rw [if_pos hm, if_neg (by simp), if_neg (by omega)]
       ·rw [if_neg hm, if_pos rfl, ofL_toList, Int.toNat_natCast]
        by_cases he : nm_headL a ++ dec n = s.toList
        ·rw [if_pos he, if_pos ⟨by omega, he⟩]
        ·rw [if_neg he, if_neg (fun h => he h.2)]
      | succ d ih =>
       intro i n hd hi hi2 hb
       have hl : i < s.toList.length := by rw [← ba_size]; omega
       have hbt := bt_get s i hl
       rw [List.drop_eq_getElem_cons hl]
       generalize s.toList[i] = c at *
       simp only [List.mem_cons, List.foldl_cons, forall_eq_or_imp]
       by_cases d1 : bt s i < 48
       ·refine ⟨1, fun k hk => ?_⟩
        obtain ⟨k, rfl⟩ : ∃ m, k = m + 1 := ⟨k - 1, by omega⟩
        show footbridgeref03_Number.l0 _ a s _ _ = _
        simp only [footbridgeref03_Number.l0]
        rw [if_pos (by omega), if_pos (by omega), if_pos d1, if_neg]
        rintro ⟨⟨hc, _⟩, _⟩
        unfold isDig at hc; omega
       ·by_cases d2 : bt s i > 57
        ·refine ⟨1, fun k hk => ?_⟩
         obtain ⟨k, rfl⟩ : ∃ m, k = m + 1 := ⟨k - 1, by omega⟩
         show footbridgeref03_Number.l0 _ a s _ _ = _
         simp only [footbridgeref03_Number.l0]
         rw [if_pos (by omega), if_pos (by omega), if_neg d1, if_pos d2, if_neg]
         rintro ⟨⟨hc, _⟩, _⟩
         unfold isDig at hc; omega
        ·have hc : isDig c := by unfold isDig; omega
         have hc' := hc
         unfold isDig at hc'
         have hstep : dstep n c < 10 ^ (i + 1 - (nm_headL a).length) := by
          rw [show i + 1 - (nm_headL a).length = (i - (nm_headL a).length) + 1 by omega, Nat.pow_succ]
          unfold dstep; omega
         have hb14 : n < 10 ^ 13 := Nat.lt_of_lt_of_le hb (Nat.pow_le_pow_right (by omega) (by omega))
         obtain ⟨K, hK⟩ := ih (i + 1) (dstep n c) (by omega) (by omega) (by omega) hstep
         refine ⟨K + 1, fun k hk => ?_⟩
         obtain ⟨k, rfl⟩ : ∃ m, k = m + 1 := ⟨k - 1, by omega⟩
         have hK' : footbridgeref03_Number.l0 k a s ((dstep n c : Nat) : Int) ((i + 1 : Nat) : Int) = _ := hK k (by omega)
         show footbridgeref03_Number.l0 _ a s _ _ = _
         simp only [footbridgeref03_Number.l0]
         have e1 : wrap64 (wrap64 ((n : Int) * 10) + (bt s i - 48) % 256) = ((dstep n c : Nat) : Int) := by
          rw [w64 (x := (n : Int) * 10) (by omega) (by omega), w64 (by omega) (by omega)]
          unfold dstep; omega
         rw [if_pos (by omega), if_pos (by omega), if_neg d1, if_neg d2, e1, w64 (by omega) (by omega), show ((i : Int) + 1) = ((i + 1 : Nat) : Int) from rfl, hK']
         simp only [hc, true_and]
     obtain ⟨K, hK⟩ := loop (s.size - (nm_headL a).length) (nm_headL a).length 0 rfl (Nat.le_refl _) (by omega) (Nat.pow_pos (by omega))
     refine ⟨K + 1, fun k hk => ?_⟩
     obtain ⟨k, rfl⟩ : ∃ m, k = m + 1 := ⟨k - 1, by omega⟩
     have hK' : footbridgeref03_Number.l0 k a s (0 : Int) ((nm_headL a).length : Int) = _ := hK k (by omega)
     show footbridgeref03_Number.f _ a s = _
     unfold footbridgeref03_Number.f
     have hex : (s.extract 0 (nm_headL a).length).toList = nm_headL a := by
      rw [ba_extract, List.drop_zero]
      exact (List.prefix_iff_eq_take.1 hp).symm
     rw [nm_word_is, Option.bind_some, ofL_toList, if_neg h1, ofL_size, if_neg h2, w64 (by omega) (by omega), if_neg h3, if_pos (by omega), if_pos (by omega), Int.toNat_natCast, hex, bne_self_eq_false]
     simp only [footbridgeref03_Number.j0]
     rw [if_neg (by simp), ofL_size, hK']
     congr 1
     have hiff := nm_numOk_iff (nm_headL a) s.toList hp hn
     by_cases hok : nm_numOk (nm_headL a) s.toList
     ·rw [if_pos hok]
      have := hiff.1 hok
      rw [if_pos]
      ·rfl
      ·exact this
     ·rw [if_neg hok]
      rw [if_neg]
      exact fun h => hok (hiff.2 h)
    ·refine ⟨1, fun k hk => ?_⟩
     obtain ⟨k, rfl⟩ : ∃ m, k = m + 1 := ⟨k - 1, by omega⟩
     show footbridgeref03_Number.f _ a s = _
     unfold footbridgeref03_Number.f
     have hex : ((s.extract 0 (nm_headL a).length).toList != nm_headL a) = true := by
      rw [bne_iff_ne, ba_extract, List.drop_zero]
      intro he
      exact hp (List.prefix_iff_eq_take.2 he.symm)
     rw [nm_word_is, Option.bind_some, ofL_toList, if_neg h1, ofL_size, if_neg h2, w64 (by omega) (by omega), if_neg h3, if_pos (by omega), if_pos (by omega), Int.toNat_natCast, hex]
     simp only [footbridgeref03_Number.j0]
     rw [if_pos trivial, if_neg (fun h : nm_numOk _ _ => hp h.1)]
open Classical in
theorem nm_checkRef_ev (a : Int) (s : ByteArray) (hs : s.size ≤ 140737488351232) : Ev (fun k => footbridgeref03_Check.f k a s) (nm_checkSpec a s) := by
 obtain ⟨K, hK⟩ := nm_plain_ref s hs
 obtain ⟨K2, hK2⟩ := nm_numberRef_ev a s hs
 refine ⟨max K K2 + 1, fun k hk => ?_⟩
 obtain ⟨k, rfl⟩ : ∃ m, k = m + 1 := ⟨k - 1, by omega⟩
 have hp : footbridgeref03_Plain.f k s = _ := hK k (by omega)
 have hp2 : footbridgeref03_Number.f k a s = _ := hK2 k (by omega)
 show footbridgeref03_Check.f _ a s = _
 unfold footbridgeref03_Check.f nm_checkSpec
 by_cases h1 : a < 0
 ·rw [if_pos h1, if_pos h1]
  simp only [footbridgeref03_Check.j0]
  rw [if_pos trivial]
 ·rw [if_neg h1, if_neg h1]
  simp only [footbridgeref03_Check.j0]
  by_cases h2 : a > 6
  ·rw [if_pos h2, decide_eq_true h2, if_pos rfl]
  ·rw [if_neg h2, decide_eq_false h2, if_neg (by simp), nm_word_is, Option.bind_some, ofL_toList]
   by_cases h3 : nm_headL a = []
   ·rw [if_pos h3, if_pos h3, hp, Option.bind_some]
    by_cases h4 : nm_plainP s
    ·rw [decide_eq_true h4, if_pos rfl, if_pos h4]
    ·rw [decide_eq_false h4, if_neg (by simp), if_neg h4]
   ·rw [if_neg h3, if_neg h3, hp2, Option.bind_some]
theorem ref14Count_ev (cur : List S82) (key : ByteArray) (h : KV 1000 cur) : Ev (fun k => footbridgeref14_Count.f k cur key) (numK cur key) := by
 have hsz := h.get key
 simp only [footbridgeref14_Count.f]
 refine Ev.bind (ref09Get_ev cur key h.so (Nat.le_trans h.len (by omega))) ?_
 refine Ev.bind (refRNum_ev (getK cur key).1 0 (by omega)) ?_
 simp only [refRDone, Option.bind_some]
 unfold numK
 by_cases hd : rDone (rNum (getK cur key).1 0).2.1 (rNum (getK cur key).1 0).2.2 = 0
 ·simp only [if_pos hd]; exact Ev.now _
 ·simp only [if_neg hd]; exact Ev.now _
theorem ref14Num_ev (n : Int) : Ev (fun k => footbridgeref14_Num.f k n) (bkNum n) := by
 have key : ∃ e, Ev (fun k => footbridgeref01_Num.f k n) (bkNum n, e) := by
  unfold bkNum
  by_cases h : n < 0 ∨ 9007199254740992 < n
  ·rw [if_pos h]
   refine ⟨3, 1, fun k hk => ?_⟩
   obtain ⟨k, rfl⟩ : ∃ m, k = m + 1 := ⟨k - 1, by omega⟩
   show footbridgeref01_Num.f (k + 1) n = _
   unfold footbridgeref01_Num.f
   simp only [footbridgeref01_Num.j0]
   by_cases h0 : n < 0
   ·rw [if_pos h0, if_pos trivial]
   ·rw [if_neg h0, if_pos (decide_eq_true (by omega))]
  ·rw [if_neg h]
   obtain ⟨m, rfl⟩ : ∃ m : Nat, n = (m : Int) := ⟨n.toNat, by omega⟩
   rw [Int.toNat_natCast]
   exact ⟨0, refNum_ev m (by omega)⟩
 obtain ⟨e, he⟩ := key
 simp only [footbridgeref14_Num.f]
 exact Ev.bind he (Ev.now _)
theorem Ev.up {α : Type} {g f : Nat → Option α} {r : α} (h : ∀ k, g (k + 1) = f k) (k : Ev f r) : Ev g r := by
 obtain ⟨K, hK⟩ := k
 refine ⟨K + 1, fun k hk => ?_⟩
 obtain ⟨m, rfl⟩ : ∃ m, k = m + 1 := ⟨k - 1, by omega⟩
 rw [h]
 exact hK m (by omega)
theorem ref09Del_ev (cur : List S82) (key : ByteArray) (h : KV 1000 cur) : Ev (fun k => footbridgeref09_Del.f k cur key) (delK cur key, hasK cur key) :=
 ⟨1000001, fun k hk => del_f cur key k h.so (Nat.le_trans h.len (by omega)) (by have := h.len; omega)⟩
theorem ref23Drop_ev (cur : List S82) (key : ByteArray) (h : KV 1000 cur) : Ev (fun k => footbridgeref23_drop.f k cur key) (delK cur key) := by
 simp only [footbridgeref23_drop.f]
 exact Ev.bind (ref09Del_ev cur key h) (Ev.now _)
theorem ref23Key_ev (c i : ByteArray) (hc : c.size ≤ 50000000) (hi : i.size ≤ 50000000) : Ev (fun k => footbridgeref23_key.f k c i) (tkKey c i) := by
 simp only [footbridgeref23_key.f]
 exact Ev.bind (ref14Key_ev (⟨#[116, 111, 107, 101, 110]⟩ : ByteArray) [c, i] (by show 5 ≤ 50000000; omega) (by show 2 ≤ 1000; omega) (by simpa using ⟨hc, hi⟩)) (Ev.now _)
theorem ref23Own_ev (o c i : ByteArray) (ho : o.size ≤ 50000000) (hc : c.size ≤ 50000000) (hi : i.size ≤ 50000000) : Ev (fun k => footbridgeref23_own.f k o c i) (tkOwn o c i) := by
 simp only [footbridgeref23_own.f]
 exact Ev.bind (ref14Key_ev (⟨#[111, 119, 110]⟩ : ByteArray) [o, c, i] (by show 3 ≤ 50000000; omega) (by show 3 ≤ 1000; omega) (by simpa using ⟨ho, hc, hi⟩)) (Ev.now _)
theorem ref23May_ev (c i : ByteArray) (hc : c.size ≤ 50000000) (hi : i.size ≤ 50000000) : Ev (fun k => footbridgeref14_Key.f k [(⟨#[109, 97, 121]⟩ : ByteArray), c, i]) (tkMay c i) :=
 ref14Key_ev (⟨#[109, 97, 121]⟩ : ByteArray) [c, i] (by show 3 ≤ 50000000; omega) (by show 2 ≤ 1000; omega) (by simpa using ⟨hc, hi⟩)
theorem ref23Value_ev (c i u d o : ByteArray) (hu : u.size ≤ 1000000) (hd : d.size ≤ 1000000) (ho : o.size ≤ 1000000) : Ev (fun k => footbridgeref23_value.f k c i u d o) (valB [u, d, o]) := by
 have l1 := textB_len u
 have l2 := textB_len d
 have l3 := textB_len o
 have c1 : (textB u).size + (textB d).size ≤ 9223372036854775807 := by omega
 have c2 : (textB u ++ textB d).size + (textB o).size ≤ 9223372036854775807 := by rw [ByteArray.size_append]; omega
 rw [valB3]
 simp only [footbridgeref23_value.f]
 refine Ev.bind (ref14Text_ev u) (Ev.bind (ref14Text_ev d) ?_)
 simp only [if_pos c1]
 refine Ev.bind (ref14Text_ev o) ?_
 simp only [if_pos c2]
 exact Ev.now _
theorem ref22Supply_ev (cur : List S82) (c : ByteArray) (h : KV 1000 cur) (hc : c.size ≤ 50000000) : Ev (fun k => footbridgeref22_Supply.f k cur c) (numK cur (tkSup c)) := by
 simp only [footbridgeref22_Supply.f]
 exact Ev.bind (ref14Key_ev (⟨#[115, 117, 112, 112, 108, 121]⟩ : ByteArray) [c] (by show 6 ≤ 50000000; omega) (by show 1 ≤ 1000; omega) (by simpa using hc)) (Ev.bind (ref14Count_ev cur _ h) (Ev.now _))
theorem ref23Counted_ev (cur : List S82) (c : ByteArray) (m : Int) (h : KV 1000 cur) (hc : c.size ≤ 1000) (hm : -1 ≤ m ∧ m ≤ 1) : Ev (fun k => footbridgeref23_counted.f k cur c m) (bkSet cur (tkSup c) (numK cur (tkSup c) + m)) := by
 have hb := numK_bd cur (tkSup c)
 have hw : wrap64 (numK cur (tkSup c) + m) = numK cur (tkSup c) + m := w64 (by omega) (by omega)
 have hl := tkSup_len c
 simp only [footbridgeref23_counted.f]
 refine Ev.bind (ref22Supply_ev cur c h (by omega)) ?_
 refine Ev.bind (ref14Key_ev (⟨#[115, 117, 112, 112, 108, 121]⟩ : ByteArray) [c] (by show 6 ≤ 50000000; omega) (by show 1 ≤ 1000; omega) (by simp; omega)) ?_
 rw [show keyB (⟨#[115, 117, 112, 112, 108, 121]⟩ : ByteArray) [c] = tkSup c from rfl]
 simp only [hw]
 generalize numK cur (tkSup c) + m = n
 unfold bkSet
 by_cases h0 : n = 0
 ·simp only [if_pos h0]
  exact Ev.bind (ref23Drop_ev cur _ h) (Ev.now _)
 ·simp only [if_neg h0]
  have hs := bkNum_sz n
  have e : setC cur (tkSup c) (bkNum n) = setK cur (tkSup c) (bkNum n) := by unfold setC; exact if_neg (by omega)
  rw [e]
  exact Ev.bind (ref14Num_ev n) (Ev.bind (ref14Put_ev cur _ _ h.so (Nat.le_trans h.len (by omega))) (Ev.now _))
theorem ref23Named_ev (o : ByteArray) : Ev (fun k => footbridgeref23_Named.f o) (decide (¬ (o.size = 0 ∨ o.size > 512))) := by
 simp only [footbridgeref23_Named.f]
 by_cases h : (o.size : Int) ≥ 1
 ·simp only [if_pos h]
  rw [show decide (¬ (o.size = 0 ∨ o.size > 512)) = decide ((o.size : Int) ≤ 512) from decide_eq_decide.2 (by omega)]
  exact Ev.now _
 ·simp only [if_neg h]
  rw [decide_eq_false (by omega)]
  exact Ev.now _
theorem ref23Get_ev (cur : List S82) (c i : ByteArray) (h : KV 1000 cur) (hc : c.size ≤ 50000000) (hi : i.size ≤ 50000000) : Ev (fun k => footbridgeref23_Get.f k cur c i) (tkGet cur c i) := by
 have hsz := h.get (tkKey c i)
 have h2 := getK_has cur (tkKey c i)
 simp only [footbridgeref23_Get.f]
 refine Ev.bind (ref23Key_ev c i hc hi) ?_
 refine Ev.bind (ref09Get_ev cur _ h.so (Nat.le_trans h.len (by omega))) ?_
 unfold tkGet txt3
 rw [h2]
 generalize hasK cur (tkKey c i) = b
 generalize (getK cur (tkKey c i)).1 = v at hsz
 have z1 := rText_sz v 0
 have z2 := rText_sz (rText v 0).2.1 (rText v 0).2.2
 refine Ev.bind (refRText_ev v 0 (by omega)) ?_
 refine Ev.bind (refRText_ev (rText v 0).2.1 (rText v 0).2.2 (by omega)) ?_
 refine Ev.bind (refRText_ev (rText (rText v 0).2.1 (rText v 0).2.2).2.1 (rText (rText v 0).2.1 (rText v 0).2.2).2.2 (by omega)) ?_
 simp only [refRDone, Option.bind_some]
 cases b with
 | false => simp only [Bool.false_eq_true, if_false, false_and]; exact Ev.now _
 | true =>
  simp only [if_true, true_and]
  generalize rDone (rText (rText (rText v 0).2.1 (rText v 0).2.2).2.1 (rText (rText v 0).2.1 (rText v 0).2.2).2.2).2.1 (rText (rText (rText v 0).2.1 (rText v 0).2.2).2.1 (rText (rText v 0).2.1 (rText v 0).2.2).2.2).2.2 = D
  by_cases hD : D = 0
  ·simp only [if_pos hD]; exact Ev.now _
  ·simp only [if_neg hD]; exact Ev.now _
theorem numK_cong {a b : List S82} {key : ByteArray} (h : getK a key = getK b key) : numK a key = numK b key := by unfold numK; rw [h]
theorem numK_keep {cur : List S82} (hs : sortK cur) (c i u d o : ByteArray) : numK (tkKeep cur c i u d o) (tkSup c) = numK cur (tkSup c) := by
 refine numK_cong ?_
 unfold tkKeep
 rw [getK_setC (sortK_setC hs _ _), if_neg (fun e => ne_SupOwn c o c i e.1), getK_setC hs, if_neg (fun e => ne_SupKey c c i e.1)]
theorem numK_burn3 {cur : List S82} (hs : sortK cur) (c i o : ByteArray) : numK (tkBurn3 cur c i o) (tkSup c) = numK cur (tkSup c) := by
 refine numK_cong ?_
 unfold tkBurn3
 rw [getK_delK (sortK_del (sortK_del hs _) _), if_neg (ne_SupMay c c i), getK_delK (sortK_del hs _), if_neg (ne_SupOwn c o c i), getK_delK hs, if_neg (ne_SupKey c c i)]
theorem ref23Keep (cur : List S82) (c i u d o : ByteArray) (hc : c.size ≤ 1000) (hi : i.size ≤ 1000) (ho : o.size ≤ 1000) (hu : u.size ≤ 32768) (hd : d.size ≤ 16384) : tkKeep cur c i u d o = setK (setK cur (tkKey c i) (valB [u, d, o])) (tkOwn o c i) (⟨#[1]⟩ : ByteArray) := by
 have l1 := tkKey_len c i
 have l2 := tkOwn_len o c i
 have l3 := val3_len u d o
 have e1 : ¬ ((tkOwn o c i).size > 65536 ∨ (⟨#[1]⟩ : ByteArray).size > 65536) := by rw [show (⟨#[1]⟩ : ByteArray).size = 1 from rfl]; omega
 have e2 : ¬ ((tkKey c i).size > 65536 ∨ (valB [u, d, o]).size > 65536) := by omega
 unfold tkKeep setC
 rw [if_neg e2, if_neg e1]
theorem ref23Mint_ev (cur : List S82) (c i u d o : ByteArray) (h : KV 900 cur) (hc : c.size ≤ 1000) (hi : i.size ≤ 1000) (ho : o.size ≤ 1000) (hu : u.size ≤ 40000) (hd : d.size ≤ 40000) : Ev (fun k => footbridgeref23_Mint.f k cur c i u d o) (tkMint cur c i u d o, tkMintE cur c i u d o) := by
 have h1 := h.mono (show 900 ≤ 1000 by omega)
 simp only [footbridgeref23_Mint.f]
 refine Ev.bind (ref22Get_ev cur c h1 hc) ?_
 unfold tkMint
 obtain ⟨E, hE⟩ : ∃ E, tkMintE cur c i u d o = E := ⟨_, rfl⟩
 rw [hE]
 unfold tkMintE at hE
 by_cases a : (clGet cur c).2.2.2.2 = 0
 ·simp only [if_pos a]
  rw [if_neg (fun e => e a)] at hE
  refine Ev.bind (ref23Key_ev c i (by omega) (by omega)) ?_
  refine Ev.bind (ref09Get_ev cur _ h1.so (Nat.le_trans h1.len (by omega))) ?_
  refine Ev.bind (nm_checkRef_ev 5 i (by omega)) ?_
  rw [getK_has]
  have key : ∀ b : Bool, (b = true ↔ (nm_checkSpec 5 i ≠ 0 ∨ o.size = 0 ∨ o.size > 512)) → Ev (fun k => footbridgeref23_Mint.j0 k cur (hasK cur (tkKey c i)) b c i u d o) ((if E = 0 then bkSet (tkKeep cur c i u d o) (tkSup c) (numK cur (tkSup c) + 1) else cur), E) := by
   intro b hb
   refine Ev.up (fun k => by rw [footbridgeref23_Mint.j0]) ?_
   by_cases hn : nm_checkSpec 5 i ≠ 0 ∨ o.size = 0 ∨ o.size > 512
   ·rw [if_pos hn] at hE
    subst hE
    simp only [hb.2 hn, if_true]
    rw [if_neg (by decide)]
    exact Ev.now _
   ·rw [if_neg hn] at hE
    have hb2 : b = false := Bool.eq_false_iff.2 (fun e => hn (hb.1 e))
    simp only [hb2, Bool.false_eq_true, if_false]
    have key2 : ∀ b2 : Bool, (b2 = true ↔ (u.size > 32768 ∨ d.size > 16384)) → Ev (fun k => footbridgeref23_Mint.j1 k cur (hasK cur (tkKey c i)) b2 c i u d o) ((if E = 0 then bkSet (tkKeep cur c i u d o) (tkSup c) (numK cur (tkSup c) + 1) else cur), E) := by
     intro b2 hb3
     refine Ev.up (fun k => by rw [footbridgeref23_Mint.j1]) ?_
     by_cases hl : u.size > 32768 ∨ d.size > 16384
     ·rw [if_pos hl] at hE
      subst hE
      simp only [hb3.2 hl, if_true]
      rw [if_neg (by decide)]
      exact Ev.now _
     ·rw [if_neg hl] at hE
      have hb4 : b2 = false := Bool.eq_false_iff.2 (fun e => hl (hb3.1 e))
      simp only [hb4, Bool.false_eq_true, if_false]
      cases hh : hasK cur (tkKey c i) with
      | true =>
       rw [if_pos hh] at hE
       subst hE
       simp only [if_true]
       rw [if_neg (by decide)]
       exact Ev.now _
      | false =>
       rw [if_neg (by rw [hh]; decide)] at hE
       subst hE
       simp only [Bool.false_eq_true, if_false]
       rw [if_pos trivial, ← numK_keep h.so c i u d o]
       have hkk := (tkKeep_KV h c i u d o).mono (show 902 ≤ 1000 by omega)
       have e := ref23Keep cur c i u d o hc hi ho (by omega) (by omega)
       have h2 := ((h.set (tkKey c i) (valB [u, d, o]) (by have := val3_len u d o; omega)).mono (show 901 ≤ 1000 by omega))
       refine Ev.bind (ref23Key_ev c i (by omega) (by omega)) (Ev.bind (ref23Value_ev c i u d o (by omega) (by omega) (by omega)) (Ev.bind (ref14Put_ev cur _ _ h1.so (Nat.le_trans h1.len (by omega))) (Ev.bind (ref23Own_ev o c i (by omega) (by omega) (by omega)) (Ev.bind (ref14Put_ev _ _ _ h2.so (Nat.le_trans h2.len (by omega))) ?_))))
       rw [← e]
       exact Ev.bind (ref23Counted_ev _ c 1 hkk hc (by omega)) (Ev.now _)
    by_cases g1 : (u.size : Int) > 32768
    ·simp only [if_pos g1]
     exact key2 true ⟨fun _ => .inl (by omega), fun _ => rfl⟩
    ·simp only [if_neg g1]
     exact key2 _ ⟨fun e => .inr (by have := of_decide_eq_true e; omega), fun e => decide_eq_true (by omega)⟩
  by_cases h0 : nm_checkSpec 5 i = 0
  ·simp only [if_pos h0]
   refine Ev.bind (ref23Named_ev o) ?_
   refine key _ ⟨fun e => ?_, fun e => ?_⟩
   ·have e1 : decide (¬ (o.size = 0 ∨ o.size > 512)) = false := by
     cases hq : decide (¬ (o.size = 0 ∨ o.size > 512)) with
     | false => rfl
     | true => rw [hq] at e; cases e
    exact .inr (Classical.not_not.1 (of_decide_eq_false e1))
   ·rw [decide_eq_false (fun h => h (e.resolve_left (fun h => h h0)))]; rfl
  ·simp only [if_neg h0]
   exact key true ⟨fun _ => .inl h0, fun _ => rfl⟩
 ·simp only [if_neg a]
  rw [if_pos a] at hE
  rw [hE] at a ⊢
  rw [if_neg a]
  exact Ev.now _
theorem ref23Burn_ev (cur : List S82) (c i : ByteArray) (h : KV 1000 cur) (hc : c.size ≤ 1000) (hi : i.size ≤ 1000) : Ev (fun k => footbridgeref23_Burn.f k cur c i) (tkBurn cur c i, tkE (tkGet cur c i)) := by
 simp only [footbridgeref23_Burn.f]
 refine Ev.bind (ref23Get_ev cur c i h (by omega) (by omega)) ?_
 unfold tkBurn
 obtain ⟨x0, x1, x2, x3, x4, x5, hg⟩ : ∃ a0 a1 a2 a3 a4 a5, tkGet cur c i = (a0, a1, a2, a3, a4, a5) := ⟨_, _, _, _, _, _, rfl⟩
 have hsz := tkGet_sz hg
 rw [hg]
 show Ev _ ((if x5 = 0 then bkSet (tkBurn3 cur c i x4) (tkSup c) (numK cur (tkSup c) - 1) else cur), x5)
 dsimp only
 by_cases a : x5 = 0
 ·subst a
  simp only [if_pos]
  have hd := ref23Drop_ev cur (tkKey c i) h
  have h2 := h.del (tkKey c i)
  have h3 := h2.del (tkOwn x4 c i)
  have h4 := h3.del (tkMay c i)
  refine Ev.bind (ref23Key_ev c i (by omega) (by omega)) (Ev.bind hd (Ev.bind (ref23Own_ev x4 c i (by omega) (by omega) (by omega)) (Ev.bind (ref23Drop_ev _ _ h2) (Ev.bind (ref23May_ev c i (by omega) (by omega)) (Ev.bind (ref23Drop_ev _ _ h3) ?_)))))
  rw [← numK_burn3 h.so c i x4]
  exact Ev.bind (ref23Counted_ev _ c (-1) h4 hc (by omega)) (Ev.now _)
 ·simp only [if_neg a]
  exact Ev.now _
theorem ref23Move_ev (cur : List S82) (c i p : ByteArray) (h : KV 900 cur) (hc : c.size ≤ 1000) (hi : i.size ≤ 1000) (hp : p.size ≤ 1000) (hv : tkE (tkGet cur c i) = 0 → (tkGet cur c i).2.2.1.size ≤ 32768 ∧ (tkGet cur c i).2.2.2.1.size ≤ 16384) : Ev (fun k => footbridgeref23_Move.f k cur c i p) (tkMove cur c i p, tkMoveE cur c i p) := by
 have h1 := h.mono (show 900 ≤ 1000 by omega)
 simp only [footbridgeref23_Move.f]
 refine Ev.bind (ref23Get_ev cur c i h1 (by omega) (by omega)) ?_
 unfold tkMove tkMoveE
 obtain ⟨x0, x1, x2, x3, x4, x5, hg⟩ : ∃ a0 a1 a2 a3 a4 a5, tkGet cur c i = (a0, a1, a2, a3, a4, a5) := ⟨_, _, _, _, _, _, rfl⟩
 have hsz := tkGet_sz hg
 have hok := fun e : x5 = 0 => tkGet_ok hg e
 rw [hg] at hv ⊢
 replace hv : x5 = 0 → x2.size ≤ 32768 ∧ x3.size ≤ 16384 := hv
 show Ev _ ((if (if x5 ≠ 0 then x5 else if p.size = 0 ∨ p.size > 512 then 7 else 0) = 0 then tkKeep (delK (delK cur (tkOwn x4 c i)) (tkMay c i)) c i x2 x3 p else cur), (if x5 ≠ 0 then x5 else if p.size = 0 ∨ p.size > 512 then 7 else 0))
 dsimp only
 by_cases a : x5 = 0
 ·obtain ⟨rfl, rfl⟩ := hok a
  obtain ⟨v1, v2⟩ := hv a
  subst a
  rw [show (if (0 : Int) ≠ 0 then 0 else if p.size = 0 ∨ p.size > 512 then (7 : Int) else 0) = (if p.size = 0 ∨ p.size > 512 then 7 else 0) from if_neg (fun e => e rfl)]
  simp only [if_pos]
  refine Ev.bind (ref23Named_ev p) ?_
  by_cases n : p.size = 0 ∨ p.size > 512
  ·rw [decide_eq_false (fun e => e n), if_pos n, if_neg (by decide)]
   simp only [Bool.false_eq_true, if_false]
   exact Ev.now _
  ·rw [decide_eq_true n, if_neg n, if_pos rfl]
   simp only [if_true]
   have h2 := h1.del (tkOwn x4 x0 x1)
   have h3 := h2.del (tkMay x0 x1)
   have e := ref23Keep (delK (delK cur (tkOwn x4 x0 x1)) (tkMay x0 x1)) x0 x1 x2 x3 p hc hi hp v1 v2
   have h5 := (((h.del (tkOwn x4 x0 x1)).del (tkMay x0 x1)).set (tkKey x0 x1) (valB [x2, x3, p]) (by have := val3_len x2 x3 p; omega)).mono (show 901 ≤ 1000 by omega)
   rw [e]
   exact Ev.bind (ref23Own_ev x4 x0 x1 (by omega) (by omega) (by omega)) (Ev.bind (ref23Drop_ev _ _ h1) (Ev.bind (ref23May_ev x0 x1 (by omega) (by omega)) (Ev.bind (ref23Drop_ev _ _ h2) (Ev.bind (ref23Key_ev x0 x1 (by omega) (by omega)) (Ev.bind (ref23Value_ev x0 x1 x2 x3 p (by omega) (by omega) (by omega)) (Ev.bind (ref14Put_ev _ _ _ h3.so (Nat.le_trans h3.len (by omega))) (Ev.bind (ref23Own_ev p x0 x1 (by omega) (by omega) (by omega)) (Ev.bind (ref14Put_ev _ _ _ h5.so (Nat.le_trans h5.len (by omega))) (Ev.now _)))))))))
 ·simp only [if_neg a, if_pos (show x5 ≠ 0 from a)]
  exact Ev.now _
noncomputable def tkDo (cur : List S82) (k : Int) (c i u d o p : ByteArray) : List S82 := if k = 0 then tkMint cur c i u d o else if k = 1 then tkBurn cur c i else tkMove cur c i p
noncomputable def tkDoE (cur : List S82) (k : Int) (c i u d o p : ByteArray) : Int := if k = 0 then tkMintE cur c i u d o else if k = 1 then tkE (tkGet cur c i) else tkMoveE cur c i p
theorem tkDo_KV {m : Nat} {cur : List S82} (h : KV m cur) (k : Int) (c i u d o p : ByteArray) : KV (m + 3) (tkDo cur k c i u d o p) := by
 unfold tkDo
 split
 ·exact tkMint_KV h _ _ _ _ _
 ·split
  ·exact (tkBurn_KV h _ _).mono (by omega)
  ·exact (tkMove_KV h _ _ _).mono (by omega)
def TInv (cur : List S82) : Prop := ∀ c i, tkE (tkGet cur c i) = 0 → (tkGet cur c i).2.2.1.size ≤ 32768 ∧ (tkGet cur c i).2.2.2.1.size ≤ 16384
theorem tkGet_cong {a b : List S82} {c i : ByteArray} (h : getK a (tkKey c i) = getK b (tkKey c i)) : tkGet a c i = tkGet b c i := by
 unfold tkGet
 rw [← getK_has, ← getK_has, h]
theorem TInv.nil : TInv [] := fun c i h => by
 rw [tkGet_no (cur := []) (c := c) (i := i) rfl] at h
 exact absurd h (by decide)
theorem TInv.cls {cur : List S82} (h : TInv cur) (hs : sortK cur) (c0 c1 c2 c3 : ByteArray) : TInv (clNew cur c0 c1 c2 c3) := by
 intro c i
 have e : getK (clNew cur c0 c1 c2 c3) (tkKey c i) = getK cur (tkKey c i) := by
  unfold clNew
  repeat' split
  all_goals first | rfl | (rw [getK_setC hs, if_neg (fun e => ne_KeyCls c i c0 e.1)])
 rw [tkGet_cong e]
 exact h c i
theorem TInv.beg : ∀ l : List ByteArray, TInv (begK l) := by
 have go : ∀ (l : List ByteArray) (n : Nat) (cur : List S82), KV n cur → TInv cur → TInv (l.foldl (fun cur x => clNew cur x (⟨#[117]⟩ : ByteArray) (⟨#[]⟩ : ByteArray) (⟨#[97, 108]⟩ : ByteArray)) cur) := by
  intro l
  induction l with
  | nil => intro n cur _ h; exact h
  | cons x l ih => intro n cur hk h; exact ih (n + 1) _ (clNew_KV1 hk x _ _ _) (h.cls hk.so x _ _ _)
 exact fun l => go l 0 [] (KV.nil 0) TInv.nil
theorem TInv.keep {cur : List S82} (h : TInv cur) (hs : sortK cur) (c0 i0 u d o : ByteArray) (hc : c0.size ≤ 1000) (hi : i0.size ≤ 1000) (ho : o.size ≤ 1000) (hu : u.size ≤ 32768) (hd : d.size ≤ 16384) : TInv (tkKeep cur c0 i0 u d o) := by
 intro c i
 have g := getK_keep hs c0 i0 u d o (tkKey c i) hc hi ho hu hd
 rw [if_neg (ne_KeyOwn c i o c0 i0)] at g
 by_cases e : tkKey c i = tkKey c0 i0
 ·rw [if_pos e] at g
  rw [tkGet_of g hu hd ho]
  intro _
  exact ⟨hu, hd⟩
 ·rw [if_neg e] at g
  rw [tkGet_cong g]
  exact h c i
theorem TInv.bk {cur : List S82} (h : TInv cur) (hs : sortK cur) (c0 : ByteArray) (n : Int) : TInv (bkSet cur (tkSup c0) n) := by
 intro c i
 rw [tkGet_cong (show getK (bkSet cur (tkSup c0) n) (tkKey c i) = getK cur (tkKey c i) by rw [getK_bk hs, if_neg (ne_KeySup c i c0)])]
 exact h c i
theorem TInv.del {cur : List S82} (h : TInv cur) (hs : sortK cur) (key : ByteArray) : TInv (delK cur key) := by
 intro c i
 have g := getK_delK hs key (tkKey c i)
 by_cases e : tkKey c i = key
 ·rw [if_pos e] at g
  rw [tkGet_no g]
  intro e2
  exact absurd e2 (by decide)
 ·rw [if_neg e] at g
  rw [tkGet_cong g]
  exact h c i
theorem tkMintE_0 {cur : List S82} {c i u d o : ByteArray} (hE : tkMintE cur c i u d o = 0) : u.size ≤ 32768 ∧ d.size ≤ 16384 ∧ o.size ≤ 512 := by
 unfold tkMintE at hE
 by_cases h1 : (clGet cur c).2.2.2.2 ≠ 0
 ·rw [if_pos h1] at hE; exact absurd hE h1
 rw [if_neg h1] at hE
 by_cases h2 : nm_checkSpec 5 i ≠ 0 ∨ o.size = 0 ∨ o.size > 512
 ·rw [if_pos h2] at hE; exact absurd hE (by decide)
 rw [if_neg h2] at hE
 by_cases h3 : u.size > 32768 ∨ d.size > 16384
 ·rw [if_pos h3] at hE; exact absurd hE (by decide)
 have : ¬ o.size > 512 := fun e => h2 (.inr (.inr e))
 omega
theorem TInv.did {cur : List S82} (h : TInv cur) (hs : sortK cur) (k : Int) (c i u d o p : ByteArray) (hc : c.size ≤ 1000) (hi : i.size ≤ 1000) (hp : p.size ≤ 1000) : TInv (tkDo cur k c i u d o p) := by
 unfold tkDo
 split
 ·unfold tkMint
  split
  ·rename_i hE
   obtain ⟨a, b, c2⟩ := tkMintE_0 hE
   exact (h.keep hs c i u d o hc hi (by omega) a b).bk (sortK_keep hs _ _ _ _ _) c _
  ·exact h
 ·split
  ·unfold tkBurn
   split
   ·unfold tkBurn3
    exact (((h.del hs _).del (sortK_del hs _) _).del (sortK_del (sortK_del hs _) _) _).bk (sortK_del (sortK_del (sortK_del hs _) _) _) c _
   ·exact h
  ·unfold tkMove
   split
   ·rename_i hE
    have hE2 : tkE (tkGet cur c i) = 0 := by
     unfold tkMoveE at hE
     by_cases a : tkE (tkGet cur c i) = 0
     ·exact a
     ·rw [if_pos a] at hE; exact hE
    obtain ⟨a, b⟩ := h c i hE2
    exact ((h.del hs _).del (sortK_del hs _) _).keep (sortK_del (sortK_del hs _) _) c i _ _ p hc hi hp a b
   ·exact h
theorem tkdo_calls (n0 g : Nat) (ok : Nat → Prop) (cur cur' : List S82) (A : Option Addr) (cc : Nat) (k : Int) (c i u d o p : ByteArray) (E : Int) {w : World} (hm : JM n0 ok g ⟨cur, []⟩ w) (hlt : ∀ k, ok k → k < w.heap.size) (hn0 : n0 ≤ w.heap.size) (hv : Kd.V k82 82 w 0 (fun k => ¬ ok k) (.slice A cur.length cc) cur) (hk : KV 900 cur) (ht : TInv cur) (hc : c.size ≤ 300) (hi : i.size ≤ 300) (ho : o.size ≤ 1000) (hp : p.size ≤ 1000) (hu : u.size ≤ 40000) (hd : d.size ≤ 40000) (hE : tkDoE cur k c i u d o p = E) (hcur : tkDo cur k c i u d o p = cur') :
  Calls Tryz.prog 13 #[.pointer (some ⟨g, 0, none⟩), .slice A cur.length cc, .agg #[.int .i64 k, .string c, .string i, .string u, .string d, .string o, .string p]] w fun e w' => ∃ v w1, e = .returned (.tuple #[v, .bool true]) ∧ Below w.heap.size w w1 ∧ JS n0 ok w1 g cur' w' ∧ Kd.V k82 82 w1 0 (fun k => ¬ ok k) v cur' := by
 have hk1 := hk.mono (show 900 ≤ 1000 by omega)
 have hk6 := hk.mono (show 900 ≤ 100000 by omega)
 have HM := As_ hm
 have HV0 := As_ hv
 have HB := As_ (Below.refl w.heap.size w)
 have AT := As_ (ht c i)
 unfold tkDoE at hE
 unfold tkDo at hcur
 clear hm hv ht
 go_enter Tryz.func13, Tryz.ntmps13
 by_cases c0 : k = 0
 ·rw [if_pos c0] at hE hcur
  obtain ⟨K0, hK0⟩ := ref23Mint_ev cur c i u d o hk (by omega) (by omega) ho hu hd
  rw [hE, hcur] at hK0
  have HR := As_ (hK0 K0 (Nat.le_refl _))
  clear hK0
  go_wp2_with (first | ((with_reducible refine gate_dst (N := 5) rfl ?_); refine bxE (N := 5) (cs := #[.int .i64 k, .string c, .string i, .string u, .string d, .string o, .string p]) (t := 41) ?_; intro gbd hg wd hbox hb; have GEd := As_ ((by rw [hg]; exact (below_size (blwG)) : w.heap.size ≤ gbd)); replace HB := As_ (below_step (blwG) hb); have BKd := As_ hbox; clear hb hbox hg; obtain ⟨zd_0, fd_0, zd_1, fd_1, zd_2, fd_2, zd_3, fd_3, zd_4, fd_4, zd_5, fd_5, zd_6, fd_6⟩ := cellsN7 BKd.out; have hwd := HB.out.size))
  refine (footbridgeref23_Mint.calls K0 (fun k => ¬ ok k) A cc cur c i u d o _ _ _ (Kd.V_below HV0.out (blwG)) HR.out).mono ?_
  rintro e w1 ⟨v3, rfl, hv3, hb⟩
  replace HB := As_ (below_step (blwG) hb)
  replace BKd := As_ (blk_below (g := gbd) (o := .cells #[.int .i64 k, .string c, .string i, .string u, .string d, .string o, .string p] 41 (0, 0)) (bkG_d) hb)
  clear hb
  obtain ⟨zd_0, fd_0, zd_1, fd_1, zd_2, fd_2, zd_3, fd_3, zd_4, fd_4, zd_5, fd_5, zd_6, fd_6⟩ := cellsN7 BKd.out
  have HV1 := As_ (show Kd.V k82 82 w1 0 (fun k => ¬ ok k) v3 cur' from Kd.V_lower (Kd.V_mono hv3 (fun k hk => hk.elim id (fun h1 h2 => by have := hlt k h2; omega))) (Nat.zero_le _))
  have HB1 := As_ HB.out
  have HJ := As_ (JS.start (HM.out.below HB.out) (Nat.le_trans hn0 HB.out.size))
  clear hv3 HM HV0
  go_wp2_with fail
  refine (tk_mint c i u d o E cur' HJ.out hk6 (by omega) (by omega) (by omega) (by omega) (by omega) hE hcur).mono ?_
  rintro e w2 ⟨rfl, hj, hk2⟩
  have HJ2 := As_ hj
  clear hj hk2 HJ
  go_wp2
  go_ret2
  exact ⟨_, w1, rfl, HB1.out, HJ2.out, HV1.out⟩
 ·rw [if_neg c0] at hE hcur
  by_cases c1 : k = 1
  ·rw [if_pos c1] at hE hcur
   obtain ⟨K0, hK0⟩ := ref23Burn_ev cur c i hk1 (by omega) (by omega)
   rw [hE, hcur] at hK0
   have HR := As_ (hK0 K0 (Nat.le_refl _))
   clear hK0
   go_wp2_with (first | ((with_reducible refine gate_dst (N := 5) rfl ?_); refine bxE (N := 5) (cs := #[.int .i64 k, .string c, .string i, .string u, .string d, .string o, .string p]) (t := 41) ?_; intro gbd hg wd hbox hb; have GEd := As_ ((by rw [hg]; exact (below_size (blwG)) : w.heap.size ≤ gbd)); replace HB := As_ (below_step (blwG) hb); have BKd := As_ hbox; clear hb hbox hg; obtain ⟨zd_0, fd_0, zd_1, fd_1, zd_2, fd_2, zd_3, fd_3, zd_4, fd_4, zd_5, fd_5, zd_6, fd_6⟩ := cellsN7 BKd.out; have hwd := HB.out.size))
   refine (footbridgeref23_Burn.calls K0 (fun k => ¬ ok k) A cc cur c i _ _ _ (Kd.V_below HV0.out (blwG)) HR.out).mono ?_
   rintro e w1 ⟨v3, rfl, hv3, hb⟩
   replace HB := As_ (below_step (blwG) hb)
   replace BKd := As_ (blk_below (g := gbd) (o := .cells #[.int .i64 k, .string c, .string i, .string u, .string d, .string o, .string p] 41 (0, 0)) (bkG_d) hb)
   clear hb
   obtain ⟨zd_0, fd_0, zd_1, fd_1, zd_2, fd_2, zd_3, fd_3, zd_4, fd_4, zd_5, fd_5, zd_6, fd_6⟩ := cellsN7 BKd.out
   have HV1 := As_ (show Kd.V k82 82 w1 0 (fun k => ¬ ok k) v3 cur' from Kd.V_lower (Kd.V_mono hv3 (fun k hk => hk.elim id (fun h1 h2 => by have := hlt k h2; omega))) (Nat.zero_le _))
   have HB1 := As_ HB.out
   have HJ := As_ (JS.start (HM.out.below HB.out) (Nat.le_trans hn0 HB.out.size))
   clear hv3 HM HV0
   go_wp2_with fail
   refine (tk_burn c i E cur' HJ.out hk6 (by omega) (by omega) hE hcur).mono ?_
   rintro e w2 ⟨rfl, hj, hk2⟩
   have HJ2 := As_ hj
   clear hj hk2 HJ
   go_wp2
   go_ret2
   exact ⟨_, w1, rfl, HB1.out, HJ2.out, HV1.out⟩
  ·rw [if_neg c1] at hE hcur
   obtain ⟨K0, hK0⟩ := ref23Move_ev cur c i p hk (by omega) (by omega) hp AT.out
   rw [hE, hcur] at hK0
   have HR := As_ (hK0 K0 (Nat.le_refl _))
   clear hK0
   go_wp2_with (first | ((with_reducible refine gate_dst (N := 5) rfl ?_); refine bxE (N := 5) (cs := #[.int .i64 k, .string c, .string i, .string u, .string d, .string o, .string p]) (t := 41) ?_; intro gbd hg wd hbox hb; have GEd := As_ ((by rw [hg]; exact (below_size (blwG)) : w.heap.size ≤ gbd)); replace HB := As_ (below_step (blwG) hb); have BKd := As_ hbox; clear hb hbox hg; obtain ⟨zd_0, fd_0, zd_1, fd_1, zd_2, fd_2, zd_3, fd_3, zd_4, fd_4, zd_5, fd_5, zd_6, fd_6⟩ := cellsN7 BKd.out; have hwd := HB.out.size))
   refine (footbridgeref23_Move.calls K0 (fun k => ¬ ok k) A cc cur c i p _ _ _ (Kd.V_below HV0.out (blwG)) HR.out).mono ?_
   rintro e w1 ⟨v3, rfl, hv3, hb⟩
   replace HB := As_ (below_step (blwG) hb)
   replace BKd := As_ (blk_below (g := gbd) (o := .cells #[.int .i64 k, .string c, .string i, .string u, .string d, .string o, .string p] 41 (0, 0)) (bkG_d) hb)
   clear hb
   obtain ⟨zd_0, fd_0, zd_1, fd_1, zd_2, fd_2, zd_3, fd_3, zd_4, fd_4, zd_5, fd_5, zd_6, fd_6⟩ := cellsN7 BKd.out
   have HV1 := As_ (show Kd.V k82 82 w1 0 (fun k => ¬ ok k) v3 cur' from Kd.V_lower (Kd.V_mono hv3 (fun k hk => hk.elim id (fun h1 h2 => by have := hlt k h2; omega))) (Nat.zero_le _))
   have HB1 := As_ HB.out
   have HJ := As_ (JS.start (HM.out.below HB.out) (Nat.le_trans hn0 HB.out.size))
   clear hv3 HM HV0
   go_wp2_with fail
   refine (tk_move c i p E cur' HJ.out hk6 (by omega) (by omega) (by omega) hE hcur).mono ?_
   rintro e w2 ⟨rfl, hj, hk2⟩
   have HJ2 := As_ hj
   clear hj hk2 HJ
   go_wp2
   go_ret2
   exact ⟨_, w1, rfl, HB1.out, HJ2.out, HV1.out⟩
end Go.Proofs.YtjappgjpikbdeaaGreatDoor.PTkp
