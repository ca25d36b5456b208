-- written by wip/myprint.py over the kit's print; not a printed text of print.sh
import Derived.Test.YtjappgjpikbdeaaGreatDoorPTkkx0
import Derived.Test.YtjappgjpikbdeaaGreatDoorPTkkx9
import Derived.Test.YtjappgjpikbdeaaGreatDoorPTkkx15
import Derived.Test.YtjappgjpikbdeaaGreatDoorPTkkx22
import Derived.Test.YtjappgjpikbdeaaGreatDoorPTkkx23
import Derived.Test.YtjappgjpikbdeaaGreatDoorPTkkx25
import Derived.Test.YtjappgjpikbdeaaGreatDoorPTkkx32
import Derived.Test.YtjappgjpikbdeaaGreatDoorPTkkx33
namespace Go.Proofs.YtjappgjpikbdeaaGreatDoor.PTkk
open Go.RowKit Go.Proofs.YtjappgjpikbdeaaGreatDoorW.PrintWords Go.Proofs.YtjappgjpikbdeaaGreatDoorW.PrintLast Go.Proofs.YtjappgjpikbdeaaGreatDoorW.PrintMore
attribute [local go_sem] max2_int min2_int max_two min_two max_three min_three max_four min_four   -- for this text's walks alone
set_option linter.unusedVariables false
set_option linter.unusedSimpArgs false

/-! ### footbridgelaw23_awake: function 10 -/
-- @break
set_option maxHeartbeats 8000000 in
set_option maxRecDepth 100000 in
theorem tkaw_calls (w : World) : Calls Tryz.prog 10 #[] w fun e w' => e = .returned (.bool true) ∧ Below w.heap.size w w' := by
  obtain ⟨y1, hy1⟩ : ∃ y : List ByteArray, y = [(⟨#[99, 97, 116]⟩ : ByteArray)] := ⟨_, rfl⟩
  have hyl : y1.length ≤ 6 := by rw [hy1]; show 1 ≤ 6; omega
  have hys : ∀ s ∈ y1, s.size ≤ 600 := by
    rw [hy1]
    intro s hs
    obtain rfl := List.mem_singleton.1 hs
    decide
  obtain ⟨S1, S2, T⟩ := tk_aw
  rw [← hy1] at T
  obtain ⟨S0, hS0⟩ : ∃ z, begK y1 = z := ⟨_, rfl⟩
  rw [hS0] at T
  have AT := Aside0.mk hS0
  have k0 := T.k0.mono (show 10 ≤ 100000 by omega)
  have k1 := T.k1.mono (show 10 ≤ 100000 by omega)
  have k2 := T.k2.mono (show 10 ≤ 100000 by omega)
  have K0 := T.k0.mono (show 10 ≤ 1000000 by omega)
  have K1 := T.k1.mono (show 10 ≤ 1000000 by omega)
  have K2 := T.k2.mono (show 10 ≤ 1000000 by omega)
  have m1 := T.m1
  have m2 := T.m2
  have g1 := T.g1
  have n1 := T.n1
  have v1 := T.v1
  have g2 := T.g2
  have b1 := T.b1
  have b2 := T.b2
  have n0 := T.n0
  have m3 := T.m3
  have v2 := T.v2
  have Ny1 := Aside0.mk hy1
  have HB := Aside0.mk (Below.refl w.heap.size w)
  clear T hS0 hy1
  go_enter Tryz.func10, Tryz.ntmps10
  go_wp2_with (first | ((with_reducible refine gate_dst (N := 15) rfl ?_); (try (refine gate_guard (by rfl) ?_; dsimp only)); refine Kd.R_lit Kd.string _ 9 ?hg (N := 15) ?hd (xs := ([(⟨#[99, 97, 116]⟩ : ByteArray)] : List ByteArray)) (inner := [.string (⟨#[99, 97, 116]⟩ : ByteArray)]) (ok := fun _ => True) (okp := fun _ => True) ?hr ?hp (fun _ hk => hk) trivial (Below.refl _ _) (Nat.le_refl _) (by simp) ?_; (case hd => rfl); (case hg => rfl); (case hr => first | (go_simp; done) | (go_simp; rfl)); (case hp => exact (Reps.one (show Kd.M Kd.string _ _ _ (⟨#[99, 97, 116]⟩ : ByteArray) [.string (⟨#[99, 97, 116]⟩ : ByteArray)] from rfl) (Reps.none _ _))); intro vlit wy1 hlit hb hg_ hnew_; clear hg_ hnew_; rw [← Ny1.out] at hlit; obtain ⟨Ay1, cy1, el_⟩ := Kd.R_slice hlit; subst el_; have Ry1 := Aside0.mk hlit; clear hlit; have n_HB := Aside0.mk (below_step (by repeat (first | (with_reducible first | exact HB.out | apply below_alloc | apply pw_below_drewN | apply below_drew1) | exact HB.out)) hb); clear HB; have HB := n_HB; clear n_HB; clear hb))
  refine (tk_begin Ay1 cy1 y1 (Kd.R_reads' Ry1.out).2.2 (Kd.R_reads' Ry1.out).2.1 hyl hys).mono ?_
  rintro e w1 ⟨g, v, rfl, hj1, hb⟩
  have hn1 := HB.out.size
  have HB1 := Aside0.mk (HB.out.trans (hb.mono HB.out.size))
  rw [AT.out] at hj1
  obtain ⟨ok, hlt2, hm2, _⟩ := hj1
  have hokw : ∀ k, ok k → w.heap.size ≤ k := fun k hk => Nat.le_trans hn1 (hlt2 k hk).1
  have HJ := Aside0.mk (JS.start hm2 hb.size)
  have HK := Aside0.mk (JK.of_below (HB1.out : Below w.heap.size w w1))
  clear hm2 hlt2 hb HB Ry1 Ny1 hyl hys hn1 AT
  go_upto_region 3 with (first | ((with_reducible refine gate_dst (N := 3) rfl ?_); refine box_event ?hg (N := 3) ?hd (cs := #[.string (⟨#[]⟩ : ByteArray), .string (⟨#[]⟩ : ByteArray), .string (⟨#[]⟩ : ByteArray), .string (⟨#[]⟩ : ByteArray), .string (⟨#[]⟩ : ByteArray)]) (t := 23) ?hr ?_; (case hd => rfl); (case hg => rfl); (case hr => first | (go_simp; done) | (go_simp; rfl)); intro gbt hg wt hbox hb; have GKt := Aside0.mk ((by rw [hg]; exact JK.size (by first | exact HK.out | ((with_reducible repeat (first | apply JK.drewN | apply JK.drew | apply JK.alloc)); exact HK.out)) : w.heap.size ≤ gbt)); have GJt := Aside0.mk ((by rw [hg]; exact JS.size0 (base := wy1.heap.size) (ok := ok) (w0 := w1) (g := g) (cur := S0) (by first | exact HJ.out | ((with_reducible repeat (first | apply JS.drewN | apply JS.drew | apply JS.alloc)); exact HJ.out)) : w1.heap.size ≤ gbt)); have n_HK := Aside0.mk (HK.out.trans (JK.of_below hb)); have n_HJ := Aside0.mk (JS.below (base := wy1.heap.size) (ok := ok) (w0 := w1) (g := g) (cur := S0) (by first | exact HJ.out | ((with_reducible repeat (first | apply JS.drewN | apply JS.drew | apply JS.alloc)); exact HJ.out)) hb); clear HK HJ; have HK := n_HK; have HJ := n_HJ; clear n_HK n_HJ; have BKt := Aside0.mk hbox; clear hb hbox hg; have zt_0 : World.cell? _ ⟨gbt, 0, none⟩ = some (.string (⟨#[]⟩ : ByteArray)) := (blk_cell BKt.out 0).trans rfl; have ft_0 := blk_frozen BKt.out 0; have zt_1 : World.cell? _ ⟨gbt, 1, none⟩ = some (.string (⟨#[]⟩ : ByteArray)) := (blk_cell BKt.out 1).trans rfl; have ft_1 := blk_frozen BKt.out 1; have zt_2 : World.cell? _ ⟨gbt, 2, none⟩ = some (.string (⟨#[]⟩ : ByteArray)) := (blk_cell BKt.out 2).trans rfl; have ft_2 := blk_frozen BKt.out 2; have zt_3 : World.cell? _ ⟨gbt, 3, none⟩ = some (.string (⟨#[]⟩ : ByteArray)) := (blk_cell BKt.out 3).trans rfl; have ft_3 := blk_frozen BKt.out 3; have zt_4 : World.cell? _ ⟨gbt, 4, none⟩ = some (.string (⟨#[]⟩ : ByteArray)) := (blk_cell BKt.out 4).trans rfl; have ft_4 := blk_frozen BKt.out 4; have zt_0 : World.cell? _ ⟨gbt, 0, none⟩ = some (.string (⟨#[]⟩ : ByteArray)) := (blk_cell BKt.out 0).trans rfl; have ft_0 := blk_frozen BKt.out 0; have zt_1 : World.cell? _ ⟨gbt, 1, none⟩ = some (.string (⟨#[]⟩ : ByteArray)) := (blk_cell BKt.out 1).trans rfl; have ft_1 := blk_frozen BKt.out 1; have zt_2 : World.cell? _ ⟨gbt, 2, none⟩ = some (.string (⟨#[]⟩ : ByteArray)) := (blk_cell BKt.out 2).trans rfl; have ft_2 := blk_frozen BKt.out 2; have zt_3 : World.cell? _ ⟨gbt, 3, none⟩ = some (.string (⟨#[]⟩ : ByteArray)) := (blk_cell BKt.out 3).trans rfl; have ft_3 := blk_frozen BKt.out 3; have zt_4 : World.cell? _ ⟨gbt, 4, none⟩ = some (.string (⟨#[]⟩ : ByteArray)) := (blk_cell BKt.out 4).trans rfl; have ft_4 := blk_frozen BKt.out 4))
  refine start_ (n := 8) (S := fun w' => HeldC gbt #[.string (⟨#[99, 97, 116]⟩ : ByteArray), .string (⟨#[49]⟩ : ByteArray), .string (⟨#[117]⟩ : ByteArray), .string (⟨#[100]⟩ : ByteArray), .string (⟨#[97, 108]⟩ : ByteArray)] 23 w') (ds := []) #[false, false, false, false, false, false, false, false] (by kernel_rfl) rfl rfl (HeldC.of (by (with_reducible repeat (first | refine blk_drewN ?_ _ | refine blk_drew ?_ | refine blk_alloc ?_ _)); refine blk_put (cs := #[.string (⟨#[99, 97, 116]⟩ : ByteArray), .string (⟨#[49]⟩ : ByteArray), .string (⟨#[117]⟩ : ByteArray), .string (⟨#[100]⟩ : ByteArray), .string (⟨#[]⟩ : ByteArray)]) ?_ 4 _ rfl; (with_reducible repeat (first | refine blk_drewN ?_ _ | refine blk_drew ?_ | refine blk_alloc ?_ _)); refine blk_put (cs := #[.string (⟨#[99, 97, 116]⟩ : ByteArray), .string (⟨#[49]⟩ : ByteArray), .string (⟨#[117]⟩ : ByteArray), .string (⟨#[]⟩ : ByteArray), .string (⟨#[]⟩ : ByteArray)]) ?_ 3 _ rfl; (with_reducible repeat (first | refine blk_drewN ?_ _ | refine blk_drew ?_ | refine blk_alloc ?_ _)); refine blk_put (cs := #[.string (⟨#[99, 97, 116]⟩ : ByteArray), .string (⟨#[49]⟩ : ByteArray), .string (⟨#[]⟩ : ByteArray), .string (⟨#[]⟩ : ByteArray), .string (⟨#[]⟩ : ByteArray)]) ?_ 2 _ rfl; (with_reducible repeat (first | refine blk_drewN ?_ _ | refine blk_drew ?_ | refine blk_alloc ?_ _)); refine blk_put (cs := #[.string (⟨#[99, 97, 116]⟩ : ByteArray), .string (⟨#[]⟩ : ByteArray), .string (⟨#[]⟩ : ByteArray), .string (⟨#[]⟩ : ByteArray), .string (⟨#[]⟩ : ByteArray)]) ?_ 1 _ rfl; (with_reducible repeat (first | refine blk_drewN ?_ _ | refine blk_drew ?_ | refine blk_alloc ?_ _)); refine blk_put (cs := #[.string (⟨#[]⟩ : ByteArray), .string (⟨#[]⟩ : ByteArray), .string (⟨#[]⟩ : ByteArray), .string (⟨#[]⟩ : ByteArray), .string (⟨#[]⟩ : ByteArray)]) ?_ 0 _ rfl; (with_reducible repeat (first | refine blk_drewN ?_ _ | refine blk_drew ?_ | refine blk_alloc ?_ _)); exact BKt.out)) (fun hHeld => ?_)
  have n_HJ := at_world hHeld (F := fun Y => JS wy1.heap.size ok w1 g S0 Y) (by (with_reducible repeat (first | apply JS.drewN | apply JS.drew | apply JS.alloc)); refine JS.setb (q := 23) ?_ GJt.out (by (with_reducible repeat (first | refine blk_drewN ?_ _ | refine blk_drew ?_ | refine blk_alloc ?_ _)); refine blk_put (cs := #[.string (⟨#[99, 97, 116]⟩ : ByteArray), .string (⟨#[49]⟩ : ByteArray), .string (⟨#[117]⟩ : ByteArray), .string (⟨#[]⟩ : ByteArray), .string (⟨#[]⟩ : ByteArray)]) ?_ 3 _ rfl; (with_reducible repeat (first | refine blk_drewN ?_ _ | refine blk_drew ?_ | refine blk_alloc ?_ _)); refine blk_put (cs := #[.string (⟨#[99, 97, 116]⟩ : ByteArray), .string (⟨#[49]⟩ : ByteArray), .string (⟨#[]⟩ : ByteArray), .string (⟨#[]⟩ : ByteArray), .string (⟨#[]⟩ : ByteArray)]) ?_ 2 _ rfl; (with_reducible repeat (first | refine blk_drewN ?_ _ | refine blk_drew ?_ | refine blk_alloc ?_ _)); refine blk_put (cs := #[.string (⟨#[99, 97, 116]⟩ : ByteArray), .string (⟨#[]⟩ : ByteArray), .string (⟨#[]⟩ : ByteArray), .string (⟨#[]⟩ : ByteArray), .string (⟨#[]⟩ : ByteArray)]) ?_ 1 _ rfl; (with_reducible repeat (first | refine blk_drewN ?_ _ | refine blk_drew ?_ | refine blk_alloc ?_ _)); refine blk_put (cs := #[.string (⟨#[]⟩ : ByteArray), .string (⟨#[]⟩ : ByteArray), .string (⟨#[]⟩ : ByteArray), .string (⟨#[]⟩ : ByteArray), .string (⟨#[]⟩ : ByteArray)]) ?_ 0 _ rfl; (with_reducible repeat (first | refine blk_drewN ?_ _ | refine blk_drew ?_ | refine blk_alloc ?_ _)); exact BKt.out) _ (by decide); (with_reducible repeat (first | apply JS.drewN | apply JS.drew | apply JS.alloc)); refine JS.setb (q := 23) ?_ GJt.out (by (with_reducible repeat (first | refine blk_drewN ?_ _ | refine blk_drew ?_ | refine blk_alloc ?_ _)); refine blk_put (cs := #[.string (⟨#[99, 97, 116]⟩ : ByteArray), .string (⟨#[49]⟩ : ByteArray), .string (⟨#[]⟩ : ByteArray), .string (⟨#[]⟩ : ByteArray), .string (⟨#[]⟩ : ByteArray)]) ?_ 2 _ rfl; (with_reducible repeat (first | refine blk_drewN ?_ _ | refine blk_drew ?_ | refine blk_alloc ?_ _)); refine blk_put (cs := #[.string (⟨#[99, 97, 116]⟩ : ByteArray), .string (⟨#[]⟩ : ByteArray), .string (⟨#[]⟩ : ByteArray), .string (⟨#[]⟩ : ByteArray), .string (⟨#[]⟩ : ByteArray)]) ?_ 1 _ rfl; (with_reducible repeat (first | refine blk_drewN ?_ _ | refine blk_drew ?_ | refine blk_alloc ?_ _)); refine blk_put (cs := #[.string (⟨#[]⟩ : ByteArray), .string (⟨#[]⟩ : ByteArray), .string (⟨#[]⟩ : ByteArray), .string (⟨#[]⟩ : ByteArray), .string (⟨#[]⟩ : ByteArray)]) ?_ 0 _ rfl; (with_reducible repeat (first | refine blk_drewN ?_ _ | refine blk_drew ?_ | refine blk_alloc ?_ _)); exact BKt.out) _ (by decide); (with_reducible repeat (first | apply JS.drewN | apply JS.drew | apply JS.alloc)); refine JS.setb (q := 23) ?_ GJt.out (by (with_reducible repeat (first | refine blk_drewN ?_ _ | refine blk_drew ?_ | refine blk_alloc ?_ _)); refine blk_put (cs := #[.string (⟨#[99, 97, 116]⟩ : ByteArray), .string (⟨#[]⟩ : ByteArray), .string (⟨#[]⟩ : ByteArray), .string (⟨#[]⟩ : ByteArray), .string (⟨#[]⟩ : ByteArray)]) ?_ 1 _ rfl; (with_reducible repeat (first | refine blk_drewN ?_ _ | refine blk_drew ?_ | refine blk_alloc ?_ _)); refine blk_put (cs := #[.string (⟨#[]⟩ : ByteArray), .string (⟨#[]⟩ : ByteArray), .string (⟨#[]⟩ : ByteArray), .string (⟨#[]⟩ : ByteArray), .string (⟨#[]⟩ : ByteArray)]) ?_ 0 _ rfl; (with_reducible repeat (first | refine blk_drewN ?_ _ | refine blk_drew ?_ | refine blk_alloc ?_ _)); exact BKt.out) _ (by decide); (with_reducible repeat (first | apply JS.drewN | apply JS.drew | apply JS.alloc)); refine JS.setb (q := 23) ?_ GJt.out (by (with_reducible repeat (first | refine blk_drewN ?_ _ | refine blk_drew ?_ | refine blk_alloc ?_ _)); refine blk_put (cs := #[.string (⟨#[]⟩ : ByteArray), .string (⟨#[]⟩ : ByteArray), .string (⟨#[]⟩ : ByteArray), .string (⟨#[]⟩ : ByteArray), .string (⟨#[]⟩ : ByteArray)]) ?_ 0 _ rfl; (with_reducible repeat (first | refine blk_drewN ?_ _ | refine blk_drew ?_ | refine blk_alloc ?_ _)); exact BKt.out) _ (by decide); (with_reducible repeat (first | apply JS.drewN | apply JS.drew | apply JS.alloc)); refine JS.setb (q := 23) ?_ GJt.out (by first | exact BKt.out | ((with_reducible repeat (first | refine blk_drewN ?_ _ | refine blk_drew ?_ | refine blk_alloc ?_ _)); exact BKt.out)) _ (by decide); (with_reducible repeat (first | apply JS.drewN | apply JS.drew | apply JS.alloc)); exact HJ.out)
  have n_HK := at_world hHeld (F := fun Y => JK w Y) (by (with_reducible repeat (first | apply JK.drewN | apply JK.drew | apply JK.alloc)); refine JK.setb ?_ GKt.out _; (with_reducible repeat (first | apply JK.drewN | apply JK.drew | apply JK.alloc)); refine JK.setb ?_ GKt.out _; (with_reducible repeat (first | apply JK.drewN | apply JK.drew | apply JK.alloc)); refine JK.setb ?_ GKt.out _; (with_reducible repeat (first | apply JK.drewN | apply JK.drew | apply JK.alloc)); refine JK.setb ?_ GKt.out _; (with_reducible repeat (first | apply JK.drewN | apply JK.drew | apply JK.alloc)); refine JK.setb ?_ GKt.out _; (with_reducible repeat (first | apply JK.drewN | apply JK.drew | apply JK.alloc)); exact HK.out)
  have n_BKt := at_world hHeld (F := fun Y => Y.heap[gbt]? = some (.cells #[.string (⟨#[99, 97, 116]⟩ : ByteArray), .string (⟨#[49]⟩ : ByteArray), .string (⟨#[117]⟩ : ByteArray), .string (⟨#[100]⟩ : ByteArray), .string (⟨#[97, 108]⟩ : ByteArray)] 23 (0, 0))) (by (with_reducible repeat (first | refine blk_drewN ?_ _ | refine blk_drew ?_ | refine blk_alloc ?_ _)); refine blk_put (cs := #[.string (⟨#[99, 97, 116]⟩ : ByteArray), .string (⟨#[49]⟩ : ByteArray), .string (⟨#[117]⟩ : ByteArray), .string (⟨#[100]⟩ : ByteArray), .string (⟨#[]⟩ : ByteArray)]) ?_ 4 _ rfl; (with_reducible repeat (first | refine blk_drewN ?_ _ | refine blk_drew ?_ | refine blk_alloc ?_ _)); refine blk_put (cs := #[.string (⟨#[99, 97, 116]⟩ : ByteArray), .string (⟨#[49]⟩ : ByteArray), .string (⟨#[117]⟩ : ByteArray), .string (⟨#[]⟩ : ByteArray), .string (⟨#[]⟩ : ByteArray)]) ?_ 3 _ rfl; (with_reducible repeat (first | refine blk_drewN ?_ _ | refine blk_drew ?_ | refine blk_alloc ?_ _)); refine blk_put (cs := #[.string (⟨#[99, 97, 116]⟩ : ByteArray), .string (⟨#[49]⟩ : ByteArray), .string (⟨#[]⟩ : ByteArray), .string (⟨#[]⟩ : ByteArray), .string (⟨#[]⟩ : ByteArray)]) ?_ 2 _ rfl; (with_reducible repeat (first | refine blk_drewN ?_ _ | refine blk_drew ?_ | refine blk_alloc ?_ _)); refine blk_put (cs := #[.string (⟨#[99, 97, 116]⟩ : ByteArray), .string (⟨#[]⟩ : ByteArray), .string (⟨#[]⟩ : ByteArray), .string (⟨#[]⟩ : ByteArray), .string (⟨#[]⟩ : ByteArray)]) ?_ 1 _ rfl; (with_reducible repeat (first | refine blk_drewN ?_ _ | refine blk_drew ?_ | refine blk_alloc ?_ _)); refine blk_put (cs := #[.string (⟨#[]⟩ : ByteArray), .string (⟨#[]⟩ : ByteArray), .string (⟨#[]⟩ : ByteArray), .string (⟨#[]⟩ : ByteArray), .string (⟨#[]⟩ : ByteArray)]) ?_ 0 _ rfl; (with_reducible repeat (first | refine blk_drewN ?_ _ | refine blk_drew ?_ | refine blk_alloc ?_ _)); exact BKt.out)
  clear HJ HK BKt
  have HJ := n_HJ
  have HK := n_HK
  have BKt := n_BKt
  clear n_HJ n_HK n_BKt
  refine pure_ (i := 0) (N := some 20) (v := ?_) (a' := ?_) #[true, false, false, false, false, false, false, false] rfl rfl (by kernel_rfl) (fun _ _ _ h => h) (Or.inl ⟨by rfl, ?_⟩) ?_ ?_
  rotate_left
  · intro w'
    go_simp
    with_reducible rfl
  rotate_left
  · simp only [Act.put, List.setIfInBounds_toArray, List.set_cons_zero, List.set_cons_succ, i64_w, i32_w]
    rfl
  refine take_ (i := 1) (N := some 21) (v := ?_) (a' := ?_) #[true, true, false, false, false, false, false, false] rfl rfl (by kernel_rfl) (fun _ _ _ h => h) (Or.inl ⟨by rfl, ?_⟩) hHeld ?_ ?_
  rotate_left
  · rintro w' s0
    have t0_0 : w'.cell? ⟨gbt, 0, none⟩ = some (.string (⟨#[99, 97, 116]⟩ : ByteArray)) := (blk_cell (HeldC.blk s0) 0).trans rfl
    have t0_1 : w'.cell? ⟨gbt, 1, none⟩ = some (.string (⟨#[49]⟩ : ByteArray)) := (blk_cell (HeldC.blk s0) 1).trans rfl
    have t0_2 : w'.cell? ⟨gbt, 2, none⟩ = some (.string (⟨#[117]⟩ : ByteArray)) := (blk_cell (HeldC.blk s0) 2).trans rfl
    have t0_3 : w'.cell? ⟨gbt, 3, none⟩ = some (.string (⟨#[100]⟩ : ByteArray)) := (blk_cell (HeldC.blk s0) 3).trans rfl
    have t0_4 : w'.cell? ⟨gbt, 4, none⟩ = some (.string (⟨#[97, 108]⟩ : ByteArray)) := (blk_cell (HeldC.blk s0) 4).trans rfl
    go_simp
    with_reducible rfl
  rotate_left
  · simp only [Act.put, List.setIfInBounds_toArray, List.set_cons_zero, List.set_cons_succ, i64_w, i32_w]
    rfl
  refine pure_ (i := 3) (N := some 23) (v := ?_) (a' := ?_) #[true, true, false, true, false, false, false, false] rfl rfl (by kernel_rfl) (fun _ _ _ h => h) (Or.inl ⟨by rfl, ?_⟩) ?_ ?_
  rotate_left
  · intro w'
    go_simp
    with_reducible rfl
  rotate_left
  · simp only [Act.put, List.setIfInBounds_toArray, List.set_cons_zero, List.set_cons_succ, i64_w, i32_w]
    rfl
  refine take_ (i := 4) (N := some 24) (v := ?_) (a' := ?_) #[true, true, false, true, true, false, false, false] rfl rfl (by kernel_rfl) (fun _ _ _ h => h) (Or.inl ⟨by rfl, ?_⟩) hHeld ?_ ?_
  rotate_left
  · rintro w' s0
    have t0_0 : w'.cell? ⟨gbt, 0, none⟩ = some (.string (⟨#[99, 97, 116]⟩ : ByteArray)) := (blk_cell (HeldC.blk s0) 0).trans rfl
    have t0_1 : w'.cell? ⟨gbt, 1, none⟩ = some (.string (⟨#[49]⟩ : ByteArray)) := (blk_cell (HeldC.blk s0) 1).trans rfl
    have t0_2 : w'.cell? ⟨gbt, 2, none⟩ = some (.string (⟨#[117]⟩ : ByteArray)) := (blk_cell (HeldC.blk s0) 2).trans rfl
    have t0_3 : w'.cell? ⟨gbt, 3, none⟩ = some (.string (⟨#[100]⟩ : ByteArray)) := (blk_cell (HeldC.blk s0) 3).trans rfl
    have t0_4 : w'.cell? ⟨gbt, 4, none⟩ = some (.string (⟨#[97, 108]⟩ : ByteArray)) := (blk_cell (HeldC.blk s0) 4).trans rfl
    go_simp
    with_reducible rfl
  rotate_left
  · simp only [Act.put, List.setIfInBounds_toArray, List.set_cons_zero, List.set_cons_succ, i64_w, i32_w]
    rfl
  refine one_ (i := 2) (N := some 22) #[true, true, true, true, true, false, false, false] rfl rfl (by kernel_rfl) (by decide) (fun K hK => ?_)
  refine goes_ Tryz.func7 (by kernel_rfl) rfl #[.pointer (some ⟨g, 0, none⟩), .agg #[.string (⟨#[99, 97, 116]⟩ : ByteArray), .string (⟨#[49]⟩ : ByteArray), .string (⟨#[117]⟩ : ByteArray), .string (⟨#[100]⟩ : ByteArray), .string (⟨#[97, 108]⟩ : ByteArray)]] (by rfl) rfl rfl (by (try simp only [List.map_toArray, List.map_cons, List.map_nil]); first | done | rfl) ?_
  refine (tk_mint (⟨#[99, 97, 116]⟩ : ByteArray) (⟨#[49]⟩ : ByteArray) (⟨#[117]⟩ : ByteArray) (⟨#[100]⟩ : ByteArray) (⟨#[97, 108]⟩ : ByteArray) 0 S1 HJ.out k0 (by decide) (by decide) (by decide) (by decide) (by decide) m1.1 m1.2).mono ?_
  rintro e w2 ⟨rfl, hj, hk⟩
  refine ⟨_, rfl, ?_⟩
  have n_HK := Aside0.mk (HK.out.trans hk)
  have n_HJ := Aside0.mk (hj)
  have n_BKt := Aside0.mk (JK.blk (b := gbt) (c := #[.string (⟨#[99, 97, 116]⟩ : ByteArray), .string (⟨#[49]⟩ : ByteArray), .string (⟨#[117]⟩ : ByteArray), .string (⟨#[100]⟩ : ByteArray), .string (⟨#[97, 108]⟩ : ByteArray)]) (q := 23) (x := (0, 0)) hk (by first | exact BKt.out | ((with_reducible repeat (first | refine blk_drewN ?_ _ | refine blk_drew ?_ | refine blk_alloc ?_ _)); exact BKt.out)) (by decide))
  clear HK HJ BKt
  have HK := n_HK
  have HJ := n_HJ
  have BKt := n_BKt
  clear n_HK n_HJ n_BKt
  clear hj hk
  refine hK.out _ _ (HeldC.of BKt.out) (fun hHeld => ?_)
  clear hK K
  refine norm_ (a' := ?_) ?_ ?_
  rotate_left
  · show Act.put _ (some 22) _ = _
    simp only [Act.put, List.setIfInBounds_toArray, List.set_cons_zero, List.set_cons_succ, i64_w, i32_w]
    rfl
  refine one_ (i := 5) (N := some 25) #[true, true, true, true, true, true, false, false] rfl rfl (by kernel_rfl) (by decide) (fun K hK => ?_)
  refine goes_ Tryz.func7 (by kernel_rfl) rfl #[.pointer (some ⟨g, 0, none⟩), .agg #[.string (⟨#[99, 97, 116]⟩ : ByteArray), .string (⟨#[49]⟩ : ByteArray), .string (⟨#[117]⟩ : ByteArray), .string (⟨#[100]⟩ : ByteArray), .string (⟨#[97, 108]⟩ : ByteArray)]] (by rfl) rfl rfl (by (try simp only [List.map_toArray, List.map_cons, List.map_nil]); first | done | rfl) ?_
  refine (tk_mint (⟨#[99, 97, 116]⟩ : ByteArray) (⟨#[49]⟩ : ByteArray) (⟨#[117]⟩ : ByteArray) (⟨#[100]⟩ : ByteArray) (⟨#[97, 108]⟩ : ByteArray) 9 S1 HJ.out k1 (by decide) (by decide) (by decide) (by decide) (by decide) m2.1 m2.2).mono ?_
  rintro e w3 ⟨rfl, hj, hk⟩
  refine ⟨_, rfl, ?_⟩
  have n_HK := Aside0.mk (HK.out.trans hk)
  have n_HJ := Aside0.mk (hj)
  have n_BKt := Aside0.mk (JK.blk (b := gbt) (c := #[.string (⟨#[99, 97, 116]⟩ : ByteArray), .string (⟨#[49]⟩ : ByteArray), .string (⟨#[117]⟩ : ByteArray), .string (⟨#[100]⟩ : ByteArray), .string (⟨#[97, 108]⟩ : ByteArray)]) (q := 23) (x := (0, 0)) hk (by first | exact BKt.out | ((with_reducible repeat (first | refine blk_drewN ?_ _ | refine blk_drew ?_ | refine blk_alloc ?_ _)); exact BKt.out)) (by decide))
  clear HK HJ BKt
  have HK := n_HK
  have HJ := n_HJ
  have BKt := n_BKt
  clear n_HK n_HJ n_BKt
  clear hj hk
  refine hK.out _ _ (HeldC.of BKt.out) (fun hHeld => ?_)
  clear hK K
  refine norm_ (a' := ?_) ?_ ?_
  rotate_left
  · show Act.put _ (some 25) _ = _
    simp only [Act.put, List.setIfInBounds_toArray, List.set_cons_zero, List.set_cons_succ, i64_w, i32_w]
    rfl
  refine pure_ (i := 6) (N := some 4) (v := ?_) (a' := ?_) #[true, true, true, true, true, true, true, false] rfl rfl (by kernel_rfl) (fun _ _ _ h => h) (Or.inl ⟨by rfl, ?_⟩) ?_ ?_
  rotate_left
  · intro w'
    go_simp
    with_reducible rfl
  rotate_left
  · simp only [Act.put, List.setIfInBounds_toArray, List.set_cons_zero, List.set_cons_succ, i64_w, i32_w]
    rfl
  refine pure_ (i := 7) (N := some 5) (v := ?_) (a' := ?_) #[true, true, true, true, true, true, true, true] rfl rfl (by kernel_rfl) (fun _ _ _ h => h) (Or.inl ⟨by rfl, ?_⟩) ?_ ?_
  rotate_left
  · intro w'
    go_simp
    with_reducible rfl
  rotate_left
  · simp only [Act.put, List.setIfInBounds_toArray, List.set_cons_zero, List.set_cons_succ, i64_w, i32_w]
    rfl
  refine done_ (by kernel_rfl) ?_
  clear hHeld
  have zt_0 : World.cell? _ ⟨gbt, 0, none⟩ = some (.string (⟨#[99, 97, 116]⟩ : ByteArray)) := (blk_cell BKt.out 0).trans rfl
  have ft_0 := blk_frozen BKt.out 0
  have zt_1 : World.cell? _ ⟨gbt, 1, none⟩ = some (.string (⟨#[49]⟩ : ByteArray)) := (blk_cell BKt.out 1).trans rfl
  have ft_1 := blk_frozen BKt.out 1
  have zt_2 : World.cell? _ ⟨gbt, 2, none⟩ = some (.string (⟨#[117]⟩ : ByteArray)) := (blk_cell BKt.out 2).trans rfl
  have ft_2 := blk_frozen BKt.out 2
  have zt_3 : World.cell? _ ⟨gbt, 3, none⟩ = some (.string (⟨#[100]⟩ : ByteArray)) := (blk_cell BKt.out 3).trans rfl
  have ft_3 := blk_frozen BKt.out 3
  have zt_4 : World.cell? _ ⟨gbt, 4, none⟩ = some (.string (⟨#[97, 108]⟩ : ByteArray)) := (blk_cell BKt.out 4).trans rfl
  have ft_4 := blk_frozen BKt.out 4
  go_wp2_with fail
  refine (tk_get (⟨#[99, 97, 116]⟩ : ByteArray) (⟨#[49]⟩ : ByteArray) (⟨#[99, 97, 116]⟩ : ByteArray) (⟨#[49]⟩ : ByteArray) (⟨#[117]⟩ : ByteArray) (⟨#[100]⟩ : ByteArray) (⟨#[97, 108]⟩ : ByteArray) 0 HJ.out K1 (by decide) (by decide) g1).mono ?_
  rintro e w4 ⟨rfl, hb⟩
  have n_HK := Aside0.mk (HK.out.trans (JK.of_below hb))
  have n_HJ := Aside0.mk (JS.below (base := wy1.heap.size) (ok := ok) (w0 := w1) (g := g) (cur := S1) (by first | exact HJ.out | ((with_reducible repeat (first | apply JS.drewN | apply JS.drew | apply JS.alloc)); exact HJ.out)) hb)
  have n_BKt := Aside0.mk (blk_below (g := gbt) (o := .cells #[.string (⟨#[99, 97, 116]⟩ : ByteArray), .string (⟨#[49]⟩ : ByteArray), .string (⟨#[117]⟩ : ByteArray), .string (⟨#[100]⟩ : ByteArray), .string (⟨#[97, 108]⟩ : ByteArray)] 23 (0, 0)) (by first | exact BKt.out | ((with_reducible repeat (first | refine blk_drewN ?_ _ | refine blk_drew ?_ | refine blk_alloc ?_ _)); exact BKt.out)) hb)
  clear HK HJ BKt
  have HK := n_HK
  have HJ := n_HJ
  have BKt := n_BKt
  clear n_HK n_HJ n_BKt
  clear hb
  go_wp2_with (first | ((with_reducible refine gate_dst (N := 6) rfl ?_); refine box_event ?hg (N := 6) ?hd (cs := #[.string (⟨#[]⟩ : ByteArray), .string (⟨#[]⟩ : ByteArray), .string (⟨#[]⟩ : ByteArray), .string (⟨#[]⟩ : ByteArray), .string (⟨#[]⟩ : ByteArray)]) (t := 23) ?hr ?_; (case hd => rfl); (case hg => rfl); (case hr => first | (go_simp; done) | (go_simp; rfl)); intro gbx hg wx hbox hb; have GKx := Aside0.mk ((by rw [hg]; exact JK.size (by first | exact HK.out | ((with_reducible repeat (first | apply JK.drewN | apply JK.drew | apply JK.alloc)); exact HK.out)) : w.heap.size ≤ gbx)); have GJx := Aside0.mk ((by rw [hg]; exact JS.size0 (base := wy1.heap.size) (ok := ok) (w0 := w1) (g := g) (cur := S1) (by first | exact HJ.out | ((with_reducible repeat (first | apply JS.drewN | apply JS.drew | apply JS.alloc)); exact HJ.out)) : w1.heap.size ≤ gbx)); have NBt_x := Aside0.mk ((by rw [hg]; exact Nat.ne_of_lt (blk_lt (g := gbt) (o := .cells #[.string (⟨#[99, 97, 116]⟩ : ByteArray), .string (⟨#[49]⟩ : ByteArray), .string (⟨#[117]⟩ : ByteArray), .string (⟨#[100]⟩ : ByteArray), .string (⟨#[97, 108]⟩ : ByteArray)] 23 (0, 0)) (by first | exact BKt.out | ((with_reducible repeat (first | refine blk_drewN ?_ _ | refine blk_drew ?_ | refine blk_alloc ?_ _)); exact BKt.out))) : gbt ≠ gbx)); have NBx_t := Aside0.mk ((by rw [hg]; exact Nat.ne_of_gt (blk_lt (g := gbt) (o := .cells #[.string (⟨#[99, 97, 116]⟩ : ByteArray), .string (⟨#[49]⟩ : ByteArray), .string (⟨#[117]⟩ : ByteArray), .string (⟨#[100]⟩ : ByteArray), .string (⟨#[97, 108]⟩ : ByteArray)] 23 (0, 0)) (by first | exact BKt.out | ((with_reducible repeat (first | refine blk_drewN ?_ _ | refine blk_drew ?_ | refine blk_alloc ?_ _)); exact BKt.out))) : gbx ≠ gbt)); have n_HK := Aside0.mk (HK.out.trans (JK.of_below hb)); have n_HJ := Aside0.mk (JS.below (base := wy1.heap.size) (ok := ok) (w0 := w1) (g := g) (cur := S1) (by first | exact HJ.out | ((with_reducible repeat (first | apply JS.drewN | apply JS.drew | apply JS.alloc)); exact HJ.out)) hb); have n_BKt := Aside0.mk (blk_below (g := gbt) (o := .cells #[.string (⟨#[99, 97, 116]⟩ : ByteArray), .string (⟨#[49]⟩ : ByteArray), .string (⟨#[117]⟩ : ByteArray), .string (⟨#[100]⟩ : ByteArray), .string (⟨#[97, 108]⟩ : ByteArray)] 23 (0, 0)) (by first | exact BKt.out | ((with_reducible repeat (first | refine blk_drewN ?_ _ | refine blk_drew ?_ | refine blk_alloc ?_ _)); exact BKt.out)) hb); clear HK HJ BKt; have HK := n_HK; have HJ := n_HJ; have BKt := n_BKt; clear n_HK n_HJ n_BKt; have BKx := Aside0.mk hbox; clear hb hbox hg; have zx_0 : World.cell? _ ⟨gbx, 0, none⟩ = some (.string (⟨#[]⟩ : ByteArray)) := (blk_cell BKx.out 0).trans rfl; have fx_0 := blk_frozen BKx.out 0; have zx_1 : World.cell? _ ⟨gbx, 1, none⟩ = some (.string (⟨#[]⟩ : ByteArray)) := (blk_cell BKx.out 1).trans rfl; have fx_1 := blk_frozen BKx.out 1; have zx_2 : World.cell? _ ⟨gbx, 2, none⟩ = some (.string (⟨#[]⟩ : ByteArray)) := (blk_cell BKx.out 2).trans rfl; have fx_2 := blk_frozen BKx.out 2; have zx_3 : World.cell? _ ⟨gbx, 3, none⟩ = some (.string (⟨#[]⟩ : ByteArray)) := (blk_cell BKx.out 3).trans rfl; have fx_3 := blk_frozen BKx.out 3; have zx_4 : World.cell? _ ⟨gbx, 4, none⟩ = some (.string (⟨#[]⟩ : ByteArray)) := (blk_cell BKx.out 4).trans rfl; have fx_4 := blk_frozen BKx.out 4; have hnxt := NBx_t.out; have hmxt := NBt_x.out; have zx_0 : World.cell? _ ⟨gbx, 0, none⟩ = some (.string (⟨#[]⟩ : ByteArray)) := (blk_cell BKx.out 0).trans rfl; have fx_0 := blk_frozen BKx.out 0; have zx_1 : World.cell? _ ⟨gbx, 1, none⟩ = some (.string (⟨#[]⟩ : ByteArray)) := (blk_cell BKx.out 1).trans rfl; have fx_1 := blk_frozen BKx.out 1; have zx_2 : World.cell? _ ⟨gbx, 2, none⟩ = some (.string (⟨#[]⟩ : ByteArray)) := (blk_cell BKx.out 2).trans rfl; have fx_2 := blk_frozen BKx.out 2; have zx_3 : World.cell? _ ⟨gbx, 3, none⟩ = some (.string (⟨#[]⟩ : ByteArray)) := (blk_cell BKx.out 3).trans rfl; have fx_3 := blk_frozen BKx.out 3; have zx_4 : World.cell? _ ⟨gbx, 4, none⟩ = some (.string (⟨#[]⟩ : ByteArray)) := (blk_cell BKx.out 4).trans rfl; have fx_4 := blk_frozen BKx.out 4; have hnxt := NBx_t.out; have hmxt := NBt_x.out; have zt_0 : World.cell? _ ⟨gbt, 0, none⟩ = some (.string (⟨#[99, 97, 116]⟩ : ByteArray)) := (blk_cell BKt.out 0).trans rfl; have ft_0 := blk_frozen BKt.out 0; have zt_1 : World.cell? _ ⟨gbt, 1, none⟩ = some (.string (⟨#[49]⟩ : ByteArray)) := (blk_cell BKt.out 1).trans rfl; have ft_1 := blk_frozen BKt.out 1; have zt_2 : World.cell? _ ⟨gbt, 2, none⟩ = some (.string (⟨#[117]⟩ : ByteArray)) := (blk_cell BKt.out 2).trans rfl; have ft_2 := blk_frozen BKt.out 2; have zt_3 : World.cell? _ ⟨gbt, 3, none⟩ = some (.string (⟨#[100]⟩ : ByteArray)) := (blk_cell BKt.out 3).trans rfl; have ft_3 := blk_frozen BKt.out 3; have zt_4 : World.cell? _ ⟨gbt, 4, none⟩ = some (.string (⟨#[97, 108]⟩ : ByteArray)) := (blk_cell BKt.out 4).trans rfl; have ft_4 := blk_frozen BKt.out 4; have hntx := NBt_x.out; have hmtx := NBx_t.out))
  refine (tk_supply (base := wy1.heap.size) (ok := ok) (w0 := w1) (g := g) (cur := S1) (⟨#[99, 97, 116]⟩ : ByteArray) 1 (by (with_reducible repeat (first | apply JS.drewN | apply JS.drew | apply JS.alloc)); refine JS.setb (q := 23) ?_ GJx.out (by (with_reducible repeat (first | refine blk_drewN ?_ _ | refine blk_drew ?_ | refine blk_alloc ?_ _)); refine blk_put (cs := #[.string (⟨#[99, 97, 116]⟩ : ByteArray), .string (⟨#[49]⟩ : ByteArray), .string (⟨#[117]⟩ : ByteArray), .string (⟨#[]⟩ : ByteArray), .string (⟨#[]⟩ : ByteArray)]) ?_ 3 _ rfl; (with_reducible repeat (first | refine blk_drewN ?_ _ | refine blk_drew ?_ | refine blk_alloc ?_ _)); refine blk_put (cs := #[.string (⟨#[99, 97, 116]⟩ : ByteArray), .string (⟨#[49]⟩ : ByteArray), .string (⟨#[]⟩ : ByteArray), .string (⟨#[]⟩ : ByteArray), .string (⟨#[]⟩ : ByteArray)]) ?_ 2 _ rfl; (with_reducible repeat (first | refine blk_drewN ?_ _ | refine blk_drew ?_ | refine blk_alloc ?_ _)); refine blk_put (cs := #[.string (⟨#[99, 97, 116]⟩ : ByteArray), .string (⟨#[]⟩ : ByteArray), .string (⟨#[]⟩ : ByteArray), .string (⟨#[]⟩ : ByteArray), .string (⟨#[]⟩ : ByteArray)]) ?_ 1 _ rfl; (with_reducible repeat (first | refine blk_drewN ?_ _ | refine blk_drew ?_ | refine blk_alloc ?_ _)); refine blk_put (cs := #[.string (⟨#[]⟩ : ByteArray), .string (⟨#[]⟩ : ByteArray), .string (⟨#[]⟩ : ByteArray), .string (⟨#[]⟩ : ByteArray), .string (⟨#[]⟩ : ByteArray)]) ?_ 0 _ rfl; (with_reducible repeat (first | refine blk_drewN ?_ _ | refine blk_drew ?_ | refine blk_alloc ?_ _)); exact BKx.out) _ (by decide); (with_reducible repeat (first | apply JS.drewN | apply JS.drew | apply JS.alloc)); refine JS.setb (q := 23) ?_ GJx.out (by (with_reducible repeat (first | refine blk_drewN ?_ _ | refine blk_drew ?_ | refine blk_alloc ?_ _)); refine blk_put (cs := #[.string (⟨#[99, 97, 116]⟩ : ByteArray), .string (⟨#[49]⟩ : ByteArray), .string (⟨#[]⟩ : ByteArray), .string (⟨#[]⟩ : ByteArray), .string (⟨#[]⟩ : ByteArray)]) ?_ 2 _ rfl; (with_reducible repeat (first | refine blk_drewN ?_ _ | refine blk_drew ?_ | refine blk_alloc ?_ _)); refine blk_put (cs := #[.string (⟨#[99, 97, 116]⟩ : ByteArray), .string (⟨#[]⟩ : ByteArray), .string (⟨#[]⟩ : ByteArray), .string (⟨#[]⟩ : ByteArray), .string (⟨#[]⟩ : ByteArray)]) ?_ 1 _ rfl; (with_reducible repeat (first | refine blk_drewN ?_ _ | refine blk_drew ?_ | refine blk_alloc ?_ _)); refine blk_put (cs := #[.string (⟨#[]⟩ : ByteArray), .string (⟨#[]⟩ : ByteArray), .string (⟨#[]⟩ : ByteArray), .string (⟨#[]⟩ : ByteArray), .string (⟨#[]⟩ : ByteArray)]) ?_ 0 _ rfl; (with_reducible repeat (first | refine blk_drewN ?_ _ | refine blk_drew ?_ | refine blk_alloc ?_ _)); exact BKx.out) _ (by decide); (with_reducible repeat (first | apply JS.drewN | apply JS.drew | apply JS.alloc)); refine JS.setb (q := 23) ?_ GJx.out (by (with_reducible repeat (first | refine blk_drewN ?_ _ | refine blk_drew ?_ | refine blk_alloc ?_ _)); refine blk_put (cs := #[.string (⟨#[99, 97, 116]⟩ : ByteArray), .string (⟨#[]⟩ : ByteArray), .string (⟨#[]⟩ : ByteArray), .string (⟨#[]⟩ : ByteArray), .string (⟨#[]⟩ : ByteArray)]) ?_ 1 _ rfl; (with_reducible repeat (first | refine blk_drewN ?_ _ | refine blk_drew ?_ | refine blk_alloc ?_ _)); refine blk_put (cs := #[.string (⟨#[]⟩ : ByteArray), .string (⟨#[]⟩ : ByteArray), .string (⟨#[]⟩ : ByteArray), .string (⟨#[]⟩ : ByteArray), .string (⟨#[]⟩ : ByteArray)]) ?_ 0 _ rfl; (with_reducible repeat (first | refine blk_drewN ?_ _ | refine blk_drew ?_ | refine blk_alloc ?_ _)); exact BKx.out) _ (by decide); (with_reducible repeat (first | apply JS.drewN | apply JS.drew | apply JS.alloc)); refine JS.setb (q := 23) ?_ GJx.out (by (with_reducible repeat (first | refine blk_drewN ?_ _ | refine blk_drew ?_ | refine blk_alloc ?_ _)); refine blk_put (cs := #[.string (⟨#[]⟩ : ByteArray), .string (⟨#[]⟩ : ByteArray), .string (⟨#[]⟩ : ByteArray), .string (⟨#[]⟩ : ByteArray), .string (⟨#[]⟩ : ByteArray)]) ?_ 0 _ rfl; (with_reducible repeat (first | refine blk_drewN ?_ _ | refine blk_drew ?_ | refine blk_alloc ?_ _)); exact BKx.out) _ (by decide); (with_reducible repeat (first | apply JS.drewN | apply JS.drew | apply JS.alloc)); refine JS.setb (q := 23) ?_ GJx.out (by first | exact BKx.out | ((with_reducible repeat (first | refine blk_drewN ?_ _ | refine blk_drew ?_ | refine blk_alloc ?_ _)); exact BKx.out)) _ (by decide); (with_reducible repeat (first | apply JS.drewN | apply JS.drew | apply JS.alloc)); exact HJ.out) K1 (by decide) n1).mono ?_
  rintro e w5 ⟨rfl, hb⟩
  have n_HK := Aside0.mk ((by (with_reducible repeat (first | apply JK.drewN | apply JK.drew | apply JK.alloc)); refine JK.setb ?_ GKx.out _; (with_reducible repeat (first | apply JK.drewN | apply JK.drew | apply JK.alloc)); refine JK.setb ?_ GKx.out _; (with_reducible repeat (first | apply JK.drewN | apply JK.drew | apply JK.alloc)); refine JK.setb ?_ GKx.out _; (with_reducible repeat (first | apply JK.drewN | apply JK.drew | apply JK.alloc)); refine JK.setb ?_ GKx.out _; (with_reducible repeat (first | apply JK.drewN | apply JK.drew | apply JK.alloc)); refine JK.setb ?_ GKx.out _; (with_reducible repeat (first | apply JK.drewN | apply JK.drew | apply JK.alloc)); exact HK.out : JK _ _).trans (JK.of_below hb))
  have n_HJ := Aside0.mk (JS.below (base := wy1.heap.size) (ok := ok) (w0 := w1) (g := g) (cur := S1) (by (with_reducible repeat (first | apply JS.drewN | apply JS.drew | apply JS.alloc)); refine JS.setb (q := 23) ?_ GJx.out (by (with_reducible repeat (first | refine blk_drewN ?_ _ | refine blk_drew ?_ | refine blk_alloc ?_ _)); refine blk_put (cs := #[.string (⟨#[99, 97, 116]⟩ : ByteArray), .string (⟨#[49]⟩ : ByteArray), .string (⟨#[117]⟩ : ByteArray), .string (⟨#[]⟩ : ByteArray), .string (⟨#[]⟩ : ByteArray)]) ?_ 3 _ rfl; (with_reducible repeat (first | refine blk_drewN ?_ _ | refine blk_drew ?_ | refine blk_alloc ?_ _)); refine blk_put (cs := #[.string (⟨#[99, 97, 116]⟩ : ByteArray), .string (⟨#[49]⟩ : ByteArray), .string (⟨#[]⟩ : ByteArray), .string (⟨#[]⟩ : ByteArray), .string (⟨#[]⟩ : ByteArray)]) ?_ 2 _ rfl; (with_reducible repeat (first | refine blk_drewN ?_ _ | refine blk_drew ?_ | refine blk_alloc ?_ _)); refine blk_put (cs := #[.string (⟨#[99, 97, 116]⟩ : ByteArray), .string (⟨#[]⟩ : ByteArray), .string (⟨#[]⟩ : ByteArray), .string (⟨#[]⟩ : ByteArray), .string (⟨#[]⟩ : ByteArray)]) ?_ 1 _ rfl; (with_reducible repeat (first | refine blk_drewN ?_ _ | refine blk_drew ?_ | refine blk_alloc ?_ _)); refine blk_put (cs := #[.string (⟨#[]⟩ : ByteArray), .string (⟨#[]⟩ : ByteArray), .string (⟨#[]⟩ : ByteArray), .string (⟨#[]⟩ : ByteArray), .string (⟨#[]⟩ : ByteArray)]) ?_ 0 _ rfl; (with_reducible repeat (first | refine blk_drewN ?_ _ | refine blk_drew ?_ | refine blk_alloc ?_ _)); exact BKx.out) _ (by decide); (with_reducible repeat (first | apply JS.drewN | apply JS.drew | apply JS.alloc)); refine JS.setb (q := 23) ?_ GJx.out (by (with_reducible repeat (first | refine blk_drewN ?_ _ | refine blk_drew ?_ | refine blk_alloc ?_ _)); refine blk_put (cs := #[.string (⟨#[99, 97, 116]⟩ : ByteArray), .string (⟨#[49]⟩ : ByteArray), .string (⟨#[]⟩ : ByteArray), .string (⟨#[]⟩ : ByteArray), .string (⟨#[]⟩ : ByteArray)]) ?_ 2 _ rfl; (with_reducible repeat (first | refine blk_drewN ?_ _ | refine blk_drew ?_ | refine blk_alloc ?_ _)); refine blk_put (cs := #[.string (⟨#[99, 97, 116]⟩ : ByteArray), .string (⟨#[]⟩ : ByteArray), .string (⟨#[]⟩ : ByteArray), .string (⟨#[]⟩ : ByteArray), .string (⟨#[]⟩ : ByteArray)]) ?_ 1 _ rfl; (with_reducible repeat (first | refine blk_drewN ?_ _ | refine blk_drew ?_ | refine blk_alloc ?_ _)); refine blk_put (cs := #[.string (⟨#[]⟩ : ByteArray), .string (⟨#[]⟩ : ByteArray), .string (⟨#[]⟩ : ByteArray), .string (⟨#[]⟩ : ByteArray), .string (⟨#[]⟩ : ByteArray)]) ?_ 0 _ rfl; (with_reducible repeat (first | refine blk_drewN ?_ _ | refine blk_drew ?_ | refine blk_alloc ?_ _)); exact BKx.out) _ (by decide); (with_reducible repeat (first | apply JS.drewN | apply JS.drew | apply JS.alloc)); refine JS.setb (q := 23) ?_ GJx.out (by (with_reducible repeat (first | refine blk_drewN ?_ _ | refine blk_drew ?_ | refine blk_alloc ?_ _)); refine blk_put (cs := #[.string (⟨#[99, 97, 116]⟩ : ByteArray), .string (⟨#[]⟩ : ByteArray), .string (⟨#[]⟩ : ByteArray), .string (⟨#[]⟩ : ByteArray), .string (⟨#[]⟩ : ByteArray)]) ?_ 1 _ rfl; (with_reducible repeat (first | refine blk_drewN ?_ _ | refine blk_drew ?_ | refine blk_alloc ?_ _)); refine blk_put (cs := #[.string (⟨#[]⟩ : ByteArray), .string (⟨#[]⟩ : ByteArray), .string (⟨#[]⟩ : ByteArray), .string (⟨#[]⟩ : ByteArray), .string (⟨#[]⟩ : ByteArray)]) ?_ 0 _ rfl; (with_reducible repeat (first | refine blk_drewN ?_ _ | refine blk_drew ?_ | refine blk_alloc ?_ _)); exact BKx.out) _ (by decide); (with_reducible repeat (first | apply JS.drewN | apply JS.drew | apply JS.alloc)); refine JS.setb (q := 23) ?_ GJx.out (by (with_reducible repeat (first | refine blk_drewN ?_ _ | refine blk_drew ?_ | refine blk_alloc ?_ _)); refine blk_put (cs := #[.string (⟨#[]⟩ : ByteArray), .string (⟨#[]⟩ : ByteArray), .string (⟨#[]⟩ : ByteArray), .string (⟨#[]⟩ : ByteArray), .string (⟨#[]⟩ : ByteArray)]) ?_ 0 _ rfl; (with_reducible repeat (first | refine blk_drewN ?_ _ | refine blk_drew ?_ | refine blk_alloc ?_ _)); exact BKx.out) _ (by decide); (with_reducible repeat (first | apply JS.drewN | apply JS.drew | apply JS.alloc)); refine JS.setb (q := 23) ?_ GJx.out (by first | exact BKx.out | ((with_reducible repeat (first | refine blk_drewN ?_ _ | refine blk_drew ?_ | refine blk_alloc ?_ _)); exact BKx.out)) _ (by decide); (with_reducible repeat (first | apply JS.drewN | apply JS.drew | apply JS.alloc)); exact HJ.out) hb)
  have n_BKt := Aside0.mk (blk_below (g := gbt) (o := .cells #[.string (⟨#[99, 97, 116]⟩ : ByteArray), .string (⟨#[49]⟩ : ByteArray), .string (⟨#[117]⟩ : ByteArray), .string (⟨#[100]⟩ : ByteArray), .string (⟨#[97, 108]⟩ : ByteArray)] 23 (0, 0)) (by (with_reducible repeat (first | refine blk_drewN ?_ _ | refine blk_drew ?_ | refine blk_alloc ?_ _)); refine blk_far ?_ NBt_x.out _; (with_reducible repeat (first | refine blk_drewN ?_ _ | refine blk_drew ?_ | refine blk_alloc ?_ _)); refine blk_far ?_ NBt_x.out _; (with_reducible repeat (first | refine blk_drewN ?_ _ | refine blk_drew ?_ | refine blk_alloc ?_ _)); refine blk_far ?_ NBt_x.out _; (with_reducible repeat (first | refine blk_drewN ?_ _ | refine blk_drew ?_ | refine blk_alloc ?_ _)); refine blk_far ?_ NBt_x.out _; (with_reducible repeat (first | refine blk_drewN ?_ _ | refine blk_drew ?_ | refine blk_alloc ?_ _)); refine blk_far ?_ NBt_x.out _; (with_reducible repeat (first | refine blk_drewN ?_ _ | refine blk_drew ?_ | refine blk_alloc ?_ _)); exact BKt.out) hb)
  have n_BKx := Aside0.mk (blk_below (g := gbx) (o := .cells #[.string (⟨#[99, 97, 116]⟩ : ByteArray), .string (⟨#[49]⟩ : ByteArray), .string (⟨#[117]⟩ : ByteArray), .string (⟨#[100]⟩ : ByteArray), .string (⟨#[97, 108]⟩ : ByteArray)] 23 (0, 0)) (by (with_reducible repeat (first | refine blk_drewN ?_ _ | refine blk_drew ?_ | refine blk_alloc ?_ _)); refine blk_put (cs := #[.string (⟨#[99, 97, 116]⟩ : ByteArray), .string (⟨#[49]⟩ : ByteArray), .string (⟨#[117]⟩ : ByteArray), .string (⟨#[100]⟩ : ByteArray), .string (⟨#[]⟩ : ByteArray)]) ?_ 4 _ rfl; (with_reducible repeat (first | refine blk_drewN ?_ _ | refine blk_drew ?_ | refine blk_alloc ?_ _)); refine blk_put (cs := #[.string (⟨#[99, 97, 116]⟩ : ByteArray), .string (⟨#[49]⟩ : ByteArray), .string (⟨#[117]⟩ : ByteArray), .string (⟨#[]⟩ : ByteArray), .string (⟨#[]⟩ : ByteArray)]) ?_ 3 _ rfl; (with_reducible repeat (first | refine blk_drewN ?_ _ | refine blk_drew ?_ | refine blk_alloc ?_ _)); refine blk_put (cs := #[.string (⟨#[99, 97, 116]⟩ : ByteArray), .string (⟨#[49]⟩ : ByteArray), .string (⟨#[]⟩ : ByteArray), .string (⟨#[]⟩ : ByteArray), .string (⟨#[]⟩ : ByteArray)]) ?_ 2 _ rfl; (with_reducible repeat (first | refine blk_drewN ?_ _ | refine blk_drew ?_ | refine blk_alloc ?_ _)); refine blk_put (cs := #[.string (⟨#[99, 97, 116]⟩ : ByteArray), .string (⟨#[]⟩ : ByteArray), .string (⟨#[]⟩ : ByteArray), .string (⟨#[]⟩ : ByteArray), .string (⟨#[]⟩ : ByteArray)]) ?_ 1 _ rfl; (with_reducible repeat (first | refine blk_drewN ?_ _ | refine blk_drew ?_ | refine blk_alloc ?_ _)); refine blk_put (cs := #[.string (⟨#[]⟩ : ByteArray), .string (⟨#[]⟩ : ByteArray), .string (⟨#[]⟩ : ByteArray), .string (⟨#[]⟩ : ByteArray), .string (⟨#[]⟩ : ByteArray)]) ?_ 0 _ rfl; (with_reducible repeat (first | refine blk_drewN ?_ _ | refine blk_drew ?_ | refine blk_alloc ?_ _)); exact BKx.out) hb)
  clear HK HJ BKt BKx
  have HK := n_HK
  have HJ := n_HJ
  have BKt := n_BKt
  have BKx := n_BKx
  clear n_HK n_HJ n_BKt n_BKx
  clear hb
  go_wp2_with fail
  refine (tk_move (⟨#[99, 97, 116]⟩ : ByteArray) (⟨#[49]⟩ : ByteArray) (⟨#[98, 111]⟩ : ByteArray) 0 S2 HJ.out k1 (by decide) (by decide) (by decide) v1.1 v1.2).mono ?_
  rintro e w6 ⟨rfl, hj, hk⟩
  have n_HK := Aside0.mk (HK.out.trans hk)
  have n_HJ := Aside0.mk (hj)
  have n_BKt := Aside0.mk (JK.blk (b := gbt) (c := #[.string (⟨#[99, 97, 116]⟩ : ByteArray), .string (⟨#[49]⟩ : ByteArray), .string (⟨#[117]⟩ : ByteArray), .string (⟨#[100]⟩ : ByteArray), .string (⟨#[97, 108]⟩ : ByteArray)]) (q := 23) (x := (0, 0)) hk (by first | exact BKt.out | ((with_reducible repeat (first | refine blk_drewN ?_ _ | refine blk_drew ?_ | refine blk_alloc ?_ _)); exact BKt.out)) (by decide))
  have n_BKx := Aside0.mk (JK.blk (b := gbx) (c := #[.string (⟨#[99, 97, 116]⟩ : ByteArray), .string (⟨#[49]⟩ : ByteArray), .string (⟨#[117]⟩ : ByteArray), .string (⟨#[100]⟩ : ByteArray), .string (⟨#[97, 108]⟩ : ByteArray)]) (q := 23) (x := (0, 0)) hk (by first | exact BKx.out | ((with_reducible repeat (first | refine blk_drewN ?_ _ | refine blk_drew ?_ | refine blk_alloc ?_ _)); exact BKx.out)) (by decide))
  clear HK HJ BKt BKx
  have HK := n_HK
  have HJ := n_HJ
  have BKt := n_BKt
  have BKx := n_BKx
  clear n_HK n_HJ n_BKt n_BKx
  clear hj hk
  go_wp2_with fail
  refine (tk_get (⟨#[99, 97, 116]⟩ : ByteArray) (⟨#[49]⟩ : ByteArray) (⟨#[99, 97, 116]⟩ : ByteArray) (⟨#[49]⟩ : ByteArray) (⟨#[117]⟩ : ByteArray) (⟨#[100]⟩ : ByteArray) (⟨#[98, 111]⟩ : ByteArray) 0 HJ.out K2 (by decide) (by decide) g2).mono ?_
  rintro e w7 ⟨rfl, hb⟩
  have n_HK := Aside0.mk (HK.out.trans (JK.of_below hb))
  have n_HJ := Aside0.mk (JS.below (base := wy1.heap.size) (ok := ok) (w0 := w1) (g := g) (cur := S2) (by first | exact HJ.out | ((with_reducible repeat (first | apply JS.drewN | apply JS.drew | apply JS.alloc)); exact HJ.out)) hb)
  have n_BKt := Aside0.mk (blk_below (g := gbt) (o := .cells #[.string (⟨#[99, 97, 116]⟩ : ByteArray), .string (⟨#[49]⟩ : ByteArray), .string (⟨#[117]⟩ : ByteArray), .string (⟨#[100]⟩ : ByteArray), .string (⟨#[97, 108]⟩ : ByteArray)] 23 (0, 0)) (by first | exact BKt.out | ((with_reducible repeat (first | refine blk_drewN ?_ _ | refine blk_drew ?_ | refine blk_alloc ?_ _)); exact BKt.out)) hb)
  have n_BKx := Aside0.mk (blk_below (g := gbx) (o := .cells #[.string (⟨#[99, 97, 116]⟩ : ByteArray), .string (⟨#[49]⟩ : ByteArray), .string (⟨#[117]⟩ : ByteArray), .string (⟨#[100]⟩ : ByteArray), .string (⟨#[97, 108]⟩ : ByteArray)] 23 (0, 0)) (by first | exact BKx.out | ((with_reducible repeat (first | refine blk_drewN ?_ _ | refine blk_drew ?_ | refine blk_alloc ?_ _)); exact BKx.out)) hb)
  clear HK HJ BKt BKx
  have HK := n_HK
  have HJ := n_HJ
  have BKt := n_BKt
  have BKx := n_BKx
  clear n_HK n_HJ n_BKt n_BKx
  clear hb
  go_wp2_with (first | ((with_reducible refine gate_dst (N := 10) rfl ?_); refine box_event ?hg (N := 10) ?hd (cs := #[.string (⟨#[]⟩ : ByteArray), .string (⟨#[]⟩ : ByteArray), .string (⟨#[]⟩ : ByteArray), .string (⟨#[]⟩ : ByteArray), .string (⟨#[]⟩ : ByteArray)]) (t := 23) ?hr ?_; (case hd => rfl); (case hg => rfl); (case hr => first | (go_simp; done) | (go_simp; rfl)); intro gby hg wy hbox hb; have GKy := Aside0.mk ((by rw [hg]; exact JK.size (by first | exact HK.out | ((with_reducible repeat (first | apply JK.drewN | apply JK.drew | apply JK.alloc)); exact HK.out)) : w.heap.size ≤ gby)); have GJy := Aside0.mk ((by rw [hg]; exact JS.size0 (base := wy1.heap.size) (ok := ok) (w0 := w1) (g := g) (cur := S2) (by first | exact HJ.out | ((with_reducible repeat (first | apply JS.drewN | apply JS.drew | apply JS.alloc)); exact HJ.out)) : w1.heap.size ≤ gby)); have NBt_y := Aside0.mk ((by rw [hg]; exact Nat.ne_of_lt (blk_lt (g := gbt) (o := .cells #[.string (⟨#[99, 97, 116]⟩ : ByteArray), .string (⟨#[49]⟩ : ByteArray), .string (⟨#[117]⟩ : ByteArray), .string (⟨#[100]⟩ : ByteArray), .string (⟨#[97, 108]⟩ : ByteArray)] 23 (0, 0)) (by first | exact BKt.out | ((with_reducible repeat (first | refine blk_drewN ?_ _ | refine blk_drew ?_ | refine blk_alloc ?_ _)); exact BKt.out))) : gbt ≠ gby)); have NBy_t := Aside0.mk ((by rw [hg]; exact Nat.ne_of_gt (blk_lt (g := gbt) (o := .cells #[.string (⟨#[99, 97, 116]⟩ : ByteArray), .string (⟨#[49]⟩ : ByteArray), .string (⟨#[117]⟩ : ByteArray), .string (⟨#[100]⟩ : ByteArray), .string (⟨#[97, 108]⟩ : ByteArray)] 23 (0, 0)) (by first | exact BKt.out | ((with_reducible repeat (first | refine blk_drewN ?_ _ | refine blk_drew ?_ | refine blk_alloc ?_ _)); exact BKt.out))) : gby ≠ gbt)); have NBx_y := Aside0.mk ((by rw [hg]; exact Nat.ne_of_lt (blk_lt (g := gbx) (o := .cells #[.string (⟨#[99, 97, 116]⟩ : ByteArray), .string (⟨#[49]⟩ : ByteArray), .string (⟨#[117]⟩ : ByteArray), .string (⟨#[100]⟩ : ByteArray), .string (⟨#[97, 108]⟩ : ByteArray)] 23 (0, 0)) (by first | exact BKx.out | ((with_reducible repeat (first | refine blk_drewN ?_ _ | refine blk_drew ?_ | refine blk_alloc ?_ _)); exact BKx.out))) : gbx ≠ gby)); have NBy_x := Aside0.mk ((by rw [hg]; exact Nat.ne_of_gt (blk_lt (g := gbx) (o := .cells #[.string (⟨#[99, 97, 116]⟩ : ByteArray), .string (⟨#[49]⟩ : ByteArray), .string (⟨#[117]⟩ : ByteArray), .string (⟨#[100]⟩ : ByteArray), .string (⟨#[97, 108]⟩ : ByteArray)] 23 (0, 0)) (by first | exact BKx.out | ((with_reducible repeat (first | refine blk_drewN ?_ _ | refine blk_drew ?_ | refine blk_alloc ?_ _)); exact BKx.out))) : gby ≠ gbx)); have n_HK := Aside0.mk (HK.out.trans (JK.of_below hb)); have n_HJ := Aside0.mk (JS.below (base := wy1.heap.size) (ok := ok) (w0 := w1) (g := g) (cur := S2) (by first | exact HJ.out | ((with_reducible repeat (first | apply JS.drewN | apply JS.drew | apply JS.alloc)); exact HJ.out)) hb); have n_BKt := Aside0.mk (blk_below (g := gbt) (o := .cells #[.string (⟨#[99, 97, 116]⟩ : ByteArray), .string (⟨#[49]⟩ : ByteArray), .string (⟨#[117]⟩ : ByteArray), .string (⟨#[100]⟩ : ByteArray), .string (⟨#[97, 108]⟩ : ByteArray)] 23 (0, 0)) (by first | exact BKt.out | ((with_reducible repeat (first | refine blk_drewN ?_ _ | refine blk_drew ?_ | refine blk_alloc ?_ _)); exact BKt.out)) hb); have n_BKx := Aside0.mk (blk_below (g := gbx) (o := .cells #[.string (⟨#[99, 97, 116]⟩ : ByteArray), .string (⟨#[49]⟩ : ByteArray), .string (⟨#[117]⟩ : ByteArray), .string (⟨#[100]⟩ : ByteArray), .string (⟨#[97, 108]⟩ : ByteArray)] 23 (0, 0)) (by first | exact BKx.out | ((with_reducible repeat (first | refine blk_drewN ?_ _ | refine blk_drew ?_ | refine blk_alloc ?_ _)); exact BKx.out)) hb); clear HK HJ BKt BKx; have HK := n_HK; have HJ := n_HJ; have BKt := n_BKt; have BKx := n_BKx; clear n_HK n_HJ n_BKt n_BKx; have BKy := Aside0.mk hbox; clear hb hbox hg; have zy_0 : World.cell? _ ⟨gby, 0, none⟩ = some (.string (⟨#[]⟩ : ByteArray)) := (blk_cell BKy.out 0).trans rfl; have fy_0 := blk_frozen BKy.out 0; have zy_1 : World.cell? _ ⟨gby, 1, none⟩ = some (.string (⟨#[]⟩ : ByteArray)) := (blk_cell BKy.out 1).trans rfl; have fy_1 := blk_frozen BKy.out 1; have zy_2 : World.cell? _ ⟨gby, 2, none⟩ = some (.string (⟨#[]⟩ : ByteArray)) := (blk_cell BKy.out 2).trans rfl; have fy_2 := blk_frozen BKy.out 2; have zy_3 : World.cell? _ ⟨gby, 3, none⟩ = some (.string (⟨#[]⟩ : ByteArray)) := (blk_cell BKy.out 3).trans rfl; have fy_3 := blk_frozen BKy.out 3; have zy_4 : World.cell? _ ⟨gby, 4, none⟩ = some (.string (⟨#[]⟩ : ByteArray)) := (blk_cell BKy.out 4).trans rfl; have fy_4 := blk_frozen BKy.out 4; have hnyt := NBy_t.out; have hmyt := NBt_y.out; have hnyx := NBy_x.out; have hmyx := NBx_y.out; have zy_0 : World.cell? _ ⟨gby, 0, none⟩ = some (.string (⟨#[]⟩ : ByteArray)) := (blk_cell BKy.out 0).trans rfl; have fy_0 := blk_frozen BKy.out 0; have zy_1 : World.cell? _ ⟨gby, 1, none⟩ = some (.string (⟨#[]⟩ : ByteArray)) := (blk_cell BKy.out 1).trans rfl; have fy_1 := blk_frozen BKy.out 1; have zy_2 : World.cell? _ ⟨gby, 2, none⟩ = some (.string (⟨#[]⟩ : ByteArray)) := (blk_cell BKy.out 2).trans rfl; have fy_2 := blk_frozen BKy.out 2; have zy_3 : World.cell? _ ⟨gby, 3, none⟩ = some (.string (⟨#[]⟩ : ByteArray)) := (blk_cell BKy.out 3).trans rfl; have fy_3 := blk_frozen BKy.out 3; have zy_4 : World.cell? _ ⟨gby, 4, none⟩ = some (.string (⟨#[]⟩ : ByteArray)) := (blk_cell BKy.out 4).trans rfl; have fy_4 := blk_frozen BKy.out 4; have hnyt := NBy_t.out; have hmyt := NBt_y.out; have hnyx := NBy_x.out; have hmyx := NBx_y.out))
  refine (tk_burn (base := wy1.heap.size) (ok := ok) (w0 := w1) (g := g) (cur := S2) (⟨#[99, 97, 116]⟩ : ByteArray) (⟨#[49]⟩ : ByteArray) 0 S0 (by (with_reducible repeat (first | apply JS.drewN | apply JS.drew | apply JS.alloc)); refine JS.setb (q := 23) ?_ GJy.out (by (with_reducible repeat (first | refine blk_drewN ?_ _ | refine blk_drew ?_ | refine blk_alloc ?_ _)); refine blk_put (cs := #[.string (⟨#[99, 97, 116]⟩ : ByteArray), .string (⟨#[49]⟩ : ByteArray), .string (⟨#[117]⟩ : ByteArray), .string (⟨#[]⟩ : ByteArray), .string (⟨#[]⟩ : ByteArray)]) ?_ 3 _ rfl; (with_reducible repeat (first | refine blk_drewN ?_ _ | refine blk_drew ?_ | refine blk_alloc ?_ _)); refine blk_put (cs := #[.string (⟨#[99, 97, 116]⟩ : ByteArray), .string (⟨#[49]⟩ : ByteArray), .string (⟨#[]⟩ : ByteArray), .string (⟨#[]⟩ : ByteArray), .string (⟨#[]⟩ : ByteArray)]) ?_ 2 _ rfl; (with_reducible repeat (first | refine blk_drewN ?_ _ | refine blk_drew ?_ | refine blk_alloc ?_ _)); refine blk_put (cs := #[.string (⟨#[99, 97, 116]⟩ : ByteArray), .string (⟨#[]⟩ : ByteArray), .string (⟨#[]⟩ : ByteArray), .string (⟨#[]⟩ : ByteArray), .string (⟨#[]⟩ : ByteArray)]) ?_ 1 _ rfl; (with_reducible repeat (first | refine blk_drewN ?_ _ | refine blk_drew ?_ | refine blk_alloc ?_ _)); refine blk_put (cs := #[.string (⟨#[]⟩ : ByteArray), .string (⟨#[]⟩ : ByteArray), .string (⟨#[]⟩ : ByteArray), .string (⟨#[]⟩ : ByteArray), .string (⟨#[]⟩ : ByteArray)]) ?_ 0 _ rfl; (with_reducible repeat (first | refine blk_drewN ?_ _ | refine blk_drew ?_ | refine blk_alloc ?_ _)); exact BKy.out) _ (by decide); (with_reducible repeat (first | apply JS.drewN | apply JS.drew | apply JS.alloc)); refine JS.setb (q := 23) ?_ GJy.out (by (with_reducible repeat (first | refine blk_drewN ?_ _ | refine blk_drew ?_ | refine blk_alloc ?_ _)); refine blk_put (cs := #[.string (⟨#[99, 97, 116]⟩ : ByteArray), .string (⟨#[49]⟩ : ByteArray), .string (⟨#[]⟩ : ByteArray), .string (⟨#[]⟩ : ByteArray), .string (⟨#[]⟩ : ByteArray)]) ?_ 2 _ rfl; (with_reducible repeat (first | refine blk_drewN ?_ _ | refine blk_drew ?_ | refine blk_alloc ?_ _)); refine blk_put (cs := #[.string (⟨#[99, 97, 116]⟩ : ByteArray), .string (⟨#[]⟩ : ByteArray), .string (⟨#[]⟩ : ByteArray), .string (⟨#[]⟩ : ByteArray), .string (⟨#[]⟩ : ByteArray)]) ?_ 1 _ rfl; (with_reducible repeat (first | refine blk_drewN ?_ _ | refine blk_drew ?_ | refine blk_alloc ?_ _)); refine blk_put (cs := #[.string (⟨#[]⟩ : ByteArray), .string (⟨#[]⟩ : ByteArray), .string (⟨#[]⟩ : ByteArray), .string (⟨#[]⟩ : ByteArray), .string (⟨#[]⟩ : ByteArray)]) ?_ 0 _ rfl; (with_reducible repeat (first | refine blk_drewN ?_ _ | refine blk_drew ?_ | refine blk_alloc ?_ _)); exact BKy.out) _ (by decide); (with_reducible repeat (first | apply JS.drewN | apply JS.drew | apply JS.alloc)); refine JS.setb (q := 23) ?_ GJy.out (by (with_reducible repeat (first | refine blk_drewN ?_ _ | refine blk_drew ?_ | refine blk_alloc ?_ _)); refine blk_put (cs := #[.string (⟨#[99, 97, 116]⟩ : ByteArray), .string (⟨#[]⟩ : ByteArray), .string (⟨#[]⟩ : ByteArray), .string (⟨#[]⟩ : ByteArray), .string (⟨#[]⟩ : ByteArray)]) ?_ 1 _ rfl; (with_reducible repeat (first | refine blk_drewN ?_ _ | refine blk_drew ?_ | refine blk_alloc ?_ _)); refine blk_put (cs := #[.string (⟨#[]⟩ : ByteArray), .string (⟨#[]⟩ : ByteArray), .string (⟨#[]⟩ : ByteArray), .string (⟨#[]⟩ : ByteArray), .string (⟨#[]⟩ : ByteArray)]) ?_ 0 _ rfl; (with_reducible repeat (first | refine blk_drewN ?_ _ | refine blk_drew ?_ | refine blk_alloc ?_ _)); exact BKy.out) _ (by decide); (with_reducible repeat (first | apply JS.drewN | apply JS.drew | apply JS.alloc)); refine JS.setb (q := 23) ?_ GJy.out (by (with_reducible repeat (first | refine blk_drewN ?_ _ | refine blk_drew ?_ | refine blk_alloc ?_ _)); refine blk_put (cs := #[.string (⟨#[]⟩ : ByteArray), .string (⟨#[]⟩ : ByteArray), .string (⟨#[]⟩ : ByteArray), .string (⟨#[]⟩ : ByteArray), .string (⟨#[]⟩ : ByteArray)]) ?_ 0 _ rfl; (with_reducible repeat (first | refine blk_drewN ?_ _ | refine blk_drew ?_ | refine blk_alloc ?_ _)); exact BKy.out) _ (by decide); (with_reducible repeat (first | apply JS.drewN | apply JS.drew | apply JS.alloc)); refine JS.setb (q := 23) ?_ GJy.out (by first | exact BKy.out | ((with_reducible repeat (first | refine blk_drewN ?_ _ | refine blk_drew ?_ | refine blk_alloc ?_ _)); exact BKy.out)) _ (by decide); (with_reducible repeat (first | apply JS.drewN | apply JS.drew | apply JS.alloc)); exact HJ.out) k2 (by decide) (by decide) b1.1 b1.2).mono ?_
  rintro e w8 ⟨rfl, hj, hk⟩
  have n_HK := Aside0.mk ((by (with_reducible repeat (first | apply JK.drewN | apply JK.drew | apply JK.alloc)); refine JK.setb ?_ GKy.out _; (with_reducible repeat (first | apply JK.drewN | apply JK.drew | apply JK.alloc)); refine JK.setb ?_ GKy.out _; (with_reducible repeat (first | apply JK.drewN | apply JK.drew | apply JK.alloc)); refine JK.setb ?_ GKy.out _; (with_reducible repeat (first | apply JK.drewN | apply JK.drew | apply JK.alloc)); refine JK.setb ?_ GKy.out _; (with_reducible repeat (first | apply JK.drewN | apply JK.drew | apply JK.alloc)); refine JK.setb ?_ GKy.out _; (with_reducible repeat (first | apply JK.drewN | apply JK.drew | apply JK.alloc)); exact HK.out : JK _ _).trans hk)
  have n_HJ := Aside0.mk (hj)
  have n_BKt := Aside0.mk (JK.blk (b := gbt) (c := #[.string (⟨#[99, 97, 116]⟩ : ByteArray), .string (⟨#[49]⟩ : ByteArray), .string (⟨#[117]⟩ : ByteArray), .string (⟨#[100]⟩ : ByteArray), .string (⟨#[97, 108]⟩ : ByteArray)]) (q := 23) (x := (0, 0)) hk (by (with_reducible repeat (first | refine blk_drewN ?_ _ | refine blk_drew ?_ | refine blk_alloc ?_ _)); refine blk_far ?_ NBt_y.out _; (with_reducible repeat (first | refine blk_drewN ?_ _ | refine blk_drew ?_ | refine blk_alloc ?_ _)); refine blk_far ?_ NBt_y.out _; (with_reducible repeat (first | refine blk_drewN ?_ _ | refine blk_drew ?_ | refine blk_alloc ?_ _)); refine blk_far ?_ NBt_y.out _; (with_reducible repeat (first | refine blk_drewN ?_ _ | refine blk_drew ?_ | refine blk_alloc ?_ _)); refine blk_far ?_ NBt_y.out _; (with_reducible repeat (first | refine blk_drewN ?_ _ | refine blk_drew ?_ | refine blk_alloc ?_ _)); refine blk_far ?_ NBt_y.out _; (with_reducible repeat (first | refine blk_drewN ?_ _ | refine blk_drew ?_ | refine blk_alloc ?_ _)); exact BKt.out) (by decide))
  have n_BKx := Aside0.mk (JK.blk (b := gbx) (c := #[.string (⟨#[99, 97, 116]⟩ : ByteArray), .string (⟨#[49]⟩ : ByteArray), .string (⟨#[117]⟩ : ByteArray), .string (⟨#[100]⟩ : ByteArray), .string (⟨#[97, 108]⟩ : ByteArray)]) (q := 23) (x := (0, 0)) hk (by (with_reducible repeat (first | refine blk_drewN ?_ _ | refine blk_drew ?_ | refine blk_alloc ?_ _)); refine blk_far ?_ NBx_y.out _; (with_reducible repeat (first | refine blk_drewN ?_ _ | refine blk_drew ?_ | refine blk_alloc ?_ _)); refine blk_far ?_ NBx_y.out _; (with_reducible repeat (first | refine blk_drewN ?_ _ | refine blk_drew ?_ | refine blk_alloc ?_ _)); refine blk_far ?_ NBx_y.out _; (with_reducible repeat (first | refine blk_drewN ?_ _ | refine blk_drew ?_ | refine blk_alloc ?_ _)); refine blk_far ?_ NBx_y.out _; (with_reducible repeat (first | refine blk_drewN ?_ _ | refine blk_drew ?_ | refine blk_alloc ?_ _)); refine blk_far ?_ NBx_y.out _; (with_reducible repeat (first | refine blk_drewN ?_ _ | refine blk_drew ?_ | refine blk_alloc ?_ _)); exact BKx.out) (by decide))
  have n_BKy := Aside0.mk (JK.blk (b := gby) (c := #[.string (⟨#[99, 97, 116]⟩ : ByteArray), .string (⟨#[49]⟩ : ByteArray), .string (⟨#[117]⟩ : ByteArray), .string (⟨#[100]⟩ : ByteArray), .string (⟨#[98, 111]⟩ : ByteArray)]) (q := 23) (x := (0, 0)) hk (by (with_reducible repeat (first | refine blk_drewN ?_ _ | refine blk_drew ?_ | refine blk_alloc ?_ _)); refine blk_put (cs := #[.string (⟨#[99, 97, 116]⟩ : ByteArray), .string (⟨#[49]⟩ : ByteArray), .string (⟨#[117]⟩ : ByteArray), .string (⟨#[100]⟩ : ByteArray), .string (⟨#[]⟩ : ByteArray)]) ?_ 4 _ rfl; (with_reducible repeat (first | refine blk_drewN ?_ _ | refine blk_drew ?_ | refine blk_alloc ?_ _)); refine blk_put (cs := #[.string (⟨#[99, 97, 116]⟩ : ByteArray), .string (⟨#[49]⟩ : ByteArray), .string (⟨#[117]⟩ : ByteArray), .string (⟨#[]⟩ : ByteArray), .string (⟨#[]⟩ : ByteArray)]) ?_ 3 _ rfl; (with_reducible repeat (first | refine blk_drewN ?_ _ | refine blk_drew ?_ | refine blk_alloc ?_ _)); refine blk_put (cs := #[.string (⟨#[99, 97, 116]⟩ : ByteArray), .string (⟨#[49]⟩ : ByteArray), .string (⟨#[]⟩ : ByteArray), .string (⟨#[]⟩ : ByteArray), .string (⟨#[]⟩ : ByteArray)]) ?_ 2 _ rfl; (with_reducible repeat (first | refine blk_drewN ?_ _ | refine blk_drew ?_ | refine blk_alloc ?_ _)); refine blk_put (cs := #[.string (⟨#[99, 97, 116]⟩ : ByteArray), .string (⟨#[]⟩ : ByteArray), .string (⟨#[]⟩ : ByteArray), .string (⟨#[]⟩ : ByteArray), .string (⟨#[]⟩ : ByteArray)]) ?_ 1 _ rfl; (with_reducible repeat (first | refine blk_drewN ?_ _ | refine blk_drew ?_ | refine blk_alloc ?_ _)); refine blk_put (cs := #[.string (⟨#[]⟩ : ByteArray), .string (⟨#[]⟩ : ByteArray), .string (⟨#[]⟩ : ByteArray), .string (⟨#[]⟩ : ByteArray), .string (⟨#[]⟩ : ByteArray)]) ?_ 0 _ rfl; (with_reducible repeat (first | refine blk_drewN ?_ _ | refine blk_drew ?_ | refine blk_alloc ?_ _)); exact BKy.out) (by decide))
  clear HK HJ BKt BKx BKy
  have HK := n_HK
  have HJ := n_HJ
  have BKt := n_BKt
  have BKx := n_BKx
  have BKy := n_BKy
  clear n_HK n_HJ n_BKt n_BKx n_BKy
  clear hj hk
  go_wp2_with fail
  refine (tk_burn (⟨#[99, 97, 116]⟩ : ByteArray) (⟨#[49]⟩ : ByteArray) 8 S0 HJ.out k0 (by decide) (by decide) b2.1 b2.2).mono ?_
  rintro e w9 ⟨rfl, hj, hk⟩
  have n_HK := Aside0.mk (HK.out.trans hk)
  have n_HJ := Aside0.mk (hj)
  have n_BKt := Aside0.mk (JK.blk (b := gbt) (c := #[.string (⟨#[99, 97, 116]⟩ : ByteArray), .string (⟨#[49]⟩ : ByteArray), .string (⟨#[117]⟩ : ByteArray), .string (⟨#[100]⟩ : ByteArray), .string (⟨#[97, 108]⟩ : ByteArray)]) (q := 23) (x := (0, 0)) hk (by first | exact BKt.out | ((with_reducible repeat (first | refine blk_drewN ?_ _ | refine blk_drew ?_ | refine blk_alloc ?_ _)); exact BKt.out)) (by decide))
  have n_BKx := Aside0.mk (JK.blk (b := gbx) (c := #[.string (⟨#[99, 97, 116]⟩ : ByteArray), .string (⟨#[49]⟩ : ByteArray), .string (⟨#[117]⟩ : ByteArray), .string (⟨#[100]⟩ : ByteArray), .string (⟨#[97, 108]⟩ : ByteArray)]) (q := 23) (x := (0, 0)) hk (by first | exact BKx.out | ((with_reducible repeat (first | refine blk_drewN ?_ _ | refine blk_drew ?_ | refine blk_alloc ?_ _)); exact BKx.out)) (by decide))
  have n_BKy := Aside0.mk (JK.blk (b := gby) (c := #[.string (⟨#[99, 97, 116]⟩ : ByteArray), .string (⟨#[49]⟩ : ByteArray), .string (⟨#[117]⟩ : ByteArray), .string (⟨#[100]⟩ : ByteArray), .string (⟨#[98, 111]⟩ : ByteArray)]) (q := 23) (x := (0, 0)) hk (by first | exact BKy.out | ((with_reducible repeat (first | refine blk_drewN ?_ _ | refine blk_drew ?_ | refine blk_alloc ?_ _)); exact BKy.out)) (by decide))
  clear HK HJ BKt BKx BKy
  have HK := n_HK
  have HJ := n_HJ
  have BKt := n_BKt
  have BKx := n_BKx
  have BKy := n_BKy
  clear n_HK n_HJ n_BKt n_BKx n_BKy
  clear hj hk
  have zt_0 : World.cell? _ ⟨gbt, 0, none⟩ = some (.string (⟨#[99, 97, 116]⟩ : ByteArray)) := (blk_cell BKt.out 0).trans rfl
  have ft_0 := blk_frozen BKt.out 0
  have zt_1 : World.cell? _ ⟨gbt, 1, none⟩ = some (.string (⟨#[49]⟩ : ByteArray)) := (blk_cell BKt.out 1).trans rfl
  have ft_1 := blk_frozen BKt.out 1
  have zt_2 : World.cell? _ ⟨gbt, 2, none⟩ = some (.string (⟨#[117]⟩ : ByteArray)) := (blk_cell BKt.out 2).trans rfl
  have ft_2 := blk_frozen BKt.out 2
  have zt_3 : World.cell? _ ⟨gbt, 3, none⟩ = some (.string (⟨#[100]⟩ : ByteArray)) := (blk_cell BKt.out 3).trans rfl
  have ft_3 := blk_frozen BKt.out 3
  have zt_4 : World.cell? _ ⟨gbt, 4, none⟩ = some (.string (⟨#[97, 108]⟩ : ByteArray)) := (blk_cell BKt.out 4).trans rfl
  have ft_4 := blk_frozen BKt.out 4
  have hntx := NBt_x.out
  have hmtx := NBx_t.out
  have hnty := NBt_y.out
  have hmty := NBy_t.out
  have zx_0 : World.cell? _ ⟨gbx, 0, none⟩ = some (.string (⟨#[99, 97, 116]⟩ : ByteArray)) := (blk_cell BKx.out 0).trans rfl
  have fx_0 := blk_frozen BKx.out 0
  have zx_1 : World.cell? _ ⟨gbx, 1, none⟩ = some (.string (⟨#[49]⟩ : ByteArray)) := (blk_cell BKx.out 1).trans rfl
  have fx_1 := blk_frozen BKx.out 1
  have zx_2 : World.cell? _ ⟨gbx, 2, none⟩ = some (.string (⟨#[117]⟩ : ByteArray)) := (blk_cell BKx.out 2).trans rfl
  have fx_2 := blk_frozen BKx.out 2
  have zx_3 : World.cell? _ ⟨gbx, 3, none⟩ = some (.string (⟨#[100]⟩ : ByteArray)) := (blk_cell BKx.out 3).trans rfl
  have fx_3 := blk_frozen BKx.out 3
  have zx_4 : World.cell? _ ⟨gbx, 4, none⟩ = some (.string (⟨#[97, 108]⟩ : ByteArray)) := (blk_cell BKx.out 4).trans rfl
  have fx_4 := blk_frozen BKx.out 4
  have hnxt := NBx_t.out
  have hmxt := NBt_x.out
  have hnxy := NBx_y.out
  have hmxy := NBy_x.out
  have zy_0 : World.cell? _ ⟨gby, 0, none⟩ = some (.string (⟨#[99, 97, 116]⟩ : ByteArray)) := (blk_cell BKy.out 0).trans rfl
  have fy_0 := blk_frozen BKy.out 0
  have zy_1 : World.cell? _ ⟨gby, 1, none⟩ = some (.string (⟨#[49]⟩ : ByteArray)) := (blk_cell BKy.out 1).trans rfl
  have fy_1 := blk_frozen BKy.out 1
  have zy_2 : World.cell? _ ⟨gby, 2, none⟩ = some (.string (⟨#[117]⟩ : ByteArray)) := (blk_cell BKy.out 2).trans rfl
  have fy_2 := blk_frozen BKy.out 2
  have zy_3 : World.cell? _ ⟨gby, 3, none⟩ = some (.string (⟨#[100]⟩ : ByteArray)) := (blk_cell BKy.out 3).trans rfl
  have fy_3 := blk_frozen BKy.out 3
  have zy_4 : World.cell? _ ⟨gby, 4, none⟩ = some (.string (⟨#[98, 111]⟩ : ByteArray)) := (blk_cell BKy.out 4).trans rfl
  have fy_4 := blk_frozen BKy.out 4
  have hnyt := NBy_t.out
  have hmyt := NBt_y.out
  have hnyx := NBy_x.out
  have hmyx := NBx_y.out
  go_wp2_with fail
  refine (tk_supply (base := wy1.heap.size) (ok := ok) (w0 := w1) (g := g) (cur := S0) (⟨#[99, 97, 116]⟩ : ByteArray) 0 (by (with_reducible repeat (first | apply JS.drewN | apply JS.drew | apply JS.alloc)); refine JS.setb (q := 23) ?_ GJt.out (by first | exact BKt.out | ((with_reducible repeat (first | refine blk_drewN ?_ _ | refine blk_drew ?_ | refine blk_alloc ?_ _)); exact BKt.out)) _ (by decide); (with_reducible repeat (first | apply JS.drewN | apply JS.drew | apply JS.alloc)); exact HJ.out) K0 (by decide) n0).mono ?_
  rintro e w10 ⟨rfl, hb⟩
  have n_HK := Aside0.mk ((by (with_reducible repeat (first | apply JK.drewN | apply JK.drew | apply JK.alloc)); refine JK.setb ?_ GKt.out _; (with_reducible repeat (first | apply JK.drewN | apply JK.drew | apply JK.alloc)); exact HK.out : JK _ _).trans (JK.of_below hb))
  have n_HJ := Aside0.mk (JS.below (base := wy1.heap.size) (ok := ok) (w0 := w1) (g := g) (cur := S0) (by (with_reducible repeat (first | apply JS.drewN | apply JS.drew | apply JS.alloc)); refine JS.setb (q := 23) ?_ GJt.out (by first | exact BKt.out | ((with_reducible repeat (first | refine blk_drewN ?_ _ | refine blk_drew ?_ | refine blk_alloc ?_ _)); exact BKt.out)) _ (by decide); (with_reducible repeat (first | apply JS.drewN | apply JS.drew | apply JS.alloc)); exact HJ.out) hb)
  have n_BKt := Aside0.mk (blk_below (g := gbt) (o := .cells #[.string (⟨#[100, 111, 103]⟩ : ByteArray), .string (⟨#[49]⟩ : ByteArray), .string (⟨#[117]⟩ : ByteArray), .string (⟨#[100]⟩ : ByteArray), .string (⟨#[97, 108]⟩ : ByteArray)] 23 (0, 0)) (by (with_reducible repeat (first | refine blk_drewN ?_ _ | refine blk_drew ?_ | refine blk_alloc ?_ _)); refine blk_put (cs := #[.string (⟨#[99, 97, 116]⟩ : ByteArray), .string (⟨#[49]⟩ : ByteArray), .string (⟨#[117]⟩ : ByteArray), .string (⟨#[100]⟩ : ByteArray), .string (⟨#[97, 108]⟩ : ByteArray)]) ?_ 0 _ rfl; (with_reducible repeat (first | refine blk_drewN ?_ _ | refine blk_drew ?_ | refine blk_alloc ?_ _)); exact BKt.out) hb)
  have n_BKx := Aside0.mk (blk_below (g := gbx) (o := .cells #[.string (⟨#[99, 97, 116]⟩ : ByteArray), .string (⟨#[49]⟩ : ByteArray), .string (⟨#[117]⟩ : ByteArray), .string (⟨#[100]⟩ : ByteArray), .string (⟨#[97, 108]⟩ : ByteArray)] 23 (0, 0)) (by (with_reducible repeat (first | refine blk_drewN ?_ _ | refine blk_drew ?_ | refine blk_alloc ?_ _)); refine blk_far ?_ NBx_t.out _; (with_reducible repeat (first | refine blk_drewN ?_ _ | refine blk_drew ?_ | refine blk_alloc ?_ _)); exact BKx.out) hb)
  have n_BKy := Aside0.mk (blk_below (g := gby) (o := .cells #[.string (⟨#[99, 97, 116]⟩ : ByteArray), .string (⟨#[49]⟩ : ByteArray), .string (⟨#[117]⟩ : ByteArray), .string (⟨#[100]⟩ : ByteArray), .string (⟨#[98, 111]⟩ : ByteArray)] 23 (0, 0)) (by (with_reducible repeat (first | refine blk_drewN ?_ _ | refine blk_drew ?_ | refine blk_alloc ?_ _)); refine blk_far ?_ NBy_t.out _; (with_reducible repeat (first | refine blk_drewN ?_ _ | refine blk_drew ?_ | refine blk_alloc ?_ _)); exact BKy.out) hb)
  clear HK HJ BKt BKx BKy
  have HK := n_HK
  have HJ := n_HJ
  have BKt := n_BKt
  have BKx := n_BKx
  have BKy := n_BKy
  clear n_HK n_HJ n_BKt n_BKx n_BKy
  clear hb
  have zt_0 : World.cell? _ ⟨gbt, 0, none⟩ = some (.string (⟨#[100, 111, 103]⟩ : ByteArray)) := (blk_cell BKt.out 0).trans rfl
  have ft_0 := blk_frozen BKt.out 0
  have zt_1 : World.cell? _ ⟨gbt, 1, none⟩ = some (.string (⟨#[49]⟩ : ByteArray)) := (blk_cell BKt.out 1).trans rfl
  have ft_1 := blk_frozen BKt.out 1
  have zt_2 : World.cell? _ ⟨gbt, 2, none⟩ = some (.string (⟨#[117]⟩ : ByteArray)) := (blk_cell BKt.out 2).trans rfl
  have ft_2 := blk_frozen BKt.out 2
  have zt_3 : World.cell? _ ⟨gbt, 3, none⟩ = some (.string (⟨#[100]⟩ : ByteArray)) := (blk_cell BKt.out 3).trans rfl
  have ft_3 := blk_frozen BKt.out 3
  have zt_4 : World.cell? _ ⟨gbt, 4, none⟩ = some (.string (⟨#[97, 108]⟩ : ByteArray)) := (blk_cell BKt.out 4).trans rfl
  have ft_4 := blk_frozen BKt.out 4
  have hntx := NBt_x.out
  have hmtx := NBx_t.out
  have hnty := NBt_y.out
  have hmty := NBy_t.out
  go_wp2_with fail
  refine (tk_mint (⟨#[100, 111, 103]⟩ : ByteArray) (⟨#[49]⟩ : ByteArray) (⟨#[117]⟩ : ByteArray) (⟨#[100]⟩ : ByteArray) (⟨#[97, 108]⟩ : ByteArray) 8 S0 HJ.out k0 (by decide) (by decide) (by decide) (by decide) (by decide) m3.1 m3.2).mono ?_
  rintro e w11 ⟨rfl, hj, hk⟩
  have n_HK := Aside0.mk (HK.out.trans hk)
  have n_HJ := Aside0.mk (hj)
  have n_BKt := Aside0.mk (JK.blk (b := gbt) (c := #[.string (⟨#[100, 111, 103]⟩ : ByteArray), .string (⟨#[49]⟩ : ByteArray), .string (⟨#[117]⟩ : ByteArray), .string (⟨#[100]⟩ : ByteArray), .string (⟨#[97, 108]⟩ : ByteArray)]) (q := 23) (x := (0, 0)) hk (by first | exact BKt.out | ((with_reducible repeat (first | refine blk_drewN ?_ _ | refine blk_drew ?_ | refine blk_alloc ?_ _)); exact BKt.out)) (by decide))
  have n_BKx := Aside0.mk (JK.blk (b := gbx) (c := #[.string (⟨#[99, 97, 116]⟩ : ByteArray), .string (⟨#[49]⟩ : ByteArray), .string (⟨#[117]⟩ : ByteArray), .string (⟨#[100]⟩ : ByteArray), .string (⟨#[97, 108]⟩ : ByteArray)]) (q := 23) (x := (0, 0)) hk (by first | exact BKx.out | ((with_reducible repeat (first | refine blk_drewN ?_ _ | refine blk_drew ?_ | refine blk_alloc ?_ _)); exact BKx.out)) (by decide))
  have n_BKy := Aside0.mk (JK.blk (b := gby) (c := #[.string (⟨#[99, 97, 116]⟩ : ByteArray), .string (⟨#[49]⟩ : ByteArray), .string (⟨#[117]⟩ : ByteArray), .string (⟨#[100]⟩ : ByteArray), .string (⟨#[98, 111]⟩ : ByteArray)]) (q := 23) (x := (0, 0)) hk (by first | exact BKy.out | ((with_reducible repeat (first | refine blk_drewN ?_ _ | refine blk_drew ?_ | refine blk_alloc ?_ _)); exact BKy.out)) (by decide))
  clear HK HJ BKt BKx BKy
  have HK := n_HK
  have HJ := n_HJ
  have BKt := n_BKt
  have BKx := n_BKx
  have BKy := n_BKy
  clear n_HK n_HJ n_BKt n_BKx n_BKy
  clear hj hk
  go_wp2_with fail
  refine (tk_move (⟨#[99, 97, 116]⟩ : ByteArray) (⟨#[50]⟩ : ByteArray) (⟨#[98, 111]⟩ : ByteArray) 8 S0 HJ.out k0 (by decide) (by decide) (by decide) v2.1 v2.2).mono ?_
  rintro e w12 ⟨rfl, hj, hk⟩
  have n_HK := Aside0.mk (HK.out.trans hk)
  have n_HJ := Aside0.mk (hj)
  have n_BKt := Aside0.mk (JK.blk (b := gbt) (c := #[.string (⟨#[100, 111, 103]⟩ : ByteArray), .string (⟨#[49]⟩ : ByteArray), .string (⟨#[117]⟩ : ByteArray), .string (⟨#[100]⟩ : ByteArray), .string (⟨#[97, 108]⟩ : ByteArray)]) (q := 23) (x := (0, 0)) hk (by first | exact BKt.out | ((with_reducible repeat (first | refine blk_drewN ?_ _ | refine blk_drew ?_ | refine blk_alloc ?_ _)); exact BKt.out)) (by decide))
  have n_BKx := Aside0.mk (JK.blk (b := gbx) (c := #[.string (⟨#[99, 97, 116]⟩ : ByteArray), .string (⟨#[49]⟩ : ByteArray), .string (⟨#[117]⟩ : ByteArray), .string (⟨#[100]⟩ : ByteArray), .string (⟨#[97, 108]⟩ : ByteArray)]) (q := 23) (x := (0, 0)) hk (by first | exact BKx.out | ((with_reducible repeat (first | refine blk_drewN ?_ _ | refine blk_drew ?_ | refine blk_alloc ?_ _)); exact BKx.out)) (by decide))
  have n_BKy := Aside0.mk (JK.blk (b := gby) (c := #[.string (⟨#[99, 97, 116]⟩ : ByteArray), .string (⟨#[49]⟩ : ByteArray), .string (⟨#[117]⟩ : ByteArray), .string (⟨#[100]⟩ : ByteArray), .string (⟨#[98, 111]⟩ : ByteArray)]) (q := 23) (x := (0, 0)) hk (by first | exact BKy.out | ((with_reducible repeat (first | refine blk_drewN ?_ _ | refine blk_drew ?_ | refine blk_alloc ?_ _)); exact BKy.out)) (by decide))
  clear HK HJ BKt BKx BKy
  have HK := n_HK
  have HJ := n_HJ
  have BKt := n_BKt
  have BKx := n_BKx
  have BKy := n_BKy
  clear n_HK n_HJ n_BKt n_BKx n_BKy
  clear hj hk
  have hfin := Aside0.mk (JW.toBelow HB1.out HB1.out.size HJ.out.jw hokw)
  clear HJ HK
  go_wp2
  go_ret
  exact ⟨rfl, hfin.out⟩

end Go.Proofs.YtjappgjpikbdeaaGreatDoor.PTkk
