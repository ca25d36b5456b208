-- written by wip/myprint.py over the kit's print; not a printed text of print.sh
import Derived.Test.YtcbaojkfffodiaaDoorPClnx0
import Derived.Test.YtcbaojkfffodiaaDoorPClnx6
import Derived.Test.YtcbaojkfffodiaaDoorPClnx9
import Derived.Test.YtcbaojkfffodiaaDoorPClnx13
import Derived.Test.YtcbaojkfffodiaaDoorPClnx14
import Derived.Test.YtcbaojkfffodiaaDoorPClnx15
import Derived.Test.YtcbaojkfffodiaaDoorPClnx16
namespace Go.Proofs.YtcbaojkfffodiaaDoor.PCln
open Go.RowKit Go.Proofs.YtcbaojkfffodiaaDoorW.PrintWords Go.Proofs.YtcbaojkfffodiaaDoorW.PrintLast Go.Proofs.YtcbaojkfffodiaaDoorW.PrintMore
attribute [local go_sem] max2_int min2_int max_two min_two max_three min_three max_four min_four   -- for this text's walks alone
set_option linter.unusedVariables false
set_option linter.unusedSimpArgs false

/-! ### footbridgelaw22_awake: function 14 -/
-- @break
/-- A box's cells, in a world. -/
def HeldC (g : Nat) (cs : Array Value) (t : TypeId) (w : World) : Prop := w.heap[g]? = some (.cells cs t (0, 0))
theorem HeldC.of {g : Nat} {cs : Array Value} {t : TypeId} {w : World} (h : w.heap[g]? = some (.cells cs t (0, 0))) : HeldC g cs t w := h
theorem HeldC.blk {g : Nat} {cs : Array Value} {t : TypeId} {w : World} (h : HeldC g cs t w) : w.heap[g]? = some (.cells cs t (0, 0)) := h
theorem at_world {g : Nat} {cs : Array Value} {t : TypeId} {w : World} (_ : HeldC g cs t w) {F : World → Prop} (h : F w) : Aside0 (F w) := Aside0.mk h
set_option maxHeartbeats 4000000 in
set_option maxRecDepth 100000 in
theorem claw_calls (w : World) : Calls Tryd.prog 14 #[] w fun e w' => e = .returned (.bool true) ∧ Below w.heap.size w w' := by
  go_enter Tryd.func14, Tryd.ntmps14
  go_wp2_with fail
  refine (j_new_nil w).mono ?_
  rintro e w1 ⟨g, rfl, hm, hb⟩
  have HB1 := Aside0.mk hb
  have HJ := Aside0.mk (JS.start hm hb.size)
  have HK := Aside0.mk (JK.of_below hb)
  clear hm hb
  go_upto_region 3 with (first | ((with_reducible refine gate_dst (N := 2) rfl ?_); refine box_event ?hg (N := 2) ?hd (cs := #[.string (⟨#[]⟩ : ByteArray), .string (⟨#[]⟩ : ByteArray), .string (⟨#[]⟩ : ByteArray), .string (⟨#[]⟩ : ByteArray)]) (t := 23) ?hr ?_; (case hd => rfl); (case hg => rfl); (case hr => first | (go_simp; done) | (go_simp; rfl)); intro gbc hg wc hbox hb; have GKc := Aside0.mk ((by rw [hg]; exact JK.size (by (with_reducible repeat (first | apply JK.drewN | apply JK.drew | apply JK.alloc)); exact HK.out) : w.heap.size ≤ gbc)); have GJc := Aside0.mk ((by rw [hg]; exact JS.size0 (base := w.heap.size) (ok := fun k => w.heap.size ≤ k) (w0 := w1) (g := g) (cur := []) (by (with_reducible repeat (first | apply JS.drewN | apply JS.drew | apply JS.alloc)); exact HJ.out) : w1.heap.size ≤ gbc)); have n_HK := Aside0.mk (HK.out.trans (JK.of_below hb)); have n_HJ := Aside0.mk (JS.below (base := w.heap.size) (ok := fun k => w.heap.size ≤ k) (w0 := w1) (g := g) (cur := []) (by (with_reducible repeat (first | apply JS.drewN | apply JS.drew | apply JS.alloc)); exact HJ.out) hb); clear HK HJ; have HK := n_HK; have HJ := n_HJ; clear n_HK n_HJ; have BKc := Aside0.mk hbox; clear hb hbox hg; have zc_0 : World.cell? _ ⟨gbc, 0, none⟩ = some (.string (⟨#[]⟩ : ByteArray)) := (blk_cell BKc.out 0).trans rfl; have fc_0 := blk_frozen BKc.out 0; have zc_1 : World.cell? _ ⟨gbc, 1, none⟩ = some (.string (⟨#[]⟩ : ByteArray)) := (blk_cell BKc.out 1).trans rfl; have fc_1 := blk_frozen BKc.out 1; have zc_2 : World.cell? _ ⟨gbc, 2, none⟩ = some (.string (⟨#[]⟩ : ByteArray)) := (blk_cell BKc.out 2).trans rfl; have fc_2 := blk_frozen BKc.out 2; have zc_3 : World.cell? _ ⟨gbc, 3, none⟩ = some (.string (⟨#[]⟩ : ByteArray)) := (blk_cell BKc.out 3).trans rfl; have fc_3 := blk_frozen BKc.out 3; have zc_0 : World.cell? _ ⟨gbc, 0, none⟩ = some (.string (⟨#[]⟩ : ByteArray)) := (blk_cell BKc.out 0).trans rfl; have fc_0 := blk_frozen BKc.out 0; have zc_1 : World.cell? _ ⟨gbc, 1, none⟩ = some (.string (⟨#[]⟩ : ByteArray)) := (blk_cell BKc.out 1).trans rfl; have fc_1 := blk_frozen BKc.out 1; have zc_2 : World.cell? _ ⟨gbc, 2, none⟩ = some (.string (⟨#[]⟩ : ByteArray)) := (blk_cell BKc.out 2).trans rfl; have fc_2 := blk_frozen BKc.out 2; have zc_3 : World.cell? _ ⟨gbc, 3, none⟩ = some (.string (⟨#[]⟩ : ByteArray)) := (blk_cell BKc.out 3).trans rfl; have fc_3 := blk_frozen BKc.out 3))
  refine start_ (n := 8) (S := HeldC gbc #[.string (⟨#[99, 97, 116]⟩ : ByteArray), .string (⟨#[117]⟩ : ByteArray), .string (⟨#[100]⟩ : ByteArray), .string (⟨#[97, 108]⟩ : ByteArray)] 23) (ds := []) #[false, false, false, false, false, false, false, false] (by kernel_rfl) rfl rfl (HeldC.of (by (with_reducible repeat (first | refine blk_drewN ?_ _ | refine blk_drew ?_ | refine blk_alloc ?_ _)); refine blk_put (cs := #[.string (⟨#[99, 97, 116]⟩ : ByteArray), .string (⟨#[117]⟩ : ByteArray), .string (⟨#[100]⟩ : ByteArray), .string (⟨#[]⟩ : ByteArray)]) ?_ 3 _ rfl; (with_reducible repeat (first | refine blk_drewN ?_ _ | refine blk_drew ?_ | refine blk_alloc ?_ _)); refine blk_put (cs := #[.string (⟨#[99, 97, 116]⟩ : ByteArray), .string (⟨#[117]⟩ : ByteArray), .string (⟨#[]⟩ : ByteArray), .string (⟨#[]⟩ : ByteArray)]) ?_ 2 _ rfl; (with_reducible repeat (first | refine blk_drewN ?_ _ | refine blk_drew ?_ | refine blk_alloc ?_ _)); refine blk_put (cs := #[.string (⟨#[99, 97, 116]⟩ : ByteArray), .string (⟨#[]⟩ : ByteArray), .string (⟨#[]⟩ : ByteArray), .string (⟨#[]⟩ : ByteArray)]) ?_ 1 _ rfl; (with_reducible repeat (first | refine blk_drewN ?_ _ | refine blk_drew ?_ | refine blk_alloc ?_ _)); refine blk_put (cs := #[.string (⟨#[]⟩ : ByteArray), .string (⟨#[]⟩ : ByteArray), .string (⟨#[]⟩ : ByteArray), .string (⟨#[]⟩ : ByteArray)]) ?_ 0 _ rfl; (with_reducible repeat (first | refine blk_drewN ?_ _ | refine blk_drew ?_ | refine blk_alloc ?_ _)); exact BKc.out)) (fun hHeld => ?_)
  have HJ3 := at_world hHeld (F := fun Y => JS w.heap.size (fun k => w.heap.size ≤ k) w1 g [] Y) (by (with_reducible repeat (first | apply JS.drewN | apply JS.drew | apply JS.alloc)); refine JS.setb (q := 23) ?_ GJc.out (by (with_reducible repeat (first | refine blk_drewN ?_ _ | refine blk_drew ?_ | refine blk_alloc ?_ _)); refine blk_put (cs := #[.string (⟨#[99, 97, 116]⟩ : ByteArray), .string (⟨#[117]⟩ : ByteArray), .string (⟨#[]⟩ : ByteArray), .string (⟨#[]⟩ : ByteArray)]) ?_ 2 _ rfl; (with_reducible repeat (first | refine blk_drewN ?_ _ | refine blk_drew ?_ | refine blk_alloc ?_ _)); refine blk_put (cs := #[.string (⟨#[99, 97, 116]⟩ : ByteArray), .string (⟨#[]⟩ : ByteArray), .string (⟨#[]⟩ : ByteArray), .string (⟨#[]⟩ : ByteArray)]) ?_ 1 _ rfl; (with_reducible repeat (first | refine blk_drewN ?_ _ | refine blk_drew ?_ | refine blk_alloc ?_ _)); refine blk_put (cs := #[.string (⟨#[]⟩ : ByteArray), .string (⟨#[]⟩ : ByteArray), .string (⟨#[]⟩ : ByteArray), .string (⟨#[]⟩ : ByteArray)]) ?_ 0 _ rfl; (with_reducible repeat (first | refine blk_drewN ?_ _ | refine blk_drew ?_ | refine blk_alloc ?_ _)); exact BKc.out) _ (by decide); (with_reducible repeat (first | apply JS.drewN | apply JS.drew | apply JS.alloc)); refine JS.setb (q := 23) ?_ GJc.out (by (with_reducible repeat (first | refine blk_drewN ?_ _ | refine blk_drew ?_ | refine blk_alloc ?_ _)); refine blk_put (cs := #[.string (⟨#[99, 97, 116]⟩ : ByteArray), .string (⟨#[]⟩ : ByteArray), .string (⟨#[]⟩ : ByteArray), .string (⟨#[]⟩ : ByteArray)]) ?_ 1 _ rfl; (with_reducible repeat (first | refine blk_drewN ?_ _ | refine blk_drew ?_ | refine blk_alloc ?_ _)); refine blk_put (cs := #[.string (⟨#[]⟩ : ByteArray), .string (⟨#[]⟩ : ByteArray), .string (⟨#[]⟩ : ByteArray), .string (⟨#[]⟩ : ByteArray)]) ?_ 0 _ rfl; (with_reducible repeat (first | refine blk_drewN ?_ _ | refine blk_drew ?_ | refine blk_alloc ?_ _)); exact BKc.out) _ (by decide); (with_reducible repeat (first | apply JS.drewN | apply JS.drew | apply JS.alloc)); refine JS.setb (q := 23) ?_ GJc.out (by (with_reducible repeat (first | refine blk_drewN ?_ _ | refine blk_drew ?_ | refine blk_alloc ?_ _)); refine blk_put (cs := #[.string (⟨#[]⟩ : ByteArray), .string (⟨#[]⟩ : ByteArray), .string (⟨#[]⟩ : ByteArray), .string (⟨#[]⟩ : ByteArray)]) ?_ 0 _ rfl; (with_reducible repeat (first | refine blk_drewN ?_ _ | refine blk_drew ?_ | refine blk_alloc ?_ _)); exact BKc.out) _ (by decide); (with_reducible repeat (first | apply JS.drewN | apply JS.drew | apply JS.alloc)); refine JS.setb (q := 23) ?_ GJc.out (by (with_reducible repeat (first | refine blk_drewN ?_ _ | refine blk_drew ?_ | refine blk_alloc ?_ _)); exact BKc.out) _ (by decide); (with_reducible repeat (first | apply JS.drewN | apply JS.drew | apply JS.alloc)); exact HJ.out)
  have HK3 := at_world hHeld (F := fun Y => JK w Y) (by (with_reducible repeat (first | apply JK.drewN | apply JK.drew | apply JK.alloc)); refine JK.setb ?_ GKc.out _; (with_reducible repeat (first | apply JK.drewN | apply JK.drew | apply JK.alloc)); refine JK.setb ?_ GKc.out _; (with_reducible repeat (first | apply JK.drewN | apply JK.drew | apply JK.alloc)); refine JK.setb ?_ GKc.out _; (with_reducible repeat (first | apply JK.drewN | apply JK.drew | apply JK.alloc)); refine JK.setb ?_ GKc.out _; (with_reducible repeat (first | apply JK.drewN | apply JK.drew | apply JK.alloc)); exact HK.out)
  clear HJ HK BKc
  have HJ := HJ3
  have HK := HK3
  have BKc := Aside0.mk (HeldC.blk hHeld)
  clear HJ3 HK3
  refine pure_ (i := 0) (N := some 11) (v := ?_) (a' := ?_) #[true, false, false, false, false, false, false, false] rfl rfl (by kernel_rfl) (fun _ _ _ h => h) (Or.inl ⟨by rfl, ?_⟩) ?_ ?_
  rotate_left
  · intro w'
    go_simp
    with_reducible rfl
  rotate_left
  · simp only [Act.put, List.setIfInBounds_toArray, List.set_cons_zero, List.set_cons_succ, i64_w, i32_w]
    rfl
  refine take_ (i := 1) (N := some 12) (v := ?_) (a' := ?_) #[true, true, false, false, false, false, false, false] rfl rfl (by kernel_rfl) (fun _ _ _ h => h) (Or.inl ⟨by rfl, ?_⟩) hHeld ?_ ?_
  rotate_left
  · rintro w' s0
    have z0 : w'.cell? ⟨gbc, 0, none⟩ = some (.string (⟨#[99, 97, 116]⟩ : ByteArray)) := (blk_cell (HeldC.blk s0) 0).trans rfl
    have z1 : w'.cell? ⟨gbc, 1, none⟩ = some (.string (⟨#[117]⟩ : ByteArray)) := (blk_cell (HeldC.blk s0) 1).trans rfl
    have z2 : w'.cell? ⟨gbc, 2, none⟩ = some (.string (⟨#[100]⟩ : ByteArray)) := (blk_cell (HeldC.blk s0) 2).trans rfl
    have z3 : w'.cell? ⟨gbc, 3, none⟩ = some (.string (⟨#[97, 108]⟩ : ByteArray)) := (blk_cell (HeldC.blk s0) 3).trans rfl
    go_simp
    with_reducible rfl
  rotate_left
  · simp only [Act.put, List.setIfInBounds_toArray, List.set_cons_zero, List.set_cons_succ, i64_w, i32_w]
    rfl
  refine pure_ (i := 3) (N := some 14) (v := ?_) (a' := ?_) #[true, true, false, true, false, false, false, false] rfl rfl (by kernel_rfl) (fun _ _ _ h => h) (Or.inl ⟨by rfl, ?_⟩) ?_ ?_
  rotate_left
  · intro w'
    go_simp
    with_reducible rfl
  rotate_left
  · simp only [Act.put, List.setIfInBounds_toArray, List.set_cons_zero, List.set_cons_succ, i64_w, i32_w]
    rfl
  refine take_ (i := 4) (N := some 15) (v := ?_) (a' := ?_) #[true, true, false, true, true, false, false, false] rfl rfl (by kernel_rfl) (fun _ _ _ h => h) (Or.inl ⟨by rfl, ?_⟩) hHeld ?_ ?_
  rotate_left
  · rintro w' s0
    have z0 : w'.cell? ⟨gbc, 0, none⟩ = some (.string (⟨#[99, 97, 116]⟩ : ByteArray)) := (blk_cell (HeldC.blk s0) 0).trans rfl
    have z1 : w'.cell? ⟨gbc, 1, none⟩ = some (.string (⟨#[117]⟩ : ByteArray)) := (blk_cell (HeldC.blk s0) 1).trans rfl
    have z2 : w'.cell? ⟨gbc, 2, none⟩ = some (.string (⟨#[100]⟩ : ByteArray)) := (blk_cell (HeldC.blk s0) 2).trans rfl
    have z3 : w'.cell? ⟨gbc, 3, none⟩ = some (.string (⟨#[97, 108]⟩ : ByteArray)) := (blk_cell (HeldC.blk s0) 3).trans rfl
    go_simp
    with_reducible rfl
  rotate_left
  · simp only [Act.put, List.setIfInBounds_toArray, List.set_cons_zero, List.set_cons_succ, i64_w, i32_w]
    rfl
  refine one_ (i := 2) (N := some 13) #[true, true, true, true, true, false, false, false] rfl rfl (by kernel_rfl) (by decide) (fun K hK => ?_)
  refine goes_ Tryd.func12 (by kernel_rfl) rfl #[.pointer (some ⟨g, 0, none⟩), .agg #[.string (⟨#[99, 97, 116]⟩ : ByteArray), .string (⟨#[117]⟩ : ByteArray), .string (⟨#[100]⟩ : ByteArray), .string (⟨#[97, 108]⟩ : ByteArray)]] (by rfl) rfl rfl (by (try simp only [List.map_toArray, List.map_cons, List.map_nil]); first | done | rfl) ?_
  refine (cl_new (⟨#[99, 97, 116]⟩ : ByteArray) (⟨#[117]⟩ : ByteArray) (⟨#[100]⟩ : ByteArray) (⟨#[97, 108]⟩ : ByteArray) 0 claS HJ.out (KV.nil _) (by decide) claw1.1 claw1.2).mono ?_
  rintro e w4 ⟨rfl, hj, hk⟩
  refine ⟨_, rfl, ?_⟩
  have n_HK := Aside0.mk (HK.out.trans hk)
  have n_HJ := Aside0.mk (hj)
  have n_BKc := Aside0.mk (JK.blk (b := gbc) (c := #[.string (⟨#[99, 97, 116]⟩ : ByteArray), .string (⟨#[117]⟩ : ByteArray), .string (⟨#[100]⟩ : ByteArray), .string (⟨#[97, 108]⟩ : ByteArray)]) (q := 23) (x := (0, 0)) hk (by (with_reducible repeat (first | refine blk_drewN ?_ _ | refine blk_drew ?_ | refine blk_alloc ?_ _)); exact BKc.out) (by decide))
  clear HK HJ BKc
  have HK := n_HK
  have HJ := n_HJ
  have BKc := n_BKc
  clear n_HK n_HJ n_BKc
  clear hj hk
  refine hK.out _ _ (HeldC.of BKc.out) (fun hHeld => ?_)
  clear hK K
  refine norm_ (a' := ?_) ?_ ?_
  rotate_left
  · show Act.put _ (some 13) _ = _
    simp only [Act.put, List.setIfInBounds_toArray, List.set_cons_zero, List.set_cons_succ, i64_w, i32_w]
    rfl
  refine one_ (i := 5) (N := some 16) #[true, true, true, true, true, true, false, false] rfl rfl (by kernel_rfl) (by decide) (fun K hK => ?_)
  refine goes_ Tryd.func12 (by kernel_rfl) rfl #[.pointer (some ⟨g, 0, none⟩), .agg #[.string (⟨#[99, 97, 116]⟩ : ByteArray), .string (⟨#[117]⟩ : ByteArray), .string (⟨#[100]⟩ : ByteArray), .string (⟨#[97, 108]⟩ : ByteArray)]] (by rfl) rfl rfl (by (try simp only [List.map_toArray, List.map_cons, List.map_nil]); first | done | rfl) ?_
  refine (cl_new (⟨#[99, 97, 116]⟩ : ByteArray) (⟨#[117]⟩ : ByteArray) (⟨#[100]⟩ : ByteArray) (⟨#[97, 108]⟩ : ByteArray) 9 claS HJ.out claw7 (by decide) claw2.1 claw2.2).mono ?_
  rintro e w5 ⟨rfl, hj, hk⟩
  refine ⟨_, rfl, ?_⟩
  have n_HK := Aside0.mk (HK.out.trans hk)
  have n_HJ := Aside0.mk (hj)
  have n_BKc := Aside0.mk (JK.blk (b := gbc) (c := #[.string (⟨#[99, 97, 116]⟩ : ByteArray), .string (⟨#[117]⟩ : ByteArray), .string (⟨#[100]⟩ : ByteArray), .string (⟨#[97, 108]⟩ : ByteArray)]) (q := 23) (x := (0, 0)) hk (by (with_reducible repeat (first | refine blk_drewN ?_ _ | refine blk_drew ?_ | refine blk_alloc ?_ _)); exact BKc.out) (by decide))
  clear HK HJ BKc
  have HK := n_HK
  have HJ := n_HJ
  have BKc := n_BKc
  clear n_HK n_HJ n_BKc
  clear hj hk
  refine hK.out _ _ (HeldC.of BKc.out) (fun hHeld => ?_)
  clear hK K
  refine norm_ (a' := ?_) ?_ ?_
  rotate_left
  · show Act.put _ (some 16) _ = _
    simp only [Act.put, List.setIfInBounds_toArray, List.set_cons_zero, List.set_cons_succ, i64_w, i32_w]
    rfl
  refine pure_ (i := 6) (N := some 3) (v := ?_) (a' := ?_) #[true, true, true, true, true, true, true, false] rfl rfl (by kernel_rfl) (fun _ _ _ h => h) (Or.inl ⟨by rfl, ?_⟩) ?_ ?_
  rotate_left
  · intro w'
    go_simp
    with_reducible rfl
  rotate_left
  · simp only [Act.put, List.setIfInBounds_toArray, List.set_cons_zero, List.set_cons_succ, i64_w, i32_w]
    rfl
  refine pure_ (i := 7) (N := some 4) (v := ?_) (a' := ?_) #[true, true, true, true, true, true, true, true] rfl rfl (by kernel_rfl) (fun _ _ _ h => h) (Or.inl ⟨by rfl, ?_⟩) ?_ ?_
  rotate_left
  · intro w'
    go_simp
    with_reducible rfl
  rotate_left
  · simp only [Act.put, List.setIfInBounds_toArray, List.set_cons_zero, List.set_cons_succ, i64_w, i32_w]
    rfl
  refine done_ (by kernel_rfl) ?_
  clear hHeld
  go_wp2_with fail
  refine (cl_get (⟨#[99, 97, 116]⟩ : ByteArray) (⟨#[99, 97, 116]⟩ : ByteArray) (⟨#[117]⟩ : ByteArray) (⟨#[100]⟩ : ByteArray) (⟨#[97, 108]⟩ : ByteArray) 0 HJ.out claw7 (by decide) claw3).mono ?_
  rintro e w6 ⟨rfl, hb⟩
  have n_HK := Aside0.mk (HK.out.trans (JK.of_below hb))
  have n_HJ := Aside0.mk (JS.below (base := w.heap.size) (ok := fun k => w.heap.size ≤ k) (w0 := w1) (g := g) (cur := claS) (by (with_reducible repeat (first | apply JS.drewN | apply JS.drew | apply JS.alloc)); exact HJ.out) hb)
  have n_BKc := Aside0.mk (blk_below (g := gbc) (o := .cells #[.string (⟨#[99, 97, 116]⟩ : ByteArray), .string (⟨#[117]⟩ : ByteArray), .string (⟨#[100]⟩ : ByteArray), .string (⟨#[97, 108]⟩ : ByteArray)] 23 (0, 0)) (by (with_reducible repeat (first | refine blk_drewN ?_ _ | refine blk_drew ?_ | refine blk_alloc ?_ _)); exact BKc.out) hb)
  clear HK HJ BKc
  have HK := n_HK
  have HJ := n_HJ
  have BKc := n_BKc
  clear n_HK n_HJ n_BKc
  clear hb
  go_wp2_with (first | ((with_reducible refine gate_dst (N := 5) rfl ?_); refine box_event ?hg (N := 5) ?hd (cs := #[.string (⟨#[]⟩ : ByteArray), .string (⟨#[]⟩ : ByteArray), .string (⟨#[]⟩ : ByteArray), .string (⟨#[]⟩ : ByteArray)]) (t := 23) ?hr ?_; (case hd => rfl); (case hg => rfl); (case hr => first | (go_simp; done) | (go_simp; rfl)); intro gbx hg wx hbox hb; have GKx := Aside0.mk ((by rw [hg]; exact JK.size (by (with_reducible repeat (first | apply JK.drewN | apply JK.drew | apply JK.alloc)); exact HK.out) : w.heap.size ≤ gbx)); have GJx := Aside0.mk ((by rw [hg]; exact JS.size0 (base := w.heap.size) (ok := fun k => w.heap.size ≤ k) (w0 := w1) (g := g) (cur := claS) (by (with_reducible repeat (first | apply JS.drewN | apply JS.drew | apply JS.alloc)); exact HJ.out) : w1.heap.size ≤ gbx)); have NBc_x := Aside0.mk ((by rw [hg]; exact Nat.ne_of_lt (blk_lt (g := gbc) (o := .cells #[.string (⟨#[99, 97, 116]⟩ : ByteArray), .string (⟨#[117]⟩ : ByteArray), .string (⟨#[100]⟩ : ByteArray), .string (⟨#[97, 108]⟩ : ByteArray)] 23 (0, 0)) (by (with_reducible repeat (first | refine blk_drewN ?_ _ | refine blk_drew ?_ | refine blk_alloc ?_ _)); exact BKc.out)) : gbc ≠ gbx)); have NBx_c := Aside0.mk ((by rw [hg]; exact Nat.ne_of_gt (blk_lt (g := gbc) (o := .cells #[.string (⟨#[99, 97, 116]⟩ : ByteArray), .string (⟨#[117]⟩ : ByteArray), .string (⟨#[100]⟩ : ByteArray), .string (⟨#[97, 108]⟩ : ByteArray)] 23 (0, 0)) (by (with_reducible repeat (first | refine blk_drewN ?_ _ | refine blk_drew ?_ | refine blk_alloc ?_ _)); exact BKc.out)) : gbx ≠ gbc)); have n_HK := Aside0.mk (HK.out.trans (JK.of_below hb)); have n_HJ := Aside0.mk (JS.below (base := w.heap.size) (ok := fun k => w.heap.size ≤ k) (w0 := w1) (g := g) (cur := claS) (by (with_reducible repeat (first | apply JS.drewN | apply JS.drew | apply JS.alloc)); exact HJ.out) hb); have n_BKc := Aside0.mk (blk_below (g := gbc) (o := .cells #[.string (⟨#[99, 97, 116]⟩ : ByteArray), .string (⟨#[117]⟩ : ByteArray), .string (⟨#[100]⟩ : ByteArray), .string (⟨#[97, 108]⟩ : ByteArray)] 23 (0, 0)) (by (with_reducible repeat (first | refine blk_drewN ?_ _ | refine blk_drew ?_ | refine blk_alloc ?_ _)); exact BKc.out) hb); clear HK HJ BKc; have HK := n_HK; have HJ := n_HJ; have BKc := n_BKc; clear n_HK n_HJ n_BKc; have BKx := Aside0.mk hbox; clear hb hbox hg; have zx_0 : World.cell? _ ⟨gbx, 0, none⟩ = some (.string (⟨#[]⟩ : ByteArray)) := (blk_cell BKx.out 0).trans rfl; have fx_0 := blk_frozen BKx.out 0; have zx_1 : World.cell? _ ⟨gbx, 1, none⟩ = some (.string (⟨#[]⟩ : ByteArray)) := (blk_cell BKx.out 1).trans rfl; have fx_1 := blk_frozen BKx.out 1; have zx_2 : World.cell? _ ⟨gbx, 2, none⟩ = some (.string (⟨#[]⟩ : ByteArray)) := (blk_cell BKx.out 2).trans rfl; have fx_2 := blk_frozen BKx.out 2; have zx_3 : World.cell? _ ⟨gbx, 3, none⟩ = some (.string (⟨#[]⟩ : ByteArray)) := (blk_cell BKx.out 3).trans rfl; have fx_3 := blk_frozen BKx.out 3; have hnxc := NBx_c.out; have hmxc := NBc_x.out; have zx_0 : World.cell? _ ⟨gbx, 0, none⟩ = some (.string (⟨#[]⟩ : ByteArray)) := (blk_cell BKx.out 0).trans rfl; have fx_0 := blk_frozen BKx.out 0; have zx_1 : World.cell? _ ⟨gbx, 1, none⟩ = some (.string (⟨#[]⟩ : ByteArray)) := (blk_cell BKx.out 1).trans rfl; have fx_1 := blk_frozen BKx.out 1; have zx_2 : World.cell? _ ⟨gbx, 2, none⟩ = some (.string (⟨#[]⟩ : ByteArray)) := (blk_cell BKx.out 2).trans rfl; have fx_2 := blk_frozen BKx.out 2; have zx_3 : World.cell? _ ⟨gbx, 3, none⟩ = some (.string (⟨#[]⟩ : ByteArray)) := (blk_cell BKx.out 3).trans rfl; have fx_3 := blk_frozen BKx.out 3; have hnxc := NBx_c.out; have hmxc := NBc_x.out))
  refine (cl_get (base := w.heap.size) (ok := fun k => w.heap.size ≤ k) (w0 := w1) (⟨#[100, 111, 103]⟩ : ByteArray) (⟨#[]⟩ : ByteArray) (⟨#[]⟩ : ByteArray) (⟨#[]⟩ : ByteArray) (⟨#[]⟩ : ByteArray) 8 (by (with_reducible repeat (first | apply JS.drewN | apply JS.drew | apply JS.alloc)); refine JS.setb (q := 23) ?_ GJx.out (by (with_reducible repeat (first | refine blk_drewN ?_ _ | refine blk_drew ?_ | refine blk_alloc ?_ _)); refine blk_put (cs := #[.string (⟨#[99, 97, 116]⟩ : ByteArray), .string (⟨#[117]⟩ : ByteArray), .string (⟨#[]⟩ : ByteArray), .string (⟨#[]⟩ : ByteArray)]) ?_ 2 _ rfl; (with_reducible repeat (first | refine blk_drewN ?_ _ | refine blk_drew ?_ | refine blk_alloc ?_ _)); refine blk_put (cs := #[.string (⟨#[99, 97, 116]⟩ : ByteArray), .string (⟨#[]⟩ : ByteArray), .string (⟨#[]⟩ : ByteArray), .string (⟨#[]⟩ : ByteArray)]) ?_ 1 _ rfl; (with_reducible repeat (first | refine blk_drewN ?_ _ | refine blk_drew ?_ | refine blk_alloc ?_ _)); refine blk_put (cs := #[.string (⟨#[]⟩ : ByteArray), .string (⟨#[]⟩ : ByteArray), .string (⟨#[]⟩ : ByteArray), .string (⟨#[]⟩ : ByteArray)]) ?_ 0 _ rfl; (with_reducible repeat (first | refine blk_drewN ?_ _ | refine blk_drew ?_ | refine blk_alloc ?_ _)); exact BKx.out) _ (by decide); (with_reducible repeat (first | apply JS.drewN | apply JS.drew | apply JS.alloc)); refine JS.setb (q := 23) ?_ GJx.out (by (with_reducible repeat (first | refine blk_drewN ?_ _ | refine blk_drew ?_ | refine blk_alloc ?_ _)); refine blk_put (cs := #[.string (⟨#[99, 97, 116]⟩ : ByteArray), .string (⟨#[]⟩ : ByteArray), .string (⟨#[]⟩ : ByteArray), .string (⟨#[]⟩ : ByteArray)]) ?_ 1 _ rfl; (with_reducible repeat (first | refine blk_drewN ?_ _ | refine blk_drew ?_ | refine blk_alloc ?_ _)); refine blk_put (cs := #[.string (⟨#[]⟩ : ByteArray), .string (⟨#[]⟩ : ByteArray), .string (⟨#[]⟩ : ByteArray), .string (⟨#[]⟩ : ByteArray)]) ?_ 0 _ rfl; (with_reducible repeat (first | refine blk_drewN ?_ _ | refine blk_drew ?_ | refine blk_alloc ?_ _)); exact BKx.out) _ (by decide); (with_reducible repeat (first | apply JS.drewN | apply JS.drew | apply JS.alloc)); refine JS.setb (q := 23) ?_ GJx.out (by (with_reducible repeat (first | refine blk_drewN ?_ _ | refine blk_drew ?_ | refine blk_alloc ?_ _)); refine blk_put (cs := #[.string (⟨#[]⟩ : ByteArray), .string (⟨#[]⟩ : ByteArray), .string (⟨#[]⟩ : ByteArray), .string (⟨#[]⟩ : ByteArray)]) ?_ 0 _ rfl; (with_reducible repeat (first | refine blk_drewN ?_ _ | refine blk_drew ?_ | refine blk_alloc ?_ _)); exact BKx.out) _ (by decide); (with_reducible repeat (first | apply JS.drewN | apply JS.drew | apply JS.alloc)); refine JS.setb (q := 23) ?_ GJx.out (by (with_reducible repeat (first | refine blk_drewN ?_ _ | refine blk_drew ?_ | refine blk_alloc ?_ _)); exact BKx.out) _ (by decide); (with_reducible repeat (first | apply JS.drewN | apply JS.drew | apply JS.alloc)); exact HJ.out) claw7 (by decide) claw4).mono ?_
  rintro e w7 ⟨rfl, hb⟩
  have n_HK := Aside0.mk ((by (with_reducible repeat (first | apply JK.drewN | apply JK.drew | apply JK.alloc)); refine JK.setb ?_ GKx.out _; (with_reducible repeat (first | apply JK.drewN | apply JK.drew | apply JK.alloc)); refine JK.setb ?_ GKx.out _; (with_reducible repeat (first | apply JK.drewN | apply JK.drew | apply JK.alloc)); refine JK.setb ?_ GKx.out _; (with_reducible repeat (first | apply JK.drewN | apply JK.drew | apply JK.alloc)); refine JK.setb ?_ GKx.out _; (with_reducible repeat (first | apply JK.drewN | apply JK.drew | apply JK.alloc)); exact HK.out : JK _ _).trans (JK.of_below hb))
  have n_HJ := Aside0.mk (JS.below (base := w.heap.size) (ok := fun k => w.heap.size ≤ k) (w0 := w1) (g := g) (cur := claS) (by (with_reducible repeat (first | apply JS.drewN | apply JS.drew | apply JS.alloc)); refine JS.setb (q := 23) ?_ GJx.out (by (with_reducible repeat (first | refine blk_drewN ?_ _ | refine blk_drew ?_ | refine blk_alloc ?_ _)); refine blk_put (cs := #[.string (⟨#[99, 97, 116]⟩ : ByteArray), .string (⟨#[117]⟩ : ByteArray), .string (⟨#[]⟩ : ByteArray), .string (⟨#[]⟩ : ByteArray)]) ?_ 2 _ rfl; (with_reducible repeat (first | refine blk_drewN ?_ _ | refine blk_drew ?_ | refine blk_alloc ?_ _)); refine blk_put (cs := #[.string (⟨#[99, 97, 116]⟩ : ByteArray), .string (⟨#[]⟩ : ByteArray), .string (⟨#[]⟩ : ByteArray), .string (⟨#[]⟩ : ByteArray)]) ?_ 1 _ rfl; (with_reducible repeat (first | refine blk_drewN ?_ _ | refine blk_drew ?_ | refine blk_alloc ?_ _)); refine blk_put (cs := #[.string (⟨#[]⟩ : ByteArray), .string (⟨#[]⟩ : ByteArray), .string (⟨#[]⟩ : ByteArray), .string (⟨#[]⟩ : ByteArray)]) ?_ 0 _ rfl; (with_reducible repeat (first | refine blk_drewN ?_ _ | refine blk_drew ?_ | refine blk_alloc ?_ _)); exact BKx.out) _ (by decide); (with_reducible repeat (first | apply JS.drewN | apply JS.drew | apply JS.alloc)); refine JS.setb (q := 23) ?_ GJx.out (by (with_reducible repeat (first | refine blk_drewN ?_ _ | refine blk_drew ?_ | refine blk_alloc ?_ _)); refine blk_put (cs := #[.string (⟨#[99, 97, 116]⟩ : ByteArray), .string (⟨#[]⟩ : ByteArray), .string (⟨#[]⟩ : ByteArray), .string (⟨#[]⟩ : ByteArray)]) ?_ 1 _ rfl; (with_reducible repeat (first | refine blk_drewN ?_ _ | refine blk_drew ?_ | refine blk_alloc ?_ _)); refine blk_put (cs := #[.string (⟨#[]⟩ : ByteArray), .string (⟨#[]⟩ : ByteArray), .string (⟨#[]⟩ : ByteArray), .string (⟨#[]⟩ : ByteArray)]) ?_ 0 _ rfl; (with_reducible repeat (first | refine blk_drewN ?_ _ | refine blk_drew ?_ | refine blk_alloc ?_ _)); exact BKx.out) _ (by decide); (with_reducible repeat (first | apply JS.drewN | apply JS.drew | apply JS.alloc)); refine JS.setb (q := 23) ?_ GJx.out (by (with_reducible repeat (first | refine blk_drewN ?_ _ | refine blk_drew ?_ | refine blk_alloc ?_ _)); refine blk_put (cs := #[.string (⟨#[]⟩ : ByteArray), .string (⟨#[]⟩ : ByteArray), .string (⟨#[]⟩ : ByteArray), .string (⟨#[]⟩ : ByteArray)]) ?_ 0 _ rfl; (with_reducible repeat (first | refine blk_drewN ?_ _ | refine blk_drew ?_ | refine blk_alloc ?_ _)); exact BKx.out) _ (by decide); (with_reducible repeat (first | apply JS.drewN | apply JS.drew | apply JS.alloc)); refine JS.setb (q := 23) ?_ GJx.out (by (with_reducible repeat (first | refine blk_drewN ?_ _ | refine blk_drew ?_ | refine blk_alloc ?_ _)); exact BKx.out) _ (by decide); (with_reducible repeat (first | apply JS.drewN | apply JS.drew | apply JS.alloc)); exact HJ.out) hb)
  have n_BKc := Aside0.mk (blk_below (g := gbc) (o := .cells #[.string (⟨#[99, 97, 116]⟩ : ByteArray), .string (⟨#[117]⟩ : ByteArray), .string (⟨#[100]⟩ : ByteArray), .string (⟨#[97, 108]⟩ : ByteArray)] 23 (0, 0)) (by (with_reducible repeat (first | refine blk_drewN ?_ _ | refine blk_drew ?_ | refine blk_alloc ?_ _)); refine blk_far ?_ NBc_x.out _; (with_reducible repeat (first | refine blk_drewN ?_ _ | refine blk_drew ?_ | refine blk_alloc ?_ _)); refine blk_far ?_ NBc_x.out _; (with_reducible repeat (first | refine blk_drewN ?_ _ | refine blk_drew ?_ | refine blk_alloc ?_ _)); refine blk_far ?_ NBc_x.out _; (with_reducible repeat (first | refine blk_drewN ?_ _ | refine blk_drew ?_ | refine blk_alloc ?_ _)); refine blk_far ?_ NBc_x.out _; (with_reducible repeat (first | refine blk_drewN ?_ _ | refine blk_drew ?_ | refine blk_alloc ?_ _)); exact BKc.out) hb)
  have n_BKx := Aside0.mk (blk_below (g := gbx) (o := .cells #[.string (⟨#[99, 97, 116]⟩ : ByteArray), .string (⟨#[117]⟩ : ByteArray), .string (⟨#[100]⟩ : ByteArray), .string (⟨#[97, 108]⟩ : ByteArray)] 23 (0, 0)) (by (with_reducible repeat (first | refine blk_drewN ?_ _ | refine blk_drew ?_ | refine blk_alloc ?_ _)); refine blk_put (cs := #[.string (⟨#[99, 97, 116]⟩ : ByteArray), .string (⟨#[117]⟩ : ByteArray), .string (⟨#[100]⟩ : ByteArray), .string (⟨#[]⟩ : ByteArray)]) ?_ 3 _ rfl; (with_reducible repeat (first | refine blk_drewN ?_ _ | refine blk_drew ?_ | refine blk_alloc ?_ _)); refine blk_put (cs := #[.string (⟨#[99, 97, 116]⟩ : ByteArray), .string (⟨#[117]⟩ : ByteArray), .string (⟨#[]⟩ : ByteArray), .string (⟨#[]⟩ : ByteArray)]) ?_ 2 _ rfl; (with_reducible repeat (first | refine blk_drewN ?_ _ | refine blk_drew ?_ | refine blk_alloc ?_ _)); refine blk_put (cs := #[.string (⟨#[99, 97, 116]⟩ : ByteArray), .string (⟨#[]⟩ : ByteArray), .string (⟨#[]⟩ : ByteArray), .string (⟨#[]⟩ : ByteArray)]) ?_ 1 _ rfl; (with_reducible repeat (first | refine blk_drewN ?_ _ | refine blk_drew ?_ | refine blk_alloc ?_ _)); refine blk_put (cs := #[.string (⟨#[]⟩ : ByteArray), .string (⟨#[]⟩ : ByteArray), .string (⟨#[]⟩ : ByteArray), .string (⟨#[]⟩ : ByteArray)]) ?_ 0 _ rfl; (with_reducible repeat (first | refine blk_drewN ?_ _ | refine blk_drew ?_ | refine blk_alloc ?_ _)); exact BKx.out) hb)
  clear HK HJ BKc BKx
  have HK := n_HK
  have HJ := n_HJ
  have BKc := n_BKc
  have BKx := n_BKx
  clear n_HK n_HJ n_BKc n_BKx
  clear hb
  go_wp2_with (first | ((with_reducible refine gate_dst (N := 7) rfl ?_); refine box_event ?hg (N := 7) ?hd (cs := #[.string (⟨#[]⟩ : ByteArray), .string (⟨#[]⟩ : ByteArray), .string (⟨#[]⟩ : ByteArray), .string (⟨#[]⟩ : ByteArray)]) (t := 23) ?hr ?_; (case hd => rfl); (case hg => rfl); (case hr => first | (go_simp; done) | (go_simp; rfl)); intro gby hg wy hbox hb; have GKy := Aside0.mk ((by rw [hg]; exact JK.size (by (with_reducible repeat (first | apply JK.drewN | apply JK.drew | apply JK.alloc)); exact HK.out) : w.heap.size ≤ gby)); have GJy := Aside0.mk ((by rw [hg]; exact JS.size0 (base := w.heap.size) (ok := fun k => w.heap.size ≤ k) (w0 := w1) (g := g) (cur := claS) (by (with_reducible repeat (first | apply JS.drewN | apply JS.drew | apply JS.alloc)); exact HJ.out) : w1.heap.size ≤ gby)); have NBc_y := Aside0.mk ((by rw [hg]; exact Nat.ne_of_lt (blk_lt (g := gbc) (o := .cells #[.string (⟨#[99, 97, 116]⟩ : ByteArray), .string (⟨#[117]⟩ : ByteArray), .string (⟨#[100]⟩ : ByteArray), .string (⟨#[97, 108]⟩ : ByteArray)] 23 (0, 0)) (by (with_reducible repeat (first | refine blk_drewN ?_ _ | refine blk_drew ?_ | refine blk_alloc ?_ _)); exact BKc.out)) : gbc ≠ gby)); have NBy_c := Aside0.mk ((by rw [hg]; exact Nat.ne_of_gt (blk_lt (g := gbc) (o := .cells #[.string (⟨#[99, 97, 116]⟩ : ByteArray), .string (⟨#[117]⟩ : ByteArray), .string (⟨#[100]⟩ : ByteArray), .string (⟨#[97, 108]⟩ : ByteArray)] 23 (0, 0)) (by (with_reducible repeat (first | refine blk_drewN ?_ _ | refine blk_drew ?_ | refine blk_alloc ?_ _)); exact BKc.out)) : gby ≠ gbc)); have NBx_y := Aside0.mk ((by rw [hg]; exact Nat.ne_of_lt (blk_lt (g := gbx) (o := .cells #[.string (⟨#[99, 97, 116]⟩ : ByteArray), .string (⟨#[117]⟩ : ByteArray), .string (⟨#[100]⟩ : ByteArray), .string (⟨#[97, 108]⟩ : ByteArray)] 23 (0, 0)) (by (with_reducible repeat (first | refine blk_drewN ?_ _ | refine blk_drew ?_ | refine blk_alloc ?_ _)); exact BKx.out)) : gbx ≠ gby)); have NBy_x := Aside0.mk ((by rw [hg]; exact Nat.ne_of_gt (blk_lt (g := gbx) (o := .cells #[.string (⟨#[99, 97, 116]⟩ : ByteArray), .string (⟨#[117]⟩ : ByteArray), .string (⟨#[100]⟩ : ByteArray), .string (⟨#[97, 108]⟩ : ByteArray)] 23 (0, 0)) (by (with_reducible repeat (first | refine blk_drewN ?_ _ | refine blk_drew ?_ | refine blk_alloc ?_ _)); exact BKx.out)) : gby ≠ gbx)); have n_HK := Aside0.mk (HK.out.trans (JK.of_below hb)); have n_HJ := Aside0.mk (JS.below (base := w.heap.size) (ok := fun k => w.heap.size ≤ k) (w0 := w1) (g := g) (cur := claS) (by (with_reducible repeat (first | apply JS.drewN | apply JS.drew | apply JS.alloc)); exact HJ.out) hb); have n_BKc := Aside0.mk (blk_below (g := gbc) (o := .cells #[.string (⟨#[99, 97, 116]⟩ : ByteArray), .string (⟨#[117]⟩ : ByteArray), .string (⟨#[100]⟩ : ByteArray), .string (⟨#[97, 108]⟩ : ByteArray)] 23 (0, 0)) (by (with_reducible repeat (first | refine blk_drewN ?_ _ | refine blk_drew ?_ | refine blk_alloc ?_ _)); exact BKc.out) hb); have n_BKx := Aside0.mk (blk_below (g := gbx) (o := .cells #[.string (⟨#[99, 97, 116]⟩ : ByteArray), .string (⟨#[117]⟩ : ByteArray), .string (⟨#[100]⟩ : ByteArray), .string (⟨#[97, 108]⟩ : ByteArray)] 23 (0, 0)) (by (with_reducible repeat (first | refine blk_drewN ?_ _ | refine blk_drew ?_ | refine blk_alloc ?_ _)); exact BKx.out) hb); clear HK HJ BKc BKx; have HK := n_HK; have HJ := n_HJ; have BKc := n_BKc; have BKx := n_BKx; clear n_HK n_HJ n_BKc n_BKx; have BKy := Aside0.mk hbox; clear hb hbox hg; have zy_0 : World.cell? _ ⟨gby, 0, none⟩ = some (.string (⟨#[]⟩ : ByteArray)) := (blk_cell BKy.out 0).trans rfl; have fy_0 := blk_frozen BKy.out 0; have zy_1 : World.cell? _ ⟨gby, 1, none⟩ = some (.string (⟨#[]⟩ : ByteArray)) := (blk_cell BKy.out 1).trans rfl; have fy_1 := blk_frozen BKy.out 1; have zy_2 : World.cell? _ ⟨gby, 2, none⟩ = some (.string (⟨#[]⟩ : ByteArray)) := (blk_cell BKy.out 2).trans rfl; have fy_2 := blk_frozen BKy.out 2; have zy_3 : World.cell? _ ⟨gby, 3, none⟩ = some (.string (⟨#[]⟩ : ByteArray)) := (blk_cell BKy.out 3).trans rfl; have fy_3 := blk_frozen BKy.out 3; have hnyc := NBy_c.out; have hmyc := NBc_y.out; have hnyx := NBy_x.out; have hmyx := NBx_y.out; have zy_0 : World.cell? _ ⟨gby, 0, none⟩ = some (.string (⟨#[]⟩ : ByteArray)) := (blk_cell BKy.out 0).trans rfl; have fy_0 := blk_frozen BKy.out 0; have zy_1 : World.cell? _ ⟨gby, 1, none⟩ = some (.string (⟨#[]⟩ : ByteArray)) := (blk_cell BKy.out 1).trans rfl; have fy_1 := blk_frozen BKy.out 1; have zy_2 : World.cell? _ ⟨gby, 2, none⟩ = some (.string (⟨#[]⟩ : ByteArray)) := (blk_cell BKy.out 2).trans rfl; have fy_2 := blk_frozen BKy.out 2; have zy_3 : World.cell? _ ⟨gby, 3, none⟩ = some (.string (⟨#[]⟩ : ByteArray)) := (blk_cell BKy.out 3).trans rfl; have fy_3 := blk_frozen BKy.out 3; have hnyc := NBy_c.out; have hmyc := NBc_y.out; have hnyx := NBy_x.out; have hmyx := NBx_y.out; have zx_0 : World.cell? _ ⟨gbx, 0, none⟩ = some (.string (⟨#[99, 97, 116]⟩ : ByteArray)) := (blk_cell BKx.out 0).trans rfl; have fx_0 := blk_frozen BKx.out 0; have zx_1 : World.cell? _ ⟨gbx, 1, none⟩ = some (.string (⟨#[117]⟩ : ByteArray)) := (blk_cell BKx.out 1).trans rfl; have fx_1 := blk_frozen BKx.out 1; have zx_2 : World.cell? _ ⟨gbx, 2, none⟩ = some (.string (⟨#[100]⟩ : ByteArray)) := (blk_cell BKx.out 2).trans rfl; have fx_2 := blk_frozen BKx.out 2; have zx_3 : World.cell? _ ⟨gbx, 3, none⟩ = some (.string (⟨#[97, 108]⟩ : ByteArray)) := (blk_cell BKx.out 3).trans rfl; have fx_3 := blk_frozen BKx.out 3; have hnxc := NBx_c.out; have hmxc := NBc_x.out; have hnxy := NBx_y.out; have hmxy := NBy_x.out; have zc_0 : World.cell? _ ⟨gbc, 0, none⟩ = some (.string (⟨#[99, 97, 116]⟩ : ByteArray)) := (blk_cell BKc.out 0).trans rfl; have fc_0 := blk_frozen BKc.out 0; have zc_1 : World.cell? _ ⟨gbc, 1, none⟩ = some (.string (⟨#[117]⟩ : ByteArray)) := (blk_cell BKc.out 1).trans rfl; have fc_1 := blk_frozen BKc.out 1; have zc_2 : World.cell? _ ⟨gbc, 2, none⟩ = some (.string (⟨#[100]⟩ : ByteArray)) := (blk_cell BKc.out 2).trans rfl; have fc_2 := blk_frozen BKc.out 2; have zc_3 : World.cell? _ ⟨gbc, 3, none⟩ = some (.string (⟨#[97, 108]⟩ : ByteArray)) := (blk_cell BKc.out 3).trans rfl; have fc_3 := blk_frozen BKc.out 3; have hncx := NBc_x.out; have hmcx := NBx_c.out; have hncy := NBc_y.out; have hmcy := NBy_c.out))
  refine (cl_supply (base := w.heap.size) (ok := fun k => w.heap.size ≤ k) (w0 := w1) (⟨#[99, 97, 116]⟩ : ByteArray) (by (with_reducible repeat (first | apply JS.drewN | apply JS.drew | apply JS.alloc)); refine JS.setb (q := 23) ?_ GJy.out (by (with_reducible repeat (first | refine blk_drewN ?_ _ | refine blk_drew ?_ | refine blk_alloc ?_ _)); refine blk_put (cs := #[.string (⟨#[]⟩ : ByteArray), .string (⟨#[]⟩ : ByteArray), .string (⟨#[]⟩ : ByteArray), .string (⟨#[]⟩ : ByteArray)]) ?_ 2 _ rfl; (with_reducible repeat (first | refine blk_drewN ?_ _ | refine blk_drew ?_ | refine blk_alloc ?_ _)); refine blk_put (cs := #[.string (⟨#[]⟩ : ByteArray), .string (⟨#[]⟩ : ByteArray), .string (⟨#[]⟩ : ByteArray), .string (⟨#[]⟩ : ByteArray)]) ?_ 1 _ rfl; (with_reducible repeat (first | refine blk_drewN ?_ _ | refine blk_drew ?_ | refine blk_alloc ?_ _)); refine blk_put (cs := #[.string (⟨#[]⟩ : ByteArray), .string (⟨#[]⟩ : ByteArray), .string (⟨#[]⟩ : ByteArray), .string (⟨#[]⟩ : ByteArray)]) ?_ 0 _ rfl; (with_reducible repeat (first | refine blk_drewN ?_ _ | refine blk_drew ?_ | refine blk_alloc ?_ _)); exact BKy.out) _ (by decide); (with_reducible repeat (first | apply JS.drewN | apply JS.drew | apply JS.alloc)); refine JS.setb (q := 23) ?_ GJy.out (by (with_reducible repeat (first | refine blk_drewN ?_ _ | refine blk_drew ?_ | refine blk_alloc ?_ _)); refine blk_put (cs := #[.string (⟨#[]⟩ : ByteArray), .string (⟨#[]⟩ : ByteArray), .string (⟨#[]⟩ : ByteArray), .string (⟨#[]⟩ : ByteArray)]) ?_ 1 _ rfl; (with_reducible repeat (first | refine blk_drewN ?_ _ | refine blk_drew ?_ | refine blk_alloc ?_ _)); refine blk_put (cs := #[.string (⟨#[]⟩ : ByteArray), .string (⟨#[]⟩ : ByteArray), .string (⟨#[]⟩ : ByteArray), .string (⟨#[]⟩ : ByteArray)]) ?_ 0 _ rfl; (with_reducible repeat (first | refine blk_drewN ?_ _ | refine blk_drew ?_ | refine blk_alloc ?_ _)); exact BKy.out) _ (by decide); (with_reducible repeat (first | apply JS.drewN | apply JS.drew | apply JS.alloc)); refine JS.setb (q := 23) ?_ GJy.out (by (with_reducible repeat (first | refine blk_drewN ?_ _ | refine blk_drew ?_ | refine blk_alloc ?_ _)); refine blk_put (cs := #[.string (⟨#[]⟩ : ByteArray), .string (⟨#[]⟩ : ByteArray), .string (⟨#[]⟩ : ByteArray), .string (⟨#[]⟩ : ByteArray)]) ?_ 0 _ rfl; (with_reducible repeat (first | refine blk_drewN ?_ _ | refine blk_drew ?_ | refine blk_alloc ?_ _)); exact BKy.out) _ (by decide); (with_reducible repeat (first | apply JS.drewN | apply JS.drew | apply JS.alloc)); refine JS.setb (q := 23) ?_ GJy.out (by (with_reducible repeat (first | refine blk_drewN ?_ _ | refine blk_drew ?_ | refine blk_alloc ?_ _)); exact BKy.out) _ (by decide); (with_reducible repeat (first | apply JS.drewN | apply JS.drew | apply JS.alloc)); exact HJ.out) claw7 (by decide)).mono ?_
  rintro e w8 ⟨rfl, hb⟩
  rw [claw5]
  have n_HK := Aside0.mk ((by (with_reducible repeat (first | apply JK.drewN | apply JK.drew | apply JK.alloc)); refine JK.setb ?_ GKy.out _; (with_reducible repeat (first | apply JK.drewN | apply JK.drew | apply JK.alloc)); refine JK.setb ?_ GKy.out _; (with_reducible repeat (first | apply JK.drewN | apply JK.drew | apply JK.alloc)); refine JK.setb ?_ GKy.out _; (with_reducible repeat (first | apply JK.drewN | apply JK.drew | apply JK.alloc)); refine JK.setb ?_ GKy.out _; (with_reducible repeat (first | apply JK.drewN | apply JK.drew | apply JK.alloc)); exact HK.out : JK _ _).trans (JK.of_below hb))
  have n_HJ := Aside0.mk (JS.below (base := w.heap.size) (ok := fun k => w.heap.size ≤ k) (w0 := w1) (g := g) (cur := claS) (by (with_reducible repeat (first | apply JS.drewN | apply JS.drew | apply JS.alloc)); refine JS.setb (q := 23) ?_ GJy.out (by (with_reducible repeat (first | refine blk_drewN ?_ _ | refine blk_drew ?_ | refine blk_alloc ?_ _)); refine blk_put (cs := #[.string (⟨#[]⟩ : ByteArray), .string (⟨#[]⟩ : ByteArray), .string (⟨#[]⟩ : ByteArray), .string (⟨#[]⟩ : ByteArray)]) ?_ 2 _ rfl; (with_reducible repeat (first | refine blk_drewN ?_ _ | refine blk_drew ?_ | refine blk_alloc ?_ _)); refine blk_put (cs := #[.string (⟨#[]⟩ : ByteArray), .string (⟨#[]⟩ : ByteArray), .string (⟨#[]⟩ : ByteArray), .string (⟨#[]⟩ : ByteArray)]) ?_ 1 _ rfl; (with_reducible repeat (first | refine blk_drewN ?_ _ | refine blk_drew ?_ | refine blk_alloc ?_ _)); refine blk_put (cs := #[.string (⟨#[]⟩ : ByteArray), .string (⟨#[]⟩ : ByteArray), .string (⟨#[]⟩ : ByteArray), .string (⟨#[]⟩ : ByteArray)]) ?_ 0 _ rfl; (with_reducible repeat (first | refine blk_drewN ?_ _ | refine blk_drew ?_ | refine blk_alloc ?_ _)); exact BKy.out) _ (by decide); (with_reducible repeat (first | apply JS.drewN | apply JS.drew | apply JS.alloc)); refine JS.setb (q := 23) ?_ GJy.out (by (with_reducible repeat (first | refine blk_drewN ?_ _ | refine blk_drew ?_ | refine blk_alloc ?_ _)); refine blk_put (cs := #[.string (⟨#[]⟩ : ByteArray), .string (⟨#[]⟩ : ByteArray), .string (⟨#[]⟩ : ByteArray), .string (⟨#[]⟩ : ByteArray)]) ?_ 1 _ rfl; (with_reducible repeat (first | refine blk_drewN ?_ _ | refine blk_drew ?_ | refine blk_alloc ?_ _)); refine blk_put (cs := #[.string (⟨#[]⟩ : ByteArray), .string (⟨#[]⟩ : ByteArray), .string (⟨#[]⟩ : ByteArray), .string (⟨#[]⟩ : ByteArray)]) ?_ 0 _ rfl; (with_reducible repeat (first | refine blk_drewN ?_ _ | refine blk_drew ?_ | refine blk_alloc ?_ _)); exact BKy.out) _ (by decide); (with_reducible repeat (first | apply JS.drewN | apply JS.drew | apply JS.alloc)); refine JS.setb (q := 23) ?_ GJy.out (by (with_reducible repeat (first | refine blk_drewN ?_ _ | refine blk_drew ?_ | refine blk_alloc ?_ _)); refine blk_put (cs := #[.string (⟨#[]⟩ : ByteArray), .string (⟨#[]⟩ : ByteArray), .string (⟨#[]⟩ : ByteArray), .string (⟨#[]⟩ : ByteArray)]) ?_ 0 _ rfl; (with_reducible repeat (first | refine blk_drewN ?_ _ | refine blk_drew ?_ | refine blk_alloc ?_ _)); exact BKy.out) _ (by decide); (with_reducible repeat (first | apply JS.drewN | apply JS.drew | apply JS.alloc)); refine JS.setb (q := 23) ?_ GJy.out (by (with_reducible repeat (first | refine blk_drewN ?_ _ | refine blk_drew ?_ | refine blk_alloc ?_ _)); exact BKy.out) _ (by decide); (with_reducible repeat (first | apply JS.drewN | apply JS.drew | apply JS.alloc)); exact HJ.out) hb)
  have n_BKc := Aside0.mk (blk_below (g := gbc) (o := .cells #[.string (⟨#[99, 97, 116]⟩ : ByteArray), .string (⟨#[117]⟩ : ByteArray), .string (⟨#[100]⟩ : ByteArray), .string (⟨#[97, 108]⟩ : ByteArray)] 23 (0, 0)) (by (with_reducible repeat (first | refine blk_drewN ?_ _ | refine blk_drew ?_ | refine blk_alloc ?_ _)); refine blk_far ?_ NBc_y.out _; (with_reducible repeat (first | refine blk_drewN ?_ _ | refine blk_drew ?_ | refine blk_alloc ?_ _)); refine blk_far ?_ NBc_y.out _; (with_reducible repeat (first | refine blk_drewN ?_ _ | refine blk_drew ?_ | refine blk_alloc ?_ _)); refine blk_far ?_ NBc_y.out _; (with_reducible repeat (first | refine blk_drewN ?_ _ | refine blk_drew ?_ | refine blk_alloc ?_ _)); refine blk_far ?_ NBc_y.out _; (with_reducible repeat (first | refine blk_drewN ?_ _ | refine blk_drew ?_ | refine blk_alloc ?_ _)); exact BKc.out) hb)
  have n_BKx := Aside0.mk (blk_below (g := gbx) (o := .cells #[.string (⟨#[99, 97, 116]⟩ : ByteArray), .string (⟨#[117]⟩ : ByteArray), .string (⟨#[100]⟩ : ByteArray), .string (⟨#[97, 108]⟩ : ByteArray)] 23 (0, 0)) (by (with_reducible repeat (first | refine blk_drewN ?_ _ | refine blk_drew ?_ | refine blk_alloc ?_ _)); refine blk_far ?_ NBx_y.out _; (with_reducible repeat (first | refine blk_drewN ?_ _ | refine blk_drew ?_ | refine blk_alloc ?_ _)); refine blk_far ?_ NBx_y.out _; (with_reducible repeat (first | refine blk_drewN ?_ _ | refine blk_drew ?_ | refine blk_alloc ?_ _)); refine blk_far ?_ NBx_y.out _; (with_reducible repeat (first | refine blk_drewN ?_ _ | refine blk_drew ?_ | refine blk_alloc ?_ _)); refine blk_far ?_ NBx_y.out _; (with_reducible repeat (first | refine blk_drewN ?_ _ | refine blk_drew ?_ | refine blk_alloc ?_ _)); exact BKx.out) hb)
  have n_BKy := Aside0.mk (blk_below (g := gby) (o := .cells #[.string (⟨#[]⟩ : ByteArray), .string (⟨#[]⟩ : ByteArray), .string (⟨#[]⟩ : ByteArray), .string (⟨#[]⟩ : ByteArray)] 23 (0, 0)) (by (with_reducible repeat (first | refine blk_drewN ?_ _ | refine blk_drew ?_ | refine blk_alloc ?_ _)); refine blk_put (cs := #[.string (⟨#[]⟩ : ByteArray), .string (⟨#[]⟩ : ByteArray), .string (⟨#[]⟩ : ByteArray), .string (⟨#[]⟩ : ByteArray)]) ?_ 3 _ rfl; (with_reducible repeat (first | refine blk_drewN ?_ _ | refine blk_drew ?_ | refine blk_alloc ?_ _)); refine blk_put (cs := #[.string (⟨#[]⟩ : ByteArray), .string (⟨#[]⟩ : ByteArray), .string (⟨#[]⟩ : ByteArray), .string (⟨#[]⟩ : ByteArray)]) ?_ 2 _ rfl; (with_reducible repeat (first | refine blk_drewN ?_ _ | refine blk_drew ?_ | refine blk_alloc ?_ _)); refine blk_put (cs := #[.string (⟨#[]⟩ : ByteArray), .string (⟨#[]⟩ : ByteArray), .string (⟨#[]⟩ : ByteArray), .string (⟨#[]⟩ : ByteArray)]) ?_ 1 _ rfl; (with_reducible repeat (first | refine blk_drewN ?_ _ | refine blk_drew ?_ | refine blk_alloc ?_ _)); refine blk_put (cs := #[.string (⟨#[]⟩ : ByteArray), .string (⟨#[]⟩ : ByteArray), .string (⟨#[]⟩ : ByteArray), .string (⟨#[]⟩ : ByteArray)]) ?_ 0 _ rfl; (with_reducible repeat (first | refine blk_drewN ?_ _ | refine blk_drew ?_ | refine blk_alloc ?_ _)); exact BKy.out) hb)
  clear HK HJ BKc BKx BKy
  have HK := n_HK
  have HJ := n_HJ
  have BKc := n_BKc
  have BKx := n_BKx
  have BKy := n_BKy
  clear n_HK n_HJ n_BKc n_BKx n_BKy
  clear hb
  go_wp2_with fail
  refine (cl_new (⟨#[]⟩ : ByteArray) (⟨#[]⟩ : ByteArray) (⟨#[]⟩ : ByteArray) (⟨#[]⟩ : ByteArray) 7 claS HJ.out claw7 (by decide) claw6.1 claw6.2).mono ?_
  rintro e w9 ⟨rfl, hj, hk⟩
  have n_HK := Aside0.mk (HK.out.trans hk)
  have n_HJ := Aside0.mk (hj)
  have n_BKc := Aside0.mk (JK.blk (b := gbc) (c := #[.string (⟨#[99, 97, 116]⟩ : ByteArray), .string (⟨#[117]⟩ : ByteArray), .string (⟨#[100]⟩ : ByteArray), .string (⟨#[97, 108]⟩ : ByteArray)]) (q := 23) (x := (0, 0)) hk (by (with_reducible repeat (first | refine blk_drewN ?_ _ | refine blk_drew ?_ | refine blk_alloc ?_ _)); exact BKc.out) (by decide))
  have n_BKx := Aside0.mk (JK.blk (b := gbx) (c := #[.string (⟨#[99, 97, 116]⟩ : ByteArray), .string (⟨#[117]⟩ : ByteArray), .string (⟨#[100]⟩ : ByteArray), .string (⟨#[97, 108]⟩ : ByteArray)]) (q := 23) (x := (0, 0)) hk (by (with_reducible repeat (first | refine blk_drewN ?_ _ | refine blk_drew ?_ | refine blk_alloc ?_ _)); exact BKx.out) (by decide))
  have n_BKy := Aside0.mk (JK.blk (b := gby) (c := #[.string (⟨#[]⟩ : ByteArray), .string (⟨#[]⟩ : ByteArray), .string (⟨#[]⟩ : ByteArray), .string (⟨#[]⟩ : ByteArray)]) (q := 23) (x := (0, 0)) hk (by (with_reducible repeat (first | refine blk_drewN ?_ _ | refine blk_drew ?_ | refine blk_alloc ?_ _)); exact BKy.out) (by decide))
  clear HK HJ BKc BKx BKy
  have HK := n_HK
  have HJ := n_HJ
  have BKc := n_BKc
  have BKx := n_BKx
  have BKy := n_BKy
  clear n_HK n_HJ n_BKc n_BKx n_BKy
  clear hj hk
  have hfin := Aside0.mk (JW.toBelow HB1.out HB1.out.size HJ.out.jw (fun k hk => hk))
  clear HJ HK
  go_wp2
  go_ret
  exact ⟨rfl, hfin.out⟩

/-! ### footbridgelaw22_ClassNone: function 3 -/
def footbridgelaw22_ClassNone.f (a0_0 _a0_1 _a0_2 _a0_3 : ByteArray) : Option Bool := if a0_0.size ≤ 50000000 then some true else none
set_option maxHeartbeats 4000000 in
set_option maxRecDepth 100000 in
theorem footbridgelaw22_ClassNone.calls (a0_0 a0_1 a0_2 a0_3 : ByteArray) (r : Bool) (w : World) (h : footbridgelaw22_ClassNone.f a0_0 a0_1 a0_2 a0_3 = some r) :
    Calls Tryd.prog 3 #[.agg #[.string a0_0, .string a0_1, .string a0_2, .string a0_3]] w fun e w' => e = .returned (.bool r) ∧ Below w.heap.size w w' := by
  unfold footbridgelaw22_ClassNone.f at h
  by_cases hid : a0_0.size ≤ 50000000
  case neg => rw [if_neg hid] at h; cases h
  rw [if_pos hid] at h
  obtain rfl : true = r := Option.some.inj h
  clear h
  have HB := Aside0.mk (Below.refl w.heap.size w)
  go_enter Tryd.func3, Tryd.ntmps3
  go_wp2_with (first | ((with_reducible refine gate_dst (N := 1) rfl ?_); refine box_event ?hg (N := 1) ?hd (cs := #[.string a0_0, .string a0_1, .string a0_2, .string a0_3]) (t := 23) ?hr ?_; (case hd => rfl); (case hg => rfl); (case hr => first | (go_simp; done) | (go_simp; rfl)); intro gba hg wa hbox hb; have GEa := Aside0.mk ((by rw [hg]; exact (below_size (by repeat (first | (with_reducible first | exact HB.out | apply below_alloc | apply pw_below_drewN | apply below_drew1) | exact HB.out))) : w.heap.size ≤ gba)); have n_HB := Aside0.mk (below_step (by repeat (first | (with_reducible first | exact HB.out | apply below_alloc | apply pw_below_drewN | apply below_drew1) | exact HB.out)) hb); clear HB; have HB := n_HB; clear n_HB; have BKa := Aside0.mk hbox; clear hb hbox hg; have za_0 : World.cell? _ ⟨gba, 0, none⟩ = some (.string a0_0) := (blk_cell BKa.out 0).trans rfl; have fa_0 := blk_frozen BKa.out 0; have za_1 : World.cell? _ ⟨gba, 1, none⟩ = some (.string a0_1) := (blk_cell BKa.out 1).trans rfl; have fa_1 := blk_frozen BKa.out 1; have za_2 : World.cell? _ ⟨gba, 2, none⟩ = some (.string a0_2) := (blk_cell BKa.out 2).trans rfl; have fa_2 := blk_frozen BKa.out 2; have za_3 : World.cell? _ ⟨gba, 3, none⟩ = some (.string a0_3) := (blk_cell BKa.out 3).trans rfl; have fa_3 := blk_frozen BKa.out 3; have za_0 : World.cell? _ ⟨gba, 0, none⟩ = some (.string a0_0) := (blk_cell BKa.out 0).trans rfl; have fa_0 := blk_frozen BKa.out 0; have za_1 : World.cell? _ ⟨gba, 1, none⟩ = some (.string a0_1) := (blk_cell BKa.out 1).trans rfl; have fa_1 := blk_frozen BKa.out 1; have za_2 : World.cell? _ ⟨gba, 2, none⟩ = some (.string a0_2) := (blk_cell BKa.out 2).trans rfl; have fa_2 := blk_frozen BKa.out 2; have za_3 : World.cell? _ ⟨gba, 3, none⟩ = some (.string a0_3) := (blk_cell BKa.out 3).trans rfl; have fa_3 := blk_frozen BKa.out 3))
  refine (cln_get a0_0 _).mono ?_
  rintro e w1 ⟨rfl, hb⟩
  have n_HB := Aside0.mk (below_step (by repeat (first | (with_reducible first | exact HB.out | apply below_alloc | apply pw_below_drewN | apply below_drew1 | refine below_set ?_ GEa.out) | exact HB.out)) hb)
  have n_BKa := Aside0.mk (blk_below (g := gba) (o := .cells #[.string a0_0, .string a0_1, .string a0_2, .string a0_3] 23 (0, 0)) (by (with_reducible repeat (first | refine blk_drewN ?_ _ | refine blk_drew ?_ | refine blk_alloc ?_ _)); exact BKa.out) hb)
  clear HB BKa
  have HB := n_HB
  have BKa := n_BKa
  clear n_HB n_BKa
  clear hb
  have za_0 : World.cell? _ ⟨gba, 0, none⟩ = some (.string a0_0) := (blk_cell BKa.out 0).trans rfl
  have fa_0 := blk_frozen BKa.out 0
  have za_1 : World.cell? _ ⟨gba, 1, none⟩ = some (.string a0_1) := (blk_cell BKa.out 1).trans rfl
  have fa_1 := blk_frozen BKa.out 1
  have za_2 : World.cell? _ ⟨gba, 2, none⟩ = some (.string a0_2) := (blk_cell BKa.out 2).trans rfl
  have fa_2 := blk_frozen BKa.out 2
  have za_3 : World.cell? _ ⟨gba, 3, none⟩ = some (.string a0_3) := (blk_cell BKa.out 3).trans rfl
  have fa_3 := blk_frozen BKa.out 3
  go_wp2_with (first | ((with_reducible refine gate_dst (N := 3) rfl ?_); refine box_event ?hg (N := 3) ?hd (cs := #[.string (⟨#[]⟩ : ByteArray), .string (⟨#[]⟩ : ByteArray), .string (⟨#[]⟩ : ByteArray), .string (⟨#[]⟩ : ByteArray)]) (t := 23) ?hr ?_; (case hd => rfl); (case hg => rfl); (case hr => first | (go_simp; done) | (go_simp; rfl)); intro gbx hg wx hbox hb; have GEx := Aside0.mk ((by rw [hg]; exact (below_size (by repeat (first | (with_reducible first | exact HB.out | apply below_alloc | apply pw_below_drewN | apply below_drew1 | refine below_set ?_ GEa.out) | exact HB.out))) : w.heap.size ≤ gbx)); have NBa_x := Aside0.mk ((by rw [hg]; exact Nat.ne_of_lt (blk_lt (g := gba) (o := .cells #[.string a0_0, .string a0_1, .string a0_2, .string a0_3] 23 (0, 0)) (by (with_reducible repeat (first | refine blk_drewN ?_ _ | refine blk_drew ?_ | refine blk_alloc ?_ _)); exact BKa.out)) : gba ≠ gbx)); have NBx_a := Aside0.mk ((by rw [hg]; exact Nat.ne_of_gt (blk_lt (g := gba) (o := .cells #[.string a0_0, .string a0_1, .string a0_2, .string a0_3] 23 (0, 0)) (by (with_reducible repeat (first | refine blk_drewN ?_ _ | refine blk_drew ?_ | refine blk_alloc ?_ _)); exact BKa.out)) : gbx ≠ gba)); have n_HB := Aside0.mk (below_step (by repeat (first | (with_reducible first | exact HB.out | apply below_alloc | apply pw_below_drewN | apply below_drew1 | refine below_set ?_ GEa.out) | exact HB.out)) hb); have n_BKa := Aside0.mk (blk_below (g := gba) (o := .cells #[.string a0_0, .string a0_1, .string a0_2, .string a0_3] 23 (0, 0)) (by (with_reducible repeat (first | refine blk_drewN ?_ _ | refine blk_drew ?_ | refine blk_alloc ?_ _)); exact BKa.out) hb); clear HB BKa; have HB := n_HB; have BKa := n_BKa; clear n_HB n_BKa; have BKx := Aside0.mk hbox; clear hb hbox hg; have zx_0 : World.cell? _ ⟨gbx, 0, none⟩ = some (.string (⟨#[]⟩ : ByteArray)) := (blk_cell BKx.out 0).trans rfl; have fx_0 := blk_frozen BKx.out 0; have zx_1 : World.cell? _ ⟨gbx, 1, none⟩ = some (.string (⟨#[]⟩ : ByteArray)) := (blk_cell BKx.out 1).trans rfl; have fx_1 := blk_frozen BKx.out 1; have zx_2 : World.cell? _ ⟨gbx, 2, none⟩ = some (.string (⟨#[]⟩ : ByteArray)) := (blk_cell BKx.out 2).trans rfl; have fx_2 := blk_frozen BKx.out 2; have zx_3 : World.cell? _ ⟨gbx, 3, none⟩ = some (.string (⟨#[]⟩ : ByteArray)) := (blk_cell BKx.out 3).trans rfl; have fx_3 := blk_frozen BKx.out 3; have hnxa := NBx_a.out; have hmxa := NBa_x.out; have zx_0 : World.cell? _ ⟨gbx, 0, none⟩ = some (.string (⟨#[]⟩ : ByteArray)) := (blk_cell BKx.out 0).trans rfl; have fx_0 := blk_frozen BKx.out 0; have zx_1 : World.cell? _ ⟨gbx, 1, none⟩ = some (.string (⟨#[]⟩ : ByteArray)) := (blk_cell BKx.out 1).trans rfl; have fx_1 := blk_frozen BKx.out 1; have zx_2 : World.cell? _ ⟨gbx, 2, none⟩ = some (.string (⟨#[]⟩ : ByteArray)) := (blk_cell BKx.out 2).trans rfl; have fx_2 := blk_frozen BKx.out 2; have zx_3 : World.cell? _ ⟨gbx, 3, none⟩ = some (.string (⟨#[]⟩ : ByteArray)) := (blk_cell BKx.out 3).trans rfl; have fx_3 := blk_frozen BKx.out 3; have hnxa := NBx_a.out; have hmxa := NBa_x.out; have za_0 : World.cell? _ ⟨gba, 0, none⟩ = some (.string a0_0) := (blk_cell BKa.out 0).trans rfl; have fa_0 := blk_frozen BKa.out 0; have za_1 : World.cell? _ ⟨gba, 1, none⟩ = some (.string a0_1) := (blk_cell BKa.out 1).trans rfl; have fa_1 := blk_frozen BKa.out 1; have za_2 : World.cell? _ ⟨gba, 2, none⟩ = some (.string a0_2) := (blk_cell BKa.out 2).trans rfl; have fa_2 := blk_frozen BKa.out 2; have za_3 : World.cell? _ ⟨gba, 3, none⟩ = some (.string a0_3) := (blk_cell BKa.out 3).trans rfl; have fa_3 := blk_frozen BKa.out 3; have hnax := NBa_x.out; have hmax := NBx_a.out))
  refine (cln_new a0_0 a0_1 a0_2 a0_3 _).mono ?_
  rintro e w2 ⟨rfl, hb⟩
  have n_HB := Aside0.mk (below_step (by repeat (first | (with_reducible first | exact HB.out | apply below_alloc | apply pw_below_drewN | apply below_drew1 | refine below_set ?_ GEa.out | refine below_set ?_ GEx.out) | exact HB.out)) hb)
  have n_BKa := Aside0.mk (blk_below (g := gba) (o := .cells #[.string a0_0, .string a0_1, .string a0_2, .string a0_3] 23 (0, 0)) (by (with_reducible repeat (first | refine blk_drewN ?_ _ | refine blk_drew ?_ | refine blk_alloc ?_ _)); refine blk_far ?_ NBa_x.out _; (with_reducible repeat (first | refine blk_drewN ?_ _ | refine blk_drew ?_ | refine blk_alloc ?_ _)); refine blk_far ?_ NBa_x.out _; (with_reducible repeat (first | refine blk_drewN ?_ _ | refine blk_drew ?_ | refine blk_alloc ?_ _)); refine blk_far ?_ NBa_x.out _; (with_reducible repeat (first | refine blk_drewN ?_ _ | refine blk_drew ?_ | refine blk_alloc ?_ _)); refine blk_far ?_ NBa_x.out _; (with_reducible repeat (first | refine blk_drewN ?_ _ | refine blk_drew ?_ | refine blk_alloc ?_ _)); exact BKa.out) hb)
  have n_BKx := Aside0.mk (blk_below (g := gbx) (o := .cells #[.string (⟨#[]⟩ : ByteArray), .string (⟨#[]⟩ : ByteArray), .string (⟨#[]⟩ : ByteArray), .string (⟨#[]⟩ : ByteArray)] 23 (0, 0)) (by (with_reducible repeat (first | refine blk_drewN ?_ _ | refine blk_drew ?_ | refine blk_alloc ?_ _)); refine blk_put (cs := #[.string (⟨#[]⟩ : ByteArray), .string (⟨#[]⟩ : ByteArray), .string (⟨#[]⟩ : ByteArray), .string (⟨#[]⟩ : ByteArray)]) ?_ 3 _ rfl; (with_reducible repeat (first | refine blk_drewN ?_ _ | refine blk_drew ?_ | refine blk_alloc ?_ _)); refine blk_put (cs := #[.string (⟨#[]⟩ : ByteArray), .string (⟨#[]⟩ : ByteArray), .string (⟨#[]⟩ : ByteArray), .string (⟨#[]⟩ : ByteArray)]) ?_ 2 _ rfl; (with_reducible repeat (first | refine blk_drewN ?_ _ | refine blk_drew ?_ | refine blk_alloc ?_ _)); refine blk_put (cs := #[.string (⟨#[]⟩ : ByteArray), .string (⟨#[]⟩ : ByteArray), .string (⟨#[]⟩ : ByteArray), .string (⟨#[]⟩ : ByteArray)]) ?_ 1 _ rfl; (with_reducible repeat (first | refine blk_drewN ?_ _ | refine blk_drew ?_ | refine blk_alloc ?_ _)); refine blk_put (cs := #[.string (⟨#[]⟩ : ByteArray), .string (⟨#[]⟩ : ByteArray), .string (⟨#[]⟩ : ByteArray), .string (⟨#[]⟩ : ByteArray)]) ?_ 0 _ rfl; (with_reducible repeat (first | refine blk_drewN ?_ _ | refine blk_drew ?_ | refine blk_alloc ?_ _)); exact BKx.out) hb)
  clear HB BKa BKx
  have HB := n_HB
  have BKa := n_BKa
  have BKx := n_BKx
  clear n_HB n_BKa n_BKx
  clear hb
  have zx_0 : World.cell? _ ⟨gbx, 0, none⟩ = some (.string (⟨#[]⟩ : ByteArray)) := (blk_cell BKx.out 0).trans rfl
  have fx_0 := blk_frozen BKx.out 0
  have zx_1 : World.cell? _ ⟨gbx, 1, none⟩ = some (.string (⟨#[]⟩ : ByteArray)) := (blk_cell BKx.out 1).trans rfl
  have fx_1 := blk_frozen BKx.out 1
  have zx_2 : World.cell? _ ⟨gbx, 2, none⟩ = some (.string (⟨#[]⟩ : ByteArray)) := (blk_cell BKx.out 2).trans rfl
  have fx_2 := blk_frozen BKx.out 2
  have zx_3 : World.cell? _ ⟨gbx, 3, none⟩ = some (.string (⟨#[]⟩ : ByteArray)) := (blk_cell BKx.out 3).trans rfl
  have fx_3 := blk_frozen BKx.out 3
  have hnxa := NBx_a.out
  have hmxa := NBa_x.out
  have za_0 : World.cell? _ ⟨gba, 0, none⟩ = some (.string a0_0) := (blk_cell BKa.out 0).trans rfl
  have fa_0 := blk_frozen BKa.out 0
  have za_1 : World.cell? _ ⟨gba, 1, none⟩ = some (.string a0_1) := (blk_cell BKa.out 1).trans rfl
  have fa_1 := blk_frozen BKa.out 1
  have za_2 : World.cell? _ ⟨gba, 2, none⟩ = some (.string a0_2) := (blk_cell BKa.out 2).trans rfl
  have fa_2 := blk_frozen BKa.out 2
  have za_3 : World.cell? _ ⟨gba, 3, none⟩ = some (.string a0_3) := (blk_cell BKa.out 3).trans rfl
  have fa_3 := blk_frozen BKa.out 3
  have hnax := NBa_x.out
  have hmax := NBx_a.out
  go_wp2_with fail
  refine (cln_supply a0_0 hid _).mono ?_
  rintro e w3 ⟨rfl, hb⟩
  have n_HB := Aside0.mk (below_step (by repeat (first | (with_reducible first | exact HB.out | apply below_alloc | apply pw_below_drewN | apply below_drew1 | refine below_set ?_ GEa.out | refine below_set ?_ GEx.out) | exact HB.out)) hb)
  have n_BKa := Aside0.mk (blk_below (g := gba) (o := .cells #[.string a0_0, .string a0_1, .string a0_2, .string a0_3] 23 (0, 0)) (by (with_reducible repeat (first | refine blk_drewN ?_ _ | refine blk_drew ?_ | refine blk_alloc ?_ _)); exact BKa.out) hb)
  have n_BKx := Aside0.mk (blk_below (g := gbx) (o := .cells #[.string (⟨#[]⟩ : ByteArray), .string (⟨#[]⟩ : ByteArray), .string (⟨#[]⟩ : ByteArray), .string (⟨#[]⟩ : ByteArray)] 23 (0, 0)) (by (with_reducible repeat (first | refine blk_drewN ?_ _ | refine blk_drew ?_ | refine blk_alloc ?_ _)); exact BKx.out) hb)
  clear HB BKa BKx
  have HB := n_HB
  have BKa := n_BKa
  have BKx := n_BKx
  clear n_HB n_BKa n_BKx
  clear hb
  go_wp2_with fail
  refine (claw_calls _).mono ?_
  rintro e w4 ⟨rfl, hb⟩
  have n_HB := Aside0.mk (below_step (by repeat (first | (with_reducible first | exact HB.out | apply below_alloc | apply pw_below_drewN | apply below_drew1 | refine below_set ?_ GEa.out | refine below_set ?_ GEx.out) | exact HB.out)) hb)
  have n_BKa := Aside0.mk (blk_below (g := gba) (o := .cells #[.string a0_0, .string a0_1, .string a0_2, .string a0_3] 23 (0, 0)) (by (with_reducible repeat (first | refine blk_drewN ?_ _ | refine blk_drew ?_ | refine blk_alloc ?_ _)); exact BKa.out) hb)
  have n_BKx := Aside0.mk (blk_below (g := gbx) (o := .cells #[.string (⟨#[]⟩ : ByteArray), .string (⟨#[]⟩ : ByteArray), .string (⟨#[]⟩ : ByteArray), .string (⟨#[]⟩ : ByteArray)] 23 (0, 0)) (by (with_reducible repeat (first | refine blk_drewN ?_ _ | refine blk_drew ?_ | refine blk_alloc ?_ _)); exact BKx.out) hb)
  clear HB BKa BKx
  have HB := n_HB
  have BKa := n_BKa
  have BKx := n_BKx
  clear n_HB n_BKa n_BKx
  clear hb
  go_wp2
  go_ret
  exact ⟨rfl, HB.out⟩

end Go.Proofs.YtcbaojkfffodiaaDoor.PCln
