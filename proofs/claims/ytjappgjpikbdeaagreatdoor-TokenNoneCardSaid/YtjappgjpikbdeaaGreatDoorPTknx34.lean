-- written by wip/myprint.py over the kit's print; not a printed text of print.sh
import Derived.Test.YtjappgjpikbdeaaGreatDoorPTknx0
import Derived.Test.YtjappgjpikbdeaaGreatDoorPTknx22
import Derived.Test.YtjappgjpikbdeaaGreatDoorPTknx24
import Derived.Test.YtjappgjpikbdeaaGreatDoorPTknx33
namespace Go.Proofs.YtjappgjpikbdeaaGreatDoor.PTkn
open Go.RowKit Go.Proofs.YtjappgjpikbdeaaGreatDoorW.PrintWords Go.Proofs.YtjappgjpikbdeaaGreatDoorW.PrintLast Go.Proofs.YtjappgjpikbdeaaGreatDoorW.PrintMore
attribute [local go_sem] max2_int min2_int max_two min_two max_three min_three max_four min_four   -- for this text's walks alone
set_option linter.unusedVariables false
set_option linter.unusedSimpArgs false

/-! ### footbridgelaw23_TokenNone: function 3 -/
-- @break
theorem eqB23 (d : Nat) (w : World) (x0 y0 x1 y1 x2 y2 x3 y3 x4 y4 : ByteArray) :
    (Op.equalIn (d + 2) 23 (.agg #[.string x0, .string x1, .string x2, .string x3, .string x4]) (.agg #[.string y0, .string y1, .string y2, .string y3, .string y4])).run Tryz.prog w = .ok (x0.toList == y0.toList && (x1.toList == y1.toList && (x2.toList == y2.toList && (x3.toList == y3.toList && (x4.toList == y4.toList))))) w := by
  refine eqA_of Tryz.underlying23 (by kernel_rfl) ?_
  refine eqf_cons (by rfl) (by go_simp; rfl) (by go_simp; rfl) (by go_simp) ?_
  refine eqf_cons (by rfl) (by go_simp; rfl) (by go_simp; rfl) (by go_simp) ?_
  refine eqf_cons (by rfl) (by go_simp; rfl) (by go_simp; rfl) (by go_simp) ?_
  refine eqf_cons (by rfl) (by go_simp; rfl) (by go_simp; rfl) (by go_simp) ?_
  exact eqf_last (by rfl) (by go_simp; rfl) (by go_simp; rfl) (by go_simp)
attribute [local go_sem high] eqB23
def footbridgelaw23_TokenNone.f (_a0_0 _a0_1 _a0_2 _a0_3 _a0_4 : ByteArray) : Option Bool := some true
set_option maxHeartbeats 8000000 in
set_option maxRecDepth 100000 in
theorem footbridgelaw23_TokenNone.calls (a0_0 a0_1 a0_2 a0_3 a0_4 : ByteArray) (r : Bool) (w : World) (h : footbridgelaw23_TokenNone.f a0_0 a0_1 a0_2 a0_3 a0_4 = some r) :
    Calls Tryz.prog 3 #[.agg #[.string a0_0, .string a0_1, .string a0_2, .string a0_3, .string a0_4]] w fun e w' => e = .returned (.bool r) ∧ Below w.heap.size w w' := by
  obtain rfl : true = r := Option.some.inj h
  clear h
  have HB := Aside0.mk (Below.refl w.heap.size w)
  go_enter Tryz.func3, Tryz.ntmps3
  go_wp2_with (first | ((with_reducible refine gate_dst (N := 1) rfl ?_); refine box_event ?hg (N := 1) ?hd (cs := #[.string a0_0, .string a0_1, .string a0_2, .string a0_3, .string a0_4]) (t := 23) ?hr ?_; (case hd => rfl); (case hg => rfl); (case hr => first | (go_simp; done) | (go_simp; rfl)); intro gba hg wa hbox hb; have GEa := Aside0.mk ((by rw [hg]; exact (below_size (by repeat (first | (with_reducible first | exact HB.out | apply below_alloc | apply pw_below_drewN | apply below_drew1) | exact HB.out))) : w.heap.size ≤ gba)); have n_HB := Aside0.mk (below_step (by repeat (first | (with_reducible first | exact HB.out | apply below_alloc | apply pw_below_drewN | apply below_drew1) | exact HB.out)) hb); clear HB; have HB := n_HB; clear n_HB; have BKa := Aside0.mk hbox; clear hb hbox hg; have za_0 : World.cell? _ ⟨gba, 0, none⟩ = some (.string a0_0) := (blk_cell BKa.out 0).trans rfl; have fa_0 := blk_frozen BKa.out 0; have za_1 : World.cell? _ ⟨gba, 1, none⟩ = some (.string a0_1) := (blk_cell BKa.out 1).trans rfl; have fa_1 := blk_frozen BKa.out 1; have za_2 : World.cell? _ ⟨gba, 2, none⟩ = some (.string a0_2) := (blk_cell BKa.out 2).trans rfl; have fa_2 := blk_frozen BKa.out 2; have za_3 : World.cell? _ ⟨gba, 3, none⟩ = some (.string a0_3) := (blk_cell BKa.out 3).trans rfl; have fa_3 := blk_frozen BKa.out 3; have za_4 : World.cell? _ ⟨gba, 4, none⟩ = some (.string a0_4) := (blk_cell BKa.out 4).trans rfl; have fa_4 := blk_frozen BKa.out 4; have za_0 : World.cell? _ ⟨gba, 0, none⟩ = some (.string a0_0) := (blk_cell BKa.out 0).trans rfl; have fa_0 := blk_frozen BKa.out 0; have za_1 : World.cell? _ ⟨gba, 1, none⟩ = some (.string a0_1) := (blk_cell BKa.out 1).trans rfl; have fa_1 := blk_frozen BKa.out 1; have za_2 : World.cell? _ ⟨gba, 2, none⟩ = some (.string a0_2) := (blk_cell BKa.out 2).trans rfl; have fa_2 := blk_frozen BKa.out 2; have za_3 : World.cell? _ ⟨gba, 3, none⟩ = some (.string a0_3) := (blk_cell BKa.out 3).trans rfl; have fa_3 := blk_frozen BKa.out 3; have za_4 : World.cell? _ ⟨gba, 4, none⟩ = some (.string a0_4) := (blk_cell BKa.out 4).trans rfl; have fa_4 := blk_frozen BKa.out 4))
  refine (tkn_get a0_0 a0_1 _).mono ?_
  rintro e w1 ⟨rfl, hb⟩
  have n_HB := Aside0.mk (below_step (by repeat (first | (with_reducible first | exact HB.out | apply below_alloc | apply pw_below_drewN | apply below_drew1 | refine below_set ?_ GEa.out) | exact HB.out)) hb)
  have n_BKa := Aside0.mk (blk_below (g := gba) (o := .cells #[.string a0_0, .string a0_1, .string a0_2, .string a0_3, .string a0_4] 23 (0, 0)) (by first | exact BKa.out | ((with_reducible repeat (first | refine blk_drewN ?_ _ | refine blk_drew ?_ | refine blk_alloc ?_ _)); exact BKa.out)) hb)
  clear HB BKa
  have HB := n_HB
  have BKa := n_BKa
  clear n_HB n_BKa
  clear hb
  have za_0 : World.cell? _ ⟨gba, 0, none⟩ = some (.string a0_0) := (blk_cell BKa.out 0).trans rfl
  have fa_0 := blk_frozen BKa.out 0
  have za_1 : World.cell? _ ⟨gba, 1, none⟩ = some (.string a0_1) := (blk_cell BKa.out 1).trans rfl
  have fa_1 := blk_frozen BKa.out 1
  have za_2 : World.cell? _ ⟨gba, 2, none⟩ = some (.string a0_2) := (blk_cell BKa.out 2).trans rfl
  have fa_2 := blk_frozen BKa.out 2
  have za_3 : World.cell? _ ⟨gba, 3, none⟩ = some (.string a0_3) := (blk_cell BKa.out 3).trans rfl
  have fa_3 := blk_frozen BKa.out 3
  have za_4 : World.cell? _ ⟨gba, 4, none⟩ = some (.string a0_4) := (blk_cell BKa.out 4).trans rfl
  have fa_4 := blk_frozen BKa.out 4
  go_wp2_with (first | ((with_reducible refine gate_dst (N := 3) rfl ?_); refine box_event ?hg (N := 3) ?hd (cs := #[.string (⟨#[]⟩ : ByteArray), .string (⟨#[]⟩ : ByteArray), .string (⟨#[]⟩ : ByteArray), .string (⟨#[]⟩ : ByteArray), .string (⟨#[]⟩ : ByteArray)]) (t := 23) ?hr ?_; (case hd => rfl); (case hg => rfl); (case hr => first | (go_simp; done) | (go_simp; rfl)); intro gbx hg wx hbox hb; have GEx := Aside0.mk ((by rw [hg]; exact (below_size (by repeat (first | (with_reducible first | exact HB.out | apply below_alloc | apply pw_below_drewN | apply below_drew1 | refine below_set ?_ GEa.out) | exact HB.out))) : w.heap.size ≤ gbx)); have NBa_x := Aside0.mk ((by rw [hg]; exact Nat.ne_of_lt (blk_lt (g := gba) (o := .cells #[.string a0_0, .string a0_1, .string a0_2, .string a0_3, .string a0_4] 23 (0, 0)) (by first | exact BKa.out | ((with_reducible repeat (first | refine blk_drewN ?_ _ | refine blk_drew ?_ | refine blk_alloc ?_ _)); exact BKa.out))) : gba ≠ gbx)); have NBx_a := Aside0.mk ((by rw [hg]; exact Nat.ne_of_gt (blk_lt (g := gba) (o := .cells #[.string a0_0, .string a0_1, .string a0_2, .string a0_3, .string a0_4] 23 (0, 0)) (by first | exact BKa.out | ((with_reducible repeat (first | refine blk_drewN ?_ _ | refine blk_drew ?_ | refine blk_alloc ?_ _)); exact BKa.out))) : gbx ≠ gba)); have n_HB := Aside0.mk (below_step (by repeat (first | (with_reducible first | exact HB.out | apply below_alloc | apply pw_below_drewN | apply below_drew1 | refine below_set ?_ GEa.out) | exact HB.out)) hb); have n_BKa := Aside0.mk (blk_below (g := gba) (o := .cells #[.string a0_0, .string a0_1, .string a0_2, .string a0_3, .string a0_4] 23 (0, 0)) (by first | exact BKa.out | ((with_reducible repeat (first | refine blk_drewN ?_ _ | refine blk_drew ?_ | refine blk_alloc ?_ _)); exact BKa.out)) hb); clear HB BKa; have HB := n_HB; have BKa := n_BKa; clear n_HB n_BKa; have BKx := Aside0.mk hbox; clear hb hbox hg; have zx_0 : World.cell? _ ⟨gbx, 0, none⟩ = some (.string (⟨#[]⟩ : ByteArray)) := (blk_cell BKx.out 0).trans rfl; have fx_0 := blk_frozen BKx.out 0; have zx_1 : World.cell? _ ⟨gbx, 1, none⟩ = some (.string (⟨#[]⟩ : ByteArray)) := (blk_cell BKx.out 1).trans rfl; have fx_1 := blk_frozen BKx.out 1; have zx_2 : World.cell? _ ⟨gbx, 2, none⟩ = some (.string (⟨#[]⟩ : ByteArray)) := (blk_cell BKx.out 2).trans rfl; have fx_2 := blk_frozen BKx.out 2; have zx_3 : World.cell? _ ⟨gbx, 3, none⟩ = some (.string (⟨#[]⟩ : ByteArray)) := (blk_cell BKx.out 3).trans rfl; have fx_3 := blk_frozen BKx.out 3; have zx_4 : World.cell? _ ⟨gbx, 4, none⟩ = some (.string (⟨#[]⟩ : ByteArray)) := (blk_cell BKx.out 4).trans rfl; have fx_4 := blk_frozen BKx.out 4; have hnxa := NBx_a.out; have hmxa := NBa_x.out; have zx_0 : World.cell? _ ⟨gbx, 0, none⟩ = some (.string (⟨#[]⟩ : ByteArray)) := (blk_cell BKx.out 0).trans rfl; have fx_0 := blk_frozen BKx.out 0; have zx_1 : World.cell? _ ⟨gbx, 1, none⟩ = some (.string (⟨#[]⟩ : ByteArray)) := (blk_cell BKx.out 1).trans rfl; have fx_1 := blk_frozen BKx.out 1; have zx_2 : World.cell? _ ⟨gbx, 2, none⟩ = some (.string (⟨#[]⟩ : ByteArray)) := (blk_cell BKx.out 2).trans rfl; have fx_2 := blk_frozen BKx.out 2; have zx_3 : World.cell? _ ⟨gbx, 3, none⟩ = some (.string (⟨#[]⟩ : ByteArray)) := (blk_cell BKx.out 3).trans rfl; have fx_3 := blk_frozen BKx.out 3; have zx_4 : World.cell? _ ⟨gbx, 4, none⟩ = some (.string (⟨#[]⟩ : ByteArray)) := (blk_cell BKx.out 4).trans rfl; have fx_4 := blk_frozen BKx.out 4; have hnxa := NBx_a.out; have hmxa := NBa_x.out; have za_0 : World.cell? _ ⟨gba, 0, none⟩ = some (.string a0_0) := (blk_cell BKa.out 0).trans rfl; have fa_0 := blk_frozen BKa.out 0; have za_1 : World.cell? _ ⟨gba, 1, none⟩ = some (.string a0_1) := (blk_cell BKa.out 1).trans rfl; have fa_1 := blk_frozen BKa.out 1; have za_2 : World.cell? _ ⟨gba, 2, none⟩ = some (.string a0_2) := (blk_cell BKa.out 2).trans rfl; have fa_2 := blk_frozen BKa.out 2; have za_3 : World.cell? _ ⟨gba, 3, none⟩ = some (.string a0_3) := (blk_cell BKa.out 3).trans rfl; have fa_3 := blk_frozen BKa.out 3; have za_4 : World.cell? _ ⟨gba, 4, none⟩ = some (.string a0_4) := (blk_cell BKa.out 4).trans rfl; have fa_4 := blk_frozen BKa.out 4; have hnax := NBa_x.out; have hmax := NBx_a.out))
  refine (tkn_mint a0_0 a0_1 a0_2 a0_3 a0_4 _).mono ?_
  rintro e w2 ⟨rfl, hb⟩
  have n_HB := Aside0.mk (below_step (by repeat (first | (with_reducible first | exact HB.out | apply below_alloc | apply pw_below_drewN | apply below_drew1 | refine below_set ?_ GEa.out | refine below_set ?_ GEx.out) | exact HB.out)) hb)
  have n_BKa := Aside0.mk (blk_below (g := gba) (o := .cells #[.string a0_0, .string a0_1, .string a0_2, .string a0_3, .string a0_4] 23 (0, 0)) (by (with_reducible repeat (first | refine blk_drewN ?_ _ | refine blk_drew ?_ | refine blk_alloc ?_ _)); refine blk_far ?_ NBa_x.out _; (with_reducible repeat (first | refine blk_drewN ?_ _ | refine blk_drew ?_ | refine blk_alloc ?_ _)); refine blk_far ?_ NBa_x.out _; (with_reducible repeat (first | refine blk_drewN ?_ _ | refine blk_drew ?_ | refine blk_alloc ?_ _)); refine blk_far ?_ NBa_x.out _; (with_reducible repeat (first | refine blk_drewN ?_ _ | refine blk_drew ?_ | refine blk_alloc ?_ _)); refine blk_far ?_ NBa_x.out _; (with_reducible repeat (first | refine blk_drewN ?_ _ | refine blk_drew ?_ | refine blk_alloc ?_ _)); refine blk_far ?_ NBa_x.out _; (with_reducible repeat (first | refine blk_drewN ?_ _ | refine blk_drew ?_ | refine blk_alloc ?_ _)); exact BKa.out) hb)
  have n_BKx := Aside0.mk (blk_below (g := gbx) (o := .cells #[.string (⟨#[]⟩ : ByteArray), .string (⟨#[]⟩ : ByteArray), .string (⟨#[]⟩ : ByteArray), .string (⟨#[]⟩ : ByteArray), .string (⟨#[]⟩ : ByteArray)] 23 (0, 0)) (by (with_reducible repeat (first | refine blk_drewN ?_ _ | refine blk_drew ?_ | refine blk_alloc ?_ _)); refine blk_put (cs := #[.string (⟨#[]⟩ : ByteArray), .string (⟨#[]⟩ : ByteArray), .string (⟨#[]⟩ : ByteArray), .string (⟨#[]⟩ : ByteArray), .string (⟨#[]⟩ : ByteArray)]) ?_ 4 _ rfl; (with_reducible repeat (first | refine blk_drewN ?_ _ | refine blk_drew ?_ | refine blk_alloc ?_ _)); refine blk_put (cs := #[.string (⟨#[]⟩ : ByteArray), .string (⟨#[]⟩ : ByteArray), .string (⟨#[]⟩ : ByteArray), .string (⟨#[]⟩ : ByteArray), .string (⟨#[]⟩ : ByteArray)]) ?_ 3 _ rfl; (with_reducible repeat (first | refine blk_drewN ?_ _ | refine blk_drew ?_ | refine blk_alloc ?_ _)); refine blk_put (cs := #[.string (⟨#[]⟩ : ByteArray), .string (⟨#[]⟩ : ByteArray), .string (⟨#[]⟩ : ByteArray), .string (⟨#[]⟩ : ByteArray), .string (⟨#[]⟩ : ByteArray)]) ?_ 2 _ rfl; (with_reducible repeat (first | refine blk_drewN ?_ _ | refine blk_drew ?_ | refine blk_alloc ?_ _)); refine blk_put (cs := #[.string (⟨#[]⟩ : ByteArray), .string (⟨#[]⟩ : ByteArray), .string (⟨#[]⟩ : ByteArray), .string (⟨#[]⟩ : ByteArray), .string (⟨#[]⟩ : ByteArray)]) ?_ 1 _ rfl; (with_reducible repeat (first | refine blk_drewN ?_ _ | refine blk_drew ?_ | refine blk_alloc ?_ _)); refine blk_put (cs := #[.string (⟨#[]⟩ : ByteArray), .string (⟨#[]⟩ : ByteArray), .string (⟨#[]⟩ : ByteArray), .string (⟨#[]⟩ : ByteArray), .string (⟨#[]⟩ : ByteArray)]) ?_ 0 _ rfl; (with_reducible repeat (first | refine blk_drewN ?_ _ | refine blk_drew ?_ | refine blk_alloc ?_ _)); exact BKx.out) hb)
  clear HB BKa BKx
  have HB := n_HB
  have BKa := n_BKa
  have BKx := n_BKx
  clear n_HB n_BKa n_BKx
  clear hb
  have zx_0 : World.cell? _ ⟨gbx, 0, none⟩ = some (.string (⟨#[]⟩ : ByteArray)) := (blk_cell BKx.out 0).trans rfl
  have fx_0 := blk_frozen BKx.out 0
  have zx_1 : World.cell? _ ⟨gbx, 1, none⟩ = some (.string (⟨#[]⟩ : ByteArray)) := (blk_cell BKx.out 1).trans rfl
  have fx_1 := blk_frozen BKx.out 1
  have zx_2 : World.cell? _ ⟨gbx, 2, none⟩ = some (.string (⟨#[]⟩ : ByteArray)) := (blk_cell BKx.out 2).trans rfl
  have fx_2 := blk_frozen BKx.out 2
  have zx_3 : World.cell? _ ⟨gbx, 3, none⟩ = some (.string (⟨#[]⟩ : ByteArray)) := (blk_cell BKx.out 3).trans rfl
  have fx_3 := blk_frozen BKx.out 3
  have zx_4 : World.cell? _ ⟨gbx, 4, none⟩ = some (.string (⟨#[]⟩ : ByteArray)) := (blk_cell BKx.out 4).trans rfl
  have fx_4 := blk_frozen BKx.out 4
  have hnxa := NBx_a.out
  have hmxa := NBa_x.out
  have za_0 : World.cell? _ ⟨gba, 0, none⟩ = some (.string a0_0) := (blk_cell BKa.out 0).trans rfl
  have fa_0 := blk_frozen BKa.out 0
  have za_1 : World.cell? _ ⟨gba, 1, none⟩ = some (.string a0_1) := (blk_cell BKa.out 1).trans rfl
  have fa_1 := blk_frozen BKa.out 1
  have za_2 : World.cell? _ ⟨gba, 2, none⟩ = some (.string a0_2) := (blk_cell BKa.out 2).trans rfl
  have fa_2 := blk_frozen BKa.out 2
  have za_3 : World.cell? _ ⟨gba, 3, none⟩ = some (.string a0_3) := (blk_cell BKa.out 3).trans rfl
  have fa_3 := blk_frozen BKa.out 3
  have za_4 : World.cell? _ ⟨gba, 4, none⟩ = some (.string a0_4) := (blk_cell BKa.out 4).trans rfl
  have fa_4 := blk_frozen BKa.out 4
  have hnax := NBa_x.out
  have hmax := NBx_a.out
  go_wp2_with fail
  refine (tkn_burn a0_0 a0_1 _).mono ?_
  rintro e w3 ⟨rfl, hb⟩
  have n_HB := Aside0.mk (below_step (by repeat (first | (with_reducible first | exact HB.out | apply below_alloc | apply pw_below_drewN | apply below_drew1 | refine below_set ?_ GEa.out | refine below_set ?_ GEx.out) | exact HB.out)) hb)
  have n_BKa := Aside0.mk (blk_below (g := gba) (o := .cells #[.string a0_0, .string a0_1, .string a0_2, .string a0_3, .string a0_4] 23 (0, 0)) (by first | exact BKa.out | ((with_reducible repeat (first | refine blk_drewN ?_ _ | refine blk_drew ?_ | refine blk_alloc ?_ _)); exact BKa.out)) hb)
  have n_BKx := Aside0.mk (blk_below (g := gbx) (o := .cells #[.string (⟨#[]⟩ : ByteArray), .string (⟨#[]⟩ : ByteArray), .string (⟨#[]⟩ : ByteArray), .string (⟨#[]⟩ : ByteArray), .string (⟨#[]⟩ : ByteArray)] 23 (0, 0)) (by first | exact BKx.out | ((with_reducible repeat (first | refine blk_drewN ?_ _ | refine blk_drew ?_ | refine blk_alloc ?_ _)); exact BKx.out)) hb)
  clear HB BKa BKx
  have HB := n_HB
  have BKa := n_BKa
  have BKx := n_BKx
  clear n_HB n_BKa n_BKx
  clear hb
  have zx_0 : World.cell? _ ⟨gbx, 0, none⟩ = some (.string (⟨#[]⟩ : ByteArray)) := (blk_cell BKx.out 0).trans rfl
  have fx_0 := blk_frozen BKx.out 0
  have zx_1 : World.cell? _ ⟨gbx, 1, none⟩ = some (.string (⟨#[]⟩ : ByteArray)) := (blk_cell BKx.out 1).trans rfl
  have fx_1 := blk_frozen BKx.out 1
  have zx_2 : World.cell? _ ⟨gbx, 2, none⟩ = some (.string (⟨#[]⟩ : ByteArray)) := (blk_cell BKx.out 2).trans rfl
  have fx_2 := blk_frozen BKx.out 2
  have zx_3 : World.cell? _ ⟨gbx, 3, none⟩ = some (.string (⟨#[]⟩ : ByteArray)) := (blk_cell BKx.out 3).trans rfl
  have fx_3 := blk_frozen BKx.out 3
  have zx_4 : World.cell? _ ⟨gbx, 4, none⟩ = some (.string (⟨#[]⟩ : ByteArray)) := (blk_cell BKx.out 4).trans rfl
  have fx_4 := blk_frozen BKx.out 4
  have hnxa := NBx_a.out
  have hmxa := NBa_x.out
  have za_0 : World.cell? _ ⟨gba, 0, none⟩ = some (.string a0_0) := (blk_cell BKa.out 0).trans rfl
  have fa_0 := blk_frozen BKa.out 0
  have za_1 : World.cell? _ ⟨gba, 1, none⟩ = some (.string a0_1) := (blk_cell BKa.out 1).trans rfl
  have fa_1 := blk_frozen BKa.out 1
  have za_2 : World.cell? _ ⟨gba, 2, none⟩ = some (.string a0_2) := (blk_cell BKa.out 2).trans rfl
  have fa_2 := blk_frozen BKa.out 2
  have za_3 : World.cell? _ ⟨gba, 3, none⟩ = some (.string a0_3) := (blk_cell BKa.out 3).trans rfl
  have fa_3 := blk_frozen BKa.out 3
  have za_4 : World.cell? _ ⟨gba, 4, none⟩ = some (.string a0_4) := (blk_cell BKa.out 4).trans rfl
  have fa_4 := blk_frozen BKa.out 4
  have hnax := NBa_x.out
  have hmax := NBx_a.out
  go_wp2_with fail
  refine (tkn_move a0_0 a0_1 a0_4 _).mono ?_
  rintro e w4 ⟨rfl, hb⟩
  have n_HB := Aside0.mk (below_step (by repeat (first | (with_reducible first | exact HB.out | apply below_alloc | apply pw_below_drewN | apply below_drew1 | refine below_set ?_ GEa.out | refine below_set ?_ GEx.out) | exact HB.out)) hb)
  have n_BKa := Aside0.mk (blk_below (g := gba) (o := .cells #[.string a0_0, .string a0_1, .string a0_2, .string a0_3, .string a0_4] 23 (0, 0)) (by first | exact BKa.out | ((with_reducible repeat (first | refine blk_drewN ?_ _ | refine blk_drew ?_ | refine blk_alloc ?_ _)); exact BKa.out)) hb)
  have n_BKx := Aside0.mk (blk_below (g := gbx) (o := .cells #[.string (⟨#[]⟩ : ByteArray), .string (⟨#[]⟩ : ByteArray), .string (⟨#[]⟩ : ByteArray), .string (⟨#[]⟩ : ByteArray), .string (⟨#[]⟩ : ByteArray)] 23 (0, 0)) (by first | exact BKx.out | ((with_reducible repeat (first | refine blk_drewN ?_ _ | refine blk_drew ?_ | refine blk_alloc ?_ _)); exact BKx.out)) hb)
  clear HB BKa BKx
  have HB := n_HB
  have BKa := n_BKa
  have BKx := n_BKx
  clear n_HB n_BKa n_BKx
  clear hb
  have zx_0 : World.cell? _ ⟨gbx, 0, none⟩ = some (.string (⟨#[]⟩ : ByteArray)) := (blk_cell BKx.out 0).trans rfl
  have fx_0 := blk_frozen BKx.out 0
  have zx_1 : World.cell? _ ⟨gbx, 1, none⟩ = some (.string (⟨#[]⟩ : ByteArray)) := (blk_cell BKx.out 1).trans rfl
  have fx_1 := blk_frozen BKx.out 1
  have zx_2 : World.cell? _ ⟨gbx, 2, none⟩ = some (.string (⟨#[]⟩ : ByteArray)) := (blk_cell BKx.out 2).trans rfl
  have fx_2 := blk_frozen BKx.out 2
  have zx_3 : World.cell? _ ⟨gbx, 3, none⟩ = some (.string (⟨#[]⟩ : ByteArray)) := (blk_cell BKx.out 3).trans rfl
  have fx_3 := blk_frozen BKx.out 3
  have zx_4 : World.cell? _ ⟨gbx, 4, none⟩ = some (.string (⟨#[]⟩ : ByteArray)) := (blk_cell BKx.out 4).trans rfl
  have fx_4 := blk_frozen BKx.out 4
  have hnxa := NBx_a.out
  have hmxa := NBa_x.out
  go_wp2_with fail
  refine (tkaw_calls _).mono ?_
  rintro e w5 ⟨rfl, hb⟩
  have n_HB := Aside0.mk (below_step (by repeat (first | (with_reducible first | exact HB.out | apply below_alloc | apply pw_below_drewN | apply below_drew1 | refine below_set ?_ GEa.out | refine below_set ?_ GEx.out) | exact HB.out)) hb)
  have n_BKa := Aside0.mk (blk_below (g := gba) (o := .cells #[.string a0_0, .string a0_1, .string a0_2, .string a0_3, .string a0_4] 23 (0, 0)) (by first | exact BKa.out | ((with_reducible repeat (first | refine blk_drewN ?_ _ | refine blk_drew ?_ | refine blk_alloc ?_ _)); exact BKa.out)) hb)
  have n_BKx := Aside0.mk (blk_below (g := gbx) (o := .cells #[.string (⟨#[]⟩ : ByteArray), .string (⟨#[]⟩ : ByteArray), .string (⟨#[]⟩ : ByteArray), .string (⟨#[]⟩ : ByteArray), .string (⟨#[]⟩ : ByteArray)] 23 (0, 0)) (by first | exact BKx.out | ((with_reducible repeat (first | refine blk_drewN ?_ _ | refine blk_drew ?_ | refine blk_alloc ?_ _)); exact BKx.out)) hb)
  clear HB BKa BKx
  have HB := n_HB
  have BKa := n_BKa
  have BKx := n_BKx
  clear n_HB n_BKa n_BKx
  clear hb
  go_wp2
  go_ret
  exact ⟨rfl, HB.out⟩

end Go.Proofs.YtjappgjpikbdeaaGreatDoor.PTkn
