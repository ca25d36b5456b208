-- written by wip/myprint.py over the kit's print; not a printed text of print.sh
import Derived.Test.YtcbaojkfffodiaaDoorPRulx0
import Derived.Test.YtcbaojkfffodiaaDoorPRulx1
import Derived.Test.YtcbaojkfffodiaaDoorPRulx6
import Derived.Test.YtcbaojkfffodiaaDoorPRulx7
import Derived.Test.YtcbaojkfffodiaaDoorPRulx9
import Derived.Test.YtcbaojkfffodiaaDoorPRulx17
import Derived.Test.YtcbaojkfffodiaaDoorPRulx18
import Derived.Test.YtcbaojkfffodiaaDoorPRulx19
import Derived.Test.YtcbaojkfffodiaaDoorPRulx20
import Derived.Test.YtcbaojkfffodiaaDoorPRulx21
namespace Go.Proofs.YtcbaojkfffodiaaDoor.PRul
open Go.RowKit Go.Proofs.YtcbaojkfffodiaaDoorW.PrintWords Go.Proofs.YtcbaojkfffodiaaDoorW.PrintLast Go.Proofs.YtcbaojkfffodiaaDoorW.PrintMore
attribute [local go_sem] max2_int min2_int max_two min_two max_three min_three max_four min_four   -- for this text's walks alone
set_option linter.unusedVariables false
set_option linter.unusedSimpArgs false

/-! ### footbridgelaw34_awake: function 30 -/
-- @break
theorem run0 : nm_checkSpec 0 (⟨#[110, 102, 116]⟩ : ByteArray) = 0 := nm_eq 0 _ (by decide) 60 0 (by kernel_rfl)
theorem run1 : nm_checkSpec 1 (⟨#[99, 104, 97, 110, 110, 101, 108, 45, 48]⟩ : ByteArray) = 0 := nm_eq 1 _ (by decide) 60 0 (by kernel_rfl)
theorem run4 : nm_checkSpec 4 (⟨#[99, 97, 116]⟩ : ByteArray) = 0 := nm_eq 4 _ (by decide) 60 0 (by kernel_rfl)
theorem run6 : nm_checkSpec 6 (⟨#[97, 108]⟩ : ByteArray) = 0 := nm_eq 6 _ (by decide) 60 0 (by kernel_rfl)
theorem run9 : nm_checkSpec 0 (⟨#[]⟩ : ByteArray) = 7 := nm_eq 0 _ (by decide) 60 7 (by kernel_rfl)
/-! ### the layer's examples -/
def ruR1 : List S100 := [⟨(⟨#[108, 105, 115, 116, 101, 100, 47, 110, 102, 116, 47, 99, 104, 97, 110, 110, 101, 108, 45, 48]⟩ : ByteArray), ⟨#[1]⟩⟩]
def ruR2 : List S100 := [⟨(⟨#[97, 108, 108, 111, 119, 47, 110, 102, 116, 47, 99, 104, 97, 110, 110, 101, 108, 45, 48, 47, 99, 97, 116]⟩ : ByteArray), ⟨#[1]⟩⟩, ⟨(⟨#[108, 105, 115, 116, 101, 100, 47, 110, 102, 116, 47, 99, 104, 97, 110, 110, 101, 108, 45, 48]⟩ : ByteArray), ⟨#[1]⟩⟩]
def ruR3 : List S100 := [⟨(⟨#[97, 108, 108, 111, 119, 47, 110, 102, 116, 47, 99, 104, 97, 110, 110, 101, 108, 45, 48, 47, 99, 97, 116]⟩ : ByteArray), ⟨#[1]⟩⟩, ⟨(⟨#[108, 105, 109, 105, 116, 47, 110, 102, 116, 47, 99, 104, 97, 110, 110, 101, 108, 45, 48]⟩ : ByteArray), ⟨#[1, 2]⟩⟩, ⟨(⟨#[108, 105, 115, 116, 101, 100, 47, 110, 102, 116, 47, 99, 104, 97, 110, 110, 101, 108, 45, 48]⟩ : ByteArray), ⟨#[1]⟩⟩]
def ruR4 : List S100 := [⟨(⟨#[97, 100, 109, 105, 110]⟩ : ByteArray), (⟨#[97, 108]⟩ : ByteArray)⟩, ⟨(⟨#[97, 108, 108, 111, 119, 47, 110, 102, 116, 47, 99, 104, 97, 110, 110, 101, 108, 45, 48, 47, 99, 97, 116]⟩ : ByteArray), ⟨#[1]⟩⟩, ⟨(⟨#[108, 105, 109, 105, 116, 47, 110, 102, 116, 47, 99, 104, 97, 110, 110, 101, 108, 45, 48]⟩ : ByteArray), ⟨#[1, 2]⟩⟩, ⟨(⟨#[108, 105, 115, 116, 101, 100, 47, 110, 102, 116, 47, 99, 104, 97, 110, 110, 101, 108, 45, 48]⟩ : ByteArray), ⟨#[1]⟩⟩]
theorem rukL : ruK (⟨#[108, 105, 115, 116, 101, 100]⟩ : ByteArray) (⟨#[110, 102, 116]⟩ : ByteArray) (⟨#[99, 104, 97, 110, 110, 101, 108, 45, 48]⟩ : ByteArray) [] = (⟨#[108, 105, 115, 116, 101, 100, 47, 110, 102, 116, 47, 99, 104, 97, 110, 110, 101, 108, 45, 48]⟩ : ByteArray) := by
  simp [ruK, keyB, keyL, glue, hidL, ofL, ByteArray.toList_eq]
theorem rukA : ruK (⟨#[97, 108, 108, 111, 119]⟩ : ByteArray) (⟨#[110, 102, 116]⟩ : ByteArray) (⟨#[99, 104, 97, 110, 110, 101, 108, 45, 48]⟩ : ByteArray) [(⟨#[99, 97, 116]⟩ : ByteArray)] = (⟨#[97, 108, 108, 111, 119, 47, 110, 102, 116, 47, 99, 104, 97, 110, 110, 101, 108, 45, 48, 47, 99, 97, 116]⟩ : ByteArray) := by
  simp [ruK, keyB, keyL, glue, hidL, ofL, ByteArray.toList_eq]
theorem rukM : ruK (⟨#[108, 105, 109, 105, 116]⟩ : ByteArray) (⟨#[110, 102, 116]⟩ : ByteArray) (⟨#[99, 104, 97, 110, 110, 101, 108, 45, 48]⟩ : ByteArray) [] = (⟨#[108, 105, 109, 105, 116, 47, 110, 102, 116, 47, 99, 104, 97, 110, 110, 101, 108, 45, 48]⟩ : ByteArray) := by
  simp [ruK, keyB, keyL, glue, hidL, ofL, ByteArray.toList_eq]
theorem run2 : numB 2 = (⟨#[1, 2]⟩ : ByteArray) := by decide +kernel
theorem rur2 : (rNum (⟨#[1, 2]⟩ : ByteArray) 0).1 = 2 := by decide +kernel
theorem rur0 : (rNum (⟨#[]⟩ : ByteArray) 0).1 = 0 := by decide +kernel
theorem ruhop : ruChk (⟨#[110, 102, 116]⟩ : ByteArray) (⟨#[99, 104, 97, 110, 110, 101, 108, 45, 48]⟩ : ByteArray) = 0 := if_pos ⟨run0, run1⟩
theorem runo : ruChk (⟨#[]⟩ : ByteArray) (⟨#[]⟩ : ByteArray) = 7 := if_neg (fun e => by rw [run9] at e; exact absurd e.1 (by decide))
theorem ruaw1 : ruMay [] (⟨#[110, 102, 116]⟩ : ByteArray) (⟨#[99, 104, 97, 110, 110, 101, 108, 45, 48]⟩ : ByteArray) (⟨#[99, 97, 116]⟩ : ByteArray) 99 = 0 := by
  simp [ruMay, hasK, posK]
theorem ruaw2 : ruListed [] (⟨#[110, 102, 116]⟩ : ByteArray) (⟨#[99, 104, 97, 110, 110, 101, 108, 45, 48]⟩ : ByteArray) true = ruR1 := by
  simp [ruListed, ruhop, flagK, rukL, setC, setK, getK, hasK, posK, kLt, ByteArray.toList_eq, Op.bytesLess, ByteArray.size, rd_T100, ruR1]
theorem ruaw3 : ruMay ruR1 (⟨#[110, 102, 116]⟩ : ByteArray) (⟨#[99, 104, 97, 110, 110, 101, 108, 45, 48]⟩ : ByteArray) (⟨#[99, 97, 116]⟩ : ByteArray) 1 = 20 := by
  simp [ruMay, rukM, rukL, rukA, getK, hasK, posK, kLt, ByteArray.toList_eq, Op.bytesLess, ByteArray.size, rd_T100, ruR1]
theorem ruaw4 : ruAllowE (⟨#[110, 102, 116]⟩ : ByteArray) (⟨#[99, 104, 97, 110, 110, 101, 108, 45, 48]⟩ : ByteArray) (⟨#[99, 97, 116]⟩ : ByteArray) = 0 ∧ ruAllow ruR1 (⟨#[110, 102, 116]⟩ : ByteArray) (⟨#[99, 104, 97, 110, 110, 101, 108, 45, 48]⟩ : ByteArray) (⟨#[99, 97, 116]⟩ : ByteArray) true = ruR2 := by
  simp [ruAllow, ruAllowE, ruhop, run4, flagK, rukA, setC, setK, getK, hasK, posK, kLt, ByteArray.toList_eq, Op.bytesLess, ByteArray.size, rd_T100, ruR1, ruR2]
theorem ruaw5 : ruMay ruR2 (⟨#[110, 102, 116]⟩ : ByteArray) (⟨#[99, 104, 97, 110, 110, 101, 108, 45, 48]⟩ : ByteArray) (⟨#[99, 97, 116]⟩ : ByteArray) 3 = 0 := by
  simp [ruMay, rukM, rukL, rukA, getK, hasK, posK, kLt, ByteArray.toList_eq, Op.bytesLess, ByteArray.size, rd_T100, ruR2]
theorem ruaw6 : ruLimitE (⟨#[110, 102, 116]⟩ : ByteArray) (⟨#[99, 104, 97, 110, 110, 101, 108, 45, 48]⟩ : ByteArray) 2 = 0 ∧ ruLimit ruR2 (⟨#[110, 102, 116]⟩ : ByteArray) (⟨#[99, 104, 97, 110, 110, 101, 108, 45, 48]⟩ : ByteArray) 2 = ruR3 := by
  simp [ruLimit, ruLimitE, ruhop, rukM, run2, setE, setC, setK, getK, hasK, posK, kLt, ByteArray.toList_eq, Op.bytesLess, ByteArray.size, rd_T100, ruR2, ruR3]
theorem ruaw7 : ruMay ruR3 (⟨#[110, 102, 116]⟩ : ByteArray) (⟨#[99, 104, 97, 110, 110, 101, 108, 45, 48]⟩ : ByteArray) (⟨#[99, 97, 116]⟩ : ByteArray) 3 = 21 := by
  simp [ruMay, rukM, rukL, rukA, rur2, getK, hasK, posK, kLt, ByteArray.toList_eq, Op.bytesLess, ByteArray.size, rd_T100, ruR3]
theorem ruaw8 : ruAdminE (⟨#[97, 108]⟩ : ByteArray) = 0 ∧ ruAdmin ruR3 (⟨#[97, 108]⟩ : ByteArray) = ruR4 := by
  simp [ruAdmin, ruAdminE, run6, setE, setC, setK, getK, hasK, posK, kLt, ByteArray.toList_eq, Op.bytesLess, ByteArray.size, rd_T100, ruR3, ruR4]
theorem ruaw9 : (getK ruR4 (⟨#[97, 100, 109, 105, 110]⟩ : ByteArray)).1 = (⟨#[97, 108]⟩ : ByteArray) := by
  simp [getK, hasK, posK, kLt, ByteArray.toList_eq, Op.bytesLess, ByteArray.size, rd_T100, ruR4]
theorem ruaw10 : ruLimitE (⟨#[110, 102, 116]⟩ : ByteArray) (⟨#[99, 104, 97, 110, 110, 101, 108, 45, 48]⟩ : ByteArray) 17 = 3 ∧ ruLimit ruR4 (⟨#[110, 102, 116]⟩ : ByteArray) (⟨#[99, 104, 97, 110, 110, 101, 108, 45, 48]⟩ : ByteArray) 17 = ruR4 := by
  simp [ruLimit, ruLimitE, ruhop]
theorem ruaw11 : ruLimitE (⟨#[]⟩ : ByteArray) (⟨#[]⟩ : ByteArray) 1 = 7 ∧ ruLimit ruR4 (⟨#[]⟩ : ByteArray) (⟨#[]⟩ : ByteArray) 1 = ruR4 := by
  simp [ruLimit, ruLimitE, runo]
theorem ruRK1 : KV 1000000 ruR1 := ⟨by simp [sortK, ruR1, kLt, ByteArray.toList_eq, Op.bytesLess], by show 1 ≤ 1000000; omega, fun p hp => by simp only [ruR1, List.mem_cons, List.not_mem_nil, or_false] at hp; rcases hp with rfl <;> (first | (show 1 ≤ 65536; omega) | (show 2 ≤ 65536; omega))⟩
theorem ruRK2 : KV 1000000 ruR2 := ⟨by simp [sortK, ruR2, kLt, ByteArray.toList_eq, Op.bytesLess], by show 2 ≤ 1000000; omega, fun p hp => by simp only [ruR2, List.mem_cons, List.not_mem_nil, or_false] at hp; rcases hp with rfl | rfl <;> (first | (show 1 ≤ 65536; omega) | (show 2 ≤ 65536; omega))⟩
theorem ruRK3 : KV 1000000 ruR3 := ⟨by simp [sortK, ruR3, kLt, ByteArray.toList_eq, Op.bytesLess], by show 3 ≤ 1000000; omega, fun p hp => by simp only [ruR3, List.mem_cons, List.not_mem_nil, or_false] at hp; rcases hp with rfl | rfl | rfl <;> (first | (show 1 ≤ 65536; omega) | (show 2 ≤ 65536; omega))⟩
theorem ruRK4 : KV 1000000 ruR4 := ⟨by simp [sortK, ruR4, kLt, ByteArray.toList_eq, Op.bytesLess], by show 4 ≤ 1000000; omega, fun p hp => by simp only [ruR4, List.mem_cons, List.not_mem_nil, or_false] at hp; rcases hp with rfl | rfl | rfl | rfl <;> (first | (show 1 ≤ 65536; omega) | (show 2 ≤ 65536; omega))⟩
set_option maxHeartbeats 4000000 in
set_option maxRecDepth 100000 in
theorem ruaw_calls (w : World) : Calls Tryd.prog 30 #[] w fun e w' => e = .returned (.bool true) ∧ Below w.heap.size w w' := by
  go_enter Tryd.func30, Tryd.ntmps30
  go_wp2_with fail
  refine (j_new_nil w).mono ?_
  rintro e w1 ⟨g, rfl, hm, hb⟩
  have HB1 := Aside0.mk hb
  have HJ := Aside0.mk (JS.start hm hb.size)
  have HK := Aside0.mk (JK.of_below hb)
  clear hm hb
  go_wp2_with (first | ((with_reducible refine gate_dst (N := 2) rfl ?_); refine box_event ?hg (N := 2) ?hd (cs := #[.string (⟨#[]⟩ : ByteArray), .string (⟨#[]⟩ : ByteArray)]) (t := 50) ?hr ?_; (case hd => rfl); (case hg => rfl); (case hr => first | (go_simp; done) | (go_simp; rfl)); intro gbh hg wh hbox hb; have GKh := Aside0.mk ((by rw [hg]; exact JK.size (by (with_reducible repeat (first | apply JK.drewN | apply JK.drew | apply JK.alloc)); exact HK.out) : w.heap.size ≤ gbh)); have GJh := Aside0.mk ((by rw [hg]; exact JS.size0 (base := w.heap.size) (ok := fun k => w.heap.size ≤ k) (w0 := w1) (g := g) (cur := []) (by (with_reducible repeat (first | apply JS.drewN | apply JS.drew | apply JS.alloc)); exact HJ.out) : w1.heap.size ≤ gbh)); have n_HK := Aside0.mk (HK.out.trans (JK.of_below hb)); have n_HJ := Aside0.mk (JS.below (base := w.heap.size) (ok := fun k => w.heap.size ≤ k) (w0 := w1) (g := g) (cur := []) (by (with_reducible repeat (first | apply JS.drewN | apply JS.drew | apply JS.alloc)); exact HJ.out) hb); clear HK HJ; have HK := n_HK; have HJ := n_HJ; clear n_HK n_HJ; have BKh := Aside0.mk hbox; clear hb hbox hg; have zh_0 : World.cell? _ ⟨gbh, 0, none⟩ = some (.string (⟨#[]⟩ : ByteArray)) := (blk_cell BKh.out 0).trans rfl; have fh_0 := blk_frozen BKh.out 0; have zh_1 : World.cell? _ ⟨gbh, 1, none⟩ = some (.string (⟨#[]⟩ : ByteArray)) := (blk_cell BKh.out 1).trans rfl; have fh_1 := blk_frozen BKh.out 1; have zh_0 : World.cell? _ ⟨gbh, 0, none⟩ = some (.string (⟨#[]⟩ : ByteArray)) := (blk_cell BKh.out 0).trans rfl; have fh_0 := blk_frozen BKh.out 0; have zh_1 : World.cell? _ ⟨gbh, 1, none⟩ = some (.string (⟨#[]⟩ : ByteArray)) := (blk_cell BKh.out 1).trans rfl; have fh_1 := blk_frozen BKh.out 1))
  refine (ru_may (base := w.heap.size) (ok := fun k => w.heap.size ≤ k) (w0 := w1) (g := g) (cur := []) (⟨#[110, 102, 116]⟩ : ByteArray) (⟨#[99, 104, 97, 110, 110, 101, 108, 45, 48]⟩ : ByteArray) (⟨#[99, 97, 116]⟩ : ByteArray) 99 0 (by (with_reducible repeat (first | apply JS.drewN | apply JS.drew | apply JS.alloc)); refine JS.setb (q := 50) ?_ GJh.out (by (with_reducible repeat (first | refine blk_drewN ?_ _ | refine blk_drew ?_ | refine blk_alloc ?_ _)); refine blk_put (cs := #[.string (⟨#[]⟩ : ByteArray), .string (⟨#[]⟩ : ByteArray)]) ?_ 0 _ rfl; (with_reducible repeat (first | refine blk_drewN ?_ _ | refine blk_drew ?_ | refine blk_alloc ?_ _)); exact BKh.out) _ (by decide); (with_reducible repeat (first | apply JS.drewN | apply JS.drew | apply JS.alloc)); refine JS.setb (q := 50) ?_ GJh.out (by (with_reducible repeat (first | refine blk_drewN ?_ _ | refine blk_drew ?_ | refine blk_alloc ?_ _)); exact BKh.out) _ (by decide); (with_reducible repeat (first | apply JS.drewN | apply JS.drew | apply JS.alloc)); exact HJ.out) (KV.nil _) (by decide) (by decide) (by decide) ruaw1).mono ?_
  rintro e w2 ⟨rfl, hb⟩
  have n_HK := Aside0.mk ((by (with_reducible repeat (first | apply JK.drewN | apply JK.drew | apply JK.alloc)); refine JK.setb ?_ GKh.out _; (with_reducible repeat (first | apply JK.drewN | apply JK.drew | apply JK.alloc)); refine JK.setb ?_ GKh.out _; (with_reducible repeat (first | apply JK.drewN | apply JK.drew | apply JK.alloc)); exact HK.out : JK _ _).trans (JK.of_below hb))
  have n_HJ := Aside0.mk (JS.below (base := w.heap.size) (ok := fun k => w.heap.size ≤ k) (w0 := w1) (g := g) (cur := []) (by (with_reducible repeat (first | apply JS.drewN | apply JS.drew | apply JS.alloc)); refine JS.setb (q := 50) ?_ GJh.out (by (with_reducible repeat (first | refine blk_drewN ?_ _ | refine blk_drew ?_ | refine blk_alloc ?_ _)); refine blk_put (cs := #[.string (⟨#[]⟩ : ByteArray), .string (⟨#[]⟩ : ByteArray)]) ?_ 0 _ rfl; (with_reducible repeat (first | refine blk_drewN ?_ _ | refine blk_drew ?_ | refine blk_alloc ?_ _)); exact BKh.out) _ (by decide); (with_reducible repeat (first | apply JS.drewN | apply JS.drew | apply JS.alloc)); refine JS.setb (q := 50) ?_ GJh.out (by (with_reducible repeat (first | refine blk_drewN ?_ _ | refine blk_drew ?_ | refine blk_alloc ?_ _)); exact BKh.out) _ (by decide); (with_reducible repeat (first | apply JS.drewN | apply JS.drew | apply JS.alloc)); exact HJ.out) hb)
  have n_BKh := Aside0.mk (blk_below (g := gbh) (o := .cells #[.string (⟨#[110, 102, 116]⟩ : ByteArray), .string (⟨#[99, 104, 97, 110, 110, 101, 108, 45, 48]⟩ : ByteArray)] 50 (0, 0)) (by (with_reducible repeat (first | refine blk_drewN ?_ _ | refine blk_drew ?_ | refine blk_alloc ?_ _)); refine blk_put (cs := #[.string (⟨#[110, 102, 116]⟩ : ByteArray), .string (⟨#[]⟩ : ByteArray)]) ?_ 1 _ rfl; (with_reducible repeat (first | refine blk_drewN ?_ _ | refine blk_drew ?_ | refine blk_alloc ?_ _)); refine blk_put (cs := #[.string (⟨#[]⟩ : ByteArray), .string (⟨#[]⟩ : ByteArray)]) ?_ 0 _ rfl; (with_reducible repeat (first | refine blk_drewN ?_ _ | refine blk_drew ?_ | refine blk_alloc ?_ _)); exact BKh.out) hb)
  clear HK HJ BKh
  have HK := n_HK
  have HJ := n_HJ
  have BKh := n_BKh
  clear n_HK n_HJ n_BKh
  clear hb
  have zh_0 : World.cell? _ ⟨gbh, 0, none⟩ = some (.string (⟨#[110, 102, 116]⟩ : ByteArray)) := (blk_cell BKh.out 0).trans rfl
  have fh_0 := blk_frozen BKh.out 0
  have zh_1 : World.cell? _ ⟨gbh, 1, none⟩ = some (.string (⟨#[99, 104, 97, 110, 110, 101, 108, 45, 48]⟩ : ByteArray)) := (blk_cell BKh.out 1).trans rfl
  have fh_1 := blk_frozen BKh.out 1
  go_wp2_with fail
  refine (ru_listed (⟨#[110, 102, 116]⟩ : ByteArray) (⟨#[99, 104, 97, 110, 110, 101, 108, 45, 48]⟩ : ByteArray) true 0 ruR1 HJ.out (KV.nil _) (by decide) (by decide) ruhop ruaw2).mono ?_
  rintro e w3 ⟨rfl, hj, hk⟩
  have n_HK := Aside0.mk (HK.out.trans hk)
  have n_HJ := Aside0.mk (hj)
  have n_BKh := Aside0.mk (JK.blk (b := gbh) (c := #[.string (⟨#[110, 102, 116]⟩ : ByteArray), .string (⟨#[99, 104, 97, 110, 110, 101, 108, 45, 48]⟩ : ByteArray)]) (q := 50) (x := (0, 0)) hk (by (with_reducible repeat (first | refine blk_drewN ?_ _ | refine blk_drew ?_ | refine blk_alloc ?_ _)); exact BKh.out) (by decide))
  clear HK HJ BKh
  have HK := n_HK
  have HJ := n_HJ
  have BKh := n_BKh
  clear n_HK n_HJ n_BKh
  clear hj hk
  have zh_0 : World.cell? _ ⟨gbh, 0, none⟩ = some (.string (⟨#[110, 102, 116]⟩ : ByteArray)) := (blk_cell BKh.out 0).trans rfl
  have fh_0 := blk_frozen BKh.out 0
  have zh_1 : World.cell? _ ⟨gbh, 1, none⟩ = some (.string (⟨#[99, 104, 97, 110, 110, 101, 108, 45, 48]⟩ : ByteArray)) := (blk_cell BKh.out 1).trans rfl
  have fh_1 := blk_frozen BKh.out 1
  go_wp2_with fail
  refine (ru_may (⟨#[110, 102, 116]⟩ : ByteArray) (⟨#[99, 104, 97, 110, 110, 101, 108, 45, 48]⟩ : ByteArray) (⟨#[99, 97, 116]⟩ : ByteArray) 1 20 HJ.out ruRK1 (by decide) (by decide) (by decide) ruaw3).mono ?_
  rintro e w4 ⟨rfl, hb⟩
  have n_HK := Aside0.mk (HK.out.trans (JK.of_below hb))
  have n_HJ := Aside0.mk (JS.below (base := w.heap.size) (ok := fun k => w.heap.size ≤ k) (w0 := w1) (g := g) (cur := ruR1) (by (with_reducible repeat (first | apply JS.drewN | apply JS.drew | apply JS.alloc)); exact HJ.out) hb)
  have n_BKh := Aside0.mk (blk_below (g := gbh) (o := .cells #[.string (⟨#[110, 102, 116]⟩ : ByteArray), .string (⟨#[99, 104, 97, 110, 110, 101, 108, 45, 48]⟩ : ByteArray)] 50 (0, 0)) (by (with_reducible repeat (first | refine blk_drewN ?_ _ | refine blk_drew ?_ | refine blk_alloc ?_ _)); exact BKh.out) hb)
  clear HK HJ BKh
  have HK := n_HK
  have HJ := n_HJ
  have BKh := n_BKh
  clear n_HK n_HJ n_BKh
  clear hb
  have zh_0 : World.cell? _ ⟨gbh, 0, none⟩ = some (.string (⟨#[110, 102, 116]⟩ : ByteArray)) := (blk_cell BKh.out 0).trans rfl
  have fh_0 := blk_frozen BKh.out 0
  have zh_1 : World.cell? _ ⟨gbh, 1, none⟩ = some (.string (⟨#[99, 104, 97, 110, 110, 101, 108, 45, 48]⟩ : ByteArray)) := (blk_cell BKh.out 1).trans rfl
  have fh_1 := blk_frozen BKh.out 1
  go_wp2_with fail
  refine (ru_allow (⟨#[110, 102, 116]⟩ : ByteArray) (⟨#[99, 104, 97, 110, 110, 101, 108, 45, 48]⟩ : ByteArray) (⟨#[99, 97, 116]⟩ : ByteArray) true 0 ruR2 HJ.out ruRK1 (by decide) (by decide) (by decide) ruaw4.1 ruaw4.2).mono ?_
  rintro e w5 ⟨rfl, hj, hk⟩
  have n_HK := Aside0.mk (HK.out.trans hk)
  have n_HJ := Aside0.mk (hj)
  have n_BKh := Aside0.mk (JK.blk (b := gbh) (c := #[.string (⟨#[110, 102, 116]⟩ : ByteArray), .string (⟨#[99, 104, 97, 110, 110, 101, 108, 45, 48]⟩ : ByteArray)]) (q := 50) (x := (0, 0)) hk (by (with_reducible repeat (first | refine blk_drewN ?_ _ | refine blk_drew ?_ | refine blk_alloc ?_ _)); exact BKh.out) (by decide))
  clear HK HJ BKh
  have HK := n_HK
  have HJ := n_HJ
  have BKh := n_BKh
  clear n_HK n_HJ n_BKh
  clear hj hk
  have zh_0 : World.cell? _ ⟨gbh, 0, none⟩ = some (.string (⟨#[110, 102, 116]⟩ : ByteArray)) := (blk_cell BKh.out 0).trans rfl
  have fh_0 := blk_frozen BKh.out 0
  have zh_1 : World.cell? _ ⟨gbh, 1, none⟩ = some (.string (⟨#[99, 104, 97, 110, 110, 101, 108, 45, 48]⟩ : ByteArray)) := (blk_cell BKh.out 1).trans rfl
  have fh_1 := blk_frozen BKh.out 1
  go_wp2_with fail
  refine (ru_may (⟨#[110, 102, 116]⟩ : ByteArray) (⟨#[99, 104, 97, 110, 110, 101, 108, 45, 48]⟩ : ByteArray) (⟨#[99, 97, 116]⟩ : ByteArray) 3 0 HJ.out ruRK2 (by decide) (by decide) (by decide) ruaw5).mono ?_
  rintro e w6 ⟨rfl, hb⟩
  have n_HK := Aside0.mk (HK.out.trans (JK.of_below hb))
  have n_HJ := Aside0.mk (JS.below (base := w.heap.size) (ok := fun k => w.heap.size ≤ k) (w0 := w1) (g := g) (cur := ruR2) (by (with_reducible repeat (first | apply JS.drewN | apply JS.drew | apply JS.alloc)); exact HJ.out) hb)
  have n_BKh := Aside0.mk (blk_below (g := gbh) (o := .cells #[.string (⟨#[110, 102, 116]⟩ : ByteArray), .string (⟨#[99, 104, 97, 110, 110, 101, 108, 45, 48]⟩ : ByteArray)] 50 (0, 0)) (by (with_reducible repeat (first | refine blk_drewN ?_ _ | refine blk_drew ?_ | refine blk_alloc ?_ _)); exact BKh.out) hb)
  clear HK HJ BKh
  have HK := n_HK
  have HJ := n_HJ
  have BKh := n_BKh
  clear n_HK n_HJ n_BKh
  clear hb
  have zh_0 : World.cell? _ ⟨gbh, 0, none⟩ = some (.string (⟨#[110, 102, 116]⟩ : ByteArray)) := (blk_cell BKh.out 0).trans rfl
  have fh_0 := blk_frozen BKh.out 0
  have zh_1 : World.cell? _ ⟨gbh, 1, none⟩ = some (.string (⟨#[99, 104, 97, 110, 110, 101, 108, 45, 48]⟩ : ByteArray)) := (blk_cell BKh.out 1).trans rfl
  have fh_1 := blk_frozen BKh.out 1
  go_wp2_with fail
  refine (ru_limit (⟨#[110, 102, 116]⟩ : ByteArray) (⟨#[99, 104, 97, 110, 110, 101, 108, 45, 48]⟩ : ByteArray) 2 0 ruR3 HJ.out ruRK2 (by decide) (by decide) ruaw6.1 ruaw6.2).mono ?_
  rintro e w7 ⟨rfl, hj, hk⟩
  have n_HK := Aside0.mk (HK.out.trans hk)
  have n_HJ := Aside0.mk (hj)
  have n_BKh := Aside0.mk (JK.blk (b := gbh) (c := #[.string (⟨#[110, 102, 116]⟩ : ByteArray), .string (⟨#[99, 104, 97, 110, 110, 101, 108, 45, 48]⟩ : ByteArray)]) (q := 50) (x := (0, 0)) hk (by (with_reducible repeat (first | refine blk_drewN ?_ _ | refine blk_drew ?_ | refine blk_alloc ?_ _)); exact BKh.out) (by decide))
  clear HK HJ BKh
  have HK := n_HK
  have HJ := n_HJ
  have BKh := n_BKh
  clear n_HK n_HJ n_BKh
  clear hj hk
  have zh_0 : World.cell? _ ⟨gbh, 0, none⟩ = some (.string (⟨#[110, 102, 116]⟩ : ByteArray)) := (blk_cell BKh.out 0).trans rfl
  have fh_0 := blk_frozen BKh.out 0
  have zh_1 : World.cell? _ ⟨gbh, 1, none⟩ = some (.string (⟨#[99, 104, 97, 110, 110, 101, 108, 45, 48]⟩ : ByteArray)) := (blk_cell BKh.out 1).trans rfl
  have fh_1 := blk_frozen BKh.out 1
  go_wp2_with fail
  refine (ru_may (⟨#[110, 102, 116]⟩ : ByteArray) (⟨#[99, 104, 97, 110, 110, 101, 108, 45, 48]⟩ : ByteArray) (⟨#[99, 97, 116]⟩ : ByteArray) 3 21 HJ.out ruRK3 (by decide) (by decide) (by decide) ruaw7).mono ?_
  rintro e w8 ⟨rfl, hb⟩
  have n_HK := Aside0.mk (HK.out.trans (JK.of_below hb))
  have n_HJ := Aside0.mk (JS.below (base := w.heap.size) (ok := fun k => w.heap.size ≤ k) (w0 := w1) (g := g) (cur := ruR3) (by (with_reducible repeat (first | apply JS.drewN | apply JS.drew | apply JS.alloc)); exact HJ.out) hb)
  have n_BKh := Aside0.mk (blk_below (g := gbh) (o := .cells #[.string (⟨#[110, 102, 116]⟩ : ByteArray), .string (⟨#[99, 104, 97, 110, 110, 101, 108, 45, 48]⟩ : ByteArray)] 50 (0, 0)) (by (with_reducible repeat (first | refine blk_drewN ?_ _ | refine blk_drew ?_ | refine blk_alloc ?_ _)); exact BKh.out) hb)
  clear HK HJ BKh
  have HK := n_HK
  have HJ := n_HJ
  have BKh := n_BKh
  clear n_HK n_HJ n_BKh
  clear hb
  have zh_0 : World.cell? _ ⟨gbh, 0, none⟩ = some (.string (⟨#[110, 102, 116]⟩ : ByteArray)) := (blk_cell BKh.out 0).trans rfl
  have fh_0 := blk_frozen BKh.out 0
  have zh_1 : World.cell? _ ⟨gbh, 1, none⟩ = some (.string (⟨#[99, 104, 97, 110, 110, 101, 108, 45, 48]⟩ : ByteArray)) := (blk_cell BKh.out 1).trans rfl
  have fh_1 := blk_frozen BKh.out 1
  go_wp2_with fail
  refine (ru_setadmin (⟨#[97, 108]⟩ : ByteArray) 0 ruR4 HJ.out ruRK3 (by decide) ruaw8.1 ruaw8.2).mono ?_
  rintro e w9 ⟨rfl, hj, hk⟩
  have n_HK := Aside0.mk (HK.out.trans hk)
  have n_HJ := Aside0.mk (hj)
  have n_BKh := Aside0.mk (JK.blk (b := gbh) (c := #[.string (⟨#[110, 102, 116]⟩ : ByteArray), .string (⟨#[99, 104, 97, 110, 110, 101, 108, 45, 48]⟩ : ByteArray)]) (q := 50) (x := (0, 0)) hk (by (with_reducible repeat (first | refine blk_drewN ?_ _ | refine blk_drew ?_ | refine blk_alloc ?_ _)); exact BKh.out) (by decide))
  clear HK HJ BKh
  have HK := n_HK
  have HJ := n_HJ
  have BKh := n_BKh
  clear n_HK n_HJ n_BKh
  clear hj hk
  have zh_0 : World.cell? _ ⟨gbh, 0, none⟩ = some (.string (⟨#[110, 102, 116]⟩ : ByteArray)) := (blk_cell BKh.out 0).trans rfl
  have fh_0 := blk_frozen BKh.out 0
  have zh_1 : World.cell? _ ⟨gbh, 1, none⟩ = some (.string (⟨#[99, 104, 97, 110, 110, 101, 108, 45, 48]⟩ : ByteArray)) := (blk_cell BKh.out 1).trans rfl
  have fh_1 := blk_frozen BKh.out 1
  go_wp2_with fail
  refine (ru_admin (⟨#[97, 108]⟩ : ByteArray) HJ.out ruRK4 ruaw9).mono ?_
  rintro e w10 ⟨rfl, hb⟩
  have n_HK := Aside0.mk (HK.out.trans (JK.of_below hb))
  have n_HJ := Aside0.mk (JS.below (base := w.heap.size) (ok := fun k => w.heap.size ≤ k) (w0 := w1) (g := g) (cur := ruR4) (by (with_reducible repeat (first | apply JS.drewN | apply JS.drew | apply JS.alloc)); exact HJ.out) hb)
  have n_BKh := Aside0.mk (blk_below (g := gbh) (o := .cells #[.string (⟨#[110, 102, 116]⟩ : ByteArray), .string (⟨#[99, 104, 97, 110, 110, 101, 108, 45, 48]⟩ : ByteArray)] 50 (0, 0)) (by (with_reducible repeat (first | refine blk_drewN ?_ _ | refine blk_drew ?_ | refine blk_alloc ?_ _)); exact BKh.out) hb)
  clear HK HJ BKh
  have HK := n_HK
  have HJ := n_HJ
  have BKh := n_BKh
  clear n_HK n_HJ n_BKh
  clear hb
  have zh_0 : World.cell? _ ⟨gbh, 0, none⟩ = some (.string (⟨#[110, 102, 116]⟩ : ByteArray)) := (blk_cell BKh.out 0).trans rfl
  have fh_0 := blk_frozen BKh.out 0
  have zh_1 : World.cell? _ ⟨gbh, 1, none⟩ = some (.string (⟨#[99, 104, 97, 110, 110, 101, 108, 45, 48]⟩ : ByteArray)) := (blk_cell BKh.out 1).trans rfl
  have fh_1 := blk_frozen BKh.out 1
  go_wp2_with fail
  refine (ru_limit (⟨#[110, 102, 116]⟩ : ByteArray) (⟨#[99, 104, 97, 110, 110, 101, 108, 45, 48]⟩ : ByteArray) 17 3 ruR4 HJ.out ruRK4 (by decide) (by decide) ruaw10.1 ruaw10.2).mono ?_
  rintro e w11 ⟨rfl, hj, hk⟩
  have n_HK := Aside0.mk (HK.out.trans hk)
  have n_HJ := Aside0.mk (hj)
  have n_BKh := Aside0.mk (JK.blk (b := gbh) (c := #[.string (⟨#[110, 102, 116]⟩ : ByteArray), .string (⟨#[99, 104, 97, 110, 110, 101, 108, 45, 48]⟩ : ByteArray)]) (q := 50) (x := (0, 0)) hk (by (with_reducible repeat (first | refine blk_drewN ?_ _ | refine blk_drew ?_ | refine blk_alloc ?_ _)); exact BKh.out) (by decide))
  clear HK HJ BKh
  have HK := n_HK
  have HJ := n_HJ
  have BKh := n_BKh
  clear n_HK n_HJ n_BKh
  clear hj hk
  have zh_0 : World.cell? _ ⟨gbh, 0, none⟩ = some (.string (⟨#[110, 102, 116]⟩ : ByteArray)) := (blk_cell BKh.out 0).trans rfl
  have fh_0 := blk_frozen BKh.out 0
  have zh_1 : World.cell? _ ⟨gbh, 1, none⟩ = some (.string (⟨#[99, 104, 97, 110, 110, 101, 108, 45, 48]⟩ : ByteArray)) := (blk_cell BKh.out 1).trans rfl
  have fh_1 := blk_frozen BKh.out 1
  go_wp2_with fail
  refine (ru_limit (⟨#[]⟩ : ByteArray) (⟨#[]⟩ : ByteArray) 1 7 ruR4 HJ.out ruRK4 (by decide) (by decide) ruaw11.1 ruaw11.2).mono ?_
  rintro e w12 ⟨rfl, hj, hk⟩
  have n_HK := Aside0.mk (HK.out.trans hk)
  have n_HJ := Aside0.mk (hj)
  have n_BKh := Aside0.mk (JK.blk (b := gbh) (c := #[.string (⟨#[110, 102, 116]⟩ : ByteArray), .string (⟨#[99, 104, 97, 110, 110, 101, 108, 45, 48]⟩ : ByteArray)]) (q := 50) (x := (0, 0)) hk (by (with_reducible repeat (first | refine blk_drewN ?_ _ | refine blk_drew ?_ | refine blk_alloc ?_ _)); exact BKh.out) (by decide))
  clear HK HJ BKh
  have HK := n_HK
  have HJ := n_HJ
  have BKh := n_BKh
  clear n_HK n_HJ n_BKh
  clear hj hk
  have zh_0 : World.cell? _ ⟨gbh, 0, none⟩ = some (.string (⟨#[110, 102, 116]⟩ : ByteArray)) := (blk_cell BKh.out 0).trans rfl
  have fh_0 := blk_frozen BKh.out 0
  have zh_1 : World.cell? _ ⟨gbh, 1, none⟩ = some (.string (⟨#[99, 104, 97, 110, 110, 101, 108, 45, 48]⟩ : ByteArray)) := (blk_cell BKh.out 1).trans rfl
  have fh_1 := blk_frozen BKh.out 1
  go_wp2_with fail
  refine (run_admin _).mono ?_
  rintro e w13 ⟨rfl, hw13⟩
  subst hw13
  have hfin := Aside0.mk (JW.toBelow HB1.out HB1.out.size HJ.out.jw (fun k hk => hk))
  clear HJ HK
  go_wp2
  go_ret
  exact ⟨rfl, hfin.out⟩

/-! ### footbridgelaw34_RulesNone: function 6 -/
def footbridgelaw34_RulesNone.f (_a0_0 : Int) (_a0_1 _a0_2 _a0_3 : ByteArray) (_a0_4 : Bool) (_a0_5 : Int) : Option Bool := some true
set_option maxHeartbeats 4000000 in
set_option maxRecDepth 100000 in
theorem footbridgelaw34_RulesNone.calls (a0_0 : Int) (a0_1 a0_2 a0_3 : ByteArray) (a0_4 : Bool) (a0_5 : Int) (r : Bool) (w : World) (h : footbridgelaw34_RulesNone.f a0_0 a0_1 a0_2 a0_3 a0_4 a0_5 = some r) :
    Calls Tryd.prog 6 #[.agg #[.int .i64 a0_0, .string a0_1, .string a0_2, .string a0_3, .bool a0_4, .int .i64 a0_5]] w fun e w' => e = .returned (.bool r) ∧ Below w.heap.size w w' := by
  obtain rfl : true = r := Option.some.inj h
  clear h
  have HB := Aside0.mk (Below.refl w.heap.size w)
  go_enter Tryd.func6, Tryd.ntmps6
  go_wp2_with (first | ((with_reducible refine gate_dst (N := 1) rfl ?_); refine box_event ?hg (N := 1) ?hd (cs := #[.int .i64 a0_0, .string a0_1, .string a0_2, .string a0_3, .bool a0_4, .int .i64 a0_5]) (t := 52) ?hr ?_; (case hd => rfl); (case hg => rfl); (case hr => first | (go_simp; done) | (go_simp; rfl)); intro gba hg wa hbox hb; have GEa := Aside0.mk ((by rw [hg]; exact (below_size (by repeat (first | (with_reducible first | exact HB.out | apply below_alloc | apply pw_below_drewN | apply below_drew1) | exact HB.out))) : w.heap.size ≤ gba)); have n_HB := Aside0.mk (below_step (by repeat (first | (with_reducible first | exact HB.out | apply below_alloc | apply pw_below_drewN | apply below_drew1) | exact HB.out)) hb); clear HB; have HB := n_HB; clear n_HB; have BKa := Aside0.mk hbox; clear hb hbox hg; have za_0 : World.cell? _ ⟨gba, 0, none⟩ = some (.int .i64 a0_0) := (blk_cell BKa.out 0).trans rfl; have fa_0 := blk_frozen BKa.out 0; have za_1 : World.cell? _ ⟨gba, 1, none⟩ = some (.string a0_1) := (blk_cell BKa.out 1).trans rfl; have fa_1 := blk_frozen BKa.out 1; have za_2 : World.cell? _ ⟨gba, 2, none⟩ = some (.string a0_2) := (blk_cell BKa.out 2).trans rfl; have fa_2 := blk_frozen BKa.out 2; have za_3 : World.cell? _ ⟨gba, 3, none⟩ = some (.string a0_3) := (blk_cell BKa.out 3).trans rfl; have fa_3 := blk_frozen BKa.out 3; have za_4 : World.cell? _ ⟨gba, 4, none⟩ = some (.bool a0_4) := (blk_cell BKa.out 4).trans rfl; have fa_4 := blk_frozen BKa.out 4; have za_5 : World.cell? _ ⟨gba, 5, none⟩ = some (.int .i64 a0_5) := (blk_cell BKa.out 5).trans rfl; have fa_5 := blk_frozen BKa.out 5))
  refine (run_listed a0_1 a0_2 a0_4 _).mono ?_
  rintro e w1 ⟨rfl, hb⟩
  have n_HB := Aside0.mk (below_step (by repeat (first | (with_reducible first | exact HB.out | apply below_alloc | apply pw_below_drewN | apply below_drew1 | refine below_set ?_ GEa.out) | exact HB.out)) hb)
  have n_BKa := Aside0.mk (blk_below (g := gba) (o := .cells #[.int .i64 a0_0, .string a0_1, .string a0_2, .string a0_3, .bool a0_4, .int .i64 a0_5] 52 (0, 0)) (by (with_reducible repeat (first | refine blk_drewN ?_ _ | refine blk_drew ?_ | refine blk_alloc ?_ _)); exact BKa.out) hb)
  clear HB BKa
  have HB := n_HB
  have BKa := n_BKa
  clear n_HB n_BKa
  clear hb
  have za_0 : World.cell? _ ⟨gba, 0, none⟩ = some (.int .i64 a0_0) := (blk_cell BKa.out 0).trans rfl
  have fa_0 := blk_frozen BKa.out 0
  have za_1 : World.cell? _ ⟨gba, 1, none⟩ = some (.string a0_1) := (blk_cell BKa.out 1).trans rfl
  have fa_1 := blk_frozen BKa.out 1
  have za_2 : World.cell? _ ⟨gba, 2, none⟩ = some (.string a0_2) := (blk_cell BKa.out 2).trans rfl
  have fa_2 := blk_frozen BKa.out 2
  have za_3 : World.cell? _ ⟨gba, 3, none⟩ = some (.string a0_3) := (blk_cell BKa.out 3).trans rfl
  have fa_3 := blk_frozen BKa.out 3
  have za_4 : World.cell? _ ⟨gba, 4, none⟩ = some (.bool a0_4) := (blk_cell BKa.out 4).trans rfl
  have fa_4 := blk_frozen BKa.out 4
  have za_5 : World.cell? _ ⟨gba, 5, none⟩ = some (.int .i64 a0_5) := (blk_cell BKa.out 5).trans rfl
  have fa_5 := blk_frozen BKa.out 5
  go_wp2_with fail
  refine (run_allow a0_1 a0_2 a0_3 a0_4 _).mono ?_
  rintro e w2 ⟨rfl, hb⟩
  have n_HB := Aside0.mk (below_step (by repeat (first | (with_reducible first | exact HB.out | apply below_alloc | apply pw_below_drewN | apply below_drew1 | refine below_set ?_ GEa.out) | exact HB.out)) hb)
  have n_BKa := Aside0.mk (blk_below (g := gba) (o := .cells #[.int .i64 a0_0, .string a0_1, .string a0_2, .string a0_3, .bool a0_4, .int .i64 a0_5] 52 (0, 0)) (by (with_reducible repeat (first | refine blk_drewN ?_ _ | refine blk_drew ?_ | refine blk_alloc ?_ _)); exact BKa.out) hb)
  clear HB BKa
  have HB := n_HB
  have BKa := n_BKa
  clear n_HB n_BKa
  clear hb
  have za_0 : World.cell? _ ⟨gba, 0, none⟩ = some (.int .i64 a0_0) := (blk_cell BKa.out 0).trans rfl
  have fa_0 := blk_frozen BKa.out 0
  have za_1 : World.cell? _ ⟨gba, 1, none⟩ = some (.string a0_1) := (blk_cell BKa.out 1).trans rfl
  have fa_1 := blk_frozen BKa.out 1
  have za_2 : World.cell? _ ⟨gba, 2, none⟩ = some (.string a0_2) := (blk_cell BKa.out 2).trans rfl
  have fa_2 := blk_frozen BKa.out 2
  have za_3 : World.cell? _ ⟨gba, 3, none⟩ = some (.string a0_3) := (blk_cell BKa.out 3).trans rfl
  have fa_3 := blk_frozen BKa.out 3
  have za_4 : World.cell? _ ⟨gba, 4, none⟩ = some (.bool a0_4) := (blk_cell BKa.out 4).trans rfl
  have fa_4 := blk_frozen BKa.out 4
  have za_5 : World.cell? _ ⟨gba, 5, none⟩ = some (.int .i64 a0_5) := (blk_cell BKa.out 5).trans rfl
  have fa_5 := blk_frozen BKa.out 5
  go_wp2_with fail
  refine (run_limit a0_1 a0_2 a0_5 _).mono ?_
  rintro e w3 ⟨rfl, hb⟩
  have n_HB := Aside0.mk (below_step (by repeat (first | (with_reducible first | exact HB.out | apply below_alloc | apply pw_below_drewN | apply below_drew1 | refine below_set ?_ GEa.out) | exact HB.out)) hb)
  have n_BKa := Aside0.mk (blk_below (g := gba) (o := .cells #[.int .i64 a0_0, .string a0_1, .string a0_2, .string a0_3, .bool a0_4, .int .i64 a0_5] 52 (0, 0)) (by (with_reducible repeat (first | refine blk_drewN ?_ _ | refine blk_drew ?_ | refine blk_alloc ?_ _)); exact BKa.out) hb)
  clear HB BKa
  have HB := n_HB
  have BKa := n_BKa
  clear n_HB n_BKa
  clear hb
  have za_0 : World.cell? _ ⟨gba, 0, none⟩ = some (.int .i64 a0_0) := (blk_cell BKa.out 0).trans rfl
  have fa_0 := blk_frozen BKa.out 0
  have za_1 : World.cell? _ ⟨gba, 1, none⟩ = some (.string a0_1) := (blk_cell BKa.out 1).trans rfl
  have fa_1 := blk_frozen BKa.out 1
  have za_2 : World.cell? _ ⟨gba, 2, none⟩ = some (.string a0_2) := (blk_cell BKa.out 2).trans rfl
  have fa_2 := blk_frozen BKa.out 2
  have za_3 : World.cell? _ ⟨gba, 3, none⟩ = some (.string a0_3) := (blk_cell BKa.out 3).trans rfl
  have fa_3 := blk_frozen BKa.out 3
  have za_4 : World.cell? _ ⟨gba, 4, none⟩ = some (.bool a0_4) := (blk_cell BKa.out 4).trans rfl
  have fa_4 := blk_frozen BKa.out 4
  have za_5 : World.cell? _ ⟨gba, 5, none⟩ = some (.int .i64 a0_5) := (blk_cell BKa.out 5).trans rfl
  have fa_5 := blk_frozen BKa.out 5
  go_wp2_with fail
  refine (run_setadmin a0_3 _).mono ?_
  rintro e w4 ⟨rfl, hw4⟩
  subst hw4
  go_wp2_with fail
  refine (run_may a0_1 a0_2 a0_3 a0_5 _).mono ?_
  rintro e w5 ⟨rfl, hb⟩
  have n_HB := Aside0.mk (below_step (by repeat (first | (with_reducible first | exact HB.out | apply below_alloc | apply pw_below_drewN | apply below_drew1 | refine below_set ?_ GEa.out) | exact HB.out)) hb)
  have n_BKa := Aside0.mk (blk_below (g := gba) (o := .cells #[.int .i64 a0_0, .string a0_1, .string a0_2, .string a0_3, .bool a0_4, .int .i64 a0_5] 52 (0, 0)) (by (with_reducible repeat (first | refine blk_drewN ?_ _ | refine blk_drew ?_ | refine blk_alloc ?_ _)); exact BKa.out) hb)
  clear HB BKa
  have HB := n_HB
  have BKa := n_BKa
  clear n_HB n_BKa
  clear hb
  go_wp2_with fail
  refine (ruaw_calls _).mono ?_
  rintro e w6 ⟨rfl, hb⟩
  have n_HB := Aside0.mk (below_step (by repeat (first | (with_reducible first | exact HB.out | apply below_alloc | apply pw_below_drewN | apply below_drew1 | refine below_set ?_ GEa.out) | exact HB.out)) hb)
  have n_BKa := Aside0.mk (blk_below (g := gba) (o := .cells #[.int .i64 a0_0, .string a0_1, .string a0_2, .string a0_3, .bool a0_4, .int .i64 a0_5] 52 (0, 0)) (by (with_reducible repeat (first | refine blk_drewN ?_ _ | refine blk_drew ?_ | refine blk_alloc ?_ _)); exact BKa.out) hb)
  clear HB BKa
  have HB := n_HB
  have BKa := n_BKa
  clear n_HB n_BKa
  clear hb
  go_wp2
  go_ret
  exact ⟨rfl, HB.out⟩

end Go.Proofs.YtcbaojkfffodiaaDoor.PRul
