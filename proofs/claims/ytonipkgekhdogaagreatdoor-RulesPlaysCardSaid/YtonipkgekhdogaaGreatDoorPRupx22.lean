-- written by wip/myprint.py over the kit's print; not a printed text of print.sh
import Derived.Test.YtonipkgekhdogaaGreatDoorPRupx0
import Derived.Test.YtonipkgekhdogaaGreatDoorPRupx1
import Derived.Test.YtonipkgekhdogaaGreatDoorPRupx2
import Derived.Test.YtonipkgekhdogaaGreatDoorPRupx7
import Derived.Test.YtonipkgekhdogaaGreatDoorPRupx8
import Derived.Test.YtonipkgekhdogaaGreatDoorPRupx10
import Derived.Test.YtonipkgekhdogaaGreatDoorPRupx11
import Derived.Test.YtonipkgekhdogaaGreatDoorPRupx12
import Derived.Test.YtonipkgekhdogaaGreatDoorPRupx13
import Derived.Test.YtonipkgekhdogaaGreatDoorPRupx21
namespace Go.Proofs.YtonipkgekhdogaaGreatDoor.PRup
open Go.RowKit Go.Proofs.YtonipkgekhdogaaGreatDoorW.PrintWords Go.Proofs.YtonipkgekhdogaaGreatDoorW.PrintLast Go.Proofs.YtonipkgekhdogaaGreatDoorW.PrintMore
attribute [local go_sem] max2_int min2_int max_two min_two max_three min_three max_four min_four   -- for this text's walks alone
set_option linter.unusedVariables false
set_option linter.unusedSimpArgs false

attribute [local go_sem high] eqA73
/-! ### footbridgelaw34_awake: function 12 -/
-- @break
theorem run0 : nm_checkSpec 0 (⟨#[110, 102, 116]⟩ : ByteArray) = 0 := nm_eq 0 _ (by decide) 60 0 (by kernel_rfl)
theorem run1 : nm_checkSpec 1 (⟨#[99, 104, 97, 110, 110, 101, 108, 45, 48]⟩ : ByteArray) = 0 := nm_eq 1 _ (by decide) 60 0 (by kernel_rfl)
theorem run4 : nm_checkSpec 4 (⟨#[99, 97, 116]⟩ : ByteArray) = 0 := nm_eq 4 _ (by decide) 60 0 (by kernel_rfl)
theorem run6 : nm_checkSpec 6 (⟨#[97, 108]⟩ : ByteArray) = 0 := nm_eq 6 _ (by decide) 60 0 (by kernel_rfl)
theorem run9 : nm_checkSpec 0 (⟨#[]⟩ : ByteArray) = 7 := nm_eq 0 _ (by decide) 60 7 (by kernel_rfl)
/-! ### the layer's examples -/
def ruR1 : List S73 := [⟨(⟨#[108, 105, 115, 116, 101, 100, 47, 110, 102, 116, 47, 99, 104, 97, 110, 110, 101, 108, 45, 48]⟩ : ByteArray), ⟨#[1]⟩⟩]
def ruR2 : List S73 := [⟨(⟨#[97, 108, 108, 111, 119, 47, 110, 102, 116, 47, 99, 104, 97, 110, 110, 101, 108, 45, 48, 47, 99, 97, 116]⟩ : ByteArray), ⟨#[1]⟩⟩, ⟨(⟨#[108, 105, 115, 116, 101, 100, 47, 110, 102, 116, 47, 99, 104, 97, 110, 110, 101, 108, 45, 48]⟩ : ByteArray), ⟨#[1]⟩⟩]
def ruR3 : List S73 := [⟨(⟨#[97, 108, 108, 111, 119, 47, 110, 102, 116, 47, 99, 104, 97, 110, 110, 101, 108, 45, 48, 47, 99, 97, 116]⟩ : ByteArray), ⟨#[1]⟩⟩, ⟨(⟨#[108, 105, 109, 105, 116, 47, 110, 102, 116, 47, 99, 104, 97, 110, 110, 101, 108, 45, 48]⟩ : ByteArray), ⟨#[1, 2]⟩⟩, ⟨(⟨#[108, 105, 115, 116, 101, 100, 47, 110, 102, 116, 47, 99, 104, 97, 110, 110, 101, 108, 45, 48]⟩ : ByteArray), ⟨#[1]⟩⟩]
def ruR4 : List S73 := [⟨(⟨#[97, 100, 109, 105, 110]⟩ : ByteArray), (⟨#[97, 108]⟩ : ByteArray)⟩, ⟨(⟨#[97, 108, 108, 111, 119, 47, 110, 102, 116, 47, 99, 104, 97, 110, 110, 101, 108, 45, 48, 47, 99, 97, 116]⟩ : ByteArray), ⟨#[1]⟩⟩, ⟨(⟨#[108, 105, 109, 105, 116, 47, 110, 102, 116, 47, 99, 104, 97, 110, 110, 101, 108, 45, 48]⟩ : ByteArray), ⟨#[1, 2]⟩⟩, ⟨(⟨#[108, 105, 115, 116, 101, 100, 47, 110, 102, 116, 47, 99, 104, 97, 110, 110, 101, 108, 45, 48]⟩ : ByteArray), ⟨#[1]⟩⟩]
theorem rukL : ruK (⟨#[108, 105, 115, 116, 101, 100]⟩ : ByteArray) (⟨#[110, 102, 116]⟩ : ByteArray) (⟨#[99, 104, 97, 110, 110, 101, 108, 45, 48]⟩ : ByteArray) [] = (⟨#[108, 105, 115, 116, 101, 100, 47, 110, 102, 116, 47, 99, 104, 97, 110, 110, 101, 108, 45, 48]⟩ : ByteArray) := by
  simp [ruK, keyB, keyL, glue, hidL, ofL, ByteArray.toList_eq]
theorem rukA : ruK (⟨#[97, 108, 108, 111, 119]⟩ : ByteArray) (⟨#[110, 102, 116]⟩ : ByteArray) (⟨#[99, 104, 97, 110, 110, 101, 108, 45, 48]⟩ : ByteArray) [(⟨#[99, 97, 116]⟩ : ByteArray)] = (⟨#[97, 108, 108, 111, 119, 47, 110, 102, 116, 47, 99, 104, 97, 110, 110, 101, 108, 45, 48, 47, 99, 97, 116]⟩ : ByteArray) := by
  simp [ruK, keyB, keyL, glue, hidL, ofL, ByteArray.toList_eq]
theorem rukM : ruK (⟨#[108, 105, 109, 105, 116]⟩ : ByteArray) (⟨#[110, 102, 116]⟩ : ByteArray) (⟨#[99, 104, 97, 110, 110, 101, 108, 45, 48]⟩ : ByteArray) [] = (⟨#[108, 105, 109, 105, 116, 47, 110, 102, 116, 47, 99, 104, 97, 110, 110, 101, 108, 45, 48]⟩ : ByteArray) := by
  simp [ruK, keyB, keyL, glue, hidL, ofL, ByteArray.toList_eq]
theorem run2 : numB 2 = (⟨#[1, 2]⟩ : ByteArray) := by decide +kernel
theorem rur2 : (rNum (⟨#[1, 2]⟩ : ByteArray) 0).1 = 2 := by decide +kernel
theorem rur0 : (rNum (⟨#[]⟩ : ByteArray) 0).1 = 0 := by decide +kernel
theorem ruhop : ruChk (⟨#[110, 102, 116]⟩ : ByteArray) (⟨#[99, 104, 97, 110, 110, 101, 108, 45, 48]⟩ : ByteArray) = 0 := if_pos ⟨run0, run1⟩
theorem runo : ruChk (⟨#[]⟩ : ByteArray) (⟨#[]⟩ : ByteArray) = 7 := if_neg (fun e => by rw [run9] at e; exact absurd e.1 (by decide))
theorem ruaw1 : ruMay [] (⟨#[110, 102, 116]⟩ : ByteArray) (⟨#[99, 104, 97, 110, 110, 101, 108, 45, 48]⟩ : ByteArray) (⟨#[99, 97, 116]⟩ : ByteArray) 99 = 0 := by
  simp [ruMay, hasK, posK]
theorem ruaw2 : ruListed [] (⟨#[110, 102, 116]⟩ : ByteArray) (⟨#[99, 104, 97, 110, 110, 101, 108, 45, 48]⟩ : ByteArray) true = ruR1 := by
  simp [ruListed, ruhop, flagK, rukL, setC, setK, getK, hasK, posK, kLt, ByteArray.toList_eq, Op.bytesLess, ByteArray.size, rd_T73, ruR1]
theorem ruaw3 : ruMay ruR1 (⟨#[110, 102, 116]⟩ : ByteArray) (⟨#[99, 104, 97, 110, 110, 101, 108, 45, 48]⟩ : ByteArray) (⟨#[99, 97, 116]⟩ : ByteArray) 1 = 20 := by
  simp [ruMay, rukM, rukL, rukA, getK, hasK, posK, kLt, ByteArray.toList_eq, Op.bytesLess, ByteArray.size, rd_T73, ruR1]
theorem ruaw4 : ruAllowE (⟨#[110, 102, 116]⟩ : ByteArray) (⟨#[99, 104, 97, 110, 110, 101, 108, 45, 48]⟩ : ByteArray) (⟨#[99, 97, 116]⟩ : ByteArray) = 0 ∧ ruAllow ruR1 (⟨#[110, 102, 116]⟩ : ByteArray) (⟨#[99, 104, 97, 110, 110, 101, 108, 45, 48]⟩ : ByteArray) (⟨#[99, 97, 116]⟩ : ByteArray) true = ruR2 := by
  simp [ruAllow, ruAllowE, ruhop, run4, flagK, rukA, setC, setK, getK, hasK, posK, kLt, ByteArray.toList_eq, Op.bytesLess, ByteArray.size, rd_T73, ruR1, ruR2]
theorem ruaw5 : ruMay ruR2 (⟨#[110, 102, 116]⟩ : ByteArray) (⟨#[99, 104, 97, 110, 110, 101, 108, 45, 48]⟩ : ByteArray) (⟨#[99, 97, 116]⟩ : ByteArray) 3 = 0 := by
  simp [ruMay, rukM, rukL, rukA, getK, hasK, posK, kLt, ByteArray.toList_eq, Op.bytesLess, ByteArray.size, rd_T73, ruR2]
theorem ruaw6 : ruLimitE (⟨#[110, 102, 116]⟩ : ByteArray) (⟨#[99, 104, 97, 110, 110, 101, 108, 45, 48]⟩ : ByteArray) 2 = 0 ∧ ruLimit ruR2 (⟨#[110, 102, 116]⟩ : ByteArray) (⟨#[99, 104, 97, 110, 110, 101, 108, 45, 48]⟩ : ByteArray) 2 = ruR3 := by
  simp [ruLimit, ruLimitE, ruhop, rukM, run2, setE, setC, setK, getK, hasK, posK, kLt, ByteArray.toList_eq, Op.bytesLess, ByteArray.size, rd_T73, ruR2, ruR3]
theorem ruaw7 : ruMay ruR3 (⟨#[110, 102, 116]⟩ : ByteArray) (⟨#[99, 104, 97, 110, 110, 101, 108, 45, 48]⟩ : ByteArray) (⟨#[99, 97, 116]⟩ : ByteArray) 3 = 21 := by
  simp [ruMay, rukM, rukL, rukA, rur2, getK, hasK, posK, kLt, ByteArray.toList_eq, Op.bytesLess, ByteArray.size, rd_T73, ruR3]
theorem ruaw8 : ruAdminE (⟨#[97, 108]⟩ : ByteArray) = 0 ∧ ruAdmin ruR3 (⟨#[97, 108]⟩ : ByteArray) = ruR4 := by
  simp [ruAdmin, ruAdminE, run6, setE, setC, setK, getK, hasK, posK, kLt, ByteArray.toList_eq, Op.bytesLess, ByteArray.size, rd_T73, ruR3, ruR4]
theorem ruaw9 : (getK ruR4 (⟨#[97, 100, 109, 105, 110]⟩ : ByteArray)).1 = (⟨#[97, 108]⟩ : ByteArray) := by
  simp [getK, hasK, posK, kLt, ByteArray.toList_eq, Op.bytesLess, ByteArray.size, rd_T73, ruR4]
theorem ruaw10 : ruLimitE (⟨#[110, 102, 116]⟩ : ByteArray) (⟨#[99, 104, 97, 110, 110, 101, 108, 45, 48]⟩ : ByteArray) 17 = 3 ∧ ruLimit ruR4 (⟨#[110, 102, 116]⟩ : ByteArray) (⟨#[99, 104, 97, 110, 110, 101, 108, 45, 48]⟩ : ByteArray) 17 = ruR4 := by
  simp [ruLimit, ruLimitE, ruhop]
theorem ruaw11 : ruLimitE (⟨#[]⟩ : ByteArray) (⟨#[]⟩ : ByteArray) 1 = 7 ∧ ruLimit ruR4 (⟨#[]⟩ : ByteArray) (⟨#[]⟩ : ByteArray) 1 = ruR4 := by
  simp [ruLimit, ruLimitE, runo]
theorem ruRK1 : KV 1000000 ruR1 := ⟨by simp [sortK, ruR1, kLt, ByteArray.toList_eq, Op.bytesLess], by show 1 ≤ 1000000; omega, fun p hp => by simp only [ruR1, List.mem_cons, List.not_mem_nil, or_false] at hp; rcases hp with rfl <;> (first | (show 1 ≤ 65536; omega) | (show 2 ≤ 65536; omega))⟩
theorem ruRK2 : KV 1000000 ruR2 := ⟨by simp [sortK, ruR2, kLt, ByteArray.toList_eq, Op.bytesLess], by show 2 ≤ 1000000; omega, fun p hp => by simp only [ruR2, List.mem_cons, List.not_mem_nil, or_false] at hp; rcases hp with rfl | rfl <;> (first | (show 1 ≤ 65536; omega) | (show 2 ≤ 65536; omega))⟩
theorem ruRK3 : KV 1000000 ruR3 := ⟨by simp [sortK, ruR3, kLt, ByteArray.toList_eq, Op.bytesLess], by show 3 ≤ 1000000; omega, fun p hp => by simp only [ruR3, List.mem_cons, List.not_mem_nil, or_false] at hp; rcases hp with rfl | rfl | rfl <;> (first | (show 1 ≤ 65536; omega) | (show 2 ≤ 65536; omega))⟩
theorem ruRK4 : KV 1000000 ruR4 := ⟨by simp [sortK, ruR4, kLt, ByteArray.toList_eq, Op.bytesLess], by show 4 ≤ 1000000; omega, fun p hp => by simp only [ruR4, List.mem_cons, List.not_mem_nil, or_false] at hp; rcases hp with rfl | rfl | rfl | rfl <;> (first | (show 1 ≤ 65536; omega) | (show 2 ≤ 65536; omega))⟩
set_option maxHeartbeats 4000000 in
set_option maxRecDepth 100000 in
theorem ruaw_calls (w : World) : Calls Tryz.prog 12 #[] w fun e w' => e = .returned (.bool true) ∧ Below w.heap.size w w' := by
  go_enter Tryz.func12, Tryz.ntmps12
  go_wp2_with fail
  refine (j_new_nil w).mono ?_
  rintro e w1 ⟨g, rfl, hm, hb⟩
  have HB1 := Aside0.mk hb
  have HJ := Aside0.mk (JS.start hm hb.size)
  have HK := Aside0.mk (JK.of_below hb)
  clear hm hb
  go_wp2_with (first | ((with_reducible refine gate_dst (N := 2) rfl ?_); refine box_event ?hg (N := 2) ?hd (cs := #[.string (⟨#[]⟩ : ByteArray), .string (⟨#[]⟩ : ByteArray)]) (t := 39) ?hr ?_; (case hd => rfl); (case hg => rfl); (case hr => first | (go_simp; done) | (go_simp; rfl)); intro gbh hg wh hbox hb; have GKh := Aside0.mk ((by rw [hg]; exact JK.size (by (with_reducible repeat (first | apply JK.drewN | apply JK.drew | apply JK.alloc)); exact HK.out) : w.heap.size ≤ gbh)); have GJh := Aside0.mk ((by rw [hg]; exact JS.size0 (base := w.heap.size) (ok := fun k => w.heap.size ≤ k) (w0 := w1) (g := g) (cur := []) (by (with_reducible repeat (first | apply JS.drewN | apply JS.drew | apply JS.alloc)); exact HJ.out) : w1.heap.size ≤ gbh)); have n_HK := Aside0.mk (HK.out.trans (JK.of_below hb)); have n_HJ := Aside0.mk (JS.below (base := w.heap.size) (ok := fun k => w.heap.size ≤ k) (w0 := w1) (g := g) (cur := []) (by (with_reducible repeat (first | apply JS.drewN | apply JS.drew | apply JS.alloc)); exact HJ.out) hb); clear HK HJ; have HK := n_HK; have HJ := n_HJ; clear n_HK n_HJ; have BKh := Aside0.mk hbox; clear hb hbox hg; have zh_0 : World.cell? _ ⟨gbh, 0, none⟩ = some (.string (⟨#[]⟩ : ByteArray)) := (blk_cell BKh.out 0).trans rfl; have fh_0 := blk_frozen BKh.out 0; have zh_1 : World.cell? _ ⟨gbh, 1, none⟩ = some (.string (⟨#[]⟩ : ByteArray)) := (blk_cell BKh.out 1).trans rfl; have fh_1 := blk_frozen BKh.out 1; have zh_0 : World.cell? _ ⟨gbh, 0, none⟩ = some (.string (⟨#[]⟩ : ByteArray)) := (blk_cell BKh.out 0).trans rfl; have fh_0 := blk_frozen BKh.out 0; have zh_1 : World.cell? _ ⟨gbh, 1, none⟩ = some (.string (⟨#[]⟩ : ByteArray)) := (blk_cell BKh.out 1).trans rfl; have fh_1 := blk_frozen BKh.out 1))
  refine (ru_may (base := w.heap.size) (ok := fun k => w.heap.size ≤ k) (w0 := w1) (g := g) (cur := []) (⟨#[110, 102, 116]⟩ : ByteArray) (⟨#[99, 104, 97, 110, 110, 101, 108, 45, 48]⟩ : ByteArray) (⟨#[99, 97, 116]⟩ : ByteArray) 99 0 (by (with_reducible repeat (first | apply JS.drewN | apply JS.drew | apply JS.alloc)); refine JS.setb (q := 39) ?_ GJh.out (by (with_reducible repeat (first | refine blk_drewN ?_ _ | refine blk_drew ?_ | refine blk_alloc ?_ _)); refine blk_put (cs := #[.string (⟨#[]⟩ : ByteArray), .string (⟨#[]⟩ : ByteArray)]) ?_ 0 _ rfl; (with_reducible repeat (first | refine blk_drewN ?_ _ | refine blk_drew ?_ | refine blk_alloc ?_ _)); exact BKh.out) _ (by decide); (with_reducible repeat (first | apply JS.drewN | apply JS.drew | apply JS.alloc)); refine JS.setb (q := 39) ?_ GJh.out (by (with_reducible repeat (first | refine blk_drewN ?_ _ | refine blk_drew ?_ | refine blk_alloc ?_ _)); exact BKh.out) _ (by decide); (with_reducible repeat (first | apply JS.drewN | apply JS.drew | apply JS.alloc)); exact HJ.out) (KV.nil _) (by decide) (by decide) (by decide) ruaw1).mono ?_
  rintro e w2 ⟨rfl, hb⟩
  have n_HK := Aside0.mk ((by (with_reducible repeat (first | apply JK.drewN | apply JK.drew | apply JK.alloc)); refine JK.setb ?_ GKh.out _; (with_reducible repeat (first | apply JK.drewN | apply JK.drew | apply JK.alloc)); refine JK.setb ?_ GKh.out _; (with_reducible repeat (first | apply JK.drewN | apply JK.drew | apply JK.alloc)); exact HK.out : JK _ _).trans (JK.of_below hb))
  have n_HJ := Aside0.mk (JS.below (base := w.heap.size) (ok := fun k => w.heap.size ≤ k) (w0 := w1) (g := g) (cur := []) (by (with_reducible repeat (first | apply JS.drewN | apply JS.drew | apply JS.alloc)); refine JS.setb (q := 39) ?_ GJh.out (by (with_reducible repeat (first | refine blk_drewN ?_ _ | refine blk_drew ?_ | refine blk_alloc ?_ _)); refine blk_put (cs := #[.string (⟨#[]⟩ : ByteArray), .string (⟨#[]⟩ : ByteArray)]) ?_ 0 _ rfl; (with_reducible repeat (first | refine blk_drewN ?_ _ | refine blk_drew ?_ | refine blk_alloc ?_ _)); exact BKh.out) _ (by decide); (with_reducible repeat (first | apply JS.drewN | apply JS.drew | apply JS.alloc)); refine JS.setb (q := 39) ?_ GJh.out (by (with_reducible repeat (first | refine blk_drewN ?_ _ | refine blk_drew ?_ | refine blk_alloc ?_ _)); exact BKh.out) _ (by decide); (with_reducible repeat (first | apply JS.drewN | apply JS.drew | apply JS.alloc)); exact HJ.out) hb)
  have n_BKh := Aside0.mk (blk_below (g := gbh) (o := .cells #[.string (⟨#[110, 102, 116]⟩ : ByteArray), .string (⟨#[99, 104, 97, 110, 110, 101, 108, 45, 48]⟩ : ByteArray)] 39 (0, 0)) (by (with_reducible repeat (first | refine blk_drewN ?_ _ | refine blk_drew ?_ | refine blk_alloc ?_ _)); refine blk_put (cs := #[.string (⟨#[110, 102, 116]⟩ : ByteArray), .string (⟨#[]⟩ : ByteArray)]) ?_ 1 _ rfl; (with_reducible repeat (first | refine blk_drewN ?_ _ | refine blk_drew ?_ | refine blk_alloc ?_ _)); refine blk_put (cs := #[.string (⟨#[]⟩ : ByteArray), .string (⟨#[]⟩ : ByteArray)]) ?_ 0 _ rfl; (with_reducible repeat (first | refine blk_drewN ?_ _ | refine blk_drew ?_ | refine blk_alloc ?_ _)); exact BKh.out) hb)
  clear HK HJ BKh
  have HK := n_HK
  have HJ := n_HJ
  have BKh := n_BKh
  clear n_HK n_HJ n_BKh
  clear hb
  have zh_0 : World.cell? _ ⟨gbh, 0, none⟩ = some (.string (⟨#[110, 102, 116]⟩ : ByteArray)) := (blk_cell BKh.out 0).trans rfl
  have fh_0 := blk_frozen BKh.out 0
  have zh_1 : World.cell? _ ⟨gbh, 1, none⟩ = some (.string (⟨#[99, 104, 97, 110, 110, 101, 108, 45, 48]⟩ : ByteArray)) := (blk_cell BKh.out 1).trans rfl
  have fh_1 := blk_frozen BKh.out 1
  go_wp2_with fail
  refine (ru_listed (⟨#[110, 102, 116]⟩ : ByteArray) (⟨#[99, 104, 97, 110, 110, 101, 108, 45, 48]⟩ : ByteArray) true 0 ruR1 HJ.out (KV.nil _) (by decide) (by decide) ruhop ruaw2).mono ?_
  rintro e w3 ⟨rfl, hj, hk⟩
  have n_HK := Aside0.mk (HK.out.trans hk)
  have n_HJ := Aside0.mk (hj)
  have n_BKh := Aside0.mk (JK.blk (b := gbh) (c := #[.string (⟨#[110, 102, 116]⟩ : ByteArray), .string (⟨#[99, 104, 97, 110, 110, 101, 108, 45, 48]⟩ : ByteArray)]) (q := 39) (x := (0, 0)) hk (by (with_reducible repeat (first | refine blk_drewN ?_ _ | refine blk_drew ?_ | refine blk_alloc ?_ _)); exact BKh.out) (by decide))
  clear HK HJ BKh
  have HK := n_HK
  have HJ := n_HJ
  have BKh := n_BKh
  clear n_HK n_HJ n_BKh
  clear hj hk
  have zh_0 : World.cell? _ ⟨gbh, 0, none⟩ = some (.string (⟨#[110, 102, 116]⟩ : ByteArray)) := (blk_cell BKh.out 0).trans rfl
  have fh_0 := blk_frozen BKh.out 0
  have zh_1 : World.cell? _ ⟨gbh, 1, none⟩ = some (.string (⟨#[99, 104, 97, 110, 110, 101, 108, 45, 48]⟩ : ByteArray)) := (blk_cell BKh.out 1).trans rfl
  have fh_1 := blk_frozen BKh.out 1
  go_wp2_with fail
  refine (ru_may (⟨#[110, 102, 116]⟩ : ByteArray) (⟨#[99, 104, 97, 110, 110, 101, 108, 45, 48]⟩ : ByteArray) (⟨#[99, 97, 116]⟩ : ByteArray) 1 20 HJ.out ruRK1 (by decide) (by decide) (by decide) ruaw3).mono ?_
  rintro e w4 ⟨rfl, hb⟩
  have n_HK := Aside0.mk (HK.out.trans (JK.of_below hb))
  have n_HJ := Aside0.mk (JS.below (base := w.heap.size) (ok := fun k => w.heap.size ≤ k) (w0 := w1) (g := g) (cur := ruR1) (by (with_reducible repeat (first | apply JS.drewN | apply JS.drew | apply JS.alloc)); exact HJ.out) hb)
  have n_BKh := Aside0.mk (blk_below (g := gbh) (o := .cells #[.string (⟨#[110, 102, 116]⟩ : ByteArray), .string (⟨#[99, 104, 97, 110, 110, 101, 108, 45, 48]⟩ : ByteArray)] 39 (0, 0)) (by (with_reducible repeat (first | refine blk_drewN ?_ _ | refine blk_drew ?_ | refine blk_alloc ?_ _)); exact BKh.out) hb)
  clear HK HJ BKh
  have HK := n_HK
  have HJ := n_HJ
  have BKh := n_BKh
  clear n_HK n_HJ n_BKh
  clear hb
  have zh_0 : World.cell? _ ⟨gbh, 0, none⟩ = some (.string (⟨#[110, 102, 116]⟩ : ByteArray)) := (blk_cell BKh.out 0).trans rfl
  have fh_0 := blk_frozen BKh.out 0
  have zh_1 : World.cell? _ ⟨gbh, 1, none⟩ = some (.string (⟨#[99, 104, 97, 110, 110, 101, 108, 45, 48]⟩ : ByteArray)) := (blk_cell BKh.out 1).trans rfl
  have fh_1 := blk_frozen BKh.out 1
  go_wp2_with fail
  refine (ru_allow (⟨#[110, 102, 116]⟩ : ByteArray) (⟨#[99, 104, 97, 110, 110, 101, 108, 45, 48]⟩ : ByteArray) (⟨#[99, 97, 116]⟩ : ByteArray) true 0 ruR2 HJ.out ruRK1 (by decide) (by decide) (by decide) ruaw4.1 ruaw4.2).mono ?_
  rintro e w5 ⟨rfl, hj, hk⟩
  have n_HK := Aside0.mk (HK.out.trans hk)
  have n_HJ := Aside0.mk (hj)
  have n_BKh := Aside0.mk (JK.blk (b := gbh) (c := #[.string (⟨#[110, 102, 116]⟩ : ByteArray), .string (⟨#[99, 104, 97, 110, 110, 101, 108, 45, 48]⟩ : ByteArray)]) (q := 39) (x := (0, 0)) hk (by (with_reducible repeat (first | refine blk_drewN ?_ _ | refine blk_drew ?_ | refine blk_alloc ?_ _)); exact BKh.out) (by decide))
  clear HK HJ BKh
  have HK := n_HK
  have HJ := n_HJ
  have BKh := n_BKh
  clear n_HK n_HJ n_BKh
  clear hj hk
  have zh_0 : World.cell? _ ⟨gbh, 0, none⟩ = some (.string (⟨#[110, 102, 116]⟩ : ByteArray)) := (blk_cell BKh.out 0).trans rfl
  have fh_0 := blk_frozen BKh.out 0
  have zh_1 : World.cell? _ ⟨gbh, 1, none⟩ = some (.string (⟨#[99, 104, 97, 110, 110, 101, 108, 45, 48]⟩ : ByteArray)) := (blk_cell BKh.out 1).trans rfl
  have fh_1 := blk_frozen BKh.out 1
  go_wp2_with fail
  refine (ru_may (⟨#[110, 102, 116]⟩ : ByteArray) (⟨#[99, 104, 97, 110, 110, 101, 108, 45, 48]⟩ : ByteArray) (⟨#[99, 97, 116]⟩ : ByteArray) 3 0 HJ.out ruRK2 (by decide) (by decide) (by decide) ruaw5).mono ?_
  rintro e w6 ⟨rfl, hb⟩
  have n_HK := Aside0.mk (HK.out.trans (JK.of_below hb))
  have n_HJ := Aside0.mk (JS.below (base := w.heap.size) (ok := fun k => w.heap.size ≤ k) (w0 := w1) (g := g) (cur := ruR2) (by (with_reducible repeat (first | apply JS.drewN | apply JS.drew | apply JS.alloc)); exact HJ.out) hb)
  have n_BKh := Aside0.mk (blk_below (g := gbh) (o := .cells #[.string (⟨#[110, 102, 116]⟩ : ByteArray), .string (⟨#[99, 104, 97, 110, 110, 101, 108, 45, 48]⟩ : ByteArray)] 39 (0, 0)) (by (with_reducible repeat (first | refine blk_drewN ?_ _ | refine blk_drew ?_ | refine blk_alloc ?_ _)); exact BKh.out) hb)
  clear HK HJ BKh
  have HK := n_HK
  have HJ := n_HJ
  have BKh := n_BKh
  clear n_HK n_HJ n_BKh
  clear hb
  have zh_0 : World.cell? _ ⟨gbh, 0, none⟩ = some (.string (⟨#[110, 102, 116]⟩ : ByteArray)) := (blk_cell BKh.out 0).trans rfl
  have fh_0 := blk_frozen BKh.out 0
  have zh_1 : World.cell? _ ⟨gbh, 1, none⟩ = some (.string (⟨#[99, 104, 97, 110, 110, 101, 108, 45, 48]⟩ : ByteArray)) := (blk_cell BKh.out 1).trans rfl
  have fh_1 := blk_frozen BKh.out 1
  go_wp2_with fail
  refine (ru_limit (⟨#[110, 102, 116]⟩ : ByteArray) (⟨#[99, 104, 97, 110, 110, 101, 108, 45, 48]⟩ : ByteArray) 2 0 ruR3 HJ.out ruRK2 (by decide) (by decide) ruaw6.1 ruaw6.2).mono ?_
  rintro e w7 ⟨rfl, hj, hk⟩
  have n_HK := Aside0.mk (HK.out.trans hk)
  have n_HJ := Aside0.mk (hj)
  have n_BKh := Aside0.mk (JK.blk (b := gbh) (c := #[.string (⟨#[110, 102, 116]⟩ : ByteArray), .string (⟨#[99, 104, 97, 110, 110, 101, 108, 45, 48]⟩ : ByteArray)]) (q := 39) (x := (0, 0)) hk (by (with_reducible repeat (first | refine blk_drewN ?_ _ | refine blk_drew ?_ | refine blk_alloc ?_ _)); exact BKh.out) (by decide))
  clear HK HJ BKh
  have HK := n_HK
  have HJ := n_HJ
  have BKh := n_BKh
  clear n_HK n_HJ n_BKh
  clear hj hk
  have zh_0 : World.cell? _ ⟨gbh, 0, none⟩ = some (.string (⟨#[110, 102, 116]⟩ : ByteArray)) := (blk_cell BKh.out 0).trans rfl
  have fh_0 := blk_frozen BKh.out 0
  have zh_1 : World.cell? _ ⟨gbh, 1, none⟩ = some (.string (⟨#[99, 104, 97, 110, 110, 101, 108, 45, 48]⟩ : ByteArray)) := (blk_cell BKh.out 1).trans rfl
  have fh_1 := blk_frozen BKh.out 1
  go_wp2_with fail
  refine (ru_may (⟨#[110, 102, 116]⟩ : ByteArray) (⟨#[99, 104, 97, 110, 110, 101, 108, 45, 48]⟩ : ByteArray) (⟨#[99, 97, 116]⟩ : ByteArray) 3 21 HJ.out ruRK3 (by decide) (by decide) (by decide) ruaw7).mono ?_
  rintro e w8 ⟨rfl, hb⟩
  have n_HK := Aside0.mk (HK.out.trans (JK.of_below hb))
  have n_HJ := Aside0.mk (JS.below (base := w.heap.size) (ok := fun k => w.heap.size ≤ k) (w0 := w1) (g := g) (cur := ruR3) (by (with_reducible repeat (first | apply JS.drewN | apply JS.drew | apply JS.alloc)); exact HJ.out) hb)
  have n_BKh := Aside0.mk (blk_below (g := gbh) (o := .cells #[.string (⟨#[110, 102, 116]⟩ : ByteArray), .string (⟨#[99, 104, 97, 110, 110, 101, 108, 45, 48]⟩ : ByteArray)] 39 (0, 0)) (by (with_reducible repeat (first | refine blk_drewN ?_ _ | refine blk_drew ?_ | refine blk_alloc ?_ _)); exact BKh.out) hb)
  clear HK HJ BKh
  have HK := n_HK
  have HJ := n_HJ
  have BKh := n_BKh
  clear n_HK n_HJ n_BKh
  clear hb
  have zh_0 : World.cell? _ ⟨gbh, 0, none⟩ = some (.string (⟨#[110, 102, 116]⟩ : ByteArray)) := (blk_cell BKh.out 0).trans rfl
  have fh_0 := blk_frozen BKh.out 0
  have zh_1 : World.cell? _ ⟨gbh, 1, none⟩ = some (.string (⟨#[99, 104, 97, 110, 110, 101, 108, 45, 48]⟩ : ByteArray)) := (blk_cell BKh.out 1).trans rfl
  have fh_1 := blk_frozen BKh.out 1
  go_wp2_with fail
  refine (ru_setadmin (⟨#[97, 108]⟩ : ByteArray) 0 ruR4 HJ.out ruRK3 (by decide) ruaw8.1 ruaw8.2).mono ?_
  rintro e w9 ⟨rfl, hj, hk⟩
  have n_HK := Aside0.mk (HK.out.trans hk)
  have n_HJ := Aside0.mk (hj)
  have n_BKh := Aside0.mk (JK.blk (b := gbh) (c := #[.string (⟨#[110, 102, 116]⟩ : ByteArray), .string (⟨#[99, 104, 97, 110, 110, 101, 108, 45, 48]⟩ : ByteArray)]) (q := 39) (x := (0, 0)) hk (by (with_reducible repeat (first | refine blk_drewN ?_ _ | refine blk_drew ?_ | refine blk_alloc ?_ _)); exact BKh.out) (by decide))
  clear HK HJ BKh
  have HK := n_HK
  have HJ := n_HJ
  have BKh := n_BKh
  clear n_HK n_HJ n_BKh
  clear hj hk
  have zh_0 : World.cell? _ ⟨gbh, 0, none⟩ = some (.string (⟨#[110, 102, 116]⟩ : ByteArray)) := (blk_cell BKh.out 0).trans rfl
  have fh_0 := blk_frozen BKh.out 0
  have zh_1 : World.cell? _ ⟨gbh, 1, none⟩ = some (.string (⟨#[99, 104, 97, 110, 110, 101, 108, 45, 48]⟩ : ByteArray)) := (blk_cell BKh.out 1).trans rfl
  have fh_1 := blk_frozen BKh.out 1
  go_wp2_with fail
  refine (ru_admin (⟨#[97, 108]⟩ : ByteArray) HJ.out ruRK4 ruaw9).mono ?_
  rintro e w10 ⟨rfl, hb⟩
  have n_HK := Aside0.mk (HK.out.trans (JK.of_below hb))
  have n_HJ := Aside0.mk (JS.below (base := w.heap.size) (ok := fun k => w.heap.size ≤ k) (w0 := w1) (g := g) (cur := ruR4) (by (with_reducible repeat (first | apply JS.drewN | apply JS.drew | apply JS.alloc)); exact HJ.out) hb)
  have n_BKh := Aside0.mk (blk_below (g := gbh) (o := .cells #[.string (⟨#[110, 102, 116]⟩ : ByteArray), .string (⟨#[99, 104, 97, 110, 110, 101, 108, 45, 48]⟩ : ByteArray)] 39 (0, 0)) (by (with_reducible repeat (first | refine blk_drewN ?_ _ | refine blk_drew ?_ | refine blk_alloc ?_ _)); exact BKh.out) hb)
  clear HK HJ BKh
  have HK := n_HK
  have HJ := n_HJ
  have BKh := n_BKh
  clear n_HK n_HJ n_BKh
  clear hb
  have zh_0 : World.cell? _ ⟨gbh, 0, none⟩ = some (.string (⟨#[110, 102, 116]⟩ : ByteArray)) := (blk_cell BKh.out 0).trans rfl
  have fh_0 := blk_frozen BKh.out 0
  have zh_1 : World.cell? _ ⟨gbh, 1, none⟩ = some (.string (⟨#[99, 104, 97, 110, 110, 101, 108, 45, 48]⟩ : ByteArray)) := (blk_cell BKh.out 1).trans rfl
  have fh_1 := blk_frozen BKh.out 1
  go_wp2_with fail
  refine (ru_limit (⟨#[110, 102, 116]⟩ : ByteArray) (⟨#[99, 104, 97, 110, 110, 101, 108, 45, 48]⟩ : ByteArray) 17 3 ruR4 HJ.out ruRK4 (by decide) (by decide) ruaw10.1 ruaw10.2).mono ?_
  rintro e w11 ⟨rfl, hj, hk⟩
  have n_HK := Aside0.mk (HK.out.trans hk)
  have n_HJ := Aside0.mk (hj)
  have n_BKh := Aside0.mk (JK.blk (b := gbh) (c := #[.string (⟨#[110, 102, 116]⟩ : ByteArray), .string (⟨#[99, 104, 97, 110, 110, 101, 108, 45, 48]⟩ : ByteArray)]) (q := 39) (x := (0, 0)) hk (by (with_reducible repeat (first | refine blk_drewN ?_ _ | refine blk_drew ?_ | refine blk_alloc ?_ _)); exact BKh.out) (by decide))
  clear HK HJ BKh
  have HK := n_HK
  have HJ := n_HJ
  have BKh := n_BKh
  clear n_HK n_HJ n_BKh
  clear hj hk
  have zh_0 : World.cell? _ ⟨gbh, 0, none⟩ = some (.string (⟨#[110, 102, 116]⟩ : ByteArray)) := (blk_cell BKh.out 0).trans rfl
  have fh_0 := blk_frozen BKh.out 0
  have zh_1 : World.cell? _ ⟨gbh, 1, none⟩ = some (.string (⟨#[99, 104, 97, 110, 110, 101, 108, 45, 48]⟩ : ByteArray)) := (blk_cell BKh.out 1).trans rfl
  have fh_1 := blk_frozen BKh.out 1
  go_wp2_with fail
  refine (ru_limit (⟨#[]⟩ : ByteArray) (⟨#[]⟩ : ByteArray) 1 7 ruR4 HJ.out ruRK4 (by decide) (by decide) ruaw11.1 ruaw11.2).mono ?_
  rintro e w12 ⟨rfl, hj, hk⟩
  have n_HK := Aside0.mk (HK.out.trans hk)
  have n_HJ := Aside0.mk (hj)
  have n_BKh := Aside0.mk (JK.blk (b := gbh) (c := #[.string (⟨#[110, 102, 116]⟩ : ByteArray), .string (⟨#[99, 104, 97, 110, 110, 101, 108, 45, 48]⟩ : ByteArray)]) (q := 39) (x := (0, 0)) hk (by (with_reducible repeat (first | refine blk_drewN ?_ _ | refine blk_drew ?_ | refine blk_alloc ?_ _)); exact BKh.out) (by decide))
  clear HK HJ BKh
  have HK := n_HK
  have HJ := n_HJ
  have BKh := n_BKh
  clear n_HK n_HJ n_BKh
  clear hj hk
  have zh_0 : World.cell? _ ⟨gbh, 0, none⟩ = some (.string (⟨#[110, 102, 116]⟩ : ByteArray)) := (blk_cell BKh.out 0).trans rfl
  have fh_0 := blk_frozen BKh.out 0
  have zh_1 : World.cell? _ ⟨gbh, 1, none⟩ = some (.string (⟨#[99, 104, 97, 110, 110, 101, 108, 45, 48]⟩ : ByteArray)) := (blk_cell BKh.out 1).trans rfl
  have fh_1 := blk_frozen BKh.out 1
  go_wp2_with fail
  refine (run_admin _).mono ?_
  rintro e w13 ⟨rfl, hw13⟩
  subst hw13
  have hfin := Aside0.mk (JW.toBelow HB1.out HB1.out.size HJ.out.jw (fun k hk => hk))
  clear HJ HK
  go_wp2
  go_ret
  exact ⟨rfl, hfin.out⟩

/-! ### footbridgeref09_Same: function 14 -/
def footbridgeref09_Same.l0 : Nat → List (S73) → List (S73) → Int → Option (Bool)
  | 0, _, _, _ => none
  | k + 1, x0, x1, x5 => if x5 < (x0.length : Int) then (if 0 ≤ x5 then (if x5 < (x1.length : Int) then (if (!((((rd_T73 x0 x5).f0).toList) == (((rd_T73 x1 x5).f0).toList)) || (!((((rd_T73 x0 x5).f1).toList) == (((rd_T73 x1 x5).f1).toList)))) = true then (some false) else (footbridgeref09_Same.l0 k x0 x1 (wrap64 (x5 + 1)))) else (none)) else (none)) else (some true)
def footbridgeref09_Same.f (k : Nat) (l0 : List (S73)) (l1 : List (S73)) : Option (Bool) := if (l0.length : Int) = (l1.length : Int) then (footbridgeref09_Same.l0 k l0 l1 0) else (some false)
theorem footbridgeref09_Same.mono_l : ∀ k, (∀ y0 y1 y2, LeO (footbridgeref09_Same.l0 k y0 y1 y2) (footbridgeref09_Same.l0 (k + 1) y0 y1 y2))
  | 0 => fun _ _ _ r h => by simp [footbridgeref09_Same.l0] at h
  | k + 1 => by
    have ih0 := footbridgeref09_Same.mono_l k
    · intro y0 y1 y2
      unfold footbridgeref09_Same.l0
      repeat' first
      | (with_reducible exact ih0 _ _ _)
      | (with_reducible exact LeO.refl _)
      | (with_reducible exact LeO.none _)
      | (with_reducible refine LeO.ite ?_ ?_)
      | (with_reducible refine LeO.bind ?_ (fun _ => ?_))
      | exact ih0 _ _ _
      | exact LeO.none _
      | refine LeO.ite ?_ ?_
      | refine LeO.bind ?_ (fun _ => ?_)
theorem footbridgeref09_Same.mono : ∀ a0 a1 k, LeO (footbridgeref09_Same.f k a0 a1) (footbridgeref09_Same.f (k + 1) a0 a1) := by
  intro a0 a1 k
  have ih0 := footbridgeref09_Same.mono_l k
  unfold footbridgeref09_Same.f
  repeat' first
      | (with_reducible exact ih0 _ _ _)
      | (with_reducible exact LeO.refl _)
      | (with_reducible exact LeO.none _)
      | (with_reducible refine LeO.ite ?_ ?_)
      | (with_reducible refine LeO.bind ?_ (fun _ => ?_))
      | exact ih0 _ _ _
      | exact LeO.none _
      | refine LeO.ite ?_ ?_
      | refine LeO.bind ?_ (fun _ => ?_)
set_option maxHeartbeats 8000000 in
set_option maxRecDepth 100000 in
theorem footbridgeref09_Same.calls (k : Nat) (A0 : Option Addr) (c0 : Nat) (l0 : List (S73)) (A1 : Option Addr) (c1 : Nat) (l1 : List (S73)) (r : Bool) (w : World) (hr0 : Kd.C k73 w A0 l0.length l0) (hc0 : l0.length ≤ c0) (hr1 : Kd.C k73 w A1 l1.length l1) (hc1 : l1.length ≤ c1) (h : footbridgeref09_Same.f k l0 l1 = some r) :
    Calls Tryz.prog 14 #[.slice A0 l0.length c0, .slice A1 l1.length c1] w fun e w' => e = .returned (.bool r) ∧ Drawn0 w w' := by
  have hu73 := Tryz.underlying73
  have HR0 := Aside0.mk hr0
  have HC0 := Aside0.mk hc0
  clear hr0 hc0
  have HR1 := Aside0.mk hr1
  have HC1 := Aside0.mk hc1
  clear hr1 hc1
  have H : (if (l0.length : Int) = (l1.length : Int) then (footbridgeref09_Same.l0 k l0 l1 0) else (some false)) = some r := h
  clear h
  by_cases c3 : (l0.length : Int) = (l1.length : Int)
  · rw [if_pos c3] at H
    have c3b0 : ((l0.length : Int) == (l1.length : Int)) = true := beq_iff_eq.mpr c3
    have c3b1 : ((l0.length : Int) != (l1.length : Int)) = false := bne_eq_false_iff_eq.mpr c3
    have c3b2 : (l0.length == l1.length) = true := by first | simpa using c3 | (simp at c3 ⊢; omega)
    clear c3
    have H' := Aside0.mk H
    clear H
    go_enter Tryz.func14, Tryz.ntmps14
    go_wp2
    repeat (go_quiet (fail); try go_wp2)
    go_loopg [5] k (fun kq v5 w' => ∃ (x5_1 : Int), v5 = .int .i64 x5_1 ∧ Aside0 (footbridgeref09_Same.l0 kq l0 l1 x5_1 = some r) ∧ Aside0 (kq ≤ k) ∧ Drawn0 w w')
    case atStart => exact ⟨(0), (by first | rfl | (simp; done) | (simp [*]; done)), H', ⟨Nat.le_refl _⟩, by repeat (first | exact Drawn0.refl _ | apply Drawn0.step)⟩
    case round =>
      clear H'
      try clear c1
      try clear p2
      try clear c3
      try clear c3b0
      try clear c3b1
      try clear c3b2
      obtain ⟨x5_1, rfl, HA, HK1, ⟨m1, rfl⟩⟩ := hrel
      cases gk with
      | zero => exact absurd HA.out (by simp [footbridgeref09_Same.l0])
      | succ k1 =>
        have H := HA.out
        clear HA
        simp only [footbridgeref09_Same.l0] at H
        by_cases c4 : x5_1 < (l0.length : Int)
        · rw [if_pos c4] at H
          have c4b0 : decide (x5_1 < (l0.length : Int)) = true := decide_eq_true c4
          clear c4
          by_cases c5 : 0 ≤ x5_1
          · rw [if_pos c5] at H
            have c5b0 : decide (0 ≤ x5_1) = true := decide_eq_true c5
            clear c5
            by_cases c6 : x5_1 < (l1.length : Int)
            · rw [if_pos c6] at H
              have c6b0 : decide (x5_1 < (l1.length : Int)) = true := decide_eq_true c6
              clear c6
              by_cases c7 : (!((((rd_T73 l0 x5_1).f0).toList) == (((rd_T73 l1 x5_1).f0).toList)) || (!((((rd_T73 l0 x5_1).f1).toList) == (((rd_T73 l1 x5_1).f1).toList)))) = true
              · rw [if_pos c7] at H
                have c7b0 : (!((((rd_T73 l0 x5_1).f0).toList) == (((rd_T73 l1 x5_1).f0).toList)) || (!((((rd_T73 l0 x5_1).f1).toList) == (((rd_T73 l1 x5_1).f1).toList)))) = true := c7
                clear c7
                obtain rfl := Option.some.inj H
                have p136 : 0 ≤ (x5_1 : Int) := of_decide_eq_true (by first | (with_reducible assumption) | assumption)
                have q136 : x5_1 < (l0.length : Int) := of_decide_eq_true (by first | (with_reducible assumption) | assumption)
                obtain ⟨ad136, e136, hx136_0, hx136_1⟩ := at_T73 HR0.out x5_1 p136 q136
                cases e136
                replace p136 := eq_true p136
                replace q136 := eq_true q136
                have p137 : 0 ≤ (x5_1 : Int) := of_decide_eq_true (by first | (with_reducible assumption) | assumption)
                have q137 : x5_1 < (l1.length : Int) := of_decide_eq_true (by first | (with_reducible assumption) | assumption)
                obtain ⟨ad137, e137, hx137_0, hx137_1⟩ := at_T73 HR1.out x5_1 p137 q137
                cases e137
                replace p137 := eq_true p137
                replace q137 := eq_true q137
                go_wp2
                repeat (go_quiet (fail); try go_wp2)
                go_ret
                exact ⟨by first | rfl | (simp; done) | (simp [*]; done), by repeat (first | exact Drawn0.refl _ | apply Drawn0.step)⟩
              · rw [if_neg c7] at H
                have c7b0 : (!((((rd_T73 l0 x5_1).f0).toList) == (((rd_T73 l1 x5_1).f0).toList)) || (!((((rd_T73 l0 x5_1).f1).toList) == (((rd_T73 l1 x5_1).f1).toList)))) = false := by simpa using c7
                clear c7
                have H' := Aside0.mk H
                clear H
                have p136 : 0 ≤ (x5_1 : Int) := of_decide_eq_true (by first | (with_reducible assumption) | assumption)
                have q136 : x5_1 < (l0.length : Int) := of_decide_eq_true (by first | (with_reducible assumption) | assumption)
                obtain ⟨ad136, e136, hx136_0, hx136_1⟩ := at_T73 HR0.out x5_1 p136 q136
                cases e136
                replace p136 := eq_true p136
                replace q136 := eq_true q136
                have p137 : 0 ≤ (x5_1 : Int) := of_decide_eq_true (by first | (with_reducible assumption) | assumption)
                have q137 : x5_1 < (l1.length : Int) := of_decide_eq_true (by first | (with_reducible assumption) | assumption)
                obtain ⟨ad137, e137, hx137_0, hx137_1⟩ := at_T73 HR1.out x5_1 p137 q137
                cases e137
                replace p137 := eq_true p137
                replace q137 := eq_true q137
                go_wp2
                repeat (go_quiet (fail); try go_wp2)
                go_roundg k1
                case measure => have := HK1.out; omega
                case rel => exact ⟨(wrap64 (x5_1 + 1)), (by first | rfl | (simp; done) | (simp [*]; done)), H', ⟨by have := HK1.out; omega⟩, by repeat (first | exact Drawn0.refl _ | apply Drawn0.step)⟩
            · rw [if_neg c6] at H
              exact absurd H (by simp)
          · rw [if_neg c5] at H
            exact absurd H (by simp)
        · rw [if_neg c4] at H
          have c4b0 : decide (x5_1 < (l0.length : Int)) = false := decide_eq_false c4
          clear c4
          obtain rfl := Option.some.inj H
          go_wp2
          repeat (go_quiet (fail); try go_wp2)
          go_ret
          exact ⟨by first | rfl | (simp; done) | (simp [*]; done), by repeat (first | exact Drawn0.refl _ | apply Drawn0.step)⟩
  · rw [if_neg c3] at H
    have c3b0 : ((l0.length : Int) == (l1.length : Int)) = false := beq_eq_false_iff_ne.mpr c3
    have c3b1 : ((l0.length : Int) != (l1.length : Int)) = true := bne_iff_ne.mpr c3
    have c3b2 : (l0.length == l1.length) = false := by first | simpa using c3 | (simp at c3 ⊢; omega)
    obtain rfl := Option.some.inj H
    go_enter Tryz.func14, Tryz.ntmps14
    go_wp2
    repeat (go_quiet (fail); try go_wp2)
    go_ret
    exact ⟨by first | rfl | (simp; done) | (simp [*]; done), by repeat (first | exact Drawn0.refl _ | apply Drawn0.step)⟩

-- NOT PRINTED: function 15 (journal_Journal_List)

end Go.Proofs.YtonipkgekhdogaaGreatDoor.PRup
