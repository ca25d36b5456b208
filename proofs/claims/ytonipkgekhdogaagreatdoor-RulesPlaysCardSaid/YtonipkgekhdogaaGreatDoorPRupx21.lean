-- written by wip/myprint.py over the kit's print; not a printed text of print.sh
import Derived.Test.YtonipkgekhdogaaGreatDoorPRupx0
import Derived.Test.YtonipkgekhdogaaGreatDoorPRupx2
import Derived.Test.YtonipkgekhdogaaGreatDoorPRupx7
import Derived.Test.YtonipkgekhdogaaGreatDoorPRupx8
import Derived.Test.YtonipkgekhdogaaGreatDoorPRupx10
import Derived.Test.YtonipkgekhdogaaGreatDoorPRupx11
import Derived.Test.YtonipkgekhdogaaGreatDoorPRupx12
import Derived.Test.YtonipkgekhdogaaGreatDoorPRupx15
import Derived.Test.YtonipkgekhdogaaGreatDoorPRupx19
namespace Go.Proofs.YtonipkgekhdogaaGreatDoor.PRup
open Go.RowKit Go.Proofs.YtonipkgekhdogaaGreatDoorW.PrintWords Go.Proofs.YtonipkgekhdogaaGreatDoorW.PrintLast Go.Proofs.YtonipkgekhdogaaGreatDoorW.PrintMore
attribute [local go_sem] max2_int min2_int max_two min_two max_three min_three max_four min_four   -- for this text's walks alone
set_option linter.unusedVariables false
set_option linter.unusedSimpArgs false

/-! ### rules_Listed: function 32 -/
-- @break
set_option maxHeartbeats 4000000 in
set_option maxRecDepth 100000 in
theorem ru_listed {base g : Nat} {ok : Nat → Prop} {w0 : World} {cur : List S73} (p ch : ByteArray) (yes : Bool) (x : Int) (cur' : List S73) {w : World} (h : JS base ok w0 g cur w) (hk : KV 1000000 cur) (hp : p.size ≤ 50000) (hch : ch.size ≤ 50000) (hx : ruListedE p ch = x) (hcur : ruListed cur p ch yes = cur') :
    Calls Tryz.prog 32 #[.pointer (some ⟨g, 0, none⟩), .agg #[.string p, .string ch], .bool yes] w fun e w' => e = .returned (.int .i64 x) ∧ JS base ok w0 g cur' w' ∧ JK w w' := by
  unfold ruListedE at hx
  unfold ruListed at hcur
  obtain ⟨n0, hc⟩ : ∃ n, ruChk p ch = n := ⟨_, rfl⟩
  rw [hc] at hx hcur
  obtain ⟨k1, key1⟩ := ruKey_ev (⟨#[108, 105, 115, 116, 101, 100]⟩ : ByteArray) p ch [] (by decide) hp hch (by simp) (by simp)
  generalize ruK (⟨#[108, 105, 115, 116, 101, 100]⟩ : ByteArray) p ch [] = K1 at key1 hcur
  have HJ := Aside0.mk h
  have HK := Aside0.mk (JK.of_below (Below.refl w.heap.size w))
  clear h
  go_enter Tryz.func32, Tryz.ntmps32
  go_wp2_with (first | ((with_reducible refine gate_dst (N := 4) rfl ?_); refine box_event ?hg (N := 4) ?hd (cs := #[.string p, .string ch]) (t := 39) ?hr ?_; (case hd => rfl); (case hg => rfl); (case hr => first | (go_simp; done) | (go_simp; rfl)); intro gbh hg wh hbox hb; have GKh := Aside0.mk ((by rw [hg]; exact JK.size (by (with_reducible repeat (first | apply JK.drewN | apply JK.drew | apply JK.alloc)); exact HK.out) : w.heap.size ≤ gbh)); have GJh := Aside0.mk ((by rw [hg]; exact JS.size0 (base := base) (ok := ok) (w0 := w0) (g := g) (cur := cur) (by (with_reducible repeat (first | apply JS.drewN | apply JS.drew | apply JS.alloc)); exact HJ.out) : w0.heap.size ≤ gbh)); have n_HK := Aside0.mk (HK.out.trans (JK.of_below hb)); have n_HJ := Aside0.mk (JS.below (base := base) (ok := ok) (w0 := w0) (g := g) (cur := cur) (by (with_reducible repeat (first | apply JS.drewN | apply JS.drew | apply JS.alloc)); exact HJ.out) hb); clear HK HJ; have HK := n_HK; have HJ := n_HJ; clear n_HK n_HJ; have BKh := Aside0.mk hbox; clear hb hbox hg; have zh_0 : World.cell? _ ⟨gbh, 0, none⟩ = some (.string p) := (blk_cell BKh.out 0).trans rfl; have fh_0 := blk_frozen BKh.out 0; have zh_1 : World.cell? _ ⟨gbh, 1, none⟩ = some (.string ch) := (blk_cell BKh.out 1).trans rfl; have fh_1 := blk_frozen BKh.out 1))
  refine (ru_check g p ch n0 (Nat.le_trans hp (by decide)) (Nat.le_trans hch (by decide)) hc).mono ?_
  rintro e w1 ⟨rfl, hb⟩
  have n_HK := Aside0.mk (HK.out.trans (JK.of_below hb))
  have n_HJ := Aside0.mk (JS.below (base := base) (ok := ok) (w0 := w0) (g := g) (cur := cur) (by (with_reducible repeat (first | apply JS.drewN | apply JS.drew | apply JS.alloc)); exact HJ.out) hb)
  have n_BKh := Aside0.mk (blk_below (g := gbh) (o := .cells #[.string p, .string ch] 39 (0, 0)) (by (with_reducible repeat (first | refine blk_drewN ?_ _ | refine blk_drew ?_ | refine blk_alloc ?_ _)); exact BKh.out) hb)
  clear HK HJ BKh
  have HK := n_HK
  have HJ := n_HJ
  have BKh := n_BKh
  clear n_HK n_HJ n_BKh
  clear hb
  have zh_0 : World.cell? _ ⟨gbh, 0, none⟩ = some (.string p) := (blk_cell BKh.out 0).trans rfl
  have fh_0 := blk_frozen BKh.out 0
  have zh_1 : World.cell? _ ⟨gbh, 1, none⟩ = some (.string ch) := (blk_cell BKh.out 1).trans rfl
  have fh_1 := blk_frozen BKh.out 1
  by_cases z0 : n0 = 0
  · subst z0
    rw [if_pos rfl] at hcur
    subst hx hcur
    go_wp2_with fail
    refine (rules_key.calls k1 (⟨#[108, 105, 115, 116, 101, 100]⟩ : ByteArray) p ch none 0 [] K1 _ (Kd.F_now (Kd.F_nil Kd.string _ (fun _ => True))) (Nat.le_refl _) key1).mono ?_
    rintro e w2 ⟨rfl, hb⟩
    have n_HK := Aside0.mk (HK.out.trans (JK.of_below hb))
    have n_HJ := Aside0.mk (JS.below (base := base) (ok := ok) (w0 := w0) (g := g) (cur := cur) (by (with_reducible repeat (first | apply JS.drewN | apply JS.drew | apply JS.alloc)); exact HJ.out) hb)
    have n_BKh := Aside0.mk (blk_below (g := gbh) (o := .cells #[.string p, .string ch] 39 (0, 0)) (by (with_reducible repeat (first | refine blk_drewN ?_ _ | refine blk_drew ?_ | refine blk_alloc ?_ _)); exact BKh.out) hb)
    clear HK HJ BKh
    have HK := n_HK
    have HJ := n_HJ
    have BKh := n_BKh
    clear n_HK n_HJ n_BKh
    clear hb
    have zh_0 : World.cell? _ ⟨gbh, 0, none⟩ = some (.string p) := (blk_cell BKh.out 0).trans rfl
    have fh_0 := blk_frozen BKh.out 0
    have zh_1 : World.cell? _ ⟨gbh, 1, none⟩ = some (.string ch) := (blk_cell BKh.out 1).trans rfl
    have fh_1 := blk_frozen BKh.out 1
    go_wp2_with fail
    refine (ru_flag K1 yes HJ.out hk).mono ?_
    rintro e w3 ⟨rfl, hj, hk3⟩
    have HJ3 := Aside0.mk hj
    have HK3 := Aside0.mk (HK.out.trans hk3)
    clear hj hk3
    go_wp2
    go_ret
    exact ⟨rfl, HJ3.out, HK3.out⟩
  · rw [if_neg z0] at hcur
    subst hx hcur
    go_wp2
    go_ret
    exact ⟨rfl, HJ.out, HK.out⟩
set_option maxHeartbeats 4000000 in
set_option maxRecDepth 100000 in
theorem run_listed (p ch : ByteArray) (yes : Bool) (w : World) :
    Calls Tryz.prog 32 #[.pointer none, .agg #[.string p, .string ch], .bool yes] w fun e w' => e = .returned (.int .i64 2) ∧ Below w.heap.size w w' := by
  have HB := Aside0.mk (Below.refl w.heap.size w)
  go_enter Tryz.func32, Tryz.ntmps32
  go_wp2_with (first | ((with_reducible refine gate_dst (N := 4) rfl ?_); refine box_event ?hg (N := 4) ?hd (cs := #[.string p, .string ch]) (t := 39) ?hr ?_; (case hd => rfl); (case hg => rfl); (case hr => first | (go_simp; done) | (go_simp; rfl)); intro gbh hg wh hbox hb; have GEh := Aside0.mk ((by rw [hg]; exact (below_size (by repeat (first | (with_reducible first | exact HB.out | apply below_alloc | apply pw_below_drewN | apply below_drew1) | exact HB.out))) : w.heap.size ≤ gbh)); have n_HB := Aside0.mk (below_step (by repeat (first | (with_reducible first | exact HB.out | apply below_alloc | apply pw_below_drewN | apply below_drew1) | exact HB.out)) hb); clear HB; have HB := n_HB; clear n_HB; have BKh := Aside0.mk hbox; clear hb hbox hg; have zh_0 : World.cell? _ ⟨gbh, 0, none⟩ = some (.string p) := (blk_cell BKh.out 0).trans rfl; have fh_0 := blk_frozen BKh.out 0; have zh_1 : World.cell? _ ⟨gbh, 1, none⟩ = some (.string ch) := (blk_cell BKh.out 1).trans rfl; have fh_1 := blk_frozen BKh.out 1))
  refine (run_check p ch _).mono ?_
  rintro e w1 ⟨rfl, hb⟩
  have n_HB := Aside0.mk (below_step (by repeat (first | (with_reducible first | exact HB.out | apply below_alloc | apply pw_below_drewN | apply below_drew1 | refine below_set ?_ GEh.out) | exact HB.out)) hb)
  have n_BKh := Aside0.mk (blk_below (g := gbh) (o := .cells #[.string p, .string ch] 39 (0, 0)) (by (with_reducible repeat (first | refine blk_drewN ?_ _ | refine blk_drew ?_ | refine blk_alloc ?_ _)); exact BKh.out) hb)
  clear HB BKh
  have HB := n_HB
  have BKh := n_BKh
  clear n_HB n_BKh
  clear hb
  go_wp2
  go_ret
  exact ⟨rfl, HB.out⟩
set_option maxHeartbeats 4000000 in
set_option maxRecDepth 100000 in
theorem ru_allow {base g : Nat} {ok : Nat → Prop} {w0 : World} {cur : List S73} (p ch base0 : ByteArray) (yes : Bool) (x : Int) (cur' : List S73) {w : World} (h : JS base ok w0 g cur w) (hk : KV 1000000 cur) (hp : p.size ≤ 50000) (hch : ch.size ≤ 50000) (hbs : base0.size ≤ 50000) (hx : ruAllowE p ch base0 = x) (hcur : ruAllow cur p ch base0 yes = cur') :
    Calls Tryz.prog 33 #[.pointer (some ⟨g, 0, none⟩), .agg #[.string p, .string ch], .string base0, .bool yes] w fun e w' => e = .returned (.int .i64 x) ∧ JS base ok w0 g cur' w' ∧ JK w w' := by
  unfold ruAllowE at hx
  unfold ruAllow at hcur
  obtain ⟨n0, hc⟩ : ∃ n, ruChk p ch = n := ⟨_, rfl⟩
  rw [hc] at hx hcur
  obtain ⟨K4, c4⟩ := nm_check_ev 4 base0 (Nat.le_trans hbs (by decide))
  generalize nm_checkSpec 4 base0 = n4 at c4 hx hcur
  replace c4 : names_Check.f K4 4 base0 = some n4 := c4 K4 (Nat.le_refl _)
  obtain ⟨y1, hy1⟩ : ∃ y : List ByteArray, y = [base0] := ⟨_, rfl⟩
  obtain ⟨k1, key1⟩ := ruKey_ev (⟨#[97, 108, 108, 111, 119]⟩ : ByteArray) p ch y1 (by decide) hp hch (by rw [hy1]; simpa using hbs) (by rw [hy1]; simp)
  rw [← hy1] at hcur
  generalize ruK (⟨#[97, 108, 108, 111, 119]⟩ : ByteArray) p ch y1 = K1 at key1 hcur
  have Ny1 := Aside0.mk hy1
  clear hy1
  have HJ := Aside0.mk h
  have HK := Aside0.mk (JK.of_below (Below.refl w.heap.size w))
  clear h
  go_enter Tryz.func33, Tryz.ntmps33
  go_wp2_with (first | ((with_reducible refine gate_dst (N := 5) rfl ?_); refine box_event ?hg (N := 5) ?hd (cs := #[.string p, .string ch]) (t := 39) ?hr ?_; (case hd => rfl); (case hg => rfl); (case hr => first | (go_simp; done) | (go_simp; rfl)); intro gbh hg wh hbox hb; have GKh := Aside0.mk ((by rw [hg]; exact JK.size (by (with_reducible repeat (first | apply JK.drewN | apply JK.drew | apply JK.alloc)); exact HK.out) : w.heap.size ≤ gbh)); have GJh := Aside0.mk ((by rw [hg]; exact JS.size0 (base := base) (ok := ok) (w0 := w0) (g := g) (cur := cur) (by (with_reducible repeat (first | apply JS.drewN | apply JS.drew | apply JS.alloc)); exact HJ.out) : w0.heap.size ≤ gbh)); have n_HK := Aside0.mk (HK.out.trans (JK.of_below hb)); have n_HJ := Aside0.mk (JS.below (base := base) (ok := ok) (w0 := w0) (g := g) (cur := cur) (by (with_reducible repeat (first | apply JS.drewN | apply JS.drew | apply JS.alloc)); exact HJ.out) hb); clear HK HJ; have HK := n_HK; have HJ := n_HJ; clear n_HK n_HJ; have BKh := Aside0.mk hbox; clear hb hbox hg; have zh_0 : World.cell? _ ⟨gbh, 0, none⟩ = some (.string p) := (blk_cell BKh.out 0).trans rfl; have fh_0 := blk_frozen BKh.out 0; have zh_1 : World.cell? _ ⟨gbh, 1, none⟩ = some (.string ch) := (blk_cell BKh.out 1).trans rfl; have fh_1 := blk_frozen BKh.out 1))
  refine (ru_check g p ch n0 (Nat.le_trans hp (by decide)) (Nat.le_trans hch (by decide)) hc).mono ?_
  rintro e w1 ⟨rfl, hb⟩
  have n_HK := Aside0.mk (HK.out.trans (JK.of_below hb))
  have n_HJ := Aside0.mk (JS.below (base := base) (ok := ok) (w0 := w0) (g := g) (cur := cur) (by (with_reducible repeat (first | apply JS.drewN | apply JS.drew | apply JS.alloc)); exact HJ.out) hb)
  have n_BKh := Aside0.mk (blk_below (g := gbh) (o := .cells #[.string p, .string ch] 39 (0, 0)) (by (with_reducible repeat (first | refine blk_drewN ?_ _ | refine blk_drew ?_ | refine blk_alloc ?_ _)); exact BKh.out) hb)
  clear HK HJ BKh
  have HK := n_HK
  have HJ := n_HJ
  have BKh := n_BKh
  clear n_HK n_HJ n_BKh
  clear hb
  have zh_0 : World.cell? _ ⟨gbh, 0, none⟩ = some (.string p) := (blk_cell BKh.out 0).trans rfl
  have fh_0 := blk_frozen BKh.out 0
  have zh_1 : World.cell? _ ⟨gbh, 1, none⟩ = some (.string ch) := (blk_cell BKh.out 1).trans rfl
  have fh_1 := blk_frozen BKh.out 1
  by_cases z0 : n0 = 0
  · subst z0
    rw [if_pos rfl] at hx hcur
    go_wp2_with fail
    refine (names_Check.calls K4 4 base0 n4 _ c4).mono ?_
    rintro e w2 ⟨rfl, hb⟩
    have n_HK := Aside0.mk (HK.out.trans (JK.of_below hb))
    have n_HJ := Aside0.mk (JS.below (base := base) (ok := ok) (w0 := w0) (g := g) (cur := cur) (by (with_reducible repeat (first | apply JS.drewN | apply JS.drew | apply JS.alloc)); exact HJ.out) hb)
    have n_BKh := Aside0.mk (blk_below (g := gbh) (o := .cells #[.string p, .string ch] 39 (0, 0)) (by (with_reducible repeat (first | refine blk_drewN ?_ _ | refine blk_drew ?_ | refine blk_alloc ?_ _)); exact BKh.out) hb)
    clear HK HJ BKh
    have HK := n_HK
    have HJ := n_HJ
    have BKh := n_BKh
    clear n_HK n_HJ n_BKh
    clear hb
    have zh_0 : World.cell? _ ⟨gbh, 0, none⟩ = some (.string p) := (blk_cell BKh.out 0).trans rfl
    have fh_0 := blk_frozen BKh.out 0
    have zh_1 : World.cell? _ ⟨gbh, 1, none⟩ = some (.string ch) := (blk_cell BKh.out 1).trans rfl
    have fh_1 := blk_frozen BKh.out 1
    by_cases z4 : n4 = 0
    · subst z4
      rw [if_pos rfl] at hx hcur
      subst hx hcur
      go_wp2_with (first | ((with_reducible refine gate_dst (N := 22) rfl ?_); (try (refine gate_guard (by rfl) ?_; dsimp only)); refine Kd.R_lit Kd.string _ 9 ?hg (N := 22) ?hd (xs := ([base0] : List ByteArray)) (inner := [.string base0]) (ok := fun _ => True) (okp := fun _ => True) ?hr ?hp (fun _ hk => hk) trivial (Below.refl _ _) (Nat.le_refl _) (by simp) ?_; (case hd => rfl); (case hg => rfl); (case hr => first | (go_simp; done) | (go_simp; rfl)); (case hp => exact (Reps.one (show Kd.M Kd.string _ _ _ base0 [.string base0] from rfl) (Reps.none _ _))); intro vlit wy1 hlit hb hg_ hnew_; clear hg_ hnew_; rw [← Ny1.out] at hlit; obtain ⟨Ay1, cy1, el_⟩ := Kd.R_slice hlit; subst el_; have Ry1 := Aside0.mk hlit; clear hlit; have n_HK := Aside0.mk (HK.out.trans (JK.of_below hb)); have n_HJ := Aside0.mk (JS.below (base := base) (ok := ok) (w0 := w0) (g := g) (cur := cur) (by (with_reducible repeat (first | apply JS.drewN | apply JS.drew | apply JS.alloc)); exact HJ.out) hb); have n_BKh := Aside0.mk (blk_below (g := gbh) (o := .cells #[.string p, .string ch] 39 (0, 0)) (by (with_reducible repeat (first | refine blk_drewN ?_ _ | refine blk_drew ?_ | refine blk_alloc ?_ _)); exact BKh.out) hb); clear HK HJ BKh; have HK := n_HK; have HJ := n_HJ; have BKh := n_BKh; clear n_HK n_HJ n_BKh; clear hb))
      refine (rules_key.calls k1 (⟨#[97, 108, 108, 111, 119]⟩ : ByteArray) p ch Ay1 cy1 y1 K1 _ (Kd.R_reads' Ry1.out).2.2 (Kd.R_reads' Ry1.out).2.1 key1).mono ?_
      rintro e w3 ⟨rfl, hb⟩
      have n_HK := Aside0.mk (HK.out.trans (JK.of_below hb))
      have n_HJ := Aside0.mk (JS.below (base := base) (ok := ok) (w0 := w0) (g := g) (cur := cur) (by (with_reducible repeat (first | apply JS.drewN | apply JS.drew | apply JS.alloc)); exact HJ.out) hb)
      have n_BKh := Aside0.mk (blk_below (g := gbh) (o := .cells #[.string p, .string ch] 39 (0, 0)) (by (with_reducible repeat (first | refine blk_drewN ?_ _ | refine blk_drew ?_ | refine blk_alloc ?_ _)); exact BKh.out) hb)
      clear HK HJ BKh
      have HK := n_HK
      have HJ := n_HJ
      have BKh := n_BKh
      clear n_HK n_HJ n_BKh
      clear hb
      clear Ry1 Ny1
      go_wp2_with fail
      refine (ru_flag K1 yes HJ.out hk).mono ?_
      rintro e w4 ⟨rfl, hj, hk4⟩
      have HJ4 := Aside0.mk hj
      have HK4 := Aside0.mk (HK.out.trans hk4)
      clear hj hk4
      go_wp2
      go_ret
      exact ⟨rfl, HJ4.out, HK4.out⟩
    · rw [if_neg z4] at hx hcur
      subst hx hcur
      go_wp2
      go_ret
      exact ⟨rfl, HJ.out, HK.out⟩
  · rw [if_neg z0] at hx hcur
    subst hx hcur
    go_wp2
    go_ret
    exact ⟨rfl, HJ.out, HK.out⟩
set_option maxHeartbeats 4000000 in
set_option maxRecDepth 100000 in
theorem run_allow (p ch base0 : ByteArray) (yes : Bool) (w : World) :
    Calls Tryz.prog 33 #[.pointer none, .agg #[.string p, .string ch], .string base0, .bool yes] w fun e w' => e = .returned (.int .i64 2) ∧ Below w.heap.size w w' := by
  have HB := Aside0.mk (Below.refl w.heap.size w)
  go_enter Tryz.func33, Tryz.ntmps33
  go_wp2_with (first | ((with_reducible refine gate_dst (N := 5) rfl ?_); refine box_event ?hg (N := 5) ?hd (cs := #[.string p, .string ch]) (t := 39) ?hr ?_; (case hd => rfl); (case hg => rfl); (case hr => first | (go_simp; done) | (go_simp; rfl)); intro gbh hg wh hbox hb; have GEh := Aside0.mk ((by rw [hg]; exact (below_size (by repeat (first | (with_reducible first | exact HB.out | apply below_alloc | apply pw_below_drewN | apply below_drew1) | exact HB.out))) : w.heap.size ≤ gbh)); have n_HB := Aside0.mk (below_step (by repeat (first | (with_reducible first | exact HB.out | apply below_alloc | apply pw_below_drewN | apply below_drew1) | exact HB.out)) hb); clear HB; have HB := n_HB; clear n_HB; have BKh := Aside0.mk hbox; clear hb hbox hg; have zh_0 : World.cell? _ ⟨gbh, 0, none⟩ = some (.string p) := (blk_cell BKh.out 0).trans rfl; have fh_0 := blk_frozen BKh.out 0; have zh_1 : World.cell? _ ⟨gbh, 1, none⟩ = some (.string ch) := (blk_cell BKh.out 1).trans rfl; have fh_1 := blk_frozen BKh.out 1))
  refine (run_check p ch _).mono ?_
  rintro e w1 ⟨rfl, hb⟩
  have n_HB := Aside0.mk (below_step (by repeat (first | (with_reducible first | exact HB.out | apply below_alloc | apply pw_below_drewN | apply below_drew1 | refine below_set ?_ GEh.out) | exact HB.out)) hb)
  have n_BKh := Aside0.mk (blk_below (g := gbh) (o := .cells #[.string p, .string ch] 39 (0, 0)) (by (with_reducible repeat (first | refine blk_drewN ?_ _ | refine blk_drew ?_ | refine blk_alloc ?_ _)); exact BKh.out) hb)
  clear HB BKh
  have HB := n_HB
  have BKh := n_BKh
  clear n_HB n_BKh
  clear hb
  go_wp2
  go_ret
  exact ⟨rfl, HB.out⟩

/-! ### rules_SetAdmin: function 35 -/

/-! ### words: j1.inc -/
/-! ### a journal without levels, and the document's store, beside each other -/
/-- A journal (blocks from n on), and a store v of pairs that lies elsewhere. -/
def J1 (n g : Nat) (cur : List S73) (v : Value) (l : List S73) (W : World) : Prop :=
  ∃ ok : Nat → Prop, (∀ k, ok k → n ≤ k ∧ k < W.heap.size) ∧ JM n ok g ⟨cur, []⟩ W ∧ Kd.V k73 73 W 0 (fun k => ¬ ok k) v l
theorem J1.of {n g : Nat} {cur : List S73} {v : Value} {l : List S73} {W : World} {ok : Nat → Prop} (hm : JM n ok g ⟨cur, []⟩ W) (hv : Kd.V k73 73 W 0 (fun k => ¬ ok k) v l) : J1 n g cur v l W :=
  ⟨_, fun k hk => ⟨hk.2.1, hk.2.2.1⟩, hm.bound, Kd.V_mono hv (fun k hk h => hk h.1)⟩
theorem J1.below {n g : Nat} {cur : List S73} {v : Value} {l : List S73} {W W' : World} (h : J1 n g cur v l W) (hb : Below W.heap.size W W') : J1 n g cur v l W' := by
  obtain ⟨ok, h1, h2, h3⟩ := h
  exact ⟨ok, fun k hk => ⟨(h1 k hk).1, Nat.lt_of_lt_of_le (h1 k hk).2 hb.size⟩, h2.below hb, Kd.V_below h3 hb⟩
/-- A deed of the journal: the document's store stays. -/
theorem J1.did {n g : Nat} {cur : List S73} {v : Value} {l : List S73} {ok : Nat → Prop} {W W' : World} (hv : Kd.V k73 73 W 0 (fun k => ¬ ok k) v l)
    (h : JS n ok W g cur W') : J1 n g cur v l W' :=
  J1.of h.m (Kd.V_mono (Kd.V_step (Kd.V_bound hv) (fun k hk hlt => h.jw.block k hlt hk.1)) (fun k hk h => h.elim hk.1 (fun h => by have := hk.2; omega)))
/-! ### stores: plain -/
theorem hasK_in {l : List S73} {key : ByteArray} (h : hasK l key = true) : ∃ p ∈ l, p.f0 = key := by
  obtain ⟨hp, e⟩ := hasK_lt h
  exact ⟨_, List.getElem_mem hp, e⟩
theorem hasK_not {l : List S73} {key : ByteArray} (h : ∀ p ∈ l, p.f0 ≠ key) : hasK l key = false := by
  cases e : hasK l key with
  | false => rfl
  | true => obtain ⟨p, hp, hk⟩ := hasK_in e; exact absurd hk (h p hp)
theorem getK_no {l : List S73} {key : ByteArray} (h : hasK l key = false) : getK l key = ((⟨#[]⟩ : ByteArray), false) := by unfold getK; rw [h]; rfl
theorem mem_setK {l : List S73} {key value : ByteArray} {p : S73} (h : p ∈ setK l key value) : p = ⟨key, value⟩ ∨ p ∈ l := by
  unfold setK at h
  split at h
  · rcases List.mem_or_eq_of_mem_set h with h | h
    · exact .inr h
    · exact .inl h
  · rcases List.mem_append.1 h with h | h
    · exact .inr (List.mem_of_mem_take h)
    · rcases List.mem_cons.1 h with h | h
      · exact .inl h
      · exact .inr (List.mem_of_mem_drop h)
theorem mem_delK {l : List S73} {key : ByteArray} {p : S73} (h : p ∈ delK l key) : p ∈ l := by
  unfold delK at h
  split at h
  · rcases List.mem_append.1 h with h | h
    · exact List.mem_of_mem_take h
    · exact List.mem_of_mem_drop h
  · exact h
/-- What is set is there. -/
theorem getK_set {l : List S73} (hs : sortK l) (key value : ByteArray) : getK (setK l key value) key = (value, true) := by
  obtain ⟨A, B, hA, hB, h⟩ := decK hs key
  rcases h with ⟨_, x, hx, rfl⟩ | ⟨hn, rfl⟩
  · rw [setK_mid value hA hx hB]; exact getK_mid hA rfl hB
  · rw [setK_new value hA hB hn]; exact getK_mid hA rfl hB
theorem hasK_set {l : List S73} (hs : sortK l) (key value : ByteArray) : hasK (setK l key value) key = true := by
  have h := getK_set hs key value
  unfold getK at h
  split at h
  · assumption
  · cases h
/-- The first byte of a key is its word's. -/
theorem key_head (a : ByteArray) (l : List ByteArray) (c : UInt8) (t : List UInt8) (h : a.toList = c :: t) (h1 : c ≠ 37) (h2 : c ≠ 47) : (keyB a l).toList.head? = some c := by
  unfold keyB keyL glue
  rw [ofL_toList, h, hidL_cons, if_neg h1, if_neg h2]
  rfl
/-! ### what stands elsewhere than the journal -/
theorem V_js {n g t : Nat} {ok : Nat → Prop} {cur l : List S73} {v : Value} {w0 W : World} (h : JS n ok w0 g cur W) (hv : Kd.V k73 t w0 0 (fun k => ¬ ok k) v l) : Kd.V k73 t W 0 (fun k => ¬ ok k ∧ k < w0.heap.size) v l :=
  Kd.V_step (Kd.V_bound hv) (fun k hk hlt => h.jw.block k hlt hk.1)
theorem V_C {P : Nat → Prop} {A : Option Addr} {c m t : Nat} {l : List S73} {W : World} (h : Kd.V k73 t W 0 P (.slice A m c) l) : Kd.C k73 W A l.length l ∧ l.length ≤ c := by
  obtain ⟨A', c', e, hl, hf⟩ := h
  injection e with e1 e2 e3
  subst e1 e3
  exact ⟨Kd.F_now hf, hl⟩
theorem JS.old {n m g : Nat} {ok : Nat → Prop} {cur : List S73} {w w0 W : World} (h : JS n ok w0 g cur W) (hb : Below m w w0) (hm : m ≤ w0.heap.size) (hk : ∀ k, ok k → m ≤ k) : Below m w W := JW.toBelow hb hm h.jw hk

/-! ### words: held.inc -/
/-- A box's cells, in a world. -/
def HeldC (g : Nat) (cs : Array Value) (t : TypeId) (w : World) : Prop := w.heap[g]? = some (.cells cs t (0, 0))
theorem HeldC.of {g : Nat} {cs : Array Value} {t : TypeId} {w : World} (h : w.heap[g]? = some (.cells cs t (0, 0))) : HeldC g cs t w := h
theorem HeldC.blk {g : Nat} {cs : Array Value} {t : TypeId} {w : World} (h : HeldC g cs t w) : w.heap[g]? = some (.cells cs t (0, 0)) := h
theorem at_world {g : Nat} {cs : Array Value} {t : TypeId} {w : World} (_ : HeldC g cs t w) {F : World → Prop} (h : F w) : Aside0 (F w) := Aside0.mk h

end Go.Proofs.YtonipkgekhdogaaGreatDoor.PRup
