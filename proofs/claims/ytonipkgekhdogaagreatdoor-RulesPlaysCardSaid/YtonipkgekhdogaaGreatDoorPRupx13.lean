-- written by wip/myprint.py over the kit's print; not a printed text of print.sh
import Derived.Test.YtonipkgekhdogaaGreatDoorPRupx0
import Derived.Test.YtonipkgekhdogaaGreatDoorPRupx2
import Derived.Test.YtonipkgekhdogaaGreatDoorPRupx10
import Derived.Test.YtonipkgekhdogaaGreatDoorPRupx11
import Derived.Test.YtonipkgekhdogaaGreatDoorPRupx12
import Derived.Test.YtonipkgekhdogaaGreatDoorPRupx15
import Derived.Test.YtonipkgekhdogaaGreatDoorPRupx16
import Derived.Test.YtonipkgekhdogaaGreatDoorPRupx20
namespace Go.Proofs.YtonipkgekhdogaaGreatDoor.PRup
open Go.RowKit Go.Proofs.YtonipkgekhdogaaGreatDoorW.PrintWords Go.Proofs.YtonipkgekhdogaaGreatDoorW.PrintLast Go.Proofs.YtonipkgekhdogaaGreatDoorW.PrintMore
attribute [local go_sem] max2_int min2_int max_two min_two max_three min_three max_four min_four   -- for this text's walks alone
set_option linter.unusedVariables false
set_option linter.unusedSimpArgs false

/-! ### rules_May: function 18 -/
-- @break
set_option maxHeartbeats 4000000 in
set_option maxRecDepth 100000 in
theorem ru_limit {base g : Nat} {ok : Nat → Prop} {w0 : World} {cur : List S73} (p ch : ByteArray) (n : Int) (x : Int) (cur' : List S73) {w : World} (h : JS base ok w0 g cur w) (hk : KV 1000000 cur) (hp : p.size ≤ 50000) (hch : ch.size ≤ 50000) (hx : ruLimitE p ch n = x) (hcur : ruLimit cur p ch n = cur') :
    Calls Tryz.prog 34 #[.pointer (some ⟨g, 0, none⟩), .agg #[.string p, .string ch], .int .i64 n] w fun e w' => e = .returned (.int .i64 x) ∧ JS base ok w0 g cur' w' ∧ JK w w' := by
  unfold ruLimitE at hx
  unfold ruLimit at hcur
  obtain ⟨n0, hc⟩ : ∃ n, ruChk p ch = n := ⟨_, rfl⟩
  rw [hc] at hx hcur
  obtain ⟨k1, key1⟩ := ruKey_ev (⟨#[108, 105, 109, 105, 116]⟩ : ByteArray) p ch [] (by decide) hp hch (by simp) (by simp)
  generalize ruK (⟨#[108, 105, 109, 105, 116]⟩ : ByteArray) p ch [] = K1 at key1 hx hcur
  obtain ⟨V9, hV9⟩ : ∃ V, numB n.toNat = V := ⟨_, rfl⟩
  rw [hV9] at hx hcur
  have HJ := Aside0.mk h
  have HK := Aside0.mk (JK.of_below (Below.refl w.heap.size w))
  clear h
  go_enter Tryz.func34, Tryz.ntmps34
  go_wp2_with (first | ((with_reducible refine gate_dst (N := 4) rfl ?_); refine box_event ?hg (N := 4) ?hd (cs := #[.string p, .string ch]) (t := 39) ?hr ?_; (case hd => rfl); (case hg => rfl); (case hr => first | (go_simp; done) | (go_simp; rfl)); intro gbh hg wh hbox hb; have GKh := Aside0.mk ((by rw [hg]; exact JK.size (by (with_reducible repeat (first | apply JK.drewN | apply JK.drew | apply JK.alloc)); exact HK.out) : w.heap.size ≤ gbh)); have GJh := Aside0.mk ((by rw [hg]; exact JS.size0 (base := base) (ok := ok) (w0 := w0) (g := g) (cur := cur) (by (with_reducible repeat (first | apply JS.drewN | apply JS.drew | apply JS.alloc)); exact HJ.out) : w0.heap.size ≤ gbh)); have n_HK := Aside0.mk (HK.out.trans (JK.of_below hb)); have n_HJ := Aside0.mk (JS.below (base := base) (ok := ok) (w0 := w0) (g := g) (cur := cur) (by (with_reducible repeat (first | apply JS.drewN | apply JS.drew | apply JS.alloc)); exact HJ.out) hb); clear HK HJ; have HK := n_HK; have HJ := n_HJ; clear n_HK n_HJ; have BKh := Aside0.mk hbox; clear hb hbox hg; have zh_0 : World.cell? _ ⟨gbh, 0, none⟩ = some (.string p) := (blk_cell BKh.out 0).trans rfl; have fh_0 := blk_frozen BKh.out 0; have zh_1 : World.cell? _ ⟨gbh, 1, none⟩ = some (.string ch) := (blk_cell BKh.out 1).trans rfl; have fh_1 := blk_frozen BKh.out 1))
  refine (ru_check g p ch n0 (Nat.le_trans hp (by decide)) (Nat.le_trans hch (by decide)) hc).mono ?_
  rintro e w1 ⟨rfl, hb⟩
  have n_HK := Aside0.mk (HK.out.trans (JK.of_below hb))
  have n_HJ := Aside0.mk (JS.below (base := base) (ok := ok) (w0 := w0) (g := g) (cur := cur) (by (with_reducible repeat (first | apply JS.drewN | apply JS.drew | apply JS.alloc)); exact HJ.out) hb)
  have n_BKh := Aside0.mk (blk_below (g := gbh) (o := .cells #[.string p, .string ch] 39 (0, 0)) (by (with_reducible repeat (first | refine blk_drewN ?_ _ | refine blk_drew ?_ | refine blk_alloc ?_ _)); exact BKh.out) hb)
  clear HK HJ BKh
  have HK := n_HK
  have HJ := n_HJ
  have BKh := n_BKh
  clear n_HK n_HJ n_BKh
  clear hb
  have zh_0 : World.cell? _ ⟨gbh, 0, none⟩ = some (.string p) := (blk_cell BKh.out 0).trans rfl
  have fh_0 := blk_frozen BKh.out 0
  have zh_1 : World.cell? _ ⟨gbh, 1, none⟩ = some (.string ch) := (blk_cell BKh.out 1).trans rfl
  have fh_1 := blk_frozen BKh.out 1
  by_cases z0 : n0 = 0
  · subst z0
    rw [if_pos rfl] at hx hcur
    by_cases hr : n < 0 ∨ n > 16
    · rw [if_pos hr] at hx hcur
      subst hx hcur
      by_cases hr0 : n < 0
      · go_wp2
        go_ret
        exact ⟨rfl, HJ.out, HK.out⟩
      · have hr1 : 16 < n := by omega
        go_wp2
        go_ret
        exact ⟨rfl, HJ.out, HK.out⟩
    · rw [if_neg hr] at hx hcur
      have hr0 : ¬ n < 0 := fun e => hr (.inl e)
      have hr1 : ¬ 16 < n := fun e => hr (.inr e)
      clear hr
      by_cases hz : n = 0
      · subst hz
        rw [if_pos rfl] at hx hcur
        subst hx hcur
        go_wp2_with fail
        refine (rules_key.calls k1 (⟨#[108, 105, 109, 105, 116]⟩ : ByteArray) p ch none 0 [] K1 _ (Kd.F_now (Kd.F_nil Kd.string _ (fun _ => True))) (Nat.le_refl _) key1).mono ?_
        rintro e w2 ⟨rfl, hb⟩
        have n_HK := Aside0.mk (HK.out.trans (JK.of_below hb))
        have n_HJ := Aside0.mk (JS.below (base := base) (ok := ok) (w0 := w0) (g := g) (cur := cur) (by (with_reducible repeat (first | apply JS.drewN | apply JS.drew | apply JS.alloc)); exact HJ.out) hb)
        have n_BKh := Aside0.mk (blk_below (g := gbh) (o := .cells #[.string p, .string ch] 39 (0, 0)) (by (with_reducible repeat (first | refine blk_drewN ?_ _ | refine blk_drew ?_ | refine blk_alloc ?_ _)); exact BKh.out) hb)
        clear HK HJ BKh
        have HK := n_HK
        have HJ := n_HJ
        have BKh := n_BKh
        clear n_HK n_HJ n_BKh
        clear hb
        have zh_0 : World.cell? _ ⟨gbh, 0, none⟩ = some (.string p) := (blk_cell BKh.out 0).trans rfl
        have fh_0 := blk_frozen BKh.out 0
        have zh_1 : World.cell? _ ⟨gbh, 1, none⟩ = some (.string ch) := (blk_cell BKh.out 1).trans rfl
        have fh_1 := blk_frozen BKh.out 1
        go_wp2_with fail
        refine (js_del K1 HJ.out hk).mono ?_
        rintro e w3 ⟨rfl, hj, hk3⟩
        have HJ3 := Aside0.mk hj
        have HK3 := Aside0.mk (HK.out.trans hk3)
        clear hj hk3
        go_wp2
        go_ret
        exact ⟨rfl, HJ3.out, HK3.out⟩
      · rw [if_neg hz] at hx hcur
        subst hx hcur
        have hnum : wire_Num.f n = some (V9, 0) := by
          obtain ⟨m, rfl⟩ : ∃ m : Nat, n = (m : Int) := ⟨n.toNat, by omega⟩
          rw [Int.toNat_natCast] at hV9
          rw [← hV9]
          exact wNum_is m (by omega)
        clear hV9
        go_wp2_with fail
        refine (wire_Num.calls n V9 0 _ hnum).mono ?_
        rintro e w2 ⟨rfl, hb⟩
        have n_HK := Aside0.mk (HK.out.trans (JK.of_below hb))
        have n_HJ := Aside0.mk (JS.below (base := base) (ok := ok) (w0 := w0) (g := g) (cur := cur) (by (with_reducible repeat (first | apply JS.drewN | apply JS.drew | apply JS.alloc)); exact HJ.out) hb)
        have n_BKh := Aside0.mk (blk_below (g := gbh) (o := .cells #[.string p, .string ch] 39 (0, 0)) (by (with_reducible repeat (first | refine blk_drewN ?_ _ | refine blk_drew ?_ | refine blk_alloc ?_ _)); exact BKh.out) hb)
        clear HK HJ BKh
        have HK := n_HK
        have HJ := n_HJ
        have BKh := n_BKh
        clear n_HK n_HJ n_BKh
        clear hb
        have zh_0 : World.cell? _ ⟨gbh, 0, none⟩ = some (.string p) := (blk_cell BKh.out 0).trans rfl
        have fh_0 := blk_frozen BKh.out 0
        have zh_1 : World.cell? _ ⟨gbh, 1, none⟩ = some (.string ch) := (blk_cell BKh.out 1).trans rfl
        have fh_1 := blk_frozen BKh.out 1
        go_wp2_with fail
        refine (rules_key.calls k1 (⟨#[108, 105, 109, 105, 116]⟩ : ByteArray) p ch none 0 [] K1 _ (Kd.F_now (Kd.F_nil Kd.string _ (fun _ => True))) (Nat.le_refl _) key1).mono ?_
        rintro e w3 ⟨rfl, hb⟩
        have n_HK := Aside0.mk (HK.out.trans (JK.of_below hb))
        have n_HJ := Aside0.mk (JS.below (base := base) (ok := ok) (w0 := w0) (g := g) (cur := cur) (by (with_reducible repeat (first | apply JS.drewN | apply JS.drew | apply JS.alloc)); exact HJ.out) hb)
        have n_BKh := Aside0.mk (blk_below (g := gbh) (o := .cells #[.string p, .string ch] 39 (0, 0)) (by (with_reducible repeat (first | refine blk_drewN ?_ _ | refine blk_drew ?_ | refine blk_alloc ?_ _)); exact BKh.out) hb)
        clear HK HJ BKh
        have HK := n_HK
        have HJ := n_HJ
        have BKh := n_BKh
        clear n_HK n_HJ n_BKh
        clear hb
        have zh_0 : World.cell? _ ⟨gbh, 0, none⟩ = some (.string p) := (blk_cell BKh.out 0).trans rfl
        have fh_0 := blk_frozen BKh.out 0
        have zh_1 : World.cell? _ ⟨gbh, 1, none⟩ = some (.string ch) := (blk_cell BKh.out 1).trans rfl
        have fh_1 := blk_frozen BKh.out 1
        go_wp2_with fail
        refine (js_set K1 V9 HJ.out hk).mono ?_
        rintro e w4 ⟨rfl, hj, hk4⟩
        have HJ4 := Aside0.mk hj
        have HK4 := Aside0.mk (HK.out.trans hk4)
        clear hj hk4
        go_wp2
        go_ret
        exact ⟨rfl, HJ4.out, HK4.out⟩
  · rw [if_neg z0] at hx hcur
    subst hx hcur
    go_wp2
    go_ret
    exact ⟨rfl, HJ.out, HK.out⟩
set_option maxHeartbeats 4000000 in
set_option maxRecDepth 100000 in
theorem run_limit (p ch : ByteArray) (n : Int) (w : World) :
    Calls Tryz.prog 34 #[.pointer none, .agg #[.string p, .string ch], .int .i64 n] w fun e w' => e = .returned (.int .i64 2) ∧ Below w.heap.size w w' := by
  have HB := Aside0.mk (Below.refl w.heap.size w)
  go_enter Tryz.func34, Tryz.ntmps34
  go_wp2_with (first | ((with_reducible refine gate_dst (N := 4) rfl ?_); refine box_event ?hg (N := 4) ?hd (cs := #[.string p, .string ch]) (t := 39) ?hr ?_; (case hd => rfl); (case hg => rfl); (case hr => first | (go_simp; done) | (go_simp; rfl)); intro gbh hg wh hbox hb; have GEh := Aside0.mk ((by rw [hg]; exact (below_size (by repeat (first | (with_reducible first | exact HB.out | apply below_alloc | apply pw_below_drewN | apply below_drew1) | exact HB.out))) : w.heap.size ≤ gbh)); have n_HB := Aside0.mk (below_step (by repeat (first | (with_reducible first | exact HB.out | apply below_alloc | apply pw_below_drewN | apply below_drew1) | exact HB.out)) hb); clear HB; have HB := n_HB; clear n_HB; have BKh := Aside0.mk hbox; clear hb hbox hg; have zh_0 : World.cell? _ ⟨gbh, 0, none⟩ = some (.string p) := (blk_cell BKh.out 0).trans rfl; have fh_0 := blk_frozen BKh.out 0; have zh_1 : World.cell? _ ⟨gbh, 1, none⟩ = some (.string ch) := (blk_cell BKh.out 1).trans rfl; have fh_1 := blk_frozen BKh.out 1))
  refine (run_check p ch _).mono ?_
  rintro e w1 ⟨rfl, hb⟩
  have n_HB := Aside0.mk (below_step (by repeat (first | (with_reducible first | exact HB.out | apply below_alloc | apply pw_below_drewN | apply below_drew1 | refine below_set ?_ GEh.out) | exact HB.out)) hb)
  have n_BKh := Aside0.mk (blk_below (g := gbh) (o := .cells #[.string p, .string ch] 39 (0, 0)) (by (with_reducible repeat (first | refine blk_drewN ?_ _ | refine blk_drew ?_ | refine blk_alloc ?_ _)); exact BKh.out) hb)
  clear HB BKh
  have HB := n_HB
  have BKh := n_BKh
  clear n_HB n_BKh
  clear hb
  go_wp2
  go_ret
  exact ⟨rfl, HB.out⟩
set_option maxHeartbeats 4000000 in
set_option maxRecDepth 100000 in
theorem ru_may {base g : Nat} {ok : Nat → Prop} {w0 : World} {cur : List S73} (p ch base0 : ByteArray) (n x : Int) {w : World} (h : JS base ok w0 g cur w) (hk : KV 1000000 cur) (hp : p.size ≤ 50000) (hch : ch.size ≤ 50000) (hbs : base0.size ≤ 50000) (hx : ruMay cur p ch base0 n = x) :
    Calls Tryz.prog 18 #[.pointer (some ⟨g, 0, none⟩), .agg #[.string p, .string ch], .string base0, .int .i64 n] w fun e w' => e = .returned (.int .i64 x) ∧ Below w.heap.size w w' := by
  unfold ruMay at hx
  obtain ⟨y1, hy1⟩ : ∃ y : List ByteArray, y = [base0] := ⟨_, rfl⟩
  obtain ⟨k3, key3⟩ := ruKey_ev (⟨#[97, 108, 108, 111, 119]⟩ : ByteArray) p ch y1 (by decide) hp hch (by rw [hy1]; simpa using hbs) (by rw [hy1]; simp)
  rw [← hy1] at hx
  generalize ruK (⟨#[97, 108, 108, 111, 119]⟩ : ByteArray) p ch y1 = K3 at key3 hx
  have Ny1 := Aside0.mk hy1
  clear hy1
  obtain ⟨k1, key1⟩ := ruKey_ev (⟨#[108, 105, 109, 105, 116]⟩ : ByteArray) p ch [] (by decide) hp hch (by simp) (by simp)
  generalize ruK (⟨#[108, 105, 109, 105, 116]⟩ : ByteArray) p ch [] = K1 at key1 hx
  obtain ⟨k2, key2⟩ := ruKey_ev (⟨#[108, 105, 115, 116, 101, 100]⟩ : ByteArray) p ch [] (by decide) hp hch (by simp) (by simp)
  generalize ruK (⟨#[108, 105, 115, 116, 101, 100]⟩ : ByteArray) p ch [] = K2 at key2 hx
  obtain ⟨v, hv⟩ : ∃ v, (getK cur K1).1 = v := ⟨_, rfl⟩
  obtain ⟨lim, hl⟩ : ∃ b, hasK cur K1 = b := ⟨_, rfl⟩
  obtain ⟨lst, hli⟩ : ∃ b, hasK cur K2 = b := ⟨_, rfl⟩
  obtain ⟨alw, hal⟩ : ∃ b, hasK cur K3 = b := ⟨_, rfl⟩
  obtain ⟨q1, q2, q3, hq⟩ : ∃ a b c, rNum v 0 = (a, b, c) := ⟨_, _, _, rfl⟩
  have hnum : wire_Reader_Num.f v 0 = some (q1, q2, q3) := by rw [rNum_is, hq]
  rw [hv, hl, hli, hal, hq] at hx
  dsimp only at hx
  clear hq
  have HJ := Aside0.mk h
  have HJ0 := Aside0.mk h
  have HB := Aside0.mk (Below.refl w.heap.size w)
  clear h
  go_enter Tryz.func18, Tryz.ntmps18
  go_wp2_with (first | ((with_reducible refine gate_dst (N := 5) rfl ?_); refine box_event ?hg (N := 5) ?hd (cs := #[.string p, .string ch]) (t := 39) ?hr ?_; (case hd => rfl); (case hg => rfl); (case hr => first | (go_simp; done) | (go_simp; rfl)); intro gbh hg wh hbox hb; have GEh := Aside0.mk ((by rw [hg]; exact (below_size (by repeat (first | (with_reducible first | exact HB.out | apply below_alloc | apply pw_below_drewN | apply below_drew1) | exact HB.out))) : w.heap.size ≤ gbh)); have GJh := Aside0.mk ((by rw [hg]; exact JS.size0 (base := base) (ok := ok) (w0 := w0) (g := g) (cur := cur) (by (with_reducible repeat (first | apply JS.drewN | apply JS.drew | apply JS.alloc)); exact HJ.out) : w0.heap.size ≤ gbh)); have n_HB := Aside0.mk (below_step (by repeat (first | (with_reducible first | exact HB.out | apply below_alloc | apply pw_below_drewN | apply below_drew1) | exact HB.out)) hb); have n_HJ := Aside0.mk (JS.below (base := base) (ok := ok) (w0 := w0) (g := g) (cur := cur) (by (with_reducible repeat (first | apply JS.drewN | apply JS.drew | apply JS.alloc)); exact HJ.out) hb); clear HB HJ; have HB := n_HB; have HJ := n_HJ; clear n_HB n_HJ; have BKh := Aside0.mk hbox; clear hb hbox hg; have zh_0 : World.cell? _ ⟨gbh, 0, none⟩ = some (.string p) := (blk_cell BKh.out 0).trans rfl; have fh_0 := blk_frozen BKh.out 0; have zh_1 : World.cell? _ ⟨gbh, 1, none⟩ = some (.string ch) := (blk_cell BKh.out 1).trans rfl; have fh_1 := blk_frozen BKh.out 1; have zh_0 : World.cell? _ ⟨gbh, 0, none⟩ = some (.string p) := (blk_cell BKh.out 0).trans rfl; have fh_0 := blk_frozen BKh.out 0; have zh_1 : World.cell? _ ⟨gbh, 1, none⟩ = some (.string ch) := (blk_cell BKh.out 1).trans rfl; have fh_1 := blk_frozen BKh.out 1))
  refine (rules_key.calls k1 (⟨#[108, 105, 109, 105, 116]⟩ : ByteArray) p ch none 0 [] K1 _ (Kd.F_now (Kd.F_nil Kd.string _ (fun _ => True))) (Nat.le_refl _) key1).mono ?_
  rintro e w1 ⟨rfl, hb⟩
  have n_HB := Aside0.mk (below_step (by repeat (first | (with_reducible first | exact HB.out | apply below_alloc | apply pw_below_drewN | apply below_drew1 | refine below_set ?_ GEh.out) | exact HB.out)) hb)
  have n_HJ := Aside0.mk (JS.below (base := base) (ok := ok) (w0 := w0) (g := g) (cur := cur) (by (with_reducible repeat (first | apply JS.drewN | apply JS.drew | apply JS.alloc)); exact HJ.out) hb)
  have n_BKh := Aside0.mk (blk_below (g := gbh) (o := .cells #[.string p, .string ch] 39 (0, 0)) (by (with_reducible repeat (first | refine blk_drewN ?_ _ | refine blk_drew ?_ | refine blk_alloc ?_ _)); exact BKh.out) hb)
  clear HB HJ BKh
  have HB := n_HB
  have HJ := n_HJ
  have BKh := n_BKh
  clear n_HB n_HJ n_BKh
  clear hb
  have zh_0 : World.cell? _ ⟨gbh, 0, none⟩ = some (.string p) := (blk_cell BKh.out 0).trans rfl
  have fh_0 := blk_frozen BKh.out 0
  have zh_1 : World.cell? _ ⟨gbh, 1, none⟩ = some (.string ch) := (blk_cell BKh.out 1).trans rfl
  have fh_1 := blk_frozen BKh.out 1
  go_wp2_with fail
  refine (js_get K1 v lim HJ.out hk hv hl).mono ?_
  rintro e w2 ⟨rfl, hb⟩
  have n_HB := Aside0.mk (below_step (by repeat (first | (with_reducible first | exact HB.out | apply below_alloc | apply pw_below_drewN | apply below_drew1 | refine below_set ?_ GEh.out) | exact HB.out)) hb)
  have n_HJ := Aside0.mk (JS.below (base := base) (ok := ok) (w0 := w0) (g := g) (cur := cur) (by (with_reducible repeat (first | apply JS.drewN | apply JS.drew | apply JS.alloc)); exact HJ.out) hb)
  have n_BKh := Aside0.mk (blk_below (g := gbh) (o := .cells #[.string p, .string ch] 39 (0, 0)) (by (with_reducible repeat (first | refine blk_drewN ?_ _ | refine blk_drew ?_ | refine blk_alloc ?_ _)); exact BKh.out) hb)
  clear HB HJ BKh
  have HB := n_HB
  have HJ := n_HJ
  have BKh := n_BKh
  clear n_HB n_HJ n_BKh
  clear hb
  have zh_0 : World.cell? _ ⟨gbh, 0, none⟩ = some (.string p) := (blk_cell BKh.out 0).trans rfl
  have fh_0 := blk_frozen BKh.out 0
  have zh_1 : World.cell? _ ⟨gbh, 1, none⟩ = some (.string ch) := (blk_cell BKh.out 1).trans rfl
  have fh_1 := blk_frozen BKh.out 1
  cases lim with
  | false =>
    rw [if_neg (by simp)] at hx
    go_wp2_with fail
    refine (rules_key.calls k2 (⟨#[108, 105, 115, 116, 101, 100]⟩ : ByteArray) p ch none 0 [] K2 _ (Kd.F_now (Kd.F_nil Kd.string _ (fun _ => True))) (Nat.le_refl _) key2).mono ?_
    rintro e w5 ⟨rfl, hb⟩
    have n_HB := Aside0.mk (below_step (by repeat (first | (with_reducible first | exact HB.out | apply below_alloc | apply pw_below_drewN | apply below_drew1 | refine below_set ?_ GEh.out) | exact HB.out)) hb)
    have n_HJ := Aside0.mk (JS.below (base := base) (ok := ok) (w0 := w0) (g := g) (cur := cur) (by (with_reducible repeat (first | apply JS.drewN | apply JS.drew | apply JS.alloc)); exact HJ.out) hb)
    have n_BKh := Aside0.mk (blk_below (g := gbh) (o := .cells #[.string p, .string ch] 39 (0, 0)) (by (with_reducible repeat (first | refine blk_drewN ?_ _ | refine blk_drew ?_ | refine blk_alloc ?_ _)); exact BKh.out) hb)
    clear HB HJ BKh
    have HB := n_HB
    have HJ := n_HJ
    have BKh := n_BKh
    clear n_HB n_HJ n_BKh
    clear hb
    have zh_0 : World.cell? _ ⟨gbh, 0, none⟩ = some (.string p) := (blk_cell BKh.out 0).trans rfl
    have fh_0 := blk_frozen BKh.out 0
    have zh_1 : World.cell? _ ⟨gbh, 1, none⟩ = some (.string ch) := (blk_cell BKh.out 1).trans rfl
    have fh_1 := blk_frozen BKh.out 1
    go_wp2_with fail
    refine (ru_there K2 lst HJ.out hk hli).mono ?_
    rintro e w6 ⟨rfl, hb⟩
    have n_HB := Aside0.mk (below_step (by repeat (first | (with_reducible first | exact HB.out | apply below_alloc | apply pw_below_drewN | apply below_drew1 | refine below_set ?_ GEh.out) | exact HB.out)) hb)
    have n_HJ := Aside0.mk (JS.below (base := base) (ok := ok) (w0 := w0) (g := g) (cur := cur) (by (with_reducible repeat (first | apply JS.drewN | apply JS.drew | apply JS.alloc)); exact HJ.out) hb)
    have n_BKh := Aside0.mk (blk_below (g := gbh) (o := .cells #[.string p, .string ch] 39 (0, 0)) (by (with_reducible repeat (first | refine blk_drewN ?_ _ | refine blk_drew ?_ | refine blk_alloc ?_ _)); exact BKh.out) hb)
    clear HB HJ BKh
    have HB := n_HB
    have HJ := n_HJ
    have BKh := n_BKh
    clear n_HB n_HJ n_BKh
    clear hb
    have zh_0 : World.cell? _ ⟨gbh, 0, none⟩ = some (.string p) := (blk_cell BKh.out 0).trans rfl
    have fh_0 := blk_frozen BKh.out 0
    have zh_1 : World.cell? _ ⟨gbh, 1, none⟩ = some (.string ch) := (blk_cell BKh.out 1).trans rfl
    have fh_1 := blk_frozen BKh.out 1
    cases lst with
    | false =>
      rw [if_neg (by simp)] at hx
      subst hx
      go_wp2
      go_ret
      exact ⟨rfl, HB.out⟩
    | true =>
      go_wp2_with (first | ((with_reducible refine gate_dst (N := 36) rfl ?_); (try (refine gate_guard (by rfl) ?_; dsimp only)); refine Kd.R_lit Kd.string _ 9 ?hg (N := 36) ?hd (xs := ([base0] : List ByteArray)) (inner := [.string base0]) (ok := fun _ => True) (okp := fun _ => True) ?hr ?hp (fun _ hk => hk) trivial (Below.refl _ _) (Nat.le_refl _) (by simp) ?_; (case hd => rfl); (case hg => rfl); (case hr => first | (go_simp; done) | (go_simp; rfl)); (case hp => exact (Reps.one (show Kd.M Kd.string _ _ _ base0 [.string base0] from rfl) (Reps.none _ _))); intro vlit wy1 hlit hb hg_ hnew_; clear hg_ hnew_; rw [← Ny1.out] at hlit; obtain ⟨Ay1, cy1, el_⟩ := Kd.R_slice hlit; subst el_; have Ry1 := Aside0.mk hlit; clear hlit; have n_HB := Aside0.mk (below_step (by repeat (first | (with_reducible first | exact HB.out | apply below_alloc | apply pw_below_drewN | apply below_drew1 | refine below_set ?_ GEh.out) | exact HB.out)) hb); have n_HJ := Aside0.mk (JS.below (base := base) (ok := ok) (w0 := w0) (g := g) (cur := cur) (by (with_reducible repeat (first | apply JS.drewN | apply JS.drew | apply JS.alloc)); exact HJ.out) hb); have n_BKh := Aside0.mk (blk_below (g := gbh) (o := .cells #[.string p, .string ch] 39 (0, 0)) (by (with_reducible repeat (first | refine blk_drewN ?_ _ | refine blk_drew ?_ | refine blk_alloc ?_ _)); exact BKh.out) hb); clear HB HJ BKh; have HB := n_HB; have HJ := n_HJ; have BKh := n_BKh; clear n_HB n_HJ n_BKh; clear hb))
      refine (rules_key.calls k3 (⟨#[97, 108, 108, 111, 119]⟩ : ByteArray) p ch Ay1 cy1 y1 K3 _ (Kd.R_reads' Ry1.out).2.2 (Kd.R_reads' Ry1.out).2.1 key3).mono ?_
      rintro e w7 ⟨rfl, hb⟩
      have n_HB := Aside0.mk (below_step (by repeat (first | (with_reducible first | exact HB.out | apply below_alloc | apply pw_below_drewN | apply below_drew1 | refine below_set ?_ GEh.out) | exact HB.out)) hb)
      have n_HJ := Aside0.mk (JS.below (base := base) (ok := ok) (w0 := w0) (g := g) (cur := cur) (by (with_reducible repeat (first | apply JS.drewN | apply JS.drew | apply JS.alloc)); exact HJ.out) hb)
      have n_BKh := Aside0.mk (blk_below (g := gbh) (o := .cells #[.string p, .string ch] 39 (0, 0)) (by (with_reducible repeat (first | refine blk_drewN ?_ _ | refine blk_drew ?_ | refine blk_alloc ?_ _)); exact BKh.out) hb)
      clear HB HJ BKh
      have HB := n_HB
      have HJ := n_HJ
      have BKh := n_BKh
      clear n_HB n_HJ n_BKh
      clear hb
      clear Ry1 Ny1
      go_wp2_with fail
      refine (ru_there K3 alw HJ.out hk hal).mono ?_
      rintro e w8 ⟨rfl, hb⟩
      have n_HB := Aside0.mk (below_step (by repeat (first | (with_reducible first | exact HB.out | apply below_alloc | apply pw_below_drewN | apply below_drew1 | refine below_set ?_ GEh.out) | exact HB.out)) hb)
      have n_HJ := Aside0.mk (JS.below (base := base) (ok := ok) (w0 := w0) (g := g) (cur := cur) (by (with_reducible repeat (first | apply JS.drewN | apply JS.drew | apply JS.alloc)); exact HJ.out) hb)
      have n_BKh := Aside0.mk (blk_below (g := gbh) (o := .cells #[.string p, .string ch] 39 (0, 0)) (by (with_reducible repeat (first | refine blk_drewN ?_ _ | refine blk_drew ?_ | refine blk_alloc ?_ _)); exact BKh.out) hb)
      clear HB HJ BKh
      have HB := n_HB
      have HJ := n_HJ
      have BKh := n_BKh
      clear n_HB n_HJ n_BKh
      clear hb
      cases alw with
      | false =>
        obtain rfl : x = 20 := by rw [← hx]; simp
        go_wp2
        go_ret
        exact ⟨rfl, HB.out⟩
      | true =>
        obtain rfl : x = 0 := by rw [← hx]; simp
        go_wp2
        go_ret
        exact ⟨rfl, HB.out⟩
  | true =>
    clear HJ
    go_wp2_with fail
    refine (wire_New.calls v v 0 w _ (by repeat (first | (with_reducible first | exact HB.out | apply below_alloc | apply pw_below_drewN | apply below_drew1 | refine below_set ?_ GEh.out) | exact HB.out)) rfl).mono ?_
    rintro e w_1 ⟨grr, rfl, hI, _, hb⟩
    have n_HB := Aside0.mk (below_step (by repeat (first | (with_reducible first | exact HB.out | apply below_alloc | apply pw_below_drewN | apply below_drew1 | refine below_set ?_ GEh.out) | exact HB.out)) hb)
    have n_BKh := Aside0.mk (blk_below (g := gbh) (o := .cells #[.string p, .string ch] 39 (0, 0)) (by (with_reducible repeat (first | refine blk_drewN ?_ _ | refine blk_drew ?_ | refine blk_alloc ?_ _)); exact BKh.out) hb)
    clear HB BKh
    have HB := n_HB
    have BKh := n_BKh
    clear n_HB n_BKh
    clear hb
    have HIr := Aside0.mk hI
    clear hI
    have NRr_h := Aside0.mk (IsS110.ne_blk HIr.out BKh.out (by decide) : grr ≠ gbh)
    go_wp2_with fail
    refine (wire_Reader_Num.calls grr v 0 _ _ _ w _ (by (with_reducible repeat (first | apply IsS110.drewN | apply IsS110.drew | apply IsS110.alloc)); exact HIr.out) (by repeat (first | (with_reducible first | exact HB.out | apply below_alloc | apply pw_below_drewN | apply below_drew1 | refine below_set ?_ GEh.out) | exact HB.out)) hnum).mono ?_
    rintro e w_2 ⟨rfl, hI, hB, hK⟩
    have n_HB := Aside0.mk (hB)
    have n_HIr := Aside0.mk (hI)
    have n_BKh := Aside0.mk (KeepBut.blk (g' := gbh) hK (o := .cells #[.string p, .string ch] 39 (0, 0)) (by (with_reducible repeat (first | refine blk_drewN ?_ _ | refine blk_drew ?_ | refine blk_alloc ?_ _)); exact BKh.out) NRr_h.out.symm (by simp))
    clear HB HIr BKh
    have HB := n_HB
    have HIr := n_HIr
    have BKh := n_BKh
    clear n_HB n_HIr n_BKh
    clear hI hB hK
    have HJ := Aside0.mk (HJ0.out.below HB.out)
    have zh_0 : World.cell? _ ⟨gbh, 0, none⟩ = some (.string p) := (blk_cell BKh.out 0).trans rfl
    have fh_0 := blk_frozen BKh.out 0
    have zh_1 : World.cell? _ ⟨gbh, 1, none⟩ = some (.string ch) := (blk_cell BKh.out 1).trans rfl
    have fh_1 := blk_frozen BKh.out 1
    by_cases hgt : n > q1
    · obtain rfl : x = 21 := by rw [← hx]; simp [hgt]
      have hgt2 : q1 < n := hgt
      go_wp2
      go_ret
      exact ⟨rfl, HB.out⟩
    · replace hx : (if lst = true ∧ alw = false then (20 : Int) else 0) = x := by rw [← hx]; simp [hgt]
      have hgt2 : ¬ q1 < n := hgt
      go_wp2_with fail
      refine (rules_key.calls k2 (⟨#[108, 105, 115, 116, 101, 100]⟩ : ByteArray) p ch none 0 [] K2 _ (Kd.F_now (Kd.F_nil Kd.string _ (fun _ => True))) (Nat.le_refl _) key2).mono ?_
      rintro e w5 ⟨rfl, hb⟩
      have n_HB := Aside0.mk (below_step (by repeat (first | (with_reducible first | exact HB.out | apply below_alloc | apply pw_below_drewN | apply below_drew1 | refine below_set ?_ GEh.out) | exact HB.out)) hb)
      have n_HJ := Aside0.mk (JS.below (base := base) (ok := ok) (w0 := w0) (g := g) (cur := cur) (by (with_reducible repeat (first | apply JS.drewN | apply JS.drew | apply JS.alloc)); exact HJ.out) hb)
      have n_BKh := Aside0.mk (blk_below (g := gbh) (o := .cells #[.string p, .string ch] 39 (0, 0)) (by (with_reducible repeat (first | refine blk_drewN ?_ _ | refine blk_drew ?_ | refine blk_alloc ?_ _)); exact BKh.out) hb)
      clear HB HJ BKh
      have HB := n_HB
      have HJ := n_HJ
      have BKh := n_BKh
      clear n_HB n_HJ n_BKh
      clear hb
      have zh_0 : World.cell? _ ⟨gbh, 0, none⟩ = some (.string p) := (blk_cell BKh.out 0).trans rfl
      have fh_0 := blk_frozen BKh.out 0
      have zh_1 : World.cell? _ ⟨gbh, 1, none⟩ = some (.string ch) := (blk_cell BKh.out 1).trans rfl
      have fh_1 := blk_frozen BKh.out 1
      go_wp2_with fail
      refine (ru_there K2 lst HJ.out hk hli).mono ?_
      rintro e w6 ⟨rfl, hb⟩
      have n_HB := Aside0.mk (below_step (by repeat (first | (with_reducible first | exact HB.out | apply below_alloc | apply pw_below_drewN | apply below_drew1 | refine below_set ?_ GEh.out) | exact HB.out)) hb)
      have n_HJ := Aside0.mk (JS.below (base := base) (ok := ok) (w0 := w0) (g := g) (cur := cur) (by (with_reducible repeat (first | apply JS.drewN | apply JS.drew | apply JS.alloc)); exact HJ.out) hb)
      have n_BKh := Aside0.mk (blk_below (g := gbh) (o := .cells #[.string p, .string ch] 39 (0, 0)) (by (with_reducible repeat (first | refine blk_drewN ?_ _ | refine blk_drew ?_ | refine blk_alloc ?_ _)); exact BKh.out) hb)
      clear HB HJ BKh
      have HB := n_HB
      have HJ := n_HJ
      have BKh := n_BKh
      clear n_HB n_HJ n_BKh
      clear hb
      have zh_0 : World.cell? _ ⟨gbh, 0, none⟩ = some (.string p) := (blk_cell BKh.out 0).trans rfl
      have fh_0 := blk_frozen BKh.out 0
      have zh_1 : World.cell? _ ⟨gbh, 1, none⟩ = some (.string ch) := (blk_cell BKh.out 1).trans rfl
      have fh_1 := blk_frozen BKh.out 1
      cases lst with
      | false =>
        rw [if_neg (by simp)] at hx
        subst hx
        go_wp2
        go_ret
        exact ⟨rfl, HB.out⟩
      | true =>
        go_wp2_with (first | ((with_reducible refine gate_dst (N := 36) rfl ?_); (try (refine gate_guard (by rfl) ?_; dsimp only)); refine Kd.R_lit Kd.string _ 9 ?hg (N := 36) ?hd (xs := ([base0] : List ByteArray)) (inner := [.string base0]) (ok := fun _ => True) (okp := fun _ => True) ?hr ?hp (fun _ hk => hk) trivial (Below.refl _ _) (Nat.le_refl _) (by simp) ?_; (case hd => rfl); (case hg => rfl); (case hr => first | (go_simp; done) | (go_simp; rfl)); (case hp => exact (Reps.one (show Kd.M Kd.string _ _ _ base0 [.string base0] from rfl) (Reps.none _ _))); intro vlit wy1 hlit hb hg_ hnew_; clear hg_ hnew_; rw [← Ny1.out] at hlit; obtain ⟨Ay1, cy1, el_⟩ := Kd.R_slice hlit; subst el_; have Ry1 := Aside0.mk hlit; clear hlit; have n_HB := Aside0.mk (below_step (by repeat (first | (with_reducible first | exact HB.out | apply below_alloc | apply pw_below_drewN | apply below_drew1 | refine below_set ?_ GEh.out) | exact HB.out)) hb); have n_HJ := Aside0.mk (JS.below (base := base) (ok := ok) (w0 := w0) (g := g) (cur := cur) (by (with_reducible repeat (first | apply JS.drewN | apply JS.drew | apply JS.alloc)); exact HJ.out) hb); have n_BKh := Aside0.mk (blk_below (g := gbh) (o := .cells #[.string p, .string ch] 39 (0, 0)) (by (with_reducible repeat (first | refine blk_drewN ?_ _ | refine blk_drew ?_ | refine blk_alloc ?_ _)); exact BKh.out) hb); clear HB HJ BKh; have HB := n_HB; have HJ := n_HJ; have BKh := n_BKh; clear n_HB n_HJ n_BKh; clear hb))
        refine (rules_key.calls k3 (⟨#[97, 108, 108, 111, 119]⟩ : ByteArray) p ch Ay1 cy1 y1 K3 _ (Kd.R_reads' Ry1.out).2.2 (Kd.R_reads' Ry1.out).2.1 key3).mono ?_
        rintro e w7 ⟨rfl, hb⟩
        have n_HB := Aside0.mk (below_step (by repeat (first | (with_reducible first | exact HB.out | apply below_alloc | apply pw_below_drewN | apply below_drew1 | refine below_set ?_ GEh.out) | exact HB.out)) hb)
        have n_HJ := Aside0.mk (JS.below (base := base) (ok := ok) (w0 := w0) (g := g) (cur := cur) (by (with_reducible repeat (first | apply JS.drewN | apply JS.drew | apply JS.alloc)); exact HJ.out) hb)
        have n_BKh := Aside0.mk (blk_below (g := gbh) (o := .cells #[.string p, .string ch] 39 (0, 0)) (by (with_reducible repeat (first | refine blk_drewN ?_ _ | refine blk_drew ?_ | refine blk_alloc ?_ _)); exact BKh.out) hb)
        clear HB HJ BKh
        have HB := n_HB
        have HJ := n_HJ
        have BKh := n_BKh
        clear n_HB n_HJ n_BKh
        clear hb
        clear Ry1 Ny1
        go_wp2_with fail
        refine (ru_there K3 alw HJ.out hk hal).mono ?_
        rintro e w8 ⟨rfl, hb⟩
        have n_HB := Aside0.mk (below_step (by repeat (first | (with_reducible first | exact HB.out | apply below_alloc | apply pw_below_drewN | apply below_drew1 | refine below_set ?_ GEh.out) | exact HB.out)) hb)
        have n_HJ := Aside0.mk (JS.below (base := base) (ok := ok) (w0 := w0) (g := g) (cur := cur) (by (with_reducible repeat (first | apply JS.drewN | apply JS.drew | apply JS.alloc)); exact HJ.out) hb)
        have n_BKh := Aside0.mk (blk_below (g := gbh) (o := .cells #[.string p, .string ch] 39 (0, 0)) (by (with_reducible repeat (first | refine blk_drewN ?_ _ | refine blk_drew ?_ | refine blk_alloc ?_ _)); exact BKh.out) hb)
        clear HB HJ BKh
        have HB := n_HB
        have HJ := n_HJ
        have BKh := n_BKh
        clear n_HB n_HJ n_BKh
        clear hb
        cases alw with
        | false =>
          obtain rfl : x = 20 := by rw [← hx]; simp
          go_wp2
          go_ret
          exact ⟨rfl, HB.out⟩
        | true =>
          obtain rfl : x = 0 := by rw [← hx]; simp
          go_wp2
          go_ret
          exact ⟨rfl, HB.out⟩
set_option maxHeartbeats 4000000 in
set_option maxRecDepth 100000 in
theorem run_may (p ch base0 : ByteArray) (n : Int) (w : World) :
    Calls Tryz.prog 18 #[.pointer none, .agg #[.string p, .string ch], .string base0, .int .i64 n] w fun e w' => e = .returned (.int .i64 2) ∧ Below w.heap.size w w' := by
  have HB := Aside0.mk (Below.refl w.heap.size w)
  go_enter Tryz.func18, Tryz.ntmps18
  go_wp2_with (first | ((with_reducible refine gate_dst (N := 5) rfl ?_); refine box_event ?hg (N := 5) ?hd (cs := #[.string p, .string ch]) (t := 39) ?hr ?_; (case hd => rfl); (case hg => rfl); (case hr => first | (go_simp; done) | (go_simp; rfl)); intro gbh hg wh hbox hb; have GEh := Aside0.mk ((by rw [hg]; exact (below_size (by repeat (first | (with_reducible first | exact HB.out | apply below_alloc | apply pw_below_drewN | apply below_drew1) | exact HB.out))) : w.heap.size ≤ gbh)); have n_HB := Aside0.mk (below_step (by repeat (first | (with_reducible first | exact HB.out | apply below_alloc | apply pw_below_drewN | apply below_drew1) | exact HB.out)) hb); clear HB; have HB := n_HB; clear n_HB; have BKh := Aside0.mk hbox; clear hb hbox hg; have zh_0 : World.cell? _ ⟨gbh, 0, none⟩ = some (.string p) := (blk_cell BKh.out 0).trans rfl; have fh_0 := blk_frozen BKh.out 0; have zh_1 : World.cell? _ ⟨gbh, 1, none⟩ = some (.string ch) := (blk_cell BKh.out 1).trans rfl; have fh_1 := blk_frozen BKh.out 1))
  go_ret
  exact ⟨rfl, by repeat (first | (with_reducible first | exact HB.out | apply below_alloc | apply pw_below_drewN | apply below_drew1 | refine below_set ?_ GEh.out) | exact HB.out)⟩

end Go.Proofs.YtonipkgekhdogaaGreatDoor.PRup
