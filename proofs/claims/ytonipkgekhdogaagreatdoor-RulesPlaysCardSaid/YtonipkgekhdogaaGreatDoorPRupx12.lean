-- written by wip/myprint.py over the kit's print; not a printed text of print.sh
import Derived.Test.YtonipkgekhdogaaGreatDoorPRupx0
import Derived.Test.YtonipkgekhdogaaGreatDoorPRupx2
import Derived.Test.YtonipkgekhdogaaGreatDoorPRupx10
import Derived.Test.YtonipkgekhdogaaGreatDoorPRupx11
import Derived.Test.YtonipkgekhdogaaGreatDoorPRupx15
import Derived.Test.YtonipkgekhdogaaGreatDoorPRupx19
namespace Go.Proofs.YtonipkgekhdogaaGreatDoor.PRup
open Go.RowKit Go.Proofs.YtonipkgekhdogaaGreatDoorW.PrintWords Go.Proofs.YtonipkgekhdogaaGreatDoorW.PrintLast Go.Proofs.YtonipkgekhdogaaGreatDoorW.PrintMore
attribute [local go_sem] max2_int min2_int max_two min_two max_three min_three max_four min_four   -- for this text's walks alone
set_option linter.unusedVariables false
set_option linter.unusedSimpArgs false

/-! ### rules_Admin: function 16 -/
-- @break
theorem ruKey_ev (word p ch : ByteArray) (more : List ByteArray) (hw : word.size ≤ 50000) (hp : p.size ≤ 50000) (hch : ch.size ≤ 50000) (hm : ∀ s ∈ more, s.size ≤ 50000) (hl : more.length ≤ 10) : ∃ k, rules_key.f k word p ch more = some (ruK word p ch more) := by
  obtain ⟨k, e⟩ := key_ev word ([p, ch] ++ more) (by omega) (by rw [List.length_append]; show 2 + more.length ≤ 1000; omega) (fun s hs => by
    rcases List.mem_append.1 hs with hs | hs
    · simp only [List.mem_cons, List.not_mem_nil, or_false] at hs
      rcases hs with rfl | rfl <;> omega
    · have := hm s hs; omega)
  refine ⟨k, ?_⟩
  unfold rules_key.f
  rw [Option.bind_some, if_pos (by show 2 + more.length < _; omega), e]
  rfl
set_option maxHeartbeats 4000000 in
set_option maxRecDepth 100000 in
theorem ru_check (g : Nat) (p ch : ByteArray) (x : Int) {w : World} (hp : p.size ≤ 140737488351232) (hch : ch.size ≤ 140737488351232) (hx : ruChk p ch = x) :
    Calls Tryz.prog 60 #[.pointer (some ⟨g, 0, none⟩), .agg #[.string p, .string ch]] w fun e w' => e = .returned (.int .i64 x) ∧ Below w.heap.size w w' := by
  obtain ⟨K0, c0⟩ := nm_check_ev 0 p hp
  obtain ⟨K1, c1⟩ := nm_check_ev 1 ch hch
  unfold ruChk at hx
  generalize nm_checkSpec 0 p = n0 at c0 hx
  generalize nm_checkSpec 1 ch = n1 at c1 hx
  replace c0 : names_Check.f K0 0 p = some n0 := c0 K0 (Nat.le_refl _)
  replace c1 : names_Check.f K1 1 ch = some n1 := c1 K1 (Nat.le_refl _)
  have HB := Aside0.mk (Below.refl w.heap.size w)
  go_enter Tryz.func60, Tryz.ntmps60
  go_wp2_with (first | ((with_reducible refine gate_dst (N := 3) rfl ?_); refine box_event ?hg (N := 3) ?hd (cs := #[.string p, .string ch]) (t := 39) ?hr ?_; (case hd => rfl); (case hg => rfl); (case hr => first | (go_simp; done) | (go_simp; rfl)); intro gbh hg wh hbox hb; have GEh := Aside0.mk ((by rw [hg]; exact (below_size (by repeat (first | (with_reducible first | exact HB.out | apply below_alloc | apply pw_below_drewN | apply below_drew1) | exact HB.out))) : w.heap.size ≤ gbh)); have n_HB := Aside0.mk (below_step (by repeat (first | (with_reducible first | exact HB.out | apply below_alloc | apply pw_below_drewN | apply below_drew1) | exact HB.out)) hb); clear HB; have HB := n_HB; clear n_HB; have BKh := Aside0.mk hbox; clear hb hbox hg; have zh_0 : World.cell? _ ⟨gbh, 0, none⟩ = some (.string p) := (blk_cell BKh.out 0).trans rfl; have fh_0 := blk_frozen BKh.out 0; have zh_1 : World.cell? _ ⟨gbh, 1, none⟩ = some (.string ch) := (blk_cell BKh.out 1).trans rfl; have fh_1 := blk_frozen BKh.out 1))
  refine (names_Check.calls K0 0 p n0 _ c0).mono ?_
  rintro e w1 ⟨rfl, hb⟩
  have n_HB := Aside0.mk (below_step (by repeat (first | (with_reducible first | exact HB.out | apply below_alloc | apply pw_below_drewN | apply below_drew1 | refine below_set ?_ GEh.out) | exact HB.out)) hb)
  have n_BKh := Aside0.mk (blk_below (g := gbh) (o := .cells #[.string p, .string ch] 39 (0, 0)) (by first | exact BKh.out | ((with_reducible repeat (first | refine blk_drewN ?_ _ | refine blk_drew ?_ | refine blk_alloc ?_ _)); exact BKh.out)) hb)
  clear HB BKh
  have HB := n_HB
  have BKh := n_BKh
  clear n_HB n_BKh
  clear hb
  have zh_0 : World.cell? _ ⟨gbh, 0, none⟩ = some (.string p) := (blk_cell BKh.out 0).trans rfl
  have fh_0 := blk_frozen BKh.out 0
  have zh_1 : World.cell? _ ⟨gbh, 1, none⟩ = some (.string ch) := (blk_cell BKh.out 1).trans rfl
  have fh_1 := blk_frozen BKh.out 1
  by_cases z0 : n0 = 0
  · subst z0
    go_wp2_with fail
    refine (names_Check.calls K1 1 ch n1 _ c1).mono ?_
    rintro e w2 ⟨rfl, hb⟩
    have n_HB := Aside0.mk (below_step (by repeat (first | (with_reducible first | exact HB.out | apply below_alloc | apply pw_below_drewN | apply below_drew1 | refine below_set ?_ GEh.out) | exact HB.out)) hb)
    have n_BKh := Aside0.mk (blk_below (g := gbh) (o := .cells #[.string p, .string ch] 39 (0, 0)) (by first | exact BKh.out | ((with_reducible repeat (first | refine blk_drewN ?_ _ | refine blk_drew ?_ | refine blk_alloc ?_ _)); exact BKh.out)) hb)
    clear HB BKh
    have HB := n_HB
    have BKh := n_BKh
    clear n_HB n_BKh
    clear hb
    by_cases z1 : n1 = 0
    · subst z1
      obtain rfl : x = 0 := by rw [← hx]; simp
      go_wp2
      go_ret
      exact ⟨rfl, HB.out⟩
    · obtain rfl : x = 7 := by rw [← hx]; simp [z1]
      go_wp2
      go_ret
      exact ⟨rfl, HB.out⟩
  · obtain rfl : x = 7 := by rw [← hx]; simp [z0]
    go_wp2
    go_ret
    exact ⟨rfl, HB.out⟩
set_option maxHeartbeats 4000000 in
set_option maxRecDepth 100000 in
theorem run_check (p ch : ByteArray) (w : World) :
    Calls Tryz.prog 60 #[.pointer none, .agg #[.string p, .string ch]] w fun e w' => e = .returned (.int .i64 2) ∧ Below w.heap.size w w' := by
  have HB := Aside0.mk (Below.refl w.heap.size w)
  go_enter Tryz.func60, Tryz.ntmps60
  go_wp2_with (first | ((with_reducible refine gate_dst (N := 3) rfl ?_); refine box_event ?hg (N := 3) ?hd (cs := #[.string p, .string ch]) (t := 39) ?hr ?_; (case hd => rfl); (case hg => rfl); (case hr => first | (go_simp; done) | (go_simp; rfl)); intro gbh hg wh hbox hb; have GEh := Aside0.mk ((by rw [hg]; exact (below_size (by repeat (first | (with_reducible first | exact HB.out | apply below_alloc | apply pw_below_drewN | apply below_drew1) | exact HB.out))) : w.heap.size ≤ gbh)); have n_HB := Aside0.mk (below_step (by repeat (first | (with_reducible first | exact HB.out | apply below_alloc | apply pw_below_drewN | apply below_drew1) | exact HB.out)) hb); clear HB; have HB := n_HB; clear n_HB; have BKh := Aside0.mk hbox; clear hb hbox hg; have zh_0 : World.cell? _ ⟨gbh, 0, none⟩ = some (.string p) := (blk_cell BKh.out 0).trans rfl; have fh_0 := blk_frozen BKh.out 0; have zh_1 : World.cell? _ ⟨gbh, 1, none⟩ = some (.string ch) := (blk_cell BKh.out 1).trans rfl; have fh_1 := blk_frozen BKh.out 1))
  go_ret
  exact ⟨rfl, by repeat (first | (with_reducible first | exact HB.out | apply below_alloc | apply pw_below_drewN | apply below_drew1 | refine below_set ?_ GEh.out) | exact HB.out)⟩
set_option maxHeartbeats 4000000 in
set_option maxRecDepth 100000 in
theorem ru_there {base g : Nat} {ok : Nat → Prop} {w0 : World} {cur : List S73} (key : ByteArray) (b : Bool) {w : World} (h : JS base ok w0 g cur w) (hk : KV 1000000 cur) (hb : hasK cur key = b) :
    Calls Tryz.prog 46 #[.pointer (some ⟨g, 0, none⟩), .string key] w fun e w' => e = .returned (.bool b) ∧ Below w.heap.size w w' := by
  have HJ := Aside0.mk h
  clear h
  go_enter Tryz.func46, Tryz.ntmps46
  go_wp2_with fail
  refine (js_get key _ b HJ.out hk rfl hb).mono ?_
  rintro e w1 ⟨rfl, hb1⟩
  have HB := Aside0.mk hb1
  clear hb1 hb
  go_wp2
  go_ret
  exact ⟨rfl, HB.out⟩
set_option maxHeartbeats 4000000 in
set_option maxRecDepth 100000 in
theorem ru_flag {base g : Nat} {ok : Nat → Prop} {w0 : World} {cur : List S73} (key : ByteArray) (yes : Bool) {w : World} (h : JS base ok w0 g cur w) (hk : KV 1000000 cur) :
    Calls Tryz.prog 61 #[.pointer (some ⟨g, 0, none⟩), .string key, .bool yes] w fun e w' => e = .returned (.tuple #[]) ∧ JS base ok w0 g (flagK cur key yes) w' ∧ JK w w' := by
  have HJ := Aside0.mk h
  clear h
  cases yes with
  | true =>
    go_enter Tryz.func61, Tryz.ntmps61
    go_wp2_with fail
    refine (js_set key (⟨#[1]⟩ : ByteArray) HJ.out hk).mono ?_
    rintro e w1 ⟨rfl, hj, hk1⟩
    have HJ1 := Aside0.mk hj
    have HK1 := Aside0.mk hk1
    clear hj hk1
    go_wp2
    first | go_end0 | refine bodyPost_ret (results_none rfl _ _ _) rfl ?_
    exact ⟨rfl, HJ1.out, HK1.out⟩
  | false =>
    go_enter Tryz.func61, Tryz.ntmps61
    go_wp2_with fail
    refine (js_del key HJ.out hk).mono ?_
    rintro e w1 ⟨rfl, hj, hk1⟩
    have HJ1 := Aside0.mk hj
    have HK1 := Aside0.mk hk1
    clear hj hk1
    go_wp2
    first | go_end0 | refine bodyPost_ret (results_none rfl _ _ _) rfl ?_
    exact ⟨rfl, HJ1.out, HK1.out⟩
set_option maxHeartbeats 4000000 in
set_option maxRecDepth 100000 in
theorem ru_admin {base g : Nat} {ok : Nat → Prop} {w0 : World} {cur : List S73} (v : ByteArray) {w : World} (h : JS base ok w0 g cur w) (hk : KV 1000000 cur) (hv : (getK cur (⟨#[97, 100, 109, 105, 110]⟩ : ByteArray)).1 = v) :
    Calls Tryz.prog 16 #[.pointer (some ⟨g, 0, none⟩)] w fun e w' => e = .returned (.string v) ∧ Below w.heap.size w w' := by
  have HJ := Aside0.mk h
  clear h
  go_enter Tryz.func16, Tryz.ntmps16
  go_wp2_with fail
  refine (js_get (⟨#[97, 100, 109, 105, 110]⟩ : ByteArray) v _ HJ.out hk hv rfl).mono ?_
  rintro e w1 ⟨rfl, hb1⟩
  have HB := Aside0.mk hb1
  clear hb1 hv
  go_wp2
  go_ret
  exact ⟨rfl, HB.out⟩
theorem run_admin (w : World) :
    Calls Tryz.prog 16 #[.pointer none] w fun e w' => e = .returned (.string (⟨#[]⟩ : ByteArray)) ∧ w' = w := by
  go_enter Tryz.func16, Tryz.ntmps16
  go_wp2_with fail
  refine (jn_get (⟨#[97, 100, 109, 105, 110]⟩ : ByteArray) w).mono ?_
  rintro e w1 ⟨rfl, hw⟩
  subst hw
  go_wp2
  go_ret
  exact ⟨rfl, rfl⟩
set_option maxHeartbeats 4000000 in
set_option maxRecDepth 100000 in
theorem ru_setadmin {base g : Nat} {ok : Nat → Prop} {w0 : World} {cur : List S73} (who : ByteArray) (x : Int) (cur' : List S73) {w : World} (h : JS base ok w0 g cur w) (hk : KV 1000000 cur) (hw : who.size ≤ 140737488351232) (hx : ruAdminE who = x) (hcur : ruAdmin cur who = cur') :
    Calls Tryz.prog 35 #[.pointer (some ⟨g, 0, none⟩), .string who] w fun e w' => e = .returned (.int .i64 x) ∧ JS base ok w0 g cur' w' ∧ JK w w' := by
  obtain ⟨K0, c0⟩ := nm_check_ev 6 who hw
  unfold ruAdminE at hx
  unfold ruAdmin at hcur
  generalize nm_checkSpec 6 who = n0 at c0 hx hcur
  replace c0 : names_Check.f K0 6 who = some n0 := c0 K0 (Nat.le_refl _)
  have HJ := Aside0.mk h
  clear h
  go_enter Tryz.func35, Tryz.ntmps35
  go_wp2_with fail
  refine (names_Check.calls K0 6 who n0 _ c0).mono ?_
  rintro e w1 ⟨rfl, hb⟩
  have HJ1 := Aside0.mk (HJ.out.below hb)
  have HK1 := Aside0.mk (JK.of_below hb)
  clear HJ hb
  by_cases z0 : n0 = 0
  · subst z0
    rw [if_pos rfl] at hx hcur
    subst hx hcur
    go_wp2_with fail
    refine (js_set (⟨#[97, 100, 109, 105, 110]⟩ : ByteArray) who HJ1.out hk).mono ?_
    rintro e w2 ⟨rfl, hj, hk2⟩
    have HJ2 := Aside0.mk hj
    have HK2 := Aside0.mk (HK1.out.trans hk2)
    clear hj hk2
    go_wp2
    go_ret
    exact ⟨rfl, HJ2.out, HK2.out⟩
  · rw [if_neg z0] at hx hcur
    subst hx hcur
    go_wp2
    go_ret
    exact ⟨rfl, HJ1.out, HK1.out⟩
theorem run_setadmin (who : ByteArray) (w : World) :
    Calls Tryz.prog 35 #[.pointer none, .string who] w fun e w' => e = .returned (.int .i64 2) ∧ w' = w := by
  go_enter Tryz.func35, Tryz.ntmps35
  go_wp2
  go_ret
  exact ⟨rfl, rfl⟩

end Go.Proofs.YtonipkgekhdogaaGreatDoor.PRup
