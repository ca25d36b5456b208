-- written by wip/myprint.py over the kit's print; not a printed text of print.sh
import Derived.Test.YtonipkgekhdogaaGreatDoorPRupx0
import Derived.Test.YtonipkgekhdogaaGreatDoorPRupx7
import Derived.Test.YtonipkgekhdogaaGreatDoorPRupx10
import Derived.Test.YtonipkgekhdogaaGreatDoorPRupx12
import Derived.Test.YtonipkgekhdogaaGreatDoorPRupx13
import Derived.Test.YtonipkgekhdogaaGreatDoorPRupx21
import Derived.Test.YtonipkgekhdogaaGreatDoorPRupx32
import Derived.Test.YtonipkgekhdogaaGreatDoorPRupx33
import Derived.Test.YtonipkgekhdogaaGreatDoorPRupx34
import Derived.Test.YtonipkgekhdogaaGreatDoorPRupx37
namespace Go.Proofs.YtonipkgekhdogaaGreatDoor.PRup
open Go.RowKit Go.Proofs.YtonipkgekhdogaaGreatDoorW.PrintWords Go.Proofs.YtonipkgekhdogaaGreatDoorW.PrintLast Go.Proofs.YtonipkgekhdogaaGreatDoorW.PrintMore
attribute [local go_sem] max2_int min2_int max_two min_two max_three min_three max_four min_four   -- for this text's walks alone
set_option linter.unusedVariables false
set_option linter.unusedSimpArgs false

/-! ### footbridgelaw34_do: function 13 -/
-- @break
set_option maxHeartbeats 4000000 in
set_option maxRecDepth 100000 in
theorem rudo_calls (n0 g : Nat) (ok : Nat → Prop) (cur cur' : List S73) (A : Option Addr) (c : Nat) (k : Int) (p ch base0 : ByteArray) (yes : Bool) (n E : Int) {w : World} (hm : JM n0 ok g ⟨cur, []⟩ w) (hlt : ∀ k, ok k → k < w.heap.size) (hn0 : n0 ≤ w.heap.size) (hv : Kd.V k73 73 w 0 (fun k => ¬ ok k) (.slice A cur.length c) cur) (hk : KV 900 cur) (hp0 : p.size ≤ 300) (hch0 : ch.size ≤ 300) (hb0 : base0.size ≤ 300) (hE : ruDoE k p ch base0 n = E) (hcur : ruDo cur k p ch base0 yes n = cur') :
    Calls Tryz.prog 13 #[.pointer (some ⟨g, 0, none⟩), .slice A cur.length c, .agg #[.int .i64 k, .string p, .string ch, .string base0, .bool yes, .int .i64 n]] w fun e w' => ∃ v w1, e = .returned (.tuple #[v, .int .i64 E, .int .i64 E]) ∧ Below w.heap.size w w1 ∧ JS n0 ok w1 g cur' w' ∧ Kd.V k73 73 w1 0 (fun k => ¬ ok k) v cur' := by
  have hk9 := hk.mono (show 900 ≤ 1000 by omega)
  have hk6 := hk.mono (show 900 ≤ 1000000 by omega)
  have hp : p.size ≤ 50000 := by omega
  have hch : ch.size ≤ 50000 := by omega
  have hbs : base0.size ≤ 50000 := by omega
  have HM := Aside0.mk hm
  have HV0 := Aside0.mk hv
  have HB := Aside0.mk (Below.refl w.heap.size w)
  unfold ruDoE at hE
  unfold ruDo at hcur
  clear hm hv hk
  go_enter Tryz.func13, Tryz.ntmps13
  by_cases c0 : k = 0
  · rw [if_pos c0] at hE hcur
    obtain ⟨K0, hK0⟩ := ref34Listed_ev cur p ch yes hk9 hp0 hch0
    rw [hE, hcur] at hK0
    have HR := Aside0.mk (hK0 K0 (Nat.le_refl _))
    clear hK0
    go_wp2_with (first | ((with_reducible refine gate_dst (N := 5) rfl ?_); refine box_event ?hg (N := 5) ?hd (cs := #[.int .i64 k, .string p, .string ch, .string base0, .bool yes, .int .i64 n]) (t := 41) ?hr ?_; (case hd => rfl); (case hg => rfl); (case hr => first | (go_simp; done) | (go_simp; rfl)); intro gbd hg wd hbox hb; have GEd := Aside0.mk ((by rw [hg]; exact (below_size (by repeat (first | (with_reducible first | exact HB.out | apply below_alloc | apply pw_below_drewN | apply below_drew1) | exact HB.out))) : w.heap.size ≤ gbd)); have n_HB := Aside0.mk (below_step (by repeat (first | (with_reducible first | exact HB.out | apply below_alloc | apply pw_below_drewN | apply below_drew1) | exact HB.out)) hb); clear HB; have HB := n_HB; clear n_HB; have BKd := Aside0.mk hbox; clear hb hbox hg; have zd_0 : World.cell? _ ⟨gbd, 0, none⟩ = some (.int .i64 k) := (blk_cell BKd.out 0).trans rfl; have fd_0 := blk_frozen BKd.out 0; have zd_1 : World.cell? _ ⟨gbd, 1, none⟩ = some (.string p) := (blk_cell BKd.out 1).trans rfl; have fd_1 := blk_frozen BKd.out 1; have zd_2 : World.cell? _ ⟨gbd, 2, none⟩ = some (.string ch) := (blk_cell BKd.out 2).trans rfl; have fd_2 := blk_frozen BKd.out 2; have zd_3 : World.cell? _ ⟨gbd, 3, none⟩ = some (.string base0) := (blk_cell BKd.out 3).trans rfl; have fd_3 := blk_frozen BKd.out 3; have zd_4 : World.cell? _ ⟨gbd, 4, none⟩ = some (.bool yes) := (blk_cell BKd.out 4).trans rfl; have fd_4 := blk_frozen BKd.out 4; have zd_5 : World.cell? _ ⟨gbd, 5, none⟩ = some (.int .i64 n) := (blk_cell BKd.out 5).trans rfl; have fd_5 := blk_frozen BKd.out 5; have hwd := HB.out.size))
    refine (footbridgeref34_Listed.calls K0 (fun k => ¬ ok k) A c cur p ch yes _ _ _ (Kd.V_below HV0.out (by repeat (first | (with_reducible first | exact HB.out | apply below_alloc | apply pw_below_drewN | apply below_drew1 | refine below_set ?_ GEd.out) | exact HB.out))) HR.out).mono ?_
    rintro e w1 ⟨v3, rfl, hv3, hb⟩
    have n_HB := Aside0.mk (below_step (by repeat (first | (with_reducible first | exact HB.out | apply below_alloc | apply pw_below_drewN | apply below_drew1 | refine below_set ?_ GEd.out) | exact HB.out)) hb)
    have n_BKd := Aside0.mk (blk_below (g := gbd) (o := .cells #[.int .i64 k, .string p, .string ch, .string base0, .bool yes, .int .i64 n] 41 (0, 0)) (by first | exact BKd.out | ((with_reducible repeat (first | refine blk_drewN ?_ _ | refine blk_drew ?_ | refine blk_alloc ?_ _)); exact BKd.out)) hb)
    clear HB BKd
    have HB := n_HB
    have BKd := n_BKd
    clear n_HB n_BKd
    clear hb
    have zd_0 : World.cell? _ ⟨gbd, 0, none⟩ = some (.int .i64 k) := (blk_cell BKd.out 0).trans rfl
    have fd_0 := blk_frozen BKd.out 0
    have zd_1 : World.cell? _ ⟨gbd, 1, none⟩ = some (.string p) := (blk_cell BKd.out 1).trans rfl
    have fd_1 := blk_frozen BKd.out 1
    have zd_2 : World.cell? _ ⟨gbd, 2, none⟩ = some (.string ch) := (blk_cell BKd.out 2).trans rfl
    have fd_2 := blk_frozen BKd.out 2
    have zd_3 : World.cell? _ ⟨gbd, 3, none⟩ = some (.string base0) := (blk_cell BKd.out 3).trans rfl
    have fd_3 := blk_frozen BKd.out 3
    have zd_4 : World.cell? _ ⟨gbd, 4, none⟩ = some (.bool yes) := (blk_cell BKd.out 4).trans rfl
    have fd_4 := blk_frozen BKd.out 4
    have zd_5 : World.cell? _ ⟨gbd, 5, none⟩ = some (.int .i64 n) := (blk_cell BKd.out 5).trans rfl
    have fd_5 := blk_frozen BKd.out 5
    have HV1 := Aside0.mk (show Kd.V k73 73 w1 0 (fun k => ¬ ok k) v3 cur' from Kd.V_lower (Kd.V_mono hv3 (fun k hk => hk.elim id (fun h1 h2 => by have := hlt k h2; omega))) (Nat.zero_le _))
    have HB1 := Aside0.mk HB.out
    have HJ := Aside0.mk (JS.start (HM.out.below HB.out) (Nat.le_trans hn0 HB.out.size))
    clear hv3 HM HV0
    go_wp2_with fail
    refine (ru_listed p ch yes E cur' HJ.out hk6 hp hch hE hcur).mono ?_
    rintro e w2 ⟨rfl, hj, hk2⟩
    have HJ2 := Aside0.mk hj
    clear hj hk2 HJ
    go_wp2
    go_ret3
    exact ⟨_, w1, rfl, HB1.out, HJ2.out, HV1.out⟩
  · rw [if_neg c0] at hE hcur
    by_cases c1 : k = 1
    · rw [if_pos c1] at hE hcur
      obtain ⟨K0, hK0⟩ := ref34Allow_ev cur p ch base0 yes hk9 hp0 hch0 hb0
      rw [hE, hcur] at hK0
      have HR := Aside0.mk (hK0 K0 (Nat.le_refl _))
      clear hK0
      go_wp2_with (first | ((with_reducible refine gate_dst (N := 5) rfl ?_); refine box_event ?hg (N := 5) ?hd (cs := #[.int .i64 k, .string p, .string ch, .string base0, .bool yes, .int .i64 n]) (t := 41) ?hr ?_; (case hd => rfl); (case hg => rfl); (case hr => first | (go_simp; done) | (go_simp; rfl)); intro gbd hg wd hbox hb; have GEd := Aside0.mk ((by rw [hg]; exact (below_size (by repeat (first | (with_reducible first | exact HB.out | apply below_alloc | apply pw_below_drewN | apply below_drew1) | exact HB.out))) : w.heap.size ≤ gbd)); have n_HB := Aside0.mk (below_step (by repeat (first | (with_reducible first | exact HB.out | apply below_alloc | apply pw_below_drewN | apply below_drew1) | exact HB.out)) hb); clear HB; have HB := n_HB; clear n_HB; have BKd := Aside0.mk hbox; clear hb hbox hg; have zd_0 : World.cell? _ ⟨gbd, 0, none⟩ = some (.int .i64 k) := (blk_cell BKd.out 0).trans rfl; have fd_0 := blk_frozen BKd.out 0; have zd_1 : World.cell? _ ⟨gbd, 1, none⟩ = some (.string p) := (blk_cell BKd.out 1).trans rfl; have fd_1 := blk_frozen BKd.out 1; have zd_2 : World.cell? _ ⟨gbd, 2, none⟩ = some (.string ch) := (blk_cell BKd.out 2).trans rfl; have fd_2 := blk_frozen BKd.out 2; have zd_3 : World.cell? _ ⟨gbd, 3, none⟩ = some (.string base0) := (blk_cell BKd.out 3).trans rfl; have fd_3 := blk_frozen BKd.out 3; have zd_4 : World.cell? _ ⟨gbd, 4, none⟩ = some (.bool yes) := (blk_cell BKd.out 4).trans rfl; have fd_4 := blk_frozen BKd.out 4; have zd_5 : World.cell? _ ⟨gbd, 5, none⟩ = some (.int .i64 n) := (blk_cell BKd.out 5).trans rfl; have fd_5 := blk_frozen BKd.out 5; have hwd := HB.out.size))
      refine (footbridgeref34_Allow.calls K0 (fun k => ¬ ok k) A c cur p ch base0 yes _ _ _ (Kd.V_below HV0.out (by repeat (first | (with_reducible first | exact HB.out | apply below_alloc | apply pw_below_drewN | apply below_drew1 | refine below_set ?_ GEd.out) | exact HB.out))) HR.out).mono ?_
      rintro e w1 ⟨v3, rfl, hv3, hb⟩
      have n_HB := Aside0.mk (below_step (by repeat (first | (with_reducible first | exact HB.out | apply below_alloc | apply pw_below_drewN | apply below_drew1 | refine below_set ?_ GEd.out) | exact HB.out)) hb)
      have n_BKd := Aside0.mk (blk_below (g := gbd) (o := .cells #[.int .i64 k, .string p, .string ch, .string base0, .bool yes, .int .i64 n] 41 (0, 0)) (by first | exact BKd.out | ((with_reducible repeat (first | refine blk_drewN ?_ _ | refine blk_drew ?_ | refine blk_alloc ?_ _)); exact BKd.out)) hb)
      clear HB BKd
      have HB := n_HB
      have BKd := n_BKd
      clear n_HB n_BKd
      clear hb
      have zd_0 : World.cell? _ ⟨gbd, 0, none⟩ = some (.int .i64 k) := (blk_cell BKd.out 0).trans rfl
      have fd_0 := blk_frozen BKd.out 0
      have zd_1 : World.cell? _ ⟨gbd, 1, none⟩ = some (.string p) := (blk_cell BKd.out 1).trans rfl
      have fd_1 := blk_frozen BKd.out 1
      have zd_2 : World.cell? _ ⟨gbd, 2, none⟩ = some (.string ch) := (blk_cell BKd.out 2).trans rfl
      have fd_2 := blk_frozen BKd.out 2
      have zd_3 : World.cell? _ ⟨gbd, 3, none⟩ = some (.string base0) := (blk_cell BKd.out 3).trans rfl
      have fd_3 := blk_frozen BKd.out 3
      have zd_4 : World.cell? _ ⟨gbd, 4, none⟩ = some (.bool yes) := (blk_cell BKd.out 4).trans rfl
      have fd_4 := blk_frozen BKd.out 4
      have zd_5 : World.cell? _ ⟨gbd, 5, none⟩ = some (.int .i64 n) := (blk_cell BKd.out 5).trans rfl
      have fd_5 := blk_frozen BKd.out 5
      have HV1 := Aside0.mk (show Kd.V k73 73 w1 0 (fun k => ¬ ok k) v3 cur' from Kd.V_lower (Kd.V_mono hv3 (fun k hk => hk.elim id (fun h1 h2 => by have := hlt k h2; omega))) (Nat.zero_le _))
      have HB1 := Aside0.mk HB.out
      have HJ := Aside0.mk (JS.start (HM.out.below HB.out) (Nat.le_trans hn0 HB.out.size))
      clear hv3 HM HV0
      go_wp2_with fail
      refine (ru_allow p ch base0 yes E cur' HJ.out hk6 hp hch hbs hE hcur).mono ?_
      rintro e w2 ⟨rfl, hj, hk2⟩
      have HJ2 := Aside0.mk hj
      clear hj hk2 HJ
      go_wp2
      go_ret3
      exact ⟨_, w1, rfl, HB1.out, HJ2.out, HV1.out⟩
    · rw [if_neg c1] at hE hcur
      by_cases c2 : k = 2
      · rw [if_pos c2] at hE hcur
        obtain ⟨K0, hK0⟩ := ref34Limit_ev cur p ch n hk9 hp0 hch0
        rw [hE, hcur] at hK0
        have HR := Aside0.mk (hK0 K0 (Nat.le_refl _))
        clear hK0
        go_wp2_with (first | ((with_reducible refine gate_dst (N := 5) rfl ?_); refine box_event ?hg (N := 5) ?hd (cs := #[.int .i64 k, .string p, .string ch, .string base0, .bool yes, .int .i64 n]) (t := 41) ?hr ?_; (case hd => rfl); (case hg => rfl); (case hr => first | (go_simp; done) | (go_simp; rfl)); intro gbd hg wd hbox hb; have GEd := Aside0.mk ((by rw [hg]; exact (below_size (by repeat (first | (with_reducible first | exact HB.out | apply below_alloc | apply pw_below_drewN | apply below_drew1) | exact HB.out))) : w.heap.size ≤ gbd)); have n_HB := Aside0.mk (below_step (by repeat (first | (with_reducible first | exact HB.out | apply below_alloc | apply pw_below_drewN | apply below_drew1) | exact HB.out)) hb); clear HB; have HB := n_HB; clear n_HB; have BKd := Aside0.mk hbox; clear hb hbox hg; have zd_0 : World.cell? _ ⟨gbd, 0, none⟩ = some (.int .i64 k) := (blk_cell BKd.out 0).trans rfl; have fd_0 := blk_frozen BKd.out 0; have zd_1 : World.cell? _ ⟨gbd, 1, none⟩ = some (.string p) := (blk_cell BKd.out 1).trans rfl; have fd_1 := blk_frozen BKd.out 1; have zd_2 : World.cell? _ ⟨gbd, 2, none⟩ = some (.string ch) := (blk_cell BKd.out 2).trans rfl; have fd_2 := blk_frozen BKd.out 2; have zd_3 : World.cell? _ ⟨gbd, 3, none⟩ = some (.string base0) := (blk_cell BKd.out 3).trans rfl; have fd_3 := blk_frozen BKd.out 3; have zd_4 : World.cell? _ ⟨gbd, 4, none⟩ = some (.bool yes) := (blk_cell BKd.out 4).trans rfl; have fd_4 := blk_frozen BKd.out 4; have zd_5 : World.cell? _ ⟨gbd, 5, none⟩ = some (.int .i64 n) := (blk_cell BKd.out 5).trans rfl; have fd_5 := blk_frozen BKd.out 5; have hwd := HB.out.size))
        refine (footbridgeref34_Limit.calls K0 (fun k => ¬ ok k) A c cur p ch n _ _ _ (Kd.V_below HV0.out (by repeat (first | (with_reducible first | exact HB.out | apply below_alloc | apply pw_below_drewN | apply below_drew1 | refine below_set ?_ GEd.out) | exact HB.out))) HR.out).mono ?_
        rintro e w1 ⟨v3, rfl, hv3, hb⟩
        have n_HB := Aside0.mk (below_step (by repeat (first | (with_reducible first | exact HB.out | apply below_alloc | apply pw_below_drewN | apply below_drew1 | refine below_set ?_ GEd.out) | exact HB.out)) hb)
        have n_BKd := Aside0.mk (blk_below (g := gbd) (o := .cells #[.int .i64 k, .string p, .string ch, .string base0, .bool yes, .int .i64 n] 41 (0, 0)) (by first | exact BKd.out | ((with_reducible repeat (first | refine blk_drewN ?_ _ | refine blk_drew ?_ | refine blk_alloc ?_ _)); exact BKd.out)) hb)
        clear HB BKd
        have HB := n_HB
        have BKd := n_BKd
        clear n_HB n_BKd
        clear hb
        have zd_0 : World.cell? _ ⟨gbd, 0, none⟩ = some (.int .i64 k) := (blk_cell BKd.out 0).trans rfl
        have fd_0 := blk_frozen BKd.out 0
        have zd_1 : World.cell? _ ⟨gbd, 1, none⟩ = some (.string p) := (blk_cell BKd.out 1).trans rfl
        have fd_1 := blk_frozen BKd.out 1
        have zd_2 : World.cell? _ ⟨gbd, 2, none⟩ = some (.string ch) := (blk_cell BKd.out 2).trans rfl
        have fd_2 := blk_frozen BKd.out 2
        have zd_3 : World.cell? _ ⟨gbd, 3, none⟩ = some (.string base0) := (blk_cell BKd.out 3).trans rfl
        have fd_3 := blk_frozen BKd.out 3
        have zd_4 : World.cell? _ ⟨gbd, 4, none⟩ = some (.bool yes) := (blk_cell BKd.out 4).trans rfl
        have fd_4 := blk_frozen BKd.out 4
        have zd_5 : World.cell? _ ⟨gbd, 5, none⟩ = some (.int .i64 n) := (blk_cell BKd.out 5).trans rfl
        have fd_5 := blk_frozen BKd.out 5
        have HV1 := Aside0.mk (show Kd.V k73 73 w1 0 (fun k => ¬ ok k) v3 cur' from Kd.V_lower (Kd.V_mono hv3 (fun k hk => hk.elim id (fun h1 h2 => by have := hlt k h2; omega))) (Nat.zero_le _))
        have HB1 := Aside0.mk HB.out
        have HJ := Aside0.mk (JS.start (HM.out.below HB.out) (Nat.le_trans hn0 HB.out.size))
        clear hv3 HM HV0
        go_wp2_with fail
        refine (ru_limit p ch n E cur' HJ.out hk6 hp hch hE hcur).mono ?_
        rintro e w2 ⟨rfl, hj, hk2⟩
        have HJ2 := Aside0.mk hj
        clear hj hk2 HJ
        go_wp2
        go_ret3
        exact ⟨_, w1, rfl, HB1.out, HJ2.out, HV1.out⟩
      · rw [if_neg c2] at hE hcur
        obtain ⟨K0, hK0⟩ := ref34SetAdmin_ev cur base0 hk9 hb0
        rw [hE, hcur] at hK0
        have HR := Aside0.mk (hK0 K0 (Nat.le_refl _))
        clear hK0
        go_wp2_with (first | ((with_reducible refine gate_dst (N := 5) rfl ?_); refine box_event ?hg (N := 5) ?hd (cs := #[.int .i64 k, .string p, .string ch, .string base0, .bool yes, .int .i64 n]) (t := 41) ?hr ?_; (case hd => rfl); (case hg => rfl); (case hr => first | (go_simp; done) | (go_simp; rfl)); intro gbd hg wd hbox hb; have GEd := Aside0.mk ((by rw [hg]; exact (below_size (by repeat (first | (with_reducible first | exact HB.out | apply below_alloc | apply pw_below_drewN | apply below_drew1) | exact HB.out))) : w.heap.size ≤ gbd)); have n_HB := Aside0.mk (below_step (by repeat (first | (with_reducible first | exact HB.out | apply below_alloc | apply pw_below_drewN | apply below_drew1) | exact HB.out)) hb); clear HB; have HB := n_HB; clear n_HB; have BKd := Aside0.mk hbox; clear hb hbox hg; have zd_0 : World.cell? _ ⟨gbd, 0, none⟩ = some (.int .i64 k) := (blk_cell BKd.out 0).trans rfl; have fd_0 := blk_frozen BKd.out 0; have zd_1 : World.cell? _ ⟨gbd, 1, none⟩ = some (.string p) := (blk_cell BKd.out 1).trans rfl; have fd_1 := blk_frozen BKd.out 1; have zd_2 : World.cell? _ ⟨gbd, 2, none⟩ = some (.string ch) := (blk_cell BKd.out 2).trans rfl; have fd_2 := blk_frozen BKd.out 2; have zd_3 : World.cell? _ ⟨gbd, 3, none⟩ = some (.string base0) := (blk_cell BKd.out 3).trans rfl; have fd_3 := blk_frozen BKd.out 3; have zd_4 : World.cell? _ ⟨gbd, 4, none⟩ = some (.bool yes) := (blk_cell BKd.out 4).trans rfl; have fd_4 := blk_frozen BKd.out 4; have zd_5 : World.cell? _ ⟨gbd, 5, none⟩ = some (.int .i64 n) := (blk_cell BKd.out 5).trans rfl; have fd_5 := blk_frozen BKd.out 5; have hwd := HB.out.size))
        refine (footbridgeref34_SetAdmin.calls K0 (fun k => ¬ ok k) A c cur base0 _ _ _ (Kd.V_below HV0.out (by repeat (first | (with_reducible first | exact HB.out | apply below_alloc | apply pw_below_drewN | apply below_drew1 | refine below_set ?_ GEd.out) | exact HB.out))) HR.out).mono ?_
        rintro e w1 ⟨v3, rfl, hv3, hb⟩
        have n_HB := Aside0.mk (below_step (by repeat (first | (with_reducible first | exact HB.out | apply below_alloc | apply pw_below_drewN | apply below_drew1 | refine below_set ?_ GEd.out) | exact HB.out)) hb)
        have n_BKd := Aside0.mk (blk_below (g := gbd) (o := .cells #[.int .i64 k, .string p, .string ch, .string base0, .bool yes, .int .i64 n] 41 (0, 0)) (by first | exact BKd.out | ((with_reducible repeat (first | refine blk_drewN ?_ _ | refine blk_drew ?_ | refine blk_alloc ?_ _)); exact BKd.out)) hb)
        clear HB BKd
        have HB := n_HB
        have BKd := n_BKd
        clear n_HB n_BKd
        clear hb
        have zd_0 : World.cell? _ ⟨gbd, 0, none⟩ = some (.int .i64 k) := (blk_cell BKd.out 0).trans rfl
        have fd_0 := blk_frozen BKd.out 0
        have zd_1 : World.cell? _ ⟨gbd, 1, none⟩ = some (.string p) := (blk_cell BKd.out 1).trans rfl
        have fd_1 := blk_frozen BKd.out 1
        have zd_2 : World.cell? _ ⟨gbd, 2, none⟩ = some (.string ch) := (blk_cell BKd.out 2).trans rfl
        have fd_2 := blk_frozen BKd.out 2
        have zd_3 : World.cell? _ ⟨gbd, 3, none⟩ = some (.string base0) := (blk_cell BKd.out 3).trans rfl
        have fd_3 := blk_frozen BKd.out 3
        have zd_4 : World.cell? _ ⟨gbd, 4, none⟩ = some (.bool yes) := (blk_cell BKd.out 4).trans rfl
        have fd_4 := blk_frozen BKd.out 4
        have zd_5 : World.cell? _ ⟨gbd, 5, none⟩ = some (.int .i64 n) := (blk_cell BKd.out 5).trans rfl
        have fd_5 := blk_frozen BKd.out 5
        have HV1 := Aside0.mk (show Kd.V k73 73 w1 0 (fun k => ¬ ok k) v3 cur' from Kd.V_lower (Kd.V_mono hv3 (fun k hk => hk.elim id (fun h1 h2 => by have := hlt k h2; omega))) (Nat.zero_le _))
        have HB1 := Aside0.mk HB.out
        have HJ := Aside0.mk (JS.start (HM.out.below HB.out) (Nat.le_trans hn0 HB.out.size))
        clear hv3 HM HV0
        go_wp2_with fail
        refine (ru_setadmin base0 E cur' HJ.out hk6 (by omega) hE hcur).mono ?_
        rintro e w2 ⟨rfl, hj, hk2⟩
        have HJ2 := Aside0.mk hj
        clear hj hk2 HJ
        go_wp2
        go_ret3
        exact ⟨_, w1, rfl, HB1.out, HJ2.out, HV1.out⟩

end Go.Proofs.YtonipkgekhdogaaGreatDoor.PRup
