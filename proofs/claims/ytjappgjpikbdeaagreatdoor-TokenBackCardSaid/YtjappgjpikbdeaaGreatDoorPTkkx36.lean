-- written by wip/myprint.py over the kit's print; not a printed text of print.sh
import Derived.Test.YtjappgjpikbdeaaGreatDoorPTkkx0
import Derived.Test.YtjappgjpikbdeaaGreatDoorPTkkx3
import Derived.Test.YtjappgjpikbdeaaGreatDoorPTkkx5
import Derived.Test.YtjappgjpikbdeaaGreatDoorPTkkx9
import Derived.Test.YtjappgjpikbdeaaGreatDoorPTkkx11
import Derived.Test.YtjappgjpikbdeaaGreatDoorPTkkx15
import Derived.Test.YtjappgjpikbdeaaGreatDoorPTkkx22
import Derived.Test.YtjappgjpikbdeaaGreatDoorPTkkx23
import Derived.Test.YtjappgjpikbdeaaGreatDoorPTkkx25
import Derived.Test.YtjappgjpikbdeaaGreatDoorPTkkx32
import Derived.Test.YtjappgjpikbdeaaGreatDoorPTkkx33
import Derived.Test.YtjappgjpikbdeaaGreatDoorPTkkx34
import Derived.Test.YtjappgjpikbdeaaGreatDoorPTkkx35
namespace Go.Proofs.YtjappgjpikbdeaaGreatDoor.PTkk
open Go.RowKit Go.Proofs.YtjappgjpikbdeaaGreatDoorW.PrintWords Go.Proofs.YtjappgjpikbdeaaGreatDoorW.PrintLast Go.Proofs.YtjappgjpikbdeaaGreatDoorW.PrintMore
attribute [local go_sem] max2_int min2_int max_two min_two max_three min_three max_four min_four   -- for this text's walks alone
set_option linter.unusedVariables false
set_option linter.unusedSimpArgs false

/-! ### footbridgelaw23_TokenBack: function 5 -/
-- @break
theorem few23_all (k : Int) (c i u d o p : ByteArray) : ∃ r, footbridgelaw23_few.f k c i u d o p = some r ∧ (r = true → c.size ≤ 300 ∧ i.size ≤ 300 ∧ o.size ≤ 1000 ∧ p.size ≤ 1000 ∧ u.size ≤ 40000 ∧ d.size ≤ 40000) := by
  unfold footbridgelaw23_few.f
  by_cases h1 : (c.size : Int) ≤ 300
  · rw [if_pos h1]
    by_cases h2 : (i.size : Int) ≤ 300
    · rw [if_pos h2]
      by_cases h3 : (o.size : Int) ≤ 1000
      · rw [if_pos h3]
        by_cases h4 : (p.size : Int) ≤ 1000
        · rw [if_pos h4]
          by_cases h5 : (u.size : Int) ≤ 40000
          · rw [if_pos h5]
            exact ⟨_, rfl, fun e => ⟨by omega, by omega, by omega, by omega, by omega, by have := of_decide_eq_true e; omega⟩⟩
          · rw [if_neg h5]; exact ⟨_, rfl, fun e => Bool.noConfusion e⟩
        · rw [if_neg h4]; exact ⟨_, rfl, fun e => Bool.noConfusion e⟩
      · rw [if_neg h3]; exact ⟨_, rfl, fun e => Bool.noConfusion e⟩
    · rw [if_neg h2]; exact ⟨_, rfl, fun e => Bool.noConfusion e⟩
  · rw [if_neg h1]; exact ⟨_, rfl, fun e => Bool.noConfusion e⟩
theorem tkNamedR_is (o : ByteArray) : footbridgeref23_Named.f o = some (decide (¬ (o.size = 0 ∨ o.size > 512))) := by
  unfold footbridgeref23_Named.f
  by_cases h : (o.size : Int) ≥ 1
  · rw [if_pos h, show decide (¬ (o.size = 0 ∨ o.size > 512)) = decide ((o.size : Int) ≤ 512) from decide_eq_decide.2 (by omega)]
  · rw [if_neg h, decide_eq_false (by omega)]
theorem tk_move_bad {S1 : List S82} {c i u d o p : ByteArray} (hg : tkGet S1 c i = (c, i, u, d, o, 0)) (hp : p.size = 0 ∨ p.size > 512) : tkMoveE S1 c i p = 7 ∧ tkMove S1 c i p = S1 := by
  have hE : tkMoveE S1 c i p = 7 := by
    unfold tkMoveE
    rw [hg]
    show (if (0 : Int) ≠ 0 then _ else _) = _
    rw [if_neg (by decide), if_pos hp]
  refine ⟨hE, ?_⟩
  unfold tkMove
  rw [hE, if_neg (by decide)]
/-- A journal begun anew where a list of it lies beside it. -/
theorem js_again {base g : Nat} {ok : Nat → Prop} {w0 w1 w2 : World} {cur l : List S82} {s v : Value} (h : JS base ok w0 g cur w1) (hs : Kd.V k82 82 w0 0 (fun k => ¬ ok k) s l) (hv : w2.ownsRow w1.heap.size 82 2 v cur.length (encP cur)) (hb : Below w1.heap.size w1 w2) :
    ∃ okA : Nat → Prop, (∀ k, okA k → base ≤ k) ∧ JM base okA g ⟨cur, []⟩ w2 ∧ Kd.V k82 82 w2 0 (fun k => ¬ okA k) s l ∧ Kd.V k82 82 w2 0 (fun k => ¬ okA k) v cur := by
  refine ⟨_, fun k hk => hk.2.1, h.m.bound.below hb, Kd.V_mono (Kd.V_below (V_js h hs) hb) (fun k hk hk2 => ?_), Kd.V_mono (Kd.R_V (rows_R (ok := fun k => w1.heap.size ≤ k) hv (fun k e => own_base hv k e))) (fun k hk hk2 => ?_)⟩
  · rcases hk2.1 with h1 | h1
    · exact hk.1 h1
    · have := hk.2; omega
  · have := hk2.2.2.1; omega
def footbridgelaw23_TokenBack.f (_a0_0 _a0_1 _a0_2 _a0_3 _a0_4 _a1 : ByteArray) : Option Bool := some true
set_option maxHeartbeats 8000000 in
set_option maxRecDepth 100000 in
theorem tkback_calls (c i u d o p : ByteArray) (w : World) :
    Calls Tryz.prog 5 #[.agg #[.string c, .string i, .string u, .string d, .string o], .string p] w fun e w' => e = .returned (.bool true) ∧ Below w.heap.size w w' := by
  obtain ⟨fw, hfw, hfs⟩ := few23_all 0 c i u d o p
  have hnm := tkNamedR_is c
  obtain ⟨nb, hnb⟩ : ∃ z, decide (¬ (c.size = 0 ∨ c.size > 512)) = z := ⟨_, rfl⟩
  rw [hnb] at hnm
  obtain ⟨y1, hy1⟩ : ∃ y : List ByteArray, y = [c] := ⟨_, rfl⟩
  have AF := Aside0.mk (And.intro hfs hnb)
  have Ny1 := Aside0.mk hy1
  have HB := Aside0.mk (Below.refl w.heap.size w)
  clear hfs hnb hy1
  go_enter Tryz.func5, Tryz.ntmps5
  go_wp2_with (first | ((with_reducible refine gate_dst (N := 2) rfl ?_); refine box_event ?hg (N := 2) ?hd (cs := #[.string c, .string i, .string u, .string d, .string o]) (t := 23) ?hr ?_; (case hd => rfl); (case hg => rfl); (case hr => first | (go_simp; done) | (go_simp; rfl)); intro gba hg wa hbox hb; have GEa := Aside0.mk ((by rw [hg]; exact (below_size (by repeat (first | (with_reducible first | exact HB.out | apply below_alloc | apply pw_below_drewN | apply below_drew1) | exact HB.out))) : w.heap.size ≤ gba)); have n_HB := Aside0.mk (below_step (by repeat (first | (with_reducible first | exact HB.out | apply below_alloc | apply pw_below_drewN | apply below_drew1) | exact HB.out)) hb); clear HB; have HB := n_HB; clear n_HB; have BKa := Aside0.mk hbox; clear hb hbox hg; have za_0 : World.cell? _ ⟨gba, 0, none⟩ = some (.string c) := (blk_cell BKa.out 0).trans rfl; have fa_0 := blk_frozen BKa.out 0; have za_1 : World.cell? _ ⟨gba, 1, none⟩ = some (.string i) := (blk_cell BKa.out 1).trans rfl; have fa_1 := blk_frozen BKa.out 1; have za_2 : World.cell? _ ⟨gba, 2, none⟩ = some (.string u) := (blk_cell BKa.out 2).trans rfl; have fa_2 := blk_frozen BKa.out 2; have za_3 : World.cell? _ ⟨gba, 3, none⟩ = some (.string d) := (blk_cell BKa.out 3).trans rfl; have fa_3 := blk_frozen BKa.out 3; have za_4 : World.cell? _ ⟨gba, 4, none⟩ = some (.string o) := (blk_cell BKa.out 4).trans rfl; have fa_4 := blk_frozen BKa.out 4; have za_0 : World.cell? _ ⟨gba, 0, none⟩ = some (.string c) := (blk_cell BKa.out 0).trans rfl; have fa_0 := blk_frozen BKa.out 0; have za_1 : World.cell? _ ⟨gba, 1, none⟩ = some (.string i) := (blk_cell BKa.out 1).trans rfl; have fa_1 := blk_frozen BKa.out 1; have za_2 : World.cell? _ ⟨gba, 2, none⟩ = some (.string u) := (blk_cell BKa.out 2).trans rfl; have fa_2 := blk_frozen BKa.out 2; have za_3 : World.cell? _ ⟨gba, 3, none⟩ = some (.string d) := (blk_cell BKa.out 3).trans rfl; have fa_3 := blk_frozen BKa.out 3; have za_4 : World.cell? _ ⟨gba, 4, none⟩ = some (.string o) := (blk_cell BKa.out 4).trans rfl; have fa_4 := blk_frozen BKa.out 4))
  refine (footbridgelaw23_few.calls 0 c i u d o p fw _ hfw).mono ?_
  rintro e w1 ⟨rfl, hb⟩
  have n_HB := Aside0.mk (below_step (by repeat (first | (with_reducible first | exact HB.out | apply below_alloc | apply pw_below_drewN | apply below_drew1 | refine below_set ?_ GEa.out) | exact HB.out)) hb)
  have n_BKa := Aside0.mk (blk_below (g := gba) (o := .cells #[.string c, .string i, .string u, .string d, .string o] 23 (0, 0)) (by first | exact BKa.out | ((with_reducible repeat (first | refine blk_drewN ?_ _ | refine blk_drew ?_ | refine blk_alloc ?_ _)); exact BKa.out)) hb)
  clear HB BKa
  have HB := n_HB
  have BKa := n_BKa
  clear n_HB n_BKa
  clear hb
  have za_0 : World.cell? _ ⟨gba, 0, none⟩ = some (.string c) := (blk_cell BKa.out 0).trans rfl
  have fa_0 := blk_frozen BKa.out 0
  have za_1 : World.cell? _ ⟨gba, 1, none⟩ = some (.string i) := (blk_cell BKa.out 1).trans rfl
  have fa_1 := blk_frozen BKa.out 1
  have za_2 : World.cell? _ ⟨gba, 2, none⟩ = some (.string u) := (blk_cell BKa.out 2).trans rfl
  have fa_2 := blk_frozen BKa.out 2
  have za_3 : World.cell? _ ⟨gba, 3, none⟩ = some (.string d) := (blk_cell BKa.out 3).trans rfl
  have fa_3 := blk_frozen BKa.out 3
  have za_4 : World.cell? _ ⟨gba, 4, none⟩ = some (.string o) := (blk_cell BKa.out 4).trans rfl
  have fa_4 := blk_frozen BKa.out 4
  clear hfw
  cases fw with
  | false =>
    go_wp2_with fail
    refine (tkaw_calls _).mono ?_
    rintro e w2 ⟨rfl, hb⟩
    have n_HB := Aside0.mk (below_step (by repeat (first | (with_reducible first | exact HB.out | apply below_alloc | apply pw_below_drewN | apply below_drew1 | refine below_set ?_ GEa.out) | exact HB.out)) hb)
    have n_BKa := Aside0.mk (blk_below (g := gba) (o := .cells #[.string c, .string i, .string u, .string d, .string o] 23 (0, 0)) (by first | exact BKa.out | ((with_reducible repeat (first | refine blk_drewN ?_ _ | refine blk_drew ?_ | refine blk_alloc ?_ _)); exact BKa.out)) hb)
    clear HB BKa
    have HB := n_HB
    have BKa := n_BKa
    clear n_HB n_BKa
    clear hb
    go_wp2
    go_ret
    exact ⟨rfl, HB.out⟩
  | true =>
    go_wp2_with fail
    refine (footbridgeref23_Named.calls c nb _ hnm).mono ?_
    rintro e w2 ⟨rfl, hdr⟩
    have hb := hdr.below
    clear hdr hnm
    have n_HB := Aside0.mk (below_step (by repeat (first | (with_reducible first | exact HB.out | apply below_alloc | apply pw_below_drewN | apply below_drew1 | refine below_set ?_ GEa.out) | exact HB.out)) hb)
    have n_BKa := Aside0.mk (blk_below (g := gba) (o := .cells #[.string c, .string i, .string u, .string d, .string o] 23 (0, 0)) (by first | exact BKa.out | ((with_reducible repeat (first | refine blk_drewN ?_ _ | refine blk_drew ?_ | refine blk_alloc ?_ _)); exact BKa.out)) hb)
    clear HB BKa
    have HB := n_HB
    have BKa := n_BKa
    clear n_HB n_BKa
    clear hb
    have za_0 : World.cell? _ ⟨gba, 0, none⟩ = some (.string c) := (blk_cell BKa.out 0).trans rfl
    have fa_0 := blk_frozen BKa.out 0
    have za_1 : World.cell? _ ⟨gba, 1, none⟩ = some (.string i) := (blk_cell BKa.out 1).trans rfl
    have fa_1 := blk_frozen BKa.out 1
    have za_2 : World.cell? _ ⟨gba, 2, none⟩ = some (.string u) := (blk_cell BKa.out 2).trans rfl
    have fa_2 := blk_frozen BKa.out 2
    have za_3 : World.cell? _ ⟨gba, 3, none⟩ = some (.string d) := (blk_cell BKa.out 3).trans rfl
    have fa_3 := blk_frozen BKa.out 3
    have za_4 : World.cell? _ ⟨gba, 4, none⟩ = some (.string o) := (blk_cell BKa.out 4).trans rfl
    have fa_4 := blk_frozen BKa.out 4
    cases nb with
    | false =>
      go_wp2_with fail
      refine (tkaw_calls _).mono ?_
      rintro e w3 ⟨rfl, hb⟩
      have n_HB := Aside0.mk (below_step (by repeat (first | (with_reducible first | exact HB.out | apply below_alloc | apply pw_below_drewN | apply below_drew1 | refine below_set ?_ GEa.out) | exact HB.out)) hb)
      have n_BKa := Aside0.mk (blk_below (g := gba) (o := .cells #[.string c, .string i, .string u, .string d, .string o] 23 (0, 0)) (by first | exact BKa.out | ((with_reducible repeat (first | refine blk_drewN ?_ _ | refine blk_drew ?_ | refine blk_alloc ?_ _)); exact BKa.out)) hb)
      clear HB BKa
      have HB := n_HB
      have BKa := n_BKa
      clear n_HB n_BKa
      clear hb
      go_wp2
      go_ret
      exact ⟨rfl, HB.out⟩
    | true =>
      obtain ⟨q1, q2, q3, q4, q5, q6⟩ := AF.out.1 (by first | rfl | trivial)
      have hcn := of_decide_eq_true AF.out.2
      clear AF
      obtain ⟨so, hg0⟩ := beg1 (c := c) (fun e => hcn (.inl e)) (by omega)
      have hy1 := Ny1.out
      have hyl : y1.length ≤ 6 := by rw [hy1]; show 1 ≤ 6; omega
      have hys : ∀ s ∈ y1, s.size ≤ 600 := by rw [hy1]; intro s hs; obtain rfl := List.mem_singleton.1 hs; omega
      have hS : begK y1 = begK [c] := by rw [hy1]
      obtain ⟨S0, hS0⟩ : ∃ z, begK y1 = z := ⟨_, rfl⟩
      have k0 : KV 1 S0 := by rw [← hS0, hS]; exact begK_KV [c]
      replace so : sortK S0 := by rw [← hS0, hS]; exact so
      have AT := Aside0.mk hS0
      have e0 : ∀ k, k ≠ keyB (⟨#[99, 108, 97, 115, 115]⟩ : ByteArray) [c] → getK S0 k = ((⟨#[]⟩ : ByteArray), false) := fun k hk => by rw [← hS0, hS, hg0, if_neg hk]
      obtain ⟨E, hE⟩ : ∃ z, tkMintE S0 c i u d o = z := ⟨_, rfl⟩
      obtain ⟨S1, hS1⟩ : ∃ z, tkMint S0 c i u d o = z := ⟨_, rfl⟩
      have k1 := tkMint_KV k0 c i u d o
      rw [hS1] at k1
      have k0a := k0.mono (show 1 ≤ 100000 by omega)
      have AE := Aside0.mk (show E = 0 → Minted S0 S1 c i u d o ∧ (o.size ≠ 0 ∧ o.size ≤ 512) ∧ u.size ≤ 32768 ∧ d.size ≤ 16384 from fun hE0 => by have h := tk_minted so (c := c) (i := i) (u := u) (d := d) (o := o) (by omega) (by omega) (hE.trans hE0) e0; rw [hS1] at h; exact h)
      have AE2 := Aside0.mk (And.intro hE hS1)
      clear hE hS1 so hg0 e0 hS0 hy1 hS
      go_wp2_with (first | ((with_reducible refine gate_dst (N := 23) rfl ?_); (try (refine gate_guard (by rfl) ?_; dsimp only)); refine Kd.R_lit Kd.string _ 9 ?hg (N := 23) ?hd (xs := ([c] : List ByteArray)) (inner := [.string c]) (ok := fun _ => True) (okp := fun _ => True) ?hr ?hp (fun _ hk => hk) trivial (Below.refl _ _) (Nat.le_refl _) (by simp) ?_; (case hd => rfl); (case hg => rfl); (case hr => first | (go_simp; done) | (go_simp; rfl)); (case hp => exact (Reps.one (show Kd.M Kd.string _ _ _ c [.string c] from rfl) (Reps.none _ _))); intro vlit wy1 hlit hb hg_ hnew_; clear hg_ hnew_; rw [← Ny1.out] at hlit; obtain ⟨Ay1, cy1, el_⟩ := Kd.R_slice hlit; subst el_; have Ry1 := Aside0.mk hlit; clear hlit; have n_HB := Aside0.mk (below_step (by repeat (first | (with_reducible first | exact HB.out | apply below_alloc | apply pw_below_drewN | apply below_drew1 | refine below_set ?_ GEa.out) | exact HB.out)) hb); have n_BKa := Aside0.mk (blk_below (g := gba) (o := .cells #[.string c, .string i, .string u, .string d, .string o] 23 (0, 0)) (by first | exact BKa.out | ((with_reducible repeat (first | refine blk_drewN ?_ _ | refine blk_drew ?_ | refine blk_alloc ?_ _)); exact BKa.out)) hb); clear HB BKa; have HB := n_HB; have BKa := n_BKa; clear n_HB n_BKa; clear hb))
      refine (tk_begin Ay1 cy1 y1 (Kd.R_reads' Ry1.out).2.2 (Kd.R_reads' Ry1.out).2.1 hyl hys).mono ?_
      rintro e w3 ⟨g, v, rfl, hj1, hb⟩
      have hn1 := HB.out.size
      have hn2 := hb.size
      rw [AT.out] at hj1
      obtain ⟨ok, hlt2, hm2, hv2⟩ := hj1
      have hokb : ∀ k, ok k → wy1.heap.size ≤ k := fun k hk => (hlt2 k hk).1
      have HJ0 := Aside0.mk (JS.start hm2 hb.size)
      have n_HB := Aside0.mk (below_step (by repeat (first | (with_reducible first | exact HB.out | apply below_alloc | apply pw_below_drewN | apply below_drew1 | refine below_set ?_ GEa.out) | exact HB.out)) hb)
      have n_BKa := Aside0.mk (blk_below (g := gba) (o := .cells #[.string c, .string i, .string u, .string d, .string o] 23 (0, 0)) (by first | exact BKa.out | ((with_reducible repeat (first | refine blk_drewN ?_ _ | refine blk_drew ?_ | refine blk_alloc ?_ _)); exact BKa.out)) hb)
      clear HB BKa
      have HB := n_HB
      have BKa := n_BKa
      clear n_HB n_BKa
      clear hb
      have za_0 : World.cell? _ ⟨gba, 0, none⟩ = some (.string c) := (blk_cell BKa.out 0).trans rfl
      have fa_0 := blk_frozen BKa.out 0
      have za_1 : World.cell? _ ⟨gba, 1, none⟩ = some (.string i) := (blk_cell BKa.out 1).trans rfl
      have fa_1 := blk_frozen BKa.out 1
      have za_2 : World.cell? _ ⟨gba, 2, none⟩ = some (.string u) := (blk_cell BKa.out 2).trans rfl
      have fa_2 := blk_frozen BKa.out 2
      have za_3 : World.cell? _ ⟨gba, 3, none⟩ = some (.string d) := (blk_cell BKa.out 3).trans rfl
      have fa_3 := blk_frozen BKa.out 3
      have za_4 : World.cell? _ ⟨gba, 4, none⟩ = some (.string o) := (blk_cell BKa.out 4).trans rfl
      have fa_4 := blk_frozen BKa.out 4
      have HV := Aside0.mk hv2
      obtain ⟨A4, c4, rfl, hc4, _⟩ := id HV.out
      have HB1 := HB
      have HJ := HJ0
      have HK := Aside0.mk (JK.of_below (HB1.out : Below w.heap.size w w3))
      have hn3 := Nat.le_trans hn1 hn2
      clear hm2 hv2 hlt2 HB HJ0 Ry1 Ny1 hyl hys AT
      go_wp2_with fail
      refine (tk_mint c i u d o E S1 HJ.out k0a (by omega) (by omega) (by omega) (by omega) (by omega) AE2.out.1 AE2.out.2).mono ?_
      rintro e w4 ⟨rfl, hj, hk⟩
      have n_HK := Aside0.mk (HK.out.trans hk)
      have n_HJ := Aside0.mk (hj)
      have n_BKa := Aside0.mk (JK.blk (b := gba) (c := #[.string c, .string i, .string u, .string d, .string o]) (q := 23) (x := (0, 0)) hk (by first | exact BKa.out | ((with_reducible repeat (first | refine blk_drewN ?_ _ | refine blk_drew ?_ | refine blk_alloc ?_ _)); exact BKa.out)) (by decide))
      clear HK HJ BKa
      have HK := n_HK
      have HJ := n_HJ
      have BKa := n_BKa
      clear n_HK n_HJ n_BKa
      clear hj hk
      have za_0 : World.cell? _ ⟨gba, 0, none⟩ = some (.string c) := (blk_cell BKa.out 0).trans rfl
      have fa_0 := blk_frozen BKa.out 0
      have za_1 : World.cell? _ ⟨gba, 1, none⟩ = some (.string i) := (blk_cell BKa.out 1).trans rfl
      have fa_1 := blk_frozen BKa.out 1
      have za_2 : World.cell? _ ⟨gba, 2, none⟩ = some (.string u) := (blk_cell BKa.out 2).trans rfl
      have fa_2 := blk_frozen BKa.out 2
      have za_3 : World.cell? _ ⟨gba, 3, none⟩ = some (.string d) := (blk_cell BKa.out 3).trans rfl
      have fa_3 := blk_frozen BKa.out 3
      have za_4 : World.cell? _ ⟨gba, 4, none⟩ = some (.string o) := (blk_cell BKa.out 4).trans rfl
      have fa_4 := blk_frozen BKa.out 4
      by_cases z0 : E = 0
      · subst z0
        obtain ⟨M1, ho, hu, hd⟩ := AE.out rfl
        clear AE
        have g1 := M1.get hu hd (by omega)
        have hbu := tk_burnt M1 hu hd ho
        have AM := Aside0.mk (And.intro M1 (And.intro hu (And.intro hd ho)))
        clear M1
        go_wp2_with fail
        refine (j_list wy1.heap.size g _ ⟨S1, []⟩ _ HJ.out.m (Nat.le_trans k1.len (by omega))).mono ?_
        rintro e w5 ⟨v5, rfl, o5, hb⟩
        obtain ⟨okA, hokA, hmA, hvs, hvl⟩ := js_again HJ.out HV.out o5 hb
        have HB5 := Aside0.mk ((HJ.out.old HB1.out hn3 (fun k hk => Nat.le_trans hn1 (hokb k hk))).trans (hb.mono (HJ.out.old HB1.out hn3 (fun k hk => Nat.le_trans hn1 (hokb k hk))).size))
        have hn5 := HB5.out.size
        have hb5 : wy1.heap.size ≤ w5.heap.size := Nat.le_trans (Nat.le_trans hn2 HJ.out.jw.size) hb.size
        obtain ⟨A5, c5, rfl, hc5, _⟩ := id hvl
        have n_HK := Aside0.mk (HK.out.trans (JK.of_below hb))
        have n_HJ := Aside0.mk (JS.below (base := wy1.heap.size) (ok := ok) (w0 := w3) (g := g) (cur := S1) (by first | exact HJ.out | ((with_reducible repeat (first | apply JS.drewN | apply JS.drew | apply JS.alloc)); exact HJ.out)) hb)
        have n_BKa := Aside0.mk (blk_below (g := gba) (o := .cells #[.string c, .string i, .string u, .string d, .string o] 23 (0, 0)) (by first | exact BKa.out | ((with_reducible repeat (first | refine blk_drewN ?_ _ | refine blk_drew ?_ | refine blk_alloc ?_ _)); exact BKa.out)) hb)
        clear HK HJ BKa
        have HK := n_HK
        have HJ := n_HJ
        have BKa := n_BKa
        clear n_HK n_HJ n_BKa
        clear hb
        have za_0 : World.cell? _ ⟨gba, 0, none⟩ = some (.string c) := (blk_cell BKa.out 0).trans rfl
        have fa_0 := blk_frozen BKa.out 0
        have za_1 : World.cell? _ ⟨gba, 1, none⟩ = some (.string i) := (blk_cell BKa.out 1).trans rfl
        have fa_1 := blk_frozen BKa.out 1
        have za_2 : World.cell? _ ⟨gba, 2, none⟩ = some (.string u) := (blk_cell BKa.out 2).trans rfl
        have fa_2 := blk_frozen BKa.out 2
        have za_3 : World.cell? _ ⟨gba, 3, none⟩ = some (.string d) := (blk_cell BKa.out 3).trans rfl
        have fa_3 := blk_frozen BKa.out 3
        have za_4 : World.cell? _ ⟨gba, 4, none⟩ = some (.string o) := (blk_cell BKa.out 4).trans rfl
        have fa_4 := blk_frozen BKa.out 4
        clear HJ HV
        have HJ := Aside0.mk (JS.start hmA hb5)
        have HV := Aside0.mk hvs
        have HL := Aside0.mk hvl
        have hokw : ∀ k, okA k → w.heap.size ≤ k := fun k hk => Nat.le_trans hn1 (hokA k hk)
        clear hmA hvs hvl o5 hokA hokb
        have k1a := k1.mono (show 1 + 3 ≤ 100000 by omega)
        by_cases hp : p.size = 0 ∨ p.size > 512
        · have hm := tk_move_bad g1 hp
          go_wp2_with fail
          refine (tk_move c i p 7 S1 HJ.out k1a (by omega) (by omega) (by omega) hm.1 hm.2).mono ?_
          rintro e w6 ⟨rfl, hj, hk⟩
          have n_HK := Aside0.mk (HK.out.trans hk)
          have n_HJ := Aside0.mk (hj)
          have n_BKa := Aside0.mk (JK.blk (b := gba) (c := #[.string c, .string i, .string u, .string d, .string o]) (q := 23) (x := (0, 0)) hk (by first | exact BKa.out | ((with_reducible repeat (first | refine blk_drewN ?_ _ | refine blk_drew ?_ | refine blk_alloc ?_ _)); exact BKa.out)) (by decide))
          clear HK HJ BKa
          have HK := n_HK
          have HJ := n_HJ
          have BKa := n_BKa
          clear n_HK n_HJ n_BKa
          clear hj hk
          clear hm g1 AM
          have za_0 : World.cell? _ ⟨gba, 0, none⟩ = some (.string c) := (blk_cell BKa.out 0).trans rfl
          have fa_0 := blk_frozen BKa.out 0
          have za_1 : World.cell? _ ⟨gba, 1, none⟩ = some (.string i) := (blk_cell BKa.out 1).trans rfl
          have fa_1 := blk_frozen BKa.out 1
          have za_2 : World.cell? _ ⟨gba, 2, none⟩ = some (.string u) := (blk_cell BKa.out 2).trans rfl
          have fa_2 := blk_frozen BKa.out 2
          have za_3 : World.cell? _ ⟨gba, 3, none⟩ = some (.string d) := (blk_cell BKa.out 3).trans rfl
          have fa_3 := blk_frozen BKa.out 3
          have za_4 : World.cell? _ ⟨gba, 4, none⟩ = some (.string o) := (blk_cell BKa.out 4).trans rfl
          have fa_4 := blk_frozen BKa.out 4
          go_wp2_with fail
          refine (j_list wy1.heap.size g _ ⟨S1, []⟩ _ HJ.out.m (Nat.le_trans k1.len (by omega))).mono ?_
          rintro e w8 ⟨v8, rfl, o8, hb⟩
          obtain ⟨A8, c8, rfl, hc8, hC8⟩ := Kd.R_reads (rows_R (ok := fun _ => True) o8 (fun _ _ => trivial))
          have n_HK := Aside0.mk (HK.out.trans (JK.of_below hb))
          have n_HJ := Aside0.mk (JS.below (base := wy1.heap.size) (ok := okA) (w0 := w5) (g := g) (cur := S1) (by first | exact HJ.out | ((with_reducible repeat (first | apply JS.drewN | apply JS.drew | apply JS.alloc)); exact HJ.out)) hb)
          have n_BKa := Aside0.mk (blk_below (g := gba) (o := .cells #[.string c, .string i, .string u, .string d, .string o] 23 (0, 0)) (by first | exact BKa.out | ((with_reducible repeat (first | refine blk_drewN ?_ _ | refine blk_drew ?_ | refine blk_alloc ?_ _)); exact BKa.out)) hb)
          clear HK HJ BKa
          have HK := n_HK
          have HJ := n_HJ
          have BKa := n_BKa
          clear n_HK n_HJ n_BKa
          clear hb
          go_wp2_with fail
          refine (footbridgeref09_Same.calls 1001 A8 c8 S1 A5 c5 S1 true _ hC8 hc8 (V_C (V_js HJ.out HL.out)).1 hc5 (same_f _ 1001 (Nat.le_trans k1.len (by omega)) (Nat.lt_of_le_of_lt k1.len (by omega)))).mono ?_
          rintro e w9 ⟨rfl, hd9⟩
          have hb := hd9.below
          clear hd9 hC8
          have n_HK := Aside0.mk (HK.out.trans (JK.of_below hb))
          have n_HJ := Aside0.mk (JS.below (base := wy1.heap.size) (ok := okA) (w0 := w5) (g := g) (cur := S1) (by first | exact HJ.out | ((with_reducible repeat (first | apply JS.drewN | apply JS.drew | apply JS.alloc)); exact HJ.out)) hb)
          have n_BKa := Aside0.mk (blk_below (g := gba) (o := .cells #[.string c, .string i, .string u, .string d, .string o] 23 (0, 0)) (by first | exact BKa.out | ((with_reducible repeat (first | refine blk_drewN ?_ _ | refine blk_drew ?_ | refine blk_alloc ?_ _)); exact BKa.out)) hb)
          clear HK HJ BKa
          have HK := n_HK
          have HJ := n_HJ
          have BKa := n_BKa
          clear n_HK n_HJ n_BKa
          clear hb
          have za_0 : World.cell? _ ⟨gba, 0, none⟩ = some (.string c) := (blk_cell BKa.out 0).trans rfl
          have fa_0 := blk_frozen BKa.out 0
          have za_1 : World.cell? _ ⟨gba, 1, none⟩ = some (.string i) := (blk_cell BKa.out 1).trans rfl
          have fa_1 := blk_frozen BKa.out 1
          have za_2 : World.cell? _ ⟨gba, 2, none⟩ = some (.string u) := (blk_cell BKa.out 2).trans rfl
          have fa_2 := blk_frozen BKa.out 2
          have za_3 : World.cell? _ ⟨gba, 3, none⟩ = some (.string d) := (blk_cell BKa.out 3).trans rfl
          have fa_3 := blk_frozen BKa.out 3
          have za_4 : World.cell? _ ⟨gba, 4, none⟩ = some (.string o) := (blk_cell BKa.out 4).trans rfl
          have fa_4 := blk_frozen BKa.out 4
          go_wp2_with fail
          refine (tk_burn c i 0 S0 HJ.out k1a (by omega) (by omega) hbu.1 hbu.2).mono ?_
          rintro e w10 ⟨rfl, hj, hk⟩
          have n_HK := Aside0.mk (HK.out.trans hk)
          have n_HJ := Aside0.mk (hj)
          have n_BKa := Aside0.mk (JK.blk (b := gba) (c := #[.string c, .string i, .string u, .string d, .string o]) (q := 23) (x := (0, 0)) hk (by first | exact BKa.out | ((with_reducible repeat (first | refine blk_drewN ?_ _ | refine blk_drew ?_ | refine blk_alloc ?_ _)); exact BKa.out)) (by decide))
          clear HK HJ BKa
          have HK := n_HK
          have HJ := n_HJ
          have BKa := n_BKa
          clear n_HK n_HJ n_BKa
          clear hj hk
          go_wp2_with fail
          refine (j_list wy1.heap.size g _ ⟨S0, []⟩ _ HJ.out.m (Nat.le_trans k0.len (by omega))).mono ?_
          rintro e w11 ⟨v11, rfl, o11, hb⟩
          obtain ⟨A11, c11, rfl, hc11, hC11⟩ := Kd.R_reads (rows_R (ok := fun _ => True) o11 (fun _ _ => trivial))
          have n_HK := Aside0.mk (HK.out.trans (JK.of_below hb))
          have n_HJ := Aside0.mk (JS.below (base := wy1.heap.size) (ok := okA) (w0 := w5) (g := g) (cur := S0) (by first | exact HJ.out | ((with_reducible repeat (first | apply JS.drewN | apply JS.drew | apply JS.alloc)); exact HJ.out)) hb)
          have n_BKa := Aside0.mk (blk_below (g := gba) (o := .cells #[.string c, .string i, .string u, .string d, .string o] 23 (0, 0)) (by first | exact BKa.out | ((with_reducible repeat (first | refine blk_drewN ?_ _ | refine blk_drew ?_ | refine blk_alloc ?_ _)); exact BKa.out)) hb)
          clear HK HJ BKa
          have HK := n_HK
          have HJ := n_HJ
          have BKa := n_BKa
          clear n_HK n_HJ n_BKa
          clear hb
          go_wp2_with fail
          refine (footbridgeref09_Same.calls 1001 A11 c11 S0 A4 c4 S0 true _ hC11 hc11 (V_C (V_js HJ.out HV.out)).1 hc4 (same_f _ 1001 (Nat.le_trans k0.len (by omega)) (Nat.lt_of_le_of_lt k0.len (by omega)))).mono ?_
          rintro e w12 ⟨rfl, hd9⟩
          have hb := hd9.below
          clear hd9 hC11
          have n_HK := Aside0.mk (HK.out.trans (JK.of_below hb))
          have n_HJ := Aside0.mk (JS.below (base := wy1.heap.size) (ok := okA) (w0 := w5) (g := g) (cur := S0) (by first | exact HJ.out | ((with_reducible repeat (first | apply JS.drewN | apply JS.drew | apply JS.alloc)); exact HJ.out)) hb)
          have n_BKa := Aside0.mk (blk_below (g := gba) (o := .cells #[.string c, .string i, .string u, .string d, .string o] 23 (0, 0)) (by first | exact BKa.out | ((with_reducible repeat (first | refine blk_drewN ?_ _ | refine blk_drew ?_ | refine blk_alloc ?_ _)); exact BKa.out)) hb)
          clear HK HJ BKa
          have HK := n_HK
          have HJ := n_HJ
          have BKa := n_BKa
          clear n_HK n_HJ n_BKa
          clear hb
          go_wp2_with fail
          refine (tkaw_calls _).mono ?_
          rintro e w13 ⟨rfl, hb⟩
          have hfin := Aside0.mk ((HJ.out.old HB5.out hn5 hokw).trans (hb.mono (HJ.out.old HB5.out hn5 hokw).size))
          clear HJ HK hb
          go_wp2
          go_ret
          exact ⟨rfl, hfin.out⟩
        · obtain ⟨M1, hu1, hd1, ho1⟩ := AM.out
          obtain ⟨v1, v2⟩ := M1.move (by omega) (by omega) hu1 hd1 (by omega) hp
          obtain ⟨r1, r2⟩ := tk_there_back M1 (by omega) (by omega) hu1 hd1 ho1 hp
          have k2 := tkMove_KV k1 c i p
          obtain ⟨S2, hS2⟩ : ∃ z, tkMove S1 c i p = z := ⟨_, rfl⟩
          rw [hS2] at r1 r2 k2
          have k2a := k2.mono (show 1 + 3 + 2 ≤ 100000 by omega)
          clear AM M1 v2 g1 hp
          go_wp2_with fail
          refine (tk_move c i p 0 S2 HJ.out k1a (by omega) (by omega) (by omega) v1 hS2).mono ?_
          rintro e w6 ⟨rfl, hj, hk⟩
          have n_HK := Aside0.mk (HK.out.trans hk)
          have n_HJ := Aside0.mk (hj)
          have n_BKa := Aside0.mk (JK.blk (b := gba) (c := #[.string c, .string i, .string u, .string d, .string o]) (q := 23) (x := (0, 0)) hk (by first | exact BKa.out | ((with_reducible repeat (first | refine blk_drewN ?_ _ | refine blk_drew ?_ | refine blk_alloc ?_ _)); exact BKa.out)) (by decide))
          clear HK HJ BKa
          have HK := n_HK
          have HJ := n_HJ
          have BKa := n_BKa
          clear n_HK n_HJ n_BKa
          clear hj hk
          have za_0 : World.cell? _ ⟨gba, 0, none⟩ = some (.string c) := (blk_cell BKa.out 0).trans rfl
          have fa_0 := blk_frozen BKa.out 0
          have za_1 : World.cell? _ ⟨gba, 1, none⟩ = some (.string i) := (blk_cell BKa.out 1).trans rfl
          have fa_1 := blk_frozen BKa.out 1
          have za_2 : World.cell? _ ⟨gba, 2, none⟩ = some (.string u) := (blk_cell BKa.out 2).trans rfl
          have fa_2 := blk_frozen BKa.out 2
          have za_3 : World.cell? _ ⟨gba, 3, none⟩ = some (.string d) := (blk_cell BKa.out 3).trans rfl
          have fa_3 := blk_frozen BKa.out 3
          have za_4 : World.cell? _ ⟨gba, 4, none⟩ = some (.string o) := (blk_cell BKa.out 4).trans rfl
          have fa_4 := blk_frozen BKa.out 4
          go_wp2_with fail
          refine (tk_move c i o 0 S1 HJ.out k2a (by omega) (by omega) (by omega) r1 r2).mono ?_
          rintro e w7 ⟨rfl, hj, hk⟩
          have n_HK := Aside0.mk (HK.out.trans hk)
          have n_HJ := Aside0.mk (hj)
          have n_BKa := Aside0.mk (JK.blk (b := gba) (c := #[.string c, .string i, .string u, .string d, .string o]) (q := 23) (x := (0, 0)) hk (by first | exact BKa.out | ((with_reducible repeat (first | refine blk_drewN ?_ _ | refine blk_drew ?_ | refine blk_alloc ?_ _)); exact BKa.out)) (by decide))
          clear HK HJ BKa
          have HK := n_HK
          have HJ := n_HJ
          have BKa := n_BKa
          clear n_HK n_HJ n_BKa
          clear hj hk
          clear r1 r2 v1 hS2 k2 k2a
          have za_0 : World.cell? _ ⟨gba, 0, none⟩ = some (.string c) := (blk_cell BKa.out 0).trans rfl
          have fa_0 := blk_frozen BKa.out 0
          have za_1 : World.cell? _ ⟨gba, 1, none⟩ = some (.string i) := (blk_cell BKa.out 1).trans rfl
          have fa_1 := blk_frozen BKa.out 1
          have za_2 : World.cell? _ ⟨gba, 2, none⟩ = some (.string u) := (blk_cell BKa.out 2).trans rfl
          have fa_2 := blk_frozen BKa.out 2
          have za_3 : World.cell? _ ⟨gba, 3, none⟩ = some (.string d) := (blk_cell BKa.out 3).trans rfl
          have fa_3 := blk_frozen BKa.out 3
          have za_4 : World.cell? _ ⟨gba, 4, none⟩ = some (.string o) := (blk_cell BKa.out 4).trans rfl
          have fa_4 := blk_frozen BKa.out 4
          go_wp2_with fail
          refine (j_list wy1.heap.size g _ ⟨S1, []⟩ _ HJ.out.m (Nat.le_trans k1.len (by omega))).mono ?_
          rintro e w8 ⟨v8, rfl, o8, hb⟩
          obtain ⟨A8, c8, rfl, hc8, hC8⟩ := Kd.R_reads (rows_R (ok := fun _ => True) o8 (fun _ _ => trivial))
          have n_HK := Aside0.mk (HK.out.trans (JK.of_below hb))
          have n_HJ := Aside0.mk (JS.below (base := wy1.heap.size) (ok := okA) (w0 := w5) (g := g) (cur := S1) (by first | exact HJ.out | ((with_reducible repeat (first | apply JS.drewN | apply JS.drew | apply JS.alloc)); exact HJ.out)) hb)
          have n_BKa := Aside0.mk (blk_below (g := gba) (o := .cells #[.string c, .string i, .string u, .string d, .string o] 23 (0, 0)) (by first | exact BKa.out | ((with_reducible repeat (first | refine blk_drewN ?_ _ | refine blk_drew ?_ | refine blk_alloc ?_ _)); exact BKa.out)) hb)
          clear HK HJ BKa
          have HK := n_HK
          have HJ := n_HJ
          have BKa := n_BKa
          clear n_HK n_HJ n_BKa
          clear hb
          go_wp2_with fail
          refine (footbridgeref09_Same.calls 1001 A8 c8 S1 A5 c5 S1 true _ hC8 hc8 (V_C (V_js HJ.out HL.out)).1 hc5 (same_f _ 1001 (Nat.le_trans k1.len (by omega)) (Nat.lt_of_le_of_lt k1.len (by omega)))).mono ?_
          rintro e w9 ⟨rfl, hd9⟩
          have hb := hd9.below
          clear hd9 hC8
          have n_HK := Aside0.mk (HK.out.trans (JK.of_below hb))
          have n_HJ := Aside0.mk (JS.below (base := wy1.heap.size) (ok := okA) (w0 := w5) (g := g) (cur := S1) (by first | exact HJ.out | ((with_reducible repeat (first | apply JS.drewN | apply JS.drew | apply JS.alloc)); exact HJ.out)) hb)
          have n_BKa := Aside0.mk (blk_below (g := gba) (o := .cells #[.string c, .string i, .string u, .string d, .string o] 23 (0, 0)) (by first | exact BKa.out | ((with_reducible repeat (first | refine blk_drewN ?_ _ | refine blk_drew ?_ | refine blk_alloc ?_ _)); exact BKa.out)) hb)
          clear HK HJ BKa
          have HK := n_HK
          have HJ := n_HJ
          have BKa := n_BKa
          clear n_HK n_HJ n_BKa
          clear hb
          have za_0 : World.cell? _ ⟨gba, 0, none⟩ = some (.string c) := (blk_cell BKa.out 0).trans rfl
          have fa_0 := blk_frozen BKa.out 0
          have za_1 : World.cell? _ ⟨gba, 1, none⟩ = some (.string i) := (blk_cell BKa.out 1).trans rfl
          have fa_1 := blk_frozen BKa.out 1
          have za_2 : World.cell? _ ⟨gba, 2, none⟩ = some (.string u) := (blk_cell BKa.out 2).trans rfl
          have fa_2 := blk_frozen BKa.out 2
          have za_3 : World.cell? _ ⟨gba, 3, none⟩ = some (.string d) := (blk_cell BKa.out 3).trans rfl
          have fa_3 := blk_frozen BKa.out 3
          have za_4 : World.cell? _ ⟨gba, 4, none⟩ = some (.string o) := (blk_cell BKa.out 4).trans rfl
          have fa_4 := blk_frozen BKa.out 4
          go_wp2_with fail
          refine (tk_burn c i 0 S0 HJ.out k1a (by omega) (by omega) hbu.1 hbu.2).mono ?_
          rintro e w10 ⟨rfl, hj, hk⟩
          have n_HK := Aside0.mk (HK.out.trans hk)
          have n_HJ := Aside0.mk (hj)
          have n_BKa := Aside0.mk (JK.blk (b := gba) (c := #[.string c, .string i, .string u, .string d, .string o]) (q := 23) (x := (0, 0)) hk (by first | exact BKa.out | ((with_reducible repeat (first | refine blk_drewN ?_ _ | refine blk_drew ?_ | refine blk_alloc ?_ _)); exact BKa.out)) (by decide))
          clear HK HJ BKa
          have HK := n_HK
          have HJ := n_HJ
          have BKa := n_BKa
          clear n_HK n_HJ n_BKa
          clear hj hk
          go_wp2_with fail
          refine (j_list wy1.heap.size g _ ⟨S0, []⟩ _ HJ.out.m (Nat.le_trans k0.len (by omega))).mono ?_
          rintro e w11 ⟨v11, rfl, o11, hb⟩
          obtain ⟨A11, c11, rfl, hc11, hC11⟩ := Kd.R_reads (rows_R (ok := fun _ => True) o11 (fun _ _ => trivial))
          have n_HK := Aside0.mk (HK.out.trans (JK.of_below hb))
          have n_HJ := Aside0.mk (JS.below (base := wy1.heap.size) (ok := okA) (w0 := w5) (g := g) (cur := S0) (by first | exact HJ.out | ((with_reducible repeat (first | apply JS.drewN | apply JS.drew | apply JS.alloc)); exact HJ.out)) hb)
          have n_BKa := Aside0.mk (blk_below (g := gba) (o := .cells #[.string c, .string i, .string u, .string d, .string o] 23 (0, 0)) (by first | exact BKa.out | ((with_reducible repeat (first | refine blk_drewN ?_ _ | refine blk_drew ?_ | refine blk_alloc ?_ _)); exact BKa.out)) hb)
          clear HK HJ BKa
          have HK := n_HK
          have HJ := n_HJ
          have BKa := n_BKa
          clear n_HK n_HJ n_BKa
          clear hb
          go_wp2_with fail
          refine (footbridgeref09_Same.calls 1001 A11 c11 S0 A4 c4 S0 true _ hC11 hc11 (V_C (V_js HJ.out HV.out)).1 hc4 (same_f _ 1001 (Nat.le_trans k0.len (by omega)) (Nat.lt_of_le_of_lt k0.len (by omega)))).mono ?_
          rintro e w12 ⟨rfl, hd9⟩
          have hb := hd9.below
          clear hd9 hC11
          have n_HK := Aside0.mk (HK.out.trans (JK.of_below hb))
          have n_HJ := Aside0.mk (JS.below (base := wy1.heap.size) (ok := okA) (w0 := w5) (g := g) (cur := S0) (by first | exact HJ.out | ((with_reducible repeat (first | apply JS.drewN | apply JS.drew | apply JS.alloc)); exact HJ.out)) hb)
          have n_BKa := Aside0.mk (blk_below (g := gba) (o := .cells #[.string c, .string i, .string u, .string d, .string o] 23 (0, 0)) (by first | exact BKa.out | ((with_reducible repeat (first | refine blk_drewN ?_ _ | refine blk_drew ?_ | refine blk_alloc ?_ _)); exact BKa.out)) hb)
          clear HK HJ BKa
          have HK := n_HK
          have HJ := n_HJ
          have BKa := n_BKa
          clear n_HK n_HJ n_BKa
          clear hb
          go_wp2_with fail
          refine (tkaw_calls _).mono ?_
          rintro e w13 ⟨rfl, hb⟩
          have hfin := Aside0.mk ((HJ.out.old HB5.out hn5 hokw).trans (hb.mono (HJ.out.old HB5.out hn5 hokw).size))
          clear HJ HK hb
          go_wp2
          go_ret
          exact ⟨rfl, hfin.out⟩
      · obtain rfl : S1 = S0 := by rw [← AE2.out.2]; unfold tkMint; rw [AE2.out.1, if_neg z0]
        clear AE AE2
        have hokw : ∀ k, ok k → w.heap.size ≤ k := fun k hk => Nat.le_trans hn1 (hokb k hk)
        go_wp2_with fail
        refine (j_list wy1.heap.size g _ ⟨S1, []⟩ _ HJ.out.m (Nat.le_trans k0.len (by omega))).mono ?_
        rintro e w5 ⟨v5, rfl, o5, hb⟩
        obtain ⟨A5, c5, rfl, hc5, hC5⟩ := Kd.R_reads (rows_R (ok := fun _ => True) o5 (fun _ _ => trivial))
        have n_HK := Aside0.mk (HK.out.trans (JK.of_below hb))
        have n_HJ := Aside0.mk (JS.below (base := wy1.heap.size) (ok := ok) (w0 := w3) (g := g) (cur := S1) (by first | exact HJ.out | ((with_reducible repeat (first | apply JS.drewN | apply JS.drew | apply JS.alloc)); exact HJ.out)) hb)
        have n_BKa := Aside0.mk (blk_below (g := gba) (o := .cells #[.string c, .string i, .string u, .string d, .string o] 23 (0, 0)) (by first | exact BKa.out | ((with_reducible repeat (first | refine blk_drewN ?_ _ | refine blk_drew ?_ | refine blk_alloc ?_ _)); exact BKa.out)) hb)
        clear HK HJ BKa
        have HK := n_HK
        have HJ := n_HJ
        have BKa := n_BKa
        clear n_HK n_HJ n_BKa
        clear hb
        go_wp2_with fail
        refine (footbridgeref09_Same.calls 1001 A5 c5 S1 A4 c4 S1 true _ hC5 hc5 (V_C (V_js HJ.out HV.out)).1 hc4 (same_f _ 1001 (Nat.le_trans k0.len (by omega)) (Nat.lt_of_le_of_lt k0.len (by omega)))).mono ?_
        rintro e w6 ⟨rfl, hd9⟩
        have hb := hd9.below
        clear hd9 hC5
        have n_HK := Aside0.mk (HK.out.trans (JK.of_below hb))
        have n_HJ := Aside0.mk (JS.below (base := wy1.heap.size) (ok := ok) (w0 := w3) (g := g) (cur := S1) (by first | exact HJ.out | ((with_reducible repeat (first | apply JS.drewN | apply JS.drew | apply JS.alloc)); exact HJ.out)) hb)
        have n_BKa := Aside0.mk (blk_below (g := gba) (o := .cells #[.string c, .string i, .string u, .string d, .string o] 23 (0, 0)) (by first | exact BKa.out | ((with_reducible repeat (first | refine blk_drewN ?_ _ | refine blk_drew ?_ | refine blk_alloc ?_ _)); exact BKa.out)) hb)
        clear HK HJ BKa
        have HK := n_HK
        have HJ := n_HJ
        have BKa := n_BKa
        clear n_HK n_HJ n_BKa
        clear hb
        go_wp2_with fail
        refine (tkaw_calls _).mono ?_
        rintro e w7 ⟨rfl, hb⟩
        have hfin := Aside0.mk ((HJ.out.old HB1.out hn3 hokw).trans (hb.mono (HJ.out.old HB1.out hn3 hokw).size))
        clear HJ HK hb
        go_wp2
        go_ret
        exact ⟨rfl, hfin.out⟩
theorem footbridgelaw23_TokenBack.calls (a0_0 a0_1 a0_2 a0_3 a0_4 a1 : ByteArray) (r : Bool) (w : World) (h : footbridgelaw23_TokenBack.f a0_0 a0_1 a0_2 a0_3 a0_4 a1 = some r) :
    Calls Tryz.prog 5 #[.agg #[.string a0_0, .string a0_1, .string a0_2, .string a0_3, .string a0_4], .string a1] w fun e w' => e = .returned (.bool r) ∧ Below w.heap.size w w' := by
  obtain rfl : true = r := Option.some.inj h
  exact tkback_calls a0_0 a0_1 a0_2 a0_3 a0_4 a1 w

end Go.Proofs.YtjappgjpikbdeaaGreatDoor.PTkk
