-- written by wip/myprint.py over the kit's print; not a printed text of print.sh
import Derived.Test.YtonipkgekhdogaaGreatDoorPBasx0
import Derived.Test.YtonipkgekhdogaaGreatDoorPBasx2
import Derived.Test.YtonipkgekhdogaaGreatDoorPBasx7
import Derived.Test.YtonipkgekhdogaaGreatDoorPBasx17
import Derived.Test.YtonipkgekhdogaaGreatDoorPBasx18
import Derived.Test.YtonipkgekhdogaaGreatDoorPBasx21
import Derived.Test.YtonipkgekhdogaaGreatDoorPBasx23
import Derived.Test.YtonipkgekhdogaaGreatDoorPBasx35
import Derived.Test.YtonipkgekhdogaaGreatDoorPBasx36
import Derived.Test.YtonipkgekhdogaaGreatDoorPBasx37
import Derived.Test.YtonipkgekhdogaaGreatDoorPBasx40
namespace Go.Proofs.YtonipkgekhdogaaGreatDoor.PBas
open Go.RowKit Go.Proofs.YtonipkgekhdogaaGreatDoorW.PrintWords Go.Proofs.YtonipkgekhdogaaGreatDoorW.PrintLast Go.Proofs.YtonipkgekhdogaaGreatDoorW.PrintMore
attribute [local go_sem] max2_int min2_int max_two min_two max_three min_three max_four min_four   -- for this text's walks alone
set_option linter.unusedVariables false
set_option linter.unusedSimpArgs false

/-! ### footbridgelaw47_Do: function 9 -/
-- @break
set_option maxHeartbeats 4000000 in
set_option maxRecDepth 100000 in
theorem bkdo_calls (n0 g : Nat) (ok : Nat → Prop) (cur cur' : List S73) (A : Option Addr) (c : Nat) (k : Int) (a b : ByteArray) (n E : Int) {w : World} (hm : JM n0 ok g ⟨cur, []⟩ w) (hlt : ∀ k, ok k → k < w.heap.size) (hn0 : n0 ≤ w.heap.size) (hv : Kd.V k73 73 w 0 (fun k => ¬ ok k) (.slice A cur.length c) cur) (hk : KV 900 cur) (ha : a.size ≤ 300) (hb0 : b.size ≤ 300) (hE : bkDoE cur k a b n = E) (hcur : bkDo cur k a b n = cur') :
    Calls Tryz.prog 9 #[.pointer (some ⟨g, 0, none⟩), .slice A cur.length c, .agg #[.int .i64 k, .string a, .string b, .int .i64 n]] w fun e w' => ∃ v w1, e = .returned (.tuple #[v, .int .i64 E, .int .i64 E]) ∧ Below w.heap.size w w1 ∧ JS n0 ok w1 g cur' w' ∧ Kd.V k73 73 w1 0 (fun k => ¬ ok k) v cur' := by
  have hk9 := hk.mono (show 900 ≤ 998 by omega)
  have hk5 := hk.mono (show 900 ≤ 100000 by omega)
  have HM := Aside0.mk hm
  have HV0 := Aside0.mk hv
  have HB := Aside0.mk (Below.refl w.heap.size w)
  unfold bkDoE at hE
  unfold bkDo at hcur
  clear hm hv hk
  go_enter Tryz.func9, Tryz.ntmps9
  by_cases k0 : k = 0
  · rw [if_pos k0] at hE hcur
    obtain ⟨K0, hK0⟩ := ref47Give_ev cur b n hk9 (by omega)
    rw [hE, hcur] at hK0
    have HR := Aside0.mk (hK0 K0 (Nat.le_refl _))
    clear hK0
    go_wp2_with (first | ((with_reducible refine gate_dst (N := 5) rfl ?_); refine box_event ?hg (N := 5) ?hd (cs := #[.int .i64 k, .string a, .string b, .int .i64 n]) (t := 30) ?hr ?_; (case hd => rfl); (case hg => rfl); (case hr => first | (go_simp; done) | (go_simp; rfl)); intro gbd hg wd hbox hb; have GEd := Aside0.mk ((by rw [hg]; exact (below_size (by repeat (first | (with_reducible first | exact HB.out | apply below_alloc | apply pw_below_drewN | apply below_drew1) | exact HB.out))) : w.heap.size ≤ gbd)); have n_HB := Aside0.mk (below_step (by repeat (first | (with_reducible first | exact HB.out | apply below_alloc | apply pw_below_drewN | apply below_drew1) | exact HB.out)) hb); clear HB; have HB := n_HB; clear n_HB; have BKd := Aside0.mk hbox; clear hb hbox hg; have zd_0 : World.cell? _ ⟨gbd, 0, none⟩ = some (.int .i64 k) := (blk_cell BKd.out 0).trans rfl; have fd_0 := blk_frozen BKd.out 0; have zd_1 : World.cell? _ ⟨gbd, 1, none⟩ = some (.string a) := (blk_cell BKd.out 1).trans rfl; have fd_1 := blk_frozen BKd.out 1; have zd_2 : World.cell? _ ⟨gbd, 2, none⟩ = some (.string b) := (blk_cell BKd.out 2).trans rfl; have fd_2 := blk_frozen BKd.out 2; have zd_3 : World.cell? _ ⟨gbd, 3, none⟩ = some (.int .i64 n) := (blk_cell BKd.out 3).trans rfl; have fd_3 := blk_frozen BKd.out 3; have hwd := HB.out.size))
    refine (footbridgeref47_Give.calls K0 (fun k => ¬ ok k) A c cur b n _ _ _ (Kd.V_below HV0.out (by repeat (first | (with_reducible first | exact HB.out | apply below_alloc | apply pw_below_drewN | apply below_drew1 | refine below_set ?_ GEd.out) | exact HB.out))) HR.out).mono ?_
    rintro e w1 ⟨v3, rfl, hv3, hb⟩
    have n_HB := Aside0.mk (below_step (by repeat (first | (with_reducible first | exact HB.out | apply below_alloc | apply pw_below_drewN | apply below_drew1 | refine below_set ?_ GEd.out) | exact HB.out)) hb)
    have n_BKd := Aside0.mk (blk_below (g := gbd) (o := .cells #[.int .i64 k, .string a, .string b, .int .i64 n] 30 (0, 0)) (by first | exact BKd.out | ((with_reducible repeat (first | refine blk_drewN ?_ _ | refine blk_drew ?_ | refine blk_alloc ?_ _)); exact BKd.out)) hb)
    clear HB BKd
    have HB := n_HB
    have BKd := n_BKd
    clear n_HB n_BKd
    clear hb
    have zd_0 : World.cell? _ ⟨gbd, 0, none⟩ = some (.int .i64 k) := (blk_cell BKd.out 0).trans rfl
    have fd_0 := blk_frozen BKd.out 0
    have zd_1 : World.cell? _ ⟨gbd, 1, none⟩ = some (.string a) := (blk_cell BKd.out 1).trans rfl
    have fd_1 := blk_frozen BKd.out 1
    have zd_2 : World.cell? _ ⟨gbd, 2, none⟩ = some (.string b) := (blk_cell BKd.out 2).trans rfl
    have fd_2 := blk_frozen BKd.out 2
    have zd_3 : World.cell? _ ⟨gbd, 3, none⟩ = some (.int .i64 n) := (blk_cell BKd.out 3).trans rfl
    have fd_3 := blk_frozen BKd.out 3
    have HV1 := Aside0.mk (show Kd.V k73 73 w1 0 (fun k => ¬ ok k) v3 cur' from Kd.V_lower (Kd.V_mono hv3 (fun k hk => hk.elim id (fun h1 h2 => by have := hlt k h2; omega))) (Nat.zero_le _))
    have HB1 := Aside0.mk HB.out
    have HJ := Aside0.mk (JS.start (HM.out.below HB.out) (Nat.le_trans hn0 HB.out.size))
    clear hv3 HM HV0
    go_wp2_with fail
    refine (bk_give b n E cur' HJ.out hk5 (by omega) hE hcur).mono ?_
    rintro e w2 ⟨rfl, hj, hk2⟩
    have HJ2 := Aside0.mk hj
    clear hj hk2 HJ
    go_wp2
    go_ret3
    exact ⟨_, w1, rfl, HB1.out, HJ2.out, HV1.out⟩
  · rw [if_neg k0] at hE hcur
    by_cases k1 : k = 1
    · rw [if_pos k1] at hE hcur
      obtain ⟨K0, hK0⟩ := ref47Take_ev cur a n hk9 (by omega)
      rw [hE, hcur] at hK0
      have HR := Aside0.mk (hK0 K0 (Nat.le_refl _))
      clear hK0
      go_wp2_with (first | ((with_reducible refine gate_dst (N := 5) rfl ?_); refine box_event ?hg (N := 5) ?hd (cs := #[.int .i64 k, .string a, .string b, .int .i64 n]) (t := 30) ?hr ?_; (case hd => rfl); (case hg => rfl); (case hr => first | (go_simp; done) | (go_simp; rfl)); intro gbd hg wd hbox hb; have GEd := Aside0.mk ((by rw [hg]; exact (below_size (by repeat (first | (with_reducible first | exact HB.out | apply below_alloc | apply pw_below_drewN | apply below_drew1) | exact HB.out))) : w.heap.size ≤ gbd)); have n_HB := Aside0.mk (below_step (by repeat (first | (with_reducible first | exact HB.out | apply below_alloc | apply pw_below_drewN | apply below_drew1) | exact HB.out)) hb); clear HB; have HB := n_HB; clear n_HB; have BKd := Aside0.mk hbox; clear hb hbox hg; have zd_0 : World.cell? _ ⟨gbd, 0, none⟩ = some (.int .i64 k) := (blk_cell BKd.out 0).trans rfl; have fd_0 := blk_frozen BKd.out 0; have zd_1 : World.cell? _ ⟨gbd, 1, none⟩ = some (.string a) := (blk_cell BKd.out 1).trans rfl; have fd_1 := blk_frozen BKd.out 1; have zd_2 : World.cell? _ ⟨gbd, 2, none⟩ = some (.string b) := (blk_cell BKd.out 2).trans rfl; have fd_2 := blk_frozen BKd.out 2; have zd_3 : World.cell? _ ⟨gbd, 3, none⟩ = some (.int .i64 n) := (blk_cell BKd.out 3).trans rfl; have fd_3 := blk_frozen BKd.out 3; have hwd := HB.out.size))
      refine (footbridgeref47_Take.calls K0 (fun k => ¬ ok k) A c cur a n _ _ _ (Kd.V_below HV0.out (by repeat (first | (with_reducible first | exact HB.out | apply below_alloc | apply pw_below_drewN | apply below_drew1 | refine below_set ?_ GEd.out) | exact HB.out))) HR.out).mono ?_
      rintro e w1 ⟨v3, rfl, hv3, hb⟩
      have n_HB := Aside0.mk (below_step (by repeat (first | (with_reducible first | exact HB.out | apply below_alloc | apply pw_below_drewN | apply below_drew1 | refine below_set ?_ GEd.out) | exact HB.out)) hb)
      have n_BKd := Aside0.mk (blk_below (g := gbd) (o := .cells #[.int .i64 k, .string a, .string b, .int .i64 n] 30 (0, 0)) (by first | exact BKd.out | ((with_reducible repeat (first | refine blk_drewN ?_ _ | refine blk_drew ?_ | refine blk_alloc ?_ _)); exact BKd.out)) hb)
      clear HB BKd
      have HB := n_HB
      have BKd := n_BKd
      clear n_HB n_BKd
      clear hb
      have zd_0 : World.cell? _ ⟨gbd, 0, none⟩ = some (.int .i64 k) := (blk_cell BKd.out 0).trans rfl
      have fd_0 := blk_frozen BKd.out 0
      have zd_1 : World.cell? _ ⟨gbd, 1, none⟩ = some (.string a) := (blk_cell BKd.out 1).trans rfl
      have fd_1 := blk_frozen BKd.out 1
      have zd_2 : World.cell? _ ⟨gbd, 2, none⟩ = some (.string b) := (blk_cell BKd.out 2).trans rfl
      have fd_2 := blk_frozen BKd.out 2
      have zd_3 : World.cell? _ ⟨gbd, 3, none⟩ = some (.int .i64 n) := (blk_cell BKd.out 3).trans rfl
      have fd_3 := blk_frozen BKd.out 3
      have HV1 := Aside0.mk (show Kd.V k73 73 w1 0 (fun k => ¬ ok k) v3 cur' from Kd.V_lower (Kd.V_mono hv3 (fun k hk => hk.elim id (fun h1 h2 => by have := hlt k h2; omega))) (Nat.zero_le _))
      have HB1 := Aside0.mk HB.out
      have HJ := Aside0.mk (JS.start (HM.out.below HB.out) (Nat.le_trans hn0 HB.out.size))
      clear hv3 HM HV0
      go_wp2_with fail
      refine (bk_take a n E cur' HJ.out hk5 (by omega) hE hcur).mono ?_
      rintro e w2 ⟨rfl, hj, hk2⟩
      have HJ2 := Aside0.mk hj
      clear hj hk2 HJ
      go_wp2
      go_ret3
      exact ⟨_, w1, rfl, HB1.out, HJ2.out, HV1.out⟩
    · rw [if_neg k1] at hE hcur
      obtain ⟨K0, hK0⟩ := ref47Pay_ev cur a b n hk9 (by omega) (by omega)
      rw [hE, hcur] at hK0
      have HR := Aside0.mk (hK0 K0 (Nat.le_refl _))
      clear hK0
      go_wp2_with (first | ((with_reducible refine gate_dst (N := 5) rfl ?_); refine box_event ?hg (N := 5) ?hd (cs := #[.int .i64 k, .string a, .string b, .int .i64 n]) (t := 30) ?hr ?_; (case hd => rfl); (case hg => rfl); (case hr => first | (go_simp; done) | (go_simp; rfl)); intro gbd hg wd hbox hb; have GEd := Aside0.mk ((by rw [hg]; exact (below_size (by repeat (first | (with_reducible first | exact HB.out | apply below_alloc | apply pw_below_drewN | apply below_drew1) | exact HB.out))) : w.heap.size ≤ gbd)); have n_HB := Aside0.mk (below_step (by repeat (first | (with_reducible first | exact HB.out | apply below_alloc | apply pw_below_drewN | apply below_drew1) | exact HB.out)) hb); clear HB; have HB := n_HB; clear n_HB; have BKd := Aside0.mk hbox; clear hb hbox hg; have zd_0 : World.cell? _ ⟨gbd, 0, none⟩ = some (.int .i64 k) := (blk_cell BKd.out 0).trans rfl; have fd_0 := blk_frozen BKd.out 0; have zd_1 : World.cell? _ ⟨gbd, 1, none⟩ = some (.string a) := (blk_cell BKd.out 1).trans rfl; have fd_1 := blk_frozen BKd.out 1; have zd_2 : World.cell? _ ⟨gbd, 2, none⟩ = some (.string b) := (blk_cell BKd.out 2).trans rfl; have fd_2 := blk_frozen BKd.out 2; have zd_3 : World.cell? _ ⟨gbd, 3, none⟩ = some (.int .i64 n) := (blk_cell BKd.out 3).trans rfl; have fd_3 := blk_frozen BKd.out 3; have hwd := HB.out.size))
      refine (footbridgeref47_Pay.calls K0 (fun k => ¬ ok k) A c cur a b n _ _ _ (Kd.V_below HV0.out (by repeat (first | (with_reducible first | exact HB.out | apply below_alloc | apply pw_below_drewN | apply below_drew1 | refine below_set ?_ GEd.out) | exact HB.out))) HR.out).mono ?_
      rintro e w1 ⟨v3, rfl, hv3, hb⟩
      have n_HB := Aside0.mk (below_step (by repeat (first | (with_reducible first | exact HB.out | apply below_alloc | apply pw_below_drewN | apply below_drew1 | refine below_set ?_ GEd.out) | exact HB.out)) hb)
      have n_BKd := Aside0.mk (blk_below (g := gbd) (o := .cells #[.int .i64 k, .string a, .string b, .int .i64 n] 30 (0, 0)) (by first | exact BKd.out | ((with_reducible repeat (first | refine blk_drewN ?_ _ | refine blk_drew ?_ | refine blk_alloc ?_ _)); exact BKd.out)) hb)
      clear HB BKd
      have HB := n_HB
      have BKd := n_BKd
      clear n_HB n_BKd
      clear hb
      have zd_0 : World.cell? _ ⟨gbd, 0, none⟩ = some (.int .i64 k) := (blk_cell BKd.out 0).trans rfl
      have fd_0 := blk_frozen BKd.out 0
      have zd_1 : World.cell? _ ⟨gbd, 1, none⟩ = some (.string a) := (blk_cell BKd.out 1).trans rfl
      have fd_1 := blk_frozen BKd.out 1
      have zd_2 : World.cell? _ ⟨gbd, 2, none⟩ = some (.string b) := (blk_cell BKd.out 2).trans rfl
      have fd_2 := blk_frozen BKd.out 2
      have zd_3 : World.cell? _ ⟨gbd, 3, none⟩ = some (.int .i64 n) := (blk_cell BKd.out 3).trans rfl
      have fd_3 := blk_frozen BKd.out 3
      have HV1 := Aside0.mk (show Kd.V k73 73 w1 0 (fun k => ¬ ok k) v3 cur' from Kd.V_lower (Kd.V_mono hv3 (fun k hk => hk.elim id (fun h1 h2 => by have := hlt k h2; omega))) (Nat.zero_le _))
      have HB1 := Aside0.mk HB.out
      have HJ := Aside0.mk (JS.start (HM.out.below HB.out) (Nat.le_trans hn0 HB.out.size))
      clear hv3 HM HV0
      go_wp2_with fail
      refine (bk_pay a b n E cur' HJ.out hk5 (by omega) (by omega) hE hcur).mono ?_
      rintro e w2 ⟨rfl, hj, hk2⟩
      have HJ2 := Aside0.mk hj
      clear hj hk2 HJ
      go_wp2
      go_ret3
      exact ⟨_, w1, rfl, HB1.out, HJ2.out, HV1.out⟩

/-! ### words: bsum.inc -/
/-! ### all together is what all have -/
theorem hidL_inj : ∀ a b : List UInt8, hidL a = hidL b → a = b
  | [], [], _ => rfl
  | [], y :: b, h => by
    rw [hidL_cons] at h
    split at h
    · cases h
    · split at h <;> cases h
  | x :: a, [], h => by
    rw [hidL_cons] at h
    split at h
    · cases h
    · split at h <;> cases h
  | x :: a, y :: b, h => by
    rw [hidL_cons, hidL_cons] at h
    by_cases x1 : x = 37
    · rw [if_pos x1] at h
      by_cases y1 : y = 37
      · rw [if_pos y1] at h
        rw [x1, y1, hidL_inj a b (by simpa using h)]
      · rw [if_neg y1] at h
        by_cases y2 : y = 47
        · rw [if_pos y2] at h; simp at h
        · rw [if_neg y2] at h; simp only [List.cons_append, List.nil_append, List.cons.injEq] at h; exact absurd h.1.symm y1
    · rw [if_neg x1] at h
      by_cases x2 : x = 47
      · rw [if_pos x2] at h
        by_cases y1 : y = 37
        · rw [if_pos y1] at h; simp at h
        · rw [if_neg y1] at h
          by_cases y2 : y = 47
          · rw [if_pos y2] at h
            rw [x2, y2, hidL_inj a b (by simpa using h)]
          · rw [if_neg y2] at h; simp only [List.cons_append, List.nil_append, List.cons.injEq] at h; exact absurd h.1.symm y1
      · rw [if_neg x2] at h
        by_cases y1 : y = 37
        · rw [if_pos y1] at h; simp only [List.cons_append, List.nil_append, List.cons.injEq] at h; exact absurd h.1 x1
        · rw [if_neg y1] at h
          by_cases y2 : y = 47
          · rw [if_pos y2] at h; simp only [List.cons_append, List.nil_append, List.cons.injEq] at h; exact absurd h.1 x1
          · rw [if_neg y2] at h
            simp only [List.cons_append, List.nil_append, List.cons.injEq] at h
            rw [h.1, hidL_inj a b h.2]
theorem ofL_inj {a b : List UInt8} (h : ofL a = ofL b) : a = b := by
  have h2 := congrArg ByteArray.toList h
  rwa [ofL_toList, ofL_toList] at h2
theorem bkKey_inj {a b : ByteArray} (h : keyB (⟨#[99, 111, 105, 110, 115]⟩ : ByteArray) [a] = keyB (⟨#[99, 111, 105, 110, 115]⟩ : ByteArray) [b]) : a = b := by
  unfold keyB keyL glue at h
  have h2 := ofL_inj h
  simp only [List.map_cons, List.map_nil, List.flatMap_cons, List.flatMap_nil, List.append_nil, List.append_cancel_left_eq, List.cons.injEq, true_and] at h2
  exact ba_ext (hidL_inj _ _ h2)
theorem numK_bk {cur : List S73} (hs : sortK cur) (key k2 : ByteArray) (n : Int) (hn : 0 ≤ n) (hb : n ≤ 9007199254740992) (hk : key.size ≤ 65536) : numK (bkSet cur key n) k2 = if k2 = key then n else numK cur k2 := by
  unfold numK
  rw [getK_bk hs]
  by_cases h : k2 = key
  · rw [if_pos h, if_pos h]
    unfold bkVal
    by_cases h0 : n = 0
    · rw [if_pos h0, h0]
      decide +kernel
    · have hz : ¬ (key.size > 65536 ∨ (bkNum n).size > 65536) := by have := bkNum_sz n; omega
      rw [if_neg h0, if_neg hz]
      have hz2 : ¬ (n < 0 ∨ 9007199254740992 < n) := by omega
      unfold bkNum
      rw [if_neg hz2]
      dsimp only
      rw [rNum_numB0 _ (by omega)]
      dsimp only
      rw [show rDone (⟨#[]⟩ : ByteArray) 0 = 0 by simp [rDone, ByteArray.toList_eq], if_pos rfl]
      omega
  · rw [if_neg h, if_neg h]
theorem bkOf_bk {cur : List S73} (hs : sortK cur) (a b : ByteArray) (n : Int) (hn : 0 ≤ n) (hb : n ≤ 9007199254740992) (ha : a.size ≤ 30000) : bkOf (bkSet cur (keyB (⟨#[99, 111, 105, 110, 115]⟩ : ByteArray) [a]) n) b = if b = a then n else bkOf cur b := by
  unfold bkOf
  rw [numK_bk hs _ _ n hn hb (by have := bkKey_len a; omega)]
  by_cases h : b = a
  · rw [if_pos (by rw [h]), if_pos h]
  · rw [if_neg (fun e => h (bkKey_inj e)), if_neg h]
theorem bkAll_of {cur : List S73} (hs : sortK cur) (a : ByteArray) (n : Int) : bkAll (bkSet cur (keyB (⟨#[99, 111, 105, 110, 115]⟩ : ByteArray) [a]) n) = bkAll cur := by
  have hne : ¬ ((⟨#[97, 108, 108, 45, 99, 111, 105, 110, 115]⟩ : ByteArray) = keyB (⟨#[99, 111, 105, 110, 115]⟩ : ByteArray) [a]) := fun e => bkKey_ne a e.symm
  unfold bkAll numK
  rw [getK_bk hs, if_neg hne]
theorem bkAll_all {cur : List S73} (hs : sortK cur) (n : Int) (hn : 0 ≤ n) (hb : n ≤ 9007199254740992) : bkAll (bkSet cur (⟨#[97, 108, 108, 45, 99, 111, 105, 110, 115]⟩ : ByteArray) n) = n := by
  unfold bkAll
  rw [numK_bk hs _ _ n hn hb (by decide), if_pos rfl]
/-- A text more, if it is not there. -/
noncomputable def withB (l : List ByteArray) (s : ByteArray) : List ByteArray := @ite _ (s ∈ l) (Classical.propDecidable _) l (l ++ [s])
def sumB (f : ByteArray → Int) (l : List ByteArray) : Int := (l.map f).sum
theorem sumB_snoc (f : ByteArray → Int) (l : List ByteArray) (s : ByteArray) : sumB f (l ++ [s]) = sumB f l + f s := by unfold sumB; rw [List.map_append, List.sum_append]; simp
theorem sumB_take (f : ByteArray → Int) (l : List ByteArray) (i : Nat) (h : i < l.length) : sumB f (l.take (i + 1)) = sumB f (l.take i) + f l[i] := by rw [List.take_add_one, List.getElem?_eq_getElem h]; exact sumB_snoc _ _ _
theorem sumB_upd {f g : ByteArray → Int} {a : ByteArray} (h : ∀ x, x ≠ a → g x = f x) : ∀ {l : List ByteArray}, l.Nodup → a ∈ l → sumB g l = sumB f l + (g a - f a)
  | [], _, hm => by cases hm
  | x :: l, hn, hm => by
    have e : ∀ (f : ByteArray → Int), sumB f (x :: l) = f x + sumB f l := fun f => by simp [sumB]
    rw [e, e]
    obtain ⟨h1, h2⟩ := List.nodup_cons.1 hn
    by_cases hx : a = x
    · subst hx
      have : sumB g l = sumB f l := by
        unfold sumB
        rw [List.map_congr_left (fun y hy => h y (fun e => h1 (e ▸ hy)))]
      omega
    · have := sumB_upd h h2 ((List.mem_cons.1 hm).resolve_left hx)
      rw [h x (fun e => hx e.symm)]
      omega
structure BInv (cur : List S73) (all : List ByteArray) : Prop where
  nd : all.Nodup
  out : ∀ s, s ∉ all → bkOf cur s = 0
  pos : ∀ s, 0 ≤ bkOf cur s
  tot : sumB (bkOf cur) all = bkAll cur
  cap : bkAll cur ≤ 1099511627776
theorem BInv.le {cur : List S73} {all : List ByteArray} (h : BInv cur all) (s : ByteArray) : bkOf cur s ≤ bkAll cur := by
  rw [← h.tot]
  have hp := h.pos
  by_cases hs : s ∈ all
  · revert hs
    generalize all = l
    intro hs
    induction l with
    | nil => cases hs
    | cons x l ih =>
      have e : sumB (bkOf cur) (x :: l) = bkOf cur x + sumB (bkOf cur) l := by simp [sumB]
      have hl : 0 ≤ sumB (bkOf cur) l := by
        clear ih hs e
        induction l with
        | nil => exact Int.le_refl _
        | cons y l ih =>
          have e : sumB (bkOf cur) (y :: l) = bkOf cur y + sumB (bkOf cur) l := by simp [sumB]
          have := hp y
          omega
      rw [e]
      rcases List.mem_cons.1 hs with rfl | h2
      · omega
      · have := ih h2; have := hp x; omega
  · rw [h.out s hs]
    generalize all = l
    induction l with
    | nil => exact Int.le_refl _
    | cons y l ih =>
      have e : sumB (bkOf cur) (y :: l) = bkOf cur y + sumB (bkOf cur) l := by simp [sumB]
      have := hp y
      omega
theorem BInv.with {cur : List S73} {all : List ByteArray} (h : BInv cur all) (s : ByteArray) : BInv cur (withB all s) := by
  unfold withB
  split
  · exact h
  · rename_i hs
    refine ⟨List.nodup_append.2 ⟨h.nd, by simp, ?_⟩, fun t ht => h.out t (fun hm => ht (List.mem_append_left _ hm)), h.pos, ?_, h.cap⟩
    · intro x hx y hy e
      obtain rfl : y = s := by simpa using hy
      exact hs (e ▸ hx)
    · rw [sumB_snoc, h.tot, h.out s hs, Int.add_zero]
theorem mem_with (l : List ByteArray) (s : ByteArray) : s ∈ withB l s := by
  unfold withB; split
  · assumption
  · simp
theorem mem_with_of {l : List ByteArray} {t : ByteArray} (s : ByteArray) (h : t ∈ l) : t ∈ withB l s := by
  unfold withB; split
  · exact h
  · exact List.mem_append_left _ h
theorem BInv.set {cur : List S73} {all : List ByteArray} (h : BInv cur all) (hs : sortK cur) {a : ByteArray} (ha : a ∈ all) (hz : a.size ≤ 30000) (n : Int) (hn : 0 ≤ n) (hb : n ≤ 9007199254740992) :
    (∀ s, bkOf (bkSet cur (keyB (⟨#[99, 111, 105, 110, 115]⟩ : ByteArray) [a]) n) s = if s = a then n else bkOf cur s) ∧ sumB (bkOf (bkSet cur (keyB (⟨#[99, 111, 105, 110, 115]⟩ : ByteArray) [a]) n)) all = bkAll cur + (n - bkOf cur a) := by
  have h1 : ∀ s, bkOf (bkSet cur (keyB (⟨#[99, 111, 105, 110, 115]⟩ : ByteArray) [a]) n) s = if s = a then n else bkOf cur s := fun s => bkOf_bk hs a s n hn hb hz
  refine ⟨h1, ?_⟩
  rw [sumB_upd (f := bkOf cur) (a := a) (fun x hx => by rw [h1, if_neg hx]) h.nd ha, h.tot, h1, if_pos rfl]
theorem bkChk_ok {n : Int} {l : List ByteArray} (h : bkChk n l = 0) : 1 ≤ n ∧ n ≤ 1099511627776 := by
  unfold bkChk at h
  split at h
  · split at h
    · exact absurd h (by decide)
    · omega
  · exact absurd h (by decide)
theorem BInv.give {cur : List S73} {all : List ByteArray} (h : BInv cur all) (hs : sortK cur) {b : ByteArray} (hb : b ∈ all) (hz : b.size ≤ 30000) (n : Int) : BInv (bkGive cur b n) all := by
  unfold bkGive bkGiveE
  by_cases hc : bkChk n [b] = 0
  · have ⟨n1, n2⟩ := bkChk_ok hc
    rw [if_pos hc]
    by_cases hr : n > 1099511627776 - bkAll cur
    · rw [if_pos hr, if_neg (by decide)]; exact h
    · rw [if_neg hr, if_pos rfl]
      have hle := h.le b; have hp := h.pos b; have hcap := h.cap
      obtain ⟨e1, e2⟩ := h.set hs hb hz (bkOf cur b + n) (by omega) (by omega)
      have hs2 := sortK_bk hs (keyB (⟨#[99, 111, 105, 110, 115]⟩ : ByteArray) [b]) (bkOf cur b + n)
      have e3 := fun s => bkOf_all hs2 s (bkAll cur + n)
      have e4 := bkAll_all hs2 (bkAll cur + n) (by omega) (by omega)
      refine ⟨h.nd, fun s hm => ?_, fun s => ?_, ?_, ?_⟩
      · rw [e3, e1, if_neg (fun (e : s = b) => hm (by rw [e]; exact hb))]; exact h.out s hm
      · rw [e3, e1]; have := h.pos s; split <;> omega
      · rw [e4, show bkOf (bkSet (bkSet cur (keyB (⟨#[99, 111, 105, 110, 115]⟩ : ByteArray) [b]) (bkOf cur b + n)) (⟨#[97, 108, 108, 45, 99, 111, 105, 110, 115]⟩ : ByteArray) (bkAll cur + n)) = bkOf (bkSet cur (keyB (⟨#[99, 111, 105, 110, 115]⟩ : ByteArray) [b]) (bkOf cur b + n)) from funext e3, e2]; omega
      · rw [e4]; omega
  · rw [if_neg hc, if_neg hc]; exact h
theorem BInv.take {cur : List S73} {all : List ByteArray} (h : BInv cur all) (hs : sortK cur) {b : ByteArray} (hb : b ∈ all) (hz : b.size ≤ 30000) (n : Int) : BInv (bkTake cur b n) all := by
  unfold bkTake bkTakeE
  by_cases hc : bkChk n [b] = 0
  · have ⟨n1, n2⟩ := bkChk_ok hc
    rw [if_pos hc]
    by_cases hr : bkOf cur b < n
    · rw [if_pos hr, if_neg (by decide)]; exact h
    · rw [if_neg hr, if_pos rfl]
      have hle := h.le b; have hp := h.pos b; have hcap := h.cap
      obtain ⟨e1, e2⟩ := h.set hs hb hz (bkOf cur b - n) (by omega) (by omega)
      have hs2 := sortK_bk hs (keyB (⟨#[99, 111, 105, 110, 115]⟩ : ByteArray) [b]) (bkOf cur b - n)
      have e3 := fun s => bkOf_all hs2 s (bkAll cur - n)
      have e4 := bkAll_all hs2 (bkAll cur - n) (by omega) (by omega)
      refine ⟨h.nd, fun s hm => ?_, fun s => ?_, ?_, ?_⟩
      · rw [e3, e1, if_neg (fun (e : s = b) => hm (by rw [e]; exact hb))]; exact h.out s hm
      · rw [e3, e1]; have := h.pos s; split <;> omega
      · rw [e4, show bkOf (bkSet (bkSet cur (keyB (⟨#[99, 111, 105, 110, 115]⟩ : ByteArray) [b]) (bkOf cur b - n)) (⟨#[97, 108, 108, 45, 99, 111, 105, 110, 115]⟩ : ByteArray) (bkAll cur - n)) = bkOf (bkSet cur (keyB (⟨#[99, 111, 105, 110, 115]⟩ : ByteArray) [b]) (bkOf cur b - n)) from funext e3, e2]; omega
      · rw [e4]; omega
  · rw [if_neg hc, if_neg hc]; exact h
theorem BInv.pay {cur : List S73} {all : List ByteArray} (h : BInv cur all) (hs : sortK cur) {a b : ByteArray} (ha : a ∈ all) (hza : a.size ≤ 30000) (hb : b ∈ all) (hz : b.size ≤ 30000) (n : Int) : BInv (bkPay cur a b n) all ∧ bkAll (bkPay cur a b n) = bkAll cur := by
  unfold bkPay bkPayE
  by_cases hc : bkChk n [a, b] = 0
  · have ⟨n1, n2⟩ := bkChk_ok hc
    rw [if_pos hc]
    by_cases hr : bkOf cur a < n
    · rw [if_pos hr, if_neg (by decide)]; exact ⟨h, rfl⟩
    · rw [if_neg hr, if_pos rfl]
      unfold bkPay1
      have hle := h.le a; have hp := h.pos a; have hcap := h.cap; have hlb := h.le b; have hpb := h.pos b
      obtain ⟨e1, e2⟩ := h.set hs ha hza (bkOf cur a - n) (by omega) (by omega)
      have hs2 := sortK_bk hs (keyB (⟨#[99, 111, 105, 110, 115]⟩ : ByteArray) [a]) (bkOf cur a - n)
      have eA := bkAll_of hs a (bkOf cur a - n)
      generalize bkSet cur (keyB (⟨#[99, 111, 105, 110, 115]⟩ : ByteArray) [a]) (bkOf cur a - n) = c2 at e1 e2 hs2 eA ⊢
      have eb := e1 b
      have b1 : 0 ≤ bkOf c2 b ∧ bkOf c2 b ≤ 1099511627776 := by rw [eb]; split <;> omega
      have f1 := fun s => bkOf_bk hs2 b s (bkOf c2 b + n) (by omega) (by omega) hz
      have fA := bkAll_of hs2 b (bkOf c2 b + n)
      refine ⟨⟨h.nd, fun s hm => ?_, fun s => ?_, ?_, ?_⟩, fA.trans eA⟩
      · rw [f1, if_neg (fun (e : s = b) => hm (by rw [e]; exact hb)), e1, if_neg (fun (e : s = a) => hm (by rw [e]; exact ha))]; exact h.out s hm
      · rw [f1]
        split
        · omega
        · rw [e1]; have := h.pos s; split <;> omega
      · rw [sumB_upd (f := bkOf c2) (a := b) (fun x hx => by rw [f1, if_neg hx]) h.nd hb, e2, f1, if_pos rfl, fA, eA]; omega
      · rw [fA, eA]; exact hcap
  · rw [if_neg hc, if_neg hc]; exact ⟨h, rfl⟩
theorem BInv.did {cur : List S73} {all : List ByteArray} (h : BInv cur all) (hs : sortK cur) (k : Int) {a b : ByteArray} (hza : a.size ≤ 300) (hz : b.size ≤ 300) (n : Int) : BInv (bkDo cur k a b n) (withB (withB all a) b) ∧ (1 < k → bkAll (bkDo cur k a b n) = bkAll cur) := by
  have h2 := (h.with a).with b
  have ma := mem_with_of b (mem_with all a)
  have mb := mem_with (withB all a) b
  unfold bkDo
  by_cases k0 : k = 0
  · rw [if_pos k0]; exact ⟨h2.give hs mb (by omega) n, fun hk => by omega⟩
  · rw [if_neg k0]
    by_cases k1 : k = 1
    · rw [if_pos k1]; exact ⟨h2.take hs ma (by omega) n, fun hk => by omega⟩
    · rw [if_neg k1]
      obtain ⟨p1, p2⟩ := h2.pay hs ma (by omega) mb (by omega) n
      exact ⟨p1, fun _ => p2⟩
theorem bk_empty : numK [] = fun _ => 0 := by
  funext k
  have h : getK [] k = ((⟨#[]⟩ : ByteArray), false) := rfl
  unfold numK
  rw [h]
  decide +kernel
theorem BInv.none : BInv [] [] := by
  have h : ∀ s, bkOf [] s = 0 := fun s => by unfold bkOf; rw [bk_empty]
  have h2 : bkAll [] = 0 := by unfold bkAll; rw [bk_empty]
  exact ⟨List.nodup_nil, fun s _ => h s, fun s => by rw [h]; omega, by rw [h2]; rfl, by rw [h2]; omega⟩
theorem sumB_ge {f : ByteArray → Int} (hp : ∀ s, 0 ≤ f s) : ∀ l : List ByteArray, 0 ≤ sumB f l
  | [] => Int.le_refl _
  | y :: l => by
    have e : sumB f (y :: l) = f y + sumB f l := by simp [sumB]
    have := hp y
    have := sumB_ge hp l
    omega
theorem sumB_part {f : ByteArray → Int} (hp : ∀ s, 0 ≤ f s) (l : List ByteArray) (i : Nat) : 0 ≤ sumB f (l.take i) ∧ sumB f (l.take i) ≤ sumB f l := by
  refine ⟨sumB_ge hp _, ?_⟩
  have h1 : sumB f l = sumB f (l.take i) + sumB f (l.drop i) := by
    unfold sumB
    rw [← List.sum_append, ← List.map_append, List.take_append_drop]
  have := sumB_ge hp (l.drop i)
  omega
theorem with_len (l : List ByteArray) (s : ByteArray) : (withB l s).length ≤ l.length + 1 := by
  unfold withB; split
  · omega
  · rw [List.length_append, List.length_singleton]; omega
theorem with_sz {l : List ByteArray} {s : ByteArray} {m : Nat} (h : ∀ x ∈ l, x.size ≤ m) (hs : s.size ≤ m) : ∀ x ∈ withB l s, x.size ≤ m := by
  unfold withB; split
  · exact h
  · intro x hx
    rcases List.mem_append.1 hx with hx | hx
    · exact h x hx
    · rw [List.mem_singleton.1 hx]; exact hs

end Go.Proofs.YtonipkgekhdogaaGreatDoor.PBas
