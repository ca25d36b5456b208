-- written by wip/myprint.py over the kit's print; not a printed text of print.sh
import Derived.Test.YtcbaojkfffodiaaPJoux0
import Derived.Test.YtcbaojkfffodiaaPJoux4
import Derived.Test.YtcbaojkfffodiaaPJoux9
import Derived.Test.YtcbaojkfffodiaaPJoux10
import Derived.Test.YtcbaojkfffodiaaPJoux11
import Derived.Test.YtcbaojkfffodiaaPJoux12
import Derived.Test.YtcbaojkfffodiaaPJoux16
namespace Go.Proofs.Ytcbaojkfffodiaa.PJou
open Go.RowKit Go.Proofs.YtcbaojkfffodiaaW.PrintWords Go.Proofs.YtcbaojkfffodiaaW.PrintLast Go.Proofs.YtcbaojkfffodiaaW.PrintMore
attribute [local go_sem] max2_int min2_int max_two min_two max_three min_three max_four min_four   -- for this text's walks alone
set_option linter.unusedVariables false
set_option linter.unusedSimpArgs false

-- NOT PRINTED: function 19 (journal_Journal_Del)

-- NOT PRINTED: function 20 (journal_Journal_Begin)

-- NOT PRINTED: function 9 (footbridgelaw10_do)

-- NOT PRINTED: function 10 (journal_Journal_Depth)

-- NOT PRINTED: function 12 (journal_Journal_List)

-- NOT PRINTED: function 3 (footbridgelaw10_JournalPlays)

-- NOT PRINTED: function 30 (journal_undo)

-- NOT PRINTED: function 15 (journal_Journal_Copy)

-- NOT PRINTED: function 4 (footbridgelaw10_JournalCopies)

/-! ### footbridgelaw10_JournalNone: function 5 -/
set_option maxHeartbeats 1000000 in
set_option maxRecDepth 100000 in
theorem jn_copy (w : World) : Calls Try.prog 15 #[.pointer none] w fun e w' => e = .returned (.pointer none) ∧ w' = w := by
  go_enter Try.func15, Try.ntmps15
  go_wp2
  go_ret
  exact ⟨rfl, rfl⟩
def footbridgelaw10_JournalNone.f (_a0_0 : Int) (_a0_1 _a0_2 : ByteArray) : Option Bool := some true
set_option maxHeartbeats 4000000 in
set_option maxRecDepth 100000 in
theorem footbridgelaw10_JournalNone.calls (a0_0 : Int) (a0_1 a0_2 : ByteArray) (r : Bool) (w : World) (h : footbridgelaw10_JournalNone.f a0_0 a0_1 a0_2 = some r) :
    Calls Try.prog 5 #[.agg #[.int .i64 a0_0, .string a0_1, .string a0_2]] w fun e w' => e = .returned (.bool r) ∧ Below w.heap.size w w' := by
  obtain rfl : true = r := Option.some.inj h
  clear h
  have hbx := my_alloc_new w (.cells #[.int .i64 a0_0, .string a0_1, .string a0_2] 33)
  have hc2 : (w.alloc (.cells #[.int .i64 a0_0, .string a0_1, .string a0_2] 33)).cell? ⟨w.heap.size, 1, none⟩ = some (.string a0_1) := (blk_cell hbx 1).trans rfl
  have hc3 : (w.alloc (.cells #[.int .i64 a0_0, .string a0_1, .string a0_2] 33)).cell? ⟨w.heap.size, 2, none⟩ = some (.string a0_2) := (blk_cell hbx 2).trans rfl
  have hb := Aside0.mk ((Below.refl w.heap.size w).alloc (Nat.le_refl _) (.cells #[.int .i64 a0_0, .string a0_1, .string a0_2] 33))
  have hlt : w.heap.size < (w.alloc (.cells #[.int .i64 a0_0, .string a0_1, .string a0_2] 33)).heap.size := by rw [my_alloc_size]; omega
  clear hbx
  by_cases hbig : a0_1.size > 1000 ∨ a0_2.size > 1000
  · by_cases hk : 1000 < a0_1.size
    all_goals
      have hv : 1000 < a0_1.size ∨ 1000 < (a0_2.size : Int) := by omega
      go_enter Try.func5, Try.ntmps5
      go_wp2_with fail
      refine (jn_get _ _).mono ?_
      rintro e w1 ⟨rfl, hw1⟩
      rw [hw1]
      clear hw1
      go_wp2_with fail
      refine (j_new_nil _).mono ?_
      rintro e w2 ⟨g, rfl, _, hb2⟩
      replace hc2 := (hb2.cell (p := ⟨w.heap.size, 1, none⟩) hlt).trans hc2
      replace hc3 := (hb2.cell (p := ⟨w.heap.size, 2, none⟩) hlt).trans hc3
      replace hb := Aside0.mk (hb.out.trans (hb2.mono hb.out.size))
      clear hb2
      go_wp2_with fail
      refine (jawake_calls _).mono ?_
      rintro e w3 ⟨rfl, hb3⟩
      replace hb := Aside0.mk (hb.out.trans (hb3.mono hb.out.size))
      clear hb3 hc2 hc3
      go_wp2
      go_ret
      exact ⟨rfl, hb.out⟩
  have hk : ¬ 1000 < a0_1.size := fun h => hbig (.inl h)
  have hv : ¬ 1000 < a0_2.size := fun h => hbig (.inr h)
  have hset : setE a0_1 a0_2 = 0 := by unfold setE; rw [if_neg (by omega)]
  clear hbig
  go_enter Try.func5, Try.ntmps5
  go_wp2_with fail
  refine (jn_get _ _).mono ?_
  rintro e w1 ⟨rfl, hw1⟩
  rw [hw1]
  clear hw1
  go_wp2_with fail
  refine (j_new_nil _).mono ?_
  rintro e w2 ⟨g, rfl, hj, hb2⟩
  replace hc2 := (hb2.cell (p := ⟨w.heap.size, 1, none⟩) hlt).trans hc2
  replace hc3 := (hb2.cell (p := ⟨w.heap.size, 2, none⟩) hlt).trans hc3
  replace hlt := Nat.lt_of_lt_of_le hlt hb2.size
  have hn := hb2.size
  replace hb := Aside0.mk (hb.out.trans (hb2.mono hb.out.size))
  clear hb2
  go_wp2_with fail
  refine (jn_set _ _ _).mono ?_
  rintro e w1 ⟨rfl, hw1⟩
  rw [hw1]
  clear hw1
  go_wp2_with fail
  refine (jn_del _ _).mono ?_
  rintro e w1 ⟨rfl, hw1⟩
  rw [hw1]
  clear hw1
  go_wp2_with fail
  refine (jn_begin _).mono ?_
  rintro e w1 ⟨rfl, hw1⟩
  rw [hw1]
  clear hw1
  go_wp2_with fail
  refine (jn_commit _).mono ?_
  rintro e w1 ⟨rfl, hw1⟩
  rw [hw1]
  clear hw1
  go_wp2_with fail
  refine (jn_rollback _).mono ?_
  rintro e w3 ⟨rfl, hb3⟩
  replace hc2 := (hb3.cell (p := ⟨w.heap.size, 1, none⟩) hlt).trans hc2
  replace hc3 := (hb3.cell (p := ⟨w.heap.size, 2, none⟩) hlt).trans hc3
  replace hlt := Nat.lt_of_lt_of_le hlt hb3.size
  replace hn := Nat.le_trans hn hb3.size
  replace hj := hj.below hb3
  replace hb := Aside0.mk (hb.out.trans (hb3.mono hb.out.size))
  clear hb3
  go_wp2_with fail
  refine (jn_depth _).mono ?_
  rintro e w1 ⟨rfl, hw1⟩
  rw [hw1]
  clear hw1
  go_wp2_with fail
  refine (jn_list _).mono ?_
  rintro e w1 ⟨rfl, hw1⟩
  rw [hw1]
  clear hw1
  go_wp2_with fail
  refine (jn_copy _).mono ?_
  rintro e w1 ⟨rfl, hw1⟩
  rw [hw1]
  clear hw1
  go_wp2_with fail
  refine (j_list _ _ _ _ _ hj (by simp)).mono ?_
  rintro e w4 ⟨v4, rfl, o4, hb4⟩
  obtain ⟨A4, c4, rfl, _, _⟩ := row_slice o4
  replace hc2 := (hb4.cell (p := ⟨w.heap.size, 1, none⟩) hlt).trans hc2
  replace hc3 := (hb4.cell (p := ⟨w.heap.size, 2, none⟩) hlt).trans hc3
  replace hn := Nat.le_trans hn hb4.size
  replace hj := hj.below hb4
  replace hb := Aside0.mk (hb.out.trans (hb4.mono hb.out.size))
  clear hb4 o4 hlt
  go_wp2_with fail
  refine (j_set _ _ _ _ a0_1 a0_2 _ hj (by simp) (by simp) (by simp) hn).mono ?_
  rintro e w5 hp
  obtain ⟨rfl, _, hb5, _⟩ := hp.fresh hn
  rw [hset]
  replace hb := Aside0.mk (hb.out.trans (hb5.mono (by first | assumption | (have := hb.out.size; rw [my_alloc_size]; omega) | omega)))
  clear hp hj hb5 hc2 hc3
  go_wp2_with fail
  refine (jawake_calls _).mono ?_
  rintro e w6 ⟨rfl, hb6⟩
  replace hb := Aside0.mk (hb.out.trans (hb6.mono hb.out.size))
  go_wp2
  go_ret
  exact ⟨rfl, hb.out⟩

end Go.Proofs.Ytcbaojkfffodiaa.PJou
