-- written by wip/myprint.py over the kit's print; not a printed text of print.sh
import Derived.Test.YtfjneffmgmcdaaaPParx0
import Derived.Test.YtfjneffmgmcdaaaPParx3
import Derived.Test.YtfjneffmgmcdaaaPParx7
import Derived.Test.YtfjneffmgmcdaaaPParx11
namespace Go.Proofs.Ytfjneffmgmcdaaa.PPar
open Go.RowKit Go.Proofs.YtfjneffmgmcdaaaW.PrintWords Go.Proofs.YtfjneffmgmcdaaaW.PrintLast Go.Proofs.YtfjneffmgmcdaaaW.PrintMore
attribute [local go_sem] max2_int min2_int max_two min_two max_three min_three max_four min_four   -- for this text's walks alone
set_option linter.unusedVariables false
set_option linter.unusedSimpArgs false

/-! ### footbridgelaw09_PairsNone: function 14 -/
theorem none_after : True := by have _ := @footbridgelaw09_PairsCopies.calls; trivial
set_option maxHeartbeats 1000000 in
set_option maxRecDepth 100000 in
theorem none_get (key : ByteArray) (w : World) : Calls Try.prog 47 #[.pointer none, .string key] w fun e w' => e = .returned (.tuple #[.string ⟨#[]⟩, .bool false]) ∧ w' = w := by
  go_enter Try.func47, Try.ntmps47
  go_wp2
  go_ret2
  exact ⟨rfl, rfl⟩
set_option maxHeartbeats 1000000 in
set_option maxRecDepth 100000 in
theorem none_set (key value : ByteArray) (w : World) : Calls Try.prog 48 #[.pointer none, .string key, .string value] w fun e w' => e = .returned (.bool false) ∧ w' = w := by
  go_enter Try.func48, Try.ntmps48
  go_wp2
  go_ret
  exact ⟨rfl, rfl⟩
set_option maxHeartbeats 1000000 in
set_option maxRecDepth 100000 in
theorem none_del (key : ByteArray) (w : World) : Calls Try.prog 49 #[.pointer none, .string key] w fun e w' => e = .returned (.bool false) ∧ w' = w := by
  go_enter Try.func49, Try.ntmps49
  go_wp2
  go_ret
  exact ⟨rfl, rfl⟩
set_option maxHeartbeats 1000000 in
set_option maxRecDepth 100000 in
theorem none_len (w : World) : Calls Try.prog 43 #[.pointer none] w fun e w' => e = .returned (.int .i64 0) ∧ w' = w := by
  go_enter Try.func43, Try.ntmps43
  go_wp2
  go_ret
  exact ⟨rfl, rfl⟩
set_option maxHeartbeats 1000000 in
set_option maxRecDepth 100000 in
theorem none_copy (w : World) : Calls Try.prog 46 #[.pointer none] w fun e w' => e = .returned (.pointer none) ∧ w' = w := by
  go_enter Try.func46, Try.ntmps46
  go_wp2
  go_ret
  exact ⟨rfl, rfl⟩
set_option maxHeartbeats 1000000 in
set_option maxRecDepth 100000 in
theorem none_begins (pre0 : ByteArray) (w : World) : Calls Try.prog 76 #[.pointer none, .string pre0] w fun e w' => ∃ v', e = .returned v' ∧ w'.ownsRow w.heap.size 102 2 v' ([] : List S102).length (encP []) ∧ Below w.heap.size w w' := by
  have hb := Aside0.mk ((Below.refl _ w).alloc (Nat.le_refl _) (.cells #[.string pre0] 9))
  go_enter Try.func76, Try.ntmps76
  go_wp2
  go_step3
  go_wp2
  try rw [Exit.noGoto_ret]
  go_ret
  exact ⟨_, rfl, World.ownsRow_nil _ _ _ _, hb.out⟩
set_option maxHeartbeats 1000000 in
set_option maxRecDepth 100000 in
theorem none_list (w : World) : Calls Try.prog 45 #[.pointer none] w fun e w' => ∃ A c, e = .returned (.slice A 0 c) ∧ Below w.heap.size w w' := by
  have hbeg := none_begins ⟨#[]⟩ w
  go_enter Try.func45, Try.ntmps45
  go_wp2_with fail
  refine hbeg.mono ?_
  rintro e w2 ⟨v2, rfl, o2, hb2⟩
  clear hbeg
  obtain ⟨A2, c2, rfl, _, _⟩ := row_slice o2
  clear o2
  replace hb2 := Aside0.mk hb2
  go_wp2
  go_ret
  exact ⟨_, _, rfl, hb2.out⟩
def footbridgelaw09_PairsNone.f (_a0_0 _a0_1 : Int) (_a0_2 _a0_3 : ByteArray) : Option Bool := some true
set_option maxHeartbeats 2000000 in
set_option maxRecDepth 100000 in
theorem footbridgelaw09_PairsNone.calls (a0_0 a0_1 : Int) (a0_2 a0_3 : ByteArray) (r : Bool) (w : World) (h : footbridgelaw09_PairsNone.f a0_0 a0_1 a0_2 a0_3 = some r) :
    Calls Try.prog 14 #[.agg #[.int .i64 a0_0, .int .i64 a0_1, .string a0_2, .string a0_3]] w fun e w' => e = .returned (.bool r) ∧ Below w.heap.size w w' := by
  obtain rfl : true = r := Option.some.inj h
  clear h
  have hbx := my_alloc_new w (.cells #[.int .i64 a0_0, .int .i64 a0_1, .string a0_2, .string a0_3] 67)
  have hc2 : (w.alloc (.cells #[.int .i64 a0_0, .int .i64 a0_1, .string a0_2, .string a0_3] 67)).cell? ⟨w.heap.size, 2, none⟩ = some (.string a0_2) := (blk_cell hbx 2).trans rfl
  have hc3 : (w.alloc (.cells #[.int .i64 a0_0, .int .i64 a0_1, .string a0_2, .string a0_3] 67)).cell? ⟨w.heap.size, 3, none⟩ = some (.string a0_3) := (blk_cell hbx 3).trans rfl
  have hb := Aside0.mk ((Below.refl w.heap.size w).alloc (Nat.le_refl _) (.cells #[.int .i64 a0_0, .int .i64 a0_1, .string a0_2, .string a0_3] 67))
  clear hbx
  go_enter Try.func14, Try.ntmps14
  go_wp2_with fail
  refine (none_get _ _).mono ?_
  rintro e w1 ⟨rfl, rfl⟩
  go_wp2_with fail
  refine (none_set _ _ _).mono ?_
  rintro e w1 ⟨rfl, rfl⟩
  go_wp2_with fail
  refine (none_del _ _).mono ?_
  rintro e w1 ⟨rfl, rfl⟩
  go_wp2_with fail
  refine (none_len _).mono ?_
  rintro e w1 ⟨rfl, rfl⟩
  go_wp2_with fail
  refine (none_list _).mono ?_
  rintro e w1 ⟨A1, c1, rfl, hb1⟩
  replace hb := Aside0.mk (hb.out.trans (hb1.mono hb.out.size))
  clear hc3
  replace hc2 := (hb1.cell (p := ⟨w.heap.size, 2, none⟩) (by show w.heap.size < _; rw [my_alloc_size]; omega)).trans hc2
  clear hb1
  go_wp2_with fail
  refine (none_copy _).mono ?_
  rintro e w2 ⟨rfl, rfl⟩
  go_wp2_with fail
  refine (some_calls none a0_2 9 [] _ (by simp) (fun w1 _ => none_begins a0_2 w1)).mono ?_
  rintro e w3 ⟨v3, rfl, o3, hb3⟩
  obtain ⟨A3, c3, rfl, _, _⟩ := row_slice o3
  clear o3
  replace hb := Aside0.mk (hb.out.trans (hb3.mono hb.out.size))
  go_wp2_with fail
  refine (awake_calls _).mono ?_
  rintro e w4 ⟨rfl, hb4⟩
  replace hb := Aside0.mk (hb.out.trans (hb4.mono hb.out.size))
  go_wp2
  go_ret
  exact ⟨rfl, hb.out⟩

end Go.Proofs.Ytfjneffmgmcdaaa.PPar
