-- written by wip/myprint.py over the kit's print; not a printed text of print.sh
import Derived.Test.YtcbaojkfffodiaaPJoux0
import Derived.Test.YtcbaojkfffodiaaPJoux3
import Derived.Test.YtcbaojkfffodiaaPJoux4
import Derived.Test.YtcbaojkfffodiaaPJoux8
import Derived.Test.YtcbaojkfffodiaaPJoux9
import Derived.Test.YtcbaojkfffodiaaPJoux10
import Derived.Test.YtcbaojkfffodiaaPJoux11
import Derived.Test.YtcbaojkfffodiaaPJoux12
import Derived.Test.YtcbaojkfffodiaaPJoux15
namespace Go.Proofs.Ytcbaojkfffodiaa.PJou
open Go.RowKit Go.Proofs.YtcbaojkfffodiaaW.PrintWords Go.Proofs.YtcbaojkfffodiaaW.PrintLast Go.Proofs.YtcbaojkfffodiaaW.PrintMore
attribute [local go_sem] max2_int min2_int max_two min_two max_three min_three max_four min_four   -- for this text's walks alone
set_option linter.unusedVariables false
set_option linter.unusedSimpArgs false

/-! ### footbridgelaw10_awake: function 6 -/
theorem JPost.fresh {n g : Nat} {st' : JSt} {r : Value} {w w' : World} {e : Ending} (h : JPost n (fun k => n ≤ k) g st' r w e w') (hn : n ≤ w.heap.size) : e = .returned r ∧ JM n (fun k => n ≤ k) g st' w' ∧ Below n w w' ∧ n ≤ w'.heap.size :=
  ⟨h.1, h.2.1.mono (fun k hk => hk.elim id (fun h => Nat.le_trans hn h)), ⟨h.2.2.os, h.2.2.tape, h.2.2.output, h.2.2.size, fun i hi => h.2.2.block i (Nat.lt_of_lt_of_le hi hn) (fun e => by have e : n ≤ i := e; omega)⟩, Nat.le_trans hn h.2.2.size⟩
def jaA : S51 := ⟨⟨#[97]⟩, ⟨#[49]⟩⟩
def jaB : S51 := ⟨⟨#[97]⟩, ⟨#[50]⟩⟩
def juA : S65 := ⟨⟨#[97]⟩, ⟨#[49]⟩, true⟩
def juB : S65 := ⟨⟨#[97]⟩, ⟨#[50]⟩, true⟩
theorem jaw0 : freK [jaA] = [jaA] := by
  simp [freK, setK, hasK, posK, jaA]
theorem jaw1 : begJ ⟨[jaA], []⟩ = ⟨[jaA], [[]]⟩ := rfl
theorem jaw2 : setJ ⟨[jaA], [[]]⟩ ⟨#[97]⟩ ⟨#[50]⟩ = ⟨[jaB], [[juA]]⟩ ∧ setE ⟨#[97]⟩ ⟨#[50]⟩ = 0 := by
  simp [setJ, setE, noteJ, noteU, lvAt, getK, setK, hasK, posK, kLt, ByteArray.toList_eq, Op.bytesLess, jaA, jaB, juA, rd_T51, ByteArray.size]
theorem jaw3 : delJ ⟨[jaB], [[juA]]⟩ ⟨#[97]⟩ = ⟨[], [[juA, juB]]⟩ ∧ delE ⟨[jaB], [[juA]]⟩ ⟨#[97]⟩ = 0 := by
  simp [delJ, delE, noteJ, noteU, lvAt, getK, delK, hasK, posK, kLt, ByteArray.toList_eq, Op.bytesLess, jaB, juB, rd_T51]
theorem jaw4 : delJ ⟨[], [[juA, juB]]⟩ ⟨#[97]⟩ = ⟨[], [[juA, juB]]⟩ ∧ delE ⟨[], [[juA, juB]]⟩ ⟨#[97]⟩ = 8 := by
  simp [delJ, delE, hasK, posK]
theorem jaw5 : rolJ ⟨[], [[juA, juB]]⟩ = ⟨[jaA], []⟩ := by
  simp [rolJ, undoL, undo1, lvAt, setK, hasK, posK, kLt, ByteArray.toList_eq, Op.bytesLess, jaA, juA, juB]
theorem jaw6 : getK [jaA] ⟨#[97]⟩ = (⟨#[49]⟩, true) := by
  simp [getK, hasK, posK, kLt, ByteArray.toList_eq, Op.bytesLess, jaA, rd_T51]
set_option maxHeartbeats 4000000 in
set_option maxRecDepth 100000 in
theorem jawake_calls (w : World) : Calls Try.prog 6 #[] w fun e w' => e = .returned (.bool true) ∧ Below w.heap.size w w' := by
  have hb1 : Below w.heap.size w (w.alloc (.cells #[.string ⟨#[97]⟩, .string ⟨#[49]⟩] 51)) := (Below.refl _ w).alloc (Nat.le_refl _) _
  have hL : (w.alloc (.cells #[.string ⟨#[97]⟩, .string ⟨#[49]⟩] 51)).ownsRow 0 51 2 (.slice (some ⟨w.heap.size, 0, none⟩) 1 1) 1 (encP [jaA]) := World.ownsRow_lit (base := 0) (e := 51) (size := 2) w #[.string ⟨#[97]⟩, .string ⟨#[49]⟩] 1 (Nat.zero_le _) (by unfold maxLen; omega) rfl
  have hCL := (Kd.R_reads' (rows_R (l := [jaA]) (ok := fun _ => True) hL (fun _ _ => trivial))).2.2
  have hf := fresh_calls (some ⟨w.heap.size, 0, none⟩) 1 [jaA] _ hCL (Nat.le_refl _) (by simp)
  rw [jaw0] at hf
  clear hL hCL
  go_enter Try.func6, Try.ntmps6
  go_wp2_with fail
  refine hf.mono ?_
  rintro e w2 ⟨g, xv, n, rfl, hn1, hn2, hj2, _, hb2⟩
  have hwn : w.heap.size ≤ n := Nat.le_trans hb1.size hn1
  have hB2 := hb1.trans (hb2.mono hb1.size)
  clear hf hb2 hn1 hb1
  go_wp2_with fail
  refine (j_begin n g _ _ w2 hj2 (by simp) hn2).mono ?_
  rintro e w3 hp
  obtain ⟨rfl, hj3, hb3, hn3⟩ := hp.fresh hn2
  rw [jaw1] at hj3
  have hB3 := hB2.trans (hb3.mono hwn)
  clear hp hj2 hb3 hB2 hn2
  go_wp2_with fail
  refine (j_set n g _ _ _ _ w3 hj3 (by simp) (by simp) (by simp) hn3).mono ?_
  rintro e w4 hp
  obtain ⟨rfl, hj4, hb4, hn4⟩ := hp.fresh hn3
  rw [jaw2.1] at hj4
  rw [jaw2.2]
  have hB4 := hB3.trans (hb4.mono hwn)
  clear hp hj3 hb4 hB3 hn3
  go_wp2_with fail
  refine (j_del n g _ _ _ w4 hj4 (by simp) (by simp) (by simp) hn4).mono ?_
  rintro e w5 hp
  obtain ⟨rfl, hj5, hb5, hn5⟩ := hp.fresh hn4
  rw [jaw3.1] at hj5
  rw [jaw3.2]
  have hB5 := hB4.trans (hb5.mono hwn)
  clear hp hj4 hb5 hB4 hn4
  go_wp2_with fail
  refine (j_del n g _ _ _ w5 hj5 (by simp) (by simp) (by simp) hn5).mono ?_
  rintro e w6 hp
  obtain ⟨rfl, hj6, hb6, hn6⟩ := hp.fresh hn5
  rw [jaw4.1] at hj6
  rw [jaw4.2]
  have hB6 := hB5.trans (hb6.mono hwn)
  clear hp hj5 hb6 hB5 hn5
  go_wp2_with fail
  refine (j_rollback n g _ _ w6 hj6 (by simp) (by simp) (by simp [lvAt]) hn6).mono ?_
  rintro e w7 hp
  obtain ⟨rfl, hj7, hb7, hn7⟩ := hp.fresh hn6
  rw [jaw5] at hj7
  have hB7 := hB6.trans (hb7.mono hwn)
  clear hp hj6 hb7 hB6 hn6
  go_wp2_with fail
  refine (j_get n g _ _ _ w7 hj7 (by simp)).mono ?_
  rintro e w8 ⟨rfl, hb8⟩
  rw [jaw6]
  have hj8 := hj7.below hb8
  have hn8 := Nat.le_trans hn7 hb8.size
  have hB8 := hB7.trans (hb8.mono hB7.size)
  clear hj7 hb8 hB7 hn7
  go_wp2_with fail
  refine (j_roll0 n g _ _ w8 hj8 rfl).mono ?_
  rintro e w9 ⟨rfl, hb9⟩
  have hj9 := hj8.below hb9
  have hn9 := Nat.le_trans hn8 hb9.size
  have hB9 := hB8.trans (hb9.mono hB8.size)
  clear hj8 hb9 hB8 hn8
  go_wp2_with fail
  refine (j_commit0 n g _ _ w9 hj9 rfl).mono ?_
  rintro e w10 ⟨rfl, hw10⟩
  rw [hw10]
  clear hw10
  go_wp2_with fail
  refine (j_depth n g _ _ w9 hj9).mono ?_
  rintro e w10 ⟨rfl, hw10⟩
  rw [hw10]
  have hfin := Aside0.mk hB9
  clear hw10 hj9 hB9
  go_wp2
  go_ret
  exact ⟨rfl, hfin.out⟩

end Go.Proofs.Ytcbaojkfffodiaa.PJou
