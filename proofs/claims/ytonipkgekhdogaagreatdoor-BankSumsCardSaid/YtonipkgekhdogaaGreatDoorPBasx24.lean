-- written by wip/myprint.py over the kit's print; not a printed text of print.sh
import Derived.Test.YtonipkgekhdogaaGreatDoorPBasx0
import Derived.Test.YtonipkgekhdogaaGreatDoorPBasx1
import Derived.Test.YtonipkgekhdogaaGreatDoorPBasx2
import Derived.Test.YtonipkgekhdogaaGreatDoorPBasx7
import Derived.Test.YtonipkgekhdogaaGreatDoorPBasx10
import Derived.Test.YtonipkgekhdogaaGreatDoorPBasx17
import Derived.Test.YtonipkgekhdogaaGreatDoorPBasx18
import Derived.Test.YtonipkgekhdogaaGreatDoorPBasx19
import Derived.Test.YtonipkgekhdogaaGreatDoorPBasx21
import Derived.Test.YtonipkgekhdogaaGreatDoorPBasx23
namespace Go.Proofs.YtonipkgekhdogaaGreatDoor.PBas
open Go.RowKit Go.Proofs.YtonipkgekhdogaaGreatDoorW.PrintWords Go.Proofs.YtonipkgekhdogaaGreatDoorW.PrintLast Go.Proofs.YtonipkgekhdogaaGreatDoorW.PrintMore
attribute [local go_sem] max2_int min2_int max_two min_two max_three min_three max_four min_four   -- for this text's walks alone
set_option linter.unusedVariables false
set_option linter.unusedSimpArgs false

attribute [local go_sem high] eqA73
/-! ### footbridgelaw47_awake: function 6 -/
-- @break
theorem run6 : nm_checkSpec 6 (⟨#[97, 108]⟩ : ByteArray) = 0 := nm_eq 6 _ (by decide) 60 0 (by kernel_rfl)
theorem run6b : nm_checkSpec 6 (⟨#[98, 111]⟩ : ByteArray) = 0 := nm_eq 6 _ (by decide) 60 0 (by kernel_rfl)
theorem run7 : nm_checkSpec 6 (⟨#[97, 47, 98]⟩ : ByteArray) = 7 := nm_eq 6 _ (by decide) 60 7 (by kernel_rfl)
/-! ### the layer's examples -/
def bkS1 : List S73 := [⟨(⟨#[97, 108, 108, 45, 99, 111, 105, 110, 115]⟩ : ByteArray), ⟨#[1, 5]⟩⟩, ⟨(⟨#[99, 111, 105, 110, 115, 47, 97, 108]⟩ : ByteArray), ⟨#[1, 5]⟩⟩]
def bkS2 : List S73 := [⟨(⟨#[97, 108, 108, 45, 99, 111, 105, 110, 115]⟩ : ByteArray), ⟨#[1, 5]⟩⟩, ⟨(⟨#[99, 111, 105, 110, 115, 47, 97, 108]⟩ : ByteArray), ⟨#[1, 3]⟩⟩, ⟨(⟨#[99, 111, 105, 110, 115, 47, 98, 111]⟩ : ByteArray), ⟨#[1, 2]⟩⟩]
def bkS3 : List S73 := [⟨(⟨#[97, 108, 108, 45, 99, 111, 105, 110, 115]⟩ : ByteArray), ⟨#[1, 4]⟩⟩, ⟨(⟨#[99, 111, 105, 110, 115, 47, 97, 108]⟩ : ByteArray), ⟨#[1, 3]⟩⟩, ⟨(⟨#[99, 111, 105, 110, 115, 47, 98, 111]⟩ : ByteArray), ⟨#[1, 1]⟩⟩]
theorem bkkA : keyB (⟨#[99, 111, 105, 110, 115]⟩ : ByteArray) [(⟨#[97, 108]⟩ : ByteArray)] = (⟨#[99, 111, 105, 110, 115, 47, 97, 108]⟩ : ByteArray) := by
  simp [keyB, keyL, glue, hidL, ofL, ByteArray.toList_eq]
theorem bkkB : keyB (⟨#[99, 111, 105, 110, 115]⟩ : ByteArray) [(⟨#[98, 111]⟩ : ByteArray)] = (⟨#[99, 111, 105, 110, 115, 47, 98, 111]⟩ : ByteArray) := by
  simp [keyB, keyL, glue, hidL, ofL, ByteArray.toList_eq]
theorem bkn1 : numB 1 = (⟨#[1, 1]⟩ : ByteArray) := by decide +kernel
theorem bkn2 : numB 2 = (⟨#[1, 2]⟩ : ByteArray) := by decide +kernel
theorem bkn3 : numB 3 = (⟨#[1, 3]⟩ : ByteArray) := by decide +kernel
theorem bkn4 : numB 4 = (⟨#[1, 4]⟩ : ByteArray) := by decide +kernel
theorem bkn5 : numB 5 = (⟨#[1, 5]⟩ : ByteArray) := by decide +kernel
theorem bkr1 : rNum (⟨#[1, 1]⟩ : ByteArray) 0 = (1, (⟨#[]⟩ : ByteArray), 0) := by decide +kernel
theorem bkr2 : rNum (⟨#[1, 2]⟩ : ByteArray) 0 = (2, (⟨#[]⟩ : ByteArray), 0) := by decide +kernel
theorem bkr3 : rNum (⟨#[1, 3]⟩ : ByteArray) 0 = (3, (⟨#[]⟩ : ByteArray), 0) := by decide +kernel
theorem bkr4 : rNum (⟨#[1, 4]⟩ : ByteArray) 0 = (4, (⟨#[]⟩ : ByteArray), 0) := by decide +kernel
theorem bkr5 : rNum (⟨#[1, 5]⟩ : ByteArray) 0 = (5, (⟨#[]⟩ : ByteArray), 0) := by decide +kernel
theorem bkr0 : rNum (⟨#[]⟩ : ByteArray) 0 = (0, (⟨#[]⟩ : ByteArray), 5) := by decide +kernel
theorem bkd0 : rDone (⟨#[]⟩ : ByteArray) 0 = 0 := by simp [rDone, ByteArray.toList_eq]
theorem bkd5 : rDone (⟨#[]⟩ : ByteArray) 5 = 5 := by simp [rDone]
theorem bq1 : numK [] (⟨#[99, 111, 105, 110, 115, 47, 97, 108]⟩ : ByteArray) = 0 := by
  simp [numK, getK, hasK, posK, kLt, ByteArray.toList_eq, Op.bytesLess, rd_T73, bkd0, bkd5, bkr0, bkr1, bkr2, bkr3, bkr4, bkr5]
theorem bq2 : numK [] (⟨#[97, 108, 108, 45, 99, 111, 105, 110, 115]⟩ : ByteArray) = 0 := by
  simp [numK, getK, hasK, posK, kLt, ByteArray.toList_eq, Op.bytesLess, rd_T73, bkd0, bkd5, bkr0, bkr1, bkr2, bkr3, bkr4, bkr5]
theorem bq3 : numK bkS1 (⟨#[99, 111, 105, 110, 115, 47, 97, 108]⟩ : ByteArray) = 5 := by
  simp [numK, getK, hasK, posK, kLt, ByteArray.toList_eq, Op.bytesLess, rd_T73, bkd0, bkd5, bkr0, bkr1, bkr2, bkr3, bkr4, bkr5, bkS1]
theorem bq4 : numK bkS1 (⟨#[97, 108, 108, 45, 99, 111, 105, 110, 115]⟩ : ByteArray) = 5 := by
  simp [numK, getK, hasK, posK, kLt, ByteArray.toList_eq, Op.bytesLess, rd_T73, bkd0, bkd5, bkr0, bkr1, bkr2, bkr3, bkr4, bkr5, bkS1]
theorem bq5 : numK bkS1 (⟨#[99, 111, 105, 110, 115, 47, 98, 111]⟩ : ByteArray) = 0 := by
  simp [numK, getK, hasK, posK, kLt, ByteArray.toList_eq, Op.bytesLess, rd_T73, bkd0, bkd5, bkr0, bkr1, bkr2, bkr3, bkr4, bkr5, bkS1]
theorem bq6 : numK bkS2 (⟨#[99, 111, 105, 110, 115, 47, 98, 111]⟩ : ByteArray) = 2 := by
  simp [numK, getK, hasK, posK, kLt, ByteArray.toList_eq, Op.bytesLess, rd_T73, bkd0, bkd5, bkr0, bkr1, bkr2, bkr3, bkr4, bkr5, bkS2]
theorem bq7 : numK bkS2 (⟨#[97, 108, 108, 45, 99, 111, 105, 110, 115]⟩ : ByteArray) = 5 := by
  simp [numK, getK, hasK, posK, kLt, ByteArray.toList_eq, Op.bytesLess, rd_T73, bkd0, bkd5, bkr0, bkr1, bkr2, bkr3, bkr4, bkr5, bkS2]
theorem bq8 : numK bkS3 (⟨#[99, 111, 105, 110, 115, 47, 97, 108]⟩ : ByteArray) = 3 := by
  simp [numK, getK, hasK, posK, kLt, ByteArray.toList_eq, Op.bytesLess, rd_T73, bkd0, bkd5, bkr0, bkr1, bkr2, bkr3, bkr4, bkr5, bkS3]
theorem bq9 : numK bkS3 (⟨#[99, 111, 105, 110, 115, 47, 98, 111]⟩ : ByteArray) = 1 := by
  simp [numK, getK, hasK, posK, kLt, ByteArray.toList_eq, Op.bytesLess, rd_T73, bkd0, bkd5, bkr0, bkr1, bkr2, bkr3, bkr4, bkr5, bkS3]
theorem bq10 : numK bkS3 (⟨#[97, 108, 108, 45, 99, 111, 105, 110, 115]⟩ : ByteArray) = 4 := by
  simp [numK, getK, hasK, posK, kLt, ByteArray.toList_eq, Op.bytesLess, rd_T73, bkd0, bkd5, bkr0, bkr1, bkr2, bkr3, bkr4, bkr5, bkS3]
theorem bkc1 (n : Int) (h : 1 ≤ n ∧ n ≤ 10) : bkChk n [(⟨#[97, 108]⟩ : ByteArray)] = 0 := by
  unfold bkChk
  rw [if_pos (by simp [run6]), if_neg (by omega)]
theorem bkc2 (n : Int) (h : 1 ≤ n ∧ n ≤ 10) : bkChk n [(⟨#[98, 111]⟩ : ByteArray)] = 0 := by
  unfold bkChk
  rw [if_pos (by simp [run6b]), if_neg (by omega)]
theorem bkc3 (n : Int) (h : 1 ≤ n ∧ n ≤ 10) : bkChk n [(⟨#[97, 108]⟩ : ByteArray), (⟨#[98, 111]⟩ : ByteArray)] = 0 := by
  unfold bkChk
  rw [if_pos (by simp [run6, run6b]), if_neg (by omega)]
theorem bkc4 : bkChk 1 [(⟨#[97, 47, 98]⟩ : ByteArray)] = 7 := by
  unfold bkChk
  rw [if_neg (by simp [run7])]
theorem bkc5 : bkChk 0 [(⟨#[97, 108]⟩ : ByteArray)] = 3 := by
  unfold bkChk
  rw [if_pos (by simp [run6]), if_pos (by omega)]
theorem bks1 : bkSet [] (⟨#[99, 111, 105, 110, 115, 47, 97, 108]⟩ : ByteArray) 5 = [⟨(⟨#[99, 111, 105, 110, 115, 47, 97, 108]⟩ : ByteArray), ⟨#[1, 5]⟩⟩] ∧ bkSet [⟨(⟨#[99, 111, 105, 110, 115, 47, 97, 108]⟩ : ByteArray), ⟨#[1, 5]⟩⟩] (⟨#[97, 108, 108, 45, 99, 111, 105, 110, 115]⟩ : ByteArray) 5 = bkS1 := by
  simp [bkn5, bkSet, bkNum, setC, setK, delK, hasK, posK, kLt, ByteArray.toList_eq, Op.bytesLess, ByteArray.size, bkS1]
theorem bkw1 : bkGiveE [] (⟨#[97, 108]⟩ : ByteArray) 5 = 0 ∧ bkGive [] (⟨#[97, 108]⟩ : ByteArray) 5 = bkS1 := by
  have e : bkGiveE [] (⟨#[97, 108]⟩ : ByteArray) 5 = 0 := by
    unfold bkGiveE bkAll
    rw [bkc1 5 (by omega), if_pos rfl, bq2, if_neg (by omega)]
  refine ⟨e, ?_⟩
  unfold bkGive bkOf bkAll
  rw [if_pos e, bkkA, bq1, bq2, show (0 + 5 : Int) = 5 from rfl, bks1.1, bks1.2]
theorem bkw2 : bkPayE bkS1 (⟨#[97, 108]⟩ : ByteArray) (⟨#[98, 111]⟩ : ByteArray) 6 = 21 ∧ bkPay bkS1 (⟨#[97, 108]⟩ : ByteArray) (⟨#[98, 111]⟩ : ByteArray) 6 = bkS1 := by
  have e : bkPayE bkS1 (⟨#[97, 108]⟩ : ByteArray) (⟨#[98, 111]⟩ : ByteArray) 6 = 21 := by
    unfold bkPayE bkOf
    rw [bkc3 6 (by omega), if_pos rfl, bkkA, bq3, if_pos (by omega)]
  exact ⟨e, if_neg (by rw [e]; decide)⟩
def bkT1 : List S73 := [⟨(⟨#[97, 108, 108, 45, 99, 111, 105, 110, 115]⟩ : ByteArray), ⟨#[1, 5]⟩⟩, ⟨(⟨#[99, 111, 105, 110, 115, 47, 97, 108]⟩ : ByteArray), ⟨#[1, 3]⟩⟩]
theorem bks2 : bkSet bkS1 (⟨#[99, 111, 105, 110, 115, 47, 97, 108]⟩ : ByteArray) 3 = bkT1 ∧ bkSet bkT1 (⟨#[99, 111, 105, 110, 115, 47, 98, 111]⟩ : ByteArray) 2 = bkS2 := by
  simp [bkn3, bkn2, bkSet, bkNum, setC, setK, delK, hasK, posK, kLt, ByteArray.toList_eq, Op.bytesLess, ByteArray.size, bkS1, bkT1, bkS2]
theorem bq11 : numK bkT1 (⟨#[99, 111, 105, 110, 115, 47, 98, 111]⟩ : ByteArray) = 0 := by
  simp [numK, getK, hasK, posK, kLt, ByteArray.toList_eq, Op.bytesLess, rd_T73, bkd0, bkd5, bkr0, bkr1, bkr2, bkr3, bkr4, bkr5, bkT1]
theorem bkw3 : bkPayE bkS1 (⟨#[97, 108]⟩ : ByteArray) (⟨#[98, 111]⟩ : ByteArray) 2 = 0 ∧ bkPay bkS1 (⟨#[97, 108]⟩ : ByteArray) (⟨#[98, 111]⟩ : ByteArray) 2 = bkS2 := by
  have e : bkPayE bkS1 (⟨#[97, 108]⟩ : ByteArray) (⟨#[98, 111]⟩ : ByteArray) 2 = 0 := by
    unfold bkPayE bkOf
    rw [bkc3 2 (by omega), if_pos rfl, bkkA, bq3, if_neg (by omega)]
  refine ⟨e, ?_⟩
  unfold bkPay bkPay1 bkOf
  rw [if_pos e, bkkA, bkkB, bq3, show (5 - 2 : Int) = 3 from rfl, bks2.1, bq11, show (0 + 2 : Int) = 2 from rfl, bks2.2]
def bkT2 : List S73 := [⟨(⟨#[97, 108, 108, 45, 99, 111, 105, 110, 115]⟩ : ByteArray), ⟨#[1, 5]⟩⟩, ⟨(⟨#[99, 111, 105, 110, 115, 47, 97, 108]⟩ : ByteArray), ⟨#[1, 3]⟩⟩, ⟨(⟨#[99, 111, 105, 110, 115, 47, 98, 111]⟩ : ByteArray), ⟨#[1, 1]⟩⟩]
theorem bks3 : bkSet bkS2 (⟨#[99, 111, 105, 110, 115, 47, 98, 111]⟩ : ByteArray) 1 = bkT2 ∧ bkSet bkT2 (⟨#[97, 108, 108, 45, 99, 111, 105, 110, 115]⟩ : ByteArray) 4 = bkS3 := by
  simp [bkn1, bkn4, bkSet, bkNum, setC, setK, delK, hasK, posK, kLt, ByteArray.toList_eq, Op.bytesLess, ByteArray.size, bkS2, bkT2, bkS3]
theorem bkw4 : bkTakeE bkS2 (⟨#[98, 111]⟩ : ByteArray) 1 = 0 ∧ bkTake bkS2 (⟨#[98, 111]⟩ : ByteArray) 1 = bkS3 := by
  have e : bkTakeE bkS2 (⟨#[98, 111]⟩ : ByteArray) 1 = 0 := by
    unfold bkTakeE bkOf
    rw [bkc2 1 (by omega), if_pos rfl, bkkB, bq6, if_neg (by omega)]
  refine ⟨e, ?_⟩
  unfold bkTake bkOf bkAll
  rw [if_pos e, bkkB, bq6, bq7, show (2 - 1 : Int) = 1 from rfl, bks3.1, show (5 - 1 : Int) = 4 from rfl, bks3.2]
theorem bkw5 : bkOf bkS3 (⟨#[97, 108]⟩ : ByteArray) = 3 ∧ bkOf bkS3 (⟨#[98, 111]⟩ : ByteArray) = 1 ∧ bkAll bkS3 = 4 := by
  unfold bkOf bkAll
  rw [bkkA, bkkB, bq8, bq9, bq10]
  exact ⟨rfl, rfl, rfl⟩
theorem bkw6 : bkGiveE bkS3 (⟨#[97, 47, 98]⟩ : ByteArray) 1 = 7 ∧ bkGive bkS3 (⟨#[97, 47, 98]⟩ : ByteArray) 1 = bkS3 := by
  have e : bkGiveE bkS3 (⟨#[97, 47, 98]⟩ : ByteArray) 1 = 7 := by
    unfold bkGiveE
    rw [bkc4]; rfl
  exact ⟨e, if_neg (by rw [e]; decide)⟩
theorem bkw7 : bkGiveE bkS3 (⟨#[97, 108]⟩ : ByteArray) 0 = 3 ∧ bkGive bkS3 (⟨#[97, 108]⟩ : ByteArray) 0 = bkS3 := by
  have e : bkGiveE bkS3 (⟨#[97, 108]⟩ : ByteArray) 0 = 3 := by
    unfold bkGiveE
    rw [bkc5]; rfl
  exact ⟨e, if_neg (by rw [e]; decide)⟩
theorem bkS1_KV : KV 100000 bkS1 := ⟨by simp [sortK, bkS1, kLt, ByteArray.toList_eq, Op.bytesLess], by show 2 ≤ 100000; omega, fun p hp => by simp only [bkS1, List.mem_cons, List.not_mem_nil, or_false] at hp; rcases hp with rfl | rfl <;> (show 2 ≤ 65536; omega)⟩
theorem bkS2_KV : KV 100000 bkS2 := ⟨by simp [sortK, bkS2, kLt, ByteArray.toList_eq, Op.bytesLess], by show 3 ≤ 100000; omega, fun p hp => by simp only [bkS2, List.mem_cons, List.not_mem_nil, or_false] at hp; rcases hp with rfl | rfl | rfl <;> (show 2 ≤ 65536; omega)⟩
theorem bkS3_KV : KV 100000 bkS3 := ⟨by simp [sortK, bkS3, kLt, ByteArray.toList_eq, Op.bytesLess], by show 3 ≤ 100000; omega, fun p hp => by simp only [bkS3, List.mem_cons, List.not_mem_nil, or_false] at hp; rcases hp with rfl | rfl | rfl <;> (show 2 ≤ 65536; omega)⟩
set_option maxHeartbeats 4000000 in
set_option maxRecDepth 100000 in
theorem bkaw_calls (w : World) : Calls Tryz.prog 6 #[] w fun e w' => e = .returned (.bool true) ∧ Below w.heap.size w w' := by
  have k1 := bkS3_KV.mono (show 100000 ≤ 1000000 by omega)
  go_enter Tryz.func6, Tryz.ntmps6
  go_wp2_with fail
  refine (j_new_nil w).mono ?_
  rintro e w1 ⟨g, rfl, hm, hb⟩
  have HB1 := Aside0.mk hb
  have HJ := Aside0.mk (JS.start hm hb.size)
  have HK := Aside0.mk (JK.of_below hb)
  clear hm hb
  go_wp2_with fail
  refine (bk_give (⟨#[97, 108]⟩ : ByteArray) 5 0 bkS1 HJ.out (KV.nil _) (by decide) bkw1.1 bkw1.2).mono ?_
  rintro e w2 ⟨rfl, hj, hk⟩
  have n_HK := Aside0.mk (HK.out.trans hk)
  have n_HJ := Aside0.mk (hj)
  clear HK HJ
  have HK := n_HK
  have HJ := n_HJ
  clear n_HK n_HJ
  clear hj hk
  go_wp2_with fail
  refine (bk_pay (⟨#[97, 108]⟩ : ByteArray) (⟨#[98, 111]⟩ : ByteArray) 6 21 bkS1 HJ.out bkS1_KV (by decide) (by decide) bkw2.1 bkw2.2).mono ?_
  rintro e w3 ⟨rfl, hj, hk⟩
  have n_HK := Aside0.mk (HK.out.trans hk)
  have n_HJ := Aside0.mk (hj)
  clear HK HJ
  have HK := n_HK
  have HJ := n_HJ
  clear n_HK n_HJ
  clear hj hk
  go_wp2_with fail
  refine (bk_pay (⟨#[97, 108]⟩ : ByteArray) (⟨#[98, 111]⟩ : ByteArray) 2 0 bkS2 HJ.out bkS1_KV (by decide) (by decide) bkw3.1 bkw3.2).mono ?_
  rintro e w4 ⟨rfl, hj, hk⟩
  have n_HK := Aside0.mk (HK.out.trans hk)
  have n_HJ := Aside0.mk (hj)
  clear HK HJ
  have HK := n_HK
  have HJ := n_HJ
  clear n_HK n_HJ
  clear hj hk
  go_wp2_with fail
  refine (bk_take (⟨#[98, 111]⟩ : ByteArray) 1 0 bkS3 HJ.out bkS2_KV (by decide) bkw4.1 bkw4.2).mono ?_
  rintro e w5 ⟨rfl, hj, hk⟩
  have n_HK := Aside0.mk (HK.out.trans hk)
  have n_HJ := Aside0.mk (hj)
  clear HK HJ
  have HK := n_HK
  have HJ := n_HJ
  clear n_HK n_HJ
  clear hj hk
  go_wp2_with fail
  refine (bk_of (⟨#[97, 108]⟩ : ByteArray) 3 HJ.out k1 (by decide) bkw5.1).mono ?_
  rintro e w6 ⟨rfl, hb⟩
  have n_HK := Aside0.mk (HK.out.trans (JK.of_below hb))
  have n_HJ := Aside0.mk (JS.below (base := w.heap.size) (ok := fun k => w.heap.size ≤ k) (w0 := w1) (g := g) (cur := bkS3) (by first | exact HJ.out | ((with_reducible repeat (first | apply JS.drewN | apply JS.drew | apply JS.alloc)); exact HJ.out)) hb)
  clear HK HJ
  have HK := n_HK
  have HJ := n_HJ
  clear n_HK n_HJ
  clear hb
  go_wp2_with fail
  refine (bk_of (⟨#[98, 111]⟩ : ByteArray) 1 HJ.out k1 (by decide) bkw5.2.1).mono ?_
  rintro e w7 ⟨rfl, hb⟩
  have n_HK := Aside0.mk (HK.out.trans (JK.of_below hb))
  have n_HJ := Aside0.mk (JS.below (base := w.heap.size) (ok := fun k => w.heap.size ≤ k) (w0 := w1) (g := g) (cur := bkS3) (by first | exact HJ.out | ((with_reducible repeat (first | apply JS.drewN | apply JS.drew | apply JS.alloc)); exact HJ.out)) hb)
  clear HK HJ
  have HK := n_HK
  have HJ := n_HJ
  clear n_HK n_HJ
  clear hb
  go_wp2_with fail
  refine (bk_all 4 HJ.out k1 bkw5.2.2).mono ?_
  rintro e w8 ⟨rfl, hb⟩
  have n_HK := Aside0.mk (HK.out.trans (JK.of_below hb))
  have n_HJ := Aside0.mk (JS.below (base := w.heap.size) (ok := fun k => w.heap.size ≤ k) (w0 := w1) (g := g) (cur := bkS3) (by first | exact HJ.out | ((with_reducible repeat (first | apply JS.drewN | apply JS.drew | apply JS.alloc)); exact HJ.out)) hb)
  clear HK HJ
  have HK := n_HK
  have HJ := n_HJ
  clear n_HK n_HJ
  clear hb
  go_wp2_with fail
  refine (bk_give (⟨#[97, 47, 98]⟩ : ByteArray) 1 7 bkS3 HJ.out bkS3_KV (by decide) bkw6.1 bkw6.2).mono ?_
  rintro e w9 ⟨rfl, hj, hk⟩
  have n_HK := Aside0.mk (HK.out.trans hk)
  have n_HJ := Aside0.mk (hj)
  clear HK HJ
  have HK := n_HK
  have HJ := n_HJ
  clear n_HK n_HJ
  clear hj hk
  go_wp2_with fail
  refine (bk_give (⟨#[97, 108]⟩ : ByteArray) 0 3 bkS3 HJ.out bkS3_KV (by decide) bkw7.1 bkw7.2).mono ?_
  rintro e w10 ⟨rfl, hj, hk⟩
  have n_HK := Aside0.mk (HK.out.trans hk)
  have n_HJ := Aside0.mk (hj)
  clear HK HJ
  have HK := n_HK
  have HJ := n_HJ
  clear n_HK n_HJ
  clear hj hk
  go_wp2_with fail
  refine (bkn_give (⟨#[97, 108]⟩ : ByteArray) 1 _).mono ?_
  rintro e w11 ⟨rfl, hb⟩
  have n_HK := Aside0.mk (HK.out.trans (JK.of_below hb))
  have n_HJ := Aside0.mk (JS.below (base := w.heap.size) (ok := fun k => w.heap.size ≤ k) (w0 := w1) (g := g) (cur := bkS3) (by first | exact HJ.out | ((with_reducible repeat (first | apply JS.drewN | apply JS.drew | apply JS.alloc)); exact HJ.out)) hb)
  clear HK HJ
  have HK := n_HK
  have HJ := n_HJ
  clear n_HK n_HJ
  clear hb
  go_wp2_with fail
  refine (bkn_all _).mono ?_
  rintro e w12 ⟨rfl, hb⟩
  have n_HK := Aside0.mk (HK.out.trans (JK.of_below hb))
  have n_HJ := Aside0.mk (JS.below (base := w.heap.size) (ok := fun k => w.heap.size ≤ k) (w0 := w1) (g := g) (cur := bkS3) (by first | exact HJ.out | ((with_reducible repeat (first | apply JS.drewN | apply JS.drew | apply JS.alloc)); exact HJ.out)) hb)
  clear HK HJ
  have HK := n_HK
  have HJ := n_HJ
  clear n_HK n_HJ
  clear hb
  have hfin := Aside0.mk (JW.toBelow HB1.out HB1.out.size HJ.out.jw (fun k hk => hk))
  clear HJ HK
  go_wp2
  go_ret
  exact ⟨rfl, hfin.out⟩

/-! ### footbridgeref09_Same: function 14 -/
def footbridgeref09_Same.l0 : Nat → List (S73) → List (S73) → Int → Option (Bool)
  | 0, _, _, _ => none
  | k + 1, x0, x1, x5 => if x5 < (x0.length : Int) then (if 0 ≤ x5 then (if x5 < (x1.length : Int) then (if (!((((rd_T73 x0 x5).f0).toList) == (((rd_T73 x1 x5).f0).toList)) || (!((((rd_T73 x0 x5).f1).toList) == (((rd_T73 x1 x5).f1).toList)))) = true then (some false) else (footbridgeref09_Same.l0 k x0 x1 (wrap64 (x5 + 1)))) else (none)) else (none)) else (some true)
def footbridgeref09_Same.f (k : Nat) (l0 : List (S73)) (l1 : List (S73)) : Option (Bool) := if (l0.length : Int) = (l1.length : Int) then (footbridgeref09_Same.l0 k l0 l1 0) else (some false)
theorem footbridgeref09_Same.mono_l : ∀ k, (∀ y0 y1 y2, LeO (footbridgeref09_Same.l0 k y0 y1 y2) (footbridgeref09_Same.l0 (k + 1) y0 y1 y2))
  | 0 => fun _ _ _ r h => by simp [footbridgeref09_Same.l0] at h
  | k + 1 => by
    have ih0 := footbridgeref09_Same.mono_l k
    · intro y0 y1 y2
      unfold footbridgeref09_Same.l0
      repeat' first
      | (with_reducible exact ih0 _ _ _)
      | (with_reducible exact LeO.refl _)
      | (with_reducible exact LeO.none _)
      | (with_reducible refine LeO.ite ?_ ?_)
      | (with_reducible refine LeO.bind ?_ (fun _ => ?_))
      | exact ih0 _ _ _
      | exact LeO.none _
      | refine LeO.ite ?_ ?_
      | refine LeO.bind ?_ (fun _ => ?_)
theorem footbridgeref09_Same.mono : ∀ a0 a1 k, LeO (footbridgeref09_Same.f k a0 a1) (footbridgeref09_Same.f (k + 1) a0 a1) := by
  intro a0 a1 k
  have ih0 := footbridgeref09_Same.mono_l k
  unfold footbridgeref09_Same.f
  repeat' first
      | (with_reducible exact ih0 _ _ _)
      | (with_reducible exact LeO.refl _)
      | (with_reducible exact LeO.none _)
      | (with_reducible refine LeO.ite ?_ ?_)
      | (with_reducible refine LeO.bind ?_ (fun _ => ?_))
      | exact ih0 _ _ _
      | exact LeO.none _
      | refine LeO.ite ?_ ?_
      | refine LeO.bind ?_ (fun _ => ?_)
set_option maxHeartbeats 8000000 in
set_option maxRecDepth 100000 in
theorem footbridgeref09_Same.calls (k : Nat) (A0 : Option Addr) (c0 : Nat) (l0 : List (S73)) (A1 : Option Addr) (c1 : Nat) (l1 : List (S73)) (r : Bool) (w : World) (hr0 : Kd.C k73 w A0 l0.length l0) (hc0 : l0.length ≤ c0) (hr1 : Kd.C k73 w A1 l1.length l1) (hc1 : l1.length ≤ c1) (h : footbridgeref09_Same.f k l0 l1 = some r) :
    Calls Tryz.prog 14 #[.slice A0 l0.length c0, .slice A1 l1.length c1] w fun e w' => e = .returned (.bool r) ∧ Drawn0 w w' := by
  have hu73 := Tryz.underlying73
  have HR0 := Aside0.mk hr0
  have HC0 := Aside0.mk hc0
  clear hr0 hc0
  have HR1 := Aside0.mk hr1
  have HC1 := Aside0.mk hc1
  clear hr1 hc1
  have H : (if (l0.length : Int) = (l1.length : Int) then (footbridgeref09_Same.l0 k l0 l1 0) else (some false)) = some r := h
  clear h
  by_cases c3 : (l0.length : Int) = (l1.length : Int)
  · rw [if_pos c3] at H
    have c3b0 : ((l0.length : Int) == (l1.length : Int)) = true := beq_iff_eq.mpr c3
    have c3b1 : ((l0.length : Int) != (l1.length : Int)) = false := bne_eq_false_iff_eq.mpr c3
    have c3b2 : (l0.length == l1.length) = true := by first | simpa using c3 | (simp at c3 ⊢; omega)
    clear c3
    have H' := Aside0.mk H
    clear H
    go_enter Tryz.func14, Tryz.ntmps14
    go_wp2
    repeat (go_quiet (fail); try go_wp2)
    go_loopg [5] k (fun kq v5 w' => ∃ (x5_1 : Int), v5 = .int .i64 x5_1 ∧ Aside0 (footbridgeref09_Same.l0 kq l0 l1 x5_1 = some r) ∧ Aside0 (kq ≤ k) ∧ Drawn0 w w')
    case atStart => exact ⟨(0), (by first | rfl | (simp; done) | (simp [*]; done)), H', ⟨Nat.le_refl _⟩, by repeat (first | exact Drawn0.refl _ | apply Drawn0.step)⟩
    case round =>
      clear H'
      try clear c1
      try clear p2
      try clear c3
      try clear c3b0
      try clear c3b1
      try clear c3b2
      obtain ⟨x5_1, rfl, HA, HK1, ⟨m1, rfl⟩⟩ := hrel
      cases gk with
      | zero => exact absurd HA.out (by simp [footbridgeref09_Same.l0])
      | succ k1 =>
        have H := HA.out
        clear HA
        simp only [footbridgeref09_Same.l0] at H
        by_cases c4 : x5_1 < (l0.length : Int)
        · rw [if_pos c4] at H
          have c4b0 : decide (x5_1 < (l0.length : Int)) = true := decide_eq_true c4
          clear c4
          by_cases c5 : 0 ≤ x5_1
          · rw [if_pos c5] at H
            have c5b0 : decide (0 ≤ x5_1) = true := decide_eq_true c5
            clear c5
            by_cases c6 : x5_1 < (l1.length : Int)
            · rw [if_pos c6] at H
              have c6b0 : decide (x5_1 < (l1.length : Int)) = true := decide_eq_true c6
              clear c6
              by_cases c7 : (!((((rd_T73 l0 x5_1).f0).toList) == (((rd_T73 l1 x5_1).f0).toList)) || (!((((rd_T73 l0 x5_1).f1).toList) == (((rd_T73 l1 x5_1).f1).toList)))) = true
              · rw [if_pos c7] at H
                have c7b0 : (!((((rd_T73 l0 x5_1).f0).toList) == (((rd_T73 l1 x5_1).f0).toList)) || (!((((rd_T73 l0 x5_1).f1).toList) == (((rd_T73 l1 x5_1).f1).toList)))) = true := c7
                clear c7
                obtain rfl := Option.some.inj H
                have p132 : 0 ≤ (x5_1 : Int) := of_decide_eq_true (by first | (with_reducible assumption) | assumption)
                have q132 : x5_1 < (l0.length : Int) := of_decide_eq_true (by first | (with_reducible assumption) | assumption)
                obtain ⟨ad132, e132, hx132_0, hx132_1⟩ := at_T73 HR0.out x5_1 p132 q132
                cases e132
                replace p132 := eq_true p132
                replace q132 := eq_true q132
                have p133 : 0 ≤ (x5_1 : Int) := of_decide_eq_true (by first | (with_reducible assumption) | assumption)
                have q133 : x5_1 < (l1.length : Int) := of_decide_eq_true (by first | (with_reducible assumption) | assumption)
                obtain ⟨ad133, e133, hx133_0, hx133_1⟩ := at_T73 HR1.out x5_1 p133 q133
                cases e133
                replace p133 := eq_true p133
                replace q133 := eq_true q133
                go_wp2
                repeat (go_quiet (fail); try go_wp2)
                go_ret
                exact ⟨by first | rfl | (simp; done) | (simp [*]; done), by repeat (first | exact Drawn0.refl _ | apply Drawn0.step)⟩
              · rw [if_neg c7] at H
                have c7b0 : (!((((rd_T73 l0 x5_1).f0).toList) == (((rd_T73 l1 x5_1).f0).toList)) || (!((((rd_T73 l0 x5_1).f1).toList) == (((rd_T73 l1 x5_1).f1).toList)))) = false := by simpa using c7
                clear c7
                have H' := Aside0.mk H
                clear H
                have p132 : 0 ≤ (x5_1 : Int) := of_decide_eq_true (by first | (with_reducible assumption) | assumption)
                have q132 : x5_1 < (l0.length : Int) := of_decide_eq_true (by first | (with_reducible assumption) | assumption)
                obtain ⟨ad132, e132, hx132_0, hx132_1⟩ := at_T73 HR0.out x5_1 p132 q132
                cases e132
                replace p132 := eq_true p132
                replace q132 := eq_true q132
                have p133 : 0 ≤ (x5_1 : Int) := of_decide_eq_true (by first | (with_reducible assumption) | assumption)
                have q133 : x5_1 < (l1.length : Int) := of_decide_eq_true (by first | (with_reducible assumption) | assumption)
                obtain ⟨ad133, e133, hx133_0, hx133_1⟩ := at_T73 HR1.out x5_1 p133 q133
                cases e133
                replace p133 := eq_true p133
                replace q133 := eq_true q133
                go_wp2
                repeat (go_quiet (fail); try go_wp2)
                go_roundg k1
                case measure => have := HK1.out; omega
                case rel => exact ⟨(wrap64 (x5_1 + 1)), (by first | rfl | (simp; done) | (simp [*]; done)), H', ⟨by have := HK1.out; omega⟩, by repeat (first | exact Drawn0.refl _ | apply Drawn0.step)⟩
            · rw [if_neg c6] at H
              exact absurd H (by simp)
          · rw [if_neg c5] at H
            exact absurd H (by simp)
        · rw [if_neg c4] at H
          have c4b0 : decide (x5_1 < (l0.length : Int)) = false := decide_eq_false c4
          clear c4
          obtain rfl := Option.some.inj H
          go_wp2
          repeat (go_quiet (fail); try go_wp2)
          go_ret
          exact ⟨by first | rfl | (simp; done) | (simp [*]; done), by repeat (first | exact Drawn0.refl _ | apply Drawn0.step)⟩
  · rw [if_neg c3] at H
    have c3b0 : ((l0.length : Int) == (l1.length : Int)) = false := beq_eq_false_iff_ne.mpr c3
    have c3b1 : ((l0.length : Int) != (l1.length : Int)) = true := bne_iff_ne.mpr c3
    have c3b2 : (l0.length == l1.length) = false := by first | simpa using c3 | (simp at c3 ⊢; omega)
    obtain rfl := Option.some.inj H
    go_enter Tryz.func14, Tryz.ntmps14
    go_wp2
    repeat (go_quiet (fail); try go_wp2)
    go_ret
    exact ⟨by first | rfl | (simp; done) | (simp [*]; done), by repeat (first | exact Drawn0.refl _ | apply Drawn0.step)⟩

-- NOT PRINTED: function 15 (journal_Journal_List)

end Go.Proofs.YtonipkgekhdogaaGreatDoor.PBas
