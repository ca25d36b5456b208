-- written by wip/myprint.py over the kit's print; not a printed text of print.sh
import Derived.Test.YtcbaojkfffodiaaDoorPBanx0
import Derived.Test.YtcbaojkfffodiaaDoorPBanx1
import Derived.Test.YtcbaojkfffodiaaDoorPBanx6
import Derived.Test.YtcbaojkfffodiaaDoorPBanx9
import Derived.Test.YtcbaojkfffodiaaDoorPBanx17
import Derived.Test.YtcbaojkfffodiaaDoorPBanx18
import Derived.Test.YtcbaojkfffodiaaDoorPBanx19
import Derived.Test.YtcbaojkfffodiaaDoorPBanx21
import Derived.Test.YtcbaojkfffodiaaDoorPBanx22
namespace Go.Proofs.YtcbaojkfffodiaaDoor.PBan
open Go.RowKit Go.Proofs.YtcbaojkfffodiaaDoorW.PrintWords Go.Proofs.YtcbaojkfffodiaaDoorW.PrintLast Go.Proofs.YtcbaojkfffodiaaDoorW.PrintMore
attribute [local go_sem] max2_int min2_int max_two min_two max_three min_three max_four min_four   -- for this text's walks alone
set_option linter.unusedVariables false
set_option linter.unusedSimpArgs false

/-! ### footbridgelaw47_awake: function 36 -/
-- @break
theorem run6 : nm_checkSpec 6 (⟨#[97, 108]⟩ : ByteArray) = 0 := nm_eq 6 _ (by decide) 60 0 (by kernel_rfl)
theorem run6b : nm_checkSpec 6 (⟨#[98, 111]⟩ : ByteArray) = 0 := nm_eq 6 _ (by decide) 60 0 (by kernel_rfl)
theorem run7 : nm_checkSpec 6 (⟨#[97, 47, 98]⟩ : ByteArray) = 7 := nm_eq 6 _ (by decide) 60 7 (by kernel_rfl)
/-! ### the layer's examples -/
def bkS1 : List S100 := [⟨(⟨#[97, 108, 108, 45, 99, 111, 105, 110, 115]⟩ : ByteArray), ⟨#[1, 5]⟩⟩, ⟨(⟨#[99, 111, 105, 110, 115, 47, 97, 108]⟩ : ByteArray), ⟨#[1, 5]⟩⟩]
def bkS2 : List S100 := [⟨(⟨#[97, 108, 108, 45, 99, 111, 105, 110, 115]⟩ : ByteArray), ⟨#[1, 5]⟩⟩, ⟨(⟨#[99, 111, 105, 110, 115, 47, 97, 108]⟩ : ByteArray), ⟨#[1, 3]⟩⟩, ⟨(⟨#[99, 111, 105, 110, 115, 47, 98, 111]⟩ : ByteArray), ⟨#[1, 2]⟩⟩]
def bkS3 : List S100 := [⟨(⟨#[97, 108, 108, 45, 99, 111, 105, 110, 115]⟩ : ByteArray), ⟨#[1, 4]⟩⟩, ⟨(⟨#[99, 111, 105, 110, 115, 47, 97, 108]⟩ : ByteArray), ⟨#[1, 3]⟩⟩, ⟨(⟨#[99, 111, 105, 110, 115, 47, 98, 111]⟩ : ByteArray), ⟨#[1, 1]⟩⟩]
theorem bkkA : keyB (⟨#[99, 111, 105, 110, 115]⟩ : ByteArray) [(⟨#[97, 108]⟩ : ByteArray)] = (⟨#[99, 111, 105, 110, 115, 47, 97, 108]⟩ : ByteArray) := by
  simp [keyB, keyL, glue, hidL, ofL, ByteArray.toList_eq]
theorem bkkB : keyB (⟨#[99, 111, 105, 110, 115]⟩ : ByteArray) [(⟨#[98, 111]⟩ : ByteArray)] = (⟨#[99, 111, 105, 110, 115, 47, 98, 111]⟩ : ByteArray) := by
  simp [keyB, keyL, glue, hidL, ofL, ByteArray.toList_eq]
theorem bkn1 : numB 1 = (⟨#[1, 1]⟩ : ByteArray) := by decide +kernel
theorem bkn2 : numB 2 = (⟨#[1, 2]⟩ : ByteArray) := by decide +kernel
theorem bkn3 : numB 3 = (⟨#[1, 3]⟩ : ByteArray) := by decide +kernel
theorem bkn4 : numB 4 = (⟨#[1, 4]⟩ : ByteArray) := by decide +kernel
theorem bkn5 : numB 5 = (⟨#[1, 5]⟩ : ByteArray) := by decide +kernel
theorem bkr1 : rNum (⟨#[1, 1]⟩ : ByteArray) 0 = (1, (⟨#[]⟩ : ByteArray), 0) := by decide +kernel
theorem bkr2 : rNum (⟨#[1, 2]⟩ : ByteArray) 0 = (2, (⟨#[]⟩ : ByteArray), 0) := by decide +kernel
theorem bkr3 : rNum (⟨#[1, 3]⟩ : ByteArray) 0 = (3, (⟨#[]⟩ : ByteArray), 0) := by decide +kernel
theorem bkr4 : rNum (⟨#[1, 4]⟩ : ByteArray) 0 = (4, (⟨#[]⟩ : ByteArray), 0) := by decide +kernel
theorem bkr5 : rNum (⟨#[1, 5]⟩ : ByteArray) 0 = (5, (⟨#[]⟩ : ByteArray), 0) := by decide +kernel
theorem bkr0 : rNum (⟨#[]⟩ : ByteArray) 0 = (0, (⟨#[]⟩ : ByteArray), 5) := by decide +kernel
theorem bkd0 : rDone (⟨#[]⟩ : ByteArray) 0 = 0 := by simp [rDone, ByteArray.toList_eq]
theorem bkd5 : rDone (⟨#[]⟩ : ByteArray) 5 = 5 := by simp [rDone]
theorem bq1 : numK [] (⟨#[99, 111, 105, 110, 115, 47, 97, 108]⟩ : ByteArray) = 0 := by
  simp [numK, getK, hasK, posK, kLt, ByteArray.toList_eq, Op.bytesLess, rd_T100, bkd0, bkd5, bkr0, bkr1, bkr2, bkr3, bkr4, bkr5]
theorem bq2 : numK [] (⟨#[97, 108, 108, 45, 99, 111, 105, 110, 115]⟩ : ByteArray) = 0 := by
  simp [numK, getK, hasK, posK, kLt, ByteArray.toList_eq, Op.bytesLess, rd_T100, bkd0, bkd5, bkr0, bkr1, bkr2, bkr3, bkr4, bkr5]
theorem bq3 : numK bkS1 (⟨#[99, 111, 105, 110, 115, 47, 97, 108]⟩ : ByteArray) = 5 := by
  simp [numK, getK, hasK, posK, kLt, ByteArray.toList_eq, Op.bytesLess, rd_T100, bkd0, bkd5, bkr0, bkr1, bkr2, bkr3, bkr4, bkr5, bkS1]
theorem bq4 : numK bkS1 (⟨#[97, 108, 108, 45, 99, 111, 105, 110, 115]⟩ : ByteArray) = 5 := by
  simp [numK, getK, hasK, posK, kLt, ByteArray.toList_eq, Op.bytesLess, rd_T100, bkd0, bkd5, bkr0, bkr1, bkr2, bkr3, bkr4, bkr5, bkS1]
theorem bq5 : numK bkS1 (⟨#[99, 111, 105, 110, 115, 47, 98, 111]⟩ : ByteArray) = 0 := by
  simp [numK, getK, hasK, posK, kLt, ByteArray.toList_eq, Op.bytesLess, rd_T100, bkd0, bkd5, bkr0, bkr1, bkr2, bkr3, bkr4, bkr5, bkS1]
theorem bq6 : numK bkS2 (⟨#[99, 111, 105, 110, 115, 47, 98, 111]⟩ : ByteArray) = 2 := by
  simp [numK, getK, hasK, posK, kLt, ByteArray.toList_eq, Op.bytesLess, rd_T100, bkd0, bkd5, bkr0, bkr1, bkr2, bkr3, bkr4, bkr5, bkS2]
theorem bq7 : numK bkS2 (⟨#[97, 108, 108, 45, 99, 111, 105, 110, 115]⟩ : ByteArray) = 5 := by
  simp [numK, getK, hasK, posK, kLt, ByteArray.toList_eq, Op.bytesLess, rd_T100, bkd0, bkd5, bkr0, bkr1, bkr2, bkr3, bkr4, bkr5, bkS2]
theorem bq8 : numK bkS3 (⟨#[99, 111, 105, 110, 115, 47, 97, 108]⟩ : ByteArray) = 3 := by
  simp [numK, getK, hasK, posK, kLt, ByteArray.toList_eq, Op.bytesLess, rd_T100, bkd0, bkd5, bkr0, bkr1, bkr2, bkr3, bkr4, bkr5, bkS3]
theorem bq9 : numK bkS3 (⟨#[99, 111, 105, 110, 115, 47, 98, 111]⟩ : ByteArray) = 1 := by
  simp [numK, getK, hasK, posK, kLt, ByteArray.toList_eq, Op.bytesLess, rd_T100, bkd0, bkd5, bkr0, bkr1, bkr2, bkr3, bkr4, bkr5, bkS3]
theorem bq10 : numK bkS3 (⟨#[97, 108, 108, 45, 99, 111, 105, 110, 115]⟩ : ByteArray) = 4 := by
  simp [numK, getK, hasK, posK, kLt, ByteArray.toList_eq, Op.bytesLess, rd_T100, bkd0, bkd5, bkr0, bkr1, bkr2, bkr3, bkr4, bkr5, bkS3]
theorem bkc1 (n : Int) (h : 1 ≤ n ∧ n ≤ 10) : bkChk n [(⟨#[97, 108]⟩ : ByteArray)] = 0 := by
  unfold bkChk
  rw [if_pos (by simp [run6]), if_neg (by omega)]
theorem bkc2 (n : Int) (h : 1 ≤ n ∧ n ≤ 10) : bkChk n [(⟨#[98, 111]⟩ : ByteArray)] = 0 := by
  unfold bkChk
  rw [if_pos (by simp [run6b]), if_neg (by omega)]
theorem bkc3 (n : Int) (h : 1 ≤ n ∧ n ≤ 10) : bkChk n [(⟨#[97, 108]⟩ : ByteArray), (⟨#[98, 111]⟩ : ByteArray)] = 0 := by
  unfold bkChk
  rw [if_pos (by simp [run6, run6b]), if_neg (by omega)]
theorem bkc4 : bkChk 1 [(⟨#[97, 47, 98]⟩ : ByteArray)] = 7 := by
  unfold bkChk
  rw [if_neg (by simp [run7])]
theorem bkc5 : bkChk 0 [(⟨#[97, 108]⟩ : ByteArray)] = 3 := by
  unfold bkChk
  rw [if_pos (by simp [run6]), if_pos (by omega)]
theorem bks1 : bkSet [] (⟨#[99, 111, 105, 110, 115, 47, 97, 108]⟩ : ByteArray) 5 = [⟨(⟨#[99, 111, 105, 110, 115, 47, 97, 108]⟩ : ByteArray), ⟨#[1, 5]⟩⟩] ∧ bkSet [⟨(⟨#[99, 111, 105, 110, 115, 47, 97, 108]⟩ : ByteArray), ⟨#[1, 5]⟩⟩] (⟨#[97, 108, 108, 45, 99, 111, 105, 110, 115]⟩ : ByteArray) 5 = bkS1 := by
  simp [bkn5, bkSet, bkNum, setC, setK, delK, hasK, posK, kLt, ByteArray.toList_eq, Op.bytesLess, ByteArray.size, bkS1]
theorem bkw1 : bkGiveE [] (⟨#[97, 108]⟩ : ByteArray) 5 = 0 ∧ bkGive [] (⟨#[97, 108]⟩ : ByteArray) 5 = bkS1 := by
  have e : bkGiveE [] (⟨#[97, 108]⟩ : ByteArray) 5 = 0 := by
    unfold bkGiveE bkAll
    rw [bkc1 5 (by omega), if_pos rfl, bq2, if_neg (by omega)]
  refine ⟨e, ?_⟩
  unfold bkGive bkOf bkAll
  rw [if_pos e, bkkA, bq1, bq2, show (0 + 5 : Int) = 5 from rfl, bks1.1, bks1.2]
theorem bkw2 : bkPayE bkS1 (⟨#[97, 108]⟩ : ByteArray) (⟨#[98, 111]⟩ : ByteArray) 6 = 21 ∧ bkPay bkS1 (⟨#[97, 108]⟩ : ByteArray) (⟨#[98, 111]⟩ : ByteArray) 6 = bkS1 := by
  have e : bkPayE bkS1 (⟨#[97, 108]⟩ : ByteArray) (⟨#[98, 111]⟩ : ByteArray) 6 = 21 := by
    unfold bkPayE bkOf
    rw [bkc3 6 (by omega), if_pos rfl, bkkA, bq3, if_pos (by omega)]
  exact ⟨e, if_neg (by rw [e]; decide)⟩
def bkT1 : List S100 := [⟨(⟨#[97, 108, 108, 45, 99, 111, 105, 110, 115]⟩ : ByteArray), ⟨#[1, 5]⟩⟩, ⟨(⟨#[99, 111, 105, 110, 115, 47, 97, 108]⟩ : ByteArray), ⟨#[1, 3]⟩⟩]
theorem bks2 : bkSet bkS1 (⟨#[99, 111, 105, 110, 115, 47, 97, 108]⟩ : ByteArray) 3 = bkT1 ∧ bkSet bkT1 (⟨#[99, 111, 105, 110, 115, 47, 98, 111]⟩ : ByteArray) 2 = bkS2 := by
  simp [bkn3, bkn2, bkSet, bkNum, setC, setK, delK, hasK, posK, kLt, ByteArray.toList_eq, Op.bytesLess, ByteArray.size, bkS1, bkT1, bkS2]
theorem bq11 : numK bkT1 (⟨#[99, 111, 105, 110, 115, 47, 98, 111]⟩ : ByteArray) = 0 := by
  simp [numK, getK, hasK, posK, kLt, ByteArray.toList_eq, Op.bytesLess, rd_T100, bkd0, bkd5, bkr0, bkr1, bkr2, bkr3, bkr4, bkr5, bkT1]
theorem bkw3 : bkPayE bkS1 (⟨#[97, 108]⟩ : ByteArray) (⟨#[98, 111]⟩ : ByteArray) 2 = 0 ∧ bkPay bkS1 (⟨#[97, 108]⟩ : ByteArray) (⟨#[98, 111]⟩ : ByteArray) 2 = bkS2 := by
  have e : bkPayE bkS1 (⟨#[97, 108]⟩ : ByteArray) (⟨#[98, 111]⟩ : ByteArray) 2 = 0 := by
    unfold bkPayE bkOf
    rw [bkc3 2 (by omega), if_pos rfl, bkkA, bq3, if_neg (by omega)]
  refine ⟨e, ?_⟩
  unfold bkPay bkPay1 bkOf
  rw [if_pos e, bkkA, bkkB, bq3, show (5 - 2 : Int) = 3 from rfl, bks2.1, bq11, show (0 + 2 : Int) = 2 from rfl, bks2.2]
def bkT2 : List S100 := [⟨(⟨#[97, 108, 108, 45, 99, 111, 105, 110, 115]⟩ : ByteArray), ⟨#[1, 5]⟩⟩, ⟨(⟨#[99, 111, 105, 110, 115, 47, 97, 108]⟩ : ByteArray), ⟨#[1, 3]⟩⟩, ⟨(⟨#[99, 111, 105, 110, 115, 47, 98, 111]⟩ : ByteArray), ⟨#[1, 1]⟩⟩]
theorem bks3 : bkSet bkS2 (⟨#[99, 111, 105, 110, 115, 47, 98, 111]⟩ : ByteArray) 1 = bkT2 ∧ bkSet bkT2 (⟨#[97, 108, 108, 45, 99, 111, 105, 110, 115]⟩ : ByteArray) 4 = bkS3 := by
  simp [bkn1, bkn4, bkSet, bkNum, setC, setK, delK, hasK, posK, kLt, ByteArray.toList_eq, Op.bytesLess, ByteArray.size, bkS2, bkT2, bkS3]
theorem bkw4 : bkTakeE bkS2 (⟨#[98, 111]⟩ : ByteArray) 1 = 0 ∧ bkTake bkS2 (⟨#[98, 111]⟩ : ByteArray) 1 = bkS3 := by
  have e : bkTakeE bkS2 (⟨#[98, 111]⟩ : ByteArray) 1 = 0 := by
    unfold bkTakeE bkOf
    rw [bkc2 1 (by omega), if_pos rfl, bkkB, bq6, if_neg (by omega)]
  refine ⟨e, ?_⟩
  unfold bkTake bkOf bkAll
  rw [if_pos e, bkkB, bq6, bq7, show (2 - 1 : Int) = 1 from rfl, bks3.1, show (5 - 1 : Int) = 4 from rfl, bks3.2]
theorem bkw5 : bkOf bkS3 (⟨#[97, 108]⟩ : ByteArray) = 3 ∧ bkOf bkS3 (⟨#[98, 111]⟩ : ByteArray) = 1 ∧ bkAll bkS3 = 4 := by
  unfold bkOf bkAll
  rw [bkkA, bkkB, bq8, bq9, bq10]
  exact ⟨rfl, rfl, rfl⟩
theorem bkw6 : bkGiveE bkS3 (⟨#[97, 47, 98]⟩ : ByteArray) 1 = 7 ∧ bkGive bkS3 (⟨#[97, 47, 98]⟩ : ByteArray) 1 = bkS3 := by
  have e : bkGiveE bkS3 (⟨#[97, 47, 98]⟩ : ByteArray) 1 = 7 := by
    unfold bkGiveE
    rw [bkc4]; rfl
  exact ⟨e, if_neg (by rw [e]; decide)⟩
theorem bkw7 : bkGiveE bkS3 (⟨#[97, 108]⟩ : ByteArray) 0 = 3 ∧ bkGive bkS3 (⟨#[97, 108]⟩ : ByteArray) 0 = bkS3 := by
  have e : bkGiveE bkS3 (⟨#[97, 108]⟩ : ByteArray) 0 = 3 := by
    unfold bkGiveE
    rw [bkc5]; rfl
  exact ⟨e, if_neg (by rw [e]; decide)⟩
theorem bkS1_KV : KV 100000 bkS1 := ⟨by simp [sortK, bkS1, kLt, ByteArray.toList_eq, Op.bytesLess], by show 2 ≤ 100000; omega, fun p hp => by simp only [bkS1, List.mem_cons, List.not_mem_nil, or_false] at hp; rcases hp with rfl | rfl <;> (show 2 ≤ 65536; omega)⟩
theorem bkS2_KV : KV 100000 bkS2 := ⟨by simp [sortK, bkS2, kLt, ByteArray.toList_eq, Op.bytesLess], by show 3 ≤ 100000; omega, fun p hp => by simp only [bkS2, List.mem_cons, List.not_mem_nil, or_false] at hp; rcases hp with rfl | rfl | rfl <;> (show 2 ≤ 65536; omega)⟩
theorem bkS3_KV : KV 100000 bkS3 := ⟨by simp [sortK, bkS3, kLt, ByteArray.toList_eq, Op.bytesLess], by show 3 ≤ 100000; omega, fun p hp => by simp only [bkS3, List.mem_cons, List.not_mem_nil, or_false] at hp; rcases hp with rfl | rfl | rfl <;> (show 2 ≤ 65536; omega)⟩
set_option maxHeartbeats 4000000 in
set_option maxRecDepth 100000 in
theorem bkaw_calls (w : World) : Calls Tryd.prog 36 #[] w fun e w' => e = .returned (.bool true) ∧ Below w.heap.size w w' := by
  have k1 := bkS3_KV.mono (show 100000 ≤ 1000000 by omega)
  go_enter Tryd.func36, Tryd.ntmps36
  go_wp2_with fail
  refine (j_new_nil w).mono ?_
  rintro e w1 ⟨g, rfl, hm, hb⟩
  have HB1 := Aside0.mk hb
  have HJ := Aside0.mk (JS.start hm hb.size)
  have HK := Aside0.mk (JK.of_below hb)
  clear hm hb
  go_wp2_with fail
  refine (bk_give (⟨#[97, 108]⟩ : ByteArray) 5 0 bkS1 HJ.out (KV.nil _) (by decide) bkw1.1 bkw1.2).mono ?_
  rintro e w2 ⟨rfl, hj, hk⟩
  have n_HK := Aside0.mk (HK.out.trans hk)
  have n_HJ := Aside0.mk (hj)
  clear HK HJ
  have HK := n_HK
  have HJ := n_HJ
  clear n_HK n_HJ
  clear hj hk
  go_wp2_with fail
  refine (bk_pay (⟨#[97, 108]⟩ : ByteArray) (⟨#[98, 111]⟩ : ByteArray) 6 21 bkS1 HJ.out bkS1_KV (by decide) (by decide) bkw2.1 bkw2.2).mono ?_
  rintro e w3 ⟨rfl, hj, hk⟩
  have n_HK := Aside0.mk (HK.out.trans hk)
  have n_HJ := Aside0.mk (hj)
  clear HK HJ
  have HK := n_HK
  have HJ := n_HJ
  clear n_HK n_HJ
  clear hj hk
  go_wp2_with fail
  refine (bk_pay (⟨#[97, 108]⟩ : ByteArray) (⟨#[98, 111]⟩ : ByteArray) 2 0 bkS2 HJ.out bkS1_KV (by decide) (by decide) bkw3.1 bkw3.2).mono ?_
  rintro e w4 ⟨rfl, hj, hk⟩
  have n_HK := Aside0.mk (HK.out.trans hk)
  have n_HJ := Aside0.mk (hj)
  clear HK HJ
  have HK := n_HK
  have HJ := n_HJ
  clear n_HK n_HJ
  clear hj hk
  go_wp2_with fail
  refine (bk_take (⟨#[98, 111]⟩ : ByteArray) 1 0 bkS3 HJ.out bkS2_KV (by decide) bkw4.1 bkw4.2).mono ?_
  rintro e w5 ⟨rfl, hj, hk⟩
  have n_HK := Aside0.mk (HK.out.trans hk)
  have n_HJ := Aside0.mk (hj)
  clear HK HJ
  have HK := n_HK
  have HJ := n_HJ
  clear n_HK n_HJ
  clear hj hk
  go_wp2_with fail
  refine (bk_of (⟨#[97, 108]⟩ : ByteArray) 3 HJ.out k1 (by decide) bkw5.1).mono ?_
  rintro e w6 ⟨rfl, hb⟩
  have n_HK := Aside0.mk (HK.out.trans (JK.of_below hb))
  have n_HJ := Aside0.mk (JS.below (base := w.heap.size) (ok := fun k => w.heap.size ≤ k) (w0 := w1) (g := g) (cur := bkS3) (by first | exact HJ.out | ((with_reducible repeat (first | apply JS.drewN | apply JS.drew | apply JS.alloc)); exact HJ.out)) hb)
  clear HK HJ
  have HK := n_HK
  have HJ := n_HJ
  clear n_HK n_HJ
  clear hb
  go_wp2_with fail
  refine (bk_of (⟨#[98, 111]⟩ : ByteArray) 1 HJ.out k1 (by decide) bkw5.2.1).mono ?_
  rintro e w7 ⟨rfl, hb⟩
  have n_HK := Aside0.mk (HK.out.trans (JK.of_below hb))
  have n_HJ := Aside0.mk (JS.below (base := w.heap.size) (ok := fun k => w.heap.size ≤ k) (w0 := w1) (g := g) (cur := bkS3) (by first | exact HJ.out | ((with_reducible repeat (first | apply JS.drewN | apply JS.drew | apply JS.alloc)); exact HJ.out)) hb)
  clear HK HJ
  have HK := n_HK
  have HJ := n_HJ
  clear n_HK n_HJ
  clear hb
  go_wp2_with fail
  refine (bk_all 4 HJ.out k1 bkw5.2.2).mono ?_
  rintro e w8 ⟨rfl, hb⟩
  have n_HK := Aside0.mk (HK.out.trans (JK.of_below hb))
  have n_HJ := Aside0.mk (JS.below (base := w.heap.size) (ok := fun k => w.heap.size ≤ k) (w0 := w1) (g := g) (cur := bkS3) (by first | exact HJ.out | ((with_reducible repeat (first | apply JS.drewN | apply JS.drew | apply JS.alloc)); exact HJ.out)) hb)
  clear HK HJ
  have HK := n_HK
  have HJ := n_HJ
  clear n_HK n_HJ
  clear hb
  go_wp2_with fail
  refine (bk_give (⟨#[97, 47, 98]⟩ : ByteArray) 1 7 bkS3 HJ.out bkS3_KV (by decide) bkw6.1 bkw6.2).mono ?_
  rintro e w9 ⟨rfl, hj, hk⟩
  have n_HK := Aside0.mk (HK.out.trans hk)
  have n_HJ := Aside0.mk (hj)
  clear HK HJ
  have HK := n_HK
  have HJ := n_HJ
  clear n_HK n_HJ
  clear hj hk
  go_wp2_with fail
  refine (bk_give (⟨#[97, 108]⟩ : ByteArray) 0 3 bkS3 HJ.out bkS3_KV (by decide) bkw7.1 bkw7.2).mono ?_
  rintro e w10 ⟨rfl, hj, hk⟩
  have n_HK := Aside0.mk (HK.out.trans hk)
  have n_HJ := Aside0.mk (hj)
  clear HK HJ
  have HK := n_HK
  have HJ := n_HJ
  clear n_HK n_HJ
  clear hj hk
  go_wp2_with fail
  refine (bkn_give (⟨#[97, 108]⟩ : ByteArray) 1 _).mono ?_
  rintro e w11 ⟨rfl, hb⟩
  have n_HK := Aside0.mk (HK.out.trans (JK.of_below hb))
  have n_HJ := Aside0.mk (JS.below (base := w.heap.size) (ok := fun k => w.heap.size ≤ k) (w0 := w1) (g := g) (cur := bkS3) (by first | exact HJ.out | ((with_reducible repeat (first | apply JS.drewN | apply JS.drew | apply JS.alloc)); exact HJ.out)) hb)
  clear HK HJ
  have HK := n_HK
  have HJ := n_HJ
  clear n_HK n_HJ
  clear hb
  go_wp2_with fail
  refine (bkn_all _).mono ?_
  rintro e w12 ⟨rfl, hb⟩
  have n_HK := Aside0.mk (HK.out.trans (JK.of_below hb))
  have n_HJ := Aside0.mk (JS.below (base := w.heap.size) (ok := fun k => w.heap.size ≤ k) (w0 := w1) (g := g) (cur := bkS3) (by first | exact HJ.out | ((with_reducible repeat (first | apply JS.drewN | apply JS.drew | apply JS.alloc)); exact HJ.out)) hb)
  clear HK HJ
  have HK := n_HK
  have HJ := n_HJ
  clear n_HK n_HJ
  clear hb
  have hfin := Aside0.mk (JW.toBelow HB1.out HB1.out.size HJ.out.jw (fun k hk => hk))
  clear HJ HK
  go_wp2
  go_ret
  exact ⟨rfl, hfin.out⟩

/-! ### footbridgelaw47_BankNone: function 7 -/
def footbridgelaw47_BankNone.f (_a0_0 : Int) (a0_1 _a0_2 : ByteArray) (_a0_3 : Int) : Option Bool := if a0_1.size ≤ 50000000 then some true else none
set_option maxHeartbeats 4000000 in
set_option maxRecDepth 100000 in
theorem footbridgelaw47_BankNone.calls (a0_0 : Int) (a0_1 a0_2 : ByteArray) (a0_3 : Int) (r : Bool) (w : World) (h : footbridgelaw47_BankNone.f a0_0 a0_1 a0_2 a0_3 = some r) :
    Calls Tryd.prog 7 #[.agg #[.int .i64 a0_0, .string a0_1, .string a0_2, .int .i64 a0_3]] w fun e w' => e = .returned (.bool r) ∧ Below w.heap.size w w' := by
  unfold footbridgelaw47_BankNone.f at h
  by_cases hid : a0_1.size ≤ 50000000
  case neg => rw [if_neg hid] at h; cases h
  rw [if_pos hid] at h
  obtain rfl : true = r := Option.some.inj h
  clear h
  have HB := Aside0.mk (Below.refl w.heap.size w)
  go_enter Tryd.func7, Tryd.ntmps7
  go_wp2_with (first | ((with_reducible refine gate_dst (N := 1) rfl ?_); refine box_event ?hg (N := 1) ?hd (cs := #[.int .i64 a0_0, .string a0_1, .string a0_2, .int .i64 a0_3]) (t := 60) ?hr ?_; (case hd => rfl); (case hg => rfl); (case hr => first | (go_simp; done) | (go_simp; rfl)); intro gba hg wa hbox hb; have GEa := Aside0.mk ((by rw [hg]; exact (below_size (by repeat (first | (with_reducible first | exact HB.out | apply below_alloc | apply pw_below_drewN | apply below_drew1) | exact HB.out))) : w.heap.size ≤ gba)); have n_HB := Aside0.mk (below_step (by repeat (first | (with_reducible first | exact HB.out | apply below_alloc | apply pw_below_drewN | apply below_drew1) | exact HB.out)) hb); clear HB; have HB := n_HB; clear n_HB; have BKa := Aside0.mk hbox; clear hb hbox hg; have za_0 : World.cell? _ ⟨gba, 0, none⟩ = some (.int .i64 a0_0) := (blk_cell BKa.out 0).trans rfl; have fa_0 := blk_frozen BKa.out 0; have za_1 : World.cell? _ ⟨gba, 1, none⟩ = some (.string a0_1) := (blk_cell BKa.out 1).trans rfl; have fa_1 := blk_frozen BKa.out 1; have za_2 : World.cell? _ ⟨gba, 2, none⟩ = some (.string a0_2) := (blk_cell BKa.out 2).trans rfl; have fa_2 := blk_frozen BKa.out 2; have za_3 : World.cell? _ ⟨gba, 3, none⟩ = some (.int .i64 a0_3) := (blk_cell BKa.out 3).trans rfl; have fa_3 := blk_frozen BKa.out 3))
  refine (bkn_of a0_1 hid _).mono ?_
  rintro e w1 ⟨rfl, hb⟩
  have n_HB := Aside0.mk (below_step (by repeat (first | (with_reducible first | exact HB.out | apply below_alloc | apply pw_below_drewN | apply below_drew1 | refine below_set ?_ GEa.out) | exact HB.out)) hb)
  have n_BKa := Aside0.mk (blk_below (g := gba) (o := .cells #[.int .i64 a0_0, .string a0_1, .string a0_2, .int .i64 a0_3] 60 (0, 0)) (by first | exact BKa.out | ((with_reducible repeat (first | refine blk_drewN ?_ _ | refine blk_drew ?_ | refine blk_alloc ?_ _)); exact BKa.out)) hb)
  clear HB BKa
  have HB := n_HB
  have BKa := n_BKa
  clear n_HB n_BKa
  clear hb
  go_wp2_with fail
  refine (bkn_all _).mono ?_
  rintro e w2 ⟨rfl, hb⟩
  have n_HB := Aside0.mk (below_step (by repeat (first | (with_reducible first | exact HB.out | apply below_alloc | apply pw_below_drewN | apply below_drew1 | refine below_set ?_ GEa.out) | exact HB.out)) hb)
  have n_BKa := Aside0.mk (blk_below (g := gba) (o := .cells #[.int .i64 a0_0, .string a0_1, .string a0_2, .int .i64 a0_3] 60 (0, 0)) (by first | exact BKa.out | ((with_reducible repeat (first | refine blk_drewN ?_ _ | refine blk_drew ?_ | refine blk_alloc ?_ _)); exact BKa.out)) hb)
  clear HB BKa
  have HB := n_HB
  have BKa := n_BKa
  clear n_HB n_BKa
  clear hb
  have za_0 : World.cell? _ ⟨gba, 0, none⟩ = some (.int .i64 a0_0) := (blk_cell BKa.out 0).trans rfl
  have fa_0 := blk_frozen BKa.out 0
  have za_1 : World.cell? _ ⟨gba, 1, none⟩ = some (.string a0_1) := (blk_cell BKa.out 1).trans rfl
  have fa_1 := blk_frozen BKa.out 1
  have za_2 : World.cell? _ ⟨gba, 2, none⟩ = some (.string a0_2) := (blk_cell BKa.out 2).trans rfl
  have fa_2 := blk_frozen BKa.out 2
  have za_3 : World.cell? _ ⟨gba, 3, none⟩ = some (.int .i64 a0_3) := (blk_cell BKa.out 3).trans rfl
  have fa_3 := blk_frozen BKa.out 3
  go_wp2_with fail
  refine (bkn_give a0_2 a0_3 _).mono ?_
  rintro e w3 ⟨rfl, hb⟩
  have n_HB := Aside0.mk (below_step (by repeat (first | (with_reducible first | exact HB.out | apply below_alloc | apply pw_below_drewN | apply below_drew1 | refine below_set ?_ GEa.out) | exact HB.out)) hb)
  have n_BKa := Aside0.mk (blk_below (g := gba) (o := .cells #[.int .i64 a0_0, .string a0_1, .string a0_2, .int .i64 a0_3] 60 (0, 0)) (by first | exact BKa.out | ((with_reducible repeat (first | refine blk_drewN ?_ _ | refine blk_drew ?_ | refine blk_alloc ?_ _)); exact BKa.out)) hb)
  clear HB BKa
  have HB := n_HB
  have BKa := n_BKa
  clear n_HB n_BKa
  clear hb
  have za_0 : World.cell? _ ⟨gba, 0, none⟩ = some (.int .i64 a0_0) := (blk_cell BKa.out 0).trans rfl
  have fa_0 := blk_frozen BKa.out 0
  have za_1 : World.cell? _ ⟨gba, 1, none⟩ = some (.string a0_1) := (blk_cell BKa.out 1).trans rfl
  have fa_1 := blk_frozen BKa.out 1
  have za_2 : World.cell? _ ⟨gba, 2, none⟩ = some (.string a0_2) := (blk_cell BKa.out 2).trans rfl
  have fa_2 := blk_frozen BKa.out 2
  have za_3 : World.cell? _ ⟨gba, 3, none⟩ = some (.int .i64 a0_3) := (blk_cell BKa.out 3).trans rfl
  have fa_3 := blk_frozen BKa.out 3
  go_wp2_with fail
  refine (bkn_take a0_1 a0_3 _).mono ?_
  rintro e w4 ⟨rfl, hb⟩
  have n_HB := Aside0.mk (below_step (by repeat (first | (with_reducible first | exact HB.out | apply below_alloc | apply pw_below_drewN | apply below_drew1 | refine below_set ?_ GEa.out) | exact HB.out)) hb)
  have n_BKa := Aside0.mk (blk_below (g := gba) (o := .cells #[.int .i64 a0_0, .string a0_1, .string a0_2, .int .i64 a0_3] 60 (0, 0)) (by first | exact BKa.out | ((with_reducible repeat (first | refine blk_drewN ?_ _ | refine blk_drew ?_ | refine blk_alloc ?_ _)); exact BKa.out)) hb)
  clear HB BKa
  have HB := n_HB
  have BKa := n_BKa
  clear n_HB n_BKa
  clear hb
  have za_0 : World.cell? _ ⟨gba, 0, none⟩ = some (.int .i64 a0_0) := (blk_cell BKa.out 0).trans rfl
  have fa_0 := blk_frozen BKa.out 0
  have za_1 : World.cell? _ ⟨gba, 1, none⟩ = some (.string a0_1) := (blk_cell BKa.out 1).trans rfl
  have fa_1 := blk_frozen BKa.out 1
  have za_2 : World.cell? _ ⟨gba, 2, none⟩ = some (.string a0_2) := (blk_cell BKa.out 2).trans rfl
  have fa_2 := blk_frozen BKa.out 2
  have za_3 : World.cell? _ ⟨gba, 3, none⟩ = some (.int .i64 a0_3) := (blk_cell BKa.out 3).trans rfl
  have fa_3 := blk_frozen BKa.out 3
  go_wp2_with fail
  refine (bkn_pay a0_1 a0_2 a0_3 _).mono ?_
  rintro e w5 ⟨rfl, hb⟩
  have n_HB := Aside0.mk (below_step (by repeat (first | (with_reducible first | exact HB.out | apply below_alloc | apply pw_below_drewN | apply below_drew1 | refine below_set ?_ GEa.out) | exact HB.out)) hb)
  have n_BKa := Aside0.mk (blk_below (g := gba) (o := .cells #[.int .i64 a0_0, .string a0_1, .string a0_2, .int .i64 a0_3] 60 (0, 0)) (by first | exact BKa.out | ((with_reducible repeat (first | refine blk_drewN ?_ _ | refine blk_drew ?_ | refine blk_alloc ?_ _)); exact BKa.out)) hb)
  clear HB BKa
  have HB := n_HB
  have BKa := n_BKa
  clear n_HB n_BKa
  clear hb
  go_wp2_with fail
  refine (bkaw_calls _).mono ?_
  rintro e w6 ⟨rfl, hb⟩
  have n_HB := Aside0.mk (below_step (by repeat (first | (with_reducible first | exact HB.out | apply below_alloc | apply pw_below_drewN | apply below_drew1 | refine below_set ?_ GEa.out) | exact HB.out)) hb)
  have n_BKa := Aside0.mk (blk_below (g := gba) (o := .cells #[.int .i64 a0_0, .string a0_1, .string a0_2, .int .i64 a0_3] 60 (0, 0)) (by first | exact BKa.out | ((with_reducible repeat (first | refine blk_drewN ?_ _ | refine blk_drew ?_ | refine blk_alloc ?_ _)); exact BKa.out)) hb)
  clear HB BKa
  have HB := n_HB
  have BKa := n_BKa
  clear n_HB n_BKa
  clear hb
  go_wp2
  go_ret
  exact ⟨rfl, HB.out⟩

end Go.Proofs.YtcbaojkfffodiaaDoor.PBan
