-- written by wip/myprint.py over the kit's print; not a printed text of print.sh
import Derived.Test.YtcbaojkfffodiaaDoorPClax0
import Derived.Test.YtcbaojkfffodiaaDoorPClax2
import Derived.Test.YtcbaojkfffodiaaDoorPClax8
import Derived.Test.YtcbaojkfffodiaaDoorPClax14
import Derived.Test.YtcbaojkfffodiaaDoorPClax15
import Derived.Test.YtcbaojkfffodiaaDoorPClax16
import Derived.Test.YtcbaojkfffodiaaDoorPClax19
import Derived.Test.YtcbaojkfffodiaaDoorPClax20
import Derived.Test.YtcbaojkfffodiaaDoorPClax21
import Derived.Test.YtcbaojkfffodiaaDoorPClax22
import Derived.Test.YtcbaojkfffodiaaDoorPClax23
import Derived.Test.YtcbaojkfffodiaaDoorPClax25
import Derived.Test.YtcbaojkfffodiaaDoorPClax26
import Derived.Test.YtcbaojkfffodiaaDoorPClax27
namespace Go.Proofs.YtcbaojkfffodiaaDoor.PCla
open Go.RowKit Go.Proofs.YtcbaojkfffodiaaDoorW.PrintWords Go.Proofs.YtcbaojkfffodiaaDoorW.PrintLast Go.Proofs.YtcbaojkfffodiaaDoorW.PrintMore
attribute [local go_sem] max2_int min2_int max_two min_two max_three min_three max_four min_four   -- for this text's walks alone
set_option linter.unusedVariables false
set_option linter.unusedSimpArgs false

/-! ### words: clref.inc -/
/-! ### the document's classes -/
theorem keyB_len1 (a p : ByteArray) : (keyB a [p]).size ≤ 2 * a.size + 1 + 2 * p.size := by
  have h1 := hidL_len a.toList
  have h2 := hidL_len p.toList
  rw [← ba_size] at h1 h2
  unfold keyB keyL glue
  rw [ofL_size]
  simp only [List.map_cons, List.map_nil, List.flatMap_cons, List.flatMap_nil, List.length_append, List.length_cons, List.length_nil]
  omega
theorem valB3 (a b c : ByteArray) : valB [a, b, c] = (textB a ++ textB b) ++ textB c := by
  show (((⟨#[]⟩ : ByteArray) ++ textB a) ++ textB b) ++ textB c = _
  rw [show (⟨#[]⟩ : ByteArray) ++ textB a = textB a from ba_ext (by rw [ba_append]; simp [ByteArray.toList_eq])]
theorem ref22Key_ev (id : ByteArray) (h : id.size ≤ 50000000) : Ev (fun k => footbridgeref22_key.f k id) (keyB (⟨#[99, 108, 97, 115, 115]⟩ : ByteArray) [id]) := by
  obtain ⟨K, hK⟩ := ref14Key_ev (⟨#[99, 108, 97, 115, 115]⟩ : ByteArray) [id] (by show 5 ≤ 50000000; omega) (by show 1 ≤ 1000; omega) (fun p hp => by obtain rfl := List.mem_singleton.1 hp; exact h)
  refine ⟨K, fun k hk => ?_⟩
  have e : footbridgeref14_Key.f k [(⟨#[99, 108, 97, 115, 115]⟩ : ByteArray), id] = _ := hK k hk
  show footbridgeref22_key.f k id = _
  unfold footbridgeref22_key.f
  rw [e, Option.bind_some]
theorem getK_2 (cur : List S100) (key : ByteArray) : (getK cur key).2 = hasK cur key := by unfold getK; cases hasK cur key <;> rfl
theorem ref22New_ev (cur : List S100) (c0 c1 c2 c3 : ByteArray) (h : KV 1000 cur) (h0 : c0.size ≤ 1000) (h1 : c1.size ≤ 40000) (h2 : c2.size ≤ 40000) (h3 : c3.size ≤ 1000) : Ev (fun k => footbridgeref22_New.f k cur c0 c1 c2 c3) (clNew cur c0 c1 c2 c3, clNewE cur c0 c1 c2 c3) := by
  have hlen := h.len
  obtain ⟨K1, hh1⟩ := ref14Text_ev c1
  obtain ⟨K2, hh2⟩ := ref14Text_ev c2
  obtain ⟨K3, hh3⟩ := ref14Text_ev c3
  obtain ⟨K4, hh4⟩ := ref22Key_ev c0 (by omega)
  obtain ⟨K5, hh5⟩ := ref14Put_ev cur (keyB (⟨#[99, 108, 97, 115, 115]⟩ : ByteArray) [c0]) (valB [c1, c2, c3]) h.so (by omega)
  have hkl := keyB_len1 (⟨#[99, 108, 97, 115, 115]⟩ : ByteArray) c0
  have l1 := textB_len c1
  have l2 := textB_len c2
  have l3 := textB_len c3
  have hvl : (valB [c1, c2, c3]).size = (textB c1).size + (textB c2).size + (textB c3).size := by rw [valB3, ByteArray.size_append, ByteArray.size_append]
  refine ⟨K1 + K2 + K3 + K4 + K5 + 1000005, fun k hk => ?_⟩
  obtain ⟨m, rfl⟩ : ∃ m, k = m + 2 := ⟨k - 2, by omega⟩
  have t1 : footbridgeref14_Text.f (m + 2) c1 = _ := hh1 _ (by omega)
  have t2 : footbridgeref14_Text.f (m + 2) c2 = _ := hh2 _ (by omega)
  have t3 : footbridgeref14_Text.f (m + 2) c3 = _ := hh3 _ (by omega)
  have t4 : footbridgeref22_key.f (m + 2) c0 = _ := hh4 _ (by omega)
  have t5 : footbridgeref22_key.f m c0 = _ := hh4 _ (by omega)
  have t6 : footbridgeref14_Put.f m cur _ _ = _ := hh5 _ (by omega)
  have t7 : footbridgeref09_Get.f (m + 2) cur (keyB (⟨#[99, 108, 97, 115, 115]⟩ : ByteArray) [c0]) = _ := get_f cur _ (m + 2) h.so (by omega) (by omega)
  show footbridgeref22_New.f (m + 2) cur c0 c1 c2 c3 = _
  unfold footbridgeref22_New.f
  have e5 : (⟨#[99, 108, 97, 115, 115]⟩ : ByteArray).size = 5 := rfl
  rw [e5] at hkl
  rw [t1, Option.bind_some, t2, Option.bind_some, if_pos (by omega), t3, Option.bind_some, if_pos (by rw [ByteArray.size_append]; omega), t4, Option.bind_some, t7, Option.bind_some, ← valB3, getK_2]
  unfold clNew clNewE
  by_cases a1 : c0.size = 0
  · rw [if_pos (by omega), if_pos (.inl a1), if_pos (.inl a1)]
    simp only [footbridgeref22_New.j0]
    rw [if_pos trivial]
  rw [if_neg (by omega)]
  by_cases a2 : c0.size > 512
  · rw [if_pos (by omega), if_pos (.inr (.inl a2)), if_pos (.inr (.inl a2))]
    simp only [footbridgeref22_New.j0]
    rw [if_pos trivial]
  rw [if_neg (by omega)]
  by_cases a3 : c3.size > 512
  · rw [if_pos (.inr (.inr a3)), if_pos (.inr (.inr a3)), decide_eq_true (by omega)]
    simp only [footbridgeref22_New.j0]
    rw [if_pos trivial]
  have n1 : ¬ (c0.size = 0 ∨ c0.size > 512 ∨ c3.size > 512) := by omega
  rw [if_neg n1, if_neg n1, decide_eq_false (by omega)]
  simp only [footbridgeref22_New.j0]
  rw [if_neg (by simp)]
  by_cases a4 : c1.size > 32768
  · have p2 : c1.size > 32768 ∨ c2.size > 16384 := .inl a4
    have p3 : (c1.size : Int) > 32768 := by omega
    rw [if_pos p3, if_pos p2, if_pos p2]
    simp only [footbridgeref22_New.j1]
    rw [if_pos trivial]
  have p3 : ¬ (c1.size : Int) > 32768 := by omega
  rw [if_neg p3]
  by_cases a5 : c2.size > 16384
  · have p2 : c1.size > 32768 ∨ c2.size > 16384 := .inr a5
    rw [if_pos p2, if_pos p2, decide_eq_true (by omega)]
    simp only [footbridgeref22_New.j1]
    rw [if_pos trivial]
  have n2 : ¬ (c1.size > 32768 ∨ c2.size > 16384) := by omega
  rw [if_neg n2, if_neg n2, decide_eq_false (by omega)]
  simp only [footbridgeref22_New.j1]
  rw [if_neg (by simp)]
  by_cases a6 : hasK cur (keyB (⟨#[99, 108, 97, 115, 115]⟩ : ByteArray) [c0]) = true
  · rw [if_pos a6, if_pos a6, if_pos a6]
  · rw [if_neg a6, if_neg a6, if_neg a6, t5, Option.bind_some, t6, Option.bind_some]
    unfold setC setE
    have n3 : ¬ ((keyB (⟨#[99, 108, 97, 115, 115]⟩ : ByteArray) [c0]).size > 65536 ∨ (valB [c1, c2, c3]).size > 65536) := by omega
    rw [if_neg n3, if_neg n3]
theorem ref22Get_ev (cur : List S100) (id : ByteArray) (h : KV 1000 cur) (h0 : id.size ≤ 1000) : Ev (fun k => footbridgeref22_Get.f k cur id) (clGet cur id) := by
  have hlen := h.len
  obtain ⟨K4, hh4⟩ := ref22Key_ev id (by omega)
  have hsz := h.get (keyB (⟨#[99, 108, 97, 115, 115]⟩ : ByteArray) [id])
  unfold clGet
  have h2 := getK_2 cur (keyB (⟨#[99, 108, 97, 115, 115]⟩ : ByteArray) [id])
  have t7 := fun m (hm : 1000 < m) => get_f cur (keyB (⟨#[99, 108, 97, 115, 115]⟩ : ByteArray) [id]) m h.so (by omega) (by omega)
  generalize keyB (⟨#[99, 108, 97, 115, 115]⟩ : ByteArray) [id] = key at hh4 hsz h2 t7
  generalize getK cur key = v at hsz h2 t7
  have z1 := rText_sz v.1 0
  have z2 := rText_sz (rText v.1 0).2.1 (rText v.1 0).2.2
  obtain ⟨K1, hh1⟩ := refRText_ev v.1 0 (by omega)
  obtain ⟨K2, hh2⟩ := refRText_ev (rText v.1 0).2.1 (rText v.1 0).2.2 (by omega)
  obtain ⟨K3, hh3⟩ := refRText_ev (rText (rText v.1 0).2.1 (rText v.1 0).2.2).2.1 (rText (rText v.1 0).2.1 (rText v.1 0).2.2).2.2 (by omega)
  refine ⟨K1 + K2 + K3 + K4 + 1000005, fun k hk => ?_⟩
  have t1 : footbridgeref01_R_Text.f k v.1 0 = _ := hh1 k (by omega)
  have t2 : footbridgeref01_R_Text.f k _ _ = _ := hh2 k (by omega)
  have t3 : footbridgeref01_R_Text.f k _ _ = _ := hh3 k (by omega)
  have t4 : footbridgeref22_key.f k id = _ := hh4 k (by omega)
  show footbridgeref22_Get.f k cur id = _
  unfold footbridgeref22_Get.f txt3
  rw [t4, Option.bind_some, t7 k (by omega), Option.bind_some, t1, Option.bind_some]
  dsimp only
  rw [t2, Option.bind_some]
  dsimp only
  rw [t3, Option.bind_some]
  dsimp only
  rw [refRDone, h2]
  by_cases a : hasK cur key = true
  · rw [if_pos a, Option.bind_some]
    by_cases b : rDone (rText (rText (rText v.1 0).2.1 (rText v.1 0).2.2).2.1 (rText (rText v.1 0).2.1 (rText v.1 0).2.2).2.2).2.1 (rText (rText (rText v.1 0).2.1 (rText v.1 0).2.2).2.1 (rText (rText v.1 0).2.1 (rText v.1 0).2.2).2.2).2.2 = 0
    · rw [if_pos b, if_pos ⟨a, b⟩]
    · rw [if_neg b, if_neg (fun e => b e.2)]
  · rw [if_neg a, if_neg (fun e => a e.1)]

end Go.Proofs.YtcbaojkfffodiaaDoor.PCla
