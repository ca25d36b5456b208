-- written by wip/myprint.py over the kit's print; not a printed text of print.sh
import Derived.Test.YtonipkgekhdogaaGreatDoorPBasx0
import Derived.Test.YtonipkgekhdogaaGreatDoorPBasx2
import Derived.Test.YtonipkgekhdogaaGreatDoorPBasx17
import Derived.Test.YtonipkgekhdogaaGreatDoorPBasx18
import Derived.Test.YtonipkgekhdogaaGreatDoorPBasx19
import Derived.Test.YtonipkgekhdogaaGreatDoorPBasx20
import Derived.Test.YtonipkgekhdogaaGreatDoorPBasx27
import Derived.Test.YtonipkgekhdogaaGreatDoorPBasx28
import Derived.Test.YtonipkgekhdogaaGreatDoorPBasx32
import Derived.Test.YtonipkgekhdogaaGreatDoorPBasx34
import Derived.Test.YtonipkgekhdogaaGreatDoorPBasx35
import Derived.Test.YtonipkgekhdogaaGreatDoorPBasx36
import Derived.Test.YtonipkgekhdogaaGreatDoorPBasx37
import Derived.Test.YtonipkgekhdogaaGreatDoorPBasx38
import Derived.Test.YtonipkgekhdogaaGreatDoorPBasx39
namespace Go.Proofs.YtonipkgekhdogaaGreatDoor.PBas
open Go.RowKit Go.Proofs.YtonipkgekhdogaaGreatDoorW.PrintWords Go.Proofs.YtonipkgekhdogaaGreatDoorW.PrintLast Go.Proofs.YtonipkgekhdogaaGreatDoorW.PrintMore
attribute [local go_sem] max2_int min2_int max_two min_two max_three min_three max_four min_four   -- for this text's walks alone
set_option linter.unusedVariables false
set_option linter.unusedSimpArgs false

/-! ### words: bkref.inc -/
/-! ### the document's bank -/
theorem ref47User_ev (s : ByteArray) (hs : s.size ≤ 140737488351232) : Ev (fun k => footbridgeref47_user.f k s) (nm_checkSpec 6 s == 0) := by
  simp only [footbridgeref47_user.f]
  exact Ev.bind (nm_checkRef_ev 6 s hs) (Ev.now _)
theorem ref47Key_ev (owner : ByteArray) (h : owner.size ≤ 50000000) : Ev (fun k => footbridgeref47_key.f k owner) (keyB (⟨#[99, 111, 105, 110, 115]⟩ : ByteArray) [owner]) := by
  simp only [footbridgeref47_key.f]
  exact Ev.bind (ref14Key_ev (⟨#[99, 111, 105, 110, 115]⟩ : ByteArray) [owner] (by show 5 ≤ 50000000; omega) (by show 1 ≤ 1000; omega) (fun p hp => by obtain rfl := List.mem_singleton.1 hp; exact h)) (Ev.now _)
theorem ref14Count_ev (cur : List S73) (key : ByteArray) (h : KV 1000 cur) : Ev (fun k => footbridgeref14_Count.f k cur key) (numK cur key) := by
  have hsz := h.get key
  simp only [footbridgeref14_Count.f]
  refine Ev.bind (ref09Get_ev cur key h.so (Nat.le_trans h.len (by omega))) ?_
  refine Ev.bind (refRNum_ev (getK cur key).1 0 (by omega)) ?_
  simp only [refRDone, Option.bind_some]
  unfold numK
  by_cases hd : rDone (rNum (getK cur key).1 0).2.1 (rNum (getK cur key).1 0).2.2 = 0
  · simp only [if_pos hd]; exact Ev.now _
  · simp only [if_neg hd]; exact Ev.now _
theorem ref47Of_ev (cur : List S73) (owner : ByteArray) (h : KV 1000 cur) (ho : owner.size ≤ 50000000) : Ev (fun k => footbridgeref47_Of.f k cur owner) (bkOf cur owner) := by
  simp only [footbridgeref47_Of.f]
  exact Ev.bind (ref47Key_ev owner ho) (Ev.bind (ref14Count_ev cur _ h) (Ev.now _))
theorem ref47Total_ev (cur : List S73) (h : KV 1000 cur) : Ev (fun k => footbridgeref47_Total.f k cur) (bkAll cur) := by
  simp only [footbridgeref47_Total.f]
  exact Ev.bind (ref14Count_ev cur _ h) (Ev.now _)
theorem ref14Num_ev (n : Int) : Ev (fun k => footbridgeref14_Num.f k n) (bkNum n) := by
  have key : ∃ e, Ev (fun k => footbridgeref01_Num.f k n) (bkNum n, e) := by
    unfold bkNum
    by_cases h : n < 0 ∨ 9007199254740992 < n
    · rw [if_pos h]
      refine ⟨3, 1, fun k hk => ?_⟩
      obtain ⟨k, rfl⟩ : ∃ m, k = m + 1 := ⟨k - 1, by omega⟩
      show footbridgeref01_Num.f (k + 1) n = _
      unfold footbridgeref01_Num.f
      simp only [footbridgeref01_Num.j0]
      by_cases h0 : n < 0
      · rw [if_pos h0, if_pos trivial]
      · rw [if_neg h0, if_pos (decide_eq_true (by omega))]
    · rw [if_neg h]
      obtain ⟨m, rfl⟩ : ∃ m : Nat, n = (m : Int) := ⟨n.toNat, by omega⟩
      rw [Int.toNat_natCast]
      exact ⟨0, refNum_ev m (by omega)⟩
  obtain ⟨e, he⟩ := key
  simp only [footbridgeref14_Num.f]
  exact Ev.bind he (Ev.now _)
theorem bkNum_sz (n : Int) : (bkNum n).size ≤ 9 := by
  unfold bkNum
  split
  · exact Nat.zero_le _
  · exact numB_len _
theorem ref47Set_ev (cur : List S73) (key : ByteArray) (n : Int) (h : KV 1000 cur) (hk : key.size ≤ 65536) : Ev (fun k => footbridgeref47_set.f k cur key n) (bkSet cur key n) := by
  simp only [footbridgeref47_set.f]
  unfold bkSet
  by_cases h0 : n = 0
  · simp only [if_pos h0]
    exact Ev.bind ⟨1000001, fun k hk => del_f cur key k h.so (Nat.le_trans h.len (by omega)) (by have := h.len; omega)⟩ (Ev.now _)
  · simp only [if_neg h0]
    have hs := bkNum_sz n
    have e : setC cur key (bkNum n) = setK cur key (bkNum n) := by unfold setC; exact if_neg (by omega)
    rw [e]
    exact Ev.bind (ref14Num_ev n) (Ev.bind (ref14Put_ev cur key _ h.so (Nat.le_trans h.len (by omega))) (Ev.now _))
theorem bkKey_ne (owner : ByteArray) : keyB (⟨#[99, 111, 105, 110, 115]⟩ : ByteArray) [owner] ≠ (⟨#[97, 108, 108, 45, 99, 111, 105, 110, 115]⟩ : ByteArray) := by
  intro e
  have h := key_head (⟨#[99, 111, 105, 110, 115]⟩ : ByteArray) [owner] 99 [111, 105, 110, 115] (by simp [ByteArray.toList_eq]) (by decide) (by decide)
  rw [e] at h
  simp [ByteArray.toList_eq] at h
theorem bkOf_all {cur : List S73} (hs : sortK cur) (owner : ByteArray) (n : Int) : bkOf (bkSet cur (⟨#[97, 108, 108, 45, 99, 111, 105, 110, 115]⟩ : ByteArray) n) owner = bkOf cur owner := by
  unfold bkOf numK
  rw [getK_bk hs, if_neg (bkKey_ne owner)]
theorem bkKey_len (owner : ByteArray) : (keyB (⟨#[99, 111, 105, 110, 115]⟩ : ByteArray) [owner]).size ≤ 2 * owner.size + 11 := by
  have h1 := hidL_len (⟨#[99, 111, 105, 110, 115]⟩ : ByteArray).toList
  have h2 := hidL_len owner.toList
  rw [← ba_size] at h1 h2
  have h3 : (⟨#[99, 111, 105, 110, 115]⟩ : ByteArray).size = 5 := rfl
  unfold keyB keyL glue
  rw [ofL_size]
  simp only [List.map_cons, List.map_nil, List.flatMap_cons, List.flatMap_nil, List.length_append, List.length_cons, List.length_nil]
  omega
theorem bkChk1 {n : Int} {s : ByteArray} : bkChk n [s] = if nm_checkSpec 6 s = 0 then (if n < 1 ∨ n > 1099511627776 then 3 else 0) else 7 := by
  unfold bkChk
  by_cases h : nm_checkSpec 6 s = 0
  · rw [if_pos h, if_pos (fun x hx => by obtain rfl := List.mem_singleton.1 hx; exact h)]
  · rw [if_neg h, if_neg (fun e => h (e s List.mem_cons_self))]
theorem ref47Give_ev (cur : List S73) (owner : ByteArray) (n : Int) (h : KV 998 cur) (ho : owner.size ≤ 1000) : Ev (fun k => footbridgeref47_Give.f k cur owner n) (bkGive cur owner n, bkGiveE cur owner n) := by
  have h0 := h.mono (show 998 ≤ 1000 by omega)
  have bA := numK_bd cur (⟨#[97, 108, 108, 45, 99, 111, 105, 110, 115]⟩ : ByteArray)
  have bO := numK_bd cur (keyB (⟨#[99, 111, 105, 110, 115]⟩ : ByteArray) [owner])
  have hkl := bkKey_len owner
  simp only [footbridgeref47_Give.f]
  refine Ev.bind (ref47User_ev owner (by omega)) ?_
  unfold bkGive bkGiveE
  rw [bkChk1]
  by_cases hu : nm_checkSpec 6 owner = 0
  · simp only [hu, beq_self_eq_true, if_true]
    by_cases h1 : n < 1
    · simp only [h1, if_true, true_or]; exact Ev.now _
    · by_cases h2 : n > 1099511627776
      · simp only [h1, h2, if_true, if_false, or_true]; exact Ev.now _
      · simp only [h1, h2, if_false, or_self, if_true]
        refine Ev.bind (ref47Total_ev cur h0) ?_
        have e1 : wrap64 (1099511627776 - bkAll cur) = 1099511627776 - bkAll cur := w64 (by unfold bkAll; omega) (by unfold bkAll; omega)
        simp only [e1]
        by_cases h3 : n > 1099511627776 - bkAll cur
        · simp only [h3, if_true]; exact Ev.now _
        · simp only [h3, if_false, if_true]
          have e2 : wrap64 (bkAll cur + n) = bkAll cur + n := w64 (by unfold bkAll; omega) (by unfold bkAll; omega)
          have e3 : wrap64 (bkOf cur owner + n) = bkOf cur owner + n := w64 (by unfold bkOf; omega) (by unfold bkOf; omega)
          refine Ev.bind (ref47Total_ev cur h0) ?_
          simp only [e2]
          refine Ev.bind (ref47Set_ev cur _ _ h0 (by show 9 ≤ 65536; omega)) ?_
          have h4 := (bkSet_KV h (⟨#[97, 108, 108, 45, 99, 111, 105, 110, 115]⟩ : ByteArray) (bkAll cur + n)).mono (show 998 + 1 ≤ 1000 by omega)
          refine Ev.bind (ref47Key_ev owner (by omega)) ?_
          refine Ev.bind (ref47Of_ev _ owner h4 (by omega)) ?_
          rw [bkOf_all h.so, e3]
          refine Ev.bind (ref47Set_ev _ _ _ h4 (by omega)) ?_
          rw [bk_swap h.so (Ne.symm (bkKey_ne owner))]
          exact Ev.now _
  · have hb : (nm_checkSpec 6 owner == 0) = false := beq_eq_false_iff_ne.2 hu
    simp only [hb, hu, if_false, Bool.false_eq_true]
    exact Ev.now _
theorem bkChk2 {n : Int} {s u : ByteArray} : bkChk n [s, u] = if nm_checkSpec 6 s = 0 ∧ nm_checkSpec 6 u = 0 then (if n < 1 ∨ n > 1099511627776 then 3 else 0) else 7 := by
  unfold bkChk
  by_cases h : nm_checkSpec 6 s = 0 ∧ nm_checkSpec 6 u = 0
  · rw [if_pos h, if_pos (fun x hx => by
      simp only [List.mem_cons, List.not_mem_nil, or_false] at hx
      rcases hx with rfl | rfl
      · exact h.1
      · exact h.2)]
  · rw [if_neg h, if_neg (fun e => h ⟨e s (by simp), e u (by simp)⟩)]
theorem Ev.step1 {α : Type} {g f : Nat → Option α} {r : α} (h : ∀ k, g (k + 1) = f k) (k : Ev f r) : Ev g r := by
  obtain ⟨K, hK⟩ := k
  refine ⟨K + 1, fun k hk => ?_⟩
  obtain ⟨m, rfl⟩ : ∃ m, k = m + 1 := ⟨k - 1, by omega⟩
  rw [h]
  exact hK m (by omega)
theorem ref47Take_ev (cur : List S73) (owner : ByteArray) (n : Int) (h : KV 998 cur) (ho : owner.size ≤ 1000) : Ev (fun k => footbridgeref47_Take.f k cur owner n) (bkTake cur owner n, bkTakeE cur owner n) := by
  have h0 := h.mono (show 998 ≤ 1000 by omega)
  have bA := numK_bd cur (⟨#[97, 108, 108, 45, 99, 111, 105, 110, 115]⟩ : ByteArray)
  have bO := numK_bd cur (keyB (⟨#[99, 111, 105, 110, 115]⟩ : ByteArray) [owner])
  have hkl := bkKey_len owner
  simp only [footbridgeref47_Take.f]
  refine Ev.bind (ref47User_ev owner (by omega)) ?_
  unfold bkTake bkTakeE
  rw [bkChk1]
  by_cases hu : nm_checkSpec 6 owner = 0
  · simp only [hu, beq_self_eq_true, if_true]
    have hj : ∀ b : Bool, (b = true ↔ (n < 1 ∨ n > 1099511627776)) → Ev (fun k => footbridgeref47_Take.j0 k cur owner n b) (if (if (if n < 1 ∨ n > 1099511627776 then (3 : Int) else 0) = 0 then (if bkOf cur owner < n then (21 : Int) else 0) else (if n < 1 ∨ n > 1099511627776 then (3 : Int) else 0)) = 0 then bkSet (bkSet cur (keyB (⟨#[99, 111, 105, 110, 115]⟩ : ByteArray) [owner]) (bkOf cur owner - n)) (⟨#[97, 108, 108, 45, 99, 111, 105, 110, 115]⟩ : ByteArray) (bkAll cur - n) else cur, (if (if n < 1 ∨ n > 1099511627776 then (3 : Int) else 0) = 0 then (if bkOf cur owner < n then (21 : Int) else 0) else (if n < 1 ∨ n > 1099511627776 then (3 : Int) else 0))) := by
      intro b hb
      refine Ev.step1 (fun k => by rw [footbridgeref47_Take.j0]) ?_
      by_cases hr : n < 1 ∨ n > 1099511627776
      · simp only [hb.2 hr, hr, if_true]; exact Ev.now _
      · have hb2 : b = false := Bool.eq_false_iff.2 (fun e => hr (hb.1 e))
        simp only [hb2, hr, if_false, if_true, Bool.false_eq_true]
        refine Ev.bind (ref47Of_ev cur owner h0 (by omega)) ?_
        by_cases hl : bkOf cur owner < n
        · simp only [hl, if_true]; exact Ev.now _
        · simp only [hl, if_false, if_true]
          refine Ev.bind (ref47Total_ev cur h0) ?_
          have e2 : wrap64 (bkAll cur - n) = bkAll cur - n := w64 (by unfold bkAll; omega) (by unfold bkAll; omega)
          have e3 : wrap64 (bkOf cur owner - n) = bkOf cur owner - n := w64 (by unfold bkOf; omega) (by unfold bkOf; omega)
          simp only [e2]
          refine Ev.bind (ref47Set_ev cur _ _ h0 (by show 9 ≤ 65536; omega)) ?_
          have h4 := (bkSet_KV h (⟨#[97, 108, 108, 45, 99, 111, 105, 110, 115]⟩ : ByteArray) (bkAll cur - n)).mono (show 998 + 1 ≤ 1000 by omega)
          refine Ev.bind (ref47Key_ev owner (by omega)) ?_
          refine Ev.bind (ref47Of_ev _ owner h4 (by omega)) ?_
          rw [bkOf_all h.so, e3]
          refine Ev.bind (ref47Set_ev _ _ _ h4 (by omega)) ?_
          rw [bk_swap h.so (Ne.symm (bkKey_ne owner))]
          exact Ev.now _
    by_cases h1 : n < 1
    · simp only [h1, if_true]
      have := hj true ⟨fun _ => .inl h1, fun _ => rfl⟩
      simpa only [h1, true_or, if_true] using this
    · simp only [h1, if_false]
      have := hj (decide (n > 1099511627776)) ⟨fun e => .inr (of_decide_eq_true e), fun e => decide_eq_true (e.elim (fun e => absurd e h1) id)⟩
      simpa only [h1, false_or] using this
  · have hb : (nm_checkSpec 6 owner == 0) = false := beq_eq_false_iff_ne.2 hu
    simp only [hb, hu, if_false, Bool.false_eq_true]
    exact Ev.now _
theorem ref47Pay_ev (cur : List S73) (a u : ByteArray) (n : Int) (h : KV 998 cur) (ha : a.size ≤ 1000) (hu0 : u.size ≤ 1000) : Ev (fun k => footbridgeref47_Pay.f k cur a u n) (bkPay cur a u n, bkPayE cur a u n) := by
  have h0 := h.mono (show 998 ≤ 1000 by omega)
  have bO := numK_bd cur (keyB (⟨#[99, 111, 105, 110, 115]⟩ : ByteArray) [a])
  have hka := bkKey_len a
  have hkb := bkKey_len u
  have j1 : 1 ≤ n ∧ n ≤ 1099511627776 → Ev (fun k => footbridgeref47_Pay.j1 k cur a u n false) (if (if bkOf cur a < n then (21 : Int) else 0) = 0 then bkSet (bkPay1 cur a n) (keyB (⟨#[99, 111, 105, 110, 115]⟩ : ByteArray) [u]) (bkOf (bkPay1 cur a n) u + n) else cur, (if bkOf cur a < n then (21 : Int) else 0)) := by
    intro hn
    refine Ev.step1 (fun k => by rw [footbridgeref47_Pay.j1]) ?_
    simp only [if_false, Bool.false_eq_true]
    refine Ev.bind (ref47Of_ev cur a h0 (by omega)) ?_
    by_cases hl : bkOf cur a < n
    · simp only [hl, if_true]; exact Ev.now _
    · simp only [hl, if_false, if_true]
      refine Ev.bind (ref47Key_ev a (by omega)) ?_
      refine Ev.bind (ref47Of_ev cur a h0 (by omega)) ?_
      have e3 : wrap64 (bkOf cur a - n) = bkOf cur a - n := w64 (by unfold bkOf; omega) (by unfold bkOf; omega)
      simp only [e3]
      refine Ev.bind (ref47Set_ev cur _ _ h0 (by omega)) ?_
      have h4 := (bkSet_KV h (keyB (⟨#[99, 111, 105, 110, 115]⟩ : ByteArray) [a]) (bkOf cur a - n)).mono (show 998 + 1 ≤ 1000 by omega)
      refine Ev.bind (ref47Key_ev u (by omega)) ?_
      refine Ev.bind (ref47Of_ev _ u h4 (by omega)) ?_
      have bQ := numK_bd (bkSet cur (keyB (⟨#[99, 111, 105, 110, 115]⟩ : ByteArray) [a]) (bkOf cur a - n)) (keyB (⟨#[99, 111, 105, 110, 115]⟩ : ByteArray) [u])
      have e4 : wrap64 (bkOf (bkSet cur (keyB (⟨#[99, 111, 105, 110, 115]⟩ : ByteArray) [a]) (bkOf cur a - n)) u + n) = bkOf (bkSet cur (keyB (⟨#[99, 111, 105, 110, 115]⟩ : ByteArray) [a]) (bkOf cur a - n)) u + n := w64 (by unfold bkOf at bQ ⊢; omega) (by unfold bkOf at bQ ⊢; omega)
      rw [e4]
      exact Ev.bind (ref47Set_ev _ _ _ h4 (by omega)) (Ev.now _)
  have j0 : ∀ b : Bool, (b = true ↔ ¬ (nm_checkSpec 6 a = 0 ∧ nm_checkSpec 6 u = 0)) → Ev (fun k => footbridgeref47_Pay.j0 k cur a u n b) (bkPay cur a u n, bkPayE cur a u n) := by
    intro b hb
    refine Ev.step1 (fun k => by rw [footbridgeref47_Pay.j0]) ?_
    unfold bkPay bkPayE
    rw [bkChk2]
    by_cases hv : nm_checkSpec 6 a = 0 ∧ nm_checkSpec 6 u = 0
    · have hb2 : b = false := Bool.eq_false_iff.2 (fun e => hb.1 e hv)
      simp only [hb2, if_false, Bool.false_eq_true, if_pos hv]
      by_cases h1 : n < 1
      · simp only [h1, if_true, true_or]
        refine Ev.step1 (fun k => by rw [footbridgeref47_Pay.j1]) ?_
        simp only [if_true]
        exact Ev.now _
      · by_cases h2 : n > 1099511627776
        · simp only [h1, h2, if_true, if_false, or_true, decide_true]
          refine Ev.step1 (fun k => by rw [footbridgeref47_Pay.j1]) ?_
          simp only [if_true]
          exact Ev.now _
        · simp only [h1, h2, if_false, or_self, if_true, decide_false]
          exact j1 (by omega)
    · have hb2 : b = true := hb.2 hv
      simp only [hb2, if_true, if_neg hv]
      exact Ev.now _
  simp only [footbridgeref47_Pay.f]
  refine Ev.bind (ref47User_ev a (by omega)) ?_
  by_cases hv : nm_checkSpec 6 a = 0
  · simp only [hv, beq_self_eq_true, if_true]
    refine Ev.bind (ref47User_ev u (by omega)) ?_
    refine j0 _ ?_
    rw [Bool.not_eq_true', beq_eq_false_iff_ne]
    exact ⟨fun e e2 => e e2.2, fun e e2 => e ⟨hv, e2⟩⟩
  · have hb : (nm_checkSpec 6 a == 0) = false := beq_eq_false_iff_ne.2 hv
    simp only [hb, if_false, Bool.false_eq_true]
    exact j0 true ⟨fun _ e => hv e.1, fun _ => rfl⟩
/-! ### a deed -/
noncomputable def bkDo (cur : List S73) (k : Int) (a b : ByteArray) (n : Int) : List S73 := if k = 0 then bkGive cur b n else if k = 1 then bkTake cur a n else bkPay cur a b n
noncomputable def bkDoE (cur : List S73) (k : Int) (a b : ByteArray) (n : Int) : Int := if k = 0 then bkGiveE cur b n else if k = 1 then bkTakeE cur a n else bkPayE cur a b n
theorem bkDo_KV {m : Nat} {cur : List S73} (h : KV m cur) (k : Int) (a b : ByteArray) (n : Int) : KV (m + 2) (bkDo cur k a b n) := by
  unfold bkDo bkGive bkTake bkPay bkPay1
  repeat' split
  all_goals first | exact bkSet_KV (bkSet_KV h _ _) _ _ | exact h.mono (by omega)

end Go.Proofs.YtonipkgekhdogaaGreatDoor.PBas
