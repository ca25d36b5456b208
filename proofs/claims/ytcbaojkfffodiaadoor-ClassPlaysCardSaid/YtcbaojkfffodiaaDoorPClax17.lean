-- written by wip/myprint.py over the kit's print; not a printed text of print.sh
import Derived.Test.YtcbaojkfffodiaaDoorPClax0
import Derived.Test.YtcbaojkfffodiaaDoorPClax2
import Derived.Test.YtcbaojkfffodiaaDoorPClax8
import Derived.Test.YtcbaojkfffodiaaDoorPClax14
import Derived.Test.YtcbaojkfffodiaaDoorPClax15
import Derived.Test.YtcbaojkfffodiaaDoorPClax16
namespace Go.Proofs.YtcbaojkfffodiaaDoor.PCla
open Go.RowKit Go.Proofs.YtcbaojkfffodiaaDoorW.PrintWords Go.Proofs.YtcbaojkfffodiaaDoorW.PrintLast Go.Proofs.YtcbaojkfffodiaaDoorW.PrintMore
attribute [local go_sem] max2_int min2_int max_two min_two max_three min_three max_four min_four   -- for this text's walks alone
set_option linter.unusedVariables false
set_option linter.unusedSimpArgs false

/-! ### words: kget.inc -/
/-! ### stores: what is read behind a set, a del: plain -/
theorem getK_mem {l : List S100} (hs : sortK l) {p : S100} (hp : p ∈ l) : getK l p.f0 = (p.f1, true) ∧ hasK l p.f0 = true := by
  obtain ⟨A, B, rfl⟩ := List.append_of_mem hp
  have h := List.pairwise_append.1 hs
  have hA : ∀ a ∈ A, kLt a.f0 p.f0 = true := fun a ha => h.2.2 a ha p List.mem_cons_self
  have hB : ∀ b ∈ B, kLt b.f0 p.f0 = false := fun b hb => by
    cases e : kLt b.f0 p.f0 with
    | false => rfl
    | true =>
      have h3 := kLt_trans e (List.rel_of_pairwise_cons h.2.1 hb)
      rw [kLt_irr] at h3; cases h3
  exact ⟨getK_mid hA rfl hB, hasK_mid hA rfl hB⟩
theorem getK_none {l : List S100} {key : ByteArray} (h : ¬ hasK l key = true) : getK l key = ((⟨#[]⟩ : ByteArray), false) := getK_no (Bool.eq_false_iff.2 h)
theorem setK_keep {l : List S100} (hs : sortK l) {key : ByteArray} (value : ByteArray) {p : S100} (hp : p ∈ l) (hk : p.f0 ≠ key) : p ∈ setK l key value := by
  obtain ⟨A, B, hA, hB, h⟩ := decK hs key
  rcases h with ⟨_, x, hx, rfl⟩ | ⟨hn, rfl⟩
  · rw [setK_mid value hA hx hB]
    rcases List.mem_append.1 hp with hp | hp
    · exact List.mem_append_left _ hp
    · rcases List.mem_cons.1 hp with rfl | hp
      · exact absurd hx hk
      · exact List.mem_append_right _ (List.mem_cons_of_mem _ hp)
  · rw [setK_new value hA hB hn]
    rcases List.mem_append.1 hp with hp | hp
    · exact List.mem_append_left _ hp
    · exact List.mem_append_right _ (List.mem_cons_of_mem _ hp)
theorem delK_keep {l : List S100} (hs : sortK l) {key : ByteArray} {p : S100} (hp : p ∈ l) (hk : p.f0 ≠ key) : p ∈ delK l key := by
  by_cases hh : hasK l key = true
  · obtain ⟨A, B, hA, hB, h⟩ := decK hs key
    rcases h with ⟨_, x, hx, rfl⟩ | ⟨hn, rfl⟩
    · rw [delK_mid hA hx hB]
      rcases List.mem_append.1 hp with hp | hp
      · exact List.mem_append_left _ hp
      · rcases List.mem_cons.1 hp with rfl | hp
        · exact absurd hx hk
        · exact List.mem_append_right _ hp
    · rw [hn] at hh; cases hh
  · rw [delK_no hh]; exact hp
theorem hasK_setK {l : List S100} (hs : sortK l) {key k2 : ByteArray} (value : ByteArray) (h : k2 ≠ key) : hasK (setK l key value) k2 = hasK l k2 ∧ getK (setK l key value) k2 = getK l k2 := by
  by_cases hh : hasK l k2 = true
  · obtain ⟨p, hp, rfl⟩ := hasK_in hh
    have h1 := getK_mem hs hp
    have h2 := getK_mem (sortK_set hs key value) (setK_keep hs value hp h)
    exact ⟨h2.2.trans h1.2.symm, h2.1.trans h1.1.symm⟩
  · have h3 : ¬ hasK (setK l key value) k2 = true := fun e => by
      obtain ⟨p, hp, rfl⟩ := hasK_in e
      rcases mem_setK hp with rfl | hp
      · exact h rfl
      · exact hh (getK_mem hs hp).2
    rw [getK_none hh, getK_none h3, Bool.eq_false_iff.2 hh, Bool.eq_false_iff.2 h3]
    exact ⟨rfl, rfl⟩
theorem hasK_delK {l : List S100} (hs : sortK l) {key k2 : ByteArray} (h : k2 ≠ key) : hasK (delK l key) k2 = hasK l k2 ∧ getK (delK l key) k2 = getK l k2 := by
  by_cases hh : hasK l k2 = true
  · obtain ⟨p, hp, rfl⟩ := hasK_in hh
    have h1 := getK_mem hs hp
    have h2 := getK_mem (sortK_del hs key) (delK_keep hs hp h)
    exact ⟨h2.2.trans h1.2.symm, h2.1.trans h1.1.symm⟩
  · have h3 : ¬ hasK (delK l key) k2 = true := fun e => by
      obtain ⟨p, hp, rfl⟩ := hasK_in e
      exact hh (getK_mem hs (mem_delK hp)).2
    rw [getK_none hh, getK_none h3, Bool.eq_false_iff.2 hh, Bool.eq_false_iff.2 h3]
    exact ⟨rfl, rfl⟩
theorem hasK_gone {l : List S100} (hs : sortK l) (key : ByteArray) : hasK (delK l key) key = false := by
  by_cases hh : hasK l key = true
  · obtain ⟨A, B, hA, hB, h⟩ := decK hs key
    rcases h with ⟨_, x, hx, rfl⟩ | ⟨hn, rfl⟩
    · rw [delK_mid hA hx hB]
      refine hasK_not (fun p hp e => ?_)
      have h := List.pairwise_append.1 hs
      rcases List.mem_append.1 hp with hp | hp
      · have := hA p hp; rw [e, kLt_irr] at this; cases this
      · have := List.rel_of_pairwise_cons h.2.1 hp
        rw [hx, e, kLt_irr] at this; cases this
    · rw [hn] at hh; cases hh
  · rw [delK_no hh]; exact Bool.eq_false_iff.2 hh

/-! ### words: clp.inc -/
/-! ### classes: plain -/
theorem nNone : rDone (rNum (⟨#[]⟩ : ByteArray) 0).2.1 (rNum (⟨#[]⟩ : ByteArray) 0).2.2 = 5 := by decide +kernel
theorem clNew_KV {n : Nat} {cur : List S100} (h : KV n cur) (c0 c1 c2 c3 : ByteArray) : KV (n + 1) (clNew cur c0 c1 c2 c3) := by
  unfold clNew
  repeat' split
  all_goals first | exact h.mono (Nat.le_succ _) | exact h.put _ _
/-- A store of classes alone. -/
def AllC (cur : List S100) : Prop := ∀ p ∈ cur, p.f0.toList.head? = some 99
theorem AllC.new {cur : List S100} (h : AllC cur) (c0 c1 c2 c3 : ByteArray) : AllC (clNew cur c0 c1 c2 c3) := by
  unfold clNew setC
  repeat' split
  all_goals first | exact h | skip
  intro p hp
  rcases mem_setK hp with rfl | hp
  · exact key_head _ _ 99 [108, 97, 115, 115] (by simp [ByteArray.toList_eq]) (by decide) (by decide)
  · exact h p hp
theorem numK_C {cur : List S100} (h : AllC cur) (id : ByteArray) : numK cur (keyB (⟨#[115, 117, 112, 112, 108, 121]⟩ : ByteArray) [id]) = 0 := by
  have hh : hasK cur (keyB (⟨#[115, 117, 112, 112, 108, 121]⟩ : ByteArray) [id]) = false := hasK_not (fun p hp e => by
    have h1 := h p hp
    rw [e, key_head _ _ 115 [117, 112, 112, 108, 121] (by simp [ByteArray.toList_eq]) (by decide) (by decide)] at h1
    exact absurd h1 (by decide))
  unfold numK
  rw [getK_no hh]
  exact if_neg (by rw [nNone]; decide)
theorem clGet_0 {cur : List S100} {c0 c1 c2 c3 : ByteArray} (h : clNewE cur c0 c1 c2 c3 = 0) : clGet cur c0 = ((⟨#[]⟩ : ByteArray), (⟨#[]⟩ : ByteArray), (⟨#[]⟩ : ByteArray), (⟨#[]⟩ : ByteArray), 8) := by
  unfold clNewE at h
  split at h
  · exact absurd h (by decide)
  split at h
  · exact absurd h (by decide)
  split at h
  · exact absurd h (by decide)
  rename_i hh
  unfold clGet
  exact if_neg (fun e => hh e.1)
/-! ### the layer's examples -/
def claS : List S100 := [⟨⟨#[99, 108, 97, 115, 115, 47, 99, 97, 116]⟩, ⟨#[1, 1, 117, 1, 1, 100, 1, 2, 97, 108]⟩⟩]
theorem clak1 : (keyB ⟨#[99, 108, 97, 115, 115]⟩ [⟨#[99, 97, 116]⟩]) = ⟨#[99, 108, 97, 115, 115, 47, 99, 97, 116]⟩ := by
  simp [keyB, keyL, glue, hidL, ofL, ByteArray.toList_eq]
theorem clak2 : (keyB ⟨#[99, 108, 97, 115, 115]⟩ [⟨#[100, 111, 103]⟩]) = ⟨#[99, 108, 97, 115, 115, 47, 100, 111, 103]⟩ := by
  simp [keyB, keyL, glue, hidL, ofL, ByteArray.toList_eq]
theorem clak3 : (keyB ⟨#[115, 117, 112, 112, 108, 121]⟩ [⟨#[99, 97, 116]⟩]) = ⟨#[115, 117, 112, 112, 108, 121, 47, 99, 97, 116]⟩ := by
  simp [keyB, keyL, glue, hidL, ofL, ByteArray.toList_eq]
theorem clav1 : valB [⟨#[117]⟩, ⟨#[100]⟩, ⟨#[97, 108]⟩] = ⟨#[1, 1, 117, 1, 1, 100, 1, 2, 97, 108]⟩ := by decide +kernel
theorem clax1 : txt3 ⟨#[1, 1, 117, 1, 1, 100, 1, 2, 97, 108]⟩ = (⟨#[117]⟩, ⟨#[100]⟩, ⟨#[97, 108]⟩, 0) := by decide +kernel
theorem claw1 : clNewE [] ⟨#[99, 97, 116]⟩ ⟨#[117]⟩ ⟨#[100]⟩ ⟨#[97, 108]⟩ = 0 ∧ clNew [] ⟨#[99, 97, 116]⟩ ⟨#[117]⟩ ⟨#[100]⟩ ⟨#[97, 108]⟩ = claS := by
  simp [clNewE, clNew, clak1, clav1, hasK, posK, setE, setC, setK, ByteArray.size, claS]
theorem claw2 : clNewE claS ⟨#[99, 97, 116]⟩ ⟨#[117]⟩ ⟨#[100]⟩ ⟨#[97, 108]⟩ = 9 ∧ clNew claS ⟨#[99, 97, 116]⟩ ⟨#[117]⟩ ⟨#[100]⟩ ⟨#[97, 108]⟩ = claS := by
  simp [clNewE, clNew, clak1, hasK, posK, kLt, ByteArray.toList_eq, Op.bytesLess, ByteArray.size, claS]
theorem claw3 : clGet claS ⟨#[99, 97, 116]⟩ = (⟨#[99, 97, 116]⟩, ⟨#[117]⟩, ⟨#[100]⟩, ⟨#[97, 108]⟩, 0) := by
  simp [clGet, clak1, clax1, getK, hasK, posK, kLt, ByteArray.toList_eq, Op.bytesLess, claS, rd_T100]
theorem claw4 : clGet claS ⟨#[100, 111, 103]⟩ = (⟨#[]⟩, ⟨#[]⟩, ⟨#[]⟩, ⟨#[]⟩, 8) := by
  simp [clGet, clak2, hasK, posK, kLt, ByteArray.toList_eq, Op.bytesLess, claS]
theorem claw5 : numK claS (keyB ⟨#[115, 117, 112, 112, 108, 121]⟩ [⟨#[99, 97, 116]⟩]) = 0 := by
  simp [numK, clak3, getK, hasK, posK, kLt, ByteArray.toList_eq, Op.bytesLess, claS, nNone]
theorem claw6 : clNewE claS ⟨#[]⟩ ⟨#[]⟩ ⟨#[]⟩ ⟨#[]⟩ = 7 ∧ clNew claS ⟨#[]⟩ ⟨#[]⟩ ⟨#[]⟩ ⟨#[]⟩ = claS := by
  simp [clNewE, clNew, ByteArray.size]
theorem claw7 : KV 1000000 claS := ⟨by simp [sortK, claS], by show 1 ≤ 1000000; omega, fun p hp => by obtain rfl := List.mem_singleton.1 hp; show 10 ≤ 65536; omega⟩

end Go.Proofs.YtcbaojkfffodiaaDoor.PCla
