-- written by wip/myprint.py over the kit's print; not a printed text of print.sh
import Derived.Test.YtonipkgekhdogaaGreatDoorPRupx0
import Derived.Test.YtonipkgekhdogaaGreatDoorPRupx2
import Derived.Test.YtonipkgekhdogaaGreatDoorPRupx8
import Derived.Test.YtonipkgekhdogaaGreatDoorPRupx10
import Derived.Test.YtonipkgekhdogaaGreatDoorPRupx11
import Derived.Test.YtonipkgekhdogaaGreatDoorPRupx23
import Derived.Test.YtonipkgekhdogaaGreatDoorPRupx24
import Derived.Test.YtonipkgekhdogaaGreatDoorPRupx26
import Derived.Test.YtonipkgekhdogaaGreatDoorPRupx30
import Derived.Test.YtonipkgekhdogaaGreatDoorPRupx32
import Derived.Test.YtonipkgekhdogaaGreatDoorPRupx33
import Derived.Test.YtonipkgekhdogaaGreatDoorPRupx34
import Derived.Test.YtonipkgekhdogaaGreatDoorPRupx35
import Derived.Test.YtonipkgekhdogaaGreatDoorPRupx36
namespace Go.Proofs.YtonipkgekhdogaaGreatDoor.PRup
open Go.RowKit Go.Proofs.YtonipkgekhdogaaGreatDoorW.PrintWords Go.Proofs.YtonipkgekhdogaaGreatDoorW.PrintLast Go.Proofs.YtonipkgekhdogaaGreatDoorW.PrintMore
attribute [local go_sem] max2_int min2_int max_two min_two max_three min_three max_four min_four   -- for this text's walks alone
set_option linter.unusedVariables false
set_option linter.unusedSimpArgs false

/-! ### words: ruref.inc -/
/-! ### the document's rules -/
theorem getK_2 (cur : List S73) (key : ByteArray) : (getK cur key).2 = hasK cur key := by unfold getK; cases hasK cur key <;> rfl
theorem Ev.step1r {α : Type} {g f : Nat → Option α} {r : α} (h : ∀ k, g (k + 1) = f k) (k : Ev f r) : Ev g r := by
  obtain ⟨K, hK⟩ := k
  refine ⟨K + 1, fun k hk => ?_⟩
  obtain ⟨m, rfl⟩ : ∃ m, k = m + 1 := ⟨k - 1, by omega⟩
  rw [h]
  exact hK m (by omega)
theorem ref14NumN_ev (m : Nat) (h : m ≤ 9007199254740992) : Ev (fun k => footbridgeref14_Num.f k (m : Int)) (numB m) := by
  simp only [footbridgeref14_Num.f]
  exact Ev.bind (refNum_ev m h) (Ev.now _)
theorem ref24Flag_ev (cur : List S73) (key : ByteArray) (yes : Bool) (h : KV 1000 cur) (hk : key.size ≤ 65536) : Ev (fun k => footbridgeref24_Flag.f k cur key yes) (flagK cur key yes) := by
  simp only [footbridgeref24_Flag.f]
  unfold flagK
  cases yes with
  | true =>
    simp only [if_true]
    have e : setC cur key (⟨#[1]⟩ : ByteArray) = setK cur key (⟨#[1]⟩ : ByteArray) := by
      unfold setC
      have h1 : (⟨#[1]⟩ : ByteArray).size = 1 := rfl
      exact if_neg (by omega)
    rw [e]
    exact Ev.bind (ref14Put_ev cur key _ h.so (Nat.le_trans h.len (by omega))) (Ev.now _)
  | false =>
    simp only [Bool.false_eq_true, if_false]
    exact Ev.bind ⟨1000001, fun k hk => del_f cur key k h.so (Nat.le_trans h.len (by omega)) (by have := h.len; omega)⟩ (Ev.now _)
theorem ref34Hop_ev (p ch : ByteArray) (hp : p.size ≤ 140737488351232) (hch : ch.size ≤ 140737488351232) : Ev (fun k => footbridgeref34_hop.f k p ch) (decide (ruChk p ch = 0)) := by
  simp only [footbridgeref34_hop.f]
  refine Ev.bind (nm_checkRef_ev 0 p hp) ?_
  by_cases h0 : nm_checkSpec 0 p = 0
  · simp only [if_pos h0]
    refine Ev.bind (nm_checkRef_ev 1 ch hch) ?_
    by_cases h1 : nm_checkSpec 1 ch = 0
    · have e : decide (ruChk p ch = 0) = (nm_checkSpec 1 ch == 0) := by unfold ruChk; rw [if_pos ⟨h0, h1⟩, h1]; rfl
      rw [e]; exact Ev.now _
    · have e : decide (ruChk p ch = 0) = (nm_checkSpec 1 ch == 0) := by unfold ruChk; rw [if_neg (fun e => h1 e.2), beq_eq_false_iff_ne.2 h1]; rfl
      rw [e]; exact Ev.now _
  · simp only [if_neg h0]
    have e : decide (ruChk p ch = 0) = false := by unfold ruChk; rw [if_neg (fun e => h0 e.1)]; rfl
    rw [e]; exact Ev.now _
theorem ruChk_7 {p ch : ByteArray} (h : ¬ ruChk p ch = 0) : ruChk p ch = 7 := by
  unfold ruChk at h ⊢
  split at h
  · exact absurd rfl h
  · rename_i h2; exact if_neg h2
theorem ruKey_len (word p ch : ByteArray) (more : List ByteArray) (hm : ∀ s ∈ more, s.size ≤ 300) (hl : more.length ≤ 1) (hw : word.size ≤ 10) (hp : p.size ≤ 300) (hch : ch.size ≤ 300) : (ruK word p ch more).size ≤ 60000 := by
  have h1 := hidL_len word.toList
  have h2 := hidL_len p.toList
  have h3 := hidL_len ch.toList
  rw [← ba_size] at h1 h2 h3
  unfold ruK keyB keyL glue
  rw [ofL_size]
  cases more with
  | nil => simp only [List.map_cons, List.map_nil, List.flatMap_cons, List.flatMap_nil, List.length_append, List.length_cons, List.length_nil]; omega
  | cons m t =>
    cases t with
    | nil =>
      have h4 := hidL_len m.toList
      rw [← ba_size] at h4
      have h5 := hm m List.mem_cons_self
      simp only [List.map_cons, List.map_nil, List.flatMap_cons, List.flatMap_nil, List.length_append, List.length_cons, List.length_nil]; omega
    | cons x y => simp only [List.length_cons] at hl; omega
theorem ruKeyRef_ev (word p ch : ByteArray) (more : List ByteArray) (hm : ∀ s ∈ more, s.size ≤ 300) (hl : more.length ≤ 1) (hw : word.size ≤ 10) (hp : p.size ≤ 300) (hch : ch.size ≤ 300) : Ev (fun k => footbridgeref14_Key.f k (word :: p :: ch :: more)) (ruK word p ch more) :=
  ref14Key_ev word (p :: ch :: more) (by omega) (by simp only [List.length_cons]; omega) (fun s hs => by
    rcases List.mem_cons.1 hs with rfl | hs
    · omega
    · rcases List.mem_cons.1 hs with rfl | hs
      · omega
      · have := hm s hs; omega)
theorem ref34Listed_ev (cur : List S73) (p ch : ByteArray) (yes : Bool) (h : KV 1000 cur) (hp : p.size ≤ 300) (hch : ch.size ≤ 300) : Ev (fun k => footbridgeref34_Listed.f k cur p ch yes) (ruListed cur p ch yes, ruListedE p ch) := by
  have hl := ruKey_len (⟨#[108, 105, 115, 116, 101, 100]⟩ : ByteArray) p ch [] (by simp) (by simp) (by decide) hp hch
  simp only [footbridgeref34_Listed.f]
  refine Ev.bind (ref34Hop_ev p ch (by omega) (by omega)) ?_
  unfold ruListed ruListedE
  by_cases h0 : ruChk p ch = 0
  · simp only [h0, decide_true, if_true]
    exact Ev.bind (ruKeyRef_ev _ p ch [] (by simp) (by simp) (by decide) hp hch) (Ev.bind (ref24Flag_ev cur _ yes h (by omega)) (Ev.now _))
  · simp only [h0, decide_false, if_false, Bool.false_eq_true, ruChk_7 h0]
    exact Ev.now _
theorem ref34Allow_ev (cur : List S73) (p ch base : ByteArray) (yes : Bool) (h : KV 1000 cur) (hp : p.size ≤ 300) (hch : ch.size ≤ 300) (hb : base.size ≤ 300) : Ev (fun k => footbridgeref34_Allow.f k cur p ch base yes) (ruAllow cur p ch base yes, ruAllowE p ch base) := by
  have hl := ruKey_len (⟨#[97, 108, 108, 111, 119]⟩ : ByteArray) p ch [base] (by simpa using hb) (by simp) (by decide) hp hch
  simp only [footbridgeref34_Allow.f]
  refine Ev.bind (ref34Hop_ev p ch (by omega) (by omega)) ?_
  unfold ruAllow ruAllowE
  by_cases h0 : ruChk p ch = 0
  · simp only [h0, decide_true, if_true]
    refine Ev.bind (nm_checkRef_ev 4 base (by omega)) ?_
    obtain ⟨K, hK⟩ : Ev (fun k => footbridgeref34_Allow.j0 k cur base yes (nm_checkSpec 4 base != 0) p ch) ((if nm_checkSpec 4 base = 0 then flagK cur (ruK (⟨#[97, 108, 108, 111, 119]⟩ : ByteArray) p ch [base]) yes else cur), (if nm_checkSpec 4 base = 0 then (0 : Int) else 7)) := by
      refine Ev.step1r (fun k => by rw [footbridgeref34_Allow.j0]) ?_
      by_cases h4 : nm_checkSpec 4 base = 0
      · have e : (nm_checkSpec 4 base != 0) = false := by rw [h4]; rfl
        simp only [e, Bool.false_eq_true, if_false, if_pos h4]
        exact Ev.bind (ruKeyRef_ev _ p ch [base] (by simpa using hb) (by simp) (by decide) hp hch) (Ev.bind (ref24Flag_ev cur _ yes h (by omega)) (Ev.now _))
      · have e : (nm_checkSpec 4 base != 0) = true := by rw [bne, beq_eq_false_iff_ne.2 h4]; rfl
        simp only [e, if_true, if_neg h4]
        exact Ev.now _
    exact ⟨K, hK⟩
  · simp only [h0, decide_false, if_false, Bool.false_eq_true, ruChk_7 h0]
    refine Ev.step1r (fun k => by rw [footbridgeref34_Allow.j0]) ?_
    simp only [if_true]
    exact Ev.now _
theorem ref34Limit_ev (cur : List S73) (p ch : ByteArray) (n : Int) (h : KV 1000 cur) (hp : p.size ≤ 300) (hch : ch.size ≤ 300) : Ev (fun k => footbridgeref34_Limit.f k cur p ch n) (ruLimit cur p ch n, ruLimitE p ch n) := by
  have hl := ruKey_len (⟨#[108, 105, 109, 105, 116]⟩ : ByteArray) p ch [] (by simp) (by simp) (by decide) hp hch
  simp only [footbridgeref34_Limit.f]
  refine Ev.bind (ruKeyRef_ev _ p ch [] (by simp) (by simp) (by decide) hp hch) ?_
  refine Ev.bind (ref34Hop_ev p ch (by omega) (by omega)) ?_
  unfold ruLimit ruLimitE
  generalize ruK (⟨#[108, 105, 109, 105, 116]⟩ : ByteArray) p ch [] = key at hl
  by_cases h0 : ruChk p ch = 0
  · simp only [h0, decide_true, if_true]
    have hj : ∀ b : Bool, (b = true ↔ (n < 0 ∨ n > 16)) → Ev (fun k => footbridgeref34_Limit.j0 k cur n key b) ((if n < 0 ∨ n > 16 then cur else if n = 0 then delK cur key else setC cur key (numB n.toNat)), (if n < 0 ∨ n > 16 then (3 : Int) else if n = 0 then 0 else setE key (numB n.toNat))) := by
      intro b hb
      refine Ev.step1r (fun k => by rw [footbridgeref34_Limit.j0]) ?_
      by_cases hr : n < 0 ∨ n > 16
      · simp only [hb.2 hr, hr, if_true]; exact Ev.now _
      · have hb2 : b = false := Bool.eq_false_iff.2 (fun e => hr (hb.1 e))
        simp only [hb2, hr, if_false, Bool.false_eq_true]
        by_cases hz : n = 0
        · simp only [hz, if_true]
          have e := ref24Flag_ev cur key false h (by omega)
          unfold flagK at e
          simp only [Bool.false_eq_true, if_false] at e
          exact Ev.bind e (Ev.now _)
        · simp only [hz, if_false]
          obtain ⟨m, rfl⟩ : ∃ m : Nat, n = (m : Int) := ⟨n.toNat, by omega⟩
          rw [Int.toNat_natCast]
          have hs := numB_len m
          have e1 : setC cur key (numB m) = setK cur key (numB m) := by unfold setC; exact if_neg (by omega)
          have e2 : setE key (numB m) = 0 := by unfold setE; exact if_neg (by omega)
          rw [e1, e2]
          exact Ev.bind (ref14NumN_ev m (by omega)) (Ev.bind (ref14Put_ev cur key _ h.so (Nat.le_trans h.len (by omega))) (Ev.now _))
    by_cases h1 : n < 0
    · simp only [h1, if_true]
      have := hj true ⟨fun _ => .inl h1, fun _ => rfl⟩
      simpa only [h1, true_or, if_true] using this
    · simp only [h1, if_false]
      have := hj (decide (n > 16)) ⟨fun e => .inr (of_decide_eq_true e), fun e => decide_eq_true (e.elim (fun e => absurd e h1) id)⟩
      simpa only [h1, false_or] using this
  · simp only [h0, decide_false, if_false, Bool.false_eq_true, ruChk_7 h0]
    exact Ev.now _
theorem ref34SetAdmin_ev (cur : List S73) (who : ByteArray) (h : KV 1000 cur) (hw : who.size ≤ 300) : Ev (fun k => footbridgeref34_SetAdmin.f k cur who) (ruAdmin cur who, ruAdminE who) := by
  simp only [footbridgeref34_SetAdmin.f]
  refine Ev.bind (nm_checkRef_ev 6 who (by omega)) ?_
  unfold ruAdmin ruAdminE
  have h5 : (⟨#[97, 100, 109, 105, 110]⟩ : ByteArray).size = 5 := rfl
  by_cases h6 : nm_checkSpec 6 who = 0
  · simp only [if_pos h6]
    have e1 : setC cur (⟨#[97, 100, 109, 105, 110]⟩ : ByteArray) who = setK cur (⟨#[97, 100, 109, 105, 110]⟩ : ByteArray) who := by unfold setC; exact if_neg (by omega)
    have e2 : setE (⟨#[97, 100, 109, 105, 110]⟩ : ByteArray) who = 0 := by unfold setE; exact if_neg (by omega)
    rw [e1, e2]
    exact Ev.bind (ref14Put_ev cur _ _ h.so (Nat.le_trans h.len (by omega))) (Ev.now _)
  · simp only [if_neg h6]; exact Ev.now _
theorem ref34Admin_ev (cur : List S73) (h : KV 1000 cur) : Ev (fun k => footbridgeref34_Admin.f k cur) (getK cur (⟨#[97, 100, 109, 105, 110]⟩ : ByteArray)).1 := by
  simp only [footbridgeref34_Admin.f]
  exact Ev.bind (ref09Get_ev cur _ h.so (Nat.le_trans h.len (by omega))) (Ev.now _)
theorem ref34May_ev (cur : List S73) (p ch base : ByteArray) (n : Int) (h : KV 1000 cur) (hp : p.size ≤ 300) (hch : ch.size ≤ 300) (hb : base.size ≤ 300) : Ev (fun k => footbridgeref34_May.f k cur p ch base n) (ruMay cur p ch base n) := by
  have hso := h.so
  have hln : cur.length ≤ 1000000 := Nat.le_trans h.len (by omega)
  simp only [footbridgeref34_May.f]
  refine Ev.bind (ruKeyRef_ev _ p ch [] (by simp) (by simp) (by decide) hp hch) ?_
  have hsz := h.get (ruK (⟨#[108, 105, 109, 105, 116]⟩ : ByteArray) p ch [])
  refine Ev.bind (ref09Get_ev cur _ hso hln) ?_
  refine Ev.bind (refRNum_ev _ 0 (by omega)) ?_
  unfold ruMay
  rw [getK_2]
  generalize (rNum (getK cur (ruK (⟨#[108, 105, 109, 105, 116]⟩ : ByteArray) p ch [])).1 0).1 = q
  have hj : ∀ b : Bool, Ev (fun k => footbridgeref34_May.j0 k cur base b p ch) (if b = true then (21 : Int) else if hasK cur (ruK (⟨#[108, 105, 115, 116, 101, 100]⟩ : ByteArray) p ch []) = true ∧ hasK cur (ruK (⟨#[97, 108, 108, 111, 119]⟩ : ByteArray) p ch [base]) = false then 20 else 0) := by
    intro b
    refine Ev.step1r (fun k => by rw [footbridgeref34_May.j0]) ?_
    cases b with
    | true => simp only [if_true]; exact Ev.now _
    | false =>
      simp only [Bool.false_eq_true, if_false]
      refine Ev.bind (ruKeyRef_ev _ p ch [] (by simp) (by simp) (by decide) hp hch) ?_
      refine Ev.bind (ref09Get_ev cur _ hso hln) ?_
      refine Ev.bind (ruKeyRef_ev _ p ch [base] (by simpa using hb) (by simp) (by decide) hp hch) ?_
      refine Ev.bind (ref09Get_ev cur _ hso hln) ?_
      rw [getK_2, getK_2]
      cases hasK cur (ruK (⟨#[108, 105, 115, 116, 101, 100]⟩ : ByteArray) p ch []) <;> cases hasK cur (ruK (⟨#[97, 108, 108, 111, 119]⟩ : ByteArray) p ch [base]) <;> simp <;> exact Ev.now _
  cases hasK cur (ruK (⟨#[108, 105, 109, 105, 116]⟩ : ByteArray) p ch []) with
  | false =>
    have := hj false
    simpa using this
  | true =>
    have := hj (decide (n > q))
    simpa using this
/-! ### a deed -/
noncomputable def ruDo (cur : List S73) (k : Int) (p ch base : ByteArray) (yes : Bool) (n : Int) : List S73 := if k = 0 then ruListed cur p ch yes else if k = 1 then ruAllow cur p ch base yes else if k = 2 then ruLimit cur p ch n else ruAdmin cur base
noncomputable def ruDoE (k : Int) (p ch base : ByteArray) (n : Int) : Int := if k = 0 then ruListedE p ch else if k = 1 then ruAllowE p ch base else if k = 2 then ruLimitE p ch n else ruAdminE base
theorem ruDo_KV {m : Nat} {cur : List S73} (h : KV m cur) (k : Int) (p ch base : ByteArray) (yes : Bool) (n : Int) : KV (m + 1) (ruDo cur k p ch base yes n) := by
  unfold ruDo ruListed ruAllow ruLimit ruAdmin
  repeat' split
  all_goals first | exact flagK_KV h _ _ | exact (h.del _).mono (Nat.le_succ _) | exact h.put _ _ | exact h.mono (Nat.le_succ _)

end Go.Proofs.YtonipkgekhdogaaGreatDoor.PRup
