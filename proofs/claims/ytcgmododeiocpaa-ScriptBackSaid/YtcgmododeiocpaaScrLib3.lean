/- Plain facts on the printed script functions: what a line tells. No condition beyond those stated. -/
import Derived.Test.YtcgmododeiocpaaScrLib2
namespace Go.Proofs.Ytcgmododeiocpaa.PureScr
open Go.RowKit Go.Proofs.Ytcgmododeiocpaa.PScr Go.Proofs.YtcgmododeiocpaaW.PrintWords Go.Proofs.YtcgmododeiocpaaW.PrintLast
set_option linter.unusedVariables false
set_option linter.unusedSimpArgs false
theorem cutL_none {c : UInt8} : ∀ {l : List UInt8}, cutL c l = none → c ∉ l
  | [], _ => by simp
  | x :: t, h => by
    simp only [cutL] at h
    by_cases hx : x = c
    · rw [if_pos hx] at h; exact absurd h (by simp)
    · rw [if_neg hx] at h
      have h1 : cutL c t = none := by
        cases h2 : cutL c t with
        | none => rfl
        | some p => rw [h2] at h; exact absurd h (by simp)
      have := cutL_none h1
      simp only [List.mem_cons, not_or]
      exact ⟨fun e => hx e.symm, this⟩
theorem cutL_pre {c : UInt8} : ∀ {l a b : List UInt8}, cutL c l = some (a, b) → c ∉ a
  | [], a, b, h => by simp [cutL] at h
  | x :: t, a, b, h => by
    simp only [cutL] at h
    by_cases hx : x = c
    · rw [if_pos hx] at h
      simp only [Option.some.injEq, Prod.mk.injEq] at h
      rw [← h.1]; simp
    · rw [if_neg hx] at h
      obtain ⟨p, hp, he⟩ := Option.map_eq_some_iff.1 h
      simp only [Prod.mk.injEq] at he
      obtain ⟨rfl, rfl⟩ := he
      have := cutL_pre (a := p.1) (b := p.2) hp
      simp only [List.mem_cons, not_or]
      exact ⟨fun e => hx e.symm, this⟩
theorem cutL_app {c : UInt8} (b : List UInt8) : ∀ {a : List UInt8}, c ∉ a → cutL c (a ++ c :: b) = some (a, b)
  | [], _ => by simp [cutL]
  | x :: t, h => by
    simp only [List.mem_cons, not_or] at h
    simp only [List.cons_append, cutL]
    rw [if_neg (fun e => h.1 e.symm), cutL_app b h.2]; rfl
theorem dec_no (n : Nat) {c : UInt8} (h : c.toNat < 48) : c ∉ dec n := fun hm => by
  have := dec_digs n c hm; unfold isDig at this; omega
theorem body_cases (a : S54) (h : okA a) : (a.f0 = 0 ∧ a.f3 = 0 ∧ bodyL a = [100, 111] ++ 32 :: (dec a.f1.toNat ++ 32 :: hx a.f2.toList)) ∨ (a.f0 = 1 ∧ a.f2 = (⟨#[]⟩ : ByteArray) ∧ a.f3 = 0 ∧ bodyL a = [98, 108, 111, 99, 107] ++ 32 :: dec a.f1.toNat) ∨ (a.f0 = 2 ∧ a.f1 = 0 ∧ a.f2 = (⟨#[]⟩ : ByteArray) ∧ bodyL a = [116, 105, 99, 107] ++ 32 :: dec a.f3.toNat) ∨ (a.f0 = 3 ∧ a.f1 = 0 ∧ a.f2 = (⟨#[]⟩ : ByteArray) ∧ a.f3 = 0 ∧ bodyL a = [108, 105, 110, 107]) ∨ (a.f0 = 4 ∧ a.f1 = 0 ∧ a.f2 = (⟨#[]⟩ : ByteArray) ∧ a.f3 = 0 ∧ bodyL a = [114, 111, 117, 110, 100]) := by
  have he : a.f2.toList = [] → a.f2 = (⟨#[]⟩ : ByteArray) := fun e => ba_ext (by rw [e, ByteArray.toList_eq])
  obtain ⟨h1, h2, h3, h4, h5⟩ := h
  unfold bodyL
  rcases h5 with ⟨k, e, n⟩ | ⟨k, e, n⟩ | ⟨k, s, e⟩ | ⟨k, s, e, n⟩ | ⟨k, s, e, n⟩
  · exact .inl ⟨k, n, by rw [if_pos k]; simp⟩
  · exact .inr (.inl ⟨k, he e, n, by rw [if_neg (by omega), if_pos k]; simp⟩)
  · exact .inr (.inr (.inl ⟨k, s, he e, by rw [if_neg (by omega), if_neg (by omega), if_pos k]; simp⟩))
  · exact .inr (.inr (.inr (.inl ⟨k, s, he e, n, by rw [if_neg (by omega), if_neg (by omega), if_neg (by omega), if_pos k]⟩)))
  · exact .inr (.inr (.inr (.inr ⟨k, s, he e, n, by rw [if_neg (by omega), if_neg (by omega), if_neg (by omega), if_neg (by omega)]⟩)))
theorem done_ev (r : List UInt8) (hr : r.length ≤ 1000000) : ∃ d : Int × Int × ByteArray × Int × Bool, Ev (fun k => script_done.f k (ofL r)) d ∧ (∀ (n : Nat) (rw_ : List UInt8), n ≤ 1073741824 → r = dec n ++ 32 :: hx rw_ → d = (0, (n : Int), ofL rw_, 0, true)) ∧ (d.2.2.2.2 = true → d.1 = 0 ∧ 0 ≤ d.2.1 ∧ r = dec d.2.1.toNat ++ 32 :: hx d.2.2.1.toList ∧ d.2.2.2.1 = 0) := by
  have hc := cut_is r 32 hr
  unfold cutS at hc
  cases h : cutL 32 r with
  | none =>
    rw [h] at hc
    obtain ⟨K, eK⟩ := rd_ev [] (by simp)
    refine ⟨(0, (numS r).1, (rdH []).1, 0, false), ⟨K, fun k hk => ?_⟩, ?_, fun h => absurd h (by simp)⟩
    · have eK : hexa_Read.f k (ofL []) = _ := eK k hk
      show script_done.f k (ofL r) = _
      unfold script_done.f
      rw [show (⟨#[32]⟩ : ByteArray) = ofL [32] from rfl, hc, Option.bind_some]
      simp only
      rw [num_is r hr, Option.bind_some, eK, Option.bind_some, if_neg (by simp)]
    · intro n rw_ hn he
      exact absurd (cutL_none h) (by rw [he]; simp)
  | some p =>
    obtain ⟨a, b⟩ := p
    rw [h] at hc
    have hra := cutL_some h
    have hrn := cutL_pre h
    have hla : a.length + (b.length + 1) = r.length := by rw [hra, List.length_append, List.length_cons]
    obtain ⟨K, eK⟩ := rd_ev b (by omega)
    refine ⟨(0, (numS a).1, (rdH b).1, 0, (numS a).2 && ((rdH b).2 == 0)), ⟨K, fun k hk => ?_⟩, ?_, ?_⟩
    · have eK : hexa_Read.f k (ofL b) = _ := eK k hk
      show script_done.f k (ofL r) = _
      unfold script_done.f
      rw [show (⟨#[32]⟩ : ByteArray) = ofL [32] from rfl, hc, Option.bind_some]
      simp only
      rw [num_is a (by omega), Option.bind_some, eK, Option.bind_some, if_pos trivial]
      cases hn : (numS a).2
      · rw [if_neg (by simp)]; simp
      · rw [if_pos rfl]; simp
    · intro n rw_ hn he
      have e2 : cutL 32 r = some (dec n, hx rw_) := by rw [he]; exact cutL_app _ (dec_no n (by decide))
      rw [h] at e2
      simp only [Option.some.injEq, Prod.mk.injEq] at e2
      obtain ⟨rfl, rfl⟩ := e2
      rw [num_dec n hn]
      unfold rdH
      rw [unhx_hx]
      simp
    · intro ht
      simp only [Bool.and_eq_true, beq_iff_eq] at ht
      obtain ⟨t1, t2⟩ := ht
      obtain ⟨g1, g2, g3⟩ := num_inv t1
      have hb : b = hx (rdH b).1.toList := by
        unfold rdH at t2 ⊢
        cases hu : unhx b with
        | none => rw [hu] at t2; exact absurd t2 (by simp)
        | some m => simp only; rw [ofL_toList, hx_unhx hu]
      refine ⟨rfl, g1, ?_, rfl⟩
      rw [hra]
      show a ++ 32 :: b = dec (numS a).1.toNat ++ 32 :: hx (rdH b).1.toList
      rw [← hb, ← g3]
theorem act_ev (t : List UInt8) (ht : t.length ≤ 1000000) : ∃ r : Int × Int × ByteArray × Int × Bool, Ev (fun k => script_act.f k (ofL t)) r ∧ (∀ a, okA a → bodyL a = t → r = (a.f0, a.f1, a.f2, a.f3, true)) ∧ (r.2.2.2.2 = true → okA ⟨r.1, r.2.1, r.2.2.1, r.2.2.2.1⟩ → bodyL ⟨r.1, r.2.1, r.2.2.1, r.2.2.2.1⟩ = t) := by
  by_cases l1 : t = [108, 105, 110, 107]
  · refine ⟨(3, 0, (⟨#[]⟩ : ByteArray), 0, true), ⟨0, fun k _ => ?_⟩, ?_, ?_⟩
    · show script_act.f k (ofL t) = _
      unfold script_act.f
      rw [ofL_toList, if_pos l1]
    · intro a ha hb
      subst l1
      rcases body_cases a ha with ⟨_, _, e⟩ | ⟨_, _, _, e⟩ | ⟨_, _, _, e⟩ | ⟨h0, h1, h2, h3, e⟩ | ⟨_, _, _, _, e⟩
      · rw [e] at hb; simp at hb
      · rw [e] at hb; simp at hb
      · rw [e] at hb; simp at hb
      · rw [h0, h1, h2, h3]
      · rw [e] at hb; simp at hb
    · intro _ _
      subst l1; rfl
  by_cases l2 : t = [114, 111, 117, 110, 100]
  · refine ⟨(4, 0, (⟨#[]⟩ : ByteArray), 0, true), ⟨0, fun k _ => ?_⟩, ?_, ?_⟩
    · show script_act.f k (ofL t) = _
      unfold script_act.f
      rw [ofL_toList, if_neg l1, if_pos l2]
    · intro a ha hb
      subst l2
      rcases body_cases a ha with ⟨_, _, e⟩ | ⟨_, _, _, e⟩ | ⟨_, _, _, e⟩ | ⟨_, _, _, _, e⟩ | ⟨h0, h1, h2, h3, e⟩
      · rw [e] at hb; simp at hb
      · rw [e] at hb; simp at hb
      · rw [e] at hb; simp at hb
      · rw [e] at hb; simp at hb
      · rw [h0, h1, h2, h3]
    · intro _ _
      subst l2; rfl
  have hc := cut_is t 32 ht
  unfold cutS at hc
  have noword : ∀ a, okA a → bodyL a = t → (a.f0 = 0 ∧ a.f3 = 0 ∧ cutL 32 t = some ([100, 111], dec a.f1.toNat ++ 32 :: hx a.f2.toList)) ∨ (a.f0 = 1 ∧ a.f2 = (⟨#[]⟩ : ByteArray) ∧ a.f3 = 0 ∧ cutL 32 t = some ([98, 108, 111, 99, 107], dec a.f1.toNat)) ∨ (a.f0 = 2 ∧ a.f1 = 0 ∧ a.f2 = (⟨#[]⟩ : ByteArray) ∧ cutL 32 t = some ([116, 105, 99, 107], dec a.f3.toNat)) := by
    intro a ha hb
    rcases body_cases a ha with ⟨h0, h3, e⟩ | ⟨h0, h2, h3, e⟩ | ⟨h0, h1, h2, e⟩ | ⟨_, _, _, _, e⟩ | ⟨_, _, _, _, e⟩
    · exact .inl ⟨h0, h3, by rw [← hb, e]; exact cutL_app _ (by decide)⟩
    · exact .inr (.inl ⟨h0, h2, h3, by rw [← hb, e]; exact cutL_app _ (by decide)⟩)
    · exact .inr (.inr ⟨h0, h1, h2, by rw [← hb, e]; exact cutL_app _ (by decide)⟩)
    · exact absurd (hb.symm.trans e) l1
    · exact absurd (hb.symm.trans e) l2
  have hunf : ∀ k x, strings_Cut.f (ofL t) (ofL [32]) = some x → script_act.f k (ofL t) = (if x.1.toList = ([100, 111] : List UInt8) then ((script_done.f k x.2.1).bind fun bt138 => (some (bt138.1, bt138.2.1, bt138.2.2.1, bt138.2.2.2.1, bt138.2.2.2.2))) else (if x.1.toList = ([98, 108, 111, 99, 107] : List UInt8) then ((script_number.f x.2.1).bind fun bt143 => (some (1, bt143.1, (⟨#[]⟩ : ByteArray), 0, bt143.2))) else (if x.1.toList = ([116, 105, 99, 107] : List UInt8) then ((script_number.f x.2.1).bind fun bt145 => (some (2, 0, (⟨#[]⟩ : ByteArray), bt145.1, bt145.2))) else (some (0, 0, (⟨#[]⟩ : ByteArray), 0, false))))) := by
    intro k x hx
    unfold script_act.f
    rw [ofL_toList, if_neg l1, if_neg l2, show (⟨#[32]⟩ : ByteArray) = ofL [32] from rfl, hx, Option.bind_some]
  -- where the text is cut: w, a blank, rest; or no blank, and then 'rest' is empty
  obtain ⟨w, rest, hwr, hcut, hcase⟩ : ∃ w rest, (strings_Cut.f (ofL t) (ofL [32])).map (fun x => (x.1, x.2.1)) = some (ofL w, ofL rest) ∧ rest.length ≤ 1000000 ∧ (cutL 32 t = some (w, rest) ∧ t = w ++ 32 :: rest ∨ cutL 32 t = none ∧ rest = []) := by
    cases h : cutL 32 t with
    | none => rw [h] at hc; exact ⟨t, [], by rw [hc]; rfl, by simp, .inr ⟨rfl, rfl⟩⟩
    | some p =>
      obtain ⟨a, b⟩ := p
      rw [h] at hc
      have hra := cutL_some h
      exact ⟨a, b, by rw [hc]; rfl, by have := congrArg List.length hra; rw [List.length_append, List.length_cons] at this; omega, .inl ⟨rfl, hra⟩⟩
  obtain ⟨x, hx, hxe⟩ := Option.map_eq_some_iff.1 hwr
  simp only [Prod.mk.injEq] at hxe
  have hx1 := hxe.1
  have hx2 := hxe.2
  have hsame : ∀ w' r', cutL 32 t = some (w', r') → w' = w ∧ r' = rest := by
    intro w' r' h
    rcases hcase with ⟨h1, _⟩ | ⟨h1, _⟩
    · rw [h1] at h; simp only [Option.some.injEq, Prod.mk.injEq] at h; exact ⟨h.1.symm, h.2.symm⟩
    · rw [h1] at h; exact absurd h (by simp)
  clear hc hwr hxe
  by_cases w1 : w = [100, 111]
  · obtain ⟨d, ⟨K, eK⟩, d1, d2⟩ := done_ev rest hcut
    refine ⟨d, ⟨K, fun k hk => ?_⟩, ?_, ?_⟩
    · have eK : script_done.f k (ofL rest) = _ := eK k hk
      show script_act.f k (ofL t) = _
      rw [hunf k x hx, hx1, hx2, ofL_toList, if_pos w1, eK]; rfl
    · intro a ha hb
      have ha' := ha
      obtain ⟨g1, g2, g3, g4, _⟩ := ha'
      rcases noword a ha hb with ⟨h0, h3, e⟩ | ⟨_, _, _, e⟩ | ⟨_, _, _, e⟩
      · obtain ⟨_, e2⟩ := hsame _ _ e
        rw [d1 a.f1.toNat a.f2.toList (by omega) e2.symm, h0, h3, ofL_of, Int.toNat_of_nonneg g1]
      · exact absurd ((hsame _ _ e).1.trans w1) (by decide)
      · exact absurd ((hsame _ _ e).1.trans w1) (by decide)
    · intro hok ha
      obtain ⟨g1, g2, g3, g4⟩ := d2 hok
      rcases hcase with ⟨_, e⟩ | ⟨_, e⟩
      · rw [e, w1, g3]
        unfold bodyL
        simp only
        rw [if_pos g1]
        simp
      · rw [e] at g3; exact absurd g3 (by simp)
  by_cases w2 : w = [98, 108, 111, 99, 107]
  · refine ⟨(1, (numS rest).1, (⟨#[]⟩ : ByteArray), 0, (numS rest).2), ⟨0, fun k hk => ?_⟩, ?_, ?_⟩
    · show script_act.f k (ofL t) = _
      rw [hunf k x hx, hx1, hx2, ofL_toList, if_neg w1, if_pos w2, num_is rest hcut]; rfl
    · intro a ha hb
      have ha' := ha
      obtain ⟨g1, g2, g3, g4, _⟩ := ha'
      rcases noword a ha hb with ⟨_, _, e⟩ | ⟨h0, h2, h3, e⟩ | ⟨_, _, _, e⟩
      · exact absurd ((hsame _ _ e).1.trans w2) (by decide)
      · obtain ⟨_, e2⟩ := hsame _ _ e
        rw [← e2, num_dec a.f1.toNat (by omega), h0, h2, h3, Int.toNat_of_nonneg g1]
      · exact absurd ((hsame _ _ e).1.trans w2) (by decide)
    · intro hok ha
      obtain ⟨g1, g2, g3⟩ := num_inv hok
      rcases hcase with ⟨_, e⟩ | ⟨_, e⟩
      · rw [e, w2]
        unfold bodyL
        simp only
        rw [if_neg (by decide), if_pos trivial, ← g3]
        simp
      · rw [e] at g3; exact absurd g3.symm (dec_ne _)
  by_cases w3 : w = [116, 105, 99, 107]
  · refine ⟨(2, 0, (⟨#[]⟩ : ByteArray), (numS rest).1, (numS rest).2), ⟨0, fun k hk => ?_⟩, ?_, ?_⟩
    · show script_act.f k (ofL t) = _
      rw [hunf k x hx, hx1, hx2, ofL_toList, if_neg w1, if_neg w2, if_pos w3, num_is rest hcut]; rfl
    · intro a ha hb
      have ha' := ha
      obtain ⟨g1, g2, g3, g4, _⟩ := ha'
      rcases noword a ha hb with ⟨_, _, e⟩ | ⟨_, _, _, e⟩ | ⟨h0, h1, h2, e⟩
      · exact absurd ((hsame _ _ e).1.trans w3) (by decide)
      · exact absurd ((hsame _ _ e).1.trans w3) (by decide)
      · obtain ⟨_, e2⟩ := hsame _ _ e
        rw [← e2, num_dec a.f3.toNat (by omega), h0, h1, h2, Int.toNat_of_nonneg g3]
    · intro hok ha
      obtain ⟨g1, g2, g3⟩ := num_inv hok
      rcases hcase with ⟨_, e⟩ | ⟨_, e⟩
      · rw [e, w3]
        unfold bodyL
        simp only
        rw [if_neg (by decide), if_neg (by decide), if_pos trivial, ← g3]
        simp
      · rw [e] at g3; exact absurd g3.symm (dec_ne _)
  · refine ⟨(0, 0, (⟨#[]⟩ : ByteArray), 0, false), ⟨0, fun k hk => ?_⟩, ?_, fun h => absurd h (by simp)⟩
    · show script_act.f k (ofL t) = _
      rw [hunf k x hx, hx1, hx2, ofL_toList, if_neg w1, if_neg w2, if_neg w3]
    · intro a ha hb
      rcases noword a ha hb with ⟨_, _, e⟩ | ⟨_, _, _, e⟩ | ⟨_, _, _, e⟩
      · exact absurd (hsame _ _ e).1.symm w1
      · exact absurd (hsame _ _ e).1.symm w2
      · exact absurd (hsame _ _ e).1.symm w3
end Go.Proofs.Ytcgmododeiocpaa.PureScr
