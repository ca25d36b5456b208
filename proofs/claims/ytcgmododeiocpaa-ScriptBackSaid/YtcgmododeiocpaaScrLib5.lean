/- Plain facts on the printed script functions: both Reads, Same, few, the example. No condition beyond those stated. -/
import Derived.Test.YtcgmododeiocpaaScrLib4
namespace Go.Proofs.Ytcgmododeiocpaa.PureScr
open Go.RowKit Go.Proofs.Ytcgmododeiocpaa.PScr Go.Proofs.YtcgmododeiocpaaW.PrintWords Go.Proofs.YtcgmododeiocpaaW.PrintLast
set_option linter.unusedVariables false
set_option linter.unusedSimpArgs false
/-- A text as steps: the steps whose lines it is. -/
def ReadsAs (s : List UInt8) (n : Nat) (l : List S54) : Prop := validL l ∧ n + l.length ≤ 256 ∧ flat l = s
theorem flat_split {a : S54} {l : List S54} {line rest : List UInt8} (h : flat (a :: l) = line ++ 10 :: rest) (hn : (10 : UInt8) ∉ line) : bodyL a = line ∧ flat l = rest := by
  rw [flat_cons] at h
  have h1 := cutL_app (flat l) (bodyL_no10 a)
  rw [h, cutL_app rest hn] at h1
  simp only [Option.some.injEq, Prod.mk.injEq] at h1
  exact ⟨h1.1.symm, h1.2.symm⟩
theorem flat_has {a : S54} {l : List S54} : (10 : UInt8) ∈ flat (a :: l) := by rw [flat_cons]; simp
theorem sread_ev : ∀ (n : Nat) (s : List UInt8) (acc : List S54), s.length ≤ n → s.length ≤ 1000000 → acc.length ≤ 256 → ∃ r : List S54 × Int, Ev (fun k => script_Read.l0 k (ofL s) acc) r ∧ ((∃ l, ReadsAs s acc.length l ∧ r = (acc ++ l, 0)) ∨ ((¬ ∃ l, ReadsAs s acc.length l) ∧ r = ([], 6))) := by
  intro n
  induction n with
  | zero =>
    intro s acc hn hs ha
    have : s = [] := List.length_eq_zero_iff.1 (by omega)
    subst this
    refine ⟨(acc, 0), ⟨1, fun k hk => ?_⟩, .inl ⟨[], ⟨fun a ha => absurd ha (by simp), by simpa using ha, rfl⟩, by simp⟩⟩
    obtain ⟨m, rfl⟩ : ∃ m, k = m + 1 := ⟨k - 1, by omega⟩
    show script_Read.l0 (m + 1) (ofL []) acc = _
    simp only [script_Read.l0]
    rw [ofL_toList, if_pos rfl]
  | succ n ih =>
    intro s acc hn hs ha
    by_cases h0 : s = []
    · subst h0
      refine ⟨(acc, 0), ⟨1, fun k hk => ?_⟩, .inl ⟨[], ⟨fun a ha => absurd ha (by simp), by simpa using ha, rfl⟩, by simp⟩⟩
      obtain ⟨m, rfl⟩ : ∃ m, k = m + 1 := ⟨k - 1, by omega⟩
      show script_Read.l0 (m + 1) (ofL []) acc = _
      simp only [script_Read.l0]
      rw [ofL_toList, if_pos rfl]
    have hc := cut_is s 10 hs
    unfold cutS at hc
    have hnb : ∀ l, ReadsAs s acc.length l → ∃ a l', l = a :: l' := by
      intro l hl
      cases l with
      | nil => exact absurd hl.2.2.symm h0
      | cons a l' => exact ⟨a, l', rfl⟩
    cases hcut : cutL 10 s with
    | none =>
      rw [hcut] at hc
      obtain ⟨r1, ⟨K, eK⟩, _, _⟩ := act_ev s hs
      refine ⟨([], 6), ⟨K + 1, fun k hk => ?_⟩, .inr ⟨?_, rfl⟩⟩
      · obtain ⟨m, rfl⟩ : ∃ m, k = m + 1 := ⟨k - 1, by omega⟩
        have eK : script_act.f m (ofL s) = _ := eK m (by omega)
        show script_Read.l0 (m + 1) (ofL s) acc = _
        simp only [script_Read.l0]
        rw [ofL_toList, if_neg h0, show (⟨#[10]⟩ : ByteArray) = ofL [10] from rfl, hc, Option.bind_some]
        simp only
        rw [eK, Option.bind_some]
        by_cases h1 : r1.2.2.2.2 = true
        · rw [if_pos h1, if_neg (by simp)]
        · rw [if_neg h1]
      · rintro ⟨l, hl⟩
        obtain ⟨a, l', rfl⟩ := hnb l hl
        exact cutL_none hcut (by rw [← hl.2.2]; exact flat_has)
    | some p =>
      obtain ⟨line, rest⟩ := p
      rw [hcut] at hc
      have hsp := cutL_some hcut
      have hpre := cutL_pre hcut
      have hlen : line.length + (rest.length + 1) = s.length := by rw [hsp, List.length_append, List.length_cons]
      obtain ⟨r1, ⟨K, eK⟩, a1, a2⟩ := act_ev line (by omega)
      have hfirst : ∀ l, ReadsAs s acc.length l → ∃ a l', l = a :: l' ∧ okA a ∧ (a.f2.size : Int) ≤ 65536 ∧ validL l' ∧ acc.length + 1 + l'.length ≤ 256 ∧ flat l' = rest ∧ r1 = (a.f0, a.f1, a.f2, a.f3, true) := by
        intro l hl
        obtain ⟨a, l', rfl⟩ := hnb l hl
        obtain ⟨hv, hcnt, hf⟩ := hl
        obtain ⟨b1, b2⟩ := flat_split (hf.trans hsp) hpre
        obtain ⟨v1, v2⟩ := hv a (by simp)
        exact ⟨a, l', rfl, v1, v2, fun b hb => hv b (by simp [hb]), by rw [List.length_cons] at hcnt; omega, b2, a1 a v1 b1⟩
      have hunf : ∀ m, K ≤ m → script_Read.l0 (m + 1) (ofL s) acc = (if r1.2.2.2.2 = true then ((script_of.f m r1.1 r1.2.1 r1.2.2.1 r1.2.2.2.1).bind fun t156 => (if t156.isNone = true then (some (([] : List (S54)), 6)) else (if (acc.length : Int) = 256 then (some (([] : List (S54)), 6)) else (if (r1.2.2.1.size : Int) > 65536 then (some (([] : List (S54)), 6)) else (if acc.length < 3518437208883 then (script_Read.l0 m (ofL rest) (acc ++ [(⟨r1.1, r1.2.1, r1.2.2.1, r1.2.2.2.1⟩ : S54)])) else (none)))))) else (some (([] : List (S54)), 6))) := by
        intro m hm
        have eK : script_act.f m (ofL line) = _ := eK m hm
        simp only [script_Read.l0]
        rw [ofL_toList, if_neg h0, show (⟨#[10]⟩ : ByteArray) = ofL [10] from rfl, hc, Option.bind_some]
        simp only
        rw [eK, Option.bind_some]
        by_cases h1 : r1.2.2.2.2 = true
        · rw [if_pos h1, if_pos h1, if_pos trivial]
        · rw [if_neg h1, if_neg h1]
      clear eK hc
      by_cases h1 : r1.2.2.2.2 = true
      · have hof := fun m (hm : 8 ≤ m) => of_at m hm (⟨r1.1, r1.2.1, r1.2.2.1, r1.2.2.2.1⟩ : S54)
        simp only at hof
        by_cases h2 : okA ⟨r1.1, r1.2.1, r1.2.2.1, r1.2.2.2.1⟩
        · by_cases h3 : (acc.length : Int) = 256
          · refine ⟨([], 6), ⟨K + 9, fun k hk => ?_⟩, .inr ⟨?_, rfl⟩⟩
            · obtain ⟨m, rfl⟩ : ∃ m, k = m + 1 := ⟨k - 1, by omega⟩
              show script_Read.l0 (m + 1) (ofL s) acc = _
              rw [hunf m (by omega), if_pos h1, hof m (by omega), if_pos h2, Option.bind_some, if_neg (by simp), if_pos h3]
            · rintro ⟨l, hl⟩
              obtain ⟨a, l', rfl, v1, v2, v3, v4, v5, v6⟩ := hfirst l hl
              omega
          · by_cases h4 : (r1.2.2.1.size : Int) > 65536
            · refine ⟨([], 6), ⟨K + 9, fun k hk => ?_⟩, .inr ⟨?_, rfl⟩⟩
              · obtain ⟨m, rfl⟩ : ∃ m, k = m + 1 := ⟨k - 1, by omega⟩
                show script_Read.l0 (m + 1) (ofL s) acc = _
                rw [hunf m (by omega), if_pos h1, hof m (by omega), if_pos h2, Option.bind_some, if_neg (by simp), if_neg h3, if_pos h4]
              · rintro ⟨l, hl⟩
                obtain ⟨a, l', rfl, v1, v2, v3, v4, v5, v6⟩ := hfirst l hl
                rw [v6] at h4
                simp only at h4
                omega
            · obtain ⟨r, ⟨K2, e2⟩, hr⟩ := ih rest (acc ++ [⟨r1.1, r1.2.1, r1.2.2.1, r1.2.2.2.1⟩]) (by omega) (by omega) (by rw [List.length_append, List.length_singleton]; omega)
              rw [List.length_append, List.length_singleton] at hr
              refine ⟨r, ⟨K + K2 + 9, fun k hk => ?_⟩, ?_⟩
              · obtain ⟨m, rfl⟩ : ∃ m, k = m + 1 := ⟨k - 1, by omega⟩
                have e2 : script_Read.l0 m (ofL rest) _ = _ := e2 m (by omega)
                show script_Read.l0 (m + 1) (ofL s) acc = _
                rw [hunf m (by omega), if_pos h1, hof m (by omega), if_pos h2, Option.bind_some, if_neg (by simp), if_neg h3, if_neg h4, if_pos (by omega), e2]
              · rcases hr with ⟨l, ⟨v1, v2, v3⟩, rfl⟩ | ⟨hno, rfl⟩
                · refine .inl ⟨⟨r1.1, r1.2.1, r1.2.2.1, r1.2.2.2.1⟩ :: l, ⟨?_, by rw [List.length_cons]; omega, ?_⟩, by simp⟩
                  · intro b hb
                    rcases List.mem_cons.1 hb with rfl | hb
                    · exact ⟨h2, by simp only; omega⟩
                    · exact v1 b hb
                  · rw [flat_cons, v3, a2 h1 h2, hsp]
                · refine .inr ⟨?_, rfl⟩
                  rintro ⟨l, hl⟩
                  obtain ⟨a, l', rfl, v1, v2, v3, v4, v5, v6⟩ := hfirst l hl
                  exact hno ⟨l', v3, by omega, v5⟩
        · refine ⟨([], 6), ⟨K + 9, fun k hk => ?_⟩, .inr ⟨?_, rfl⟩⟩
          · obtain ⟨m, rfl⟩ : ∃ m, k = m + 1 := ⟨k - 1, by omega⟩
            show script_Read.l0 (m + 1) (ofL s) acc = _
            rw [hunf m (by omega), if_pos h1, hof m (by omega), if_neg h2, Option.bind_some, if_pos (by rfl)]
          · rintro ⟨l, hl⟩
            obtain ⟨a, l', rfl, v1, v2, v3, v4, v5, v6⟩ := hfirst l hl
            rw [v6] at h2
            exact h2 v1
      · refine ⟨([], 6), ⟨K + 1, fun k hk => ?_⟩, .inr ⟨?_, rfl⟩⟩
        · obtain ⟨m, rfl⟩ : ∃ m, k = m + 1 := ⟨k - 1, by omega⟩
          show script_Read.l0 (m + 1) (ofL s) acc = _
          rw [hunf m (by omega), if_neg h1]
        · rintro ⟨l, hl⟩
          obtain ⟨a, l', rfl, v1, v2, v3, v4, v5, v6⟩ := hfirst l hl
          rw [v6] at h1
          exact h1 rfl
theorem read_ev' (s : List UInt8) (hs : s.length ≤ 1000000) : ∃ r : List S54 × Int, Ev (fun k => script_Read.f k (ofL s)) r ∧ ((∃ l, ReadsAs s 0 l ∧ r = (l, 0)) ∨ ((¬ ∃ l, ReadsAs s 0 l) ∧ r = ([], 6))) := by
  obtain ⟨r, e, h⟩ := sread_ev s.length s [] (Nat.le_refl _) hs (by simp)
  exact ⟨r, e, h⟩
/-! ### the reference's Read -/
def fin (s : List UInt8) (out : List S54) : List S54 × Int := if (putP out).2 = 0 then (if (putP out).1.toList = s then (out, 0) else ([], 6)) else ([], 6)
theorem rread_go (s : List UInt8) (hs : s.length ≤ 1000000) : ∀ (d i j : Nat) (acc : List S54), d = s.length - i → j ≤ i → i ≤ s.length → acc.length ≤ i → (10 : UInt8) ∉ (s.take i).drop j → ∃ out, Ev (fun k => footbridgeref45_Read.l0 k (ofL s) acc (j : Int) (i : Int)) (fin s out) ∧ ∀ l, validL l → flat l = s.drop j → out = acc ++ l := by
  intro d
  induction d with
  | zero =>
    intro i j acc hd hj hi ha hn
    obtain ⟨K, eK⟩ := putRef_ev' acc
    refine ⟨acc, ⟨K + 1, fun k hk => ?_⟩, fun l hv hf => ?_⟩
    · obtain ⟨m, rfl⟩ : ∃ m, k = m + 1 := ⟨k - 1, by omega⟩
      have eK : footbridgeref45_Put.f m acc = _ := eK m (by omega)
      show footbridgeref45_Read.l0 (m + 1) (ofL s) acc (j : Int) (i : Int) = _
      simp only [footbridgeref45_Read.l0]
      rw [ofL_size, if_neg (by omega), eK, Option.bind_some, ofL_toList]
      unfold fin
      split
      · split <;> rfl
      · rfl
    · cases l with
      | nil => simp
      | cons a l =>
        exfalso
        have h1 : (10 : UInt8) ∈ s.drop j := by rw [← hf]; exact flat_has
        rw [show i = s.length by omega, List.take_length] at hn
        exact hn h1
  | succ d ih =>
    intro i j acc hd hj hi ha hn
    have hl : i < s.length := by omega
    have hb := bt_get (ofL s) i (by rw [ofL_toList]; exact hl)
    simp only [ofL_toList] at hb
    have hw : wrap64 ((i : Int) + 1) = ((i + 1 : Nat) : Int) := by rw [w64 (by omega) (by omega)]; omega
    have htk : (s.take (i + 1)).drop j = (s.take i).drop j ++ [s[i]] := by
      rw [List.take_succ_eq_append_getElem hl, List.drop_append_of_le_length (by rw [List.length_take]; omega)]
    by_cases h10 : s[i] = 10
    · have hb10 : bt (ofL s) (i : Int) = 10 := by rw [hb, h10]; rfl
      obtain ⟨r, ⟨K1, e1⟩, hr⟩ := step_ev ((s.take i).drop j) (by rw [List.length_drop, List.length_take]; omega)
      obtain ⟨out, ⟨K2, e2⟩, ho⟩ := ih (i + 1) (i + 1) (acc ++ [⟨r.1, r.2.1, r.2.2.1, r.2.2.2⟩]) (by omega) (by omega) (by omega) (by rw [List.length_append, List.length_singleton]; omega) (by rw [List.drop_eq_nil_of_le (by rw [List.length_take]; omega)]; simp)
      refine ⟨out, ⟨K1 + K2 + 1, fun k hk => ?_⟩, fun l hv hf => ?_⟩
      · obtain ⟨m, rfl⟩ : ∃ m, k = m + 1 := ⟨k - 1, by omega⟩
        have e1 : footbridgeref45_step.f m _ = _ := e1 m (by omega)
        have e2 : footbridgeref45_Read.l0 m _ _ _ _ = _ := e2 m (by omega)
        show footbridgeref45_Read.l0 (m + 1) (ofL s) acc (j : Int) (i : Int) = _
        simp only [footbridgeref45_Read.l0]
        rw [ofL_size, if_pos (by omega), if_pos (by omega), if_pos hb10, if_pos (by omega), if_pos (by omega), if_pos (by omega), Int.toNat_natCast, Int.toNat_natCast, ofL_extract, e1, Option.bind_some, if_pos (by omega), hw, e2]
      · have hsp : s.drop j = (s.take i).drop j ++ 10 :: s.drop (i + 1) := by
          have h1 : s.drop j = (s.take i).drop j ++ s.drop i := by
            conv => lhs; rw [← List.take_append_drop i s]
            rw [List.drop_append_of_le_length (by rw [List.length_take]; omega)]
          rw [h1, List.drop_eq_getElem_cons hl, h10]
        cases l with
        | nil =>
          exfalso
          have : s.drop j ≠ [] := by rw [hsp]; simp
          exact this hf.symm
        | cons a l =>
          obtain ⟨b1, b2⟩ := flat_split (hf.trans hsp) hn
          have h2 := hr a (hv a (by simp)).1 b1
          rw [ho l (fun b hb => hv b (by simp [hb])) b2, h2]
          simp
    · have hb10 : ¬ bt (ofL s) (i : Int) = 10 := by
        rw [hb]
        intro e
        apply h10
        apply UInt8.toNat_inj.1
        have : (s[i]).toNat = 10 := by omega
        rw [this]; rfl
      obtain ⟨out, ⟨K2, e2⟩, ho⟩ := ih (i + 1) j acc (by omega) (by omega) (by omega) (by omega) (by rw [htk, List.mem_append, List.mem_singleton]; exact not_or.2 ⟨hn, fun e => h10 e.symm⟩)
      refine ⟨out, ⟨K2 + 1, fun k hk => ?_⟩, ho⟩
      obtain ⟨m, rfl⟩ : ∃ m, k = m + 1 := ⟨k - 1, by omega⟩
      have e2 : footbridgeref45_Read.l0 m _ _ _ _ = _ := e2 m (by omega)
      show footbridgeref45_Read.l0 (m + 1) (ofL s) acc (j : Int) (i : Int) = _
      simp only [footbridgeref45_Read.l0]
      rw [ofL_size, if_pos (by omega), if_pos (by omega), if_neg hb10, hw, e2]
theorem rread_ev (s : List UInt8) (hs : s.length ≤ 1000000) (r : List S54 × Int) (h : (∃ l, ReadsAs s 0 l ∧ r = (l, 0)) ∨ ((¬ ∃ l, ReadsAs s 0 l) ∧ r = ([], 6))) : Ev (fun k => footbridgeref45_Read.f k (ofL s)) r := by
  obtain ⟨out, ⟨K, e⟩, ho⟩ := rread_go s hs s.length 0 0 [] (by omega) (by omega) (by omega) (by simp) (by simp)
  refine ⟨K, fun k hk => ?_⟩
  have e : footbridgeref45_Read.f k (ofL s) = _ := e k hk
  show footbridgeref45_Read.f k (ofL s) = _
  rw [e]
  congr 1
  rcases h with ⟨l, ⟨v1, v2, v3⟩, rfl⟩ | ⟨hno, rfl⟩
  · have h1 := ho l v1 v3
    rw [List.nil_append] at h1
    subst h1
    unfold fin
    rw [putP_ok _ v1 (by omega)]
    rw [if_pos rfl, ofL_toList, if_pos v3]
  · unfold fin
    by_cases h1 : (putP out).2 = 0
    · rw [if_pos h1]
      by_cases h2 : (putP out).1.toList = s
      · exfalso
        obtain ⟨v1, v2⟩ := putP_inv h1
        rw [putP_ok _ v1 v2, ofL_toList] at h2
        exact hno ⟨out, v1, by omega, h2⟩
      · rw [if_neg h2]
    · rw [if_neg h1]
theorem reads_unique {s : List UInt8} {n m : Nat} : ∀ {l l' : List S54}, ReadsAs s n l → ReadsAs s m l' → s.length ≤ 1000000 → l = l' := by
  intro l l' h h' hs
  obtain ⟨out, _, ho⟩ := rread_go s hs s.length 0 0 [] (by omega) (by omega) (by omega) (by simp) (by simp)
  have h1 := ho l h.1 h.2.2
  have h2 := ho l' h'.1 h'.2.2
  rw [List.nil_append] at h1 h2
  exact h1.symm.trans h2
/-! ### Same, few, the example -/
theorem same_go (l : List S54) (hl : l.length ≤ 1000000) : ∀ (d i : Nat), d = l.length - i → ∀ k, d + 1 ≤ k → footbridgeref45_Same.l0 k l l (i : Int) = some true := by
  intro d
  induction d with
  | zero =>
    intro i hd k hk
    obtain ⟨m, rfl⟩ : ∃ m, k = m + 1 := ⟨k - 1, by omega⟩
    simp only [footbridgeref45_Same.l0]
    rw [if_neg (by omega)]
  | succ d ih =>
    intro i hd k hk
    obtain ⟨m, rfl⟩ : ∃ m, k = m + 1 := ⟨k - 1, by omega⟩
    have hw : wrap64 ((i : Int) + 1) = ((i + 1 : Nat) : Int) := by rw [w64 (by omega) (by omega)]; omega
    simp only [footbridgeref45_Same.l0]
    rw [if_pos (by omega), if_pos (by omega), if_pos (by omega), if_neg (by simp), hw]
    exact ih (i + 1) (by omega) m (by omega)
theorem same_ev (l : List S54) (hl : l.length ≤ 1000000) : Ev (fun k => footbridgeref45_Same.f k l l) true :=
  ⟨l.length + 1, fun k hk => by
    show footbridgeref45_Same.f k l l = _
    unfold footbridgeref45_Same.f
    rw [if_pos rfl]
    exact same_go l hl l.length 0 (by omega) k hk⟩
theorem few_go (l : List S54) (hl : l.length ≤ 1000000) : ∀ (d i : Nat), d = l.length - i → ∃ b, (∀ k, d + 1 ≤ k → footbridgelaw45_few.l0 k l (i : Int) = some b) ∧ (b = true → ∀ a ∈ l.drop i, (a.f2.size : Int) ≤ 1000) := by
  intro d
  induction d with
  | zero =>
    intro i hd
    refine ⟨true, fun k hk => ?_, fun _ a ha => ?_⟩
    · obtain ⟨m, rfl⟩ : ∃ m, k = m + 1 := ⟨k - 1, by omega⟩
      simp only [footbridgelaw45_few.l0]
      rw [if_neg (by omega)]
    · rw [List.drop_eq_nil_of_le (by omega)] at ha; exact absurd ha (by simp)
  | succ d ih =>
    intro i hd
    have hi : i < l.length := by omega
    have hrd := rd_get l i hi
    have hw : wrap64 ((i : Int) + 1) = ((i + 1 : Nat) : Int) := by rw [w64 (by omega) (by omega)]; omega
    by_cases h : (l[i].f2.size : Int) > 1000
    · refine ⟨false, fun k hk => ?_, fun h => absurd h (by simp)⟩
      obtain ⟨m, rfl⟩ : ∃ m, k = m + 1 := ⟨k - 1, by omega⟩
      simp only [footbridgelaw45_few.l0]
      rw [if_pos (by omega), if_pos (by omega), hrd, if_pos h]
    · obtain ⟨b, h1, h2⟩ := ih (i + 1) (by omega)
      refine ⟨b, fun k hk => ?_, fun hb a ha => ?_⟩
      · obtain ⟨m, rfl⟩ : ∃ m, k = m + 1 := ⟨k - 1, by omega⟩
        simp only [footbridgelaw45_few.l0]
        rw [if_pos (by omega), if_pos (by omega), hrd, if_neg h, hw]
        exact h1 m (by omega)
      · rw [List.drop_eq_getElem_cons hi] at ha
        rcases List.mem_cons.1 ha with rfl | ha
        · omega
        · exact h2 hb a ha
theorem few_ev (l : List S54) : ∃ b, Ev (fun k => footbridgelaw45_few.f k l) b ∧ (b = true → l.length ≤ 300 ∧ ∀ a ∈ l, (a.f2.size : Int) ≤ 1000) := by
  by_cases h : (l.length : Int) > 300
  · exact ⟨false, ⟨0, fun k _ => by show footbridgelaw45_few.f k l = _; unfold footbridgelaw45_few.f; rw [if_pos h]⟩, fun h => absurd h (by simp)⟩
  · obtain ⟨b, h1, h2⟩ := few_go l (by omega) l.length 0 (by omega)
    refine ⟨b, ⟨l.length + 1, fun k hk => ?_⟩, fun hb => ⟨by omega, fun a ha => h2 hb a (by rw [List.drop_zero]; exact ha)⟩⟩
    show footbridgelaw45_few.f k l = _
    unfold footbridgelaw45_few.f
    rw [if_neg h]
    exact h1 k hk
theorem awake45 : footbridgelaw45_awake.f 60 = some true := by kernel_rfl
theorem awake45_ev : Ev (fun k => footbridgelaw45_awake.f k) true := Ev.of footbridgelaw45_awake.mono awake45
end Go.Proofs.Ytcgmododeiocpaa.PureScr
