/- Written by wip/reuse.py: plain facts on the printed names functions, for another print. No condition beyond those stated. -/
import Derived.Test.YtcgmododeiocpaaPObjx2
import Derived.Test.YtcgmododeiocpaaPObjx4
import Derived.Test.YtcgmododeiocpaaPObjx8
import Derived.Test.YtcgmododeiocpaaPObjx9
namespace Go.Proofs.Ytcgmododeiocpaa.PureObj
open Go.RowKit Go.Proofs.Ytcgmododeiocpaa.PObj Go.Proofs.YtcgmododeiocpaaW.PrintWords Go.Proofs.YtcgmododeiocpaaW.PrintLast
set_option linter.unusedVariables false
set_option linter.unusedSimpArgs false

theorem ofL_extract (l : List UInt8) (a b : Nat) : (ofL l).extract a b = ofL ((l.take b).drop a) := by
  apply ba_ext; rw [ba_extract, ofL_toList, ofL_toList]
theorem ofL_drop (l : List UInt8) (a : Nat) : (ofL l).extract a (ofL l).size = ofL (l.drop a) := by
  rw [ofL_extract, ofL_size, List.take_length]
theorem ofL_append (l m : List UInt8) : ofL l ++ ofL m = ofL (l ++ m) := by
  apply ba_ext; rw [ba_append, ofL_toList, ofL_toList, ofL_toList]
theorem bt_ofL (l : List UInt8) (i : Nat) : bt (ofL l) (i : Int) = ((l.getD i 0).toNat : Int) := by
  rw [bt_toList _ _ (by omega), ofL_toList, Int.toNat_natCast]
theorem bt_ofL0 (l : List UInt8) : bt (ofL l) 0 = ((l.getD 0 0).toNat : Int) := bt_ofL l 0
theorem bt_ofL1 (l : List UInt8) : bt (ofL l) 1 = ((l.getD 1 0).toNat : Int) := bt_ofL l 1
def hexI (c : UInt8) : Int := if 48 ≤ c.toNat ∧ c.toNat ≤ 57 then c.toNat - 48 else if 97 ≤ c.toNat ∧ c.toNat ≤ 102 then c.toNat - 87 else -1
theorem index_is (c : UInt8) : strings_Index.f (⟨#[48, 49, 50, 51, 52, 53, 54, 55, 56, 57, 97, 98, 99, 100, 101, 102]⟩ : ByteArray) (ofL [c]) = some (hexI c) := by
  have : ∀ i : Fin 256, strings_Index.f (⟨#[48, 49, 50, 51, 52, 53, 54, 55, 56, 57, 97, 98, 99, 100, 101, 102]⟩ : ByteArray) (ofL [UInt8.ofNat i.val]) = some (hexI (UInt8.ofNat i.val)) := by decide +kernel
  have h := this ⟨c.toNat, c.toNat_lt⟩
  simpa using h
theorem hexI_hexU (n : Nat) (h : n < 16) : hexI (hexU n) = n := by
  have : ∀ i : Fin 16, hexI (hexU i.val) = i.val := by decide +kernel
  exact this ⟨n, h⟩
theorem hexU_hexI (c : UInt8) (h : 0 ≤ hexI c) : hexU (hexI c).toNat = c ∧ hexI c < 16 := by
  have : ∀ i : Fin 256, 0 ≤ hexI (UInt8.ofNat i.val) → hexU (hexI (UInt8.ofNat i.val)).toNat = UInt8.ofNat i.val ∧ hexI (UInt8.ofNat i.val) < 16 := by decide +kernel
  have h' := this ⟨c.toNat, c.toNat_lt⟩
  simp only [UInt8.ofNat_toNat] at h'
  exact h' h
theorem or_hex (a b : Int) (h0 : 0 ≤ a) (h1 : a < 16) (g0 : 0 ≤ b) (g1 : b < 16) : Go.bits .or .i64 (wrap64 (a * 16)) b = a * 16 + b := by
  obtain ⟨m, rfl⟩ := Int.eq_ofNat_of_zero_le h0
  obtain ⟨n, rfl⟩ := Int.eq_ofNat_of_zero_le g0
  have : ∀ (m n : Fin 16), Go.bits .or .i64 (wrap64 (((m.val : Nat) : Int) * 16)) ((n.val : Nat) : Int) = ((m.val : Nat) : Int) * 16 + ((n.val : Nat) : Int) := by decide +kernel
  exact this ⟨m, by omega⟩ ⟨n, by omega⟩
/-! ### hidden -/
def hidS (l : List UInt8) : Int × Int :=
  if 1 < l.length ∧ ((l.getD 1 0).toNat = 34 ∨ (l.getD 1 0).toNat = 92) then ((l.getD 1 0).toNat, 2)
  else if l.length < 6 ∨ l.take 4 ≠ [92, 117, 48, 48] then (0, 0)
  else if hexI (l.getD 4 0) < 0 ∨ hexI (l.getD 5 0) < 0 then (0, 0)
  else if hexI (l.getD 4 0) * 16 + hexI (l.getD 5 0) < 32 ∨ hexI (l.getD 4 0) * 16 + hexI (l.getD 5 0) = 127 then (hexI (l.getD 4 0) * 16 + hexI (l.getD 5 0), 6)
  else (0, 0)
theorem take_drop_one (l : List UInt8) (i : Nat) (h : i < l.length) : (l.take (i + 1)).drop i = [l.getD i 0] := by
  rw [List.drop_take, Nat.add_sub_cancel_left, List.drop_eq_getElem_cons h, List.take_succ_cons, List.take_zero]
  simp [List.getD_eq_getElem?_getD, List.getElem?_eq_getElem h]
theorem j1_true (k : Nat) (x : ByteArray) : quote_hidden.j1 (k + 1) x true = some (0, 0) := by simp only [quote_hidden.j1]; rw [if_pos trivial]
theorem hidden_is (l : List UInt8) (k : Nat) (hk : 2 ≤ k) : quote_hidden.f k (ofL l) = some (hidS l) := by
  obtain ⟨k, rfl⟩ : ∃ m, k = m + 2 := ⟨k - 2, by omega⟩
  have j1f : ¬ l.length < 6 → ¬ (1 < l.length ∧ ((l.getD 1 0).toNat = 34 ∨ (l.getD 1 0).toNat = 92)) → quote_hidden.j1 (k + 1) (ofL l) (((ofL l).extract 0 4).toList != ([92, 117, 48, 48] : List UInt8)) = some (hidS l) := by
    intro h6 hn
    unfold hidS
    rw [if_neg hn]
    by_cases ht : l.take 4 = [92, 117, 48, 48]
    · have hx : (((ofL l).extract 0 4).toList != ([92, 117, 48, 48] : List UInt8)) = false := by
        rw [ofL_extract, ofL_toList, List.drop_zero, ht]; rfl
      rw [hx]
      simp only [quote_hidden.j1]
      rw [if_neg (by simp), ofL_size, if_pos (by omega), ofL_extract, take_drop_one l 4 (by omega), index_is, Option.bind_some, if_pos (by omega), ofL_extract, take_drop_one l 5 (by omega), index_is, Option.bind_some]
      rw [if_neg (show ¬ (l.length < 6 ∨ l.take 4 ≠ [92, 117, 48, 48]) from by rintro (h | h); exact h6 h; exact h ht)]
      by_cases ha : hexI (l.getD 4 0) < 0
      · rw [if_pos ha, if_pos (.inl ha)]
      · rw [if_neg ha]
        by_cases hb : hexI (l.getD 5 0) < 0
        · rw [if_pos hb, if_pos (.inr hb)]
        · have e1 := (hexU_hexI (l.getD 4 0) (by omega)).2
          have e2 := (hexU_hexI (l.getD 5 0) (by omega)).2
          rw [if_neg hb, if_neg (show ¬ (hexI (l.getD 4 0) < 0 ∨ hexI (l.getD 5 0) < 0) from by omega), or_hex _ _ (by omega) e1 (by omega) e2]
          have hv : 0 ≤ hexI (l.getD 4 0) * 16 + hexI (l.getD 5 0) := by omega
          generalize hexI (l.getD 4 0) * 16 + hexI (l.getD 5 0) = v at *
          by_cases h1 : v ≥ 32
          · rw [if_pos h1]
            by_cases h2 : v = 127
            · rw [if_pos h2, if_pos (.inr h2)]; congr 2; omega
            · rw [if_neg h2, if_neg (by omega)]
          · rw [if_neg h1, if_pos (by omega)]
            congr 2; omega
    · have hx : (((ofL l).extract 0 4).toList != ([92, 117, 48, 48] : List UInt8)) = true := by
        rw [ofL_extract, ofL_toList, List.drop_zero]; exact bne_iff_ne.2 ht
      rw [hx, j1_true, if_pos (.inr ht)]
  have j0f : ¬ (1 < l.length ∧ ((l.getD 1 0).toNat = 34 ∨ (l.getD 1 0).toNat = 92)) → quote_hidden.j0 (k + 2) (ofL l) false = some (hidS l) := by
    intro hn
    simp only [quote_hidden.j0]
    rw [if_neg (by simp), ofL_size]
    by_cases h6 : l.length < 6
    · rw [if_pos (by omega), j1_true]
      unfold hidS
      rw [if_neg hn, if_pos (.inl h6)]
    · rw [if_neg (by omega), if_pos (by omega)]
      exact j1f h6 hn
  have j0t : 1 < l.length → ((l.getD 1 0).toNat = 34 ∨ (l.getD 1 0).toNat = 92) → quote_hidden.j0 (k + 2) (ofL l) true = some (hidS l) := by
    intro h1 h2
    simp only [quote_hidden.j0]
    rw [if_pos trivial, ofL_size, if_pos (by omega), bt_ofL1]
    unfold hidS
    rw [if_pos ⟨h1, h2⟩]
  unfold quote_hidden.f
  rw [ofL_size]
  by_cases h1 : (l.length : Int) > 1
  · rw [if_pos h1, if_pos (by omega), bt_ofL1]
    by_cases h2 : ((l.getD 1 0).toNat : Int) = 34
    · rw [if_pos h2]; exact j0t (by omega) (by omega)
    · rw [if_neg h2]
      by_cases h3 : (l.getD 1 0).toNat = 92
      · rw [show (((l.getD 1 0).toNat : Int) == 92) = true from beq_iff_eq.2 (by omega)]; exact j0t (by omega) (.inr h3)
      · rw [show (((l.getD 1 0).toNat : Int) == 92) = false from beq_eq_false_iff_ne.2 (by omega)]
        exact j0f (by omega)
  · rw [if_neg h1]
    exact j0f (by omega)
/-! ### the marks are told apart -/
theorem getD_app (l r : List UInt8) (i : Nat) (h : i < l.length) : (l ++ r).getD i 0 = l.getD i 0 := by
  simp [List.getD_eq_getElem?_getD, List.getElem?_append_left h]
/-- What is read first, as the program reads it: the byte and how many it takes; none where nothing can be. -/
def stS (l : List UInt8) : Option (UInt8 × Nat) :=
  if (l.getD 0 0).toNat = 92 then (if (hidS l).2 = 0 then none else some (UInt8.ofNat (hidS l).1.toNat, (hidS l).2.toNat))
  else if (l.getD 0 0).toNat < 32 ∨ (l.getD 0 0).toNat = 127 then none else some (l.getD 0 0, 1)
theorem qt_cases (c : UInt8) : (∃ h : c.toNat < 32 ∨ c.toNat = 127, qtOne c = [92, 117, 48, 48, hexU (c.toNat / 16), hexU (c.toNat % 16)]) ∨ ((c.toNat = 34 ∨ c.toNat = 92) ∧ qtOne c = [92, c]) ∨ (¬ (c.toNat < 32 ∨ c.toNat = 127) ∧ ¬ (c.toNat = 34 ∨ c.toNat = 92) ∧ qtOne c = [c]) := by
  unfold qtOne
  by_cases h1 : c.toNat < 32 ∨ c.toNat = 127
  · exact .inl ⟨h1, if_pos h1⟩
  · by_cases h2 : c.toNat = 34 ∨ c.toNat = 92
    · exact .inr (.inl ⟨h2, (if_neg h1).trans (if_pos h2)⟩)
    · exact .inr (.inr ⟨h1, h2, (if_neg h1).trans (if_neg h2)⟩)
theorem ofNat_toNat' (c : UInt8) (v : Int) (h : v = c.toNat) : UInt8.ofNat v.toNat = c := by
  subst h; rw [Int.toNat_natCast]; exact UInt8.ofNat_toNat
/-- What stands within marks is read back. -/
theorem stS_qt (c : UInt8) (r : List UInt8) : stS (qtOne c ++ r) = some (c, (qtOne c).length) := by
  have hc := c.toNat_lt
  rcases qt_cases c with ⟨h, e⟩ | ⟨h, e⟩ | ⟨h1, h2, e⟩
  · rw [e]
    have e1 : hexI (hexU (c.toNat / 16)) = ((c.toNat / 16 : Nat) : Int) := hexI_hexU _ (by omega)
    have e2 : hexI (hexU (c.toNat % 16)) = ((c.toNat % 16 : Nat) : Int) := hexI_hexU _ (by omega)
    have hs : hidS ([92, 117, 48, 48, hexU (c.toNat / 16), hexU (c.toNat % 16)] ++ r) = ((c.toNat : Int), 6) := by
      unfold hidS
      have g1 : ([92, 117, 48, 48, hexU (c.toNat / 16), hexU (c.toNat % 16)] ++ r).getD 1 0 = 117 := rfl
      have g4 : ([92, 117, 48, 48, hexU (c.toNat / 16), hexU (c.toNat % 16)] ++ r).getD 4 0 = hexU (c.toNat / 16) := rfl
      have g5 : ([92, 117, 48, 48, hexU (c.toNat / 16), hexU (c.toNat % 16)] ++ r).getD 5 0 = hexU (c.toNat % 16) := rfl
      rw [g1, g4, g5, e1, e2, if_neg (by rintro ⟨_, h | h⟩ <;> exact absurd h (by decide)), if_neg (fun h => h.elim (fun h => absurd h (by simp)) (fun h => h rfl)), if_neg (by omega), if_pos (by omega)]
      congr 1; omega
    unfold stS
    have g0 : ([92, 117, 48, 48, hexU (c.toNat / 16), hexU (c.toNat % 16)] ++ r).getD 0 0 = 92 := rfl
    rw [hs, g0, if_pos (by decide), if_neg (show ¬ (6 : Int) = 0 by decide)]
    show some (UInt8.ofNat (c.toNat : Int).toNat, _) = _
    rw [ofNat_toNat' c _ rfl]; rfl
  · rw [e]
    have hs : hidS ([92, c] ++ r) = ((c.toNat : Int), 2) := by
      unfold hidS
      have g1 : ([92, c] ++ r).getD 1 0 = c := rfl
      rw [g1, if_pos ⟨by simp, h⟩]
    unfold stS
    have g0 : ([92, c] ++ r).getD 0 0 = 92 := rfl
    rw [hs, g0, if_pos (by decide), if_neg (by show ¬ (2 : Int) = 0; decide)]
    show some (UInt8.ofNat (c.toNat : Int).toNat, _) = _
    rw [ofNat_toNat' c _ rfl]; rfl
  · rw [e]
    unfold stS
    have g0 : ([c] ++ r).getD 0 0 = c := rfl
    rw [g0, if_neg (by omega), if_neg h1]; rfl
/-- What is read stands within marks. -/
theorem stS_sound (l : List UInt8) (hl : l ≠ []) (h34 : (l.getD 0 0).toNat ≠ 34) (c : UInt8) (n : Nat) (h : stS l = some (c, n)) : n = (qtOne c).length ∧ l = qtOne c ++ l.drop n := by
  obtain ⟨d, t, rfl⟩ := List.exists_cons_of_ne_nil hl
  unfold stS at h
  have g0 : (d :: t).getD 0 0 = d := rfl
  rw [g0] at h h34
  by_cases h1 : d.toNat = 92
  · have hd : d = 92 := UInt8.toNat_inj.1 h1
    subst hd
    rw [if_pos h1] at h
    by_cases h2 : (hidS (92 :: t)).2 = 0
    · rw [if_pos h2] at h; simp at h
    · rw [if_neg h2] at h
      simp only [Option.some.injEq, Prod.mk.injEq] at h
      obtain ⟨rfl, rfl⟩ := h
      unfold hidS at h2 ⊢
      by_cases a1 : 1 < (92 :: t).length ∧ (((92 :: t).getD 1 0).toNat = 34 ∨ ((92 :: t).getD 1 0).toNat = 92)
      · rw [if_pos a1]
        obtain ⟨x, t', rfl⟩ := List.exists_cons_of_ne_nil (show t ≠ [] from by rintro rfl; simp at a1)
        have gx : (92 :: x :: t').getD 1 0 = x := rfl
        rw [gx] at a1 ⊢
        show _ = (qtOne (UInt8.ofNat ((x.toNat : Int)).toNat)).length ∧ 92 :: x :: t' = qtOne (UInt8.ofNat ((x.toNat : Int)).toNat) ++ _
        rw [ofNat_toNat' x _ rfl]
        have : qtOne x = [92, x] := by
          rcases qt_cases x with ⟨h, e⟩ | ⟨h, e⟩ | ⟨h1, h2, e⟩
          · omega
          · exact e
          · exact absurd a1.2 h2
        rw [this]; exact ⟨rfl, rfl⟩
      · rw [if_neg a1] at h2 ⊢
        by_cases a2 : (92 :: t).length < 6 ∨ (92 :: t).take 4 ≠ [92, 117, 48, 48]
        · rw [if_pos a2] at h2; exact absurd rfl h2
        · rw [if_neg a2] at h2 ⊢
          by_cases a3 : hexI ((92 :: t).getD 4 0) < 0 ∨ hexI ((92 :: t).getD 5 0) < 0
          · rw [if_pos a3] at h2; exact absurd rfl h2
          · rw [if_neg a3] at h2 ⊢
            by_cases a4 : hexI ((92 :: t).getD 4 0) * 16 + hexI ((92 :: t).getD 5 0) < 32 ∨ hexI ((92 :: t).getD 4 0) * 16 + hexI ((92 :: t).getD 5 0) = 127
            · rw [if_pos a4]
              have ht : (92 :: t).take 4 = [92, 117, 48, 48] := Classical.not_not.1 (fun hh => a2 (.inr hh))
              have hlen : ¬ (92 :: t).length < 6 := fun hh => a2 (.inl hh)
              match t, ht, hlen with
              | x1 :: x2 :: x3 :: x4 :: x5 :: t', ht, hlen =>
                simp only [List.take_succ_cons, List.take_zero, List.cons.injEq, true_and, and_true] at ht
                obtain ⟨rfl, rfl, rfl⟩ := ht
                have g4 : (92 :: 117 :: 48 :: 48 :: x4 :: x5 :: t').getD 4 0 = x4 := rfl
                have g5 : (92 :: 117 :: 48 :: 48 :: x4 :: x5 :: t').getD 5 0 = x5 := rfl
                have a3 : ¬ (hexI x4 < 0 ∨ hexI x5 < 0) := a3
                have a4 : hexI x4 * 16 + hexI x5 < 32 ∨ hexI x4 * 16 + hexI x5 = 127 := a4
                have b4 := hexU_hexI x4 (by omega)
                have b5 := hexU_hexI x5 (by omega)
                have hv : (UInt8.ofNat (hexI x4 * 16 + hexI x5).toNat).toNat = (hexI x4 * 16 + hexI x5).toNat := by
                  rw [UInt8.toNat_ofNat']; omega
                have hq : qtOne (UInt8.ofNat (hexI x4 * 16 + hexI x5).toNat) = [92, 117, 48, 48, x4, x5] := by
                  rcases qt_cases (UInt8.ofNat (hexI x4 * 16 + hexI x5).toNat) with ⟨h, e⟩ | ⟨h, e⟩ | ⟨h1, h2, e⟩
                  · rw [e, hv, show (hexI x4 * 16 + hexI x5).toNat / 16 = (hexI x4).toNat by omega, show (hexI x4 * 16 + hexI x5).toNat % 16 = (hexI x5).toNat by omega, b4.1, b5.1]
                  · rw [hv] at h; omega
                  · rw [hv] at h1; omega
                show _ = (qtOne (UInt8.ofNat (hexI x4 * 16 + hexI x5).toNat)).length ∧ _ = qtOne (UInt8.ofNat (hexI x4 * 16 + hexI x5).toNat) ++ _
                rw [hq]; exact ⟨rfl, rfl⟩
              | [], ht, hlen => simp at hlen
              | [_], ht, hlen => simp at hlen
              | [_, _], ht, hlen => simp at hlen
              | [_, _, _], ht, hlen => simp at hlen
              | [_, _, _, _], ht, hlen => simp at hlen
            · rw [if_neg a4] at h2; exact absurd rfl h2
  · rw [if_neg h1] at h
    by_cases h2 : d.toNat < 32 ∨ d.toNat = 127
    · rw [if_pos h2] at h; simp at h
    · rw [if_neg h2] at h
      simp only [Option.some.injEq, Prod.mk.injEq] at h
      obtain ⟨rfl, rfl⟩ := h
      have : qtOne d = [d] := by
        rcases qt_cases d with ⟨h, e⟩ | ⟨h, e⟩ | ⟨h1, h2, e⟩
        · exact absurd h h2
        · omega
        · exact e
      rw [this]; exact ⟨rfl, rfl⟩
/-! ### the program's loop -/
def failR : ByteArray × ByteArray × Int := ((⟨#[]⟩ : ByteArray), (⟨#[]⟩ : ByteArray), 6)
theorem len_int {l : List UInt8} (h : l ≠ []) : 0 < l.length := List.length_pos_iff.2 h
theorem rd_nil (k : Nat) (acc : List Int) : quote_Read.l0 (k + 1) (ofL []) acc = some failR := by
  simp only [quote_Read.l0]; rw [ofL_toList, if_pos rfl]; rfl
theorem rd_end (k : Nat) (acc : List Int) (t : List UInt8) : quote_Read.l0 (k + 1) (ofL (34 :: t)) acc = some (strOfNums acc, ofL t, 0) := by
  simp only [quote_Read.l0]
  rw [ofL_toList, if_neg (by simp), ofL_size, if_pos (by simp only [List.length_cons]; omega), bt_ofL0, if_pos (by rfl), if_pos (by simp only [List.length_cons]; omega), ← ofL_size, ofL_drop]; rfl
theorem rd_step (k : Nat) (acc : List Int) (l : List UInt8) (hl : l ≠ []) (h34 : (l.getD 0 0).toNat ≠ 34) (ha : acc.length + l.length ≤ 10000000) :
    quote_Read.l0 (k + 4) (ofL l) acc = (match stS l with
      | none => some failR
      | some (c, n) => if 92 = (l.getD 0 0).toNat then quote_Read.l0 (k + 3) (ofL (l.drop n)) (acc ++ [(c.toNat : Int)]) else quote_Read.l0 (k + 2) (ofL (l.drop n)) (acc ++ [(c.toNat : Int)])) := by
  have hpos := len_int hl
  have hso := stS_sound l hl h34
  have hc := (l.getD 0 0).toNat_lt
  simp only [quote_Read.l0]
  rw [ofL_toList, if_neg hl, ofL_size, if_pos (by omega), bt_ofL0, if_neg (by omega)]
  unfold stS at hso ⊢
  by_cases h1 : (l.getD 0 0).toNat = 92
  · rw [if_pos (by omega), hidden_is l _ (by omega), Option.bind_some, if_pos h1]
    rw [if_pos h1] at hso
    by_cases h2 : (hidS l).2 = 0
    · rw [if_pos h2, if_pos h2]; rfl
    · rw [if_neg h2] at hso
      obtain ⟨s1, s2⟩ := hso _ _ rfl
      have hv : 0 ≤ (hidS l).1 ∧ (hidS l).1 ≤ 255 ∧ 0 ≤ (hidS l).2 := by
        unfold hidS at h2 ⊢
        have := (l.getD 1 0).toNat_lt
        split
        · exact ⟨by show (0 : Int) ≤ ((l.getD 1 0).toNat : Int); omega, by show ((l.getD 1 0).toNat : Int) ≤ 255; omega, by show (0 : Int) ≤ 2; decide⟩
        · split
          · exact ⟨by decide, by decide, by decide⟩
          · split
            · exact ⟨by decide, by decide, by decide⟩
            · rename_i hn
              split
              · rename_i hm
                exact ⟨by show (0 : Int) ≤ hexI _ * 16 + hexI _; omega, by show hexI _ * 16 + hexI _ ≤ (255 : Int); omega, by show (0 : Int) ≤ 6; decide⟩
              · exact ⟨by decide, by decide, by decide⟩
      have hle : (hidS l).2 ≤ l.length := by
        have h3 := congrArg List.length s2
        rw [List.length_append, List.length_drop, ← s1] at h3
        omega
      rw [if_neg h2, if_pos (by omega), if_pos (by omega), if_pos (by omega), if_neg h2]
      show _ = if _ then _ else _
      rw [if_pos h1.symm, ← ofL_size l, ofL_drop]
      have h5 : ((UInt8.ofNat (hidS l).1.toNat).toNat : Int) = (hidS l).1 := by rw [UInt8.toNat_ofNat']; omega
      rw [h5]
  · rw [if_neg (by omega), if_neg h1]
    rw [if_neg h1] at hso
    by_cases h2 : (l.getD 0 0).toNat < 32
    · rw [if_pos (by omega), if_pos (.inl h2)]
      simp only [quote_Read.j2]
      rw [if_pos trivial]; rfl
    · rw [if_neg (by omega)]
      simp only [quote_Read.j2]
      by_cases h3 : (l.getD 0 0).toNat = 127
      · rw [show (((l.getD 0 0).toNat : Int) == 127) = true from beq_iff_eq.2 (by omega), if_pos rfl, if_pos (.inr h3)]; rfl
      · rw [show (((l.getD 0 0).toNat : Int) == 127) = false from beq_eq_false_iff_ne.2 (by omega), if_neg (by simp), if_neg (by decide), if_pos (by omega), if_pos (by decide), ofL_size, if_pos (by omega), if_neg (by omega)]
        show _ = if _ then _ else _
        rw [if_neg (fun h => h1 h.symm), ← ofL_size l, ofL_drop]
        rfl
/-! ### what is read, by rounds -/
def rdS : Nat → List UInt8 → List Int → ByteArray × ByteArray × Int
  | 0, _, _ => failR
  | n + 1, l, acc => if l = [] then failR else if (l.getD 0 0).toNat = 34 then (strOfNums acc, ofL (l.drop 1), 0) else match stS l with
    | none => failR
    | some (c, m) => rdS n (l.drop m) (acc ++ [(c.toNat : Int)])
theorem cons34 (l : List UInt8) (hl : l ≠ []) (h : (l.getD 0 0).toNat = 34) : l = 34 :: l.drop 1 := by
  obtain ⟨d, t, rfl⟩ := List.exists_cons_of_ne_nil hl
  have : d = 34 := UInt8.toNat_inj.1 h
  rw [this]; rfl
theorem qt_pos (c : UInt8) : 0 < (qtOne c).length := by
  rcases qt_cases c with ⟨h, e⟩ | ⟨h, e⟩ | ⟨h1, h2, e⟩ <;> rw [e] <;> simp
theorem rd_is : ∀ (n : Nat) (l : List UInt8) (acc : List Int), l.length < n → acc.length + l.length ≤ 10000000 → ∀ k, 2 * n + 4 ≤ k → quote_Read.l0 k (ofL l) acc = some (rdS n l acc)
  | 0, l, acc, hn, _, _, _ => absurd hn (Nat.not_lt_zero _)
  | n + 1, l, acc, hn, ha, k, hk => by
    obtain ⟨k, rfl⟩ : ∃ m, k = m + 4 := ⟨k - 4, by omega⟩
    simp only [rdS]
    by_cases hl : l = []
    · subst hl; rw [rd_nil, if_pos rfl]
    · by_cases h34 : (l.getD 0 0).toNat = 34
      · rw [if_neg hl, if_pos h34]
        conv => lhs; rw [cons34 l hl h34]
        exact rd_end _ _ _
      · rw [if_neg hl, if_neg h34, rd_step k acc l hl h34 ha]
        have hso := stS_sound l hl h34
        cases hs : stS l with
        | none => rfl
        | some p =>
          obtain ⟨c, m⟩ := p
          have h1 := hso c m hs
          have h2 := qt_pos c
          have h3 := congrArg List.length h1.2
          rw [List.length_append, List.length_drop] at h3
          have hlen : (l.drop m).length < n := by rw [List.length_drop]; omega
          have hacc : (acc ++ [(c.toNat : Int)]).length + (l.drop m).length ≤ 10000000 := by rw [List.length_append, List.length_drop]; simp only [List.length_cons, List.length_nil]; omega
          show (if _ then _ else _) = _
          split
          · exact rd_is n _ _ hlen hacc _ (by omega)
          · exact rd_is n _ _ hlen hacc _ (by omega)
theorem rdS_qt (t : List UInt8) : ∀ (s : List UInt8) (n : Nat) (acc : List Int), s.length < n → rdS n (s.flatMap qtOne ++ 34 :: t) acc = (strOfNums (acc ++ s.map fun c => (c.toNat : Int)), ofL t, 0)
  | [], n, acc, hn => by
    obtain ⟨n, rfl⟩ : ∃ m, n = m + 1 := ⟨n - 1, by simp at hn; omega⟩
    simp only [rdS]
    rw [List.flatMap_nil, List.nil_append, if_neg (by simp), if_pos (by rfl), List.map_nil, List.append_nil]
    rfl
  | c :: s, n, acc, hn => by
    obtain ⟨n, rfl⟩ : ∃ m, n = m + 1 := ⟨n - 1, by simp at hn; omega⟩
    have h0 : qtOne c ≠ [] := List.length_pos_iff.1 (qt_pos c)
    have h34 : ((qtOne c ++ (s.flatMap qtOne ++ 34 :: t)).getD 0 0).toNat ≠ 34 := by
      rw [getD_app _ _ _ (qt_pos c)]
      rcases qt_cases c with ⟨h, e⟩ | ⟨h, e⟩ | ⟨h1, h2, e⟩ <;> rw [e]
      · show (92 : UInt8).toNat ≠ 34; decide
      · show (92 : UInt8).toNat ≠ 34; decide
      · show c.toNat ≠ 34; omega
    simp only [rdS]
    rw [List.flatMap_cons, List.append_assoc, if_neg (by simp [h0]), if_neg h34, stS_qt]
    show rdS n (List.drop (qtOne c).length _) _ = _
    rw [List.drop_left, rdS_qt t s n _ (by simp at hn; omega), List.map_cons, List.append_assoc]
    rfl
/-! ### the reference -/
theorem one_at (n : Nat) (hn : n < 256) : ∀ k, 5 ≤ k → footbridgeref06_one.f k (n : Int) = some (ofL (qtOne (UInt8.ofNat n))) := by
  have h5 : ∀ i : Fin 256, footbridgeref06_one.f 5 (i.val : Int) = some (ofL (qtOne (UInt8.ofNat i.val))) := by decide +kernel
  intro k hk
  obtain ⟨d, rfl⟩ : ∃ d, k = 5 + d := ⟨k - 5, by omega⟩
  induction d with
  | zero => exact h5 ⟨n, hn⟩
  | succ d ih => exact footbridgeref06_one.mono _ _ _ (ih (by omega))
theorem one_is (c : UInt8) (k : Nat) (hk : 5 ≤ k) : footbridgeref06_one.f k (c.toNat : Int) = some (ofL (qtOne c)) := by
  rw [one_at c.toNat c.toNat_lt k hk, UInt8.ofNat_toNat]
/-- Which byte a text begins with, within marks. -/
theorem uniq (l : List UInt8) (c : UInt8) (r : List UInt8) (h : l = qtOne c ++ r) (d : UInt8) (hd : l.take (qtOne d).length = qtOne d) : d = c := by
  have h1 : l = qtOne d ++ l.drop (qtOne d).length := by
    conv => lhs; rw [← List.take_append_drop (qtOne d).length l, hd]
  have s1 := stS_qt c r
  have s2 := stS_qt d (l.drop (qtOne d).length)
  rw [← h1] at s2
  rw [← h, s2] at s1
  simp only [Option.some.injEq, Prod.mk.injEq] at s1
  exact s1.1
theorem begins_step (l : List UInt8) (i : Nat) (hi : i < 256) (k : Nat) (hk : 5 ≤ k) : footbridgeref06_begins.l0 (k + 1) (ofL l) (i : Int) =
    if l.take (qtOne (UInt8.ofNat i)).length = qtOne (UInt8.ofNat i) then some ((i : Int), ((qtOne (UInt8.ofNat i)).length : Int)) else footbridgeref06_begins.l0 k (ofL l) ((i + 1 : Nat) : Int) := by
  have e1 : wrap64 ((i : Int) + 1) = ((i + 1 : Nat) : Int) := by rw [w64 (by omega) (by omega)]; omega
  have e2 : (i : Int) % 256 = (i : Int) := by omega
  simp only [footbridgeref06_begins.l0]
  rw [if_pos (by omega), e1, e2, one_at i hi k hk, Option.bind_some, ofL_size, ofL_size]
  by_cases hle : (qtOne (UInt8.ofNat i)).length ≤ l.length
  · rw [if_pos (by omega), if_pos (by omega), Int.toNat_natCast, ofL_extract, ofL_toList, ofL_toList, List.drop_zero]
  · rw [if_neg (by omega), if_neg]
    intro h
    have := congrArg List.length h
    rw [List.length_take] at this
    omega
theorem begins_no (l : List UInt8) (hno : ∀ d : UInt8, l.take (qtOne d).length ≠ qtOne d) : ∀ (d i : Nat), d + i = 256 → ∀ k, d + 6 ≤ k → footbridgeref06_begins.l0 k (ofL l) (i : Int) = some (0, 0) := by
  intro d
  induction d with
  | zero =>
    intro i hi k hk
    obtain ⟨k, rfl⟩ : ∃ m, k = m + 1 := ⟨k - 1, by omega⟩
    simp only [footbridgeref06_begins.l0]
    rw [if_neg (by omega)]
  | succ d ih =>
    intro i hi k hk
    obtain ⟨k, rfl⟩ : ∃ m, k = m + 1 := ⟨k - 1, by omega⟩
    rw [begins_step l i (by omega) k (by omega), if_neg (hno _), ih (i + 1) (by omega) k (by omega)]
theorem begins_yes (l : List UInt8) (c : UInt8) (r : List UInt8) (h : l = qtOne c ++ r) : ∀ (d i : Nat), d + i = c.toNat → ∀ k, d + 6 ≤ k → footbridgeref06_begins.l0 k (ofL l) (i : Int) = some ((c.toNat : Int), ((qtOne c).length : Int)) := by
  have hc := c.toNat_lt
  intro d
  induction d with
  | zero =>
    intro i hi k hk
    obtain ⟨k, rfl⟩ : ∃ m, k = m + 1 := ⟨k - 1, by omega⟩
    have e : UInt8.ofNat i = c := by rw [show i = c.toNat by omega]; exact UInt8.ofNat_toNat
    rw [begins_step l i (by omega) k (by omega), e, if_pos (by rw [h]; exact List.take_left), show i = c.toNat by omega]
  | succ d ih =>
    intro i hi k hk
    obtain ⟨k, rfl⟩ : ∃ m, k = m + 1 := ⟨k - 1, by omega⟩
    rw [begins_step l i (by omega) k (by omega), if_neg, ih (i + 1) (by omega) k (by omega)]
    intro hd
    have := congrArg UInt8.toNat (uniq l c r h _ hd)
    rw [UInt8.toNat_ofNat'] at this
    omega
theorem rr_is : ∀ (n : Nat) (l : List UInt8) (acc : List Int), l.length < n → acc.length + l.length ≤ 10000000 → ∀ k, 2 * n + 300 ≤ k → footbridgeref06_Read.l0 k (ofL l) acc = some (rdS n l acc)
  | 0, l, acc, hn, _, _, _ => absurd hn (Nat.not_lt_zero _)
  | n + 1, l, acc, hn, ha, k, hk => by
    obtain ⟨k, rfl⟩ : ∃ m, k = m + 2 := ⟨k - 2, by omega⟩
    simp only [rdS]
    by_cases hl : l = []
    · subst hl
      simp only [footbridgeref06_Read.l0, footbridgeref06_Read.j2]
      rw [ofL_toList, if_pos rfl, if_neg (by simp), if_pos rfl, if_pos trivial]; rfl
    · have hpos := len_int hl
      by_cases h34 : (l.getD 0 0).toNat = 34
      · have hb : (bt (ofL l) 0 != 34) = false := by rw [bt_ofL0, h34]; rfl
        simp only [footbridgeref06_Read.l0]
        rw [hb]
        simp only [footbridgeref06_Read.j2]
        rw [ofL_toList, if_neg hl, ofL_size, if_pos (by omega), if_neg (by simp), if_neg hl, if_pos (by omega), if_neg hl, if_pos h34, ← ofL_size, ofL_drop]
      · have hb : (bt (ofL l) 0 != 34) = true := by rw [bt_ofL0]; exact bne_iff_ne.2 (by omega)
        simp only [footbridgeref06_Read.l0]
        rw [hb]
        simp only [footbridgeref06_Read.j2]
        rw [ofL_toList, if_neg hl, ofL_size, if_pos (by omega), if_pos trivial, if_neg hl, if_neg h34]
        unfold footbridgeref06_begins.f
        have hso := stS_sound l hl h34
        cases hs : stS l with
        | none =>
          have hno : ∀ d : UInt8, l.take (qtOne d).length ≠ qtOne d := by
            intro d hd
            have h1 : l = qtOne d ++ l.drop (qtOne d).length := by
              conv => lhs; rw [← List.take_append_drop (qtOne d).length l, hd]
            have s2 := stS_qt d (l.drop (qtOne d).length)
            rw [← h1, hs] at s2
            cases s2
          have := begins_no l hno 256 0 rfl k (by omega)
          rw [show footbridgeref06_begins.l0 k (ofL l) 0 = some (0, 0) from this, Option.bind_some, if_pos rfl]
          rfl
        | some p =>
          obtain ⟨c, m⟩ := p
          have h1 := hso c m hs
          have h2 := qt_pos c
          have h3 := congrArg List.length h1.2
          have hc := c.toNat_lt
          rw [List.length_append, List.length_drop] at h3
          have hlen : (l.drop m).length < n := by rw [List.length_drop]; omega
          have hacc : (acc ++ [(c.toNat : Int)]).length + (l.drop m).length ≤ 10000000 := by rw [List.length_append, List.length_drop]; simp only [List.length_cons, List.length_nil]; omega
          have := begins_yes l c _ h1.2 c.toNat 0 rfl k (by omega)
          rw [show footbridgeref06_begins.l0 k (ofL l) 0 = _ from this, Option.bind_some, if_neg (by show ¬ ((qtOne c).length : Int) = 0; omega), if_pos (by omega), if_pos (by show (0 : Int) ≤ ((qtOne c).length : Int); omega), if_pos (by show ((qtOne c).length : Int) ≤ _; omega)]
          show footbridgeref06_Read.l0 k ((ofL l).extract ((qtOne c).length : Int).toNat _) _ = some (rdS n (l.drop m) _)
          rw [Int.toNat_natCast, ← ofL_size l, ofL_drop, ← h1.1]
          exact rr_is n _ _ hlen hacc _ (by omega)
/-! ### the whole functions -/
def readS (s : ByteArray) : ByteArray × ByteArray × Int := if s.toList = [] then failR else if (s.toList.getD 0 0).toNat = 34 then rdS (s.size + 1) (s.toList.drop 1) [] else failR
theorem drop_one (s : ByteArray) : s.extract 1 s.size = ofL (s.toList.drop 1) := by
  apply ba_ext; rw [ba_extract, ofL_toList, ba_size, List.take_length]
theorem bt_zero (s : ByteArray) : bt s 0 = ((s.toList.getD 0 0).toNat : Int) := by rw [bt_toList _ _ (by omega)]; rfl
theorem read_is (s : ByteArray) (hs : s.size ≤ 1000000) (k : Nat) (hk : 2 * s.size + 10 ≤ k) : quote_Read.f k s = some (readS s) := by
  obtain ⟨k, rfl⟩ : ∃ m, k = m + 1 := ⟨k - 1, by omega⟩
  unfold quote_Read.f readS
  by_cases h0 : s.toList = []
  · rw [if_pos h0, if_pos h0]
    simp only [quote_Read.j0]
    rw [if_pos trivial]; rfl
  · have hpos : 0 < s.size := by rw [ba_size]; exact len_int h0
    rw [if_neg h0, if_neg h0, if_pos (by omega), bt_zero]
    simp only [quote_Read.j0]
    by_cases h34 : (s.toList.getD 0 0).toNat = 34
    · rw [h34, show (((34 : Nat) : Int) != 34) = false from rfl, if_neg (by simp), if_pos (by omega), drop_one, if_pos rfl]
      refine rd_is (s.size + 1) _ _ ?_ ?_ _ (by omega)
      · rw [List.length_drop, ← ba_size]; omega
      · rw [List.length_drop, ← ba_size]; simp only [List.length_nil]; omega
    · rw [show (((s.toList.getD 0 0).toNat : Int) != 34) = true from bne_iff_ne.2 (by omega), if_pos rfl, if_neg h34]; rfl
theorem readRef_is (s : ByteArray) (hs : s.size ≤ 1000000) (k : Nat) (hk : 2 * s.size + 310 ≤ k) : footbridgeref06_Read.f k s = some (readS s) := by
  obtain ⟨k, rfl⟩ : ∃ m, k = m + 1 := ⟨k - 1, by omega⟩
  unfold footbridgeref06_Read.f readS
  by_cases h0 : s.toList = []
  · rw [if_pos h0, if_pos h0]
    simp only [footbridgeref06_Read.j0]
    rw [if_pos trivial]; rfl
  · have hpos : 0 < s.size := by rw [ba_size]; exact len_int h0
    rw [if_neg h0, if_neg h0, if_pos (by omega), bt_zero]
    simp only [footbridgeref06_Read.j0]
    by_cases h34 : (s.toList.getD 0 0).toNat = 34
    · rw [h34, show (((34 : Nat) : Int) != 34) = false from rfl, if_neg (by simp), if_pos (by omega), drop_one, if_pos rfl]
      refine rr_is (s.size + 1) _ _ ?_ ?_ _ (by omega)
      · rw [List.length_drop, ← ba_size]; omega
      · rw [List.length_drop, ← ba_size]; simp only [List.length_nil]; omega
    · rw [show (((s.toList.getD 0 0).toNat : Int) != 34) = true from bne_iff_ne.2 (by omega), if_pos rfl, if_neg h34]; rfl
def putS (s : ByteArray) : ByteArray := ofL (34 :: (s.toList.flatMap qtOne ++ [34]))
theorem put_is (s : ByteArray) (hs : s.size ≤ 1000000) : quote_Put.f s = some (putS s) := by
  unfold quote_Put.f; rw [if_pos hs]; rfl
theorem putRef_is (s : ByteArray) (hs : s.size ≤ 1000000) (k : Nat) (hk : s.size + 10 ≤ k) : footbridgeref06_Put.f k s = some (putS s) := by
  have loop : ∀ (d i : Nat), d + i = s.size → ∀ k, d + 7 ≤ k → footbridgeref06_Put.l0 k s (ofL (34 :: (s.toList.take i).flatMap qtOne)) (i : Int) = some (putS s) := by
    intro d
    induction d with
    | zero =>
      intro i hi k hk
      obtain ⟨k, rfl⟩ : ∃ m, k = m + 1 := ⟨k - 1, by omega⟩
      have hl := qtAll_len (s.toList.take i)
      rw [List.length_take] at hl
      simp only [footbridgeref06_Put.l0]
      rw [if_neg (by omega), ofL_size, List.length_cons, if_pos (by omega), show (⟨#[34]⟩ : ByteArray) = ofL [34] from rfl, ofL_append, show i = s.toList.length by rw [← ba_size]; omega, List.take_length]
      rfl
    | succ d ih =>
      intro i hi k hk
      obtain ⟨k, rfl⟩ : ∃ m, k = m + 1 := ⟨k - 1, by omega⟩
      have hl := qtAll_len (s.toList.take i)
      rw [List.length_take] at hl
      have hil : i < s.toList.length := by rw [← ba_size]; omega
      have hq := qtOne_len s.toList[i]
      have e1 : wrap64 ((i : Int) + 1) = ((i + 1 : Nat) : Int) := by rw [w64 (by omega) (by omega)]; omega
      simp only [footbridgeref06_Put.l0]
      rw [if_pos (by omega), if_pos (by omega), bt_get s i hil, one_is _ k (by omega), Option.bind_some, ofL_size, ofL_size, List.length_cons, if_pos (by omega), ofL_append, e1, ← ih (i + 1) (by omega) k (by omega), List.take_succ_eq_append_getElem hil, List.flatMap_append]
      simp
  have := loop s.size 0 (by omega) k (by omega)
  exact this
theorem nums_back (s : ByteArray) : strOfNums (s.toList.map fun c => (c.toNat : Int)) = s := by
  rw [ByteArray.toList_eq]
  unfold strOfNums
  simp only [List.map_map]
  have : (List.map ((fun n : Int => UInt8.ofNat n.toNat) ∘ fun b : UInt8 => ((b.toNat : Nat) : Int)) s.data.toList) = s.data.toList := by
    conv => rhs; rw [← List.map_id s.data.toList]
    refine List.map_congr_left fun b _ => ?_
    simp
  rw [this]
theorem read_put (s t : ByteArray) : readS (putS s ++ t) = (s, t, 0) := by
  have h : (putS s ++ t).toList = 34 :: (s.toList.flatMap qtOne ++ 34 :: t.toList) := by
    rw [ba_append]; unfold putS; rw [ofL_toList]; simp
  unfold readS
  rw [h, if_neg (by simp), if_pos (by rfl), List.drop_one, List.tail_cons, rdS_qt]
  · rw [List.nil_append, nums_back, ofL_of]
  · rw [ba_size, h]
    have : s.toList.length ≤ (s.toList.flatMap qtOne).length := by
      clear h
      induction s.toList with
      | nil => simp
      | cons c l ih => rw [List.flatMap_cons, List.length_append, List.length_cons]; have := qt_pos c; omega
    simp only [List.length_cons, List.length_append]; omega
theorem qt_low (c : UInt8) : ∀ x ∈ qtOne c, 32 ≤ x.toNat := by
  have hx : ∀ n, n < 16 → 32 ≤ (hexU n).toNat := by
    have : ∀ i : Fin 16, 32 ≤ (hexU i.val).toNat := by decide +kernel
    exact fun n h => this ⟨n, h⟩
  have hc := c.toNat_lt
  rcases qt_cases c with ⟨h, e⟩ | ⟨h, e⟩ | ⟨h1, h2, e⟩
  · rw [e]
    have a := hx (c.toNat / 16) (by omega)
    have b := hx (c.toNat % 16) (by omega)
    intro x hm
    simp only [List.mem_cons, List.not_mem_nil, or_false] at hm
    rcases hm with rfl | rfl | rfl | rfl | rfl | rfl
    · decide
    · decide
    · decide
    · decide
    · exact a
    · exact b
  · rw [e]
    intro x hm
    simp only [List.mem_cons, List.not_mem_nil, or_false] at hm
    rcases hm with rfl | rfl
    · decide
    · omega
  · rw [e]
    intro x hm
    simp only [List.mem_cons, List.not_mem_nil, or_false] at hm
    subst hm; omega
theorem put_low (s : ByteArray) : ∀ x ∈ (putS s).toList, 32 ≤ x.toNat := by
  unfold putS
  rw [ofL_toList]
  intro x hx
  simp only [List.mem_cons, List.mem_append, List.mem_flatMap, List.not_mem_nil, or_false] at hx
  rcases hx with rfl | ⟨c, _, hc⟩ | rfl
  · decide
  · exact qt_low c x hc
  · decide
theorem put_size (s : ByteArray) : (putS s).size ≤ 6 * s.size + 2 := by
  unfold putS
  have := qtAll_len s.toList
  rw [ofL_size, List.length_cons, List.length_append, ba_size]
  simp only [List.length_cons, List.length_nil]; omega
end Go.Proofs.Ytcgmododeiocpaa.PureObj
