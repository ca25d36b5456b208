/- Plain facts on the printed script functions: the reference's line, Put and Read. No condition beyond those stated. -/
import Derived.Test.YtcgmododeiocpaaScrLib3
namespace Go.Proofs.Ytcgmododeiocpaa.PureScr
open Go.RowKit Go.Proofs.Ytcgmododeiocpaa.PScr Go.Proofs.YtcgmododeiocpaaW.PrintWords Go.Proofs.YtcgmododeiocpaaW.PrintLast
set_option linter.unusedVariables false
set_option linter.unusedSimpArgs false
theorem refnum_go (t : List UInt8) (ht : t.length ≤ 1000000) : ∀ (d i : Nat) (n : Int), d = t.length - i → ∃ v, (∀ k, d + 1 ≤ k → footbridgeref45_number.l0 k (ofL t) n (i : Int) = some v) ∧ (i ≤ t.length → t.length ≤ 10 → (∀ c ∈ t.drop i, isDig c) → ∀ m : Nat, n = (m : Int) → m < 10 ^ i → v = (((t.drop i).foldl dstep m : Nat) : Int)) := by
  intro d
  induction d with
  | zero =>
    intro i n hd
    refine ⟨n, fun k hk => ?_, fun h1 h2 h3 m hm hb => ?_⟩
    · obtain ⟨k, rfl⟩ : ∃ m, k = m + 1 := ⟨k - 1, by omega⟩
      simp only [footbridgeref45_number.l0]
      rw [ofL_size, if_neg (by omega)]
    · have : t.drop i = [] := List.drop_eq_nil_iff.2 (by omega)
      rw [this, hm]; rfl
  | succ d ih =>
    intro i n hd
    have hl : i < t.length := by omega
    by_cases h10 : i < 10
    · have hb := bt_get (ofL t) i (by rw [ofL_toList]; exact hl)
      simp only [ofL_toList] at hb
      have hbu := (t[i]).toNat_lt
      obtain ⟨v, hv, hv2⟩ := ih (i + 1) (wrap64 ((wrap64 ((wrap64 (n * 10)) + (wrap64 (bt (ofL t) (i : Int))))) - 48)) (by omega)
      refine ⟨v, fun k hk => ?_, fun h1 h2 h3 m hm hb2 => ?_⟩
      · obtain ⟨k, rfl⟩ : ∃ m, k = m + 1 := ⟨k - 1, by omega⟩
        simp only [footbridgeref45_number.l0]
        rw [ofL_size, if_pos (by omega), if_pos (by omega), if_pos (by omega)]
        have hw : wrap64 ((i : Int) + 1) = ((i + 1 : Nat) : Int) := by rw [w64 (by omega) (by omega)]; omega
        rw [hw]
        exact hv k (by omega)
      · rw [List.drop_eq_getElem_cons hl] at h3 ⊢
        have hc : isDig t[i] := h3 _ List.mem_cons_self
        have hrest : ∀ c ∈ t.drop (i + 1), isDig c := fun c hc => h3 c (List.mem_cons_of_mem _ hc)
        rw [List.foldl_cons]
        have hp : 10 ^ (i + 1) = 10 * 10 ^ i := by rw [Nat.pow_succ]; omega
        have hq : 10 ^ i ≤ 10 ^ 10 := Nat.pow_le_pow_right (by omega) (by omega)
        have hds : dstep m t[i] = m * 10 + ((t[i]).toNat - 48) := rfl
        unfold isDig at hc
        refine hv2 (by omega) h2 hrest (dstep m t[i]) ?_ ?_
        · rw [hb, hm, hds]
          generalize 10 ^ i = p at *
          clear hv hv2 ih h3 hrest
          rw [w64 (x := (m : Int) * 10) (by omega) (by omega), w64 (x := (((t[i]).toNat : Nat) : Int)) (by omega) (by omega), w64 (x := (m : Int) * 10 + (((t[i]).toNat : Nat) : Int)) (by omega) (by omega), w64 (by omega) (by omega)]
          omega
        · rw [hds, hp]
          generalize 10 ^ i = p at *
          clear hv hv2 ih h3 hrest
          omega
    · refine ⟨n, fun k hk => ?_, fun h1 h2 h3 m hm hb => by omega⟩
      obtain ⟨k, rfl⟩ : ∃ m, k = m + 1 := ⟨k - 1, by omega⟩
      simp only [footbridgeref45_number.l0]
      rw [ofL_size, if_pos (by omega), if_neg (by omega)]
theorem refnum_ev (t : List UInt8) (ht : t.length ≤ 1000000) : ∃ v, Ev (fun k => footbridgeref45_number.f k (ofL t)) v ∧ ∀ n : Nat, n ≤ 1073741824 → t = dec n → v = (n : Int) := by
  obtain ⟨v, h1, h2⟩ := refnum_go t ht t.length 0 0 (by omega)
  refine ⟨v, ⟨t.length + 1, fun k hk => by show footbridgeref45_number.f k (ofL t) = _; unfold footbridgeref45_number.f; exact h1 k hk⟩, fun n hn e => ?_⟩
  have := h2 (by omega) (by rw [e]; exact dec_len_le 9 n (by omega)) (by rw [e]; exact dec_digs n) 0 rfl (by decide)
  rw [this, List.drop_zero, e]
  show ((dval (dec n) : Nat) : Int) = _
  rw [dval_dec]
theorem step_ev (t : List UInt8) (ht : t.length ≤ 1000000) : ∃ r : Int × Int × ByteArray × Int, Ev (fun k => footbridgeref45_step.f k (ofL t)) r ∧ ∀ a, okA a → bodyL a = t → r = (a.f0, a.f1, a.f2, a.f3) := by
  obtain ⟨v6, ⟨K6, e6⟩, n6⟩ := refnum_ev (t.drop 6) (by rw [List.length_drop]; omega)
  obtain ⟨v5, ⟨K5, e5⟩, n5⟩ := refnum_ev (t.drop 5) (by rw [List.length_drop]; omega)
  obtain ⟨KR, eR⟩ := rdRef_ev (t.drop 5) (by rw [List.length_drop]; omega)
  have x5 : (ofL t).extract 5 t.length = ofL (t.drop 5) := ofL_tail t 5
  have x6 : (ofL t).extract 6 t.length = ofL (t.drop 6) := ofL_tail t 6
  have y3 : ((ofL t).extract 0 3).toList = t.take 3 := by rw [ofL_extract, ofL_toList, List.drop_zero]
  have y5 : ((ofL t).extract 0 5).toList = t.take 5 := by rw [ofL_extract, ofL_toList, List.drop_zero]
  have y6 : ((ofL t).extract 0 6).toList = t.take 6 := by rw [ofL_extract, ofL_toList, List.drop_zero]
  -- the code's way, as one choice
  have way : ∀ k, K5 + K6 + KR ≤ k → footbridgeref45_step.f (k + 4) (ofL t) = some (if t.length > 5 ∧ t.take 3 = [100, 111, 32] then (0, wrap64 (wrap64 (bt (ofL t) 3) - 48), (rdH (t.drop 5)).1, 0) else if t.length > 6 ∧ t.take 6 = [98, 108, 111, 99, 107, 32] then (1, v6, (⟨#[]⟩ : ByteArray), 0) else if t.length > 5 ∧ t.take 5 = [116, 105, 99, 107, 32] then (2, 0, (⟨#[]⟩ : ByteArray), v5) else if t = [108, 105, 110, 107] then (3, 0, (⟨#[]⟩ : ByteArray), 0) else (4, 0, (⟨#[]⟩ : ByteArray), 0)) := by
    intro k hk
    have j2 : footbridgeref45_step.j2 (k + 2) (ofL t) false = some (if t = [108, 105, 110, 107] then (3, 0, (⟨#[]⟩ : ByteArray), 0) else (4, 0, (⟨#[]⟩ : ByteArray), 0)) := by
      simp only [footbridgeref45_step.j2]
      rw [if_neg (by simp), ofL_toList]
      split <;> rfl
    have j2' : t.length > 5 → footbridgeref45_step.j2 (k + 2) (ofL t) true = some (2, 0, (⟨#[]⟩ : ByteArray), v5) := by
      intro h
      simp only [footbridgeref45_step.j2]
      have e5 : footbridgeref45_number.f (k + 1) (ofL (t.drop 5)) = _ := e5 (k + 1) (by omega)
      rw [if_pos trivial, ofL_size, if_pos (by omega), x5, e5]; rfl
    have j1 : footbridgeref45_step.j1 (k + 3) (ofL t) false = some (if t.length > 5 ∧ t.take 5 = [116, 105, 99, 107, 32] then (2, 0, (⟨#[]⟩ : ByteArray), v5) else if t = [108, 105, 110, 107] then (3, 0, (⟨#[]⟩ : ByteArray), 0) else (4, 0, (⟨#[]⟩ : ByteArray), 0)) := by
      simp only [footbridgeref45_step.j1]
      rw [if_neg (by simp), ofL_size, y5]
      by_cases h : t.length > 5
      · rw [if_pos (by omega), if_pos (by omega)]
        by_cases h2 : t.take 5 = [116, 105, 99, 107, 32]
        · rw [if_pos ⟨h, h2⟩, h2, show (([116, 105, 99, 107, 32] : List UInt8) == [116, 105, 99, 107, 32]) = true from rfl, j2' h]
        · rw [if_neg (fun x => h2 x.2), show (t.take 5 == [116, 105, 99, 107, 32]) = false from beq_eq_false_iff_ne.2 h2, j2]
      · rw [if_neg (by omega), if_neg (fun x => h x.1), j2]
    have j1' : t.length > 6 → footbridgeref45_step.j1 (k + 3) (ofL t) true = some (1, v6, (⟨#[]⟩ : ByteArray), 0) := by
      intro h
      simp only [footbridgeref45_step.j1]
      have e6 : footbridgeref45_number.f (k + 2) (ofL (t.drop 6)) = _ := e6 (k + 2) (by omega)
      rw [if_pos trivial, ofL_size, if_pos (by omega), x6, e6]; rfl
    have j0 : footbridgeref45_step.j0 (k + 4) (ofL t) false = some (if t.length > 6 ∧ t.take 6 = [98, 108, 111, 99, 107, 32] then (1, v6, (⟨#[]⟩ : ByteArray), 0) else if t.length > 5 ∧ t.take 5 = [116, 105, 99, 107, 32] then (2, 0, (⟨#[]⟩ : ByteArray), v5) else if t = [108, 105, 110, 107] then (3, 0, (⟨#[]⟩ : ByteArray), 0) else (4, 0, (⟨#[]⟩ : ByteArray), 0)) := by
      simp only [footbridgeref45_step.j0]
      rw [if_neg (by simp), ofL_size, y6]
      by_cases h : t.length > 6
      · rw [if_pos (by omega), if_pos (by omega)]
        by_cases h2 : t.take 6 = [98, 108, 111, 99, 107, 32]
        · rw [if_pos ⟨h, h2⟩, h2, show (([98, 108, 111, 99, 107, 32] : List UInt8) == [98, 108, 111, 99, 107, 32]) = true from rfl, j1' h]
        · rw [if_neg (fun x => h2 x.2), show (t.take 6 == [98, 108, 111, 99, 107, 32]) = false from beq_eq_false_iff_ne.2 h2, j1]
      · rw [if_neg (by omega), if_neg (fun x => h x.1), j1]
    unfold footbridgeref45_step.f
    rw [ofL_size, y3]
    by_cases h : t.length > 5
    · rw [if_pos (by omega), if_pos (by omega)]
      by_cases h2 : t.take 3 = [100, 111, 32]
      · rw [if_pos ⟨h, h2⟩, h2, show (([100, 111, 32] : List UInt8) == [100, 111, 32]) = true from rfl]
        simp only [footbridgeref45_step.j0]
        have eR : footbridgeref02_Read.f (k + 3) (ofL (t.drop 5)) = _ := eR (k + 3) (by omega)
        rw [if_pos trivial, ofL_size, if_pos (by omega), x5, eR, Option.bind_some, if_pos (by omega)]
      · rw [if_neg (fun x => h2 x.2), show (t.take 3 == [100, 111, 32]) = false from beq_eq_false_iff_ne.2 h2, j0]
    · rw [if_neg (by omega), if_neg (fun x => h x.1), j0]
  refine ⟨_, ⟨K5 + K6 + KR + 4, fun k hk => by obtain ⟨m, rfl⟩ : ∃ m, k = m + 4 := ⟨k - 4, by omega⟩; exact way m (by omega)⟩, fun a ha hb => ?_⟩
  clear way e5 e6 eR
  have ha' := ha
  obtain ⟨g1, g2, g3, g4, g5⟩ := ha'
  rcases body_cases a ha with ⟨h0, h3, e⟩ | ⟨h0, h2, h3, e⟩ | ⟨h0, h1, h2, e⟩ | ⟨h0, h1, h2, h3, e⟩ | ⟨h0, h1, h2, h3, e⟩
  · obtain ⟨d, hd, hd2⟩ : ∃ d : UInt8, dec a.f1.toNat = [d] ∧ (d.toNat : Int) = 48 + a.f1 := ⟨_, dec_lt (by omega), by rw [dig_toNat (by omega)]; omega⟩
    rw [hd] at e
    have et : t = 100 :: 111 :: 32 :: d :: 32 :: hx a.f2.toList := by rw [← hb, e]; rfl
    have hraw : a.f2.toList ≠ [] := by
      rcases g5 with g | g | g | g | g
      · exact g.2.1
      all_goals exact absurd (h0.symm.trans g.1) (by decide)
    have hlen : t.length = 5 + 2 * a.f2.toList.length := by rw [et]; simp only [List.length_cons, hx_len]; omega
    have hpos := List.length_pos_iff.2 hraw
    have hbt : bt (ofL t) 3 = 48 + a.f1 := by
      have h := bt_get (ofL t) 3 (by rw [ofL_toList]; omega)
      simp only [ofL_toList] at h
      rw [show (3 : Int) = ((3 : Nat) : Int) from rfl, h, ← hd2]
      subst et; rfl
    have hdr : t.drop 5 = hx a.f2.toList := by rw [et]; rfl
    rw [if_pos ⟨by omega, by rw [et]; rfl⟩, hbt, w64 (x := 48 + a.f1) (by omega) (by omega), w64 (by omega) (by omega), hdr, h0, h3]
    unfold rdH
    rw [unhx_hx]
    simp only [ofL_of]
    rw [show 48 + a.f1 - 48 = a.f1 by omega]
  · have et : t = 98 :: 108 :: 111 :: 99 :: 107 :: 32 :: dec a.f1.toNat := by rw [← hb, e]; rfl
    have hp := dec_len_pos a.f1.toNat
    have hlen : t.length = 6 + (dec a.f1.toNat).length := by rw [et]; simp only [List.length_cons]; omega
    rw [if_neg (by rw [et]; rintro ⟨_, x⟩; simp at x), if_pos ⟨by omega, by rw [et]; rfl⟩, n6 a.f1.toNat (by omega) (by rw [et]; rfl), h0, h2, h3, Int.toNat_of_nonneg g1]
  · have et : t = 116 :: 105 :: 99 :: 107 :: 32 :: dec a.f3.toNat := by rw [← hb, e]; rfl
    have hp := dec_len_pos a.f3.toNat
    have hlen : t.length = 5 + (dec a.f3.toNat).length := by rw [et]; simp only [List.length_cons]; omega
    rw [if_neg (by rw [et]; rintro ⟨_, x⟩; simp at x), if_neg (by rw [et]; rintro ⟨_, x⟩; simp at x), if_pos ⟨by omega, by rw [et]; rfl⟩, n5 a.f3.toNat (by omega) (by rw [et]; rfl), h0, h1, h2, Int.toNat_of_nonneg g3]
  · have et : t = [108, 105, 110, 107] := by rw [← hb, e]
    subst et
    rw [if_neg (by decide), if_neg (by decide), if_neg (by decide), if_pos rfl, h0, h1, h2, h3]
  · have et : t = [114, 111, 117, 110, 100] := by rw [← hb, e]
    subst et
    rw [if_neg (by decide), if_neg (by decide), if_neg (by decide), if_neg (by decide), h0, h1, h2, h3]
/-! ### Put -/
def putS : List S54 → List UInt8 → ByteArray × Int
  | [], acc => (ofL acc, 0)
  | a :: l, acc => if okA a then (if (a.f2.size : Int) > 65536 then (ofL [], 4) else putS l (acc ++ (bodyL a ++ [10]))) else (ofL [], 1)
theorem putGo_ev : ∀ (l : List S54) (acc : List UInt8), acc.length + l.length * 140000 ≤ 100000000 → Ev (fun k => script_Put.go k l (ofL acc)) (putS l acc)
  | [], acc, _ => ⟨0, fun k _ => rfl⟩
  | a :: l, acc, hl => by
    rw [List.length_cons] at hl
    by_cases h : okA a
    · by_cases hb : (a.f2.size : Int) > 65536
      · refine ⟨8, fun k hk => ?_⟩
        obtain ⟨m, rfl⟩ : ∃ m, k = m + 8 := ⟨k - 8, by omega⟩
        show script_Put.go (m + 8) (a :: l) (ofL acc) = _
        simp only [script_Put.go, putS]
        rw [of_is, if_pos h, Option.bind_some, if_neg (by simp), if_pos hb, if_pos h, if_pos hb]; rfl
      · have hs : a.f2.toList.length ≤ 65536 := by rw [← ba_size]; omega
        have hlen := bodyL_len a h
        obtain ⟨K1, e1⟩ := text_ev a h (by omega)
        obtain ⟨K2, e2⟩ := putGo_ev l (acc ++ (bodyL a ++ [10])) (by rw [List.length_append, List.length_append, List.length_singleton]; omega)
        refine ⟨K1 + K2 + 8, fun k hk => ?_⟩
        obtain ⟨m, rfl⟩ : ∃ m, k = m + 8 := ⟨k - 8, by omega⟩
        have e1 : script_text.f (m + 8) (some (stp a)) = _ := e1 _ (by omega)
        have e2 : script_Put.go (m + 8) l _ = _ := e2 _ (by omega)
        show script_Put.go (m + 8) (a :: l) (ofL acc) = _
        simp only [script_Put.go, putS]
        rw [of_is, if_pos h, Option.bind_some, if_neg (by simp), if_neg hb, if_pos h, if_neg hb]
        have e3 : (⟨a.f0, a.f1, a.f2, a.f3⟩ : S54) = a := rfl
        rw [e3, e1, Option.bind_some, if_pos (by rw [ofL_size, ofL_size]; omega), ← e2]
        rw [show (⟨#[10]⟩ : ByteArray) = ofL [10] from rfl, ofL_append, ofL_append]
    · refine ⟨8, fun k hk => ?_⟩
      obtain ⟨m, rfl⟩ : ∃ m, k = m + 8 := ⟨k - 8, by omega⟩
      show script_Put.go (m + 8) (a :: l) (ofL acc) = _
      simp only [script_Put.go, putS]
      rw [of_is, if_neg h, Option.bind_some, if_pos (by rfl), if_neg h]; rfl
theorem check_at (k : Nat) (hk : 8 ≤ k) (a : S54) : footbridgeref45_check.f k a.f0 a.f1 a.f2 a.f3 = some (if okA a then (if (a.f2.size : Int) > 65536 then 4 else 0) else 1) := by
  obtain ⟨m, rfl⟩ : ∃ m, k = m + 8 := ⟨k - 8, by omega⟩
  exact check_is m _ _ _ _
theorem of_at (k : Nat) (hk : 8 ≤ k) (a : S54) : script_of.f k a.f0 a.f1 a.f2 a.f3 = some (if okA a then some (stp a) else none) := by
  obtain ⟨m, rfl⟩ : ∃ m, k = m + 8 := ⟨k - 8, by omega⟩
  exact of_is m _ _ _ _
theorem rd_get (l : List S54) (i : Nat) (h : i < l.length) : rd_T54 l (i : Int) = l[i] := by
  unfold rd_T54
  rw [Int.toNat_natCast, List.getD_eq_getElem?_getD, List.getElem?_eq_getElem h]; rfl
theorem putRef_go (l : List S54) (hll : l.length ≤ 1000) : ∀ (d i : Nat) (acc : List UInt8), d = l.length - i → i ≤ l.length → acc.length + d * 140000 ≤ 100000000 → Ev (fun k => footbridgeref45_Put.l0 k l (ofL acc) (i : Int)) (putS (l.drop i) acc) := by
  intro d
  induction d with
  | zero =>
    intro i acc hd hi _
    refine ⟨1, fun k hk => ?_⟩
    obtain ⟨m, rfl⟩ : ∃ m, k = m + 1 := ⟨k - 1, by omega⟩
    have : l.drop i = [] := List.drop_eq_nil_iff.2 (by omega)
    show footbridgeref45_Put.l0 (m + 1) l (ofL acc) (i : Int) = _
    simp only [footbridgeref45_Put.l0]
    rw [if_neg (by omega), this]; rfl
  | succ d ih =>
    intro i acc hd hi hacc
    have hl : i < l.length := by omega
    rw [List.drop_eq_getElem_cons hl]
    have hrd := rd_get l i hl
    have hw : wrap64 ((i : Int) + 1) = ((i + 1 : Nat) : Int) := by rw [w64 (by omega) (by omega)]; omega
    generalize l[i] = a at *
    have hlen := bodyL_len a
    by_cases h : okA a
    · by_cases hb : (a.f2.size : Int) > 65536
      · refine ⟨10, fun k hk => ?_⟩
        obtain ⟨M, rfl⟩ : ∃ M, k = M + 1 := ⟨k - 1, by omega⟩
        show footbridgeref45_Put.l0 (M + 1) l (ofL acc) (i : Int) = _
        simp only [footbridgeref45_Put.l0, putS]
        rw [if_pos (by omega), if_pos (by omega), hrd, check_at M (by omega), if_pos h, if_pos hb, Option.bind_some, if_neg (by decide), if_pos h, if_pos hb]; rfl
      · have hs : a.f2.toList.length ≤ 65536 := by rw [← ba_size]; omega
        have hlen := hlen h
        obtain ⟨K1, e1⟩ := line_ev a h (by omega)
        obtain ⟨K2, e2⟩ := ih (i + 1) (acc ++ (bodyL a ++ [10])) (by omega) (by omega) (by rw [List.length_append, List.length_append, List.length_singleton]; omega)
        refine ⟨K1 + K2 + 10, fun k hk => ?_⟩
        obtain ⟨M, rfl⟩ : ∃ M, k = M + 1 := ⟨k - 1, by omega⟩
        have e1 : footbridgeref45_line.f M a.f0 a.f1 a.f2 a.f3 = _ := e1 _ (by omega)
        have e2 : footbridgeref45_Put.l0 M l _ _ = _ := e2 _ (by omega)
        show footbridgeref45_Put.l0 (M + 1) l (ofL acc) (i : Int) = _
        simp only [footbridgeref45_Put.l0, putS]
        rw [if_pos (by omega), if_pos (by omega), hrd, check_at M (by omega), if_pos h, if_neg hb, Option.bind_some, if_pos rfl, if_pos h, if_neg hb, e1, Option.bind_some, if_pos (by rw [ofL_size, ofL_size, List.length_append, List.length_singleton]; omega), ofL_append, hw, e2]
    · refine ⟨10, fun k hk => ?_⟩
      obtain ⟨M, rfl⟩ : ∃ M, k = M + 1 := ⟨k - 1, by omega⟩
      show footbridgeref45_Put.l0 (M + 1) l (ofL acc) (i : Int) = _
      simp only [footbridgeref45_Put.l0, putS]
      rw [if_pos (by omega), if_pos (by omega), hrd, check_at M (by omega), if_neg h, Option.bind_some, if_neg (by decide), if_neg h]; rfl
def putP (l : List S54) : ByteArray × Int := if (l.length : Int) > 256 then (ofL [], 4) else putS l []
theorem put_ev (l : List S54) : Ev (fun k => script_Put.f k l) (putP l) := by
  by_cases h : (l.length : Int) > 256
  · exact ⟨0, fun k _ => by show script_Put.f k l = _; unfold script_Put.f putP; rw [if_pos h, if_pos h]; rfl⟩
  · obtain ⟨K, e⟩ := putGo_ev l [] (by simp; omega)
    refine ⟨K, fun k hk => ?_⟩
    have e := e k hk
    show script_Put.f k l = _
    unfold script_Put.f putP
    rw [if_neg h, if_neg h, ← e]; rfl
theorem putRef_ev' (l : List S54) : Ev (fun k => footbridgeref45_Put.f k l) (putP l) := by
  by_cases h : (l.length : Int) > 256
  · exact ⟨0, fun k _ => by show footbridgeref45_Put.f k l = _; unfold footbridgeref45_Put.f putP; rw [if_pos h, if_pos h]; rfl⟩
  · obtain ⟨K, e⟩ := putRef_go l (by omega) l.length 0 [] (by omega) (by omega) (by simp; omega)
    refine ⟨K, fun k hk => ?_⟩
    have e := e k hk
    show footbridgeref45_Put.f k l = _
    unfold footbridgeref45_Put.f putP
    rw [if_neg h, if_neg h]
    rw [List.drop_zero] at e
    exact e
def validL (l : List S54) : Prop := ∀ a ∈ l, okA a ∧ (a.f2.size : Int) ≤ 65536
def flat (l : List S54) : List UInt8 := l.flatMap fun a => bodyL a ++ [10]
theorem flat_cons (a : S54) (l : List S54) : flat (a :: l) = bodyL a ++ 10 :: flat l := by
  unfold flat; rw [List.flatMap_cons]; simp
theorem putS_ok : ∀ (l : List S54) (acc : List UInt8), validL l → putS l acc = (ofL (acc ++ flat l), 0)
  | [], acc, _ => by show (ofL acc, 0) = _; unfold flat; simp
  | a :: l, acc, h => by
    obtain ⟨h1, h2⟩ := h a (by simp)
    have ih := putS_ok l (acc ++ (bodyL a ++ [10])) (fun b hb => h b (by simp [hb]))
    simp only [putS]
    rw [if_pos h1, if_neg (by omega), ih, flat_cons]
    simp
theorem putS_bad : ∀ (l : List S54) (acc : List UInt8), ¬ validL l → (putS l acc).2 ≠ 0
  | [], acc, h => absurd (fun a ha => absurd ha (by simp)) h
  | a :: l, acc, h => by
    simp only [putS]
    by_cases h1 : okA a
    · rw [if_pos h1]
      by_cases h2 : (a.f2.size : Int) > 65536
      · rw [if_pos h2]; decide
      · rw [if_neg h2]
        refine putS_bad l _ (fun hv => h ?_)
        intro b hb
        rcases List.mem_cons.1 hb with rfl | hb
        · exact ⟨h1, by omega⟩
        · exact hv b hb
    · rw [if_neg h1]; decide
theorem putP_ok (l : List S54) (h : validL l) (hl : l.length ≤ 256) : putP l = (ofL (flat l), 0) := by
  unfold putP
  rw [if_neg (by omega), putS_ok l [] h]; rfl
theorem putP_inv {l : List S54} (h : (putP l).2 = 0) : validL l ∧ l.length ≤ 256 := by
  unfold putP at h
  by_cases hl : (l.length : Int) > 256
  · rw [if_pos hl] at h; exact absurd h (by decide)
  · rw [if_neg hl] at h
    refine ⟨Classical.byContradiction fun hv => putS_bad l [] hv h, by omega⟩
end Go.Proofs.Ytcgmododeiocpaa.PureScr
