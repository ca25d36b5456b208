/- The reference's Put and Read of an object, as printed. No condition beyond those stated. -/
import Derived.Test.YtcgmododeiocpaaObjLib3
import Derived.Test.YtcgmododeiocpaaPObjx10
import Derived.Test.YtcgmododeiocpaaPObjx11
namespace Go.Proofs.Ytcgmododeiocpaa.PureObj
open Go.RowKit Go.Proofs.Ytcgmododeiocpaa.PObj Go.Proofs.YtcgmododeiocpaaW.PrintWords Go.Proofs.YtcgmododeiocpaaW.PrintLast
set_option linter.unusedVariables false
set_option linter.unusedSimpArgs false
theorem refPut_go (l : List S42) (hl : l.length ≤ 256) (hs : ∀ a ∈ l, okB a) : ∀ (d i : Nat), d + i = l.length → ∀ k, 2 * d + 7012 ≤ k →
    footbridgeref07_Put.l0 k l (ofL (123 :: rowT fieldT 0 (l.take i))) (i : Int) = some (ofL (objT l), 0)
  | 0, i, hi, k, hk => by
    obtain ⟨k, rfl⟩ : ∃ m, k = m + 1 := ⟨k - 1, by omega⟩
    have hb := fields_len l hl hs
    simp only [footbridgeref07_Put.l0]
    rw [if_neg (by omega), List.take_of_length_le (by omega), ofL_size, List.length_cons, if_pos (by omega)]
    exact congrArg (fun x => some (x, (0 : Int))) (ofL_append _ [125])
  | d + 1, i, hi, k, hk => by
    obtain ⟨k, rfl⟩ : ∃ m, k = m + 2 := ⟨k - 2, by omega⟩
    have hil : i < l.length := by omega
    have hz := hs l[i] (List.getElem_mem hil)
    have hb := fields_len (l.take i) (by rw [List.length_take]; omega) (fun t ht => hs t (List.mem_of_mem_take ht))
    have ht := txt_le l[i].f0
    have hv := valT_len l[i] hz
    have hlt : (l.take i).length = i := by rw [List.length_take]; omega
    have hsn := rowT_snoc fieldT (l.take i) 0 l[i]
    rw [← List.take_succ_eq_append_getElem hil, hlt] at hsn
    have j1 : ∀ acc : List UInt8, acc.length ≤ 500000000 → acc ++ fieldT l[i] = 123 :: rowT fieldT 0 (l.take (i + 1)) → footbridgeref07_Put.j1 (k + 1) l (ofL acc) (i : Int) = some (ofL (objT l), 0) := by
      intro acc hacc e
      have IH := refPut_go l hl hs d (i + 1) (by omega) k (by omega)
      rw [← e] at IH
      simp only [footbridgeref07_Put.j1]
      rw [if_pos (by omega), if_pos (by omega), rdF l i hil, wS i (by omega)]
      obtain ⟨z0, z1, z2, z3⟩ := hz
      have e1 : (ofL acc ++ ofL (txt l[i].f0)) = ofL (acc ++ txt l[i].f0) := ofL_append _ _
      have e2 : (ofL (acc ++ txt l[i].f0) ++ (⟨#[58]⟩ : ByteArray)) = ofL (acc ++ txt l[i].f0 ++ [58]) := ofL_append _ [58]
      rw [putRef_is _ (by omega) k (by omega), Option.bind_some, putRef_is _ (by omega) k (by omega)]
      have hv2 : valT l[i] = if l[i].f3 = true then 91 :: (rowT txt 0 l[i].f2 ++ [93]) else txt l[i].f1 := rfl
      cases h3 : l[i].f3 with
      | true =>
        rw [h3, if_pos rfl] at hv2
        rw [if_pos rfl, refList_is _ z2 z3 k (by omega), Option.bind_some, Option.bind_some, ← txt_ofL, ofL_size, ofL_size, if_pos (by omega), e1, ofL_size, List.length_append, if_pos (by omega), e2, ofL_size, ← hv2, ofL_size, List.length_append, List.length_append, List.length_singleton, if_pos (by omega), ofL_append]
        refine Eq.trans (congrArg (fun x => footbridgeref07_Put.l0 k l (ofL x) _) ?_) IH
        unfold fieldT; simp
      | false =>
        rw [h3, if_neg (by simp)] at hv2
        rw [if_neg (by simp), Option.bind_some, ← txt_ofL, ← txt_ofL, ofL_size, ofL_size, if_pos (by omega), e1, ofL_size, List.length_append, if_pos (by omega), e2, ofL_size, ← hv2, ofL_size, List.length_append, List.length_append, List.length_singleton, if_pos (by omega), ofL_append]
        refine Eq.trans (congrArg (fun x => footbridgeref07_Put.l0 k l (ofL x) _) ?_) IH
        unfold fieldT; simp
    simp only [footbridgeref07_Put.l0]
    rw [if_pos (by omega)]
    by_cases h0 : i = 0
    · rw [if_neg (by omega)]
      refine j1 _ (by rw [List.length_cons]; omega) ?_
      rw [hsn, if_pos (by omega)]; simp
    · have e1 : (ofL (123 :: rowT fieldT 0 (l.take i)) ++ (⟨#[44]⟩ : ByteArray)) = ofL (123 :: rowT fieldT 0 (l.take i) ++ [44]) := ofL_append _ [44]
      rw [if_pos (by omega), ofL_size, List.length_cons, if_pos (by omega), e1]
      refine j1 _ (by rw [List.length_append, List.length_cons, List.length_singleton]; omega) ?_
      rw [hsn, if_neg (by omega)]; simp
theorem refPut_is (l : List S42) (hl : l.length ≤ 256) (hs : ∀ a ∈ l, okB a) (k : Nat) (hk : 100000 ≤ k) : footbridgeref07_Put.f k l = some (if fineL [] l = true then (ofL (objT l), 0) else (ofL [], 6)) := by
  unfold footbridgeref07_Put.f
  rw [refFine_is l hl k hk, Option.bind_some]
  cases fineL [] l with
  | true => rw [if_pos rfl, if_pos rfl]; exact refPut_go l hl hs l.length 0 (by omega) k (by omega)
  | false => rw [if_neg (by simp), if_neg (by simp)]; rfl
/-! ### the reference's texts -/
def failT : Option (List ByteArray × ByteArray × Bool) := some (([] : List ByteArray), (⟨#[]⟩ : ByteArray), false)
theorem bt_cons (c : UInt8) (t : List UInt8) : bt (ofL (c :: t)) 0 = (c.toNat : Int) := bt_ofL0 _
theorem ne_int {c d : UInt8} (h : c ≠ d) : ¬ ((c.toNat : Int) = (d.toNat : Int)) := fun e => h (UInt8.toNat_inj.1 (by omega))
theorem tail_is (c : UInt8) (t : List UInt8) : (ofL (c :: t)).extract 1 (ofL (c :: t)).size = ofL t := ofL_drop (c :: t) 1
theorem tx_nil (k : Nat) (acc : List ByteArray) : footbridgeref07_texts.l0 (k + 2) (ofL []) acc = failT := by
  simp only [footbridgeref07_texts.l0]
  rw [if_pos (ofL_toList [])]
  simp only [footbridgeref07_texts.j1]
  rw [if_neg (by simp), if_pos (ofL_toList [])]; rfl
theorem tx_end (k : Nat) (acc : List ByteArray) (t : List UInt8) : footbridgeref07_texts.l0 (k + 2) (ofL (93 :: t)) acc = some (acc, ofL t, true) := by
  simp only [footbridgeref07_texts.l0]
  rw [if_neg (by rw [ofL_toList]; simp), if_pos (by rw [ofL_size, List.length_cons]; omega), bt_cons]
  simp only [footbridgeref07_texts.j1]
  rw [if_neg (by decide), if_neg (by rw [ofL_toList]; simp), if_pos (by rw [ofL_size, List.length_cons]; omega), tail_is]
def txR (k : Nat) (q : ByteArray) (acc : List ByteArray) : Option (List ByteArray × ByteArray × Bool) := if (readS q).2.2 = 0 then footbridgeref07_texts.l0 k (readS q).2.1 (acc ++ [(readS q).1]) else failT
theorem txR_eq (k : Nat) (q : ByteArray) (acc : List ByteArray) (ha : acc.length ≤ 1000000) : (if (readS q).2.2 = 0 then (if acc.length < 8796093022208 then footbridgeref07_texts.l0 k (readS q).2.1 (acc ++ [(readS q).1]) else none) else some (([] : List ByteArray), (⟨#[]⟩ : ByteArray), false)) = txR k q acc := by
  unfold txR
  by_cases e : (readS q).2.2 = 0
  · rw [if_pos e, if_pos e, if_pos (by omega)]
  · rw [if_neg e, if_neg e]; rfl
theorem tx_go (k : Nat) (acc : List ByteArray) (c : UInt8) (t : List UInt8) (hc : c ≠ 93) (ha : acc.length ≤ 1000000) (hl : (c :: t).length ≤ 1000000) (hk : 2000310 ≤ k) :
    footbridgeref07_texts.l0 (k + 2) (ofL (c :: t)) acc = if acc.length = 0 then txR k (ofL (c :: t)) acc else if c = 44 then txR k (ofL t) acc else failT := by
  have h93 : ((c.toNat : Int) != 93) = true := bne_iff_ne.2 (ne_int (d := 93) hc)
  rw [List.length_cons] at hl
  simp only [footbridgeref07_texts.l0]
  rw [if_neg (by rw [ofL_toList]; simp), if_pos (by rw [ofL_size, List.length_cons]; omega), bt_cons, h93]
  simp only [footbridgeref07_texts.j1]
  rw [if_pos trivial]
  by_cases h0 : acc.length = 0
  · rw [if_neg (by omega), if_pos h0, readRef_is _ (by rw [ofL_size, List.length_cons]; omega) k (by rw [ofL_size, List.length_cons]; omega), Option.bind_some]; exact txR_eq k _ acc ha
  · rw [if_pos (by omega), if_pos (by rw [ofL_size, List.length_cons]; omega), bt_cons, if_neg h0]
    by_cases h44 : c = 44
    · subst h44
      rw [if_pos (by decide), if_pos (by rw [ofL_size, List.length_cons]; omega), tail_is, if_pos rfl, readRef_is _ (by rw [ofL_size]; omega) k (by rw [ofL_size]; omega), Option.bind_some]; exact txR_eq k _ acc ha
    · rw [if_neg (show ¬ (c.toNat : Int) = 44 from ne_int (d := 44) h44), if_neg h44]; rfl
theorem tx_total : ∀ (m : Nat) (L : List UInt8) (acc : List ByteArray), L.length ≤ m → acc.length + m ≤ 1000000 → ∀ k, 2 * m + 2000312 ≤ k →
    ∃ l r ok, footbridgeref07_texts.l0 k (ofL L) acc = some (l, r, ok) ∧ r.size ≤ L.length ∧ ∀ t ∈ l, t ∈ acc ∨ t.size ≤ L.length := by
  intro m
  induction m with
  | zero =>
    intro L acc hL ha k hk
    obtain ⟨k, rfl⟩ : ∃ m, k = m + 2 := ⟨k - 2, by omega⟩
    obtain rfl : L = [] := List.length_eq_zero_iff.1 (by omega)
    exact ⟨_, _, _, tx_nil k acc, Nat.zero_le _, by simp⟩
  | succ m ih =>
    intro L acc hL ha k hk
    obtain ⟨k, rfl⟩ : ∃ m, k = m + 2 := ⟨k - 2, by omega⟩
    cases L with
    | nil => exact ⟨_, _, _, tx_nil k acc, Nat.zero_le _, by simp⟩
    | cons c t =>
      rw [List.length_cons] at hL
      by_cases hc : c = 93
      · subst hc
        exact ⟨_, _, _, tx_end k acc t, by rw [ofL_size, List.length_cons]; omega, fun t ht => .inl ht⟩
      · rw [tx_go k acc c t hc (by omega) (by rw [List.length_cons]; omega) (by omega)]
        have rd : ∀ q : List UInt8, q.length ≤ m + 1 → q.length ≤ (c :: t).length → ∃ l r ok, txR k (ofL q) acc = some (l, r, ok) ∧ r.size ≤ (c :: t).length ∧ ∀ x ∈ l, x ∈ acc ∨ x.size ≤ (c :: t).length := by
          intro q hq hq2
          have hz := readS_size (ofL q)
          rw [ofL_size] at hz
          unfold txR
          by_cases h0 : (readS (ofL q)).2.2 = 0
          · rw [if_pos h0]
            have h2 := hz.2.2 h0
            obtain ⟨l, r, ok, e1, e2, e3⟩ := ih (readS (ofL q)).2.1.toList (acc ++ [(readS (ofL q)).1]) (by rw [← ba_size]; omega) (by rw [List.length_append, List.length_singleton]; omega) k (by omega)
            rw [ofL_of] at e1
            rw [← ba_size] at e2 e3
            refine ⟨l, r, ok, e1, by omega, fun x hx => ?_⟩
            rcases e3 x hx with h | h
            · rcases List.mem_append.1 h with h | h
              · exact .inl h
              · rw [List.mem_singleton.1 h]; exact .inr (by omega)
            · exact .inr (by omega)
          · rw [if_neg h0]; exact ⟨_, _, _, rfl, Nat.zero_le _, by simp⟩
        by_cases h0 : acc.length = 0
        · rw [if_pos h0]; exact rd _ (by rw [List.length_cons]; omega) (Nat.le_refl _)
        · rw [if_neg h0]
          by_cases h44 : c = 44
          · rw [if_pos h44]; exact rd _ (by omega) (by rw [List.length_cons]; omega)
          · rw [if_neg h44]; exact ⟨_, _, _, rfl, Nat.zero_le _, by simp⟩
theorem tx_complete : ∀ (l acc : List ByteArray) (r : List UInt8), (rowT txt acc.length l ++ 93 :: r).length ≤ 500000 → acc.length + l.length ≤ 500000 → ∀ k, 2 * l.length + 2000312 ≤ k →
    footbridgeref07_texts.l0 k (ofL (rowT txt acc.length l ++ 93 :: r)) acc = some (acc ++ l, ofL r, true)
  | [], acc, r, hl, ha, k, hk => by
    obtain ⟨k, rfl⟩ : ∃ m, k = m + 2 := ⟨k - 2, by omega⟩
    rw [List.append_nil]; exact tx_end k acc r
  | a :: l, acc, r, hl, ha, k, hk => by
    rw [List.length_cons] at ha hk
    obtain ⟨k, rfl⟩ : ∃ m, k = m + 2 := ⟨k - 2, by omega⟩
    have hrow : rowT txt acc.length (a :: l) ++ 93 :: r = (if acc.length = 0 then [] else [44]) ++ (txt a ++ (rowT txt (acc.length + 1) l ++ 93 :: r)) := by simp only [rowT, List.append_assoc]
    have hq : ∃ q, txt a ++ (rowT txt (acc.length + 1) l ++ 93 :: r) = 34 :: q := by unfold txt; rw [putS_toList]; exact ⟨_, rfl⟩
    have hl2 : (rowT txt (acc ++ [a]).length l ++ 93 :: r).length ≤ 500000 := by rw [hrow, List.length_append, List.length_append] at hl; rw [show (acc ++ [a]).length = acc.length + 1 by simp]; omega
    have IH := tx_complete l (acc ++ [a]) r hl2 (by rw [List.length_append, List.length_singleton]; omega) k (by omega)
    rw [List.append_assoc, List.length_append, List.length_singleton] at IH
    have hR : txR k (ofL (txt a ++ (rowT txt (acc.length + 1) l ++ 93 :: r))) acc = some (acc ++ a :: l, ofL r, true) := by
      unfold txR txt
      rw [read_putL]
      exact IH
    rw [hrow] at hl ⊢
    obtain ⟨q, hq⟩ := hq
    by_cases h0 : acc.length = 0
    · rw [if_pos h0, List.nil_append] at hl ⊢
      rw [hq] at hl hR ⊢
      rw [tx_go k acc 34 q (by decide) (by omega) (by omega) (by omega), if_pos h0]; exact hR
    · rw [if_neg h0] at hl ⊢
      rw [List.singleton_append] at hl ⊢
      rw [tx_go k acc 44 _ (by decide) (by omega) (by omega) (by omega), if_neg h0, if_pos rfl]; exact hR
/-! ### the reference's field -/
theorem fd_total (L : List UInt8) (hL : L.length ≤ 400000) (k : Nat) (hk : 3000000 ≤ k) : ∃ f0 f1 f2 f3 r ok, footbridgeref07_field.f k (ofL L) = some (f0, f1, f2, f3, r, ok) ∧ (ok = true → r.size + 1 ≤ L.length) ∧ f0.size ≤ L.length ∧ f1.size ≤ L.length ∧ ∀ t ∈ f2, t.size ≤ L.length := by
  obtain ⟨k, rfl⟩ : ∃ m, k = m + 2 := ⟨k - 2, by omega⟩
  have hz := readS_size (ofL L)
  rw [ofL_size] at hz
  obtain ⟨z1, z2, z3⟩ := hz
  unfold footbridgeref07_field.f
  rw [readRef_is _ (by rw [ofL_size]; omega) _ (by rw [ofL_size]; omega), Option.bind_some]
  generalize readS (ofL L) = q at z1 z2 z3 ⊢
  obtain ⟨t, r, e⟩ := q
  dsimp only at z1 z2 z3 ⊢
  have out : ∀ x y, ∃ f0 f1 f2 f3 r ok, footbridgeref07_field.j0 (k + 2) x y true = some (f0, f1, f2, f3, r, ok) ∧ (ok = true → r.size + 1 ≤ L.length) ∧ f0.size ≤ L.length ∧ f1.size ≤ L.length ∧ ∀ t ∈ f2, t.size ≤ L.length := by
    intro x y
    simp only [footbridgeref07_field.j0]
    rw [if_pos trivial]
    exact ⟨_, _, _, _, _, _, rfl, fun e => absurd e (by simp), Nat.zero_le _, Nat.zero_le _, by simp⟩
  by_cases he : e = 0
  · rw [if_pos he]
    replace z3 := z3 he
    obtain ⟨R, rfl⟩ : ∃ R, r = ofL R := ⟨r.toList, (ofL_of r).symm⟩
    rw [ofL_size] at z1 z3
    rw [ofL_toList]
    cases R with
    | nil => rw [if_pos rfl]; exact out _ _
    | cons c T =>
      rw [List.length_cons] at z1 z3
      rw [if_neg (by simp), if_pos (by rw [ofL_size, List.length_cons]; omega), bt_cons]
      by_cases hc : c = 58
      · subst hc
        rw [show ((((58 : UInt8).toNat : Nat) : Int) != 58) = false from rfl]
        simp only [footbridgeref07_field.j0]
        rw [if_neg (by simp), if_pos (by rw [ofL_size, List.length_cons]; omega), tail_is]
        have one : ∃ f0 f1 f2 f3 r ok, footbridgeref07_field.j1 (k + 1) (ofL T) t false = some (f0, f1, f2, f3, r, ok) ∧ (ok = true → r.size + 1 ≤ L.length) ∧ f0.size ≤ L.length ∧ f1.size ≤ L.length ∧ ∀ t ∈ f2, t.size ≤ L.length := by
          simp only [footbridgeref07_field.j1]
          have hz := readS_size (ofL T)
          rw [ofL_size] at hz
          rw [if_neg (by simp), readRef_is _ (by rw [ofL_size]; omega) _ (by rw [ofL_size]; omega), Option.bind_some]
          exact ⟨_, _, _, _, _, _, rfl, fun e => by omega, z2, by omega, by simp⟩
        cases T with
        | nil => rw [ofL_toList, if_pos rfl]; exact one
        | cons c T =>
          rw [ofL_toList, if_neg (by simp), if_pos (by rw [ofL_size, List.length_cons]; omega), bt_cons]
          by_cases h91 : c = 91
          · subst h91
            rw [show ((((91 : UInt8).toNat : Nat) : Int) == 91) = true from rfl]
            simp only [footbridgeref07_field.j1]
            rw [List.length_cons] at z1 z3
            rw [if_pos trivial, if_pos (by rw [ofL_size, List.length_cons]; omega), tail_is]
            obtain ⟨l, r, ok, e1, e2, e3⟩ := tx_total 400000 T [] (by omega) (by simp) k (by omega)
            unfold footbridgeref07_texts.f
            rw [e1, Option.bind_some]
            refine ⟨_, _, _, _, _, _, rfl, fun e => by show r.size + 1 ≤ _; omega, z2, Nat.zero_le _, fun x hx => ?_⟩
            rcases e3 x hx with h | h
            · exact absurd h (by simp)
            · omega
          · rw [show ((c.toNat : Int) == 91) = false from beq_eq_false_iff_ne.2 (ne_int (d := 91) h91)]
            exact one
      · rw [show ((c.toNat : Int) != 58) = true from bne_iff_ne.2 (ne_int (d := 58) hc)]
        exact out _ _
  · rw [if_neg he]; exact out _ _
theorem fd_complete (a : S42) (r : List UInt8) (ha : okF a) (hl : (fieldT a ++ r).length ≤ 400000) (k : Nat) (hk : 3000000 ≤ k) : footbridgeref07_field.f k (ofL (fieldT a ++ r)) = some (a.f0, a.f1, a.f2, a.f3, ofL r, true) := by
  obtain ⟨k, rfl⟩ : ∃ m, k = m + 2 := ⟨k - 2, by omega⟩
  obtain ⟨f0, f1, f2, f3⟩ := a
  obtain ⟨o1, o2, o3⟩ := ha
  dsimp only at o1 o2 o3
  unfold footbridgeref07_field.f
  rw [readRef_is _ (by rw [ofL_size]; omega) _ (by rw [ofL_size]; omega), Option.bind_some]
  unfold fieldT at hl ⊢
  dsimp only at hl ⊢
  rw [List.append_assoc] at hl ⊢
  unfold txt at hl ⊢
  rw [read_putL]
  dsimp only
  rw [if_pos rfl, List.cons_append, ofL_toList, if_neg (by simp), if_pos (by rw [ofL_size, List.length_cons]; omega), bt_cons, show ((((58 : UInt8).toNat : Nat) : Int) != 58) = false from rfl]
  simp only [footbridgeref07_field.j0]
  rw [if_neg (by simp), if_pos (by rw [ofL_size, List.length_cons]; omega), tail_is, ofL_toList]
  rw [List.cons_append, List.length_append, List.length_cons] at hl
  cases f3 with
  | true =>
    obtain rfl := o2 rfl
    have hv : valT ⟨f0, ofL [], f2, true⟩ ++ r = 91 :: (rowT txt 0 f2 ++ 93 :: r) := by
      unfold valT; dsimp only; rw [if_pos rfl]; simp
    rw [hv] at hl ⊢
    rw [List.length_cons] at hl
    have hc := rowT_count txt (fun a => by have := txt_len a; omega) f2 0
    rw [if_neg (by simp), if_pos (by rw [ofL_size, List.length_cons]; omega), bt_cons, show ((((91 : UInt8).toNat : Nat) : Int) == 91) = true from rfl]
    simp only [footbridgeref07_field.j1]
    unfold footbridgeref07_texts.f
    have hx := tx_complete f2 [] r (by show (rowT txt 0 f2 ++ 93 :: r).length ≤ 500000; omega) (by simp; omega) k (by omega)
    rw [if_pos trivial, if_pos (by rw [ofL_size, List.length_cons]; omega), tail_is]
    have hx : footbridgeref07_texts.l0 k (ofL (rowT txt 0 f2 ++ 93 :: r)) [] = some (f2, ofL r, true) := hx
    rw [hx, Option.bind_some]; rfl
  | false =>
    obtain rfl := o3 rfl
    have hv : valT ⟨f0, f1, [], false⟩ ++ r = (putS f1).toList ++ r := by unfold valT txt; dsimp only; rw [if_neg (by simp)]
    rw [hv] at hl ⊢
    have hq : ∃ q, (putS f1).toList ++ r = 34 :: q := by rw [putS_toList]; exact ⟨_, rfl⟩
    obtain ⟨q, hq⟩ := hq
    have hrd := read_putL f1 r
    rw [hq] at hrd hl ⊢
    rw [if_neg (by simp), if_pos (by rw [ofL_size, List.length_cons]; omega), bt_cons, show ((((34 : UInt8).toNat : Nat) : Int) == 91) = false from rfl]
    simp only [footbridgeref07_field.j1]
    rw [if_neg (by simp), readRef_is _ (by rw [ofL_size]; omega) _ (by rw [ofL_size]; omega), Option.bind_some, hrd]; rfl
/-! ### the reference's Read -/
def failO : Option (List S42 × Int) := some (([] : List S42), 6)
def endO (k : Nat) (all : ByteArray) (acc : List S42) : Option (List S42 × Int) := (footbridgeref07_Put.f k acc).bind fun b => if b.2 = 0 then (if b.1.toList = all.toList then some (acc, 0) else failO) else failO
def fdO (k : Nat) (q all : ByteArray) (acc : List S42) : Option (List S42 × Int) := (footbridgeref07_field.f k q).bind fun b => if b.2.2.2.2.2 = true then (if (b.2.2.1.length : Int) > 256 then failO else if (acc.length : Int) = 256 then failO else if acc.length < 2199023255552 then footbridgeref07_Read.l0 k b.2.2.2.2.1 all (acc ++ [(⟨b.1, b.2.1, b.2.2.1, b.2.2.2.1⟩ : S42)]) else none) else failO
theorem ro_nil (k : Nat) (all : ByteArray) (acc : List S42) : footbridgeref07_Read.l0 (k + 2) (ofL []) all acc = endO k all acc := by
  simp only [footbridgeref07_Read.l0]
  rw [if_pos (ofL_toList [])]
  simp only [footbridgeref07_Read.j2]
  rw [if_neg (by simp)]; rfl
theorem ro_end (k : Nat) (all : ByteArray) (acc : List S42) (t : List UInt8) : footbridgeref07_Read.l0 (k + 2) (ofL (125 :: t)) all acc = endO k all acc := by
  simp only [footbridgeref07_Read.l0]
  rw [if_neg (by rw [ofL_toList]; simp), if_pos (by rw [ofL_size, List.length_cons]; omega), bt_cons]
  simp only [footbridgeref07_Read.j2]
  rw [if_neg (by decide)]; rfl
theorem ro_go (k : Nat) (all : ByteArray) (acc : List S42) (c : UInt8) (t : List UInt8) (hc : c ≠ 125) :
    footbridgeref07_Read.l0 (k + 2) (ofL (c :: t)) all acc = if acc.length = 0 then fdO k (ofL (c :: t)) all acc else if c = 44 then fdO k (ofL t) all acc else failO := by
  have h125 : ((c.toNat : Int) != 125) = true := bne_iff_ne.2 (ne_int (d := 125) hc)
  simp only [footbridgeref07_Read.l0]
  rw [if_neg (by rw [ofL_toList]; simp), if_pos (by rw [ofL_size, List.length_cons]; omega), bt_cons, h125]
  simp only [footbridgeref07_Read.j2]
  rw [if_pos trivial]
  by_cases h0 : acc.length = 0
  · rw [if_neg (by omega), if_pos h0]; rfl
  · rw [if_pos (by omega), if_pos (by rw [ofL_size, List.length_cons]; omega), bt_cons, if_neg h0]
    by_cases h44 : c = 44
    · subst h44
      rw [if_pos (by decide), if_pos (by rw [ofL_size, List.length_cons]; omega), tail_is, if_pos rfl]; rfl
    · rw [if_neg (show ¬ (c.toNat : Int) = 44 from ne_int (d := 44) h44), if_neg h44]; rfl
def goodO (all : ByteArray) (l : List S42) : Prop := all.toList = objT l ∧ fineL [] l = true ∧ l.length ≤ 256 ∧ ∀ a ∈ l, okB a
theorem endO_is (k : Nat) (hk : 100000 ≤ k) (all : ByteArray) (acc : List S42) (hl : acc.length ≤ 256) (hs : ∀ a ∈ acc, okB a) : endO k all acc = failO ∨ endO k all acc = some (acc, 0) ∧ goodO all acc := by
  unfold endO
  rw [refPut_is acc hl hs k hk, Option.bind_some]
  cases hf : fineL [] acc with
  | false => exact .inl rfl
  | true =>
    rw [if_pos rfl, if_pos rfl, ofL_toList]
    by_cases h : objT acc = all.toList
    · rw [if_pos h]; exact .inr ⟨rfl, h.symm, hf, hl, hs⟩
    · rw [if_neg h]; exact .inl rfl
theorem ro_total (all : ByteArray) : ∀ (m : Nat), m ≤ 1000 → ∀ (L : List UInt8) (acc : List S42), L.length ≤ m → acc.length ≤ 256 → (∀ a ∈ acc, okB a) → ∀ k, 2 * m + 3000002 ≤ k →
    footbridgeref07_Read.l0 k (ofL L) all acc = failO ∨ ∃ l, footbridgeref07_Read.l0 k (ofL L) all acc = some (l, 0) ∧ goodO all l := by
  intro m
  induction m with
  | zero =>
    intro hm L acc hL ha hs k hk
    obtain ⟨k, rfl⟩ : ∃ m, k = m + 2 := ⟨k - 2, by omega⟩
    obtain rfl : L = [] := List.length_eq_zero_iff.1 (by omega)
    rw [ro_nil]
    rcases endO_is k (by omega) all acc ha hs with h | ⟨h, h2⟩
    · exact .inl h
    · exact .inr ⟨_, h, h2⟩
  | succ m ih =>
    intro hm L acc hL ha hs k hk
    obtain ⟨k, rfl⟩ : ∃ m, k = m + 2 := ⟨k - 2, by omega⟩
    have fin : endO k all acc = failO ∨ ∃ l, endO k all acc = some (l, 0) ∧ goodO all l := by
      rcases endO_is k (by omega) all acc ha hs with h | ⟨h, h2⟩
      · exact .inl h
      · exact .inr ⟨_, h, h2⟩
    cases L with
    | nil => rw [ro_nil]; exact fin
    | cons c t =>
      rw [List.length_cons] at hL
      by_cases hc : c = 125
      · subst hc; rw [ro_end]; exact fin
      · rw [ro_go k all acc c t hc]
        have fd : ∀ q : List UInt8, q.length ≤ m + 1 → fdO k (ofL q) all acc = failO ∨ ∃ l, fdO k (ofL q) all acc = some (l, 0) ∧ goodO all l := by
          intro q hq
          obtain ⟨f0, f1, f2, f3, r, ok, e1, e2, e3, e4, e5⟩ := fd_total q (by omega) k (by omega)
          unfold fdO
          rw [e1, Option.bind_some]
          cases ok with
          | false => exact .inl (if_neg (by simp))
          | true =>
            rw [if_pos rfl]
            have e2 := e2 rfl
            by_cases c1 : (f2.length : Int) > 256
            · exact .inl (if_pos c1)
            · rw [if_neg c1]
              by_cases c2 : (acc.length : Int) = 256
              · exact .inl (if_pos c2)
              · rw [if_neg c2, if_pos (by omega)]
                have h := ih (by omega) r.toList (acc ++ [(⟨f0, f1, f2, f3⟩ : S42)]) (by rw [← ba_size]; omega) (by rw [List.length_append, List.length_singleton]; omega) (fun a ha => by
                  rcases List.mem_append.1 ha with h | h
                  · exact hs a h
                  · rw [List.mem_singleton.1 h]; exact ⟨by show f0.size ≤ 1000; omega, by show f1.size ≤ 1000; omega, by show f2.length ≤ 256; omega, fun t ht => by have := e5 t ht; omega⟩) k (by omega)
                rw [ofL_of] at h
                exact h
        by_cases h0 : acc.length = 0
        · rw [if_pos h0]; exact fd _ (by rw [List.length_cons]; omega)
        · rw [if_neg h0]
          by_cases h44 : c = 44
          · rw [if_pos h44]; exact fd _ (by omega)
          · rw [if_neg h44]; exact .inl rfl
theorem ro_complete (all : ByteArray) (W : List S42) (hW : goodO all W) : ∀ (l acc : List S42), acc ++ l = W → (rowT fieldT acc.length l ++ [125]).length ≤ 400000 → ∀ k, 2 * l.length + 3000002 ≤ k →
    footbridgeref07_Read.l0 k (ofL (rowT fieldT acc.length l ++ [125])) all acc = some (W, 0)
  | [], acc, hw, hl, k, hk => by
    obtain ⟨k, rfl⟩ : ∃ m, k = m + 2 := ⟨k - 2, by omega⟩
    rw [List.append_nil] at hw
    subst hw
    obtain ⟨h1, h2, h3, h4⟩ := hW
    show footbridgeref07_Read.l0 (k + 2) (ofL (125 :: [])) all acc = _
    rw [ro_end]
    unfold endO
    rw [refPut_is acc h3 h4 k (by omega), Option.bind_some, if_pos h2, if_pos rfl, ofL_toList, if_pos h1.symm]
  | a :: l, acc, hw, hl, k, hk => by
    rw [List.length_cons] at hk
    obtain ⟨k, rfl⟩ : ∃ m, k = m + 2 := ⟨k - 2, by omega⟩
    have hWl : acc.length + (l.length + 1) ≤ 256 := by have := hW.2.2.1; rw [← hw, List.length_append, List.length_cons] at this; exact this
    have haW : a ∈ W := by rw [← hw]; simp
    have hB := hW.2.2.2 a haW
    have hF : okF a := ⟨hB.2.2.1, fineL_shape W [] hW.2.1 a haW⟩
    have hrow : rowT fieldT acc.length (a :: l) ++ [125] = (if acc.length = 0 then [] else [44]) ++ (fieldT a ++ (rowT fieldT (acc.length + 1) l ++ [125])) := by simp only [rowT, List.append_assoc]
    have hq : ∃ q, fieldT a ++ (rowT fieldT (acc.length + 1) l ++ [125]) = 34 :: q := by unfold fieldT txt; rw [putS_toList]; exact ⟨_, rfl⟩
    have hl1 : (fieldT a ++ (rowT fieldT (acc.length + 1) l ++ [125])).length ≤ 400000 := by rw [hrow, List.length_append] at hl; omega
    have hl2 : (rowT fieldT (acc ++ [a]).length l ++ [125]).length ≤ 400000 := by rw [List.length_append] at hl1; rw [show (acc ++ [a]).length = acc.length + 1 by simp]; omega
    have IH := ro_complete all W hW l (acc ++ [a]) (by rw [List.append_assoc]; exact hw) hl2 k (by omega)
    rw [show (acc ++ [a]).length = acc.length + 1 by simp] at IH
    have hR : fdO k (ofL (fieldT a ++ (rowT fieldT (acc.length + 1) l ++ [125]))) all acc = some (W, 0) := by
      unfold fdO
      rw [fd_complete a _ hF hl1 k (by omega), Option.bind_some]
      dsimp only
      have := hB.2.2.1
      rw [if_pos rfl, if_neg (by omega), if_neg (by omega), if_pos (by omega)]
      exact IH
    rw [hrow] at hl ⊢
    obtain ⟨q, hq⟩ := hq
    by_cases h0 : acc.length = 0
    · rw [if_pos h0, List.nil_append] at hl ⊢
      rw [hq] at hR ⊢
      rw [ro_go k all acc 34 q (by decide), if_pos h0]; exact hR
    · rw [if_neg h0] at hl ⊢
      rw [List.singleton_append] at hl ⊢
      rw [ro_go k all acc 44 _ (by decide), if_neg h0, if_pos rfl]; exact hR
theorem refRead_total (s : ByteArray) (hs : s.size ≤ 1000) (k : Nat) (hk : 3100000 ≤ k) : footbridgeref07_Read.f k s = failO ∨ ∃ l, footbridgeref07_Read.f k s = some (l, 0) ∧ goodO s l := by
  obtain ⟨k, rfl⟩ : ∃ m, k = m + 1 := ⟨k - 1, by omega⟩
  obtain ⟨L, rfl⟩ : ∃ L, s = ofL L := ⟨s.toList, (ofL_of s).symm⟩
  unfold footbridgeref07_Read.f
  rw [ofL_size] at hs
  cases L with
  | nil =>
    rw [if_pos (ofL_toList [])]
    simp only [footbridgeref07_Read.j0]
    rw [if_pos trivial]; exact .inl rfl
  | cons c t =>
    rw [List.length_cons] at hs
    rw [if_neg (by rw [ofL_toList]; simp), if_pos (by rw [ofL_size, List.length_cons]; omega), bt_cons]
    simp only [footbridgeref07_Read.j0]
    by_cases hc : c = 123
    · subst hc
      rw [if_neg (by decide), if_pos (by rw [ofL_size, List.length_cons]; omega), tail_is]
      exact ro_total _ 1000 (by omega) t [] (by omega) (by simp) (by simp) k (by omega)
    · rw [if_pos (show ((c.toNat : Int) != 123) = true from bne_iff_ne.2 (ne_int (d := 123) hc))]; exact .inl rfl
theorem refRead_complete (s : ByteArray) (l : List S42) (hs : s.size ≤ 1000) (h : goodO s l) (k : Nat) (hk : 3100000 ≤ k) : footbridgeref07_Read.f k s = some (l, 0) := by
  obtain ⟨k, rfl⟩ : ∃ m, k = m + 1 := ⟨k - 1, by omega⟩
  have e : s = ofL (objT l) := by rw [← h.1, ofL_of]
  have hl := h.2.2.1
  have hsz : (objT l).length ≤ 1000 := by rw [← h.1, ← ba_size]; exact hs
  unfold footbridgeref07_Read.f
  rw [if_neg (by rw [h.1]; unfold objT; simp), if_pos (by rw [e, ofL_size]; unfold objT; rw [List.length_cons]; omega)]
  have hb : bt s 0 = 123 := by rw [e]; unfold objT; rw [bt_cons]; rfl
  rw [hb]
  simp only [footbridgeref07_Read.j0]
  rw [if_neg (by decide), if_pos (by rw [e, ofL_size]; unfold objT; rw [List.length_cons]; omega)]
  have ht : s.extract 1 s.size = ofL (rowT fieldT 0 l ++ [125]) := by rw [e]; exact tail_is 123 _
  rw [ht]
  unfold objT at hsz
  rw [List.length_cons] at hsz
  exact ro_complete s l h l [] rfl (by show (rowT fieldT 0 l ++ [125]).length ≤ 400000; omega) k (by omega)
end Go.Proofs.Ytcgmododeiocpaa.PureObj
