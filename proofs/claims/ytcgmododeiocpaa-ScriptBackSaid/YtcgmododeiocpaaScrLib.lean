/- Plain facts on the printed script functions: numbers, a step's line, what a line tells. No condition beyond those stated. -/
import Derived.Test.YtcgmododeiocpaaScrDec
namespace Go.Proofs.Ytcgmododeiocpaa.PureScr
open Go.RowKit Go.Proofs.Ytcgmododeiocpaa.PScr Go.Proofs.YtcgmododeiocpaaW.PrintWords Go.Proofs.YtcgmododeiocpaaW.PrintLast
set_option linter.unusedVariables false
set_option linter.unusedSimpArgs false
/-! ### hexadecimal -/
def hx (s : List UInt8) : List UInt8 := (strOfNums (hexP (bytesOf (ofL s)))).toList
theorem hx_put (s : List UInt8) (h : s.length ≤ 1000000) : hexa_Put.f (ofL s) = some (ofL (hx s)) := by
  rw [put_is _ (by rw [ofL_size]; exact h), hx, ofL_of]
theorem hx_putRef (s : List UInt8) (h : s.length ≤ 1000000) : Ev (fun k => footbridgeref02_Put.f k (ofL s)) (ofL (hx s)) := by
  rw [hx, ofL_of]; exact putRef_ev _ (by rw [ofL_size]; exact h)
def unhx (t : List UInt8) : Option (List UInt8) := if t.length % 2 = 1 then none else (dec2 (bytesOf (ofL t))).map fun m => (strOfNums m).toList
def rdH (t : List UInt8) : ByteArray × Int := match unhx t with
  | some r => (ofL r, 0)
  | none => (ofL [], 6)
theorem rd_is (t : List UInt8) : rdSpec (ofL t) = rdH t := by
  unfold rdSpec rdH unhx
  rw [ofL_size]
  by_cases h : t.length % 2 = 1
  · rw [if_pos (by omega), if_pos h]; rfl
  · rw [if_neg (by omega), if_neg h]
    cases dec2 (bytesOf (ofL t)) with
    | none => rfl
    | some l => simp only [Option.map_some]; rw [ofL_of]
theorem rd_ev (t : List UInt8) (h : t.length ≤ 1000000) : Ev (fun k => hexa_Read.f k (ofL t)) (rdH t) := by
  rw [← rd_is]; exact read_ev _ (by rw [ofL_size]; exact h)
theorem rdRef_ev (t : List UInt8) (h : t.length ≤ 1000000) : Ev (fun k => footbridgeref02_Read.f k (ofL t)) (rdH t) := by
  rw [← rd_is]; exact readRef_ev _ (by rw [ofL_size]; exact h)
theorem bytesOf_hx (s : List UInt8) : bytesOf (ofL (hx s)) = hexP (bytesOf (ofL s)) := by
  rw [hx, ofL_of, bytesOf_str _ (hexP_byte _ (bytesOf_byte _))]
theorem bytesOf_len (s : ByteArray) : (bytesOf s).length = s.toList.length := by
  rw [ByteArray.toList_eq]; simp [bytesOf]
theorem hx_len (s : List UInt8) : (hx s).length = 2 * s.length := by
  have h := bytesOf_len (ofL (hx s))
  rw [bytesOf_hx, hexP_len, bytesOf_len, ofL_toList, ofL_toList] at h
  omega
theorem unhx_hx (s : List UInt8) : unhx (hx s) = some s := by
  unfold unhx
  rw [if_neg (by rw [hx_len]; omega), bytesOf_hx, dec2_hexP _ (bytesOf_byte _), Option.map_some, str_bytesOf, ofL_toList]
theorem hx_unhx {t r : List UInt8} (h : unhx t = some r) : hx r = t := by
  unfold unhx at h
  by_cases h1 : t.length % 2 = 1
  · rw [if_pos h1] at h; exact absurd h (by simp)
  · rw [if_neg h1] at h
    obtain ⟨m, hm, rfl⟩ := Option.map_eq_some_iff.1 h
    obtain ⟨h2, h3⟩ := hexP_dec2 _ _ hm
    unfold hx
    rw [ofL_of, bytesOf_str _ h3, h2, str_bytesOf, ofL_toList]
theorem hx_mem (s : List UInt8) : ∀ c ∈ hx s, 48 ≤ c.toNat := by
  intro c hc
  have h1 : ((c.toNat : Nat) : Int) ∈ bytesOf (ofL (hx s)) := by
    unfold bytesOf
    exact List.mem_map.2 ⟨c, by simpa [ofL] using hc, rfl⟩
  rw [bytesOf_hx] at h1
  unfold hexP at h1
  rw [List.mem_flatMap] at h1
  obtain ⟨b, hb, h2⟩ := h1
  have hb := bytesOf_byte _ b hb
  unfold isByte at hb
  have g1 := hexDig_byte (b / 16).toNat (by omega)
  have g2 := hexDig_byte (b % 16).toNat (by omega)
  simp only [List.mem_cons, List.not_mem_nil, or_false] at h2
  rcases h2 with h2 | h2 <;> omega
/-! ### numbers -/
instance (t : List UInt8) : Decidable (plainDec t) := by unfold plainDec; infer_instance
instance (c : UInt8) : Decidable (isDig c) := by unfold isDig; infer_instance
def digsOk (t : List UInt8) : Prop := t ≠ [] ∧ plainDec t ∧ (∀ c ∈ t, isDig c) ∧ dval t ≤ 1073741824
instance (t : List UInt8) : Decidable (digsOk t) := by unfold digsOk; infer_instance
theorem goN_is (s : ByteArray) (d : Nat) : ∀ (i n : Nat), i ≤ s.size → d = s.size + 1 - i → n ≤ 1073741824 → script_number.go s d i (n : Int) = if (∀ c ∈ s.toList.drop i, isDig c) ∧ (s.toList.drop i).foldl dstep n ≤ 1073741824 then some (((s.toList.drop i).foldl dstep n : Nat) : Int) else none := by
  induction d with
  | zero => intro i n hi hd; omega
  | succ d ih =>
    intro i n hi hd hn
    unfold script_number.go
    by_cases h : i < s.size
    · have hl : i < s.toList.length := by rw [← ba_size]; exact h
      have hb := bt_get s i hl
      rw [if_pos h, List.drop_eq_getElem_cons hl]
      generalize s.toList[i] = c at *
      simp only [List.mem_cons, List.foldl_cons, forall_eq_or_imp]
      by_cases h1 : bt s i < 48
      · rw [if_pos h1, if_neg]
        rintro ⟨⟨hc, _⟩, _⟩
        unfold isDig at hc; omega
      · rw [if_neg h1]
        by_cases h2 : bt s i > 57
        · rw [if_pos h2, if_neg]
          rintro ⟨⟨hc, _⟩, _⟩
          unfold isDig at hc; omega
        · rw [if_neg h2]
          have hc : isDig c := by unfold isDig; omega
          have he : (n : Int) * 10 + (bt s i - 48) = ((dstep n c : Nat) : Int) := by unfold dstep; rw [hb]; unfold isDig at hc; omega
          rw [he]
          by_cases h3 : ((dstep n c : Nat) : Int) > 1073741824
          · rw [if_pos h3, if_neg]
            rintro ⟨_, hh⟩
            have := foldl_dstep_ge (s.toList.drop (i + 1)) (dstep n c)
            omega
          · rw [if_neg h3, ih (i + 1) (dstep n c) (by omega) (by omega) (by omega)]
            simp only [hc, true_and]
    · rw [if_neg h]
      have : s.toList.drop i = [] := by rw [List.drop_eq_nil_iff, ← ba_size]; omega
      rw [this]
      simp [hn]
def numS (t : List UInt8) : Int × Bool := if digsOk t then ((dval t : Int), true) else (0, false)
theorem num_is (t : List UInt8) (ht : t.length ≤ 1000000) : script_number.f (ofL t) = some (numS t) := by
  unfold script_number.f numS
  rw [ofL_toList, ofL_size, if_neg (by omega)]
  by_cases h1 : t = []
  · rw [if_pos h1, if_neg (fun h : digsOk t => h.1 h1)]
  · rw [if_neg h1]
    have hpi := plainDec_iff t h1
    rw [ofL_size] at hpi
    by_cases h3 : 1 < t.length ∧ bt (ofL t) 0 = 48
    · rw [if_pos h3, if_neg (fun h : digsOk t => hpi.1 h.2.1 h3)]
    · have hg := goN_is (ofL t) ((ofL t).size + 1) 0 0 (by omega) rfl (by omega)
      rw [List.drop_zero, ofL_toList, ofL_size] at hg
      rw [if_neg h3, show (0 : Int) = ((0 : Nat) : Int) from rfl, hg]
      by_cases h4 : (∀ c ∈ t, isDig c) ∧ t.foldl dstep 0 ≤ 1073741824
      · rw [if_pos h4, if_pos (show digsOk t from ⟨h1, hpi.2 h3, h4.1, h4.2⟩)] <;> rfl
      · rw [if_neg h4, if_neg (fun h : digsOk t => h4 ⟨h.2.2.1, h.2.2.2⟩)] <;> rfl
theorem num_dec (n : Nat) (h : n ≤ 1073741824) : numS (dec n) = ((n : Int), true) := by
  unfold numS
  rw [if_pos ⟨dec_ne n, dec_head n, dec_digs n, by rw [dval_dec]; exact h⟩, dval_dec]
theorem num_inv {t : List UInt8} (h : (numS t).2 = true) : 0 ≤ (numS t).1 ∧ (numS t).1 ≤ 1073741824 ∧ t = dec (numS t).1.toNat := by
  unfold numS at h ⊢
  by_cases h1 : digsOk t
  · rw [if_pos h1]
    obtain ⟨a, b, c, d⟩ := h1
    refine ⟨by simp, by simpa using by omega, ?_⟩
    simp only [Int.toNat_natCast]
    exact (dec_dval t c a b).symm
  · rw [if_neg h1] at h; exact absurd h (by simp)
end Go.Proofs.Ytcgmododeiocpaa.PureScr
