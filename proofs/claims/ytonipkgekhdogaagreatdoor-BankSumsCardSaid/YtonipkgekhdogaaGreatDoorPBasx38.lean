-- written by wip/myprint.py over the kit's print; not a printed text of print.sh
import Derived.Test.YtonipkgekhdogaaGreatDoorPBasx0
import Derived.Test.YtonipkgekhdogaaGreatDoorPBasx2
import Derived.Test.YtonipkgekhdogaaGreatDoorPBasx12
import Derived.Test.YtonipkgekhdogaaGreatDoorPBasx16
import Derived.Test.YtonipkgekhdogaaGreatDoorPBasx17
import Derived.Test.YtonipkgekhdogaaGreatDoorPBasx25
import Derived.Test.YtonipkgekhdogaaGreatDoorPBasx26
import Derived.Test.YtonipkgekhdogaaGreatDoorPBasx27
import Derived.Test.YtonipkgekhdogaaGreatDoorPBasx28
import Derived.Test.YtonipkgekhdogaaGreatDoorPBasx33
import Derived.Test.YtonipkgekhdogaaGreatDoorPBasx34
import Derived.Test.YtonipkgekhdogaaGreatDoorPBasx37
namespace Go.Proofs.YtonipkgekhdogaaGreatDoor.PBas
open Go.RowKit Go.Proofs.YtonipkgekhdogaaGreatDoorW.PrintWords Go.Proofs.YtonipkgekhdogaaGreatDoorW.PrintLast Go.Proofs.YtonipkgekhdogaaGreatDoorW.PrintMore
attribute [local go_sem] max2_int min2_int max_two min_two max_three min_three max_four min_four   -- for this text's walks alone
set_option linter.unusedVariables false
set_option linter.unusedSimpArgs false

/-! ### words: kvref.inc -/
/-! ### the document's keys, numbers, readers: plain -/
/-- Bytes as whole numbers. -/
def bIn (l : List UInt8) : List Int := l.map fun c => (c.toNat : Int)
theorem bIn_str (l : List UInt8) : strOfNums (bIn l) = ofL l := by
  apply ba_ext
  rw [ByteArray.toList_eq, ofL_toList, strOfNums_data]
  unfold bIn
  rw [List.map_map]
  conv => rhs; rw [← List.map_id l]
  refine List.map_congr_left (fun c _ => ?_)
  show UInt8.ofNat (c.toNat : Int).toNat = c
  rw [Int.toNat_natCast]; simp
theorem bIn_append (l m : List UInt8) : bIn (l ++ m) = bIn l ++ bIn m := by unfold bIn; exact List.map_append
theorem bIn_len (l : List UInt8) : (bIn l).length = l.length := by unfold bIn; exact List.length_map _
theorem strOfNums_app (l m : List Int) : strOfNums (l ++ m) = strOfNums l ++ strOfNums m := by
  apply ba_ext; rw [ba_append, ByteArray.toList_eq, ByteArray.toList_eq, ByteArray.toList_eq, strOfNums_data, strOfNums_data, strOfNums_data, List.map_append]
theorem bt_at' (s : List UInt8) (i : Nat) (h : i < s.length) : bt (ofL s) (i : Int) = ((s[i]).toNat : Int) := by
  have hb := bt_get (ofL s) i (by rw [ofL_toList]; exact h)
  simp only [ofL_toList] at hb
  exact hb
theorem bt_is (s : List UInt8) (i : Nat) (h : i < s.length) (c : UInt8) (n : Int) (hn : (c.toNat : Int) = n) : (bt (ofL s) (i : Int) = n) ↔ s[i] = c := by
  rw [bt_at' s i h, ← hn]
  exact ⟨fun e => UInt8.toNat_inj.1 (by omega), fun e => by rw [e]⟩
theorem hiddenRef_go (s : List UInt8) (hs : s.length ≤ 50000000) : ∀ (d i : Nat) (acc : List UInt8), d = s.length - i → i ≤ s.length → acc.length ≤ 2 * i → Ev (fun k => footbridgeref08_hidden.l0 k (ofL s) (bIn acc) (i : Int)) (ofL (acc ++ hidL (s.drop i))) := by
  intro d
  induction d with
  | zero =>
    intro i acc hd hi ha
    refine ⟨1, fun k hk => ?_⟩
    obtain ⟨m, rfl⟩ : ∃ m, k = m + 1 := ⟨k - 1, by omega⟩
    show footbridgeref08_hidden.l0 (m + 1) (ofL s) (bIn acc) (i : Int) = _
    simp only [footbridgeref08_hidden.l0]
    rw [ofL_size, if_neg (by omega), List.drop_eq_nil_of_le (by omega), bIn_str]
    congr 2
    simp [hidL]
  | succ d ih =>
    intro i acc hd hi ha
    have hil : i < s.length := by omega
    obtain ⟨K, e⟩ := ih (i + 1) (acc ++ (if s[i] = 37 then [37, 112] else if s[i] = 47 then [37, 115] else [s[i]])) (by omega) (by omega) (by
      rw [List.length_append]
      have : (if s[i] = 37 then [37, 112] else if s[i] = 47 then [37, 115] else [s[i]] : List UInt8).length ≤ 2 := by split <;> (try split) <;> simp
      omega)
    refine ⟨K + 1, fun k hk => ?_⟩
    obtain ⟨m, rfl⟩ : ∃ m, k = m + 1 := ⟨k - 1, by omega⟩
    have e : footbridgeref08_hidden.l0 m (ofL s) _ ((i + 1 : Nat) : Int) = _ := e m (by omega)
    have hfin : acc ++ hidL (s.drop i) = (acc ++ (if s[i] = 37 then [37, 112] else if s[i] = 47 then [37, 115] else [s[i]])) ++ hidL (s.drop (i + 1)) := by
      rw [List.drop_eq_getElem_cons hil, hidL_cons, List.append_assoc]
    rw [hfin, ← e]
    show footbridgeref08_hidden.l0 (m + 1) (ofL s) (bIn acc) (i : Int) = _
    simp only [footbridgeref08_hidden.l0]
    have b1 := bt_is s i hil 37 37 rfl
    have b2 := bt_is s i hil 47 47 rfl
    rw [ofL_size, if_pos (by omega), if_pos (by omega), w_one i (by omega)]
    by_cases h1 : s[i] = 37
    · rw [if_pos (b1.2 h1), if_pos h1, Option.bind_some, if_pos (by rw [bIn_len]; simp only [List.length_cons, List.length_nil]; omega), bIn_append]; rfl
    · rw [if_neg (fun e => h1 (b1.1 e)), if_neg h1]
      by_cases h2 : s[i] = 47
      · rw [if_pos (b2.2 h2), if_pos h2, Option.bind_some, if_pos (by rw [bIn_len]; simp only [List.length_cons, List.length_nil]; omega), bIn_append]; rfl
      · rw [if_neg (fun e => h2 (b2.1 e)), if_neg h2, if_pos (by rw [bIn_len]; omega), bIn_append, bt_at' s i hil]; rfl
theorem hiddenRef_ev (a : ByteArray) (h : a.size ≤ 50000000) : Ev (fun k => footbridgeref08_hidden.f k a) (ofL (hidL a.toList)) := by
  have h2 := h
  rw [ba_size] at h2
  obtain ⟨K, e⟩ := hiddenRef_go a.toList h2 a.toList.length 0 [] (by omega) (by omega) (by simp)
  rw [ofL_of] at e
  exact ⟨K, e⟩
theorem joinRef_go (l : List ByteArray) (hl : l.length ≤ 1000) (hs : ∀ p ∈ l, p.size ≤ 50000000) : ∀ (d i : Nat) (acc : ByteArray), d = l.length - i → i ≤ l.length → acc.size ≤ 100000000 + i * 100000001 → Ev (fun k => footbridgeref08_Join.l0 k l acc (i : Int)) (acc ++ ofL ((l.drop i).flatMap fun p => 47 :: hidL p.toList)) := by
  intro d
  induction d with
  | zero =>
    intro i acc hd hi ha
    refine ⟨1, fun k hk => ?_⟩
    obtain ⟨m, rfl⟩ : ∃ m, k = m + 1 := ⟨k - 1, by omega⟩
    show footbridgeref08_Join.l0 (m + 1) l acc (i : Int) = _
    simp only [footbridgeref08_Join.l0]
    rw [if_neg (by omega), List.drop_eq_nil_of_le (by omega)]
    congr 1
    apply ba_ext; rw [ba_append, ofL_toList]; simp
  | succ d ih =>
    intro i acc hd hi ha
    have hil : i < l.length := by omega
    have hp := hs l[i] (List.getElem_mem hil)
    have hlen := hidL_len (l[i]).toList
    rw [← ba_size] at hlen
    have h47 : (⟨#[47]⟩ : ByteArray).size = 1 := rfl
    have hi2 : i * 100000001 ≤ 1000 * 100000001 := Nat.mul_le_mul_right _ (by omega)
    obtain ⟨K, e⟩ := ih (i + 1) ((acc ++ (⟨#[47]⟩ : ByteArray)) ++ ofL (hidL (l[i]).toList)) (by omega) (by omega) (by rw [ByteArray.size_append, ByteArray.size_append, ofL_size, h47, Nat.add_mul]; omega)
    obtain ⟨K1, e1⟩ := hiddenRef_ev l[i] hp
    refine ⟨K + K1 + 1, fun k hk => ?_⟩
    obtain ⟨m, rfl⟩ : ∃ m, k = m + 1 := ⟨k - 1, by omega⟩
    have e : footbridgeref08_Join.l0 m l _ ((i + 1 : Nat) : Int) = _ := e m (by omega)
    have e1 : footbridgeref08_hidden.f m l[i] = _ := e1 m (by omega)
    show footbridgeref08_Join.l0 (m + 1) l acc (i : Int) = _
    simp only [footbridgeref08_Join.l0]
    rw [if_pos (by omega), if_pos (by omega), if_pos (by omega), rdOf_get l i hil, e1, Option.bind_some, if_pos (by rw [ByteArray.size_append, ofL_size, h47]; omega), w_one i (by omega), e]
    congr 1
    rw [List.drop_eq_getElem_cons hil, List.flatMap_cons]
    apply ba_ext
    simp only [ba_append, ofL_toList, one_list]
    simp
theorem joinRef_ev (a : ByteArray) (l : List ByteArray) (ha : a.size ≤ 50000000) (hl : l.length ≤ 1000) (hs : ∀ p ∈ l, p.size ≤ 50000000) : Ev (fun k => footbridgeref08_Join.f k a l) (ofL (keyL a.toList (l.map ByteArray.toList))) := by
  have h1 := hidL_len a.toList
  rw [← ba_size] at h1
  obtain ⟨K, e⟩ := joinRef_go l hl hs l.length 0 (ofL (hidL a.toList)) (by omega) (by omega) (by rw [ofL_size]; omega)
  obtain ⟨K1, e1⟩ := hiddenRef_ev a ha
  refine ⟨K + K1, fun k hk => ?_⟩
  have e : footbridgeref08_Join.l0 k l (ofL (hidL a.toList)) 0 = _ := e k (by omega)
  have e1 : footbridgeref08_hidden.f k a = _ := e1 k (by omega)
  show footbridgeref08_Join.f k a l = _
  unfold footbridgeref08_Join.f
  rw [e1, Option.bind_some, e, ofL_append]
  unfold keyL glue
  rw [List.drop_zero, List.map_map, List.flatMap_map]
  rfl
theorem nBy_pow (s : ByteArray) : ∀ i, nBy s i < 256 ^ i := by
  intro i
  induction i with
  | zero => exact Nat.one_pos
  | succ i ih =>
    have h2 := (bt_range s ((i + 1 : Nat) : Int)).2
    have h3 : nBy s (i + 1) = nBy s i * 256 + (bt s ((i + 1 : Nat) : Int)).toNat := rfl
    rw [h3, Nat.pow_succ]
    omega
/-! ### the document's numbers, texts, readers -/
theorem refNum_go : ∀ (j n : Nat) (acc : ByteArray), n < 256 ^ j → n ≤ 9007199254740992 → acc.size + j ≤ 200 → ∀ k, j < k → footbridgeref01_Num.l0 k (n : Int) acc = some (strOfNums [(((digB j n).length + acc.size : Nat) : Int)] ++ (strOfNums (digB j n) ++ acc), 0) := by
  intro j
  induction j with
  | zero =>
    intro n acc hn hm ha k hk
    obtain ⟨k, rfl⟩ : ∃ m, k = m + 1 := ⟨k - 1, by omega⟩
    have hn0 : n = 0 := by simpa using hn
    subst hn0
    simp only [footbridgeref01_Num.l0]
    rw [if_neg (by omega), Option.bind_some, if_pos (by rw [strOfNums_sz]; simp only [List.length_cons, List.length_nil]; omega)]
    have e : ((acc.size : Int)) % 256 = (((digB 0 0).length + acc.size : Nat) : Int) := by simp only [digB, List.length_nil]; omega
    rw [e]
    refine congrArg some (Prod.ext (ba_ext ?_) rfl)
    simp only [ba_append, strOf_list, digB, List.map_nil, List.nil_append]
  | succ j ih =>
    intro n acc hn hm ha k hk
    obtain ⟨k, rfl⟩ : ∃ m, k = m + 1 := ⟨k - 1, by omega⟩
    simp only [footbridgeref01_Num.l0]
    by_cases h0 : n = 0
    · subst h0
      rw [if_neg (by omega), Option.bind_some, if_pos (by rw [strOfNums_sz]; simp only [List.length_cons, List.length_nil]; omega), digB_0]
      have e : ((acc.size : Int)) % 256 = ((([] : List Int).length + acc.size : Nat) : Int) := by simp only [List.length_nil]; omega
      rw [e]
      refine congrArg some (Prod.ext (ba_ext ?_) rfl)
      simp only [ba_append, strOf_list, List.map_nil, List.nil_append]
    · rw [if_pos (by omega), Option.bind_some, if_pos (by rw [strOfNums_sz]; simp only [List.length_cons, List.length_nil]; omega)]
      have e1 : Int.tmod (n : Int) 256 % 256 = ((n % 256 : Nat) : Int) := by
        rw [Int.tmod_eq_emod_of_nonneg (by omega)]; omega
      have e2 : wrap64 (Int.tdiv (n : Int) 256) = ((n / 256 : Nat) : Int) := by
        rw [Int.tdiv_eq_ediv_of_nonneg (by omega), w64 (by omega) (by omega)]; omega
      rw [e1, e2, ih (n / 256) _ (by rw [Nat.pow_succ] at hn; exact Nat.div_lt_of_lt_mul (by omega)) (by omega) (by rw [ByteArray.size_append, strOfNums_sz]; simp only [List.length_cons, List.length_nil]; omega) k (by omega)]
      have hd : digB (j + 1) n = digB j (n / 256) ++ [((n % 256 : Nat) : Int)] := by show (if n = 0 then [] else _) = _; rw [if_neg h0]
      rw [hd, List.length_append, List.length_singleton, ByteArray.size_append, strOfNums_sz, List.length_singleton, show (digB j (n / 256)).length + (1 + acc.size) = (digB j (n / 256)).length + 1 + acc.size by omega]
      refine congrArg some (Prod.ext (ba_ext ?_) rfl)
      simp only [ba_append, strOf_list, List.map_append, List.map_cons, List.map_nil, List.append_assoc]
theorem refNum_ev (n : Nat) (h : n ≤ 9007199254740992) : Ev (fun k => footbridgeref01_Num.f k (n : Int)) (numB n, 0) := by
  refine ⟨20, fun k hk => ?_⟩
  obtain ⟨k, rfl⟩ : ∃ m, k = m + 1 := ⟨k - 1, by omega⟩
  show footbridgeref01_Num.f (k + 1) (n : Int) = _
  unfold footbridgeref01_Num.f
  rw [if_neg (by omega), show decide ((n : Int) > 9007199254740992) = false from decide_eq_false (by omega)]
  simp only [footbridgeref01_Num.j0]
  rw [if_neg (by simp), refNum_go 8 n _ (by omega) h (by show 0 + 8 ≤ 200; omega) k (by omega)]
  have e : (⟨#[]⟩ : ByteArray).size = 0 := rfl
  rw [e, Nat.add_zero]
  unfold numB
  refine congrArg some (Prod.ext (ba_ext ?_) rfl)
  simp [ba_append, ByteArray.toList_eq]
theorem ref14Key_ev (a : ByteArray) (l : List ByteArray) (ha : a.size ≤ 50000000) (hl : l.length ≤ 1000) (hs : ∀ p ∈ l, p.size ≤ 50000000) : Ev (fun k => footbridgeref14_Key.f k (a :: l)) (keyB a l) := by
  obtain ⟨K, hK⟩ := joinRef_ev a l ha hl hs
  refine ⟨K, fun k hk => ?_⟩
  have e : footbridgeref08_Join.f k a l = _ := hK k hk
  show footbridgeref14_Key.f k (a :: l) = _
  unfold footbridgeref14_Key.f
  rw [if_pos (by simp only [List.length_cons]; omega), if_pos (by simp only [List.length_cons]; omega)]
  show (footbridgeref08_Join.f k a l).bind _ = _
  rw [e, Option.bind_some]
  rfl
theorem ref14Put_ev (l : List S73) (key value : ByteArray) (hs : sortK l) (hl : l.length ≤ 1000000) : Ev (fun k => footbridgeref14_Put.f k l key value) (setK l key value) := by
  refine ⟨1000001, fun k hk => ?_⟩
  show footbridgeref14_Put.f k l key value = _
  unfold footbridgeref14_Put.f
  rw [set_f l key value k hs (by omega) (by omega), Option.bind_some]
theorem ref09Get_ev (l : List S73) (key : ByteArray) (hs : sortK l) (hl : l.length ≤ 1000000) : Ev (fun k => footbridgeref09_Get.f k l key) (getK l key) :=
  ⟨1000001, fun k hk => get_f l key k hs (by omega) (by omega)⟩
theorem refRNum_go (s : ByteArray) (c : Nat) (hc : c ≤ 7) (hs : c < s.size) (hsz : s.size ≤ 1000000000) : ∀ d i k, d = c + 1 - i → 1 ≤ i → i ≤ c + 1 → d < k → footbridgeref01_R_Num.l0 k (c : Int) (nBy s (i - 1) : Int) (i : Int) s 0 = some (if 9007199254740992 < nBy s c then (s, 3, 0) else (s.extract (c + 1) s.size, 0, (nBy s c : Int))) := by
  intro d
  induction d with
  | zero =>
    intro i k hd h1 h2 hk
    obtain ⟨k, rfl⟩ : ∃ m, k = m + 1 := ⟨k - 1, by omega⟩
    obtain rfl : i = c + 1 := by omega
    simp only [footbridgeref01_R_Num.l0]
    rw [if_neg (by omega), Nat.add_sub_cancel]
    by_cases hb : 9007199254740992 < nBy s c
    · rw [if_pos (by omega), if_pos hb]
    · have e : wrap64 (1 + (c : Int)) = ((c + 1 : Nat) : Int) := by rw [w64 (by omega) (by omega)]; omega
      rw [if_neg (by omega), if_neg hb, e, if_pos (by omega), if_pos (by omega), Int.toNat_natCast]
  | succ d ih =>
    intro i k hd h1 h2 hk
    obtain ⟨k, rfl⟩ : ∃ m, k = m + 1 := ⟨k - 1, by omega⟩
    obtain ⟨i, rfl⟩ : ∃ m, i = m + 1 := ⟨i - 1, by omega⟩
    have ic : i < c := by omega
    have hp := nBy_pow s i
    have hpow : 256 ^ i ≤ 256 ^ 6 := Nat.pow_le_pow_right (by decide) (by omega)
    have hbt := bt_range s ((i + 1 : Nat) : Int)
    have e3 : nBy s (i + 1) = nBy s i * 256 + (bt s ((i + 1 : Nat) : Int)).toNat := rfl
    have ex : wrap64 ((wrap64 ((nBy s i : Int) * 256)) + (wrap64 (bt s ((i + 1 : Nat) : Int)))) = (nBy s (i + 1) : Int) := by
      rw [w64 (x := (nBy s i : Int) * 256) (by omega) (by omega), w64 (x := bt s ((i + 1 : Nat) : Int)) (by omega) (by omega), w64 (by omega) (by omega), e3]; omega
    simp only [footbridgeref01_R_Num.l0]
    rw [if_pos (by omega), if_pos (by omega), if_pos (by omega), Nat.add_sub_cancel, ex, w_one (i + 1) (by omega)]
    exact ih (i + 1 + 1) k (by omega) (by omega) (by omega) (by omega)
theorem refRNum_ev (s : ByteArray) (e : Int) (hs : s.size ≤ 1000000000) : Ev (fun k => footbridgeref01_R_Num.f k s e) ((rNum s e).2.1, (rNum s e).2.2, (rNum s e).1) := by
  refine ⟨20, fun k hk => ?_⟩
  obtain ⟨k, rfl⟩ : ∃ m, k = m + 1 := ⟨k - 1, by omega⟩
  show footbridgeref01_R_Num.f (k + 1) s e = _
  unfold footbridgeref01_R_Num.f rNum
  by_cases he : e = 0
  · subst he
    rw [if_pos rfl, if_pos rfl]
    dsimp only
    have hw : numW s = (wire_number.f s).getD (0, 0, 0) := rfl
    unfold wire_number.f at hw
    have hb := bt_range s 0
    have hwb : wrap64 (bt s 0) = bt s 0 := w64 (by omega) (by omega)
    by_cases h0 : s.toList = []
    · have hz : s.size = 0 := by rw [ba_size, h0]; rfl
      rw [if_pos hz] at hw
      rw [if_pos h0, hw]
      rfl
    have hz : ¬ s.size = 0 := fun e => h0 (List.length_eq_zero_iff.1 (by rw [← ba_size]; exact e))
    rw [if_neg hz] at hw
    rw [if_neg h0, if_pos (by omega), hwb]
    by_cases h7 : bt s 0 > 7
    · rw [if_pos (.inl h7)] at hw
      rw [if_pos h7, hw]; rfl
    rw [if_neg h7]
    by_cases h1 : 0 < bt s 0 ∧ 1 < s.size ∧ bt s 1 = 0
    · rw [if_pos (.inr h1)] at hw
      rw [if_pos h1.1, if_pos (by omega), if_pos (by omega), hw]
      simp only [footbridgeref01_R_Num.j0]
      rw [if_pos (by rw [beq_iff_eq]; exact h1.2.2)]
      rfl
    rw [if_neg (fun e => e.elim h7 h1)] at hw
    obtain ⟨c, hc⟩ : ∃ c : Nat, bt s 0 = (c : Int) := ⟨(bt s 0).toNat, by omega⟩
    have hj : (if bt s 0 > 0 then (if (s.size : Int) > 1 then (if 1 < (s.size : Int) then (footbridgeref01_R_Num.j0 (k + 1) (bt s 0) ((bt s 1) == 0) s 0) else none) else (footbridgeref01_R_Num.j0 (k + 1) (bt s 0) false s 0)) else (footbridgeref01_R_Num.j0 (k + 1) (bt s 0) false s 0)) = footbridgeref01_R_Num.j0 (k + 1) (bt s 0) false s 0 := by
      by_cases g1 : bt s 0 > 0
      · rw [if_pos g1]
        by_cases g2 : (s.size : Int) > 1
        · rw [if_pos g2, if_pos g2, beq_eq_false_iff_ne.2 (fun e => h1 ⟨g1, by omega, e⟩)]
        · rw [if_neg g2]
      · rw [if_neg g1]
    rw [hj]
    simp only [footbridgeref01_R_Num.j0]
    rw [if_neg (by simp), w64 (by omega) (by omega)]
    by_cases h3 : (s.size : Int) ≤ bt s 0
    · rw [if_pos h3] at hw
      rw [if_pos (by omega), hw]; rfl
    rw [if_neg h3] at hw
    rw [if_neg (by omega)]
    have hl := refRNum_go s c (by omega) (by omega) hs c 1 k (by omega) (by omega) (by omega) (by omega)
    rw [hc]
    rw [hc, Int.toNat_natCast] at hw
    have hl : footbridgeref01_R_Num.l0 k (c : Int) 0 1 s 0 = _ := hl
    rw [hl]
    by_cases h4 : 9007199254740992 < nBy s c
    · rw [if_pos h4] at hw
      rw [if_pos h4, hw]; rfl
    · rw [if_neg h4] at hw
      rw [if_neg h4, hw]
      show some (s.extract (c + 1) s.size, (0 : Int), (nBy s c : Int)) = some (s.extract ((c : Int) + 1).toNat s.size, 0, (nBy s c : Int))
      rw [show ((c : Int) + 1).toNat = c + 1 by omega]
  · rw [if_neg he, if_neg he]
theorem refRDone (s : ByteArray) (e : Int) : footbridgeref01_R_Done.f s e = some (rDone s e) := by
  unfold footbridgeref01_R_Done.f rDone
  by_cases he : e = 0
  · rw [if_pos he, if_pos he]
    by_cases h : s.toList = []
    · rw [if_pos h, if_pos h, he]
    · rw [if_neg h, if_neg h]
  · rw [if_neg he, if_neg he]

end Go.Proofs.YtonipkgekhdogaaGreatDoor.PBas
