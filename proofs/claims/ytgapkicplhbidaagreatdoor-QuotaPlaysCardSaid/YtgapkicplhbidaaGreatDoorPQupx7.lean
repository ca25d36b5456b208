/- A part of the walk of QuotaPlays. No condition. -/
import Derived.Test.YtgapkicplhbidaaGreatDoorPQupx0
import Derived.Test.YtgapkicplhbidaaGreatDoorPQupx1
import Derived.Test.YtgapkicplhbidaaGreatDoorPQupx2
import Derived.Test.YtgapkicplhbidaaGreatDoorPQupx3
import Derived.Test.YtgapkicplhbidaaGreatDoorPQupx4
import Derived.Test.YtgapkicplhbidaaGreatDoorPQupx5
import Derived.Test.YtgapkicplhbidaaGreatDoorPQupx6
namespace Go.Proofs.YtgapkicplhbidaaGreatDoor.PQup
set_option maxRecDepth 100000
set_option maxHeartbeats 8000000
open Go.RowKit Go.Proofs.YtgapkicplhbidaaGreatDoorW.PrintWords Go.Proofs.YtgapkicplhbidaaGreatDoorW.PrintLast Go.Proofs.YtgapkicplhbidaaGreatDoorW.PrintMore
attribute [local go_sem] max2_int min2_int max_two min_two max_three min_three max_four min_four   -- for this text's walks alone
set_option linter.unusedVariables false
set_option linter.unusedSimpArgs false
theorem same_l0 (l : List S55) (hl : l.length ≤ 1000000000) : ∀ m j k, l.length - j = m → m < k → footbridgeref09_Same.l0 k l l (j : Int) = some true := by
 intro m
 induction m with
 | zero =>
  intro j k h1 h2
  obtain ⟨k, rfl⟩ : ∃ k', k = k' + 1 := ⟨k - 1, by omega⟩
  rw [footbridgeref09_Same.l0, if_neg (by omega)]
 | succ m ih =>
  intro j k h1 h2
  obtain ⟨k, rfl⟩ : ∃ k', k = k' + 1 := ⟨k - 1, by omega⟩
  rw [footbridgeref09_Same.l0, if_pos (by omega), if_pos (by omega), if_pos (by omega), if_neg (by simp), w64p j (by omega)]
  exact ih (j + 1) k (by omega) (by omega)
theorem same_f (l : List S55) (k : Nat) (hl : l.length ≤ 1000000000) (hk : l.length < k) : footbridgeref09_Same.f k l l = some true := by
 unfold footbridgeref09_Same.f
 rw [if_pos rfl]
 exact same_l0 l hl l.length 0 k (by omega) hk
def bIn (l : List UInt8) : List Int := l.map fun c => (c.toNat : Int)
theorem bIn_str (l : List UInt8) : strOfNums (bIn l) = ofL l := by
 apply ba_ext
 rw [ByteArray.toList_eq, ofL_toList, strOfNums_data]
 unfold bIn
 rw [List.map_map]
 conv => rhs; rw [← List.map_id l]
 refine List.map_congr_left (fun c _ => ?_)
 show UInt8.ofNat (c.toNat : Int).toNat = c
 rw [Int.toNat_natCast]; simp
theorem bIn_append (l m : List UInt8) : bIn (l ++ m) = bIn l ++ bIn m := by unfold bIn; exact List.map_append
theorem bIn_len (l : List UInt8) : (bIn l).length = l.length := by unfold bIn; exact List.length_map _
theorem bt_at' (s : List UInt8) (i : Nat) (h : i < s.length) : bt (ofL s) (i : Int) = ((s[i]).toNat : Int) := by
 have hb := bt_get (ofL s) i (by rw [ofL_toList]; exact h)
 simp only [ofL_toList] at hb
 exact hb
theorem bt_is (s : List UInt8) (i : Nat) (h : i < s.length) (c : UInt8) (n : Int) (hn : (c.toNat : Int) = n) : (bt (ofL s) (i : Int) = n) ↔ s[i] = c := by
 rw [bt_at' s i h, ← hn]
 exact ⟨fun e => UInt8.toNat_inj.1 (by omega), fun e => by rw [e]⟩
theorem hiddenRef_go (s : List UInt8) (hs : s.length ≤ 50000000) : ∀ (d i : Nat) (acc : List UInt8), d = s.length - i → i ≤ s.length → acc.length ≤ 2 * i → Ev (fun k => footbridgeref08_hidden.l0 k (ofL s) (bIn acc) (i : Int)) (ofL (acc ++ hidL (s.drop i))) := by
 intro d
 induction d with
 | zero =>
  intro i acc hd hi ha
  refine ⟨1, fun k hk => ?_⟩
  obtain ⟨m, rfl⟩ : ∃ m, k = m + 1 := ⟨k - 1, by omega⟩
  show footbridgeref08_hidden.l0 (m + 1) (ofL s) (bIn acc) (i : Int) = _
  simp only [footbridgeref08_hidden.l0]
  rw [ofL_size, if_neg (by omega), List.drop_eq_nil_of_le (by omega), bIn_str]
  congr 2
  simp [hidL]
 | succ d ih =>
  intro i acc hd hi ha
  have hil : i < s.length := by omega
  obtain ⟨K, e⟩ := ih (i + 1) (acc ++ (if s[i] = 37 then [37, 112] else if s[i] = 47 then [37, 115] else [s[i]])) (by omega) (by omega) (by
   rw [List.length_append]
   have : (if s[i] = 37 then [37, 112] else if s[i] = 47 then [37, 115] else [s[i]] : List UInt8).length ≤ 2 := by split <;> (try split) <;> simp
   omega)
  refine ⟨K + 1, fun k hk => ?_⟩
  obtain ⟨m, rfl⟩ : ∃ m, k = m + 1 := ⟨k - 1, by omega⟩
  have e : footbridgeref08_hidden.l0 m (ofL s) _ ((i + 1 : Nat) : Int) = _ := e m (by omega)
  have hfin : acc ++ hidL (s.drop i) = (acc ++ (if s[i] = 37 then [37, 112] else if s[i] = 47 then [37, 115] else [s[i]])) ++ hidL (s.drop (i + 1)) := by
   rw [List.drop_eq_getElem_cons hil, hidL_cons, List.append_assoc]
  rw [hfin, ← e]
  show footbridgeref08_hidden.l0 (m + 1) (ofL s) (bIn acc) (i : Int) = _
  simp only [footbridgeref08_hidden.l0]
  have b1 := bt_is s i hil 37 37 rfl
  have b2 := bt_is s i hil 47 47 rfl
  rw [ofL_size, if_pos (by omega), if_pos (by omega), w_one i (by omega)]
  by_cases h1 : s[i] = 37
  ·rw [if_pos (b1.2 h1), if_pos h1, Option.bind_some, if_pos (by rw [bIn_len]; simp only [List.length_cons, List.length_nil]; omega), bIn_append]; rfl
  ·rw [if_neg (fun e => h1 (b1.1 e)), if_neg h1]
   by_cases h2 : s[i] = 47
   ·rw [if_pos (b2.2 h2), if_pos h2, Option.bind_some, if_pos (by rw [bIn_len]; simp only [List.length_cons, List.length_nil]; omega), bIn_append]; rfl
   ·rw [if_neg (fun e => h2 (b2.1 e)), if_neg h2, if_pos (by rw [bIn_len]; omega), bIn_append, bt_at' s i hil]; rfl
theorem hiddenRef_ev (a : ByteArray) (h : a.size ≤ 50000000) : Ev (fun k => footbridgeref08_hidden.f k a) (ofL (hidL a.toList)) := by
 have h2 := h
 rw [ba_size] at h2
 obtain ⟨K, e⟩ := hiddenRef_go a.toList h2 a.toList.length 0 [] (by omega) (by omega) (by simp)
 rw [ofL_of] at e
 exact ⟨K, e⟩
theorem joinRef_go (l : List ByteArray) (hl : l.length ≤ 1000) (hs : ∀ p ∈ l, p.size ≤ 50000000) : ∀ (d i : Nat) (acc : ByteArray), d = l.length - i → i ≤ l.length → acc.size ≤ 100000000 + i * 100000001 → Ev (fun k => footbridgeref08_Join.l0 k l acc (i : Int)) (acc ++ ofL ((l.drop i).flatMap fun p => 47 :: hidL p.toList)) := by
 intro d
 induction d with
 | zero =>
  intro i acc hd hi ha
  refine ⟨1, fun k hk => ?_⟩
  obtain ⟨m, rfl⟩ : ∃ m, k = m + 1 := ⟨k - 1, by omega⟩
  show footbridgeref08_Join.l0 (m + 1) l acc (i : Int) = _
  simp only [footbridgeref08_Join.l0]
  rw [if_neg (by omega), List.drop_eq_nil_of_le (by omega)]
  congr 1
  apply ba_ext; rw [ba_append, ofL_toList]; simp
 | succ d ih =>
  intro i acc hd hi ha
  have hil : i < l.length := by omega
  have hp := hs l[i] (List.getElem_mem hil)
  have hlen := hidL_len (l[i]).toList
  rw [← ba_size] at hlen
  have h47 : (⟨#[47]⟩ : ByteArray).size = 1 := rfl
  have hi2 : i * 100000001 ≤ 1000 * 100000001 := Nat.mul_le_mul_right _ (by omega)
  obtain ⟨K, e⟩ := ih (i + 1) ((acc ++ (⟨#[47]⟩ : ByteArray)) ++ ofL (hidL (l[i]).toList)) (by omega) (by omega) (by rw [ByteArray.size_append, ByteArray.size_append, ofL_size, h47, Nat.add_mul]; omega)
  obtain ⟨K1, e1⟩ := hiddenRef_ev l[i] hp
  refine ⟨K + K1 + 1, fun k hk => ?_⟩
  obtain ⟨m, rfl⟩ : ∃ m, k = m + 1 := ⟨k - 1, by omega⟩
  have e : footbridgeref08_Join.l0 m l _ ((i + 1 : Nat) : Int) = _ := e m (by omega)
  have e1 : footbridgeref08_hidden.f m l[i] = _ := e1 m (by omega)
  show footbridgeref08_Join.l0 (m + 1) l acc (i : Int) = _
  simp only [footbridgeref08_Join.l0]
  rw [if_pos (by omega), if_pos (by omega), if_pos (by omega), rdOf_get l i hil, e1, Option.bind_some, if_pos (by rw [ByteArray.size_append, ofL_size, h47]; omega), w_one i (by omega), e]
  congr 1
  rw [List.drop_eq_getElem_cons hil, List.flatMap_cons]
  apply ba_ext
  simp only [ba_append, ofL_toList, one_list]
  simp
theorem joinRef_ev (a : ByteArray) (l : List ByteArray) (ha : a.size ≤ 50000000) (hl : l.length ≤ 1000) (hs : ∀ p ∈ l, p.size ≤ 50000000) : Ev (fun k => footbridgeref08_Join.f k a l) (ofL (keyL a.toList (l.map ByteArray.toList))) := by
 have h1 := hidL_len a.toList
 rw [← ba_size] at h1
 obtain ⟨K, e⟩ := joinRef_go l hl hs l.length 0 (ofL (hidL a.toList)) (by omega) (by omega) (by rw [ofL_size]; omega)
 obtain ⟨K1, e1⟩ := hiddenRef_ev a ha
 refine ⟨K + K1, fun k hk => ?_⟩
 have e : footbridgeref08_Join.l0 k l (ofL (hidL a.toList)) 0 = _ := e k (by omega)
 have e1 : footbridgeref08_hidden.f k a = _ := e1 k (by omega)
 show footbridgeref08_Join.f k a l = _
 unfold footbridgeref08_Join.f
 rw [e1, Option.bind_some, e, ofL_append]
 unfold keyL glue
 rw [List.drop_zero, List.map_map, List.flatMap_map]
 rfl
theorem nBy_pow (s : ByteArray) : ∀ i, nBy s i < 256 ^ i := by
 intro i
 induction i with
 | zero => exact Nat.one_pos
 | succ i ih =>
  have h2 := (bt_range s ((i + 1 : Nat) : Int)).2
  have h3 : nBy s (i + 1) = nBy s i * 256 + (bt s ((i + 1 : Nat) : Int)).toNat := rfl
  rw [h3, Nat.pow_succ]
  omega
theorem refNum_go : ∀ (j n : Nat) (acc : ByteArray), n < 256 ^ j → n ≤ 9007199254740992 → acc.size + j ≤ 200 → ∀ k, j < k → footbridgeref01_Num.l0 k (n : Int) acc = some (strOfNums [(((digB j n).length + acc.size : Nat) : Int)] ++ (strOfNums (digB j n) ++ acc), 0) := by
 intro j
 induction j with
 | zero =>
  intro n acc hn hm ha k hk
  obtain ⟨k, rfl⟩ : ∃ m, k = m + 1 := ⟨k - 1, by omega⟩
  have hn0 : n = 0 := by simpa using hn
  subst hn0
  simp only [footbridgeref01_Num.l0]
  rw [if_neg (by omega), Option.bind_some, if_pos ap11_]
  have e : ((acc.size : Int)) % 256 = (((digB 0 0).length + acc.size : Nat) : Int) := by simp only [digB, List.length_nil]; omega
  rw [e]
  refine congrArg some (Prod.ext (ba_ext ?_) rfl)
  simp only [ba_append, strOf_list, digB, List.map_nil, List.nil_append]
 | succ j ih =>
  intro n acc hn hm ha k hk
  obtain ⟨k, rfl⟩ : ∃ m, k = m + 1 := ⟨k - 1, by omega⟩
  simp only [footbridgeref01_Num.l0]
  by_cases h0 : n = 0
  ·subst h0
   rw [if_neg (by omega), Option.bind_some, if_pos ap11_, digB_0]
   have e : ((acc.size : Int)) % 256 = ((([] : List Int).length + acc.size : Nat) : Int) := by simp only [List.length_nil]; omega
   rw [e]
   refine congrArg some (Prod.ext (ba_ext ?_) rfl)
   simp only [ba_append, strOf_list, List.map_nil, List.nil_append]
  ·rw [if_pos (by omega), Option.bind_some, if_pos ap11_]
   have e1 : Int.tmod (n : Int) 256 % 256 = ((n % 256 : Nat) : Int) := by
    rw [Int.tmod_eq_emod_of_nonneg (by omega)]; omega
   have e2 : wrap64 (Int.tdiv (n : Int) 256) = ((n / 256 : Nat) : Int) := by
    rw [Int.tdiv_eq_ediv_of_nonneg (by omega), w64 (by omega) (by omega)]; omega
   rw [e1, e2, ih (n / 256) _ (by rw [Nat.pow_succ] at hn; exact Nat.div_lt_of_lt_mul (by omega)) (by omega) (by rw [ByteArray.size_append, strOfNums_sz]; simp only [List.length_cons, List.length_nil]; omega) k (by omega)]
   have hd : digB (j + 1) n = digB j (n / 256) ++ [((n % 256 : Nat) : Int)] := by show (if n = 0 then [] else _) = _; rw [if_neg h0]
   rw [hd, List.length_append, List.length_singleton, ByteArray.size_append, strOfNums_sz, List.length_singleton, show (digB j (n / 256)).length + (1 + acc.size) = (digB j (n / 256)).length + 1 + acc.size by omega]
   refine congrArg some (Prod.ext (ba_ext ?_) rfl)
   simp only [ba_append, strOf_list, List.map_append, List.map_cons, List.map_nil, List.append_assoc]
theorem refNum_ev (n : Nat) (h : n ≤ 9007199254740992) : Ev (fun k => footbridgeref01_Num.f k (n : Int)) (numB n, 0) := by
 refine ⟨20, fun k hk => ?_⟩
 obtain ⟨k, rfl⟩ : ∃ m, k = m + 1 := ⟨k - 1, by omega⟩
 show footbridgeref01_Num.f (k + 1) (n : Int) = _
 unfold footbridgeref01_Num.f
 rw [if_neg (by omega), show decide ((n : Int) > 9007199254740992) = false from decide_eq_false (by omega)]
 simp only [footbridgeref01_Num.j0]
 rw [if_neg (by simp), refNum_go 8 n _ (by omega) h (by show 0 + 8 ≤ 200; omega) k (by omega)]
 have e : (⟨#[]⟩ : ByteArray).size = 0 := rfl
 rw [e, Nat.add_zero]
 unfold numB
 refine congrArg some (Prod.ext (ba_ext ?_) rfl)
 simp [ba_append, ByteArray.toList_eq]
theorem ref14Key_ev (a : ByteArray) (l : List ByteArray) (ha : a.size ≤ 50000000) (hl : l.length ≤ 1000) (hs : ∀ p ∈ l, p.size ≤ 50000000) : Ev (fun k => footbridgeref14_Key.f k (a :: l)) (keyB a l) := by
 obtain ⟨K, hK⟩ := joinRef_ev a l ha hl hs
 refine ⟨K, fun k hk => ?_⟩
 have e : footbridgeref08_Join.f k a l = _ := hK k hk
 show footbridgeref14_Key.f k (a :: l) = _
 unfold footbridgeref14_Key.f
 rw [if_pos (by simp only [List.length_cons]; omega), if_pos (by simp only [List.length_cons]; omega)]
 show (footbridgeref08_Join.f k a l).bind _ = _
 rw [e, Option.bind_some]
 rfl
theorem ref14Put_ev (l : List S55) (key value : ByteArray) (hs : sortK l) (hl : l.length ≤ 1000000) : Ev (fun k => footbridgeref14_Put.f k l key value) (setK l key value) := by
 refine ⟨1000001, fun k hk => ?_⟩
 show footbridgeref14_Put.f k l key value = _
 unfold footbridgeref14_Put.f
 rw [set_f l key value k hs (by omega) (by omega), Option.bind_some]
theorem ref09Get_ev (l : List S55) (key : ByteArray) (hs : sortK l) (hl : l.length ≤ 1000000) : Ev (fun k => footbridgeref09_Get.f k l key) (getK l key) :=
 ⟨1000001, fun k hk => get_f l key k hs (by omega) (by omega)⟩
theorem refRNum_go (s : ByteArray) (c : Nat) (hc : c ≤ 7) (hs : c < s.size) (hsz : s.size ≤ 1000000000) : ∀ d i k, d = c + 1 - i → 1 ≤ i → i ≤ c + 1 → d < k → footbridgeref01_R_Num.l0 k (c : Int) (nBy s (i - 1) : Int) (i : Int) s 0 = some (if 9007199254740992 < nBy s c then (s, 3, 0) else (s.extract (c + 1) s.size, 0, (nBy s c : Int))) := by
 intro d
 induction d with
 | zero =>
  intro i k hd h1 h2 hk
  obtain ⟨k, rfl⟩ : ∃ m, k = m + 1 := ⟨k - 1, by omega⟩
  obtain rfl : i = c + 1 := by omega
  simp only [footbridgeref01_R_Num.l0]
  rw [if_neg (by omega), Nat.add_sub_cancel]
  by_cases hb : 9007199254740992 < nBy s c
  ·rw [if_pos (by omega), if_pos hb]
  ·have e : wrap64 (1 + (c : Int)) = ((c + 1 : Nat) : Int) := by rw [w64 (by omega) (by omega)]; omega
   rw [if_neg (by omega), if_neg hb, e, if_pos (by omega), if_pos (by omega), Int.toNat_natCast]
 | succ d ih =>
  intro i k hd h1 h2 hk
  obtain ⟨k, rfl⟩ : ∃ m, k = m + 1 := ⟨k - 1, by omega⟩
  obtain ⟨i, rfl⟩ : ∃ m, i = m + 1 := ⟨i - 1, by omega⟩
  have ic : i < c := by omega
  have hp := nBy_pow s i
  have hpow : 256 ^ i ≤ 256 ^ 6 := Nat.pow_le_pow_right (by decide) (by omega)
  have hbt := bt_range s ((i + 1 : Nat) : Int)
  have e3 : nBy s (i + 1) = nBy s i * 256 + (bt s ((i + 1 : Nat) : Int)).toNat := rfl
  have ex : wrap64 ((wrap64 ((nBy s i : Int) * 256)) + (wrap64 (bt s ((i + 1 : Nat) : Int)))) = (nBy s (i + 1) : Int) := by
   rw [w64 (x := (nBy s i : Int) * 256) (by omega) (by omega), w64 (x := bt s ((i + 1 : Nat) : Int)) (by omega) (by omega), w64 (by omega) (by omega), e3]; omega
  simp only [footbridgeref01_R_Num.l0]
  rw [if_pos (by omega), if_pos (by omega), if_pos (by omega), Nat.add_sub_cancel, ex, w_one (i + 1) (by omega)]
  exact ih (i + 1 + 1) k (by omega) (by omega) (by omega) (by omega)
theorem refRNum_ev (s : ByteArray) (e : Int) (hs : s.size ≤ 1000000000) : Ev (fun k => footbridgeref01_R_Num.f k s e) ((rNum s e).2.1, (rNum s e).2.2, (rNum s e).1) := by
 refine ⟨20, fun k hk => ?_⟩
 obtain ⟨k, rfl⟩ : ∃ m, k = m + 1 := ⟨k - 1, by omega⟩
 show footbridgeref01_R_Num.f (k + 1) s e = _
 unfold footbridgeref01_R_Num.f rNum
 by_cases he : e = 0
 ·subst he
  rw [if_pos rfl, if_pos rfl]
  dsimp only
  have hw : numW s = (wire_number.f s).getD (0, 0, 0) := rfl
  unfold wire_number.f at hw
  have hb := bt_range s 0
  have hwb : wrap64 (bt s 0) = bt s 0 := w64 (by omega) (by omega)
  by_cases h0 : s.toList = []
  ·have hz : s.size = 0 := by rw [ba_size, h0]; rfl
   rw [if_pos hz] at hw
   rw [if_pos h0, hw]
   rfl
  have hz : ¬ s.size = 0 := fun e => h0 (List.length_eq_zero_iff.1 (by rw [← ba_size]; exact e))
  rw [if_neg hz] at hw
  rw [if_neg h0, if_pos (by omega), hwb]
  by_cases h7 : bt s 0 > 7
  ·rw [if_pos (.inl h7)] at hw
   rw [if_pos h7, hw]; rfl
  rw [if_neg h7]
  by_cases h1 : 0 < bt s 0 ∧ 1 < s.size ∧ bt s 1 = 0
  ·rw [if_pos (.inr h1)] at hw
   rw [if_pos h1.1, if_pos (by omega), if_pos (by omega), hw]
   simp only [footbridgeref01_R_Num.j0]
   rw [if_pos (by rw [beq_iff_eq]; exact h1.2.2)]
   rfl
  rw [if_neg (fun e => e.elim h7 h1)] at hw
  obtain ⟨c, hc⟩ : ∃ c : Nat, bt s 0 = (c : Int) := ⟨(bt s 0).toNat, by omega⟩
  have hj : (if bt s 0 > 0 then (if (s.size : Int) > 1 then (if 1 < (s.size : Int) then (footbridgeref01_R_Num.j0 (k + 1) (bt s 0) ((bt s 1) == 0) s 0) else none) else (footbridgeref01_R_Num.j0 (k + 1) (bt s 0) false s 0)) else (footbridgeref01_R_Num.j0 (k + 1) (bt s 0) false s 0)) = footbridgeref01_R_Num.j0 (k + 1) (bt s 0) false s 0 := by
   by_cases g1 : bt s 0 > 0
   ·rw [if_pos g1]
    by_cases g2 : (s.size : Int) > 1
    ·rw [if_pos g2, if_pos g2, beq_eq_false_iff_ne.2 (fun e => h1 ⟨g1, by omega, e⟩)]
    ·rw [if_neg g2]
   ·rw [if_neg g1]
  rw [hj]
  simp only [footbridgeref01_R_Num.j0]
  rw [if_neg (by simp), w64 (by omega) (by omega)]
  by_cases h3 : (s.size : Int) ≤ bt s 0
  ·rw [if_pos h3] at hw
   rw [if_pos (by omega), hw]; rfl
  rw [if_neg h3] at hw
  rw [if_neg (by omega)]
  have hl := refRNum_go s c (by omega) (by omega) hs c 1 k (by omega) (by omega) (by omega) (by omega)
  rw [hc]
  rw [hc, Int.toNat_natCast] at hw
  have hl : footbridgeref01_R_Num.l0 k (c : Int) 0 1 s 0 = _ := hl
  rw [hl]
  by_cases h4 : 9007199254740992 < nBy s c
  ·rw [if_pos h4] at hw
   rw [if_pos h4, hw]; rfl
  ·rw [if_neg h4] at hw
   rw [if_neg h4, hw]
   show some (s.extract (c + 1) s.size, (0 : Int), (nBy s c : Int)) = some (s.extract ((c : Int) + 1).toNat s.size, 0, (nBy s c : Int))
   rw [show ((c : Int) + 1).toNat = c + 1 by omega]
 ·rw [if_neg he, if_neg he]
theorem refRDone (s : ByteArray) (e : Int) : footbridgeref01_R_Done.f s e = some (rDone s e) := by
 unfold footbridgeref01_R_Done.f rDone
 by_cases he : e = 0
 ·rw [if_pos he, if_pos he]
  by_cases h : s.toList = []
  ·rw [if_pos h, if_pos h, he]
  ·rw [if_neg h, if_neg h]
 ·rw [if_neg he, if_neg he]
theorem nm_word_is (a : Int) : footbridgeref03_word.f a = some (ofL (nm_headL a)) := nm_head_is a
theorem nm_letter_ref (c : Int) : footbridgeref03_letter.f c = some (decide (nm_letP c)) := by
 unfold footbridgeref03_letter.f
 repeat' split
 all_goals (first | exact congrArg some (decide_eq_true (by unfold nm_letP; omega)).symm | exact congrArg some (decide_eq_false (by unfold nm_letP; omega)).symm | (by_cases h45 : c = 45; (subst h45; rfl); exact congrArg some ((beq_eq_false_iff_ne.2 h45).trans (decide_eq_false (by unfold nm_letP; omega)).symm)))
open Classical in
theorem nm_plain_ref (s : ByteArray) (hs : s.size ≤ 140737488351232) : Ev (fun k => footbridgeref03_Plain.f k s) (decide (nm_plainP s)) := by
 have loop : ∀ (d i : Nat), d = s.size - i → i ≤ s.size → ∀ k, d + 1 ≤ k → footbridgeref03_Plain.l0 k s (i : Int) = some (decide (1 ≤ s.size ∧ s.size ≤ 64 ∧ ∀ j : Nat, i ≤ j → j < s.size → nm_letP (bt s j))) := by
  intro d
  induction d with
  | zero =>
   intro i hd hi k hk
   obtain ⟨k, rfl⟩ : ∃ m, k = m + 1 := ⟨k - 1, by omega⟩
   simp only [footbridgeref03_Plain.l0]
   rw [if_neg (by omega)]
   split
   ·congr 1
    rw [decide_eq_decide]
    exact ⟨fun h => ⟨by omega, by omega, fun j h1 h2 => by omega⟩, fun h => by omega⟩
   ·congr 1
    symm
    rw [decide_eq_false_iff_not]
    rintro ⟨h, _⟩
    omega
  | succ d ih =>
   intro i hd hi k hk
   obtain ⟨k, rfl⟩ : ∃ m, k = m + 1 := ⟨k - 1, by omega⟩
   simp only [footbridgeref03_Plain.l0]
   rw [if_pos (by omega), if_pos (by omega), nm_letter_ref, Option.bind_some]
   by_cases hl : nm_letP (bt s i)
   ·rw [decide_eq_true hl, if_pos rfl, w64 (by omega) (by omega), show ((i : Int) + 1) = ((i + 1 : Nat) : Int) from rfl, ih (i + 1) (by omega) (by omega) _ (by omega)]
    congr 1
    rw [decide_eq_decide]
    constructor
    ·rintro ⟨ha, hb, h⟩
     refine ⟨ha, hb, fun j h1 h2 => ?_⟩
     by_cases he : j = i
     ·rw [he]; exact hl
     ·exact h j (by omega) h2
    ·rintro ⟨ha, hb, h⟩
     exact ⟨ha, hb, fun j h1 h2 => h j (by omega) h2⟩
   ·rw [decide_eq_false hl, if_neg (by simp), decide_eq_false (fun h => hl (h.2.2 i (Nat.le_refl _) (by omega)))]
 refine ⟨s.size + 1, fun k hk => ?_⟩
 have hl := loop s.size 0 (by omega) (by omega) k (by omega)
 unfold footbridgeref03_Plain.f
 rw [show ((0 : Nat) : Int) = 0 from rfl] at hl
 refine hl.trans ?_
 congr 1
 rw [decide_eq_decide]
 unfold nm_plainP
 exact ⟨fun h => ⟨h.1, h.2.1, fun i hi => h.2.2 i (Nat.zero_le _) hi⟩, fun h => ⟨h.1, h.2.1, fun i _ hi => h.2.2 i hi⟩⟩
theorem nm_one_digit (n : Int) (h0 : 0 ≤ n) (h : n < 10) : strOfNums [(wrap64 (48 + n)) % 256] = ofL [UInt8.ofNat (48 + n.toNat)] := by
 unfold strOfNums ofL
 rw [w64 (by omega) (by omega), List.map_cons, List.map_nil, show ((48 + n) % 256).toNat = 48 + n.toNat by omega]
theorem nm_refDigits_ev (n : Nat) (hn : n < 10 ^ 15) : Ev (fun k => footbridgeref03_Digits.f k (n : Int)) (ofL (dec n)) := by
 have loop : ∀ n : Nat, ∀ acc : ByteArray, n + acc.size ≤ 2000000000000000 → Ev (fun k => footbridgeref03_Digits.l0 k (n : Int) acc) (ofL (dec n ++ acc.toList)) := by
  intro n
  induction n using Nat.strongRecOn with
  | _ n ih =>
   intro acc ha
   by_cases h : n < 10
   ·refine ⟨1, fun k hk => ?_⟩
    obtain ⟨k, rfl⟩ : ∃ m, k = m + 1 := ⟨k - 1, by omega⟩
    simp only [footbridgeref03_Digits.l0]
    rw [if_neg (by omega), Option.bind_some, nm_one_digit _ (by omega) (by omega), ofL_size, if_pos (by simp; omega), dec_lt h]
    congr 1
    apply ba_ext
    rw [ba_append, ofL_toList, ofL_toList]
    rfl
   ·have e2 : Int.tmod (n : Int) 10 = ((n % 10 : Nat) : Int) := by
     rw [Int.tmod_eq_emod_of_nonneg (by omega)]; rfl
    have e1 : wrap64 (Int.tdiv (n : Int) 10) = ((n / 10 : Nat) : Int) := by
     rw [Int.tdiv_eq_ediv_of_nonneg (by omega), w64 (by omega) (by omega)]; rfl
    obtain ⟨K, hK⟩ := ih (n / 10) (by omega) (ofL [UInt8.ofNat (48 + n % 10)] ++ acc) (by rw [ByteArray.size_append, ofL_size]; simp; omega)
    refine ⟨K + 1, fun k hk => ?_⟩
    obtain ⟨k, rfl⟩ : ∃ m, k = m + 1 := ⟨k - 1, by omega⟩
    have hK' : footbridgeref03_Digits.l0 k ((n / 10 : Nat) : Int) _ = _ := hK k (by omega)
    simp only [footbridgeref03_Digits.l0]
    rw [if_pos (by omega), e1, e2, Option.bind_some, nm_one_digit _ (by omega) (by omega), ofL_size, if_pos (by simp; omega), Int.toNat_natCast, hK']
    congr 2
    rw [ba_append, ofL_toList, dec_ge h, List.append_assoc]
 have := loop n (⟨#[]⟩ : ByteArray) (by show n + 0 ≤ _; omega)
 have e : (⟨#[]⟩ : ByteArray).toList = [] := by rw [ByteArray.toList_eq]
 rw [e, List.append_nil] at this
 exact this
def nm_mkSpec (a n : Int) : ByteArray × Int := if nm_headL a = [] then (⟨#[]⟩, 1) else if n < 0 then (⟨#[]⟩, 3) else if n > 1099511627776 then (⟨#[]⟩, 3) else (ofL (nm_headL a ++ dec n.toNat), 0)
theorem nm_headL_len (a : Int) : (nm_headL a).length ≤ 11 := by
 unfold nm_headL
 repeat' split
 all_goals simp
theorem nm_makeRef_ev (a n : Int) : Ev (fun k => footbridgeref03_Make.f k a n) (nm_mkSpec a n) := by
 unfold nm_mkSpec
 by_cases h1 : nm_headL a = []
 ·refine ⟨0, fun k _ => ?_⟩
  show footbridgeref03_Make.f k a n = _
  unfold footbridgeref03_Make.f
  rw [nm_word_is, Option.bind_some, ofL_toList, if_pos h1, if_pos h1]
 ·by_cases h2 : n < 0
  ·refine ⟨1, fun k hk => ?_⟩
   obtain ⟨k, rfl⟩ : ∃ m, k = m + 1 := ⟨k - 1, by omega⟩
   show footbridgeref03_Make.f _ a n = _
   unfold footbridgeref03_Make.f
   rw [nm_word_is, Option.bind_some, ofL_toList, if_neg h1, if_neg h1, if_pos h2, if_pos h2]
   simp only [footbridgeref03_Make.j0]
   rw [if_pos trivial]
  ·by_cases h3 : n > 1099511627776
   ·refine ⟨1, fun k hk => ?_⟩
    obtain ⟨k, rfl⟩ : ∃ m, k = m + 1 := ⟨k - 1, by omega⟩
    show footbridgeref03_Make.f _ a n = _
    unfold footbridgeref03_Make.f
    rw [nm_word_is, Option.bind_some, ofL_toList, if_neg h1, if_neg h1, if_neg h2, if_neg h2, if_pos h3, decide_eq_true h3]
    simp only [footbridgeref03_Make.j0]
    rw [if_pos trivial]
   ·obtain ⟨m, rfl⟩ := Int.eq_ofNat_of_zero_le (show 0 ≤ n by omega)
    obtain ⟨K, hK⟩ := nm_refDigits_ev m (by omega)
    refine ⟨K + 1, fun k hk => ?_⟩
    obtain ⟨k, rfl⟩ : ∃ m, k = m + 1 := ⟨k - 1, by omega⟩
    have hK' : footbridgeref03_Digits.f k ((m : Nat) : Int) = _ := hK k (by omega)
    show footbridgeref03_Make.f _ a _ = _
    unfold footbridgeref03_Make.f
    rw [nm_word_is, Option.bind_some, ofL_toList, if_neg h1, if_neg h1, if_neg h2, if_neg h2, if_neg h3, decide_eq_false h3]
    simp only [footbridgeref03_Make.j0]
    rw [if_neg (by simp), nm_word_is, Option.bind_some, hK', Option.bind_some, Int.toNat_natCast, if_pos]
    ·exact congrArg some (Prod.ext (ba_ext (by rw [ba_append, ofL_toList, ofL_toList, ofL_toList])) rfl)
    ·have := nm_headL_len a
     have := dec_len_le 14 m (by omega)
     rw [ofL_size, ofL_size]; omega
theorem nm_numOk_iff (h l : List UInt8) (hp : h <+: l) (hn : l.drop h.length ≠ []) : nm_numOk h l ↔ (∀ c ∈ l.drop h.length, isDig c) ∧ dval (l.drop h.length) ≤ 1099511627776 ∧ h ++ dec (dval (l.drop h.length)) = l := by
 have hl : h ++ l.drop h.length = l := by
  obtain ⟨t, rfl⟩ := hp
  rw [List.drop_left]
 unfold nm_numOk
 constructor
 ·rintro ⟨_, _, h3, h4, h5⟩
  exact ⟨h4, h5, by rw [dec_dval _ h4 hn h3]; exact hl⟩
 ·rintro ⟨h4, h5, h6⟩
  refine ⟨hp, hn, ?_, h4, h5⟩
  have : dec (dval (l.drop h.length)) = l.drop h.length := List.append_cancel_left (h6.trans hl.symm)
  rw [← this]
  exact dec_head _
theorem nm_numberRef_ev (a : Int) (s : ByteArray) (hs : s.size ≤ 140737488351232) : Ev (fun k => footbridgeref03_Number.f k a s) (nm_numSpec (nm_headL a) s.toList) := by
 unfold nm_numSpec
 have hle := nm_headL_len a
 by_cases h1 : nm_headL a = []
 ·refine ⟨0, fun k _ => ?_⟩
  show footbridgeref03_Number.f k a s = _
  unfold footbridgeref03_Number.f
  rw [nm_word_is, Option.bind_some, ofL_toList, if_pos h1, if_pos h1]
 ·rw [if_neg h1]
  by_cases h2 : (s.size : Int) ≤ ((nm_headL a).length : Int)
  ·refine ⟨1, fun k hk => ?_⟩
   obtain ⟨k, rfl⟩ : ∃ m, k = m + 1 := ⟨k - 1, by omega⟩
   show footbridgeref03_Number.f _ a s = _
   unfold footbridgeref03_Number.f
   rw [nm_word_is, Option.bind_some, ofL_toList, if_neg h1, ofL_size, if_pos h2]
   simp only [footbridgeref03_Number.j0]
   rw [if_pos trivial, if_neg]
   rintro ⟨_, hn, _⟩
   apply hn
   rw [List.drop_eq_nil_iff, ← ba_size]; omega
  ·by_cases h3 : (s.size : Int) > ((nm_headL a).length : Int) + 13
   ·refine ⟨1, fun k hk => ?_⟩
    obtain ⟨k, rfl⟩ : ∃ m, k = m + 1 := ⟨k - 1, by omega⟩
    show footbridgeref03_Number.f _ a s = _
    unfold footbridgeref03_Number.f
    rw [nm_word_is, Option.bind_some, ofL_toList, if_neg h1, ofL_size, if_neg h2, w64 (by omega) (by omega), if_pos h3]
    simp only [footbridgeref03_Number.j0]
    rw [if_pos trivial, if_neg]
    rintro ⟨_, hn, hpl, hd, hv⟩
    have hlen : (s.toList.drop (nm_headL a).length).length ≥ 14 := by rw [List.length_drop, ← ba_size]; omega
    obtain ⟨c, t, hct⟩ := List.exists_cons_of_ne_nil hn
    rw [hct] at hpl hd hv hlen
    have hc : isDig c := hd c (by simp)
    unfold isDig at hc
    have hc0 : c.toNat ≠ 48 := by
     intro he
     rcases hpl with hpl | hpl
     ·rw [hpl] at hlen; omega
     ·apply hpl
      simp only [List.head?_cons, Option.some.injEq]
      exact UInt8.toNat_inj.1 he
    have hp := foldl_dstep_pow t (dstep 0 c)
    have hv2 : List.foldl dstep (dstep 0 c) t ≤ 1099511627776 := hv
    have h13 : 10 ^ 13 ≤ 10 ^ t.length := Nat.pow_le_pow_right (by omega) (by simp at hlen; omega)
    have hs1 : 1 ≤ dstep 0 c := by unfold dstep; omega
    have : 1 * 10 ^ 13 ≤ dstep 0 c * 10 ^ t.length := Nat.mul_le_mul hs1 h13
    omega
   ·by_cases hp : nm_headL a <+: s.toList
    ·have hn : s.toList.drop (nm_headL a).length ≠ [] := by
      intro he
      rw [List.drop_eq_nil_iff, ← ba_size] at he; omega
     -- the loop
     have loop : ∀ (d i n : Nat), d = s.size - i → (nm_headL a).length ≤ i → i ≤ s.size → n < 10 ^ (i - (nm_headL a).length) →
       Ev (fun k => footbridgeref03_Number.l0 k a s (n : Int) (i : Int)) (if (∀ c ∈ s.toList.drop i, isDig c) ∧ (s.toList.drop i).foldl dstep n ≤ 1099511627776 ∧ nm_headL a ++ dec ((s.toList.drop i).foldl dstep n) = s.toList then (((s.toList.drop i).foldl dstep n : Nat), 0) else (0, 7)) := by
      intro d
      induction d with
      | zero =>
       intro i n hd hi hi2 hb
       have hnil : s.toList.drop i = [] := by rw [List.drop_eq_nil_iff, ← ba_size]; omega
       rw [hnil]
       simp only [List.foldl_nil, List.not_mem_nil, false_implies, implies_true, true_and]
       have hb15 : n < 10 ^ 15 := Nat.lt_of_lt_of_le hb (Nat.pow_le_pow_right (by omega) (by omega))
       obtain ⟨K, hK⟩ := nm_makeRef_ev a (n : Int)
       refine ⟨K + 1, fun k hk => ?_⟩
       obtain ⟨k, rfl⟩ : ∃ m, k = m + 1 := ⟨k - 1, by omega⟩
       have hK' : footbridgeref03_Make.f k a (n : Int) = _ := hK k (by omega)
       show footbridgeref03_Number.l0 _ a s _ _ = _
       simp only [footbridgeref03_Number.l0]
       rw [if_neg (by omega), hK', Option.bind_some]
       unfold nm_mkSpec
       rw [if_neg h1, if_neg (show ¬ ((n : Int) < 0) by omega)]
       by_cases hm : (n : Int) > 1099511627776
       ·rw [if_pos hm, if_neg (by simp), if_neg (by omega)]
       ·rw [if_neg hm, if_pos rfl, ofL_toList, Int.toNat_natCast]
        by_cases he : nm_headL a ++ dec n = s.toList
        ·rw [if_pos he, if_pos ⟨by omega, he⟩]
        ·rw [if_neg he, if_neg (fun h => he h.2)]
      | succ d ih =>
       intro i n hd hi hi2 hb
       have hl : i < s.toList.length := by rw [← ba_size]; omega
       have hbt := bt_get s i hl
       rw [List.drop_eq_getElem_cons hl]
       generalize s.toList[i] = c at *
       simp only [List.mem_cons, List.foldl_cons, forall_eq_or_imp]
       by_cases d1 : bt s i < 48
       ·refine ⟨1, fun k hk => ?_⟩
        obtain ⟨k, rfl⟩ : ∃ m, k = m + 1 := ⟨k - 1, by omega⟩
        show footbridgeref03_Number.l0 _ a s _ _ = _
        simp only [footbridgeref03_Number.l0]
        rw [if_pos (by omega), if_pos (by omega), if_pos d1, if_neg]
        rintro ⟨⟨hc, _⟩, _⟩
        unfold isDig at hc; omega
       ·by_cases d2 : bt s i > 57
        ·refine ⟨1, fun k hk => ?_⟩
         obtain ⟨k, rfl⟩ : ∃ m, k = m + 1 := ⟨k - 1, by omega⟩
         show footbridgeref03_Number.l0 _ a s _ _ = _
         simp only [footbridgeref03_Number.l0]
         rw [if_pos (by omega), if_pos (by omega), if_neg d1, if_pos d2, if_neg]
         rintro ⟨⟨hc, _⟩, _⟩
         unfold isDig at hc; omega
        ·have hc : isDig c := by unfold isDig; omega
         have hc' := hc
         unfold isDig at hc'
         have hstep : dstep n c < 10 ^ (i + 1 - (nm_headL a).length) := by
          rw [show i + 1 - (nm_headL a).length = (i - (nm_headL a).length) + 1 by omega, Nat.pow_succ]
          unfold dstep; omega
         have hb14 : n < 10 ^ 13 := Nat.lt_of_lt_of_le hb (Nat.pow_le_pow_right (by omega) (by omega))
         obtain ⟨K, hK⟩ := ih (i + 1) (dstep n c) (by omega) (by omega) (by omega) hstep
         refine ⟨K + 1, fun k hk => ?_⟩
         obtain ⟨k, rfl⟩ : ∃ m, k = m + 1 := ⟨k - 1, by omega⟩
         have hK' : footbridgeref03_Number.l0 k a s ((dstep n c : Nat) : Int) ((i + 1 : Nat) : Int) = _ := hK k (by omega)
         show footbridgeref03_Number.l0 _ a s _ _ = _
         simp only [footbridgeref03_Number.l0]
         have e1 : wrap64 (wrap64 ((n : Int) * 10) + (bt s i - 48) % 256) = ((dstep n c : Nat) : Int) := by
          rw [w64 (x := (n : Int) * 10) (by omega) (by omega), w64 (by omega) (by omega)]
          unfold dstep; omega
         rw [if_pos (by omega), if_pos (by omega), if_neg d1, if_neg d2, e1, w64 (by omega) (by omega), show ((i : Int) + 1) = ((i + 1 : Nat) : Int) from rfl, hK']
         simp only [hc, true_and]
     obtain ⟨K, hK⟩ := loop (s.size - (nm_headL a).length) (nm_headL a).length 0 rfl (Nat.le_refl _) (by omega) (Nat.pow_pos (by omega))
     refine ⟨K + 1, fun k hk => ?_⟩
     obtain ⟨k, rfl⟩ : ∃ m, k = m + 1 := ⟨k - 1, by omega⟩
     have hK' : footbridgeref03_Number.l0 k a s (0 : Int) ((nm_headL a).length : Int) = _ := hK k (by omega)
     show footbridgeref03_Number.f _ a s = _
     unfold footbridgeref03_Number.f
     have hex : (s.extract 0 (nm_headL a).length).toList = nm_headL a := by
      rw [ba_extract, List.drop_zero]
      exact (List.prefix_iff_eq_take.1 hp).symm
     rw [nm_word_is, Option.bind_some, ofL_toList, if_neg h1, ofL_size, if_neg h2, w64 (by omega) (by omega), if_neg h3, if_pos (by omega), if_pos (by omega), Int.toNat_natCast, hex, bne_self_eq_false]
     simp only [footbridgeref03_Number.j0]
     rw [if_neg (by simp), ofL_size, hK']
     congr 1
     have hiff := nm_numOk_iff (nm_headL a) s.toList hp hn
     by_cases hok : nm_numOk (nm_headL a) s.toList
     ·rw [if_pos hok]
      have := hiff.1 hok
      rw [if_pos]
      ·rfl
      ·exact this
     ·rw [if_neg hok]
      rw [if_neg]
      exact fun h => hok (hiff.2 h)
    ·refine ⟨1, fun k hk => ?_⟩
     obtain ⟨k, rfl⟩ : ∃ m, k = m + 1 := ⟨k - 1, by omega⟩
     show footbridgeref03_Number.f _ a s = _
     unfold footbridgeref03_Number.f
     have hex : ((s.extract 0 (nm_headL a).length).toList != nm_headL a) = true := by
      rw [bne_iff_ne, ba_extract, List.drop_zero]
      intro he
      exact hp (List.prefix_iff_eq_take.2 he.symm)
     rw [nm_word_is, Option.bind_some, ofL_toList, if_neg h1, ofL_size, if_neg h2, w64 (by omega) (by omega), if_neg h3, if_pos (by omega), if_pos (by omega), Int.toNat_natCast, hex]
     simp only [footbridgeref03_Number.j0]
     rw [if_pos trivial, if_neg (fun h : nm_numOk _ _ => hp h.1)]
open Classical in
theorem nm_checkRef_ev (a : Int) (s : ByteArray) (hs : s.size ≤ 140737488351232) : Ev (fun k => footbridgeref03_Check.f k a s) (nm_checkSpec a s) := by
 obtain ⟨K, hK⟩ := nm_plain_ref s hs
 obtain ⟨K2, hK2⟩ := nm_numberRef_ev a s hs
 refine ⟨max K K2 + 1, fun k hk => ?_⟩
 obtain ⟨k, rfl⟩ : ∃ m, k = m + 1 := ⟨k - 1, by omega⟩
 have hp : footbridgeref03_Plain.f k s = _ := hK k (by omega)
 have hp2 : footbridgeref03_Number.f k a s = _ := hK2 k (by omega)
 show footbridgeref03_Check.f _ a s = _
 unfold footbridgeref03_Check.f nm_checkSpec
 by_cases h1 : a < 0
 ·rw [if_pos h1, if_pos h1]
  simp only [footbridgeref03_Check.j0]
  rw [if_pos trivial]
 ·rw [if_neg h1, if_neg h1]
  simp only [footbridgeref03_Check.j0]
  by_cases h2 : a > 6
  ·rw [if_pos h2, decide_eq_true h2, if_pos rfl]
  ·rw [if_neg h2, decide_eq_false h2, if_neg (by simp), nm_word_is, Option.bind_some, ofL_toList]
   by_cases h3 : nm_headL a = []
   ·rw [if_pos h3, if_pos h3, hp, Option.bind_some]
    by_cases h4 : nm_plainP s
    ·rw [decide_eq_true h4, if_pos rfl, if_pos h4]
    ·rw [decide_eq_false h4, if_neg (by simp), if_neg h4]
   ·rw [if_neg h3, if_neg h3, hp2, Option.bind_some]
theorem ref14Num_ev (n : Int) : Ev (fun k => footbridgeref14_Num.f k n) (bkNum n) := by
 have key : ∃ e, Ev (fun k => footbridgeref01_Num.f k n) (bkNum n, e) := by
  unfold bkNum
  by_cases h : n < 0 ∨ 9007199254740992 < n
  ·rw [if_pos h]
   refine ⟨3, 1, fun k hk => ?_⟩
   obtain ⟨k, rfl⟩ : ∃ m, k = m + 1 := ⟨k - 1, by omega⟩
   show footbridgeref01_Num.f (k + 1) n = _
   unfold footbridgeref01_Num.f
   simp only [footbridgeref01_Num.j0]
   by_cases h0 : n < 0
   ·rw [if_pos h0, if_pos trivial]
   ·rw [if_neg h0, if_pos (decide_eq_true (by omega))]
  ·rw [if_neg h]
   obtain ⟨m, rfl⟩ : ∃ m : Nat, n = (m : Int) := ⟨n.toNat, by omega⟩
   rw [Int.toNat_natCast]
   exact ⟨0, refNum_ev m (by omega)⟩
 obtain ⟨e, he⟩ := key
 simp only [footbridgeref14_Num.f]
 exact Ev.bind he (Ev.now _)
theorem getK_2 (cur : List S55) (key : ByteArray) : (getK cur key).2 = hasK cur key := by unfold getK; cases hasK cur key <;> rfl
theorem ref49Two_ev (cur : List S55) (word name : ByteArray) (h : KV 1000 cur) (hw : word.size ≤ 50000000) (hn : name.size ≤ 50000000) : Ev (fun k => footbridgeref49_two.f k cur word name) (quTwo cur (keyB word [name])) := by
 have hv := h.get (keyB word [name])
 have h1 := rNum_sz (getK cur (keyB word [name])).1 0
 simp only [footbridgeref49_two.f]
 refine Ev.bind (ref14Key_ev word [name] hw (by show 1 ≤ 1000; omega) (fun p hp => by obtain rfl := List.mem_singleton.1 hp; exact hn)) ?_
 refine Ev.bind (ref09Get_ev cur _ h.so (Nat.le_trans h.len (by omega))) ?_
 refine Ev.bind (refRNum_ev _ 0 (by omega)) ?_
 refine Ev.bind (refRNum_ev _ _ (by dsimp only; omega)) ?_
 dsimp only
 rw [getK_2]
 unfold quTwo two2
 cases hb : hasK cur (keyB word [name])
 ·simp only [Bool.false_eq_true, if_false, Bool.false_and]; exact Ev.now _
 ·simp only [if_true, refRDone, Option.bind_some, Bool.true_and]; exact Ev.now _
theorem ref49Put_ev (cur : List S55) (word name : ByteArray) (a b : Int) (h : KV 1000 cur) (hw : word.size ≤ 50000000) (hn : name.size ≤ 50000000) (hk : (keyB word [name]).size ≤ 65536) : Ev (fun k => footbridgeref49_put.f k cur word name a b) (setC cur (keyB word [name]) (bkNum a ++ bkNum b)) := by
 have hz := bk2_sz a b
 have ha := bkNum_sz a
 have hb := bkNum_sz b
 simp only [footbridgeref49_put.f]
 refine Ev.bind (ref14Key_ev word [name] hw (by show 1 ≤ 1000; omega) (fun p hp => by obtain rfl := List.mem_singleton.1 hp; exact hn)) ?_
 refine Ev.bind (ref14Num_ev a) ?_
 refine Ev.bind (ref14Num_ev b) ?_
 simp only [if_pos (show (bkNum a).size + (bkNum b).size ≤ 9223372036854775807 by omega)]
 have e : setC cur (keyB word [name]) (bkNum a ++ bkNum b) = setK cur (keyB word [name]) (bkNum a ++ bkNum b) := by unfold setC; exact if_neg (by omega)
 rw [e]
 exact Ev.bind (ref14Put_ev cur _ _ h.so (Nat.le_trans h.len (by omega))) (Ev.now _)
theorem qu_swap {cur : List S55} (hs : sortK cur) (name V : ByteArray) : delK (setC cur (quK name) V) (spK name) = setC (delK cur (spK name)) (quK name) V := by
 refine sortK_get (sortK_del (sortK_setC hs _ _) _) (sortK_setC (sortK_del hs _) _ _) (fun k => ?_)
 rw [getK_delK (sortK_setC hs _ _), getK_setC hs, getK_setC (sortK_del hs _), getK_delK hs]
 by_cases a : k = spK name
 ·rw [if_pos a, if_pos a, if_neg (fun e => qu_ne name name (e.1.symm.trans a))]
 ·rw [if_neg a, if_neg a]
theorem Ev.step1 {α : Type} {g f : Nat → Option α} {r : α} (h : ∀ k, g (k + 1) = f k) (k : Ev f r) : Ev g r := by
 obtain ⟨K, hK⟩ := k
 refine ⟨K + 1, fun k hk => ?_⟩
 obtain ⟨m, rfl⟩ : ∃ m, k = m + 1 := ⟨k - 1, by omega⟩
 rw [h]
 exact hK m (by omega)
theorem ref49Set_ev (cur : List S55) (name : ByteArray) (n long : Int) (h : KV 999 cur) (hn : name.size ≤ 1000) : Ev (fun k => footbridgeref49_Set.f k cur name n long) (quSet cur name n long, quSetE name n long) := by
 have h0 := h.mono (show 999 ≤ 1000 by omega)
 have hql := quK_len name
 simp only [footbridgeref49_Set.f]
 refine Ev.bind (nm_checkRef_ev 6 name (by omega)) ?_
 unfold quSet quSetE
 by_cases hu : nm_checkSpec 6 name = 0
 ·simp only [hu, if_true]
  have hj : ∀ b : Bool, (b = true ↔ (n < 0 ∨ n > 1099511627776 ∨ long < 1 ∨ long > 1099511627776)) → Ev (fun k => footbridgeref49_Set.j0 k cur name n long b) (if (if n < 0 ∨ n > 1099511627776 ∨ long < 1 ∨ long > 1099511627776 then (3 : Int) else 0) = 0 then setC (delK cur (spK name)) (quK name) (bkNum n ++ bkNum long) else cur, (if n < 0 ∨ n > 1099511627776 ∨ long < 1 ∨ long > 1099511627776 then (3 : Int) else 0)) := by
   intro b hb
   refine Ev.step1 (fun k => by rw [footbridgeref49_Set.j0]) ?_
   by_cases hr : n < 0 ∨ n > 1099511627776 ∨ long < 1 ∨ long > 1099511627776
   ·have e3 : ¬ (3 : Int) = 0 := by decide
    simp only [hb.2 hr, if_pos hr, if_true, if_neg e3]; exact Ev.now _
   ·have hb2 : b = false := Bool.eq_false_iff.2 (fun e => hr (hb.1 e))
    simp only [hb2, if_neg hr, if_false, if_true, Bool.false_eq_true]
    refine Ev.bind (ref49Put_ev cur (⟨#[113, 117, 111, 116, 97]⟩ : ByteArray) name n long h0 (by decide) (by omega) (by show (quK name).size ≤ 65536; omega)) ?_
    refine Ev.bind (ref14Key_ev (⟨#[115, 112, 101, 110, 116]⟩ : ByteArray) [name] (by decide) (by show 1 ≤ 1000; omega) (fun p hp => by obtain rfl := List.mem_singleton.1 hp; omega)) ?_
    have hp := h.put (quK name) (bkNum n ++ bkNum long)
    rw [show keyB (⟨#[113, 117, 111, 116, 97]⟩ : ByteArray) [name] = quK name from rfl, show keyB (⟨#[115, 112, 101, 110, 116]⟩ : ByteArray) [name] = spK name from rfl]
    have hdel : Ev (fun k => footbridgeref09_Del.f k (setC cur (quK name) (bkNum n ++ bkNum long)) (spK name)) (delK (setC cur (quK name) (bkNum n ++ bkNum long)) (spK name), hasK (setC cur (quK name) (bkNum n ++ bkNum long)) (spK name)) := ⟨1000001, fun k hk => del_f _ _ k hp.so (Nat.le_trans hp.len (by omega)) (by have := hp.len; omega)⟩
    refine Ev.bind hdel ?_
    dsimp only
    rw [qu_swap h.so]
    exact Ev.now _
  by_cases h1 : n < 0
  ·simp only [if_pos h1]; exact hj true ⟨fun _ => .inl h1, fun _ => rfl⟩
  ·simp only [if_neg h1]
   by_cases h2 : n > 1099511627776
   ·simp only [if_pos h2]; exact hj true ⟨fun _ => .inr (.inl h2), fun _ => rfl⟩
   ·simp only [if_neg h2]
    by_cases h3 : long < 1
    ·simp only [if_pos h3]; exact hj true ⟨fun _ => .inr (.inr (.inl h3)), fun _ => rfl⟩
    ·simp only [if_neg h3]; exact hj _ ⟨fun e => .inr (.inr (.inr (of_decide_eq_true e))), fun e => decide_eq_true (by omega)⟩
 ·simp only [if_neg hu]
  exact Ev.now _
theorem qu_sb (cur : List S55) (key : ByteArray) : 0 ≤ (quTwo cur key).2.1 ∧ (quTwo cur key).2.1 ≤ 9007199254740992 := (two2_bd (getK cur key).1).2
theorem ref49Left_ev (cur : List S55) (name : ByteArray) (time : Int) (h : KV 1000 cur) (hn : name.size ≤ 1000) (hi : QInv cur) : Ev (fun k => footbridgeref49_Left.f k cur name time) (quLeft cur name time) := by
 simp only [footbridgeref49_Left.f]
 refine Ev.bind (ref49Two_ev cur (⟨#[113, 117, 111, 116, 97]⟩ : ByteArray) name h (by decide) (by omega)) ?_
 have hI := hi name
 unfold quLeft
 show Ev _ (if (quTwo cur (quK name)).2.2 = true then _ else _)
 rw [show keyB (⟨#[113, 117, 111, 116, 97]⟩ : ByteArray) [name] = quK name from rfl]
 obtain ⟨qa, qb, qo, hq⟩ : ∃ a b c, quTwo cur (quK name) = (a, b, c) := ⟨_, _, _, rfl⟩
 rw [hq] at hI ⊢
 dsimp only at hI ⊢
 cases qo with
 | false =>
  simp only [Bool.false_eq_true, if_false]
  exact Ev.step1 (fun k => by rw [footbridgeref49_Left.j0]) (by simp only [if_true]; exact Ev.now _)
 | true =>
  simp only [if_true]
  have hI := hI rfl
  have hj : ∀ b : Bool, (b = true ↔ (time < 0 ∨ time > 1099511627776)) → Ev (fun k => footbridgeref49_Left.j0 k cur name time qa qb b) (if time < 0 ∨ time > 1099511627776 then 0 else quRest cur name qa qb time) := by
   intro b hb
   refine Ev.step1 (fun k => by rw [footbridgeref49_Left.j0]) ?_
   by_cases hr : time < 0 ∨ time > 1099511627776
   ·simp only [hb.2 hr, if_pos hr, if_true]; exact Ev.now _
   ·have hb2 : b = false := Bool.eq_false_iff.2 (fun e => hr (hb.1 e))
    simp only [hb2, if_neg hr, if_false, Bool.false_eq_true]
    refine Ev.bind (ref49Two_ev cur (⟨#[115, 112, 101, 110, 116]⟩ : ByteArray) name h (by decide) (by omega)) ?_
    have hb3 := qu_sb cur (spK name)
    have hd := tdiv_bd time qb (by omega) (by omega) hI.2.2.1
    rw [show keyB (⟨#[115, 112, 101, 110, 116]⟩ : ByteArray) [name] = spK name from rfl]
    unfold quRest
    simp only [if_neg (show ¬ qb = 0 by omega)]
    rw [w64 hd.1 hd.2, w64 (x := qa - (quTwo cur (spK name)).2.1) (by omega) (by omega)]
    cases hso : (quTwo cur (spK name)).2.2 with
    | false => simp only [Bool.false_eq_true, if_false, false_and]; exact Ev.now _
    | true =>
     simp only [if_true, true_and]
     by_cases hw : (quTwo cur (spK name)).1 = time.tdiv qb
     ·simp only [if_pos hw]; exact Ev.now _
     ·simp only [if_neg hw]; exact Ev.now _
  by_cases h1 : time < 0
  ·simp only [if_pos h1]; exact hj true ⟨fun _ => .inl h1, fun _ => rfl⟩
  ·simp only [if_neg h1]; exact hj _ ⟨fun e => .inr (of_decide_eq_true e), fun e => decide_eq_true (by omega)⟩
theorem ref49Spend_ev (cur : List S55) (name : ByteArray) (time n : Int) (h : KV 999 cur) (hn : name.size ≤ 1000) (hi : QInv cur) : Ev (fun k => footbridgeref49_Spend.f k cur name time n) (quSpend cur name time n, quSpendE cur name time n) := by
 have h0 := h.mono (show 999 ≤ 1000 by omega)
 have hsl := spK_len name
 simp only [footbridgeref49_Spend.f]
 refine Ev.bind (ref49Two_ev cur (⟨#[113, 117, 111, 116, 97]⟩ : ByteArray) name h0 (by decide) (by omega)) ?_
 have hI := hi name
 have hL := ref49Left_ev cur name time h0 hn hi
 unfold quLeft at hL
 rw [show keyB (⟨#[113, 117, 111, 116, 97]⟩ : ByteArray) [name] = quK name from rfl]
 unfold quSpend quSpendE
 obtain ⟨qa, qb, qo, hq⟩ : ∃ a b c, quTwo cur (quK name) = (a, b, c) := ⟨_, _, _, rfl⟩
 rw [hq] at hI hL ⊢
 dsimp only at hI hL ⊢
 cases qo with
 | false => simp only [Bool.false_eq_true, if_false]; exact Ev.now _
 | true =>
  simp only [if_true] at hL ⊢
  have hI := hI rfl
  have hj : ∀ b : Bool, (b = true ↔ (time < 0 ∨ time > 1099511627776 ∨ n < 1 ∨ n > 1099511627776)) → Ev (fun k => footbridgeref49_Spend.j0 k cur name time n qa qb b) (if (if time < 0 ∨ time > 1099511627776 ∨ n < 1 ∨ n > 1099511627776 then (3 : Int) else if (quTwo cur (spK name)).2.2 = true ∧ (quTwo cur (spK name)).1 > time.tdiv qb then 14 else if n > quRest cur name qa qb time then 21 else 0) = 0 then setC cur (spK name) (bkNum (time.tdiv qb) ++ bkNum (qa - quRest cur name qa qb time + n)) else cur, if time < 0 ∨ time > 1099511627776 ∨ n < 1 ∨ n > 1099511627776 then (3 : Int) else if (quTwo cur (spK name)).2.2 = true ∧ (quTwo cur (spK name)).1 > time.tdiv qb then 14 else if n > quRest cur name qa qb time then 21 else 0) := by
   intro b hb
   refine Ev.step1 (fun k => by rw [footbridgeref49_Spend.j0]) ?_
   by_cases hr : time < 0 ∨ time > 1099511627776 ∨ n < 1 ∨ n > 1099511627776
   ·have e3 : ¬ (3 : Int) = 0 := by decide
    simp only [hb.2 hr, if_pos hr, if_true, if_neg e3]; exact Ev.now _
   ·have hb2 : b = false := Bool.eq_false_iff.2 (fun e => hr (hb.1 e))
    simp only [hb2, if_neg hr, if_false, Bool.false_eq_true]
    rw [if_neg (show ¬ (time < 0 ∨ time > 1099511627776) by omega)] at hL
    refine Ev.bind (ref49Two_ev cur (⟨#[115, 112, 101, 110, 116]⟩ : ByteArray) name h0 (by decide) (by omega)) ?_
    refine Ev.bind hL ?_
    have hb3 := qu_sb cur (spK name)
    have hd := tdiv_bd time qb (by omega) (by omega) hI.2.2.1
    simp only [if_neg (show ¬ qb = 0 by omega)]
    rw [show keyB (⟨#[115, 112, 101, 110, 116]⟩ : ByteArray) [name] = spK name from rfl, w64 hd.1 hd.2]
    have hrb : -9007199254740992 ≤ quRest cur name qa qb time ∧ quRest cur name qa qb time ≤ 1099511627776 := by unfold quRest; split <;> omega
    generalize quRest cur name qa qb time = rest at hrb
    have hj1 : ∀ b : Bool, (b = true ↔ ((quTwo cur (spK name)).2.2 = true ∧ (quTwo cur (spK name)).1 > time.tdiv qb)) → Ev (fun k => footbridgeref49_Spend.j1 k cur name time n qa qb rest b) (if (if (quTwo cur (spK name)).2.2 = true ∧ (quTwo cur (spK name)).1 > time.tdiv qb then (14 : Int) else if n > rest then 21 else 0) = 0 then setC cur (spK name) (bkNum (time.tdiv qb) ++ bkNum (qa - rest + n)) else cur, if (quTwo cur (spK name)).2.2 = true ∧ (quTwo cur (spK name)).1 > time.tdiv qb then (14 : Int) else if n > rest then 21 else 0) := by
     intro b hb
     refine Ev.step1 (fun k => by rw [footbridgeref49_Spend.j1]) ?_
     by_cases hg : (quTwo cur (spK name)).2.2 = true ∧ (quTwo cur (spK name)).1 > time.tdiv qb
     ·have e3 : ¬ (14 : Int) = 0 := by decide
      simp only [hb.2 hg, if_pos hg, if_true, if_neg e3]; exact Ev.now _
     ·have hb2 : b = false := Bool.eq_false_iff.2 (fun e => hg (hb.1 e))
      simp only [hb2, if_neg hg, if_false, Bool.false_eq_true]
      by_cases hlt : n > rest
      ·have e3 : ¬ (21 : Int) = 0 := by decide
       simp only [if_pos hlt, if_neg e3]; exact Ev.now _
      ·simp only [if_neg hlt, if_true]
       simp only [if_neg (show ¬ qb = 0 by omega)]
       rw [w64 hd.1 hd.2, w64 (x := qa - rest) (by omega) (by omega), w64 (x := qa - rest + n) (by omega) (by omega)]
       exact Ev.bind (ref49Put_ev cur (⟨#[115, 112, 101, 110, 116]⟩ : ByteArray) name (time.tdiv qb) (qa - rest + n) h0 (by decide) (by omega) (by show (spK name).size ≤ 65536; omega)) (Ev.now _)
    cases hso : (quTwo cur (spK name)).2.2 with
    | false =>
     rw [hso] at hj1
     simp only [Bool.false_eq_true, if_false]
     exact hj1 false (by simp)
    | true =>
     rw [hso] at hj1
     have hj2 := hj1 _ ⟨fun e => ⟨rfl, of_decide_eq_true e⟩, fun e => decide_eq_true e.2⟩
     simp only [if_true] at hj2 ⊢
     exact hj2
  by_cases h1 : time < 0
  ·simp only [if_pos h1]; exact hj true ⟨fun _ => .inl h1, fun _ => rfl⟩
  ·simp only [if_neg h1]
   by_cases h2 : time > 1099511627776
   ·simp only [if_pos h2]; exact hj true ⟨fun _ => .inr (.inl h2), fun _ => rfl⟩
   ·simp only [if_neg h2]
    by_cases h3 : n < 1
    ·simp only [if_pos h3]; exact hj true ⟨fun _ => .inr (.inr (.inl h3)), fun _ => rfl⟩
    ·simp only [if_neg h3]; exact hj _ ⟨fun e => .inr (.inr (.inr (of_decide_eq_true e))), fun e => decide_eq_true (by omega)⟩
noncomputable def quDo (cur : List S55) (b : Bool) (name : ByteArray) (x y : Int) : List S55 := if b = true then quSet cur name x y else quSpend cur name x y
noncomputable def quDoE (cur : List S55) (b : Bool) (name : ByteArray) (x y : Int) : Int := if b = true then quSetE name x y else quSpendE cur name x y
theorem quDo_KV {m : Nat} {cur : List S55} (h : KV m cur) (b : Bool) (name : ByteArray) (x y : Int) : KV (m + 1) (quDo cur b name x y) := by
 unfold quDo
 split
 ·exact quSet_KV h _ _ _
 ·exact quSpend_KV h _ _ _
theorem QInv.did {cur : List S55} (h : QInv cur) (hs : sortK cur) {name : ByteArray} (hn : name.size ≤ 1000) (b : Bool) (x y : Int) : QInv (quDo cur b name x y) := by
 unfold quDo
 split
 ·exact h.set hs hn _ _
 ·exact h.spend hs hn _ _
theorem qudo_calls (n0 g : Nat) (ok : Nat → Prop) (cur cur' : List S55) (A : Option Addr) (c : Nat) (b : Bool) (name : ByteArray) (x y E : Int) {w : World} (hm : JM n0 ok g ⟨cur, []⟩ w) (hlt : ∀ k, ok k → k < w.heap.size) (hn0 : n0 ≤ w.heap.size) (hv : Kd.V k55 55 w 0 (fun k => ¬ ok k) (.slice A cur.length c) cur) (hk : KV 900 cur) (hi : QInv cur) (hn : name.size ≤ 300) (hE : quDoE cur b name x y = E) (hcur : quDo cur b name x y = cur') :
  Calls Tryz.prog 6 #[.pointer (some ⟨g, 0, none⟩), .slice A cur.length c, .agg #[.string name, .bool b, .int .i64 x, .int .i64 y]] w fun e w' => ∃ v w1, e = .returned (.tuple #[v, .int .i64 E, .int .i64 E]) ∧ Below w.heap.size w w1 ∧ JS n0 ok w1 g cur' w' ∧ Kd.V k55 55 w1 0 (fun k => ¬ ok k) v cur' := by
 have hk9 := hk.mono (show 900 ≤ 999 by omega)
 have hk6 := hk.mono (show 900 ≤ 1000000 by omega)
 have HM := As_ hm
 have HV0 := As_ hv
 have HB := As_ (Below.refl w.heap.size w)
 have AI := As_ hi
 unfold quDoE at hE
 unfold quDo at hcur
 clear hm hv hk hi
 go_enter Tryz.func6, Tryz.ntmps6
 cases b with
 | false =>
  rw [if_neg (by simp)] at hE hcur
  obtain ⟨K0, hK0⟩ := ref49Spend_ev cur name x y hk9 (by omega) AI.out
  rw [hE, hcur] at hK0
  have HR := As_ (hK0 K0 (Nat.le_refl _))
  clear hK0
  go_wp2_with (first | ((with_reducible refine gate_dst (N := 5) rfl ?_); refine bxE (N := 5) (cs := #[.string name, .bool false, .int .i64 x, .int .i64 y]) (t := 29) ?_; intro gbd hg wd hbox hb; have GEd := As_ ((by rw [hg]; exact (below_size (blwG)) : w.heap.size ≤ gbd)); replace HB := As_ (below_step (blwG) hb); have BKd := As_ hbox; clear hb hbox hg; obtain ⟨zd_0, fd_0, zd_1, fd_1, zd_2, fd_2, zd_3, fd_3⟩ := cellsN4 BKd.out; obtain ⟨zd_0, fd_0, zd_1, fd_1, zd_2, fd_2, zd_3, fd_3⟩ := cellsN4 BKd.out; have hwd := HB.out.size))
  refine (footbridgeref49_Spend.calls K0 (fun k => ¬ ok k) A c cur name x y _ _ _ (Kd.V_below HV0.out (blwG)) HR.out).mono ?_
  rintro e w1 ⟨v3, rfl, hv3, hb⟩
  replace HB := As_ (below_step (blwG) hb)
  replace BKd := As_ (blk_below (g := gbd) (o := .cells #[.string name, .bool false, .int .i64 x, .int .i64 y] 29 (0, 0)) (bkG_d) hb)
  clear hb
  obtain ⟨zd_0, fd_0, zd_1, fd_1, zd_2, fd_2, zd_3, fd_3⟩ := cellsN4 BKd.out
  have HV1 := As_ (show Kd.V k55 55 w1 0 (fun k => ¬ ok k) v3 cur' from Kd.V_lower (Kd.V_mono hv3 (fun k hk => hk.elim id (fun h1 h2 => by have := hlt k h2; omega))) (Nat.zero_le _))
  have HB1 := As_ HB.out
  have HJ := As_ (JS.start (HM.out.below HB.out) (Nat.le_trans hn0 HB.out.size))
  clear hv3 HM HV0
  go_wp2_with fail
  refine (qu_Spend name x y E cur' HJ.out hk6 (by omega) AI.out hE hcur).mono ?_
  rintro e w2 ⟨rfl, hj, hk2⟩
  have HJ2 := As_ hj
  clear hj hk2 HJ
  go_wp2
  go_ret3
  exact ⟨_, w1, rfl, HB1.out, HJ2.out, HV1.out⟩
 | true =>
  rw [if_pos rfl] at hE hcur
  obtain ⟨K0, hK0⟩ := ref49Set_ev cur name x y hk9 (by omega)
  rw [hE, hcur] at hK0
  have HR := As_ (hK0 K0 (Nat.le_refl _))
  clear hK0
  go_wp2_with (first | ((with_reducible refine gate_dst (N := 5) rfl ?_); refine bxE (N := 5) (cs := #[.string name, .bool true, .int .i64 x, .int .i64 y]) (t := 29) ?_; intro gbd hg wd hbox hb; have GEd := As_ ((by rw [hg]; exact (below_size (blwG)) : w.heap.size ≤ gbd)); replace HB := As_ (below_step (blwG) hb); have BKd := As_ hbox; clear hb hbox hg; obtain ⟨zd_0, fd_0, zd_1, fd_1, zd_2, fd_2, zd_3, fd_3⟩ := cellsN4 BKd.out; obtain ⟨zd_0, fd_0, zd_1, fd_1, zd_2, fd_2, zd_3, fd_3⟩ := cellsN4 BKd.out; have hwd := HB.out.size))
  refine (footbridgeref49_Set.calls K0 (fun k => ¬ ok k) A c cur name x y _ _ _ (Kd.V_below HV0.out (blwG)) HR.out).mono ?_
  rintro e w1 ⟨v3, rfl, hv3, hb⟩
  replace HB := As_ (below_step (blwG) hb)
  replace BKd := As_ (blk_below (g := gbd) (o := .cells #[.string name, .bool true, .int .i64 x, .int .i64 y] 29 (0, 0)) (bkG_d) hb)
  clear hb
  obtain ⟨zd_0, fd_0, zd_1, fd_1, zd_2, fd_2, zd_3, fd_3⟩ := cellsN4 BKd.out
  have HV1 := As_ (show Kd.V k55 55 w1 0 (fun k => ¬ ok k) v3 cur' from Kd.V_lower (Kd.V_mono hv3 (fun k hk => hk.elim id (fun h1 h2 => by have := hlt k h2; omega))) (Nat.zero_le _))
  have HB1 := As_ HB.out
  have HJ := As_ (JS.start (HM.out.below HB.out) (Nat.le_trans hn0 HB.out.size))
  clear hv3 HM HV0
  go_wp2_with fail
  refine (qu_Set name x y E cur' HJ.out hk6 (by omega) hE hcur).mono ?_
  rintro e w2 ⟨rfl, hj, hk2⟩
  have HJ2 := As_ hj
  clear hj hk2 HJ
  go_wp2
  go_ret3
  exact ⟨_, w1, rfl, HB1.out, HJ2.out, HV1.out⟩
def footbridgelaw49_QuotaPlays.f (_l0 : List S29) (_time : Int) : Option Bool := some true
theorem footbridgelaw49_QuotaPlays.calls (A0 : Option Addr) (c0 : Nat) (l0 : List S29) (a1 : Int) (r : Bool) (w : World) (hr0 : Kd.C k29 w A0 l0.length l0) (hc0 : l0.length ≤ c0) (h : footbridgelaw49_QuotaPlays.f l0 a1 = some r) :
  Calls Tryz.prog 3 #[.slice A0 l0.length c0, .int .i64 a1] w fun e w' => e = .returned (.bool r) ∧ Below w.heap.size w w' := by
 obtain rfl : true = r := Option.some.inj h
 clear h
 by_cases hbig : 30 < l0.length
 ·go_enter Tryz.func3, Tryz.ntmps3
  go_wp2_with fail
  refine (quaw_calls w).mono ?_
  rintro e w' ⟨rfl, hb⟩
  go_wp2
  go_ret
  exact ⟨rfl, hb⟩
 have HR0 := As_ hr0
 clear hr0
 go_enter Tryz.func3, Tryz.ntmps3
 go_wp2_with fail
 refine (j_new_nil w).mono ?_
 rintro e w1 ⟨g, rfl, hm, hb⟩
 have J0 : Aside0 (J1 w.heap.size g [] (.slice none 0 0) [] w1) := As_ (J1.of hm (Kd.V_nil _ _ _ _ _))
 have HB0 := As_ hb
 have hn0 := hb.size
 clear hm hb
 go_wp2_with fail
 go_loopg [6, 7] l0.length (fun gg s6 s7 wx => ∃ (j : Nat) (cur : List S55), s7 = .int .i64 j ∧ j + gg = l0.length ∧ KV j cur ∧ w.heap.size ≤ wx.heap.size ∧ Aside0 (QInv cur) ∧ Aside0 (J1 w.heap.size g cur s6 cur wx) ∧ Aside0 (Below w.heap.size w wx))
 case atStart => exact ⟨0, [], rfl, by omega, KV.nil _, hn0, ⟨QInv.nil⟩, J0, HB0⟩
 case round =>
  clear J0 HB0 hn0
  obtain ⟨j, cur, rfl, hj, hkv, hnr, AIr, JLr, HBr⟩ := hrel
  by_cases hlt : j < l0.length
  ·have hx0 : (0 : Int) ≤ ((j : Nat) : Int) := by omega
   have hkl : ((j : Nat) : Int) < (l0.length : Int) := by omega
   obtain ⟨ad, e1, zw0, zw1, zw2, zw3⟩ := at_T29 HR0.out ((j : Nat) : Int) hx0 hkl
   subst e1
   generalize rd_T29 l0 (j : Int) = d at zw0 zw1 zw2 zw3
   rw [Int.toNat_natCast] at zw0 zw1 zw2 zw3
   have z0 := (HBr.out.cell (World.block_lt_of_cell? _ _ zw0)).trans zw0
   have z1 := (HBr.out.cell (World.block_lt_of_cell? _ _ zw1)).trans zw1
   have z2 := (HBr.out.cell (World.block_lt_of_cell? _ _ zw2)).trans zw2
   have z3 := (HBr.out.cell (World.block_lt_of_cell? _ _ zw3)).trans zw3
   have AW := As_ (w_one j (by omega))
   by_cases hf : 300 < (d.f0.size : Int)
   ·go_wp2
    go_roundg (l0.length - (j + 1))
    case measure => omega
    case rel => exact ⟨j + 1, cur, by first | rfl | (rw [AW.out]) | (simp; done), by omega, hkv.mono (by omega), hnr, AIr, JLr, HBr⟩
   have hs1 : d.f0.size ≤ 300 := by omega
   have hkv9 := hkv.mono (show j ≤ 900 by omega)
   have hkvn := quDo_KV hkv d.f1 d.f0 d.f2 d.f3
   obtain ⟨cur', hcur'⟩ : ∃ c, quDo cur d.f1 d.f0 d.f2 d.f3 = c := ⟨_, rfl⟩
   obtain ⟨E, hE⟩ : ∃ c, quDoE cur d.f1 d.f0 d.f2 d.f3 = c := ⟨_, rfl⟩
   have AIn := As_ (AIr.out.did hkv.so (show d.f0.size ≤ 1000 by omega) d.f1 d.f2 d.f3)
   rw [hcur'] at hkvn AIn
   have hkvn3 := hkvn.mono (show j + 1 ≤ 1000 by omega)
   have hkvn6 := hkvn.mono (show j + 1 ≤ 1000000 by omega)
   obtain ⟨O1, hO1⟩ : ∃ z, quLeft cur' d.f0 a1 = z := ⟨_, rfl⟩
   obtain ⟨O2, hO2⟩ : ∃ z, quLeft cur' d.f0 d.f2 = z := ⟨_, rfl⟩
   obtain ⟨K1, hK1⟩ := ref49Left_ev cur' d.f0 a1 hkvn3 (by omega) AIn.out
   obtain ⟨K2, hK2⟩ := ref49Left_ev cur' d.f0 d.f2 hkvn3 (by omega) AIn.out
   rw [hO1] at hK1
   rw [hO2] at hK2
   obtain ⟨ok, hlt2, hm2, hv2⟩ := id JLr.out
   obtain ⟨A4, c4, rfl, hc4, _⟩ := id hv2
   have hD := qudo_calls w.heap.size g ok cur cur' A4 c4 d.f1 d.f0 d.f2 d.f3 E hm2 (fun k hk => (hlt2 k hk).2) hnr hv2 hkv9 AIr.out hs1 hE hcur'
   clear hm2 hv2 JLr hcur' hE AIr
   go_wp2_with fail
   refine hD.mono ?_
   rintro e w4 ⟨v3, w3, rfl, hb3, hjs, hv3⟩
   have HV := As_ hv3
   have hok : ∀ k, ok k → w.heap.size ≤ k := fun k hk => (hlt2 k hk).1
   have HB3 := As_ (HBr.out.trans (hb3.mono HBr.out.size))
   have hn3 := Nat.le_trans hnr hb3.size
   have HJ0 := As_ hjs
   obtain ⟨A3, c3, rfl, hc3, _⟩ := id HV.out
   have hB4 := HJ0.out.old HB3.out hn3 hok
   have q0 := (hB4.cell (World.block_lt_of_cell? _ _ zw0)).trans zw0
   have q2 := (hB4.cell (World.block_lt_of_cell? _ _ zw2)).trans zw2
   have AL := As_ hkvn.len
   clear hD hv3 hjs hb3 hB4 hlt2 HBr hnr z0 z1 z2 z3 hkv9 hkvn3
   go_upto_region 14 with (fail)
   refine start_ (n := 40) (S := fun w' => w'.cell? ⟨(ad.add (j * 4)).block, (ad.add (j * 4)).off + 2, none⟩ = some (.int .i64 d.f2)) (ds := []) #[false, false, false, false, false, false, false, false, false, false, false, false, false, false, false, false, false, false, false, false, false, false, false, false, false, false, false, false, false, false, false, false, false, false, false, false, false, false, false, false] (by kernel_rfl) rfl rfl q2 (fun hHeld => ?_)
   have HJ := As_ (HJ0.out.below (below_drew (Below.refl _ _)))
   clear HJ0 q0 q2
   generalize w4.drew = w5 at hHeld HJ ⊢
   refine pure_ (i := 0) (N := some 49) #[true, false, false, false, false, false, false, false, false, false, false, false, false, false, false, false, false, false, false, false, false, false, false, false, false, false, false, false, false, false, false, false, false, false, false, false, false, false, false, false] rfl rfl (by kernel_rfl) (fun _ _ _ h => h) (Or.inl ⟨by rfl, ap2_⟩) ap25_ ?_
   refine pure_ (i := 1) (N := some 50) #[true, true, false, false, false, false, false, false, false, false, false, false, false, false, false, false, false, false, false, false, false, false, false, false, false, false, false, false, false, false, false, false, false, false, false, false, false, false, false, false] rfl rfl (by kernel_rfl) (fun _ _ _ h => h) (Or.inl ⟨by rfl, ap2_⟩) ap25_ ?_
   refine pure_ (i := 2) (N := some 51) #[true, true, true, false, false, false, false, false, false, false, false, false, false, false, false, false, false, false, false, false, false, false, false, false, false, false, false, false, false, false, false, false, false, false, false, false, false, false, false, false] rfl rfl (by kernel_rfl) (fun _ _ _ h => h) (Or.inl ⟨by rfl, ap2_⟩) ap25_ ?_
   refine pure_ (i := 3) (N := some 52) #[true, true, true, true, false, false, false, false, false, false, false, false, false, false, false, false, false, false, false, false, false, false, false, false, false, false, false, false, false, false, false, false, false, false, false, false, false, false, false, false] rfl rfl (by kernel_rfl) (fun _ _ _ h => h) (Or.inl ⟨by rfl, ap2_⟩) ap25_ ?_
   refine pure_ (i := 4) (N := some 53) #[true, true, true, true, true, false, false, false, false, false, false, false, false, false, false, false, false, false, false, false, false, false, false, false, false, false, false, false, false, false, false, false, false, false, false, false, false, false, false, false] rfl rfl (by kernel_rfl) (fun _ _ _ h => h) (Or.inl ⟨by rfl, ap2_⟩) ap25_ ?_
   refine pure_ (i := 5) (N := some 54) #[true, true, true, true, true, true, false, false, false, false, false, false, false, false, false, false, false, false, false, false, false, false, false, false, false, false, false, false, false, false, false, false, false, false, false, false, false, false, false, false] rfl rfl (by kernel_rfl) (fun _ _ _ h => h) (Or.inl ⟨by rfl, ap2_⟩) ap25_ ?_
   refine pure_ (i := 6) (N := some 55) #[true, true, true, true, true, true, true, false, false, false, false, false, false, false, false, false, false, false, false, false, false, false, false, false, false, false, false, false, false, false, false, false, false, false, false, false, false, false, false, false] rfl rfl (by kernel_rfl) (fun _ _ _ h => h) (Or.inl ⟨by rfl, ap2_⟩) ap25_ ?_
   refine pure_ (i := 8) (N := some 57) #[true, true, true, true, true, true, true, false, true, false, false, false, false, false, false, false, false, false, false, false, false, false, false, false, false, false, false, false, false, false, false, false, false, false, false, false, false, false, false, false] rfl rfl (by kernel_rfl) (fun _ _ _ h => h) (Or.inl ⟨by rfl, ap2_⟩) ap25_ ?_
   refine pure_ (i := 9) (N := some 58) #[true, true, true, true, true, true, true, false, true, true, false, false, false, false, false, false, false, false, false, false, false, false, false, false, false, false, false, false, false, false, false, false, false, false, false, false, false, false, false, false] rfl rfl (by kernel_rfl) (fun _ _ _ h => h) (Or.inl ⟨by rfl, ap2_⟩) ap25_ ?_
   refine pure_ (i := 10) (N := some 59) #[true, true, true, true, true, true, true, false, true, true, true, false, false, false, false, false, false, false, false, false, false, false, false, false, false, false, false, false, false, false, false, false, false, false, false, false, false, false, false, false] rfl rfl (by kernel_rfl) (fun _ _ _ h => h) (Or.inl ⟨by rfl, ap2_⟩) ap25_ ?_
   refine one_ (i := 7) (N := some 56) #[true, true, true, true, true, true, true, true, true, true, true, false, false, false, false, false, false, false, false, false, false, false, false, false, false, false, false, false, false, false, false, false, false, false, false, false, false, false, false, false] rfl rfl (by kernel_rfl) (by decide) (fun K hK => ?_)
   refine goes_ Tryz.func7 (by kernel_rfl) rfl #[.pointer (some ⟨g, 0, none⟩), .string d.f0, .int .i64 a1] (by rfl) rfl rfl ap13_ ?_
   refine (qu_Left d.f0 a1 O1 HJ.out hkvn6 (by omega) AIn.out hO1).mono ?_
   rintro e w6_7 ⟨rfl, hb⟩
   refine ⟨_, rfl, ?_⟩
   replace HJ := As_ (HJ.out.below hb)
   refine hK.out _ _ ((hb.cell (World.block_lt_of_cell? _ _ hHeld)).trans hHeld) (fun hHeld => ?_)
   clear hb
   clear hK K
   refine norm_ (a' := ?_) ?_ ?_
   rotate_left
   ·show Act.put _ (some 56) _ = _
    simp only [Act.put, List.setIfInBounds_toArray, List.set_cons_zero, List.set_cons_succ, i64_w, i32_w]
    rfl
   refine one_ (i := 11) (N := some 60) #[true, true, true, true, true, true, true, true, true, true, true, true, false, false, false, false, false, false, false, false, false, false, false, false, false, false, false, false, false, false, false, false, false, false, false, false, false, false, false, false] rfl rfl (by kernel_rfl) (by decide) (fun K hK => ?_)
   refine goes_ Tryz.func8 (by kernel_rfl) rfl #[.slice A3 cur'.length c3, .string d.f0, .int .i64 a1] (by rfl) rfl rfl ap13_ ?_
   refine (footbridgeref49_Left.calls K1 A3 c3 cur' d.f0 a1 O1 _ (V_C (V_js HJ.out HV.out)).1 hc3 (hK1 K1 (Nat.le_refl _))).mono ?_
   rintro e w6_11 ⟨rfl, hb⟩
   refine ⟨_, rfl, ?_⟩
   replace HJ := As_ (HJ.out.below hb)
   refine hK.out _ _ ((hb.cell (World.block_lt_of_cell? _ _ hHeld)).trans hHeld) (fun hHeld => ?_)
   clear hb
   clear hK K
   refine norm_ (a' := ?_) ?_ ?_
   rotate_left
   ·show Act.put _ (some 60) _ = _
    simp only [Act.put, List.setIfInBounds_toArray, List.set_cons_zero, List.set_cons_succ, i64_w, i32_w]
    rfl
   refine pure_ (i := 12) (N := some 61) #[true, true, true, true, true, true, true, true, true, true, true, true, true, false, false, false, false, false, false, false, false, false, false, false, false, false, false, false, false, false, false, false, false, false, false, false, false, false, false, false] rfl rfl (by kernel_rfl) (fun _ _ _ h => h) (Or.inl ⟨by rfl, ap2_⟩) ap25_ ?_
   refine pure_ (i := 13) (N := some 62) #[true, true, true, true, true, true, true, true, true, true, true, true, true, true, false, false, false, false, false, false, false, false, false, false, false, false, false, false, false, false, false, false, false, false, false, false, false, false, false, false] rfl rfl (by kernel_rfl) (fun _ _ _ h => h) (Or.inl ⟨by rfl, ap2_⟩) ap25_ ?_
   refine pure_ (i := 14) (N := some 63) #[true, true, true, true, true, true, true, true, true, true, true, true, true, true, true, false, false, false, false, false, false, false, false, false, false, false, false, false, false, false, false, false, false, false, false, false, false, false, false, false] rfl rfl (by kernel_rfl) (fun _ _ _ h => h) (Or.inl ⟨by rfl, ap2_⟩) ap25_ ?_
   refine pure_ (i := 15) (N := some 64) #[true, true, true, true, true, true, true, true, true, true, true, true, true, true, true, true, false, false, false, false, false, false, false, false, false, false, false, false, false, false, false, false, false, false, false, false, false, false, false, false] rfl rfl (by kernel_rfl) (fun _ _ _ h => h) (Or.inl ⟨by rfl, ap2_⟩) ap25_ ?_
   refine pure_ (i := 16) (N := some 65) #[true, true, true, true, true, true, true, true, true, true, true, true, true, true, true, true, true, false, false, false, false, false, false, false, false, false, false, false, false, false, false, false, false, false, false, false, false, false, false, false] rfl rfl (by kernel_rfl) (fun _ _ _ h => h) (Or.inl ⟨by rfl, ap2_⟩) ap25_ ?_
   refine pure_ (i := 17) (N := some 66) #[true, true, true, true, true, true, true, true, true, true, true, true, true, true, true, true, true, true, false, false, false, false, false, false, false, false, false, false, false, false, false, false, false, false, false, false, false, false, false, false] rfl rfl (by kernel_rfl) (fun _ _ _ h => h) (Or.inl ⟨by rfl, ap2_⟩) ap25_ ?_
   refine pure_ (i := 18) (N := some 67) #[true, true, true, true, true, true, true, true, true, true, true, true, true, true, true, true, true, true, true, false, false, false, false, false, false, false, false, false, false, false, false, false, false, false, false, false, false, false, false, false] rfl rfl (by kernel_rfl) (fun _ _ _ h => h) (Or.inl ⟨by rfl, ap2_⟩) ap25_ ?_
   refine pure_ (i := 19) (N := some 68) #[true, true, true, true, true, true, true, true, true, true, true, true, true, true, true, true, true, true, true, true, false, false, false, false, false, false, false, false, false, false, false, false, false, false, false, false, false, false, false, false] rfl rfl (by kernel_rfl) (fun _ _ _ h => h) (Or.inl ⟨by rfl, ap2_⟩) ap25_ ?_
   refine pure_ (i := 20) (N := some 69) #[true, true, true, true, true, true, true, true, true, true, true, true, true, true, true, true, true, true, true, true, true, false, false, false, false, false, false, false, false, false, false, false, false, false, false, false, false, false, false, false] rfl rfl (by kernel_rfl) (fun _ _ _ h => h) (Or.inl ⟨by rfl, ap2_⟩) ap25_ ?_
   refine take_ (i := 21) (N := some 70) #[true, true, true, true, true, true, true, true, true, true, true, true, true, true, true, true, true, true, true, true, true, true, false, false, false, false, false, false, false, false, false, false, false, false, false, false, false, false, false, false] rfl rfl (by kernel_rfl) (fun _ _ _ h => h) (Or.inl ⟨by rfl, (by rintro w' s2; go_simp; with_reducible rfl)⟩) hHeld ap25_ ?_
   refine pure_ (i := 23) (N := some 72) #[true, true, true, true, true, true, true, true, true, true, true, true, true, true, true, true, true, true, true, true, true, true, false, true, false, false, false, false, false, false, false, false, false, false, false, false, false, false, false, false] rfl rfl (by kernel_rfl) (fun _ _ _ h => h) (Or.inl ⟨by rfl, ap2_⟩) ap25_ ?_
   refine pure_ (i := 24) (N := some 73) #[true, true, true, true, true, true, true, true, true, true, true, true, true, true, true, true, true, true, true, true, true, true, false, true, true, false, false, false, false, false, false, false, false, false, false, false, false, false, false, false] rfl rfl (by kernel_rfl) (fun _ _ _ h => h) (Or.inl ⟨by rfl, ap2_⟩) ap25_ ?_
   refine pure_ (i := 25) (N := some 74) #[true, true, true, true, true, true, true, true, true, true, true, true, true, true, true, true, true, true, true, true, true, true, false, true, true, true, false, false, false, false, false, false, false, false, false, false, false, false, false, false] rfl rfl (by kernel_rfl) (fun _ _ _ h => h) (Or.inl ⟨by rfl, ap2_⟩) ap25_ ?_
   refine pure_ (i := 26) (N := some 75) #[true, true, true, true, true, true, true, true, true, true, true, true, true, true, true, true, true, true, true, true, true, true, false, true, true, true, true, false, false, false, false, false, false, false, false, false, false, false, false, false] rfl rfl (by kernel_rfl) (fun _ _ _ h => h) (Or.inl ⟨by rfl, ap2_⟩) ap25_ ?_
   refine pure_ (i := 27) (N := some 76) #[true, true, true, true, true, true, true, true, true, true, true, true, true, true, true, true, true, true, true, true, true, true, false, true, true, true, true, true, false, false, false, false, false, false, false, false, false, false, false, false] rfl rfl (by kernel_rfl) (fun _ _ _ h => h) (Or.inl ⟨by rfl, ap2_⟩) ap25_ ?_
   refine pure_ (i := 28) (N := some 77) #[true, true, true, true, true, true, true, true, true, true, true, true, true, true, true, true, true, true, true, true, true, true, false, true, true, true, true, true, true, false, false, false, false, false, false, false, false, false, false, false] rfl rfl (by kernel_rfl) (fun _ _ _ h => h) (Or.inl ⟨by rfl, ap2_⟩) ap25_ ?_
   refine take_ (i := 29) (N := some 78) #[true, true, true, true, true, true, true, true, true, true, true, true, true, true, true, true, true, true, true, true, true, true, false, true, true, true, true, true, true, true, false, false, false, false, false, false, false, false, false, false] rfl rfl (by kernel_rfl) (fun _ _ _ h => h) (Or.inl ⟨by rfl, (by rintro w' s2; go_simp; with_reducible rfl)⟩) hHeld ap25_ ?_
   refine one_ (i := 22) (N := some 71) #[true, true, true, true, true, true, true, true, true, true, true, true, true, true, true, true, true, true, true, true, true, true, true, true, true, true, true, true, true, true, false, false, false, false, false, false, false, false, false, false] rfl rfl (by kernel_rfl) (by decide) (fun K hK => ?_)
   refine goes_ Tryz.func7 (by kernel_rfl) rfl #[.pointer (some ⟨g, 0, none⟩), .string d.f0, .int .i64 d.f2] (by rfl) rfl rfl ap13_ ?_
   refine (qu_Left d.f0 d.f2 O2 HJ.out hkvn6 (by omega) AIn.out hO2).mono ?_
   rintro e w6_22 ⟨rfl, hb⟩
   refine ⟨_, rfl, ?_⟩
   replace HJ := As_ (HJ.out.below hb)
   refine hK.out _ _ ((hb.cell (World.block_lt_of_cell? _ _ hHeld)).trans hHeld) (fun hHeld => ?_)
   clear hb
   clear hK K
   refine norm_ (a' := ?_) ?_ ?_
   rotate_left
   ·show Act.put _ (some 71) _ = _
    simp only [Act.put, List.setIfInBounds_toArray, List.set_cons_zero, List.set_cons_succ, i64_w, i32_w]
    rfl
   refine one_ (i := 30) (N := some 79) #[true, true, true, true, true, true, true, true, true, true, true, true, true, true, true, true, true, true, true, true, true, true, true, true, true, true, true, true, true, true, true, false, false, false, false, false, false, false, false, false] rfl rfl (by kernel_rfl) (by decide) (fun K hK => ?_)
   refine goes_ Tryz.func8 (by kernel_rfl) rfl #[.slice A3 cur'.length c3, .string d.f0, .int .i64 d.f2] (by rfl) rfl rfl ap13_ ?_
   refine (footbridgeref49_Left.calls K2 A3 c3 cur' d.f0 d.f2 O2 _ (V_C (V_js HJ.out HV.out)).1 hc3 (hK2 K2 (Nat.le_refl _))).mono ?_
   rintro e w6_30 ⟨rfl, hb⟩
   refine ⟨_, rfl, ?_⟩
   replace HJ := As_ (HJ.out.below hb)
   refine hK.out _ _ ((hb.cell (World.block_lt_of_cell? _ _ hHeld)).trans hHeld) (fun hHeld => ?_)
   clear hb
   clear hK K
   refine norm_ (a' := ?_) ?_ ?_
   rotate_left
   ·show Act.put _ (some 79) _ = _
    simp only [Act.put, List.setIfInBounds_toArray, List.set_cons_zero, List.set_cons_succ, i64_w, i32_w]
    rfl
   refine pure_ (i := 31) (N := some 80) #[true, true, true, true, true, true, true, true, true, true, true, true, true, true, true, true, true, true, true, true, true, true, true, true, true, true, true, true, true, true, true, true, false, false, false, false, false, false, false, false] rfl rfl (by kernel_rfl) (fun _ _ _ h => h) (Or.inl ⟨by rfl, ap2_⟩) ap25_ ?_
   refine pure_ (i := 32) (N := some 81) #[true, true, true, true, true, true, true, true, true, true, true, true, true, true, true, true, true, true, true, true, true, true, true, true, true, true, true, true, true, true, true, true, true, false, false, false, false, false, false, false] rfl rfl (by kernel_rfl) (fun _ _ _ h => h) (Or.inl ⟨by rfl, ap2_⟩) ap25_ ?_
   refine pure_ (i := 33) (N := some 82) #[true, true, true, true, true, true, true, true, true, true, true, true, true, true, true, true, true, true, true, true, true, true, true, true, true, true, true, true, true, true, true, true, true, true, false, false, false, false, false, false] rfl rfl (by kernel_rfl) (fun _ _ _ h => h) (Or.inl ⟨by rfl, ap2_⟩) ap25_ ?_
   refine pure_ (i := 34) (N := some 83) #[true, true, true, true, true, true, true, true, true, true, true, true, true, true, true, true, true, true, true, true, true, true, true, true, true, true, true, true, true, true, true, true, true, true, true, false, false, false, false, false] rfl rfl (by kernel_rfl) (fun _ _ _ h => h) (Or.inl ⟨by rfl, ap2_⟩) ap25_ ?_
   refine pure_ (i := 36) (N := some 85) #[true, true, true, true, true, true, true, true, true, true, true, true, true, true, true, true, true, true, true, true, true, true, true, true, true, true, true, true, true, true, true, true, true, true, true, false, true, false, false, false] rfl rfl (by kernel_rfl) (fun _ _ _ h => h) (Or.inl ⟨by rfl, ap2_⟩) ap25_ ?_
   refine one_ (i := 35) (N := some 84) #[true, true, true, true, true, true, true, true, true, true, true, true, true, true, true, true, true, true, true, true, true, true, true, true, true, true, true, true, true, true, true, true, true, true, true, true, true, false, false, false] rfl rfl (by kernel_rfl) (by decide) (fun K hK => ?_)
   refine goes_ Tryz.func10 (by kernel_rfl) rfl #[.pointer (some ⟨g, 0, none⟩)] (by rfl) rfl rfl ap13_ ?_
   refine (j_list w.heap.size g _ ⟨cur', []⟩ _ HJ.out.m (Nat.le_trans AL.out (by omega))).mono ?_
   rintro e w6_35 ⟨v9, rfl, o9, hb⟩
   refine ⟨_, rfl, ?_⟩
   obtain ⟨A9, c9, rfl, hc9, hC9⟩ := Kd.R_reads (rows_R (ok := fun _ => True) o9 (fun _ _ => trivial))
   clear o9
   replace HJ := As_ (HJ.out.below hb)
   refine hK.out _ _ ((hb.cell (World.block_lt_of_cell? _ _ hHeld)).trans hHeld) (fun hHeld => ?_)
   clear hb
   clear hK K
   refine norm_ (a' := ?_) ?_ ?_
   rotate_left
   ·show Act.put _ (some 84) _ = _
    simp only [Act.put, List.setIfInBounds_toArray, List.set_cons_zero, List.set_cons_succ, i64_w, i32_w]
    rfl
   refine one_ (i := 37) (N := some 86) #[true, true, true, true, true, true, true, true, true, true, true, true, true, true, true, true, true, true, true, true, true, true, true, true, true, true, true, true, true, true, true, true, true, true, true, true, true, true, false, false] rfl rfl (by kernel_rfl) (by decide) (fun K hK => ?_)
   refine goes_ Tryz.func9 (by kernel_rfl) rfl #[.slice A9 cur'.length c9, .slice A3 cur'.length c3] (by rfl) rfl rfl ap13_ ?_
   refine (footbridgeref09_Same.calls 1001 A9 c9 cur' A3 c3 cur' true _ hC9 hc9 (V_C (V_js HJ.out HV.out)).1 hc3 (same_f _ 1001 (Nat.le_trans AL.out (by omega)) (Nat.lt_of_le_of_lt AL.out (by omega)))).mono ?_
   rintro e w6_37 ⟨rfl, hd⟩
   have hb := hd.below
   clear hd
   refine ⟨_, rfl, ?_⟩
   replace HJ := As_ (HJ.out.below hb)
   refine hK.out _ _ ((hb.cell (World.block_lt_of_cell? _ _ hHeld)).trans hHeld) (fun hHeld => ?_)
   clear hb
   clear hK K
   refine norm_ (a' := ?_) ?_ ?_
   rotate_left
   ·show Act.put _ (some 86) _ = _
    simp only [Act.put, List.setIfInBounds_toArray, List.set_cons_zero, List.set_cons_succ, i64_w, i32_w]
    rfl
   refine pure_ (i := 38) (N := some 87) #[true, true, true, true, true, true, true, true, true, true, true, true, true, true, true, true, true, true, true, true, true, true, true, true, true, true, true, true, true, true, true, true, true, true, true, true, true, true, true, false] rfl rfl (by kernel_rfl) (fun _ _ _ h => h) (Or.inl ⟨by rfl, ap2_⟩) ap25_ ?_
   refine pure_ (i := 39) (N := some 88) #[true, true, true, true, true, true, true, true, true, true, true, true, true, true, true, true, true, true, true, true, true, true, true, true, true, true, true, true, true, true, true, true, true, true, true, true, true, true, true, true] rfl rfl (by kernel_rfl) (fun _ _ _ h => h) (Or.inl ⟨by rfl, ap2_⟩) ap25_ ?_
   refine done_ (by kernel_rfl) ?_
   clear hHeld
   have Jn := As_ (J1.did HV.out HJ.out)
   have HBn := As_ (HJ.out.old HB3.out hn3 hok)
   have hnn := Nat.le_trans hn3 HJ.out.jw.size
   clear HJ HV HB3
   go_wp2
   go_roundg (l0.length - (j + 1))
   case measure => omega
   case rel => exact ⟨j + 1, cur', by first | rfl | (rw [AW.out]) | (simp; done), by omega, hkvn, hnn, AIn, Jn, HBn⟩
  ·go_wp2_with fail
   refine (quaw_calls _).mono ?_
   rintro e w' ⟨rfl, hb⟩
   have hfin := As_ (HBr.out.trans (hb.mono HBr.out.size))
   clear JLr HBr hb
   go_wp2
   go_ret
   exact ⟨rfl, hfin.out⟩
end Go.Proofs.YtgapkicplhbidaaGreatDoor.PQup
