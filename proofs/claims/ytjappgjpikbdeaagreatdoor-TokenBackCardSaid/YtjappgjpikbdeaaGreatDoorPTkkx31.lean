-- written by wip/myprint.py over the kit's print; not a printed text of print.sh
import Derived.Test.YtjappgjpikbdeaaGreatDoorPTkkx0
import Derived.Test.YtjappgjpikbdeaaGreatDoorPTkkx3
import Derived.Test.YtjappgjpikbdeaaGreatDoorPTkkx9
import Derived.Test.YtjappgjpikbdeaaGreatDoorPTkkx10
import Derived.Test.YtjappgjpikbdeaaGreatDoorPTkkx12
import Derived.Test.YtjappgjpikbdeaaGreatDoorPTkkx14
import Derived.Test.YtjappgjpikbdeaaGreatDoorPTkkx15
import Derived.Test.YtjappgjpikbdeaaGreatDoorPTkkx17
import Derived.Test.YtjappgjpikbdeaaGreatDoorPTkkx22
import Derived.Test.YtjappgjpikbdeaaGreatDoorPTkkx26
import Derived.Test.YtjappgjpikbdeaaGreatDoorPTkkx27
import Derived.Test.YtjappgjpikbdeaaGreatDoorPTkkx28
import Derived.Test.YtjappgjpikbdeaaGreatDoorPTkkx29
import Derived.Test.YtjappgjpikbdeaaGreatDoorPTkkx30
namespace Go.Proofs.YtjappgjpikbdeaaGreatDoor.PTkk
open Go.RowKit Go.Proofs.YtjappgjpikbdeaaGreatDoorW.PrintWords Go.Proofs.YtjappgjpikbdeaaGreatDoorW.PrintLast Go.Proofs.YtjappgjpikbdeaaGreatDoorW.PrintMore
attribute [local go_sem] max2_int min2_int max_two min_two max_three min_three max_four min_four   -- for this text's walks alone
set_option linter.unusedVariables false
set_option linter.unusedSimpArgs false

/-! ### words: ref09a.inc -/
theorem fk_of_V {α : Type} {d : Kd α} {e e' base : Nat} {W : World} {ok : Nat → Prop} {v : Value} {xs : List α} (h : Kd.V d e W base ok v xs) : Kd.FK (Kd.slice e' d) W ok xs [v] := by
  obtain ⟨A, c, rfl, hl, hf⟩ := h
  exact Kd.FK_slice_mk hl hf
theorem fk_of_R {α : Type} {d : Kd α} {e e' base : Nat} {W : World} {ok : Nat → Prop} {v : Value} {xs : List α} (h : Kd.R d e W base ok v xs) : Kd.FK (Kd.slice e' d) W ok xs [v] := by
  obtain ⟨A, c, rfl⟩ := Kd.R_slice h
  exact Kd.FK_slice_mk (Kd.R_reads' h).2.1 (Kd.R_F h)
theorem at_l0 (l : List S82) (key : ByteArray) (hs : sortK l) (hl : l.length ≤ 1000000000) : ∀ m j k, l.length - j = m → j ≤ posK l key → m < k → footbridgeref09_at.l0 k l key (j : Int) = some ((posK l key : Nat) : Int) := by
  have hp := posK_le l key
  intro m
  induction m with
  | zero =>
    intro j k h1 h2 h3
    obtain ⟨k, rfl⟩ : ∃ k', k = k' + 1 := ⟨k - 1, by omega⟩
    obtain rfl : j = posK l key := by omega
    rw [footbridgeref09_at.l0, if_neg (by omega)]
  | succ m ih =>
    intro j k h1 h2 h3
    obtain ⟨k, rfl⟩ : ∃ k', k = k' + 1 := ⟨k - 1, by omega⟩
    have hj : j < l.length := by omega
    rw [footbridgeref09_at.l0, if_pos (by omega), if_pos (by omega), rdP l j hj]
    have hsp := posK_spec l key hs j hj
    by_cases hlt : j < posK l key
    · rw [decide_eq_true hlt] at hsp
      unfold kLt at hsp
      rw [if_pos hsp, w64p j (by omega)]
      exact ih (j + 1) k (by omega) (by omega) (by omega)
    · rw [decide_eq_false hlt] at hsp
      obtain rfl : j = posK l key := by omega
      rw [if_neg (by intro h; unfold kLt at hsp; rw [h] at hsp; exact absurd hsp (by simp))]
theorem at_f (l : List S82) (key : ByteArray) (k : Nat) (hs : sortK l) (hl : l.length ≤ 1000000000) (hk : l.length < k) : footbridgeref09_at.f k l key = some ((posK l key : Nat) : Int) := at_l0 l key hs hl l.length 0 k (by omega) (by omega) hk
theorem hasK_cases (l : List S82) (key : ByteArray) : (∃ hp : posK l key < l.length, hasK l key = (l[posK l key].f0.toList == key.toList)) ∨ (posK l key = l.length ∧ hasK l key = false) := by
  have hp := posK_le l key
  by_cases h : posK l key < l.length
  · refine .inl ⟨h, ?_⟩
    unfold hasK
    rw [List.getElem?_eq_getElem h]
  · refine .inr ⟨by omega, ?_⟩
    unfold hasK
    rw [List.getElem?_eq_none (by omega)]
theorem get_f (l : List S82) (key : ByteArray) (k : Nat) (hs : sortK l) (hl : l.length ≤ 1000000000) (hk : l.length < k) : footbridgeref09_Get.f k l key = some (getK l key) := by
  unfold footbridgeref09_Get.f getK
  rw [at_f l key k hs hl hk, Option.bind_some]
  rcases hasK_cases l key with ⟨hp, hh⟩ | ⟨hp, hh⟩
  · rw [if_pos (by omega), if_pos (by omega), hh]
    rw [rdP l _ hp]
    by_cases he : l[posK l key].f0.toList = key.toList
    · rw [if_pos he, if_pos (beq_iff_eq.2 he)]
    · rw [if_neg he, if_neg (by rw [beq_eq_false_iff_ne.2 he]; simp)]
  · rw [if_neg (by omega), hh, if_neg (by simp)]
theorem set_f (l : List S82) (key value : ByteArray) (k : Nat) (hs : sortK l) (hl : l.length ≤ 1000000000) (hk : l.length < k) : footbridgeref09_Set.f k l key value = some (setK l key value, !hasK l key) := by
  unfold footbridgeref09_Set.f setK
  rw [at_f l key k hs hl hk, Option.bind_some]
  have hd : ∀ i, (l.drop i).length ≤ 1000000000 := fun i => by rw [List.length_drop]; omega
  have ht : ∀ i, (l.take i).length ≤ 1000000000 := fun i => by rw [List.length_take]; omega
  rcases hasK_cases l key with ⟨hp, hh⟩ | ⟨hp, hh⟩
  · rw [if_neg (by omega), if_pos (by omega), if_pos (by omega), if_pos (by omega), Option.bind_some, rdP l _ hp, Int.toNat_natCast]
    have h1 := ht (posK l key)
    have h2 := hd (posK l key)
    have h3 := hd (posK l key + 1)
    by_cases he : l[posK l key].f0.toList = key.toList
    · have hk1 : l[posK l key].f0 = key := ba_ext he
      rw [if_neg (not_not_intro he), w64p _ (by omega), if_pos (by omega), if_pos (by omega), Int.toNat_natCast, Option.bind_some, Option.bind_some, List.nil_append, if_pos (by simp only [List.length_nil]; omega), Option.bind_some, if_pos (by omega), Option.bind_some, if_pos (by rw [List.length_append]; simp only [List.length_cons, List.length_nil]; omega)]
      rw [hh, if_pos (beq_iff_eq.2 he), beq_iff_eq.2 he, bne, beq_iff_eq.2 he]
      congr 2
      rw [List.set_eq_take_append_cons_drop, if_pos hp, List.append_assoc]; rfl
    · rw [if_pos he, Option.bind_some, List.nil_append, if_pos (by simp only [List.length_nil]; omega), Option.bind_some, if_pos (by omega), Option.bind_some, if_pos (by rw [List.length_append]; simp only [List.length_cons, List.length_nil]; omega)]
      rw [hh, if_neg (by rw [beq_eq_false_iff_ne.2 he]; simp), bne, beq_eq_false_iff_ne.2 he, List.append_assoc]
      rfl
  · have h1 := ht (posK l key)
    have h2 := hd (posK l key)
    rw [if_pos (by omega), if_pos (by omega), if_pos (by omega), Option.bind_some, Option.bind_some, Int.toNat_natCast, List.nil_append, if_pos (by simp only [List.length_nil]; omega), Option.bind_some, if_pos (by omega), Option.bind_some, if_pos (by rw [List.length_append]; simp only [List.length_cons, List.length_nil]; omega)]
    rw [hh, if_neg (by simp), List.append_assoc]
    rfl

/-! ### words: kvrefa.inc -/
/-! ### the document's keys, numbers, readers: plain -/
/-- Bytes as whole numbers. -/
def bIn (l : List UInt8) : List Int := l.map fun c => (c.toNat : Int)
theorem bIn_str (l : List UInt8) : strOfNums (bIn l) = ofL l := by
  apply ba_ext
  rw [ByteArray.toList_eq, ofL_toList, strOfNums_data]
  unfold bIn
  rw [List.map_map]
  conv => rhs; rw [← List.map_id l]
  refine List.map_congr_left (fun c _ => ?_)
  show UInt8.ofNat (c.toNat : Int).toNat = c
  rw [Int.toNat_natCast]; simp
theorem bIn_append (l m : List UInt8) : bIn (l ++ m) = bIn l ++ bIn m := by unfold bIn; exact List.map_append
theorem bIn_len (l : List UInt8) : (bIn l).length = l.length := by unfold bIn; exact List.length_map _
theorem strOfNums_app (l m : List Int) : strOfNums (l ++ m) = strOfNums l ++ strOfNums m := by
  apply ba_ext; rw [ba_append, ByteArray.toList_eq, ByteArray.toList_eq, ByteArray.toList_eq, strOfNums_data, strOfNums_data, strOfNums_data, List.map_append]
theorem bt_at' (s : List UInt8) (i : Nat) (h : i < s.length) : bt (ofL s) (i : Int) = ((s[i]).toNat : Int) := by
  have hb := bt_get (ofL s) i (by rw [ofL_toList]; exact h)
  simp only [ofL_toList] at hb
  exact hb
theorem bt_is (s : List UInt8) (i : Nat) (h : i < s.length) (c : UInt8) (n : Int) (hn : (c.toNat : Int) = n) : (bt (ofL s) (i : Int) = n) ↔ s[i] = c := by
  rw [bt_at' s i h, ← hn]
  exact ⟨fun e => UInt8.toNat_inj.1 (by omega), fun e => by rw [e]⟩
theorem hiddenRef_go (s : List UInt8) (hs : s.length ≤ 50000000) : ∀ (d i : Nat) (acc : List UInt8), d = s.length - i → i ≤ s.length → acc.length ≤ 2 * i → Ev (fun k => footbridgeref08_hidden.l0 k (ofL s) (bIn acc) (i : Int)) (ofL (acc ++ hidL (s.drop i))) := by
  intro d
  induction d with
  | zero =>
    intro i acc hd hi ha
    refine ⟨1, fun k hk => ?_⟩
    obtain ⟨m, rfl⟩ : ∃ m, k = m + 1 := ⟨k - 1, by omega⟩
    show footbridgeref08_hidden.l0 (m + 1) (ofL s) (bIn acc) (i : Int) = _
    simp only [footbridgeref08_hidden.l0]
    rw [ofL_size, if_neg (by omega), List.drop_eq_nil_of_le (by omega), bIn_str]
    congr 2
    simp [hidL]
  | succ d ih =>
    intro i acc hd hi ha
    have hil : i < s.length := by omega
    obtain ⟨K, e⟩ := ih (i + 1) (acc ++ (if s[i] = 37 then [37, 112] else if s[i] = 47 then [37, 115] else [s[i]])) (by omega) (by omega) (by
      rw [List.length_append]
      have : (if s[i] = 37 then [37, 112] else if s[i] = 47 then [37, 115] else [s[i]] : List UInt8).length ≤ 2 := by split <;> (try split) <;> simp
      omega)
    refine ⟨K + 1, fun k hk => ?_⟩
    obtain ⟨m, rfl⟩ : ∃ m, k = m + 1 := ⟨k - 1, by omega⟩
    have e : footbridgeref08_hidden.l0 m (ofL s) _ ((i + 1 : Nat) : Int) = _ := e m (by omega)
    have hfin : acc ++ hidL (s.drop i) = (acc ++ (if s[i] = 37 then [37, 112] else if s[i] = 47 then [37, 115] else [s[i]])) ++ hidL (s.drop (i + 1)) := by
      rw [List.drop_eq_getElem_cons hil, hidL_cons, List.append_assoc]
    rw [hfin, ← e]
    show footbridgeref08_hidden.l0 (m + 1) (ofL s) (bIn acc) (i : Int) = _
    simp only [footbridgeref08_hidden.l0]
    have b1 := bt_is s i hil 37 37 rfl
    have b2 := bt_is s i hil 47 47 rfl
    rw [ofL_size, if_pos (by omega), if_pos (by omega), w_one i (by omega)]
    by_cases h1 : s[i] = 37
    · rw [if_pos (b1.2 h1), if_pos h1, Option.bind_some, if_pos (by rw [bIn_len]; simp only [List.length_cons, List.length_nil]; omega), bIn_append]; rfl
    · rw [if_neg (fun e => h1 (b1.1 e)), if_neg h1]
      by_cases h2 : s[i] = 47
      · rw [if_pos (b2.2 h2), if_pos h2, Option.bind_some, if_pos (by rw [bIn_len]; simp only [List.length_cons, List.length_nil]; omega), bIn_append]; rfl
      · rw [if_neg (fun e => h2 (b2.1 e)), if_neg h2, if_pos (by rw [bIn_len]; omega), bIn_append, bt_at' s i hil]; rfl
theorem hiddenRef_ev (a : ByteArray) (h : a.size ≤ 50000000) : Ev (fun k => footbridgeref08_hidden.f k a) (ofL (hidL a.toList)) := by
  have h2 := h
  rw [ba_size] at h2
  obtain ⟨K, e⟩ := hiddenRef_go a.toList h2 a.toList.length 0 [] (by omega) (by omega) (by simp)
  rw [ofL_of] at e
  exact ⟨K, e⟩
theorem joinRef_go (l : List ByteArray) (hl : l.length ≤ 1000) (hs : ∀ p ∈ l, p.size ≤ 50000000) : ∀ (d i : Nat) (acc : ByteArray), d = l.length - i → i ≤ l.length → acc.size ≤ 100000000 + i * 100000001 → Ev (fun k => footbridgeref08_Join.l0 k l acc (i : Int)) (acc ++ ofL ((l.drop i).flatMap fun p => 47 :: hidL p.toList)) := by
  intro d
  induction d with
  | zero =>
    intro i acc hd hi ha
    refine ⟨1, fun k hk => ?_⟩
    obtain ⟨m, rfl⟩ : ∃ m, k = m + 1 := ⟨k - 1, by omega⟩
    show footbridgeref08_Join.l0 (m + 1) l acc (i : Int) = _
    simp only [footbridgeref08_Join.l0]
    rw [if_neg (by omega), List.drop_eq_nil_of_le (by omega)]
    congr 1
    apply ba_ext; rw [ba_append, ofL_toList]; simp
  | succ d ih =>
    intro i acc hd hi ha
    have hil : i < l.length := by omega
    have hp := hs l[i] (List.getElem_mem hil)
    have hlen := hidL_len (l[i]).toList
    rw [← ba_size] at hlen
    have h47 : (⟨#[47]⟩ : ByteArray).size = 1 := rfl
    have hi2 : i * 100000001 ≤ 1000 * 100000001 := Nat.mul_le_mul_right _ (by omega)
    obtain ⟨K, e⟩ := ih (i + 1) ((acc ++ (⟨#[47]⟩ : ByteArray)) ++ ofL (hidL (l[i]).toList)) (by omega) (by omega) (by rw [ByteArray.size_append, ByteArray.size_append, ofL_size, h47, Nat.add_mul]; omega)
    obtain ⟨K1, e1⟩ := hiddenRef_ev l[i] hp
    refine ⟨K + K1 + 1, fun k hk => ?_⟩
    obtain ⟨m, rfl⟩ : ∃ m, k = m + 1 := ⟨k - 1, by omega⟩
    have e : footbridgeref08_Join.l0 m l _ ((i + 1 : Nat) : Int) = _ := e m (by omega)
    have e1 : footbridgeref08_hidden.f m l[i] = _ := e1 m (by omega)
    show footbridgeref08_Join.l0 (m + 1) l acc (i : Int) = _
    simp only [footbridgeref08_Join.l0]
    rw [if_pos (by omega), if_pos (by omega), if_pos (by omega), rdOf_get l i hil, e1, Option.bind_some, if_pos (by rw [ByteArray.size_append, ofL_size, h47]; omega), w_one i (by omega), e]
    congr 1
    rw [List.drop_eq_getElem_cons hil, List.flatMap_cons]
    apply ba_ext
    simp only [ba_append, ofL_toList, one_list]
    simp
theorem joinRef_ev (a : ByteArray) (l : List ByteArray) (ha : a.size ≤ 50000000) (hl : l.length ≤ 1000) (hs : ∀ p ∈ l, p.size ≤ 50000000) : Ev (fun k => footbridgeref08_Join.f k a l) (ofL (keyL a.toList (l.map ByteArray.toList))) := by
  have h1 := hidL_len a.toList
  rw [← ba_size] at h1
  obtain ⟨K, e⟩ := joinRef_go l hl hs l.length 0 (ofL (hidL a.toList)) (by omega) (by omega) (by rw [ofL_size]; omega)
  obtain ⟨K1, e1⟩ := hiddenRef_ev a ha
  refine ⟨K + K1, fun k hk => ?_⟩
  have e : footbridgeref08_Join.l0 k l (ofL (hidL a.toList)) 0 = _ := e k (by omega)
  have e1 : footbridgeref08_hidden.f k a = _ := e1 k (by omega)
  show footbridgeref08_Join.f k a l = _
  unfold footbridgeref08_Join.f
  rw [e1, Option.bind_some, e, ofL_append]
  unfold keyL glue
  rw [List.drop_zero, List.map_map, List.flatMap_map]
  rfl
theorem nBy_pow (s : ByteArray) : ∀ i, nBy s i < 256 ^ i := by
  intro i
  induction i with
  | zero => exact Nat.one_pos
  | succ i ih =>
    have h2 := (bt_range s ((i + 1 : Nat) : Int)).2
    have h3 : nBy s (i + 1) = nBy s i * 256 + (bt s ((i + 1 : Nat) : Int)).toNat := rfl
    rw [h3, Nat.pow_succ]
    omega
/-! ### the document's numbers, texts, readers -/
theorem refNum_go : ∀ (j n : Nat) (acc : ByteArray), n < 256 ^ j → n ≤ 9007199254740992 → acc.size + j ≤ 200 → ∀ k, j < k → footbridgeref01_Num.l0 k (n : Int) acc = some (strOfNums [(((digB j n).length + acc.size : Nat) : Int)] ++ (strOfNums (digB j n) ++ acc), 0) := by
  intro j
  induction j with
  | zero =>
    intro n acc hn hm ha k hk
    obtain ⟨k, rfl⟩ : ∃ m, k = m + 1 := ⟨k - 1, by omega⟩
    have hn0 : n = 0 := by simpa using hn
    subst hn0
    simp only [footbridgeref01_Num.l0]
    rw [if_neg (by omega), Option.bind_some, if_pos (by rw [strOfNums_sz]; simp only [List.length_cons, List.length_nil]; omega)]
    have e : ((acc.size : Int)) % 256 = (((digB 0 0).length + acc.size : Nat) : Int) := by simp only [digB, List.length_nil]; omega
    rw [e]
    refine congrArg some (Prod.ext (ba_ext ?_) rfl)
    simp only [ba_append, strOf_list, digB, List.map_nil, List.nil_append]
  | succ j ih =>
    intro n acc hn hm ha k hk
    obtain ⟨k, rfl⟩ : ∃ m, k = m + 1 := ⟨k - 1, by omega⟩
    simp only [footbridgeref01_Num.l0]
    by_cases h0 : n = 0
    · subst h0
      rw [if_neg (by omega), Option.bind_some, if_pos (by rw [strOfNums_sz]; simp only [List.length_cons, List.length_nil]; omega), digB_0]
      have e : ((acc.size : Int)) % 256 = ((([] : List Int).length + acc.size : Nat) : Int) := by simp only [List.length_nil]; omega
      rw [e]
      refine congrArg some (Prod.ext (ba_ext ?_) rfl)
      simp only [ba_append, strOf_list, List.map_nil, List.nil_append]
    · rw [if_pos (by omega), Option.bind_some, if_pos (by rw [strOfNums_sz]; simp only [List.length_cons, List.length_nil]; omega)]
      have e1 : Int.tmod (n : Int) 256 % 256 = ((n % 256 : Nat) : Int) := by
        rw [Int.tmod_eq_emod_of_nonneg (by omega)]; omega
      have e2 : wrap64 (Int.tdiv (n : Int) 256) = ((n / 256 : Nat) : Int) := by
        rw [Int.tdiv_eq_ediv_of_nonneg (by omega), w64 (by omega) (by omega)]; omega
      rw [e1, e2, ih (n / 256) _ (by rw [Nat.pow_succ] at hn; exact Nat.div_lt_of_lt_mul (by omega)) (by omega) (by rw [ByteArray.size_append, strOfNums_sz]; simp only [List.length_cons, List.length_nil]; omega) k (by omega)]
      have hd : digB (j + 1) n = digB j (n / 256) ++ [((n % 256 : Nat) : Int)] := by show (if n = 0 then [] else _) = _; rw [if_neg h0]
      rw [hd, List.length_append, List.length_singleton, ByteArray.size_append, strOfNums_sz, List.length_singleton, show (digB j (n / 256)).length + (1 + acc.size) = (digB j (n / 256)).length + 1 + acc.size by omega]
      refine congrArg some (Prod.ext (ba_ext ?_) rfl)
      simp only [ba_append, strOf_list, List.map_append, List.map_cons, List.map_nil, List.append_assoc]
theorem refNum_ev (n : Nat) (h : n ≤ 9007199254740992) : Ev (fun k => footbridgeref01_Num.f k (n : Int)) (numB n, 0) := by
  refine ⟨20, fun k hk => ?_⟩
  obtain ⟨k, rfl⟩ : ∃ m, k = m + 1 := ⟨k - 1, by omega⟩
  show footbridgeref01_Num.f (k + 1) (n : Int) = _
  unfold footbridgeref01_Num.f
  rw [if_neg (by omega), show decide ((n : Int) > 9007199254740992) = false from decide_eq_false (by omega)]
  simp only [footbridgeref01_Num.j0]
  rw [if_neg (by simp), refNum_go 8 n _ (by omega) h (by show 0 + 8 ≤ 200; omega) k (by omega)]
  have e : (⟨#[]⟩ : ByteArray).size = 0 := rfl
  rw [e, Nat.add_zero]
  unfold numB
  refine congrArg some (Prod.ext (ba_ext ?_) rfl)
  simp [ba_append, ByteArray.toList_eq]
theorem ref14Key_ev (a : ByteArray) (l : List ByteArray) (ha : a.size ≤ 50000000) (hl : l.length ≤ 1000) (hs : ∀ p ∈ l, p.size ≤ 50000000) : Ev (fun k => footbridgeref14_Key.f k (a :: l)) (keyB a l) := by
  obtain ⟨K, hK⟩ := joinRef_ev a l ha hl hs
  refine ⟨K, fun k hk => ?_⟩
  have e : footbridgeref08_Join.f k a l = _ := hK k hk
  show footbridgeref14_Key.f k (a :: l) = _
  unfold footbridgeref14_Key.f
  rw [if_pos (by simp only [List.length_cons]; omega), if_pos (by simp only [List.length_cons]; omega)]
  show (footbridgeref08_Join.f k a l).bind _ = _
  rw [e, Option.bind_some]
  rfl
theorem ref14Put_ev (l : List S82) (key value : ByteArray) (hs : sortK l) (hl : l.length ≤ 1000000) : Ev (fun k => footbridgeref14_Put.f k l key value) (setK l key value) := by
  refine ⟨1000001, fun k hk => ?_⟩
  show footbridgeref14_Put.f k l key value = _
  unfold footbridgeref14_Put.f
  rw [set_f l key value k hs (by omega) (by omega), Option.bind_some]
theorem ref09Get_ev (l : List S82) (key : ByteArray) (hs : sortK l) (hl : l.length ≤ 1000000) : Ev (fun k => footbridgeref09_Get.f k l key) (getK l key) :=
  ⟨1000001, fun k hk => get_f l key k hs (by omega) (by omega)⟩

/-! ### words: kvtexta.inc -/
/-! ### the document's texts -/
theorem refText_ev (s : ByteArray) : Ev (fun k => footbridgeref01_Text.f k s) (textB s, if (s.size : Int) > 65536 then 4 else 0) := by
  obtain ⟨K, hK⟩ := refNum_ev (if s.size > 65536 then 0 else s.size) (by split <;> omega)
  refine ⟨K, fun k hk => ?_⟩
  show footbridgeref01_Text.f k s = _
  unfold footbridgeref01_Text.f textB
  by_cases h : (s.size : Int) > 65536
  · rw [if_pos h, if_pos h, if_pos h]
  · have e : footbridgeref01_Num.f k (((if s.size > 65536 then 0 else s.size : Nat)) : Int) = _ := hK k hk
    rw [if_neg (by omega)] at e
    have hl := numB_len s.size
    rw [if_neg h, if_neg h, if_neg h, e, Option.bind_some, if_pos (by show (numB s.size).size + s.size ≤ _; omega)]
theorem ref14Text_ev (s : ByteArray) : Ev (fun k => footbridgeref14_Text.f k s) (textB s) := by
  obtain ⟨K, hK⟩ := refText_ev s
  refine ⟨K, fun k hk => ?_⟩
  have e : footbridgeref01_Text.f k s = _ := hK k hk
  show footbridgeref14_Text.f k s = _
  unfold footbridgeref14_Text.f
  rw [e, Option.bind_some]

/-! ### words: clrefa.inc -/
/-! ### the document's classes -/
theorem keyB_len1 (a p : ByteArray) : (keyB a [p]).size ≤ 2 * a.size + 1 + 2 * p.size := by
  have h1 := hidL_len a.toList
  have h2 := hidL_len p.toList
  rw [← ba_size] at h1 h2
  unfold keyB keyL glue
  rw [ofL_size]
  simp only [List.map_cons, List.map_nil, List.flatMap_cons, List.flatMap_nil, List.length_append, List.length_cons, List.length_nil]
  omega
theorem valB3 (a b c : ByteArray) : valB [a, b, c] = (textB a ++ textB b) ++ textB c := by
  show (((⟨#[]⟩ : ByteArray) ++ textB a) ++ textB b) ++ textB c = _
  rw [show (⟨#[]⟩ : ByteArray) ++ textB a = textB a from ba_ext (by rw [ba_append]; simp [ByteArray.toList_eq])]
theorem ref22Key_ev (id : ByteArray) (h : id.size ≤ 50000000) : Ev (fun k => footbridgeref22_key.f k id) (keyB (⟨#[99, 108, 97, 115, 115]⟩ : ByteArray) [id]) := by
  obtain ⟨K, hK⟩ := ref14Key_ev (⟨#[99, 108, 97, 115, 115]⟩ : ByteArray) [id] (by show 5 ≤ 50000000; omega) (by show 1 ≤ 1000; omega) (fun p hp => by obtain rfl := List.mem_singleton.1 hp; exact h)
  refine ⟨K, fun k hk => ?_⟩
  have e : footbridgeref14_Key.f k [(⟨#[99, 108, 97, 115, 115]⟩ : ByteArray), id] = _ := hK k hk
  show footbridgeref22_key.f k id = _
  unfold footbridgeref22_key.f
  rw [e, Option.bind_some]
theorem getK_2 (cur : List S82) (key : ByteArray) : (getK cur key).2 = hasK cur key := by unfold getK; cases hasK cur key <;> rfl
theorem ref22New_ev (cur : List S82) (c0 c1 c2 c3 : ByteArray) (h : KV 1000 cur) (h0 : c0.size ≤ 1000) (h1 : c1.size ≤ 40000) (h2 : c2.size ≤ 40000) (h3 : c3.size ≤ 1000) : Ev (fun k => footbridgeref22_New.f k cur c0 c1 c2 c3) (clNew cur c0 c1 c2 c3, clNewE cur c0 c1 c2 c3) := by
  have hlen := h.len
  obtain ⟨K1, hh1⟩ := ref14Text_ev c1
  obtain ⟨K2, hh2⟩ := ref14Text_ev c2
  obtain ⟨K3, hh3⟩ := ref14Text_ev c3
  obtain ⟨K4, hh4⟩ := ref22Key_ev c0 (by omega)
  obtain ⟨K5, hh5⟩ := ref14Put_ev cur (keyB (⟨#[99, 108, 97, 115, 115]⟩ : ByteArray) [c0]) (valB [c1, c2, c3]) h.so (by omega)
  have hkl := keyB_len1 (⟨#[99, 108, 97, 115, 115]⟩ : ByteArray) c0
  have l1 := textB_len c1
  have l2 := textB_len c2
  have l3 := textB_len c3
  have hvl : (valB [c1, c2, c3]).size = (textB c1).size + (textB c2).size + (textB c3).size := by rw [valB3, ByteArray.size_append, ByteArray.size_append]
  refine ⟨K1 + K2 + K3 + K4 + K5 + 1000005, fun k hk => ?_⟩
  obtain ⟨m, rfl⟩ : ∃ m, k = m + 2 := ⟨k - 2, by omega⟩
  have t1 : footbridgeref14_Text.f (m + 2) c1 = _ := hh1 _ (by omega)
  have t2 : footbridgeref14_Text.f (m + 2) c2 = _ := hh2 _ (by omega)
  have t3 : footbridgeref14_Text.f (m + 2) c3 = _ := hh3 _ (by omega)
  have t4 : footbridgeref22_key.f (m + 2) c0 = _ := hh4 _ (by omega)
  have t5 : footbridgeref22_key.f m c0 = _ := hh4 _ (by omega)
  have t6 : footbridgeref14_Put.f m cur _ _ = _ := hh5 _ (by omega)
  have t7 : footbridgeref09_Get.f (m + 2) cur (keyB (⟨#[99, 108, 97, 115, 115]⟩ : ByteArray) [c0]) = _ := get_f cur _ (m + 2) h.so (by omega) (by omega)
  show footbridgeref22_New.f (m + 2) cur c0 c1 c2 c3 = _
  unfold footbridgeref22_New.f
  have e5 : (⟨#[99, 108, 97, 115, 115]⟩ : ByteArray).size = 5 := rfl
  rw [e5] at hkl
  rw [t1, Option.bind_some, t2, Option.bind_some, if_pos (by omega), t3, Option.bind_some, if_pos (by rw [ByteArray.size_append]; omega), t4, Option.bind_some, t7, Option.bind_some, ← valB3, getK_2]
  unfold clNew clNewE
  by_cases a1 : c0.size = 0
  · rw [if_pos (by omega), if_pos (.inl a1), if_pos (.inl a1)]
    simp only [footbridgeref22_New.j0]
    rw [if_pos trivial]
  rw [if_neg (by omega)]
  by_cases a2 : c0.size > 512
  · rw [if_pos (by omega), if_pos (.inr (.inl a2)), if_pos (.inr (.inl a2))]
    simp only [footbridgeref22_New.j0]
    rw [if_pos trivial]
  rw [if_neg (by omega)]
  by_cases a3 : c3.size > 512
  · rw [if_pos (.inr (.inr a3)), if_pos (.inr (.inr a3)), decide_eq_true (by omega)]
    simp only [footbridgeref22_New.j0]
    rw [if_pos trivial]
  have n1 : ¬ (c0.size = 0 ∨ c0.size > 512 ∨ c3.size > 512) := by omega
  rw [if_neg n1, if_neg n1, decide_eq_false (by omega)]
  simp only [footbridgeref22_New.j0]
  rw [if_neg (by simp)]
  by_cases a4 : c1.size > 32768
  · have p2 : c1.size > 32768 ∨ c2.size > 16384 := .inl a4
    have p3 : (c1.size : Int) > 32768 := by omega
    rw [if_pos p3, if_pos p2, if_pos p2]
    simp only [footbridgeref22_New.j1]
    rw [if_pos trivial]
  have p3 : ¬ (c1.size : Int) > 32768 := by omega
  rw [if_neg p3]
  by_cases a5 : c2.size > 16384
  · have p2 : c1.size > 32768 ∨ c2.size > 16384 := .inr a5
    rw [if_pos p2, if_pos p2, decide_eq_true (by omega)]
    simp only [footbridgeref22_New.j1]
    rw [if_pos trivial]
  have n2 : ¬ (c1.size > 32768 ∨ c2.size > 16384) := by omega
  rw [if_neg n2, if_neg n2, decide_eq_false (by omega)]
  simp only [footbridgeref22_New.j1]
  rw [if_neg (by simp)]
  by_cases a6 : hasK cur (keyB (⟨#[99, 108, 97, 115, 115]⟩ : ByteArray) [c0]) = true
  · rw [if_pos a6, if_pos a6, if_pos a6]
  · rw [if_neg a6, if_neg a6, if_neg a6, t5, Option.bind_some, t6, Option.bind_some]
    unfold setC setE
    have n3 : ¬ ((keyB (⟨#[99, 108, 97, 115, 115]⟩ : ByteArray) [c0]).size > 65536 ∨ (valB [c1, c2, c3]).size > 65536) := by omega
    rw [if_neg n3, if_neg n3]

/-! ### words: hidinj.inc -/
/-! ### hidden texts are unlike -/
theorem hidL_inj : ∀ a b : List UInt8, hidL a = hidL b → a = b
  | [], [], _ => rfl
  | [], y :: b, h => by
    rw [hidL_cons] at h
    split at h
    · cases h
    · split at h <;> cases h
  | x :: a, [], h => by
    rw [hidL_cons] at h
    split at h
    · cases h
    · split at h <;> cases h
  | x :: a, y :: b, h => by
    rw [hidL_cons, hidL_cons] at h
    by_cases x1 : x = 37
    · rw [if_pos x1] at h
      by_cases y1 : y = 37
      · rw [if_pos y1] at h
        rw [x1, y1, hidL_inj a b (by simpa using h)]
      · rw [if_neg y1] at h
        by_cases y2 : y = 47
        · rw [if_pos y2] at h; simp at h
        · rw [if_neg y2] at h; simp only [List.cons_append, List.nil_append, List.cons.injEq] at h; exact absurd h.1.symm y1
    · rw [if_neg x1] at h
      by_cases x2 : x = 47
      · rw [if_pos x2] at h
        by_cases y1 : y = 37
        · rw [if_pos y1] at h; simp at h
        · rw [if_neg y1] at h
          by_cases y2 : y = 47
          · rw [if_pos y2] at h
            rw [x2, y2, hidL_inj a b (by simpa using h)]
          · rw [if_neg y2] at h; simp only [List.cons_append, List.nil_append, List.cons.injEq] at h; exact absurd h.1.symm y1
      · rw [if_neg x2] at h
        by_cases y1 : y = 37
        · rw [if_pos y1] at h; simp only [List.cons_append, List.nil_append, List.cons.injEq] at h; exact absurd h.1 x1
        · rw [if_neg y1] at h
          by_cases y2 : y = 47
          · rw [if_pos y2] at h; simp only [List.cons_append, List.nil_append, List.cons.injEq] at h; exact absurd h.1 x1
          · rw [if_neg y2] at h
            simp only [List.cons_append, List.nil_append, List.cons.injEq] at h
            rw [h.1, hidL_inj a b h.2]
theorem ofL_inj {a b : List UInt8} (h : ofL a = ofL b) : a = b := by
  have h2 := congrArg ByteArray.toList h
  rwa [ofL_toList, ofL_toList] at h2

end Go.Proofs.YtjappgjpikbdeaaGreatDoor.PTkk
