-- written by wip/myprint.py over the kit's print; not a printed text of print.sh
import Derived.Test.YtonipkgekhdogaaGreatDoorPBasx0
import Derived.Test.YtonipkgekhdogaaGreatDoorPBasx2
import Derived.Test.YtonipkgekhdogaaGreatDoorPBasx7
import Derived.Test.YtonipkgekhdogaaGreatDoorPBasx12
import Derived.Test.YtonipkgekhdogaaGreatDoorPBasx16
import Derived.Test.YtonipkgekhdogaaGreatDoorPBasx17
import Derived.Test.YtonipkgekhdogaaGreatDoorPBasx18
import Derived.Test.YtonipkgekhdogaaGreatDoorPBasx24
import Derived.Test.YtonipkgekhdogaaGreatDoorPBasx25
import Derived.Test.YtonipkgekhdogaaGreatDoorPBasx33
import Derived.Test.YtonipkgekhdogaaGreatDoorPBasx34
import Derived.Test.YtonipkgekhdogaaGreatDoorPBasx36
namespace Go.Proofs.YtonipkgekhdogaaGreatDoor.PBas
open Go.RowKit Go.Proofs.YtonipkgekhdogaaGreatDoorW.PrintWords Go.Proofs.YtonipkgekhdogaaGreatDoorW.PrintLast Go.Proofs.YtonipkgekhdogaaGreatDoorW.PrintMore
attribute [local go_sem] max2_int min2_int max_two min_two max_three min_three max_four min_four   -- for this text's walks alone
set_option linter.unusedVariables false
set_option linter.unusedSimpArgs false

/-! ### words: bkx.inc -/
theorem sortK_bk {l : List S73} (hs : sortK l) (key : ByteArray) (n : Int) : sortK (bkSet l key n) := by
  unfold bkSet
  split
  · exact sortK_del hs _
  · exact sortK_setC hs _ _
/-- What a number's key has behind a set. -/
def bkVal (old : ByteArray × Bool) (key : ByteArray) (n : Int) : ByteArray × Bool := if n = 0 then ((⟨#[]⟩ : ByteArray), false) else if key.size > 65536 ∨ (bkNum n).size > 65536 then old else (bkNum n, true)
theorem getK_bk {l : List S73} (hs : sortK l) (key : ByteArray) (n : Int) (k2 : ByteArray) : getK (bkSet l key n) k2 = if k2 = key then bkVal (getK l k2) key n else getK l k2 := by
  unfold bkSet bkVal
  by_cases h0 : n = 0
  · rw [if_pos h0, if_pos h0, getK_delK hs]
  · rw [if_neg h0, if_neg h0, getK_setC hs]
    by_cases h : k2 = key
    · rw [if_pos h]
      by_cases hb : key.size > 65536 ∨ (bkNum n).size > 65536
      · rw [if_pos hb, if_neg (fun e => e.2 hb)]
      · rw [if_neg hb, if_pos ⟨h, hb⟩]
    · rw [if_neg h, if_neg (fun e => h e.1)]
/-- Two numbers at unlike keys: the order does not matter. -/
theorem bk_swap {l : List S73} (hs : sortK l) {k1 k2 : ByteArray} (h : k1 ≠ k2) (n1 n2 : Int) : bkSet (bkSet l k1 n1) k2 n2 = bkSet (bkSet l k2 n2) k1 n1 := by
  refine sortK_get (sortK_bk (sortK_bk hs _ _) _ _) (sortK_bk (sortK_bk hs _ _) _ _) (fun k => ?_)
  rw [getK_bk (sortK_bk hs _ _), getK_bk hs, getK_bk (sortK_bk hs _ _), getK_bk hs]
  by_cases h1 : k = k1
  · have h2 : k ≠ k2 := fun e => h (h1.symm.trans e)
    rw [if_neg h2, if_pos h1, if_pos h1, if_neg h2]
  · by_cases h2 : k = k2
    · rw [if_pos h2, if_neg h1, if_neg h1, if_pos h2]
    · rw [if_neg h2, if_neg h1, if_neg h1, if_neg h2]

/-! ### words: kround.inc -/
/-! ### a number that is put is read: plain -/
theorem strOf_list (l : List Int) : (strOfNums l).toList = l.map fun n => UInt8.ofNat n.toNat := by rw [ByteArray.toList_eq, strOfNums_data]
def valD (l : List Int) : Nat := l.foldl (fun a d => a * 256 + d.toNat) 0
theorem valD_snoc (l : List Int) (d : Int) : valD (l ++ [d]) = valD l * 256 + d.toNat := by unfold valD; rw [List.foldl_append]; rfl
theorem digB_val : ∀ k n, n < 256 ^ k → valD (digB k n) = n
  | 0, n, h => by
    have : n = 0 := by simpa using h
    subst this; rfl
  | k + 1, n, h => by
    unfold digB
    split
    · rename_i h0; subst h0; rfl
    · rw [valD_snoc, digB_val k (n / 256) (by rw [Nat.pow_succ] at h; exact Nat.div_lt_of_lt_mul (by omega)), Int.toNat_natCast]; omega
theorem digB_rng : ∀ k n, ∀ d ∈ digB k n, 0 ≤ d ∧ d < 256
  | 0, _, d, h => by simp [digB] at h
  | k + 1, n, d, h => by
    unfold digB at h
    split at h
    · simp at h
    · rcases List.mem_append.1 h with h | h
      · exact digB_rng k _ d h
      · obtain rfl := List.mem_singleton.1 h
        omega
theorem digB_le : ∀ k n m, n < 256 ^ m → (digB k n).length ≤ m
  | 0, _, _, _ => Nat.zero_le _
  | k + 1, n, m, h => by
    unfold digB
    split
    · exact Nat.zero_le _
    · cases m with
      | zero => simp at h; omega
      | succ m =>
        have := digB_le k (n / 256) m (by rw [Nat.pow_succ] at h; exact Nat.div_lt_of_lt_mul (by omega))
        rw [List.length_append, List.length_singleton]; omega
theorem digB_0 : ∀ k, digB k 0 = []
  | 0 => rfl
  | k + 1 => by unfold digB; exact if_pos rfl
theorem digB_head : ∀ k n, n < 256 ^ k → n ≠ 0 → ∃ d t, digB k n = d :: t ∧ d ≠ 0
  | 0, n, h, h0 => by simp at h; omega
  | k + 1, n, h, h0 => by
    unfold digB
    rw [if_neg h0]
    by_cases h1 : n / 256 = 0
    · rw [h1, digB_0]; exact ⟨_, _, rfl, by omega⟩
    · obtain ⟨d, t, e, hd⟩ := digB_head k (n / 256) (by rw [Nat.pow_succ] at h; exact Nat.div_lt_of_lt_mul (by omega)) h1
      rw [e]; exact ⟨d, _, rfl, hd⟩
theorem nBy_val {s : ByteArray} {ds : List Int} (h : ∀ i (hi : i < ds.length), bt s ((i + 1 : Nat) : Int) = ds[i]) : ∀ i, i ≤ ds.length → nBy s i = valD (ds.take i)
  | 0, _ => by rw [List.take_zero]; rfl
  | i + 1, hi => by
    have e : nBy s (i + 1) = nBy s i * 256 + (bt s ((i + 1 : Nat) : Int)).toNat := rfl
    rw [e, nBy_val h i (by omega), h i (by omega), List.take_add_one, List.getElem?_eq_getElem (by omega)]
    exact (valD_snoc _ _).symm
theorem bt_put {a : List Int} {t : ByteArray} (hr : ∀ d ∈ a, 0 ≤ d ∧ d < 256) (i : Nat) (hi : i < a.length) : bt (strOfNums a ++ t) (i : Int) = a[i] := by
  have hl : i < (strOfNums a ++ t).toList.length := by rw [ba_append, strOf_list, List.length_append, List.length_map]; omega
  rw [bt_get _ i hl]
  have e : (strOfNums a ++ t).toList[i] = UInt8.ofNat (a[i]).toNat := by
    simp only [ba_append, strOf_list]
    rw [List.getElem_append_left (by rw [List.length_map]; exact hi), List.getElem_map]
  rw [e]
  have := hr _ (List.getElem_mem hi)
  rw [UInt8.toNat_ofNat']
  omega
theorem numB_one (n : Nat) : numB n = strOfNums (((digB 8 n).length : Int) :: digB 8 n) := by
  unfold numB
  apply ba_ext
  rw [ba_append, strOf_list, strOf_list, strOf_list]; rfl
theorem numW_numB (n : Nat) (h : n ≤ 9007199254740992) (t : ByteArray) : numW (numB n ++ t) = ((n : Int), ((digB 8 n).length : Int) + 1, 0) := by
  have h7 : (digB 8 n).length ≤ 7 := digB_le 8 n 7 (by omega)
  have hr : ∀ d ∈ (((digB 8 n).length : Int) :: digB 8 n), 0 ≤ d ∧ d < 256 := fun d hd => by
    rcases List.mem_cons.1 hd with rfl | hd
    · omega
    · exact digB_rng _ _ d hd
  have hv := digB_val 8 n (by omega)
  have hh := digB_head 8 n (by omega)
  have h0 := digB_0 8
  rw [numB_one]
  generalize hD : digB 8 n = D at h7 hr hv hh
  have b0 : bt (strOfNums ((D.length : Int) :: D) ++ t) 0 = (D.length : Int) := bt_put hr 0 (by simp)
  have hb : ∀ i (hi : i < D.length), bt (strOfNums ((D.length : Int) :: D) ++ t) ((i + 1 : Nat) : Int) = D[i] := fun i hi => bt_put hr (i + 1) (by simpa using hi)
  have hn : nBy (strOfNums ((D.length : Int) :: D) ++ t) D.length = n := by rw [nBy_val hb D.length (Nat.le_refl _), List.take_length, hv]
  have hs : (strOfNums ((D.length : Int) :: D) ++ t).size = D.length + 1 + t.size := by rw [ByteArray.size_append, strOfNums_sz, List.length_cons]
  unfold numW wire_number.f
  rw [if_neg (by omega), b0, if_neg (by
    rintro (e | ⟨e1, e2, e3⟩)
    · omega
    · by_cases hz : n = 0
      · rw [hz, h0] at hD; subst hD; simp at e1
      · obtain ⟨d, u, e, hd⟩ := hh hz
        have := hb 0 (by omega)
        subst e
        exact hd (this.symm.trans e3)), if_neg (by omega), Int.toNat_natCast, hn, if_neg (by omega)]
  rfl
theorem rNum_numB (n : Nat) (h : n ≤ 9007199254740992) (t : ByteArray) : rNum (numB n ++ t) 0 = ((n : Int), t, 0) := by
  unfold rNum
  rw [numW_numB n h t, if_pos rfl]
  dsimp only
  rw [if_pos rfl]
  congr 2
  apply ba_ext
  rw [ba_extract, ba_size (numB n ++ t), List.take_length, ba_append]
  have hl : (numB n).toList.length = (((digB 8 n).length : Int) + 1).toNat := by rw [← ba_size, numB_one, strOfNums_sz, List.length_cons]; omega
  rw [← hl, List.drop_left]
theorem rNum_numB0 (n : Nat) (h : n ≤ 9007199254740992) : rNum (numB n) 0 = ((n : Int), (⟨#[]⟩ : ByteArray), 0) := by
  have := rNum_numB n h (⟨#[]⟩ : ByteArray)
  rw [show numB n ++ (⟨#[]⟩ : ByteArray) = numB n from ba_ext (by rw [ba_append]; simp [ByteArray.toList_eq])] at this
  exact this

/-! ### words: ref09.inc -/
theorem fk_of_V {α : Type} {d : Kd α} {e e' base : Nat} {W : World} {ok : Nat → Prop} {v : Value} {xs : List α} (h : Kd.V d e W base ok v xs) : Kd.FK (Kd.slice e' d) W ok xs [v] := by
  obtain ⟨A, c, rfl, hl, hf⟩ := h
  exact Kd.FK_slice_mk hl hf
theorem fk_of_R {α : Type} {d : Kd α} {e e' base : Nat} {W : World} {ok : Nat → Prop} {v : Value} {xs : List α} (h : Kd.R d e W base ok v xs) : Kd.FK (Kd.slice e' d) W ok xs [v] := by
  obtain ⟨A, c, rfl⟩ := Kd.R_slice h
  exact Kd.FK_slice_mk (Kd.R_reads' h).2.1 (Kd.R_F h)
theorem at_l0 (l : List S73) (key : ByteArray) (hs : sortK l) (hl : l.length ≤ 1000000000) : ∀ m j k, l.length - j = m → j ≤ posK l key → m < k → footbridgeref09_at.l0 k l key (j : Int) = some ((posK l key : Nat) : Int) := by
  have hp := posK_le l key
  intro m
  induction m with
  | zero =>
    intro j k h1 h2 h3
    obtain ⟨k, rfl⟩ : ∃ k', k = k' + 1 := ⟨k - 1, by omega⟩
    obtain rfl : j = posK l key := by omega
    rw [footbridgeref09_at.l0, if_neg (by omega)]
  | succ m ih =>
    intro j k h1 h2 h3
    obtain ⟨k, rfl⟩ : ∃ k', k = k' + 1 := ⟨k - 1, by omega⟩
    have hj : j < l.length := by omega
    rw [footbridgeref09_at.l0, if_pos (by omega), if_pos (by omega), rdP l j hj]
    have hsp := posK_spec l key hs j hj
    by_cases hlt : j < posK l key
    · rw [decide_eq_true hlt] at hsp
      unfold kLt at hsp
      rw [if_pos hsp, w64p j (by omega)]
      exact ih (j + 1) k (by omega) (by omega) (by omega)
    · rw [decide_eq_false hlt] at hsp
      obtain rfl : j = posK l key := by omega
      rw [if_neg (by intro h; unfold kLt at hsp; rw [h] at hsp; exact absurd hsp (by simp))]
theorem at_f (l : List S73) (key : ByteArray) (k : Nat) (hs : sortK l) (hl : l.length ≤ 1000000000) (hk : l.length < k) : footbridgeref09_at.f k l key = some ((posK l key : Nat) : Int) := at_l0 l key hs hl l.length 0 k (by omega) (by omega) hk
theorem hasK_cases (l : List S73) (key : ByteArray) : (∃ hp : posK l key < l.length, hasK l key = (l[posK l key].f0.toList == key.toList)) ∨ (posK l key = l.length ∧ hasK l key = false) := by
  have hp := posK_le l key
  by_cases h : posK l key < l.length
  · refine .inl ⟨h, ?_⟩
    unfold hasK
    rw [List.getElem?_eq_getElem h]
  · refine .inr ⟨by omega, ?_⟩
    unfold hasK
    rw [List.getElem?_eq_none (by omega)]
theorem get_f (l : List S73) (key : ByteArray) (k : Nat) (hs : sortK l) (hl : l.length ≤ 1000000000) (hk : l.length < k) : footbridgeref09_Get.f k l key = some (getK l key) := by
  unfold footbridgeref09_Get.f getK
  rw [at_f l key k hs hl hk, Option.bind_some]
  rcases hasK_cases l key with ⟨hp, hh⟩ | ⟨hp, hh⟩
  · rw [if_pos (by omega), if_pos (by omega), hh]
    rw [rdP l _ hp]
    by_cases he : l[posK l key].f0.toList = key.toList
    · rw [if_pos he, if_pos (beq_iff_eq.2 he)]
    · rw [if_neg he, if_neg (by rw [beq_eq_false_iff_ne.2 he]; simp)]
  · rw [if_neg (by omega), hh, if_neg (by simp)]
theorem set_f (l : List S73) (key value : ByteArray) (k : Nat) (hs : sortK l) (hl : l.length ≤ 1000000000) (hk : l.length < k) : footbridgeref09_Set.f k l key value = some (setK l key value, !hasK l key) := by
  unfold footbridgeref09_Set.f setK
  rw [at_f l key k hs hl hk, Option.bind_some]
  have hd : ∀ i, (l.drop i).length ≤ 1000000000 := fun i => by rw [List.length_drop]; omega
  have ht : ∀ i, (l.take i).length ≤ 1000000000 := fun i => by rw [List.length_take]; omega
  rcases hasK_cases l key with ⟨hp, hh⟩ | ⟨hp, hh⟩
  · rw [if_neg (by omega), if_pos (by omega), if_pos (by omega), if_pos (by omega), Option.bind_some, rdP l _ hp, Int.toNat_natCast]
    have h1 := ht (posK l key)
    have h2 := hd (posK l key)
    have h3 := hd (posK l key + 1)
    by_cases he : l[posK l key].f0.toList = key.toList
    · have hk1 : l[posK l key].f0 = key := ba_ext he
      rw [if_neg (not_not_intro he), w64p _ (by omega), if_pos (by omega), if_pos (by omega), Int.toNat_natCast, Option.bind_some, Option.bind_some, List.nil_append, if_pos (by simp only [List.length_nil]; omega), Option.bind_some, if_pos (by omega), Option.bind_some, if_pos (by rw [List.length_append]; simp only [List.length_cons, List.length_nil]; omega)]
      rw [hh, if_pos (beq_iff_eq.2 he), beq_iff_eq.2 he, bne, beq_iff_eq.2 he]
      congr 2
      rw [List.set_eq_take_append_cons_drop, if_pos hp, List.append_assoc]; rfl
    · rw [if_pos he, Option.bind_some, List.nil_append, if_pos (by simp only [List.length_nil]; omega), Option.bind_some, if_pos (by omega), Option.bind_some, if_pos (by rw [List.length_append]; simp only [List.length_cons, List.length_nil]; omega)]
      rw [hh, if_neg (by rw [beq_eq_false_iff_ne.2 he]; simp), bne, beq_eq_false_iff_ne.2 he, List.append_assoc]
      rfl
  · have h1 := ht (posK l key)
    have h2 := hd (posK l key)
    rw [if_pos (by omega), if_pos (by omega), if_pos (by omega), Option.bind_some, Option.bind_some, Int.toNat_natCast, List.nil_append, if_pos (by simp only [List.length_nil]; omega), Option.bind_some, if_pos (by omega), Option.bind_some, if_pos (by rw [List.length_append]; simp only [List.length_cons, List.length_nil]; omega)]
    rw [hh, if_neg (by simp), List.append_assoc]
    rfl
theorem del_f (l : List S73) (key : ByteArray) (k : Nat) (hs : sortK l) (hl : l.length ≤ 1000000000) (hk : l.length < k) : footbridgeref09_Del.f k l key = some (delK l key, hasK l key) := by
  unfold footbridgeref09_Del.f delK
  rw [at_f l key k hs hl hk, Option.bind_some]
  have hd : ∀ i, (l.drop i).length ≤ 1000000000 := fun i => by rw [List.length_drop]; omega
  have ht : ∀ i, (l.take i).length ≤ 1000000000 := fun i => by rw [List.length_take]; omega
  rcases hasK_cases l key with ⟨hp, hh⟩ | ⟨hp, hh⟩
  · have h1 := ht (posK l key)
    have h3 := hd (posK l key + 1)
    rw [if_neg (by omega), if_pos (by omega), if_pos (by omega), rdP l _ hp]
    by_cases he : l[posK l key].f0.toList = key.toList
    · rw [if_pos he, if_pos (by omega), Option.bind_some, Int.toNat_natCast, List.nil_append, if_pos (by simp only [List.length_nil]; omega), Option.bind_some, w64p _ (by omega), if_pos (by omega), if_pos (by omega), Int.toNat_natCast, Option.bind_some, if_pos (by omega)]
      rw [hh, beq_iff_eq.2 he, if_pos rfl]
    · rw [if_neg he, hh, beq_eq_false_iff_ne.2 he, if_neg (by simp)]
  · rw [if_pos (by omega), hh, if_neg (by simp)]
theorem same_l0 (l : List S73) (hl : l.length ≤ 1000000000) : ∀ m j k, l.length - j = m → m < k → footbridgeref09_Same.l0 k l l (j : Int) = some true := by
  intro m
  induction m with
  | zero =>
    intro j k h1 h2
    obtain ⟨k, rfl⟩ : ∃ k', k = k' + 1 := ⟨k - 1, by omega⟩
    rw [footbridgeref09_Same.l0, if_neg (by omega)]
  | succ m ih =>
    intro j k h1 h2
    obtain ⟨k, rfl⟩ : ∃ k', k = k' + 1 := ⟨k - 1, by omega⟩
    rw [footbridgeref09_Same.l0, if_pos (by omega), if_pos (by omega), if_pos (by omega), if_neg (by simp), w64p j (by omega)]
    exact ih (j + 1) k (by omega) (by omega)
theorem same_f (l : List S73) (k : Nat) (hl : l.length ≤ 1000000000) (hk : l.length < k) : footbridgeref09_Same.f k l l = some true := by
  unfold footbridgeref09_Same.f
  rw [if_pos rfl]
  exact same_l0 l hl l.length 0 k (by omega) hk

end Go.Proofs.YtonipkgekhdogaaGreatDoor.PBas
