-- written by wip/myprint.py over the kit's print; not a printed text of print.sh
import Derived.Test.YtjappgjpikbdeaaGreatDoorPTkkx0
import Derived.Test.YtjappgjpikbdeaaGreatDoorPTkkx3
import Derived.Test.YtjappgjpikbdeaaGreatDoorPTkkx9
import Derived.Test.YtjappgjpikbdeaaGreatDoorPTkkx10
import Derived.Test.YtjappgjpikbdeaaGreatDoorPTkkx12
import Derived.Test.YtjappgjpikbdeaaGreatDoorPTkkx14
import Derived.Test.YtjappgjpikbdeaaGreatDoorPTkkx15
import Derived.Test.YtjappgjpikbdeaaGreatDoorPTkkx21
namespace Go.Proofs.YtjappgjpikbdeaaGreatDoor.PTkk
open Go.RowKit Go.Proofs.YtjappgjpikbdeaaGreatDoorW.PrintWords Go.Proofs.YtjappgjpikbdeaaGreatDoorW.PrintLast Go.Proofs.YtjappgjpikbdeaaGreatDoorW.PrintMore
attribute [local go_sem] max2_int min2_int max_two min_two max_three min_three max_four min_four   -- for this text's walks alone
set_option linter.unusedVariables false
set_option linter.unusedSimpArgs false

/-! ### words: j1.inc -/
/-! ### a journal without levels, and the document's store, beside each other -/
/-- A journal (blocks from n on), and a store v of pairs that lies elsewhere. -/
def J1 (n g : Nat) (cur : List S82) (v : Value) (l : List S82) (W : World) : Prop :=
  ∃ ok : Nat → Prop, (∀ k, ok k → n ≤ k ∧ k < W.heap.size) ∧ JM n ok g ⟨cur, []⟩ W ∧ Kd.V k82 82 W 0 (fun k => ¬ ok k) v l
theorem J1.of {n g : Nat} {cur : List S82} {v : Value} {l : List S82} {W : World} {ok : Nat → Prop} (hm : JM n ok g ⟨cur, []⟩ W) (hv : Kd.V k82 82 W 0 (fun k => ¬ ok k) v l) : J1 n g cur v l W :=
  ⟨_, fun k hk => ⟨hk.2.1, hk.2.2.1⟩, hm.bound, Kd.V_mono hv (fun k hk h => hk h.1)⟩
theorem J1.below {n g : Nat} {cur : List S82} {v : Value} {l : List S82} {W W' : World} (h : J1 n g cur v l W) (hb : Below W.heap.size W W') : J1 n g cur v l W' := by
  obtain ⟨ok, h1, h2, h3⟩ := h
  exact ⟨ok, fun k hk => ⟨(h1 k hk).1, Nat.lt_of_lt_of_le (h1 k hk).2 hb.size⟩, h2.below hb, Kd.V_below h3 hb⟩
/-- A deed of the journal: the document's store stays. -/
theorem J1.did {n g : Nat} {cur : List S82} {v : Value} {l : List S82} {ok : Nat → Prop} {W W' : World} (hv : Kd.V k82 82 W 0 (fun k => ¬ ok k) v l)
    (h : JS n ok W g cur W') : J1 n g cur v l W' :=
  J1.of h.m (Kd.V_mono (Kd.V_step (Kd.V_bound hv) (fun k hk hlt => h.jw.block k hlt hk.1)) (fun k hk h => h.elim hk.1 (fun h => by have := hk.2; omega)))
/-! ### stores: plain -/
theorem hasK_in {l : List S82} {key : ByteArray} (h : hasK l key = true) : ∃ p ∈ l, p.f0 = key := by
  obtain ⟨hp, e⟩ := hasK_lt h
  exact ⟨_, List.getElem_mem hp, e⟩
theorem hasK_not {l : List S82} {key : ByteArray} (h : ∀ p ∈ l, p.f0 ≠ key) : hasK l key = false := by
  cases e : hasK l key with
  | false => rfl
  | true => obtain ⟨p, hp, hk⟩ := hasK_in e; exact absurd hk (h p hp)
theorem getK_no {l : List S82} {key : ByteArray} (h : hasK l key = false) : getK l key = ((⟨#[]⟩ : ByteArray), false) := by unfold getK; rw [h]; rfl
theorem mem_setK {l : List S82} {key value : ByteArray} {p : S82} (h : p ∈ setK l key value) : p = ⟨key, value⟩ ∨ p ∈ l := by
  unfold setK at h
  split at h
  · rcases List.mem_or_eq_of_mem_set h with h | h
    · exact .inr h
    · exact .inl h
  · rcases List.mem_append.1 h with h | h
    · exact .inr (List.mem_of_mem_take h)
    · rcases List.mem_cons.1 h with h | h
      · exact .inl h
      · exact .inr (List.mem_of_mem_drop h)
theorem mem_delK {l : List S82} {key : ByteArray} {p : S82} (h : p ∈ delK l key) : p ∈ l := by
  unfold delK at h
  split at h
  · rcases List.mem_append.1 h with h | h
    · exact List.mem_of_mem_take h
    · exact List.mem_of_mem_drop h
  · exact h
/-- What is set is there. -/
theorem getK_set {l : List S82} (hs : sortK l) (key value : ByteArray) : getK (setK l key value) key = (value, true) := by
  obtain ⟨A, B, hA, hB, h⟩ := decK hs key
  rcases h with ⟨_, x, hx, rfl⟩ | ⟨hn, rfl⟩
  · rw [setK_mid value hA hx hB]; exact getK_mid hA rfl hB
  · rw [setK_new value hA hB hn]; exact getK_mid hA rfl hB
theorem hasK_set {l : List S82} (hs : sortK l) (key value : ByteArray) : hasK (setK l key value) key = true := by
  have h := getK_set hs key value
  unfold getK at h
  split at h
  · assumption
  · cases h
/-- The first byte of a key is its word's. -/
theorem key_head (a : ByteArray) (l : List ByteArray) (c : UInt8) (t : List UInt8) (h : a.toList = c :: t) (h1 : c ≠ 37) (h2 : c ≠ 47) : (keyB a l).toList.head? = some c := by
  unfold keyB keyL glue
  rw [ofL_toList, h, hidL_cons, if_neg h1, if_neg h2]
  rfl
/-! ### what stands elsewhere than the journal -/
theorem V_js {n g t : Nat} {ok : Nat → Prop} {cur l : List S82} {v : Value} {w0 W : World} (h : JS n ok w0 g cur W) (hv : Kd.V k82 t w0 0 (fun k => ¬ ok k) v l) : Kd.V k82 t W 0 (fun k => ¬ ok k ∧ k < w0.heap.size) v l :=
  Kd.V_step (Kd.V_bound hv) (fun k hk hlt => h.jw.block k hlt hk.1)
theorem V_C {P : Nat → Prop} {A : Option Addr} {c m t : Nat} {l : List S82} {W : World} (h : Kd.V k82 t W 0 P (.slice A m c) l) : Kd.C k82 W A l.length l ∧ l.length ≤ c := by
  obtain ⟨A', c', e, hl, hf⟩ := h
  injection e with e1 e2 e3
  subst e1 e3
  exact ⟨Kd.F_now hf, hl⟩
theorem JS.old {n m g : Nat} {ok : Nat → Prop} {cur : List S82} {w w0 W : World} (h : JS n ok w0 g cur W) (hb : Below m w w0) (hm : m ≤ w0.heap.size) (hk : ∀ k, ok k → m ≤ k) : Below m w W := JW.toBelow hb hm h.jw hk

/-! ### words: kget.inc -/
/-! ### stores: what is read behind a set, a del: plain -/
theorem getK_mem {l : List S82} (hs : sortK l) {p : S82} (hp : p ∈ l) : getK l p.f0 = (p.f1, true) ∧ hasK l p.f0 = true := by
  obtain ⟨A, B, rfl⟩ := List.append_of_mem hp
  have h := List.pairwise_append.1 hs
  have hA : ∀ a ∈ A, kLt a.f0 p.f0 = true := fun a ha => h.2.2 a ha p List.mem_cons_self
  have hB : ∀ b ∈ B, kLt b.f0 p.f0 = false := fun b hb => by
    cases e : kLt b.f0 p.f0 with
    | false => rfl
    | true =>
      have h3 := kLt_trans e (List.rel_of_pairwise_cons h.2.1 hb)
      rw [kLt_irr] at h3; cases h3
  exact ⟨getK_mid hA rfl hB, hasK_mid hA rfl hB⟩
theorem getK_none {l : List S82} {key : ByteArray} (h : ¬ hasK l key = true) : getK l key = ((⟨#[]⟩ : ByteArray), false) := getK_no (Bool.eq_false_iff.2 h)
theorem setK_keep {l : List S82} (hs : sortK l) {key : ByteArray} (value : ByteArray) {p : S82} (hp : p ∈ l) (hk : p.f0 ≠ key) : p ∈ setK l key value := by
  obtain ⟨A, B, hA, hB, h⟩ := decK hs key
  rcases h with ⟨_, x, hx, rfl⟩ | ⟨hn, rfl⟩
  · rw [setK_mid value hA hx hB]
    rcases List.mem_append.1 hp with hp | hp
    · exact List.mem_append_left _ hp
    · rcases List.mem_cons.1 hp with rfl | hp
      · exact absurd hx hk
      · exact List.mem_append_right _ (List.mem_cons_of_mem _ hp)
  · rw [setK_new value hA hB hn]
    rcases List.mem_append.1 hp with hp | hp
    · exact List.mem_append_left _ hp
    · exact List.mem_append_right _ (List.mem_cons_of_mem _ hp)
theorem delK_keep {l : List S82} (hs : sortK l) {key : ByteArray} {p : S82} (hp : p ∈ l) (hk : p.f0 ≠ key) : p ∈ delK l key := by
  by_cases hh : hasK l key = true
  · obtain ⟨A, B, hA, hB, h⟩ := decK hs key
    rcases h with ⟨_, x, hx, rfl⟩ | ⟨hn, rfl⟩
    · rw [delK_mid hA hx hB]
      rcases List.mem_append.1 hp with hp | hp
      · exact List.mem_append_left _ hp
      · rcases List.mem_cons.1 hp with rfl | hp
        · exact absurd hx hk
        · exact List.mem_append_right _ hp
    · rw [hn] at hh; cases hh
  · rw [delK_no hh]; exact hp
theorem hasK_setK {l : List S82} (hs : sortK l) {key k2 : ByteArray} (value : ByteArray) (h : k2 ≠ key) : hasK (setK l key value) k2 = hasK l k2 ∧ getK (setK l key value) k2 = getK l k2 := by
  by_cases hh : hasK l k2 = true
  · obtain ⟨p, hp, rfl⟩ := hasK_in hh
    have h1 := getK_mem hs hp
    have h2 := getK_mem (sortK_set hs key value) (setK_keep hs value hp h)
    exact ⟨h2.2.trans h1.2.symm, h2.1.trans h1.1.symm⟩
  · have h3 : ¬ hasK (setK l key value) k2 = true := fun e => by
      obtain ⟨p, hp, rfl⟩ := hasK_in e
      rcases mem_setK hp with rfl | hp
      · exact h rfl
      · exact hh (getK_mem hs hp).2
    rw [getK_none hh, getK_none h3, Bool.eq_false_iff.2 hh, Bool.eq_false_iff.2 h3]
    exact ⟨rfl, rfl⟩
theorem hasK_delK {l : List S82} (hs : sortK l) {key k2 : ByteArray} (h : k2 ≠ key) : hasK (delK l key) k2 = hasK l k2 ∧ getK (delK l key) k2 = getK l k2 := by
  by_cases hh : hasK l k2 = true
  · obtain ⟨p, hp, rfl⟩ := hasK_in hh
    have h1 := getK_mem hs hp
    have h2 := getK_mem (sortK_del hs key) (delK_keep hs hp h)
    exact ⟨h2.2.trans h1.2.symm, h2.1.trans h1.1.symm⟩
  · have h3 : ¬ hasK (delK l key) k2 = true := fun e => by
      obtain ⟨p, hp, rfl⟩ := hasK_in e
      exact hh (getK_mem hs (mem_delK hp)).2
    rw [getK_none hh, getK_none h3, Bool.eq_false_iff.2 hh, Bool.eq_false_iff.2 h3]
    exact ⟨rfl, rfl⟩
theorem hasK_gone {l : List S82} (hs : sortK l) (key : ByteArray) : hasK (delK l key) key = false := by
  by_cases hh : hasK l key = true
  · obtain ⟨A, B, hA, hB, h⟩ := decK hs key
    rcases h with ⟨_, x, hx, rfl⟩ | ⟨hn, rfl⟩
    · rw [delK_mid hA hx hB]
      refine hasK_not (fun p hp e => ?_)
      have h := List.pairwise_append.1 hs
      rcases List.mem_append.1 hp with hp | hp
      · have := hA p hp; rw [e, kLt_irr] at this; cases this
      · have := List.rel_of_pairwise_cons h.2.1 hp
        rw [hx, e, kLt_irr] at this; cases this
    · rw [hn] at hh; cases hh
  · rw [delK_no hh]; exact Bool.eq_false_iff.2 hh

/-! ### words: kext.inc -/
/-! ### stores that answer alike are alike: plain -/
theorem sortK_ext : ∀ (a b : List S82), sortK a → sortK b → (∀ p, p ∈ a ↔ p ∈ b) → a = b
  | [], [], _, _, _ => rfl
  | [], y :: b, _, _, h => absurd ((h y).2 List.mem_cons_self) (by simp)
  | x :: a, [], _, _, h => absurd ((h x).1 List.mem_cons_self) (by simp)
  | x :: a, y :: b, ha, hb, h => by
    have hxa := fun p (hp : p ∈ a) => List.rel_of_pairwise_cons ha hp
    have hyb := fun p (hp : p ∈ b) => List.rel_of_pairwise_cons hb hp
    have hxy : x = y := by
      rcases List.mem_cons.1 ((h x).1 List.mem_cons_self) with e | e
      · exact e
      · rcases List.mem_cons.1 ((h y).2 List.mem_cons_self) with e2 | e2
        · exact e2.symm
        · have := kLt_trans (hyb x e) (hxa y e2)
          rw [kLt_irr] at this; cases this
    subst hxy
    rw [sortK_ext a b (List.Pairwise.of_cons ha) (List.Pairwise.of_cons hb) (fun p => ?_)]
    constructor
    · intro hp
      rcases List.mem_cons.1 ((h p).1 (List.mem_cons_of_mem _ hp)) with rfl | e
      · have := hxa _ hp
        rw [kLt_irr] at this; cases this
      · exact e
    · intro hp
      rcases List.mem_cons.1 ((h p).2 (List.mem_cons_of_mem _ hp)) with rfl | e
      · have := hyb _ hp
        rw [kLt_irr] at this; cases this
      · exact e
theorem getK_iff {a : List S82} (ha : sortK a) (p : S82) : p ∈ a ↔ getK a p.f0 = (p.f1, true) := by
  constructor
  · intro hp; exact (getK_mem ha hp).1
  · intro e
    have hh : hasK a p.f0 = true := by
      unfold getK at e
      split at e
      · assumption
      · exact Bool.noConfusion (congrArg Prod.snd e : false = true)
    obtain ⟨q, hq, hqk⟩ := hasK_in hh
    have h2 := (getK_mem ha hq).1
    rw [hqk, e] at h2
    have h3 : p.f1 = q.f1 := congrArg Prod.fst h2
    obtain ⟨p0, p1⟩ := p
    obtain ⟨q0, q1⟩ := q
    simp only at hqk h3
    subst hqk h3
    exact hq
theorem sortK_get {a b : List S82} (ha : sortK a) (hb : sortK b) (h : ∀ k, getK a k = getK b k) : a = b :=
  sortK_ext a b ha hb (fun p => by rw [getK_iff ha, getK_iff hb, h])
theorem getK_setK {l : List S82} (hs : sortK l) (key value k2 : ByteArray) : getK (setK l key value) k2 = if k2 = key then (value, true) else getK l k2 := by
  by_cases h : k2 = key
  · rw [if_pos h, h]; exact getK_set hs key value
  · rw [if_neg h]; exact (hasK_setK hs value h).2
theorem getK_delK {l : List S82} (hs : sortK l) (key k2 : ByteArray) : getK (delK l key) k2 = if k2 = key then ((⟨#[]⟩ : ByteArray), false) else getK l k2 := by
  by_cases h : k2 = key
  · rw [if_pos h, h]; exact getK_no (hasK_gone hs key)
  · rw [if_neg h]; exact (hasK_delK hs h).2
theorem sortK_setC {l : List S82} (hs : sortK l) (key value : ByteArray) : sortK (setC l key value) := by
  unfold setC
  split
  · exact hs
  · exact sortK_set hs _ _
theorem getK_setC {l : List S82} (hs : sortK l) (key value k2 : ByteArray) : getK (setC l key value) k2 = if k2 = key ∧ ¬ (key.size > 65536 ∨ value.size > 65536) then (value, true) else getK l k2 := by
  unfold setC
  by_cases hb : key.size > 65536 ∨ value.size > 65536
  · rw [if_pos hb, if_neg (fun e => e.2 hb)]
  · rw [if_neg hb, getK_setK hs]
    by_cases h : k2 = key
    · rw [if_pos h, if_pos ⟨h, hb⟩]
    · rw [if_neg h, if_neg (fun e => h e.1)]

/-! ### words: bkx.inc -/
theorem sortK_bk {l : List S82} (hs : sortK l) (key : ByteArray) (n : Int) : sortK (bkSet l key n) := by
  unfold bkSet
  split
  · exact sortK_del hs _
  · exact sortK_setC hs _ _
/-- What a number's key has behind a set. -/
def bkVal (old : ByteArray × Bool) (key : ByteArray) (n : Int) : ByteArray × Bool := if n = 0 then ((⟨#[]⟩ : ByteArray), false) else if key.size > 65536 ∨ (bkNum n).size > 65536 then old else (bkNum n, true)
theorem getK_bk {l : List S82} (hs : sortK l) (key : ByteArray) (n : Int) (k2 : ByteArray) : getK (bkSet l key n) k2 = if k2 = key then bkVal (getK l k2) key n else getK l k2 := by
  unfold bkSet bkVal
  by_cases h0 : n = 0
  · rw [if_pos h0, if_pos h0, getK_delK hs]
  · rw [if_neg h0, if_neg h0, getK_setC hs]
    by_cases h : k2 = key
    · rw [if_pos h]
      by_cases hb : key.size > 65536 ∨ (bkNum n).size > 65536
      · rw [if_pos hb, if_neg (fun e => e.2 hb)]
      · rw [if_neg hb, if_pos ⟨h, hb⟩]
    · rw [if_neg h, if_neg (fun e => h e.1)]
/-- Two numbers at unlike keys: the order does not matter. -/
theorem bk_swap {l : List S82} (hs : sortK l) {k1 k2 : ByteArray} (h : k1 ≠ k2) (n1 n2 : Int) : bkSet (bkSet l k1 n1) k2 n2 = bkSet (bkSet l k2 n2) k1 n1 := by
  refine sortK_get (sortK_bk (sortK_bk hs _ _) _ _) (sortK_bk (sortK_bk hs _ _) _ _) (fun k => ?_)
  rw [getK_bk (sortK_bk hs _ _), getK_bk hs, getK_bk (sortK_bk hs _ _), getK_bk hs]
  by_cases h1 : k = k1
  · have h2 : k ≠ k2 := fun e => h (h1.symm.trans e)
    rw [if_neg h2, if_pos h1, if_pos h1, if_neg h2]
  · by_cases h2 : k = k2
    · rw [if_pos h2, if_neg h1, if_neg h1, if_pos h2]
    · rw [if_neg h2, if_neg h1, if_neg h1, if_neg h2]

/-! ### words: kround.inc -/
/-! ### a number that is put is read: plain -/
theorem strOf_list (l : List Int) : (strOfNums l).toList = l.map fun n => UInt8.ofNat n.toNat := by rw [ByteArray.toList_eq, strOfNums_data]
def valD (l : List Int) : Nat := l.foldl (fun a d => a * 256 + d.toNat) 0
theorem valD_snoc (l : List Int) (d : Int) : valD (l ++ [d]) = valD l * 256 + d.toNat := by unfold valD; rw [List.foldl_append]; rfl
theorem digB_val : ∀ k n, n < 256 ^ k → valD (digB k n) = n
  | 0, n, h => by
    have : n = 0 := by simpa using h
    subst this; rfl
  | k + 1, n, h => by
    unfold digB
    split
    · rename_i h0; subst h0; rfl
    · rw [valD_snoc, digB_val k (n / 256) (by rw [Nat.pow_succ] at h; exact Nat.div_lt_of_lt_mul (by omega)), Int.toNat_natCast]; omega
theorem digB_rng : ∀ k n, ∀ d ∈ digB k n, 0 ≤ d ∧ d < 256
  | 0, _, d, h => by simp [digB] at h
  | k + 1, n, d, h => by
    unfold digB at h
    split at h
    · simp at h
    · rcases List.mem_append.1 h with h | h
      · exact digB_rng k _ d h
      · obtain rfl := List.mem_singleton.1 h
        omega
theorem digB_le : ∀ k n m, n < 256 ^ m → (digB k n).length ≤ m
  | 0, _, _, _ => Nat.zero_le _
  | k + 1, n, m, h => by
    unfold digB
    split
    · exact Nat.zero_le _
    · cases m with
      | zero => simp at h; omega
      | succ m =>
        have := digB_le k (n / 256) m (by rw [Nat.pow_succ] at h; exact Nat.div_lt_of_lt_mul (by omega))
        rw [List.length_append, List.length_singleton]; omega
theorem digB_0 : ∀ k, digB k 0 = []
  | 0 => rfl
  | k + 1 => by unfold digB; exact if_pos rfl
theorem digB_head : ∀ k n, n < 256 ^ k → n ≠ 0 → ∃ d t, digB k n = d :: t ∧ d ≠ 0
  | 0, n, h, h0 => by simp at h; omega
  | k + 1, n, h, h0 => by
    unfold digB
    rw [if_neg h0]
    by_cases h1 : n / 256 = 0
    · rw [h1, digB_0]; exact ⟨_, _, rfl, by omega⟩
    · obtain ⟨d, t, e, hd⟩ := digB_head k (n / 256) (by rw [Nat.pow_succ] at h; exact Nat.div_lt_of_lt_mul (by omega)) h1
      rw [e]; exact ⟨d, _, rfl, hd⟩
theorem nBy_val {s : ByteArray} {ds : List Int} (h : ∀ i (hi : i < ds.length), bt s ((i + 1 : Nat) : Int) = ds[i]) : ∀ i, i ≤ ds.length → nBy s i = valD (ds.take i)
  | 0, _ => by rw [List.take_zero]; rfl
  | i + 1, hi => by
    have e : nBy s (i + 1) = nBy s i * 256 + (bt s ((i + 1 : Nat) : Int)).toNat := rfl
    rw [e, nBy_val h i (by omega), h i (by omega), List.take_add_one, List.getElem?_eq_getElem (by omega)]
    exact (valD_snoc _ _).symm
theorem bt_put {a : List Int} {t : ByteArray} (hr : ∀ d ∈ a, 0 ≤ d ∧ d < 256) (i : Nat) (hi : i < a.length) : bt (strOfNums a ++ t) (i : Int) = a[i] := by
  have hl : i < (strOfNums a ++ t).toList.length := by rw [ba_append, strOf_list, List.length_append, List.length_map]; omega
  rw [bt_get _ i hl]
  have e : (strOfNums a ++ t).toList[i] = UInt8.ofNat (a[i]).toNat := by
    simp only [ba_append, strOf_list]
    rw [List.getElem_append_left (by rw [List.length_map]; exact hi), List.getElem_map]
  rw [e]
  have := hr _ (List.getElem_mem hi)
  rw [UInt8.toNat_ofNat']
  omega
theorem numB_one (n : Nat) : numB n = strOfNums (((digB 8 n).length : Int) :: digB 8 n) := by
  unfold numB
  apply ba_ext
  rw [ba_append, strOf_list, strOf_list, strOf_list]; rfl
theorem numW_numB (n : Nat) (h : n ≤ 9007199254740992) (t : ByteArray) : numW (numB n ++ t) = ((n : Int), ((digB 8 n).length : Int) + 1, 0) := by
  have h7 : (digB 8 n).length ≤ 7 := digB_le 8 n 7 (by omega)
  have hr : ∀ d ∈ (((digB 8 n).length : Int) :: digB 8 n), 0 ≤ d ∧ d < 256 := fun d hd => by
    rcases List.mem_cons.1 hd with rfl | hd
    · omega
    · exact digB_rng _ _ d hd
  have hv := digB_val 8 n (by omega)
  have hh := digB_head 8 n (by omega)
  have h0 := digB_0 8
  rw [numB_one]
  generalize hD : digB 8 n = D at h7 hr hv hh
  have b0 : bt (strOfNums ((D.length : Int) :: D) ++ t) 0 = (D.length : Int) := bt_put hr 0 (by simp)
  have hb : ∀ i (hi : i < D.length), bt (strOfNums ((D.length : Int) :: D) ++ t) ((i + 1 : Nat) : Int) = D[i] := fun i hi => bt_put hr (i + 1) (by simpa using hi)
  have hn : nBy (strOfNums ((D.length : Int) :: D) ++ t) D.length = n := by rw [nBy_val hb D.length (Nat.le_refl _), List.take_length, hv]
  have hs : (strOfNums ((D.length : Int) :: D) ++ t).size = D.length + 1 + t.size := by rw [ByteArray.size_append, strOfNums_sz, List.length_cons]
  unfold numW wire_number.f
  rw [if_neg (by omega), b0, if_neg (by
    rintro (e | ⟨e1, e2, e3⟩)
    · omega
    · by_cases hz : n = 0
      · rw [hz, h0] at hD; subst hD; simp at e1
      · obtain ⟨d, u, e, hd⟩ := hh hz
        have := hb 0 (by omega)
        subst e
        exact hd (this.symm.trans e3)), if_neg (by omega), Int.toNat_natCast, hn, if_neg (by omega)]
  rfl
theorem rNum_numB (n : Nat) (h : n ≤ 9007199254740992) (t : ByteArray) : rNum (numB n ++ t) 0 = ((n : Int), t, 0) := by
  unfold rNum
  rw [numW_numB n h t, if_pos rfl]
  dsimp only
  rw [if_pos rfl]
  congr 2
  apply ba_ext
  rw [ba_extract, ba_size (numB n ++ t), List.take_length, ba_append]
  have hl : (numB n).toList.length = (((digB 8 n).length : Int) + 1).toNat := by rw [← ba_size, numB_one, strOfNums_sz, List.length_cons]; omega
  rw [← hl, List.drop_left]
theorem rNum_numB0 (n : Nat) (h : n ≤ 9007199254740992) : rNum (numB n) 0 = ((n : Int), (⟨#[]⟩ : ByteArray), 0) := by
  have := rNum_numB n h (⟨#[]⟩ : ByteArray)
  rw [show numB n ++ (⟨#[]⟩ : ByteArray) = numB n from ba_ext (by rw [ba_append]; simp [ByteArray.toList_eq])] at this
  exact this

/-! ### words: ktext.inc -/
/-! ### texts put are read again; keys of other words are other keys -/
theorem textB_is (s : ByteArray) (h : s.size ≤ 65536) : textB s = numB s.size ++ s := by unfold textB; rw [if_neg (by omega)]
theorem rText_textB (s t : ByteArray) (h : s.size ≤ 65536) : rText (textB s ++ t) 0 = (s, t, 0) := by
  have e : textB s ++ t = numB s.size ++ (s ++ t) := by
    rw [textB_is s h]; apply ba_ext; rw [ba_append, ba_append, ba_append, ba_append, List.append_assoc]
  have hl : (numB s.size).size = (digB 8 s.size).length + 1 := by rw [numB_one, strOfNums_sz, List.length_cons]
  have hsz : (numB s.size ++ (s ++ t)).size = (digB 8 s.size).length + 1 + s.size + t.size := by rw [ByteArray.size_append, ByteArray.size_append, hl]; omega
  rw [e]
  unfold rText
  rw [numW_numB s.size (by omega)]
  dsimp only
  have n1 : ¬ (((s.size : Nat) : Int) > 65536) := by omega
  have n2 : ¬ (((s.size : Nat) : Int) > ((numB s.size ++ (s ++ t)).size : Int) - (((digB 8 s.size).length : Int) + 1)) := by rw [hsz]; omega
  rw [if_pos rfl, if_pos rfl, if_neg n1, if_neg n2]
  have i1 : (((digB 8 s.size).length : Int) + 1).toNat = (numB s.size).toList.length := by rw [← ba_size, hl]; omega
  have i2 : (((digB 8 s.size).length : Int) + 1 + (s.size : Int)).toNat = (numB s.size).toList.length + s.toList.length := by rw [← ba_size, ← ba_size, hl]; omega
  have ex1 : (numB s.size ++ (s ++ t)).extract (((digB 8 s.size).length : Int) + 1).toNat (((digB 8 s.size).length : Int) + 1 + (s.size : Int)).toNat = s := by
    apply ba_ext
    rw [ba_extract, i1, i2, ba_append, ba_append, List.take_append, Nat.add_sub_cancel_left, List.take_left, List.drop_append, List.take_of_length_le (by omega), Nat.sub_self, List.drop_zero, List.drop_of_length_le (by omega), List.nil_append]
  have ex2 : (numB s.size ++ (s ++ t)).extract (((digB 8 s.size).length : Int) + 1 + (s.size : Int)).toNat (numB s.size ++ (s ++ t)).size = t := by
    apply ba_ext
    rw [ba_extract, i2, ba_size (numB s.size ++ (s ++ t)), List.take_length, ba_append, ba_append, ← List.append_assoc, ← List.length_append, List.drop_left]
  rw [ex1, ex2]
theorem rText_textB0 (s : ByteArray) (h : s.size ≤ 65536) : rText (textB s) 0 = (s, (⟨#[]⟩ : ByteArray), 0) := by
  have := rText_textB s (⟨#[]⟩ : ByteArray) h
  rw [show textB s ++ (⟨#[]⟩ : ByteArray) = textB s from ba_ext (by rw [ba_append]; simp [ByteArray.toList_eq])] at this
  exact this
theorem keyB_ne {a b : ByteArray} {l m : List ByteArray} {c d : UInt8} {t u : List UInt8} (ha : a.toList = c :: t) (hb : b.toList = d :: u) (h1 : c ≠ 37) (h2 : c ≠ 47) (h3 : d ≠ 37) (h4 : d ≠ 47) (h : c ≠ d) : keyB a l ≠ keyB b m := fun e => by
  have x := key_head a l c t ha h1 h2
  rw [e, key_head b m d u hb h3 h4] at x
  exact h (Option.some.inj x).symm

/-! ### words: held.inc -/
/-- A box's cells, in a world. -/
def HeldC (g : Nat) (cs : Array Value) (t : TypeId) (w : World) : Prop := w.heap[g]? = some (.cells cs t (0, 0))
theorem HeldC.of {g : Nat} {cs : Array Value} {t : TypeId} {w : World} (h : w.heap[g]? = some (.cells cs t (0, 0))) : HeldC g cs t w := h
theorem HeldC.blk {g : Nat} {cs : Array Value} {t : TypeId} {w : World} (h : HeldC g cs t w) : w.heap[g]? = some (.cells cs t (0, 0)) := h
theorem at_world {g : Nat} {cs : Array Value} {t : TypeId} {w : World} (_ : HeldC g cs t w) {F : World → Prop} (h : F w) : Aside0 (F w) := Aside0.mk h

end Go.Proofs.YtjappgjpikbdeaaGreatDoor.PTkk
