-- written by wip/myprint.py over the kit's print; not a printed text of print.sh
import Derived.Test.YtjappgjpikbdeaaGreatDoorPTkkx0
import Derived.Test.YtjappgjpikbdeaaGreatDoorPTkkx2
import Derived.Test.YtjappgjpikbdeaaGreatDoorPTkkx3
import Derived.Test.YtjappgjpikbdeaaGreatDoorPTkkx9
import Derived.Test.YtjappgjpikbdeaaGreatDoorPTkkx10
import Derived.Test.YtjappgjpikbdeaaGreatDoorPTkkx11
import Derived.Test.YtjappgjpikbdeaaGreatDoorPTkkx12
import Derived.Test.YtjappgjpikbdeaaGreatDoorPTkkx13
import Derived.Test.YtjappgjpikbdeaaGreatDoorPTkkx14
namespace Go.Proofs.YtjappgjpikbdeaaGreatDoor.PTkk
open Go.RowKit Go.Proofs.YtjappgjpikbdeaaGreatDoorW.PrintWords Go.Proofs.YtjappgjpikbdeaaGreatDoorW.PrintLast Go.Proofs.YtjappgjpikbdeaaGreatDoorW.PrintMore
attribute [local go_sem] max2_int min2_int max_two min_two max_three min_three max_four min_four   -- for this text's walks alone
set_option linter.unusedVariables false
set_option linter.unusedSimpArgs false

/-! ### words: kv.inc -/
/-! ### keys, numbers, readers: plain -/
theorem rdOf_get (l : List ByteArray) (i : Nat) (h : i < l.length) : rdOf ByteArray.empty l (i : Int) = l[i] := by
  unfold rdOf
  rw [Int.toNat_natCast, List.getD_eq_getElem?_getD, List.getElem?_eq_getElem h]; rfl
theorem ofL_append (l m : List UInt8) : ofL l ++ ofL m = ofL (l ++ m) := by
  apply ba_ext; rw [ba_append, ofL_toList, ofL_toList, ofL_toList]
theorem one_list (c : UInt8) : (⟨#[c]⟩ : ByteArray).toList = [c] := by rw [ByteArray.toList_eq]
theorem two_list (a b : UInt8) : (⟨#[a, b]⟩ : ByteArray).toList = [a, b] := by rw [ByteArray.toList_eq]
theorem w_one (i : Nat) (h : i ≤ 4000000000000000000) : wrap64 ((i : Int) + 1) = ((i + 1 : Nat) : Int) := by rw [w64 (by omega) (by omega)]; omega
def glue (c : UInt8) (a : List UInt8) (ps : List (List UInt8)) : List UInt8 := a ++ ps.flatMap (c :: ·)
def hidL (l : List UInt8) : List UInt8 := l.flatMap fun c => if c = 37 then [37, 112] else if c = 47 then [37, 115] else [c]
theorem hidL_cons (c : UInt8) (t : List UInt8) : hidL (c :: t) = (if c = 37 then [37, 112] else if c = 47 then [37, 115] else [c]) ++ hidL t := by unfold hidL; rw [List.flatMap_cons]
theorem hid_repl : ∀ l : List UInt8, repl1 47 [37, 115] (repl1 37 [37, 112] l) = hidL l
  | [] => rfl
  | c :: t => by
    have ih := hid_repl t
    rw [hidL_cons, ← ih]
    unfold repl1
    rw [List.flatMap_cons, List.flatMap_append]
    congr 1
    by_cases h1 : c = 37
    · subst h1; rfl
    · rw [if_neg h1, if_neg h1]
      by_cases h2 : c = 47 <;> simp [h2]
theorem repl_len (c a b : UInt8) : ∀ l : List UInt8, (repl1 c [a, b] l).length ≤ 2 * l.length
  | [] => by simp [repl1]
  | x :: t => by
    have ih := repl_len c a b t
    unfold repl1 at ih ⊢
    rw [List.flatMap_cons, List.length_append, List.length_cons]
    have : (if x = c then [a, b] else [x]).length ≤ 2 := by split <;> simp
    omega
theorem hidL_len (l : List UInt8) : (hidL l).length ≤ 2 * l.length := by
  induction l with
  | nil => simp [hidL]
  | cons c t ih =>
    rw [hidL_cons, List.length_append, List.length_cons]
    have : (if c = 37 then [37, 112] else if c = 47 then [37, 115] else [c] : List UInt8).length ≤ 2 := by split <;> (try split) <;> simp
    omega
theorem repl_is (s : ByteArray) (c a b : UInt8) (h : s.size ≤ 100000000) : strings_ReplaceAll.f s ⟨#[c]⟩ ⟨#[a, b]⟩ = some (ofL (repl1 c [a, b] s.toList)) := by
  unfold strings_ReplaceAll.f
  rw [one_list, two_list]
  exact if_pos ⟨h, rfl⟩
theorem hidden_is (s : ByteArray) (h : s.size ≤ 50000000) : path_hidden.f s = some (ofL (hidL s.toList)) := by
  unfold path_hidden.f
  have h1 := repl_len 37 37 112 s.toList
  rw [← ba_size] at h1
  rw [repl_is s 37 37 112 (by omega), Option.bind_some, repl_is _ 47 37 115 (by rw [ofL_size]; omega), Option.bind_some, ofL_toList, hid_repl]
def keyL (a : List UInt8) (ps : List (List UInt8)) : List UInt8 := glue 47 (hidL a) (ps.map hidL)
theorem join_go (l : List ByteArray) (hl : l.length ≤ 1000) (hs : ∀ p ∈ l, p.size ≤ 50000000) : ∀ (d i : Nat) (acc : ByteArray), d = l.length - i → i ≤ l.length → acc.size ≤ 100000000 + i * 100000001 → Ev (fun k => path_Join.l0 k acc l (l.length : Int) (i : Int)) (acc ++ ofL ((l.drop i).flatMap fun p => 47 :: hidL p.toList)) := by
  intro d
  induction d with
  | zero =>
    intro i acc hd hi ha
    refine ⟨1, fun k hk => ?_⟩
    obtain ⟨m, rfl⟩ : ∃ m, k = m + 1 := ⟨k - 1, by omega⟩
    show path_Join.l0 (m + 1) acc l (l.length : Int) (i : Int) = _
    simp only [path_Join.l0]
    rw [if_neg (by omega), List.drop_eq_nil_of_le (by omega)]
    congr 1
    apply ba_ext; rw [ba_append, ofL_toList]; simp
  | succ d ih =>
    intro i acc hd hi ha
    have hil : i < l.length := by omega
    have hp := hs l[i] (List.getElem_mem hil)
    have hlen := hidL_len (l[i]).toList
    rw [← ba_size] at hlen
    have hsz : ((⟨#[47]⟩ : ByteArray) ++ ofL (hidL (l[i]).toList)).size ≤ 100000001 := by
      rw [ByteArray.size_append, ofL_size]; show 1 + _ ≤ _; omega
    have hi2 : i * 100000001 ≤ 1000 * 100000001 := Nat.mul_le_mul_right _ (by omega)
    obtain ⟨K, e⟩ := ih (i + 1) (acc ++ ((⟨#[47]⟩ : ByteArray) ++ ofL (hidL (l[i]).toList))) (by omega) (by omega) (by rw [ByteArray.size_append, Nat.add_mul]; omega)
    refine ⟨K + 1, fun k hk => ?_⟩
    obtain ⟨m, rfl⟩ : ∃ m, k = m + 1 := ⟨k - 1, by omega⟩
    have e : path_Join.l0 m _ l (l.length : Int) ((i + 1 : Nat) : Int) = _ := e m (by omega)
    show path_Join.l0 (m + 1) acc l (l.length : Int) (i : Int) = _
    simp only [path_Join.l0]
    rw [if_pos (by omega), if_pos (by omega), if_pos (by omega), rdOf_get l i hil, hidden_is _ hp, Option.bind_some, if_pos (by rw [ofL_size]; omega), if_pos (by omega), w_one i (by omega), e]
    congr 1
    rw [List.drop_eq_getElem_cons hil, List.flatMap_cons]
    apply ba_ext
    simp only [ba_append, ofL_toList, one_list]
    simp
theorem join_ev (a : ByteArray) (l : List ByteArray) (ha : a.size ≤ 50000000) (hl : l.length ≤ 1000) (hs : ∀ p ∈ l, p.size ≤ 50000000) : Ev (fun k => path_Join.f k a l) (ofL (keyL a.toList (l.map ByteArray.toList))) := by
  have h1 := hidL_len a.toList
  rw [← ba_size] at h1
  obtain ⟨K, e⟩ := join_go l hl hs l.length 0 (ofL (hidL a.toList)) (by omega) (by omega) (by rw [ofL_size]; omega)
  refine ⟨K, fun k hk => ?_⟩
  have e : path_Join.l0 k (ofL (hidL a.toList)) l (l.length : Int) 0 = _ := e k hk
  show path_Join.f k a l = _
  unfold path_Join.f
  rw [hidden_is a ha, Option.bind_some, e, ofL_append]
  unfold keyL glue
  rw [List.drop_zero, List.map_map, List.flatMap_map]
  rfl
/-- A key. -/
def keyB (a : ByteArray) (l : List ByteArray) : ByteArray := ofL (keyL a.toList (l.map ByteArray.toList))
theorem key_ev (a : ByteArray) (l : List ByteArray) (ha : a.size ≤ 50000000) (hl : l.length ≤ 1000) (hs : ∀ p ∈ l, p.size ≤ 50000000) : ∃ k, path_Join.f k a l = some (keyB a l) := by
  obtain ⟨K, e⟩ := join_ev a l ha hl hs
  exact ⟨K, e K (Nat.le_refl _)⟩
/-- A number's bytes, how many first. -/
def numB (n : Nat) : ByteArray := strOfNums [((digB 8 n).length : Int)] ++ strOfNums (digB 8 n)
theorem wNum_is (n : Nat) (h : n ≤ 9007199254740992) : wire_Num.f (n : Int) = some (numB n, 0) := by
  unfold wire_Num.f numB
  rw [if_neg (by omega), Int.toNat_natCast]
theorem strOfNums_sz (l : List Int) : (strOfNums l).size = l.length := by rw [ba_size, ByteArray.toList_eq, strOfNums_data, List.length_map]
theorem numB_len (n : Nat) : (numB n).size ≤ 9 := by
  have := digB_len 8 n
  unfold numB
  rw [ByteArray.size_append, strOfNums_sz, strOfNums_sz, List.length_singleton]; omega
def textB (s : ByteArray) : ByteArray := if (s.size : Int) > 65536 then (⟨#[]⟩ : ByteArray) else numB s.size ++ s
theorem textB_len (s : ByteArray) : (textB s).size ≤ s.size + 9 := by
  unfold textB
  split
  · show 0 ≤ _; omega
  · have := numB_len s.size; rw [ByteArray.size_append]; omega
/-- The number at a text's beginning, how many bytes it has, the error. -/
def numW (s : ByteArray) : Int × Int × Int := (wire_number.f s).getD (0, 0, 0)
theorem number_is (s : ByteArray) : wire_number.f s = some (numW s) := by
  unfold numW wire_number.f
  repeat' split
  all_goals rfl
theorem numW_bd (s : ByteArray) : (0 ≤ (numW s).1 ∧ (numW s).1 ≤ 9007199254740992) ∧ (0 ≤ (numW s).2.1 ∧ (numW s).2.1 ≤ (s.size : Int)) := by
  have h := number_is s
  generalize numW s = r at h
  unfold wire_number.f at h
  have hb := bt_range s 0
  by_cases h1 : s.size = 0
  · rw [if_pos h1] at h; obtain rfl := Option.some.inj h; simp
  rw [if_neg h1] at h
  by_cases h2 : 7 < bt s 0 ∨ (0 < bt s 0 ∧ 1 < s.size ∧ bt s 1 = 0)
  · rw [if_pos h2] at h; obtain rfl := Option.some.inj h; simp
  rw [if_neg h2] at h
  by_cases h3 : (s.size : Int) ≤ bt s 0
  · rw [if_pos h3] at h; obtain rfl := Option.some.inj h; simp
  rw [if_neg h3] at h
  by_cases h4 : 9007199254740992 < nBy s (bt s 0).toNat
  · rw [if_pos h4] at h; obtain rfl := Option.some.inj h; simp
  rw [if_neg h4] at h
  obtain rfl := Option.some.inj h
  dsimp only
  omega
/-- A reader's number: it, what is left, the error. -/
def rNum (s : ByteArray) (e : Int) : Int × ByteArray × Int := if e = 0 then ((numW s).1, if (numW s).2.2 = 0 then s.extract (numW s).2.1.toNat s.size else s, (numW s).2.2) else (0, s, e)
def rText (s : ByteArray) (e : Int) : ByteArray × ByteArray × Int :=
  if e = 0 then
    (if (numW s).2.2 = 0 then
      (if (numW s).1 > 65536 then ((⟨#[]⟩ : ByteArray), s, 4)
       else if (numW s).1 > (s.size : Int) - (numW s).2.1 then ((⟨#[]⟩ : ByteArray), s, 5)
       else (s.extract (numW s).2.1.toNat ((numW s).2.1 + (numW s).1).toNat, s.extract ((numW s).2.1 + (numW s).1).toNat s.size, 0))
     else ((⟨#[]⟩ : ByteArray), s, (numW s).2.2))
  else ((⟨#[]⟩ : ByteArray), s, e)
def rDone (s : ByteArray) (e : Int) : Int := if e = 0 then (if s.toList = [] then 0 else 6) else e
theorem rNum_is (s : ByteArray) (e : Int) : wire_Reader_Num.f s e = some (rNum s e) := by
  unfold wire_Reader_Num.f wire_Reader_stopped.f rNum
  rw [Option.bind_some]
  dsimp only
  by_cases he : e = 0
  · subst he
    obtain ⟨_, h3, h4⟩ := numW_bd s
    rw [if_neg (by simp), number_is, Option.bind_some, if_pos rfl]
    unfold wire_Reader_take.f
    by_cases h : (numW s).2.2 = 0
    · rw [if_pos h, if_pos h3, if_pos h4, Option.bind_some, if_pos h, h]
    · rw [if_neg h, if_neg h, Option.bind_some]
  · rw [if_pos (by simpa using he), if_neg he]
theorem rDone_is (s : ByteArray) (e : Int) : wire_Reader_Done.f s e = some (rDone s e, s, e) := by
  unfold wire_Reader_Done.f wire_Reader_Err.f rDone
  rw [Option.bind_some]
  dsimp only
  by_cases he : e = 0
  · subst he
    rw [if_pos rfl, if_pos rfl]
    by_cases h : s.toList = []
    · rw [if_pos h, if_pos h]
    · rw [if_neg h, if_neg h]
  · rw [if_neg he, if_neg he]
theorem ext_sz (s : ByteArray) (a b : Nat) : (s.extract a b).size ≤ s.size := by
  rw [ba_size, ba_extract, ba_size s, List.length_drop, List.length_take]; omega
theorem rText_sz (s : ByteArray) (e : Int) : (rText s e).2.1.size ≤ s.size := by
  unfold rText
  repeat' split
  all_goals first | exact Nat.le_refl _ | exact ext_sz _ _ _
theorem rNum_sz (s : ByteArray) (e : Int) : (rNum s e).2.1.size ≤ s.size := by
  unfold rNum
  split
  · dsimp only; split
    · exact ext_sz _ _ _
    · exact Nat.le_refl _
  · exact Nat.le_refl _
theorem rNum_bd (s : ByteArray) (e : Int) : 0 ≤ (rNum s e).1 ∧ (rNum s e).1 ≤ 9007199254740992 := by
  unfold rNum
  split
  · exact (numW_bd s).1
  · exact ⟨Int.le_refl _, by show (0 : Int) ≤ _; omega⟩
/-- Texts' bytes, one after the other. -/
def valB (l : List ByteArray) : ByteArray := l.foldl (fun a s => a ++ textB s) (⟨#[]⟩ : ByteArray)
theorem valB_snoc (l : List ByteArray) (s : ByteArray) : valB (l ++ [s]) = valB l ++ textB s := by unfold valB; rw [List.foldl_append]; rfl
theorem valB_take (l : List ByteArray) (i : Nat) (h : i < l.length) : valB (l.take (i + 1)) = valB (l.take i) ++ textB l[i] := by rw [List.take_add_one, List.getElem?_eq_getElem h]; exact valB_snoc _ _
theorem valB_len {l : List ByteArray} {m : Nat} (hs : ∀ s ∈ l, s.size ≤ m) (hl : l.length ≤ 1000) : ∀ i, (valB (l.take i)).size ≤ i * (m + 9)
  | 0 => by rw [List.take_zero]; exact Nat.zero_le _
  | i + 1 => by
    have ih := valB_len hs hl i
    by_cases h : i < l.length
    · have h1 := textB_len l[i]
      have h2 := hs _ (List.getElem_mem h)
      rw [valB_take l i h, ByteArray.size_append, Nat.add_mul]; omega
    · rw [List.take_of_length_le (by omega)]
      rw [List.take_of_length_le (by omega)] at ih
      rw [Nat.add_mul]; omega
/-- A store within bounds. -/
structure KV (n : Nat) (cur : List S82) : Prop where
  so : sortK cur
  len : cur.length ≤ n
  val : ∀ p ∈ cur, p.f1.size ≤ 65536
theorem KV.get {n : Nat} {cur : List S82} (h : KV n cur) (key : ByteArray) : (getK cur key).1.size ≤ 65536 := by
  unfold getK
  split
  · rename_i hh
    obtain ⟨hp, _⟩ := hasK_lt hh
    rw [rdP _ _ hp]
    exact h.val _ (List.getElem_mem hp)
  · exact Nat.zero_le _
theorem KV.set {n : Nat} {cur : List S82} (h : KV n cur) (key value : ByteArray) (hv : value.size ≤ 65536) : KV (n + 1) (setK cur key value) := by
  refine ⟨sortK_set h.so _ _, Nat.le_trans (setK_len _ _ _) (Nat.succ_le_succ h.len), fun p hp => ?_⟩
  unfold setK at hp
  split at hp
  · rcases List.mem_or_eq_of_mem_set hp with hp | rfl
    · exact h.val p hp
    · exact hv
  · rcases List.mem_append.1 hp with hp | hp
    · exact h.val p (List.mem_of_mem_take hp)
    · rcases List.mem_cons.1 hp with rfl | hp
      · exact hv
      · exact h.val p (List.mem_of_mem_drop hp)
theorem KV.mono {n m : Nat} {cur : List S82} (h : KV n cur) (hm : n ≤ m) : KV m cur := ⟨h.so, Nat.le_trans h.len hm, h.val⟩
theorem KV.del {n : Nat} {cur : List S82} (h : KV n cur) (key : ByteArray) : KV n (delK cur key) := by
  refine ⟨sortK_del h.so _, Nat.le_trans (delK_len _ _) h.len, fun p hp => ?_⟩
  unfold delK at hp
  split at hp
  · rcases List.mem_append.1 hp with hp | hp
    · exact h.val p (List.mem_of_mem_take hp)
    · exact h.val p (List.mem_of_mem_drop hp)
  · exact h.val p hp
theorem KV.nil (n : Nat) : KV n [] := ⟨List.Pairwise.nil, Nat.zero_le _, by simp⟩
/-- A key set, unless it or the value is too long. -/
def setC (cur : List S82) (key value : ByteArray) : List S82 := if key.size > 65536 ∨ value.size > 65536 then cur else setK cur key value
theorem KV.put {n : Nat} {cur : List S82} (h : KV n cur) (key value : ByteArray) : KV (n + 1) (setC cur key value) := by
  unfold setC
  split
  · exact h.mono (Nat.le_succ _)
  · exact h.set _ _ (by omega)
theorem setJ0 (cur : List S82) (key value : ByteArray) : setJ ⟨cur, []⟩ key value = ⟨setC cur key value, []⟩ := by
  unfold setJ setC
  split <;> rfl
theorem delK_no {cur : List S82} {key : ByteArray} (h : ¬ hasK cur key = true) : delK cur key = cur := by unfold delK; rw [if_neg h]
theorem delJ0 (cur : List S82) (key : ByteArray) : delJ ⟨cur, []⟩ key = ⟨delK cur key, []⟩ := by
  unfold delJ
  by_cases h : hasK cur key = true
  · rw [if_pos h]; rfl
  · rw [if_neg h, delK_no h]

/-! ### words: kvwt.inc -/
theorem wText_is (s : ByteArray) : wire_Text.f s = some (textB s, if (s.size : Int) > 65536 then 4 else 0) := by
  unfold wire_Text.f textB
  by_cases h : (s.size : Int) > 65536
  · rw [if_pos h, if_pos h, if_pos h]
  · have h2 := numB_len s.size
    rw [if_neg h, if_neg h, if_neg h, wNum_is _ (by omega), Option.bind_some, if_pos (by show (numB s.size).size + s.size ≤ _; omega)]
theorem rText_is (s : ByteArray) (e : Int) (hs : s.size ≤ 1000000000) : wire_Reader_Text.f s e = some (rText s e) := by
  unfold wire_Reader_Text.f wire_Reader_stopped.f rText
  rw [Option.bind_some]
  dsimp only
  by_cases he : e = 0
  · subst he
    obtain ⟨⟨h1, h2⟩, h3, h4⟩ := numW_bd s
    rw [if_neg (by simp), if_pos rfl]
    unfold wire_text.f
    rw [number_is, Option.bind_some]
    have hw : ∀ x : Int, -9000000000000000000 ≤ x → x ≤ 9000000000000000000 → wrap64 x = x := fun x a b => w64 (by omega) (by omega)
    unfold wire_Reader_take.f
    by_cases h : (numW s).2.2 = 0
    · rw [if_pos h, if_pos h]
      by_cases hb : (numW s).1 > 65536
      · rw [if_pos hb, if_pos hb, Option.bind_some, if_neg (by decide), Option.bind_some]
      · rw [if_neg hb, if_neg hb, hw _ (by omega) (by omega)]
        by_cases hc : (numW s).1 > (s.size : Int) - (numW s).2.1
        · rw [if_pos hc, if_pos hc, Option.bind_some, if_neg (by decide), Option.bind_some]
        · rw [if_neg hc, if_neg hc, if_pos h3, hw _ (by omega) (by omega), if_pos (by omega), if_pos (by omega), Option.bind_some]
          dsimp only
          rw [if_pos rfl, if_pos (by omega), if_pos (by omega), Option.bind_some]
    · rw [if_neg h, if_neg h, Option.bind_some]
      dsimp only
      rw [if_neg h, Option.bind_some]
  · rw [if_pos (by simpa using he), if_neg he]

/-! ### words: js.inc -/
/-! ### a journal without levels: what a call leaves -/
/-- Blocks of other types than a journal's stay. -/
structure JK (w w' : World) : Prop where
  size : w.heap.size ≤ w'.heap.size
  keep : ∀ (k : Nat) (cells : Array Value) (q : TypeId) (x : Nat × Nat), w.heap[k]? = some (Obj.cells cells q x) → q ∉ JT → w'.heap[k]? = w.heap[k]?
theorem JK.of_below {w w' : World} (h : Below w.heap.size w w') : JK w w' := ⟨h.size, fun k _ _ _ hk _ => h.block k (blk_lt hk)⟩
theorem JK.trans {w w1 w2 : World} (h : JK w w1) (k : JK w1 w2) : JK w w2 := ⟨Nat.le_trans h.size k.size, fun b c q x hb hq => (k.keep b c q x ((h.keep b c q x hb hq).trans hb) hq).trans (h.keep b c q x hb hq)⟩
theorem JK.blk {w w' : World} {b : Nat} {c : Array Value} {q : TypeId} {x : Nat × Nat} (h : JK w w') (hb : w.heap[b]? = some (.cells c q x)) (hq : q ∉ JT) : w'.heap[b]? = some (.cells c q x) := (h.keep b c q x hb hq).trans hb
structure JS (base : Nat) (ok : Nat → Prop) (w0 : World) (g : Nat) (cur : List S82) (w : World) : Prop where
  m : JM base (fun k => ok k ∨ w0.heap.size ≤ k) g ⟨cur, []⟩ w
  jw : JW ok w0 w
  b : base ≤ w0.heap.size
theorem JS.start {base g : Nat} {ok : Nat → Prop} {cur : List S82} {w : World} (h : JM base ok g ⟨cur, []⟩ w) (hb : base ≤ w.heap.size) : JS base ok w g cur w := ⟨h.mono (fun _ hk => .inl hk), JW.of_below (Below.refl _ _), hb⟩
theorem JS.below {base g : Nat} {ok : Nat → Prop} {w0 : World} {cur : List S82} {w w' : World} (h : JS base ok w0 g cur w) (hb : Below w.heap.size w w') : JS base ok w0 g cur w' := ⟨h.m.below hb, h.jw.trans (JW.of_below hb : JW ok w w') (fun i hi => .inl hi), h.b⟩
theorem JS.hb {base g : Nat} {ok : Nat → Prop} {w0 : World} {cur : List S82} {w : World} (h : JS base ok w0 g cur w) : base ≤ w.heap.size := Nat.le_trans h.b h.jw.size
/-- The journal's own blocks. -/
def BD (base : Nat) (ok : Nat → Prop) (w0 w : World) (k : Nat) : Prop := (ok k ∨ w0.heap.size ≤ k) ∧ base ≤ k ∧ k < w.heap.size ∧ ∃ q, q ∈ JT ∧ ∃ cells, w.heap[k]? = some (.cells cells q (0, 0))
theorem JS.bd {base g : Nat} {ok : Nat → Prop} {w0 : World} {cur : List S82} {w : World} (h : JS base ok w0 g cur w) : JM base (BD base ok w0 w) g ⟨cur, []⟩ w := h.m.bound
theorem JS.post {base g : Nat} {ok : Nat → Prop} {w0 : World} {cur cur' : List S82} {w w' : World} {r : Value} {e : Ending} (h : JS base ok w0 g cur w) (hp : JPost base (BD base ok w0 w) g ⟨cur', []⟩ r w e w') : e = .returned r ∧ JS base ok w0 g cur' w' ∧ JK w w' := by
  obtain ⟨h1, h2, h3⟩ := hp
  refine ⟨h1, ⟨h2.mono (fun k hk => hk.elim (fun hk => hk.1) (fun hk => .inr (Nat.le_trans h.jw.size hk))), h.jw.trans h3 (fun i hi => hi.1), h.b⟩, ⟨h3.size, fun k cells q x hk hq => h3.block k (blk_lt hk) (fun hb => ?_)⟩⟩
  obtain ⟨_, _, _, q2, hq2, c2, hc2⟩ := hb
  exact hq (blk_ty hk hc2 ▸ hq2)
theorem JS.set_ {base g : Nat} {ok : Nat → Prop} {w0 : World} {cur : List S82} {w : World} (h : JS base ok w0 g cur w) {p : Addr} (v : Value) (hn : w0.heap.size ≤ p.block) (c : Array Value) (q : TypeId) (x : Nat × Nat) (hp : w.heap[p.block]? = some (.cells c q x)) (hq : q ∉ JT) : JS base ok w0 g cur (w.setCell p v) := by
  have hf : ∀ k, k ≠ p.block → (w.setCell p v).heap[k]? = w.heap[k]? := fun k hk => Below.heap_setCell w p v k hk
  refine ⟨?_, h.jw.trans (ok' := fun k => k = p.block) ⟨rfl, rfl, rfl, by simp [World.setCell], fun i _ hi => hf i hi⟩ (fun i hi => .inr (by rw [hi]; exact hn)), h.b⟩
  have hm := h.bd
  refine (hm.move (fun k cells t hk hc => hf k (fun e => ?_))).mono (fun k hk => hk.1)
  obtain ⟨_, _, _, q2, hq2, c2, hc2⟩ := hk
  subst e
  exact hq (blk_ty hp hc2 ▸ hq2)
theorem JS.drewN {base g : Nat} {ok : Nat → Prop} {w0 : World} {cur : List S82} {w : World} (h : JS base ok w0 g cur w) (n : Nat) : JS base ok w0 g cur (w.drewN n) := h.below (pw_below_drewN (Below.refl _ _) n)
theorem JS.drew {base g : Nat} {ok : Nat → Prop} {w0 : World} {cur : List S82} {w : World} (h : JS base ok w0 g cur w) : JS base ok w0 g cur w.drew := h.below (below_drew1 (Below.refl _ _))
theorem JS.alloc {base g : Nat} {ok : Nat → Prop} {w0 : World} {cur : List S82} {w : World} (h : JS base ok w0 g cur w) (o : Obj) : JS base ok w0 g cur (w.alloc o) := h.below (below_alloc (Below.refl _ _) o)
theorem JS.size0 {base g : Nat} {ok : Nat → Prop} {w0 : World} {cur : List S82} {w : World} (h : JS base ok w0 g cur w) : w0.heap.size ≤ w.heap.size := h.jw.size
theorem JS.setb {base g : Nat} {ok : Nat → Prop} {w0 : World} {cur : List S82} {w : World} (h : JS base ok w0 g cur w) {p : Addr} (hn : w0.heap.size ≤ p.block) {c : Array Value} {q : TypeId} (hp : w.heap[p.block]? = some (.cells c q (0, 0))) (v : Value) (hq : q ∉ JT) : JS base ok w0 g cur (w.setCell p v) := h.set_ v hn c q _ hp hq
theorem JK.drewN {w W : World} (h : JK w W) (n : Nat) : JK w (W.drewN n) := h.trans (JK.of_below (pw_below_drewN (Below.refl _ _) n))
theorem JK.drew {w W : World} (h : JK w W) : JK w W.drew := h.trans (JK.of_below (below_drew1 (Below.refl _ _)))
theorem JK.alloc {w W : World} (h : JK w W) (o : Obj) : JK w (W.alloc o) := h.trans (JK.of_below (below_alloc (Below.refl _ _) o))
theorem JK.setb {w W : World} (h : JK w W) {p : Addr} (hn : w.heap.size ≤ p.block) (v : Value) : JK w (W.setCell p v) :=
  ⟨by simpa [World.setCell] using h.size, fun k cells q x hk hq => (Below.heap_setCell W p v k (fun e => by have := blk_lt hk; omega)).trans (h.keep k cells q x hk hq)⟩
theorem js_get {base g : Nat} {ok : Nat → Prop} {w0 : World} {cur : List S82} (key v : ByteArray) (b : Bool) {w : World} (h : JS base ok w0 g cur w) (hk : KV 1000000 cur) (hv : (getK cur key).1 = v) (hb : hasK cur key = b) :
    Calls Tryz.prog 20 #[.pointer (some ⟨g, 0, none⟩), .string key] w fun e w' => e = .returned (.tuple #[.string v, .bool b]) ∧ Below w.heap.size w w' := by
  have e : (getK cur key).2 = hasK cur key := by unfold getK; cases hasK cur key <;> rfl
  rw [← hv, ← hb, ← e]
  exact j_get base g _ ⟨cur, []⟩ key w h.m (Nat.le_trans hk.len (by decide))
theorem js_set {base g : Nat} {ok : Nat → Prop} {w0 : World} {cur : List S82} (key value : ByteArray) {w : World} (h : JS base ok w0 g cur w) (hk : KV 1000000 cur) :
    Calls Tryz.prog 57 #[.pointer (some ⟨g, 0, none⟩), .string key, .string value] w fun e w' => e = .returned (.int .i64 (setE key value)) ∧ JS base ok w0 g (setC cur key value) w' ∧ JK w w' := by
  have := j_set base g (BD base ok w0 w) ⟨cur, []⟩ key value w h.bd (Nat.le_trans hk.len (by decide)) (by simp) (by simp) h.hb
  rw [setJ0] at this
  exact this.mono (fun e w' hp => h.post hp)
theorem js_del {base g : Nat} {ok : Nat → Prop} {w0 : World} {cur : List S82} (key : ByteArray) {w : World} (h : JS base ok w0 g cur w) (hk : KV 1000000 cur) :
    Calls Tryz.prog 30 #[.pointer (some ⟨g, 0, none⟩), .string key] w fun e w' => e = .returned (.int .i64 (delE ⟨cur, []⟩ key)) ∧ JS base ok w0 g (delK cur key) w' ∧ JK w w' := by
  have := j_del base g (BD base ok w0 w) ⟨cur, []⟩ key w h.bd (Nat.le_trans hk.len (by decide)) (by simp) (by simp) h.hb
  rw [delJ0] at this
  exact this.mono (fun e w' hp => h.post hp)

/-! ### words: numk.inc -/
/-- The number of a key; 0: none. -/
def numK (cur : List S82) (key : ByteArray) : Int := if rDone (rNum (getK cur key).1 0).2.1 (rNum (getK cur key).1 0).2.2 = 0 then (rNum (getK cur key).1 0).1 else 0

end Go.Proofs.YtjappgjpikbdeaaGreatDoor.PTkk
