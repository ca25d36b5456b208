/- Plain facts on the printed path functions: the loops. No condition beyond those stated. -/
import Derived.Test.YtcgmododeiocpaaDoorPatLib
import Derived.Test.YtcgmododeiocpaaDoorPPatx4
namespace Go.Proofs.YtcgmododeiocpaaDoor.PurePat
open Go.RowKit Go.Proofs.YtcgmododeiocpaaDoor.PPat Go.Proofs.YtcgmododeiocpaaDoorW.PrintWords Go.Proofs.YtcgmododeiocpaaDoorW.PrintLast
set_option linter.unusedVariables false
set_option linter.unusedSimpArgs false
/-- Bytes as whole numbers. -/
def I (l : List UInt8) : List Int := l.map fun c => (c.toNat : Int)
theorem I_str (l : List UInt8) : strOfNums (I l) = ofL l := by
  apply ba_ext
  rw [ByteArray.toList_eq, ofL_toList, strOfNums_data]
  unfold I
  rw [List.map_map]
  conv => rhs; rw [← List.map_id l]
  refine List.map_congr_left (fun c _ => ?_)
  show UInt8.ofNat (c.toNat : Int).toNat = c
  rw [Int.toNat_natCast]; simp
theorem I_append (l m : List UInt8) : I (l ++ m) = I l ++ I m := by unfold I; exact List.map_append
theorem I_len (l : List UInt8) : (I l).length = l.length := by unfold I; exact List.length_map _
theorem strOfNums_app (l m : List Int) : strOfNums (l ++ m) = strOfNums l ++ strOfNums m := by
  apply ba_ext; rw [ba_append, ByteArray.toList_eq, ByteArray.toList_eq, ByteArray.toList_eq, strOfNums_data, strOfNums_data, strOfNums_data, List.map_append]
theorem bt_at' (s : List UInt8) (i : Nat) (h : i < s.length) : bt (ofL s) (i : Int) = ((s[i]).toNat : Int) := by
  have hb := bt_get (ofL s) i (by rw [ofL_toList]; exact h)
  simp only [ofL_toList] at hb
  exact hb
theorem bt_is (s : List UInt8) (i : Nat) (h : i < s.length) (c : UInt8) (n : Int) (hn : (c.toNat : Int) = n) : (bt (ofL s) (i : Int) = n) ↔ s[i] = c := by
  rw [bt_at' s i h, ← hn]
  exact ⟨fun e => UInt8.toNat_inj.1 (by omega), fun e => by rw [e]⟩
/-! ### Join -/
theorem join_go (l : List ByteArray) (hl : l.length ≤ 1000) (hs : ∀ p ∈ l, p.size ≤ 50000000) : ∀ (d i : Nat) (acc : ByteArray), d = l.length - i → i ≤ l.length → acc.size ≤ 100000000 + i * 100000001 → Ev (fun k => path_Join.l0 k acc l (l.length : Int) (i : Int)) (acc ++ ofL ((l.drop i).flatMap fun p => 47 :: hidL p.toList)) := by
  intro d
  induction d with
  | zero =>
    intro i acc hd hi ha
    refine ⟨1, fun k hk => ?_⟩
    obtain ⟨m, rfl⟩ : ∃ m, k = m + 1 := ⟨k - 1, by omega⟩
    show path_Join.l0 (m + 1) acc l (l.length : Int) (i : Int) = _
    simp only [path_Join.l0]
    rw [if_neg (by omega), List.drop_eq_nil_of_le (by omega)]
    congr 1
    apply ba_ext; rw [ba_append, ofL_toList]; simp
  | succ d ih =>
    intro i acc hd hi ha
    have hil : i < l.length := by omega
    have hp := hs l[i] (List.getElem_mem hil)
    have hlen := hidL_len (l[i]).toList
    rw [← ba_size] at hlen
    have hsz : ((⟨#[47]⟩ : ByteArray) ++ ofL (hidL (l[i]).toList)).size ≤ 100000001 := by
      rw [ByteArray.size_append, ofL_size]; show 1 + _ ≤ _; omega
    have hi2 : i * 100000001 ≤ 1000 * 100000001 := Nat.mul_le_mul_right _ (by omega)
    obtain ⟨K, e⟩ := ih (i + 1) (acc ++ ((⟨#[47]⟩ : ByteArray) ++ ofL (hidL (l[i]).toList))) (by omega) (by omega) (by rw [ByteArray.size_append, Nat.add_mul]; omega)
    refine ⟨K + 1, fun k hk => ?_⟩
    obtain ⟨m, rfl⟩ : ∃ m, k = m + 1 := ⟨k - 1, by omega⟩
    have e : path_Join.l0 m _ l (l.length : Int) ((i + 1 : Nat) : Int) = _ := e m (by omega)
    show path_Join.l0 (m + 1) acc l (l.length : Int) (i : Int) = _
    simp only [path_Join.l0]
    rw [if_pos (by omega), if_pos (by omega), if_pos (by omega), rdOf_get l i hil, hidden_is _ hp, Option.bind_some, if_pos (by rw [ofL_size]; omega), if_pos (by omega), w1 i (by omega), e]
    congr 1
    rw [List.drop_eq_getElem_cons hil, List.flatMap_cons]
    apply ba_ext
    simp only [ba_append, ofL_toList, one_list]
    simp
theorem join_ev (a : ByteArray) (l : List ByteArray) (ha : a.size ≤ 50000000) (hl : l.length ≤ 1000) (hs : ∀ p ∈ l, p.size ≤ 50000000) : Ev (fun k => path_Join.f k a l) (ofL (keyL a.toList (l.map ByteArray.toList))) := by
  have h1 := hidL_len a.toList
  rw [← ba_size] at h1
  obtain ⟨K, e⟩ := join_go l hl hs l.length 0 (ofL (hidL a.toList)) (by omega) (by omega) (by rw [ofL_size]; omega)
  refine ⟨K, fun k hk => ?_⟩
  have e : path_Join.l0 k (ofL (hidL a.toList)) l (l.length : Int) 0 = _ := e k hk
  show path_Join.f k a l = _
  unfold path_Join.f
  rw [hidden_is a ha, Option.bind_some, e, ofL_append]
  unfold keyL glue
  rw [List.drop_zero, List.map_map, List.flatMap_map]
  rfl
/-! ### the reference's hidden, Join -/
theorem hiddenRef_go (s : List UInt8) (hs : s.length ≤ 50000000) : ∀ (d i : Nat) (acc : List UInt8), d = s.length - i → i ≤ s.length → acc.length ≤ 2 * i → Ev (fun k => footbridgeref08_hidden.l0 k (ofL s) (I acc) (i : Int)) (ofL (acc ++ hidL (s.drop i))) := by
  intro d
  induction d with
  | zero =>
    intro i acc hd hi ha
    refine ⟨1, fun k hk => ?_⟩
    obtain ⟨m, rfl⟩ : ∃ m, k = m + 1 := ⟨k - 1, by omega⟩
    show footbridgeref08_hidden.l0 (m + 1) (ofL s) (I acc) (i : Int) = _
    simp only [footbridgeref08_hidden.l0]
    rw [ofL_size, if_neg (by omega), List.drop_eq_nil_of_le (by omega), I_str]
    congr 2
    simp [hidL]
  | succ d ih =>
    intro i acc hd hi ha
    have hil : i < s.length := by omega
    obtain ⟨K, e⟩ := ih (i + 1) (acc ++ (if s[i] = 37 then [37, 112] else if s[i] = 47 then [37, 115] else [s[i]])) (by omega) (by omega) (by
      rw [List.length_append]
      have : (if s[i] = 37 then [37, 112] else if s[i] = 47 then [37, 115] else [s[i]] : List UInt8).length ≤ 2 := by split <;> (try split) <;> simp
      omega)
    refine ⟨K + 1, fun k hk => ?_⟩
    obtain ⟨m, rfl⟩ : ∃ m, k = m + 1 := ⟨k - 1, by omega⟩
    have e : footbridgeref08_hidden.l0 m (ofL s) _ ((i + 1 : Nat) : Int) = _ := e m (by omega)
    have hfin : acc ++ hidL (s.drop i) = (acc ++ (if s[i] = 37 then [37, 112] else if s[i] = 47 then [37, 115] else [s[i]])) ++ hidL (s.drop (i + 1)) := by
      rw [List.drop_eq_getElem_cons hil, hidL_cons, List.append_assoc]
    rw [hfin, ← e]
    show footbridgeref08_hidden.l0 (m + 1) (ofL s) (I acc) (i : Int) = _
    simp only [footbridgeref08_hidden.l0]
    have b1 := bt_is s i hil 37 37 rfl
    have b2 := bt_is s i hil 47 47 rfl
    rw [ofL_size, if_pos (by omega), if_pos (by omega), w1 i (by omega)]
    by_cases h1 : s[i] = 37
    · rw [if_pos (b1.2 h1), if_pos h1, Option.bind_some, if_pos (by rw [I_len]; simp only [List.length_cons, List.length_nil]; omega), I_append]; rfl
    · rw [if_neg (fun e => h1 (b1.1 e)), if_neg h1]
      by_cases h2 : s[i] = 47
      · rw [if_pos (b2.2 h2), if_pos h2, Option.bind_some, if_pos (by rw [I_len]; simp only [List.length_cons, List.length_nil]; omega), I_append]; rfl
      · rw [if_neg (fun e => h2 (b2.1 e)), if_neg h2, if_pos (by rw [I_len]; omega), I_append, bt_at' s i hil]; rfl
theorem hiddenRef_ev (a : ByteArray) (h : a.size ≤ 50000000) : Ev (fun k => footbridgeref08_hidden.f k a) (ofL (hidL a.toList)) := by
  have h2 := h
  rw [ba_size] at h2
  obtain ⟨K, e⟩ := hiddenRef_go a.toList h2 a.toList.length 0 [] (by omega) (by omega) (by simp)
  rw [ofL_of] at e
  exact ⟨K, e⟩
theorem joinRef_go (l : List ByteArray) (hl : l.length ≤ 1000) (hs : ∀ p ∈ l, p.size ≤ 50000000) : ∀ (d i : Nat) (acc : ByteArray), d = l.length - i → i ≤ l.length → acc.size ≤ 100000000 + i * 100000001 → Ev (fun k => footbridgeref08_Join.l0 k l acc (i : Int)) (acc ++ ofL ((l.drop i).flatMap fun p => 47 :: hidL p.toList)) := by
  intro d
  induction d with
  | zero =>
    intro i acc hd hi ha
    refine ⟨1, fun k hk => ?_⟩
    obtain ⟨m, rfl⟩ : ∃ m, k = m + 1 := ⟨k - 1, by omega⟩
    show footbridgeref08_Join.l0 (m + 1) l acc (i : Int) = _
    simp only [footbridgeref08_Join.l0]
    rw [if_neg (by omega), List.drop_eq_nil_of_le (by omega)]
    congr 1
    apply ba_ext; rw [ba_append, ofL_toList]; simp
  | succ d ih =>
    intro i acc hd hi ha
    have hil : i < l.length := by omega
    have hp := hs l[i] (List.getElem_mem hil)
    have hlen := hidL_len (l[i]).toList
    rw [← ba_size] at hlen
    have h47 : (⟨#[47]⟩ : ByteArray).size = 1 := rfl
    have hi2 : i * 100000001 ≤ 1000 * 100000001 := Nat.mul_le_mul_right _ (by omega)
    obtain ⟨K, e⟩ := ih (i + 1) ((acc ++ (⟨#[47]⟩ : ByteArray)) ++ ofL (hidL (l[i]).toList)) (by omega) (by omega) (by rw [ByteArray.size_append, ByteArray.size_append, ofL_size, h47, Nat.add_mul]; omega)
    obtain ⟨K1, e1⟩ := hiddenRef_ev l[i] hp
    refine ⟨K + K1 + 1, fun k hk => ?_⟩
    obtain ⟨m, rfl⟩ : ∃ m, k = m + 1 := ⟨k - 1, by omega⟩
    have e : footbridgeref08_Join.l0 m l _ ((i + 1 : Nat) : Int) = _ := e m (by omega)
    have e1 : footbridgeref08_hidden.f m l[i] = _ := e1 m (by omega)
    show footbridgeref08_Join.l0 (m + 1) l acc (i : Int) = _
    simp only [footbridgeref08_Join.l0]
    rw [if_pos (by omega), if_pos (by omega), if_pos (by omega), rdOf_get l i hil, e1, Option.bind_some, if_pos (by rw [ByteArray.size_append, ofL_size, h47]; omega), w1 i (by omega), e]
    congr 1
    rw [List.drop_eq_getElem_cons hil, List.flatMap_cons]
    apply ba_ext
    simp only [ba_append, ofL_toList, one_list]
    simp
theorem joinRef_ev (a : ByteArray) (l : List ByteArray) (ha : a.size ≤ 50000000) (hl : l.length ≤ 1000) (hs : ∀ p ∈ l, p.size ≤ 50000000) : Ev (fun k => footbridgeref08_Join.f k a l) (ofL (keyL a.toList (l.map ByteArray.toList))) := by
  have h1 := hidL_len a.toList
  rw [← ba_size] at h1
  obtain ⟨K, e⟩ := joinRef_go l hl hs l.length 0 (ofL (hidL a.toList)) (by omega) (by omega) (by rw [ofL_size]; omega)
  obtain ⟨K1, e1⟩ := hiddenRef_ev a ha
  refine ⟨K + K1, fun k hk => ?_⟩
  have e : footbridgeref08_Join.l0 k l (ofL (hidL a.toList)) 0 = _ := e k (by omega)
  have e1 : footbridgeref08_hidden.f k a = _ := e1 k (by omega)
  show footbridgeref08_Join.f k a l = _
  unfold footbridgeref08_Join.f
  rw [e1, Option.bind_some, e, ofL_append]
  unfold keyL glue
  rw [List.drop_zero, List.map_map, List.flatMap_map]
  rfl
/-! ### the reference's shown, Split -/
def shSpec (acc : List UInt8) : Option (List UInt8) → ByteArray × Bool
  | some l => (ofL (acc ++ l), true)
  | none => ((⟨#[]⟩ : ByteArray), false)
theorem shSpec_map (acc : List UInt8) (c : UInt8) (o : Option (List UInt8)) : shSpec acc (o.map (c :: ·)) = shSpec (acc ++ [c]) o := by
  cases o with
  | none => rfl
  | some l => simp [shSpec]
theorem shownRef_go (s : List UInt8) (hs : s.length ≤ 100000000) : ∀ (n i : Nat) (acc : List UInt8), s.length - i ≤ n → i ≤ s.length → acc.length ≤ i → Ev (fun k => footbridgeref08_shown.l0 k (ofL s) (I acc) (i : Int)) (shSpec acc (shownL (s.drop i))) := by
  intro n
  induction n with
  | zero =>
    intro i acc hd hi ha
    refine ⟨1, fun k hk => ?_⟩
    obtain ⟨m, rfl⟩ : ∃ m, k = m + 1 := ⟨k - 1, by omega⟩
    show footbridgeref08_shown.l0 (m + 1) (ofL s) (I acc) (i : Int) = _
    simp only [footbridgeref08_shown.l0]
    rw [ofL_size, if_neg (by omega), List.drop_eq_nil_of_le (by omega), I_str]
    simp [shSpec, shownL]
  | succ n ih =>
    intro i acc hd hi ha
    by_cases hil : i < s.length
    case neg =>
      refine ⟨1, fun k hk => ?_⟩
      obtain ⟨m, rfl⟩ : ∃ m, k = m + 1 := ⟨k - 1, by omega⟩
      show footbridgeref08_shown.l0 (m + 1) (ofL s) (I acc) (i : Int) = _
      simp only [footbridgeref08_shown.l0]
      rw [ofL_size, if_neg (by omega), List.drop_eq_nil_of_le (by omega), I_str]
      simp [shSpec, shownL]
    have b1 := bt_is s i hil 37 37 rfl
    by_cases h1 : s[i] = 37
    · by_cases hi2 : i + 1 < s.length
      · have c1 := bt_is s (i + 1) hi2 112 112 rfl
        have c2 := bt_is s (i + 1) hi2 115 115 rfl
        have hdr : s.drop i = 37 :: s[i + 1] :: s.drop (i + 2) := by rw [List.drop_eq_getElem_cons hil, List.drop_eq_getElem_cons hi2, h1]
        by_cases h2 : s[i + 1] = 112
        · obtain ⟨K, e⟩ := ih (i + 2) (acc ++ [37]) (by omega) (by omega) (by rw [List.length_append, List.length_singleton]; omega)
          refine ⟨K + 2, fun k hk => ?_⟩
          obtain ⟨m, rfl⟩ : ∃ m, k = m + 2 := ⟨k - 2, by omega⟩
          have e : footbridgeref08_shown.l0 m (ofL s) _ ((i + 1 + 1 : Nat) : Int) = _ := e m (by omega)
          show footbridgeref08_shown.l0 (m + 2) (ofL s) (I acc) (i : Int) = _
          simp only [footbridgeref08_shown.l0, footbridgeref08_shown.j1]
          rw [ofL_size, if_pos (by omega), if_pos (by omega), if_pos (b1.2 h1), w1 i (by omega), if_pos (by omega), if_pos (by omega), if_pos (by rw [beq_iff_eq]; exact c1.2 h2), if_pos (by rw [I_len]; omega), w1 (i + 1) (by omega)]
          rw [I_append] at e
          rw [show ([37] : List Int) = I [37] from rfl, e, hdr, shownL_at, if_pos h2, shSpec_map]
        · by_cases h3 : s[i + 1] = 115
          · obtain ⟨K, e⟩ := ih (i + 2) (acc ++ [47]) (by omega) (by omega) (by rw [List.length_append, List.length_singleton]; omega)
            refine ⟨K + 2, fun k hk => ?_⟩
            obtain ⟨m, rfl⟩ : ∃ m, k = m + 2 := ⟨k - 2, by omega⟩
            have e : footbridgeref08_shown.l0 m (ofL s) _ ((i + 1 + 1 : Nat) : Int) = _ := e m (by omega)
            show footbridgeref08_shown.l0 (m + 2) (ofL s) (I acc) (i : Int) = _
            simp only [footbridgeref08_shown.l0, footbridgeref08_shown.j1]
            rw [ofL_size, if_pos (by omega), if_pos (by omega), if_pos (b1.2 h1), w1 i (by omega), if_pos (by omega), if_pos (by omega), if_neg (by rw [beq_iff_eq]; exact fun e => h2 (c1.1 e)), if_pos (by omega), if_pos (by omega), if_pos (c2.2 h3), if_pos (by rw [I_len]; omega), w1 (i + 1) (by omega)]
            rw [I_append] at e
            rw [show ([47] : List Int) = I [47] from rfl, e, hdr, shownL_at, if_neg h2, if_pos h3, shSpec_map]
          · refine ⟨2, fun k hk => ?_⟩
            obtain ⟨m, rfl⟩ : ∃ m, k = m + 2 := ⟨k - 2, by omega⟩
            show footbridgeref08_shown.l0 (m + 2) (ofL s) (I acc) (i : Int) = _
            simp only [footbridgeref08_shown.l0, footbridgeref08_shown.j1]
            rw [ofL_size, if_pos (by omega), if_pos (by omega), if_pos (b1.2 h1), w1 i (by omega), if_pos (by omega), if_pos (by omega), if_neg (by rw [beq_iff_eq]; exact fun e => h2 (c1.1 e)), if_pos (by omega), if_pos (by omega), if_neg (fun e => h3 (c2.1 e)), hdr, shownL_at, if_neg h2, if_neg h3]
            rfl
      · refine ⟨2, fun k hk => ?_⟩
        obtain ⟨m, rfl⟩ : ∃ m, k = m + 2 := ⟨k - 2, by omega⟩
        have hdr : s.drop i = [37] := by rw [List.drop_eq_getElem_cons hil, h1, List.drop_eq_nil_of_le (by omega)]
        show footbridgeref08_shown.l0 (m + 2) (ofL s) (I acc) (i : Int) = _
        simp only [footbridgeref08_shown.l0, footbridgeref08_shown.j1]
        rw [ofL_size, if_pos (by omega), if_pos (by omega), if_pos (b1.2 h1), w1 i (by omega), if_neg (by omega), if_neg (by simp), if_neg (by omega), hdr, shownL_end]
        rfl
    · obtain ⟨K, e⟩ := ih (i + 1) (acc ++ [s[i]]) (by omega) (by omega) (by rw [List.length_append, List.length_singleton]; omega)
      refine ⟨K + 1, fun k hk => ?_⟩
      obtain ⟨m, rfl⟩ : ∃ m, k = m + 1 := ⟨k - 1, by omega⟩
      have e : footbridgeref08_shown.l0 m (ofL s) _ ((i + 1 : Nat) : Int) = _ := e m (by omega)
      show footbridgeref08_shown.l0 (m + 1) (ofL s) (I acc) (i : Int) = _
      simp only [footbridgeref08_shown.l0]
      rw [ofL_size, if_pos (by omega), if_pos (by omega), if_neg (fun e => h1 (b1.1 e)), if_pos (by rw [I_len]; omega), w1 i (by omega), bt_at' s i hil]
      rw [I_append] at e
      rw [show ([((s[i]).toNat : Int)] : List Int) = I [s[i]] from rfl, e, List.drop_eq_getElem_cons hil, shownL_ne _ h1, shSpec_map]
theorem shownRef_ev (s : List UInt8) (hs : s.length ≤ 100000000) : Ev (fun k => footbridgeref08_shown.f k (ofL s)) (shSpec [] (shownL s)) := by
  obtain ⟨K, e⟩ := shownRef_go s hs s.length 0 [] (by omega) (by omega) (by simp)
  exact ⟨K, e⟩
def spSpec (acc : List (List UInt8)) : Option (List (List UInt8)) → ByteArray × List ByteArray × Int
  | some ps => fin (acc ++ ps)
  | none => ((⟨#[]⟩ : ByteArray), [], 6)
theorem splitRef_go (s : List UInt8) (hs : s.length ≤ 100000000) : ∀ (d i j : Nat) (acc : List (List UInt8)), d = s.length - i → j ≤ i → i ≤ s.length → acc.length ≤ i → (47 : UInt8) ∉ (s.take i).drop j → Ev (fun k => footbridgeref08_Split.l0 k (ofL s) (acc.map ofL) (j : Int) (i : Int)) (spSpec acc (shAll (splitL 47 (s.drop j)))) := by
  intro d
  induction d with
  | zero =>
    intro i j acc hd hj hi ha hn
    have hii : i = s.length := by omega
    rw [hii, List.take_length] at hn
    obtain ⟨K1, e1⟩ := shownRef_ev (s.drop j) (by rw [List.length_drop]; omega)
    refine ⟨K1 + 3, fun k hk => ?_⟩
    obtain ⟨m, rfl⟩ : ∃ m, k = m + 3 := ⟨k - 3, by omega⟩
    have e1 : footbridgeref08_shown.f (m + 1) (ofL (s.drop j)) = _ := e1 (m + 1) (by omega)
    show footbridgeref08_Split.l0 (m + 3) (ofL s) (acc.map ofL) (j : Int) (i : Int) = _
    rw [footbridgeref08_Split.l0]
    rw [ofL_size, if_pos (by omega), if_neg (by omega), footbridgeref08_Split.j1, if_neg (by simp), if_pos (by omega), if_pos (by omega), ofL_size, if_pos (by omega), Int.toNat_natCast, Int.toNat_natCast, ofL_extract, hii, List.take_length, e1, Option.bind_some, splitL_no hn]
    simp only [shAll]
    cases h : shownL (s.drop j) with
    | none => rfl
    | some l =>
      have hpos : 0 < (acc.map ofL ++ [ofL l]).length := by simp
      show (if (true = true) then (if (acc.map ofL).length < 8796093022208 then _ else _) else _) = _
      rw [if_pos rfl, if_pos (by rw [List.length_map]; omega), w1 s.length (by omega), footbridgeref08_Split.l0, ofL_size, if_neg (by omega)]
      show (if 0 < ((acc.map ofL ++ [ofL l]).length : Int) then (if 1 ≤ ((acc.map ofL ++ [ofL l]).length : Int) then (some (rdOf ByteArray.empty (acc.map ofL ++ [ofL l]) 0, ((acc.map ofL ++ [ofL l]).drop (1 : Int).toNat), 0)) else none) else none) = _
      rw [if_pos (by omega), if_pos (by omega)]
      cases acc with
      | nil => rfl
      | cons x t => simp [spSpec, fin, rdOf]
  | succ d ih =>
    intro i j acc hd hj hi ha hn
    have hil : i < s.length := by omega
    have b1 := bt_is s i hil 47 47 rfl
    have htk : (s.take (i + 1)).drop j = (s.take i).drop j ++ [s[i]] := by
      rw [List.take_succ_eq_append_getElem hil, List.drop_append_of_le_length (by rw [List.length_take]; omega)]
    by_cases h10 : s[i] = 47
    · have hsp : s.drop j = (s.take i).drop j ++ 47 :: s.drop (i + 1) := by
        have h1 : s.drop j = (s.take i).drop j ++ s.drop i := by
          conv => lhs; rw [← List.take_append_drop i s]
          rw [List.drop_append_of_le_length (by rw [List.length_take]; omega)]
        rw [h1, List.drop_eq_getElem_cons hil, h10]
      have hlt : ((s.take i).drop j).length ≤ 100000000 := by rw [List.length_drop, List.length_take]; omega
      obtain ⟨K1, e1⟩ := shownRef_ev ((s.take i).drop j) hlt
      cases h : shownL ((s.take i).drop j) with
      | none =>
        refine ⟨K1 + 2, fun k hk => ?_⟩
        obtain ⟨m, rfl⟩ : ∃ m, k = m + 2 := ⟨k - 2, by omega⟩
        have e1 : footbridgeref08_shown.f m (ofL ((s.take i).drop j)) = _ := e1 m (by omega)
        show footbridgeref08_Split.l0 (m + 2) (ofL s) (acc.map ofL) (j : Int) (i : Int) = _
        rw [footbridgeref08_Split.l0]
        rw [ofL_size, if_pos (by omega), if_pos (by omega), if_pos (by omega), footbridgeref08_Split.j1, if_neg (by rw [bne_iff_ne]; exact fun e => e (b1.2 h10)), if_pos (by omega), if_pos (by omega), ofL_size, if_pos (by omega), Int.toNat_natCast, Int.toNat_natCast, ofL_extract, e1, Option.bind_some, hsp, splitL_app _ hn]
        simp only [shAll]
        rw [h]
        rfl
      | some l =>
        obtain ⟨K2, e2⟩ := ih (i + 1) (i + 1) (acc ++ [l]) (by omega) (by omega) (by omega) (by rw [List.length_append, List.length_singleton]; omega) (by rw [List.drop_eq_nil_of_le (by rw [List.length_take]; omega)]; simp)
        refine ⟨K1 + K2 + 2, fun k hk => ?_⟩
        obtain ⟨m, rfl⟩ : ∃ m, k = m + 2 := ⟨k - 2, by omega⟩
        have e1 : footbridgeref08_shown.f m (ofL ((s.take i).drop j)) = _ := e1 m (by omega)
        have e2 : footbridgeref08_Split.l0 m (ofL s) ((acc ++ [l]).map ofL) ((i + 1 : Nat) : Int) ((i + 1 : Nat) : Int) = _ := e2 m (by omega)
        show footbridgeref08_Split.l0 (m + 2) (ofL s) (acc.map ofL) (j : Int) (i : Int) = _
        rw [footbridgeref08_Split.l0]
        rw [ofL_size, if_pos (by omega), if_pos (by omega), if_pos (by omega), footbridgeref08_Split.j1, if_neg (by rw [bne_iff_ne]; exact fun e => e (b1.2 h10)), if_pos (by omega), if_pos (by omega), ofL_size, if_pos (by omega), Int.toNat_natCast, Int.toNat_natCast, ofL_extract, e1, Option.bind_some, h]
        show (if (true = true) then (if (acc.map ofL).length < 8796093022208 then _ else _) else _) = _
        rw [if_pos rfl, if_pos (by rw [List.length_map]; omega), w1 i (by omega)]
        rw [List.map_append] at e2
        show footbridgeref08_Split.l0 m (ofL s) (acc.map ofL ++ [ofL ([] ++ l)]) _ _ = _
        rw [List.nil_append, show [ofL l] = [l].map ofL from rfl, e2, hsp, splitL_app _ hn]
        simp only [shAll]
        rw [h]
        cases shAll (splitL 47 (s.drop (i + 1))) with
        | none => rfl
        | some ps => simp [spSpec]
    · obtain ⟨K2, e2⟩ := ih (i + 1) j acc (by omega) (by omega) (by omega) (by omega) (by rw [htk, List.mem_append, List.mem_singleton]; exact not_or.2 ⟨hn, fun e => h10 e.symm⟩)
      refine ⟨K2 + 2, fun k hk => ?_⟩
      obtain ⟨m, rfl⟩ : ∃ m, k = m + 2 := ⟨k - 2, by omega⟩
      have e2 : footbridgeref08_Split.l0 m (ofL s) (acc.map ofL) (j : Int) ((i + 1 : Nat) : Int) = _ := e2 m (by omega)
      show footbridgeref08_Split.l0 (m + 2) (ofL s) (acc.map ofL) (j : Int) (i : Int) = _
      rw [footbridgeref08_Split.l0]
      rw [ofL_size, if_pos (by omega), if_pos (by omega), if_pos (by omega), footbridgeref08_Split.j1, if_pos (by rw [bne_iff_ne]; exact fun e => h10 (b1.1 e)), w1 i (by omega), e2]
theorem splitRef_ev (s : List UInt8) (hs : s.length ≤ 100000000) : Ev (fun k => footbridgeref08_Split.f k (ofL s)) (splitSpec s) := by
  obtain ⟨K, e⟩ := splitRef_go s hs s.length 0 0 [] (by omega) (by omega) (by omega) (by simp) (by simp)
  refine ⟨K, fun k hk => ?_⟩
  have e : footbridgeref08_Split.l0 k (ofL s) [] 0 0 = _ := e k hk
  show footbridgeref08_Split.f k (ofL s) = _
  unfold footbridgeref08_Split.f splitSpec
  rw [e, List.drop_zero]
  cases shAll (splitL 47 s) <;> rfl
/-! ### Texts -/
theorem texts_go (l m : List ByteArray) (hl : l.length = m.length) (h : l.length ≤ 1000000) : ∀ (d i : Nat), d = l.length - i → i ≤ l.length → Ev (fun k => footbridgeref01_Texts.l0 k l m (i : Int)) (decide (l.drop i = m.drop i)) := by
  intro d
  induction d with
  | zero =>
    intro i hd hi
    refine ⟨1, fun k hk => ?_⟩
    obtain ⟨n, rfl⟩ : ∃ n, k = n + 1 := ⟨k - 1, by omega⟩
    show footbridgeref01_Texts.l0 (n + 1) l m (i : Int) = _
    simp only [footbridgeref01_Texts.l0]
    rw [if_neg (by omega), List.drop_eq_nil_of_le (by omega), List.drop_eq_nil_of_le (by omega)]; simp
  | succ d ih =>
    intro i hd hi
    have hil : i < l.length := by omega
    have him : i < m.length := by omega
    obtain ⟨K, e⟩ := ih (i + 1) (by omega) (by omega)
    refine ⟨K + 1, fun k hk => ?_⟩
    obtain ⟨n, rfl⟩ : ∃ n, k = n + 1 := ⟨k - 1, by omega⟩
    have e : footbridgeref01_Texts.l0 n l m ((i + 1 : Nat) : Int) = _ := e n (by omega)
    show footbridgeref01_Texts.l0 (n + 1) l m (i : Int) = _
    simp only [footbridgeref01_Texts.l0]
    rw [if_pos (by omega), if_pos (by omega), if_pos (by omega), rdOf_get l i hil, rdOf_get m i him, w1 i (by omega), e, List.drop_eq_getElem_cons hil, List.drop_eq_getElem_cons him]
    by_cases hx : (l[i]).toList = (m[i]).toList
    · rw [if_pos hx]
      have hx2 := ba_ext hx
      rw [hx2]
      exact congrArg some (by rw [decide_eq_decide, List.cons.injEq]; exact ⟨fun h => ⟨rfl, h⟩, fun h => h.2⟩)
    · rw [if_neg hx]
      have hx2 : ¬ l[i] = m[i] := fun e => hx (by rw [e])
      rw [decide_eq_false (fun e => hx2 (List.cons.inj e).1)]
theorem texts_ev (l m : List ByteArray) (h : l.length ≤ 1000000) : Ev (fun k => footbridgeref01_Texts.f k l m) (decide (l = m)) := by
  by_cases hl : l.length = m.length
  · obtain ⟨K, e⟩ := texts_go l m hl h l.length 0 (by omega) (by omega)
    refine ⟨K, fun k hk => ?_⟩
    have e : footbridgeref01_Texts.l0 k l m 0 = _ := e k hk
    show footbridgeref01_Texts.f k l m = _
    unfold footbridgeref01_Texts.f
    rw [if_pos (by omega), e, List.drop_zero, List.drop_zero]
  · refine ⟨0, fun k hk => ?_⟩
    show footbridgeref01_Texts.f k l m = _
    unfold footbridgeref01_Texts.f
    have : ¬ l = m := fun e => hl (by rw [e])
    rw [if_neg (by omega), decide_eq_false this]
end Go.Proofs.YtcgmododeiocpaaDoor.PurePat
