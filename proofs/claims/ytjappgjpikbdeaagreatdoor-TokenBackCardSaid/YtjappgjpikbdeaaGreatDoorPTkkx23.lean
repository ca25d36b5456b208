-- written by wip/myprint.py over the kit's print; not a printed text of print.sh
import Derived.Test.YtjappgjpikbdeaaGreatDoorPTkkx0
import Derived.Test.YtjappgjpikbdeaaGreatDoorPTkkx3
import Derived.Test.YtjappgjpikbdeaaGreatDoorPTkkx11
import Derived.Test.YtjappgjpikbdeaaGreatDoorPTkkx12
import Derived.Test.YtjappgjpikbdeaaGreatDoorPTkkx13
import Derived.Test.YtjappgjpikbdeaaGreatDoorPTkkx14
import Derived.Test.YtjappgjpikbdeaaGreatDoorPTkkx15
import Derived.Test.YtjappgjpikbdeaaGreatDoorPTkkx16
import Derived.Test.YtjappgjpikbdeaaGreatDoorPTkkx20
import Derived.Test.YtjappgjpikbdeaaGreatDoorPTkkx21
import Derived.Test.YtjappgjpikbdeaaGreatDoorPTkkx22
namespace Go.Proofs.YtjappgjpikbdeaaGreatDoor.PTkk
open Go.RowKit Go.Proofs.YtjappgjpikbdeaaGreatDoorW.PrintWords Go.Proofs.YtjappgjpikbdeaaGreatDoorW.PrintLast Go.Proofs.YtjappgjpikbdeaaGreatDoorW.PrintMore
attribute [local go_sem] max2_int min2_int max_two min_two max_three min_three max_four min_four   -- for this text's walks alone
set_option linter.unusedVariables false
set_option linter.unusedSimpArgs false

/-! ### token_Get: function 6 -/
-- @break
theorem bkNum_is (n : Int) : ∃ er, wire_Num.f n = some (bkNum n, er) := by
  unfold bkNum
  by_cases h : n < 0 ∨ 9007199254740992 < n
  · rw [if_pos h]; unfold wire_Num.f; rw [if_pos h]; exact ⟨_, rfl⟩
  · rw [if_neg h]
    obtain ⟨m, rfl⟩ : ∃ m : Nat, n = (m : Int) := ⟨n.toNat, by omega⟩
    rw [Int.toNat_natCast]; exact ⟨_, wNum_is m (by omega)⟩
theorem bkNum_sz (n : Int) : (bkNum n).size ≤ 9 := by
  unfold bkNum
  split
  · exact Nat.zero_le _
  · exact numB_len _
theorem numK_bd (cur : List S82) (key : ByteArray) : 0 ≤ numK cur key ∧ numK cur key ≤ 9007199254740992 := by
  unfold numK
  split
  · exact rNum_bd _ _
  · exact ⟨Int.le_refl _, by omega⟩
/-! ### tokens: plain -/
def tkKey (c i : ByteArray) : ByteArray := keyB (⟨#[116, 111, 107, 101, 110]⟩ : ByteArray) [c, i]
def tkOwn (o c i : ByteArray) : ByteArray := keyB (⟨#[111, 119, 110]⟩ : ByteArray) [o, c, i]
def tkMay (c i : ByteArray) : ByteArray := keyB (⟨#[109, 97, 121]⟩ : ByteArray) [c, i]
def tkSup (c : ByteArray) : ByteArray := keyB (⟨#[115, 117, 112, 112, 108, 121]⟩ : ByteArray) [c]
def tkGet (cur : List S82) (c i : ByteArray) : ByteArray × ByteArray × ByteArray × ByteArray × ByteArray × Int :=
  if hasK cur (tkKey c i) = true ∧ (txt3 (getK cur (tkKey c i)).1).2.2.2 = 0 then (c, i, (txt3 (getK cur (tkKey c i)).1).1, (txt3 (getK cur (tkKey c i)).1).2.1, (txt3 (getK cur (tkKey c i)).1).2.2.1, 0) else ((⟨#[]⟩ : ByteArray), (⟨#[]⟩ : ByteArray), (⟨#[]⟩ : ByteArray), (⟨#[]⟩ : ByteArray), (⟨#[]⟩ : ByteArray), 8)
def tkE (x : ByteArray × ByteArray × ByteArray × ByteArray × ByteArray × Int) : Int := x.2.2.2.2.2
def tkO (x : ByteArray × ByteArray × ByteArray × ByteArray × ByteArray × Int) : ByteArray := x.2.2.2.2.1
def tkKeep (cur : List S82) (c i u d o : ByteArray) : List S82 := setC (setC cur (tkKey c i) (valB [u, d, o])) (tkOwn o c i) (⟨#[1]⟩ : ByteArray)
noncomputable def tkMintE (cur : List S82) (c i u d o : ByteArray) : Int :=
  if (clGet cur c).2.2.2.2 ≠ 0 then (clGet cur c).2.2.2.2 else if nm_checkSpec 5 i ≠ 0 ∨ o.size = 0 ∨ o.size > 512 then 7 else if u.size > 32768 ∨ d.size > 16384 then 4 else if hasK cur (tkKey c i) = true then 9 else 0
noncomputable def tkMint (cur : List S82) (c i u d o : ByteArray) : List S82 := if tkMintE cur c i u d o = 0 then bkSet (tkKeep cur c i u d o) (tkSup c) (numK cur (tkSup c) + 1) else cur
def tkBurn3 (cur : List S82) (c i o : ByteArray) : List S82 := delK (delK (delK cur (tkKey c i)) (tkOwn o c i)) (tkMay c i)
def tkBurn (cur : List S82) (c i : ByteArray) : List S82 := if tkE (tkGet cur c i) = 0 then bkSet (tkBurn3 cur c i (tkO (tkGet cur c i))) (tkSup c) (numK cur (tkSup c) - 1) else cur
def tkMoveE (cur : List S82) (c i p : ByteArray) : Int := if tkE (tkGet cur c i) ≠ 0 then tkE (tkGet cur c i) else if p.size = 0 ∨ p.size > 512 then 7 else 0
def tkMove (cur : List S82) (c i p : ByteArray) : List S82 := if tkMoveE cur c i p = 0 then tkKeep (delK (delK cur (tkOwn (tkO (tkGet cur c i)) c i)) (tkMay c i)) c i (tkGet cur c i).2.2.1 (tkGet cur c i).2.2.2.1 p else cur
theorem h_tok : (⟨#[116, 111, 107, 101, 110]⟩ : ByteArray).toList = 116 :: [111, 107, 101, 110] := by simp [ByteArray.toList_eq]
theorem h_own : (⟨#[111, 119, 110]⟩ : ByteArray).toList = 111 :: [119, 110] := by simp [ByteArray.toList_eq]
theorem h_may : (⟨#[109, 97, 121]⟩ : ByteArray).toList = 109 :: [97, 121] := by simp [ByteArray.toList_eq]
theorem h_sup : (⟨#[115, 117, 112, 112, 108, 121]⟩ : ByteArray).toList = 115 :: [117, 112, 112, 108, 121] := by simp [ByteArray.toList_eq]
theorem h_cls : (⟨#[99, 108, 97, 115, 115]⟩ : ByteArray).toList = 99 :: [108, 97, 115, 115] := by simp [ByteArray.toList_eq]
theorem ne_KeyOwn (c i o' c' i' : ByteArray) : tkKey c i ≠ tkOwn o' c' i' := keyB_ne h_tok h_own (by decide) (by decide) (by decide) (by decide) (by decide)
theorem ne_KeyMay (c i c' i' : ByteArray) : tkKey c i ≠ tkMay c' i' := keyB_ne h_tok h_may (by decide) (by decide) (by decide) (by decide) (by decide)
theorem ne_KeySup (c i c' : ByteArray) : tkKey c i ≠ tkSup c' := keyB_ne h_tok h_sup (by decide) (by decide) (by decide) (by decide) (by decide)
theorem ne_KeyCls (c i c' : ByteArray) : tkKey c i ≠ keyB (⟨#[99, 108, 97, 115, 115]⟩ : ByteArray) [c'] := keyB_ne h_tok h_cls (by decide) (by decide) (by decide) (by decide) (by decide)
theorem ne_OwnKey (o c i c' i' : ByteArray) : tkOwn o c i ≠ tkKey c' i' := keyB_ne h_own h_tok (by decide) (by decide) (by decide) (by decide) (by decide)
theorem ne_OwnMay (o c i c' i' : ByteArray) : tkOwn o c i ≠ tkMay c' i' := keyB_ne h_own h_may (by decide) (by decide) (by decide) (by decide) (by decide)
theorem ne_OwnSup (o c i c' : ByteArray) : tkOwn o c i ≠ tkSup c' := keyB_ne h_own h_sup (by decide) (by decide) (by decide) (by decide) (by decide)
theorem ne_OwnCls (o c i c' : ByteArray) : tkOwn o c i ≠ keyB (⟨#[99, 108, 97, 115, 115]⟩ : ByteArray) [c'] := keyB_ne h_own h_cls (by decide) (by decide) (by decide) (by decide) (by decide)
theorem ne_MayKey (c i c' i' : ByteArray) : tkMay c i ≠ tkKey c' i' := keyB_ne h_may h_tok (by decide) (by decide) (by decide) (by decide) (by decide)
theorem ne_MayOwn (c i o' c' i' : ByteArray) : tkMay c i ≠ tkOwn o' c' i' := keyB_ne h_may h_own (by decide) (by decide) (by decide) (by decide) (by decide)
theorem ne_MaySup (c i c' : ByteArray) : tkMay c i ≠ tkSup c' := keyB_ne h_may h_sup (by decide) (by decide) (by decide) (by decide) (by decide)
theorem ne_MayCls (c i c' : ByteArray) : tkMay c i ≠ keyB (⟨#[99, 108, 97, 115, 115]⟩ : ByteArray) [c'] := keyB_ne h_may h_cls (by decide) (by decide) (by decide) (by decide) (by decide)
theorem ne_SupKey (c c' i' : ByteArray) : tkSup c ≠ tkKey c' i' := keyB_ne h_sup h_tok (by decide) (by decide) (by decide) (by decide) (by decide)
theorem ne_SupOwn (c o' c' i' : ByteArray) : tkSup c ≠ tkOwn o' c' i' := keyB_ne h_sup h_own (by decide) (by decide) (by decide) (by decide) (by decide)
theorem ne_SupMay (c c' i' : ByteArray) : tkSup c ≠ tkMay c' i' := keyB_ne h_sup h_may (by decide) (by decide) (by decide) (by decide) (by decide)
theorem ne_SupCls (c c' : ByteArray) : tkSup c ≠ keyB (⟨#[99, 108, 97, 115, 115]⟩ : ByteArray) [c'] := keyB_ne h_sup h_cls (by decide) (by decide) (by decide) (by decide) (by decide)
theorem ne_ClsKey (c c' i' : ByteArray) : keyB (⟨#[99, 108, 97, 115, 115]⟩ : ByteArray) [c] ≠ tkKey c' i' := keyB_ne h_cls h_tok (by decide) (by decide) (by decide) (by decide) (by decide)
theorem ne_ClsOwn (c o' c' i' : ByteArray) : keyB (⟨#[99, 108, 97, 115, 115]⟩ : ByteArray) [c] ≠ tkOwn o' c' i' := keyB_ne h_cls h_own (by decide) (by decide) (by decide) (by decide) (by decide)
theorem ne_ClsMay (c c' i' : ByteArray) : keyB (⟨#[99, 108, 97, 115, 115]⟩ : ByteArray) [c] ≠ tkMay c' i' := keyB_ne h_cls h_may (by decide) (by decide) (by decide) (by decide) (by decide)
theorem ne_ClsSup (c c' : ByteArray) : keyB (⟨#[99, 108, 97, 115, 115]⟩ : ByteArray) [c] ≠ tkSup c' := keyB_ne h_cls h_sup (by decide) (by decide) (by decide) (by decide) (by decide)
theorem keyB_len2 (a p q : ByteArray) : (keyB a [p, q]).size ≤ 2 * a.size + 2 + 2 * p.size + 2 * q.size := by
  have h1 := hidL_len a.toList
  have h2 := hidL_len p.toList
  have h3 := hidL_len q.toList
  rw [← ba_size] at h1 h2 h3
  unfold keyB keyL glue
  rw [ofL_size]
  simp only [List.map_cons, List.map_nil, List.flatMap_cons, List.flatMap_nil, List.length_append, List.length_cons, List.length_nil]
  omega
theorem keyB_len3 (a p q r : ByteArray) : (keyB a [p, q, r]).size ≤ 2 * a.size + 3 + 2 * p.size + 2 * q.size + 2 * r.size := by
  have h1 := hidL_len a.toList
  have h2 := hidL_len p.toList
  have h3 := hidL_len q.toList
  have h4 := hidL_len r.toList
  rw [← ba_size] at h1 h2 h3 h4
  unfold keyB keyL glue
  rw [ofL_size]
  simp only [List.map_cons, List.map_nil, List.flatMap_cons, List.flatMap_nil, List.length_append, List.length_cons, List.length_nil]
  omega
theorem tkKey_len (c i : ByteArray) : (tkKey c i).size ≤ 12 + 2 * c.size + 2 * i.size := by
  have := keyB_len2 (⟨#[116, 111, 107, 101, 110]⟩ : ByteArray) c i
  rw [show (⟨#[116, 111, 107, 101, 110]⟩ : ByteArray).size = 5 from rfl] at this
  unfold tkKey; omega
theorem tkOwn_len (o c i : ByteArray) : (tkOwn o c i).size ≤ 9 + 2 * o.size + 2 * c.size + 2 * i.size := by
  have := keyB_len3 (⟨#[111, 119, 110]⟩ : ByteArray) o c i
  rw [show (⟨#[111, 119, 110]⟩ : ByteArray).size = 3 from rfl] at this
  unfold tkOwn; omega
theorem tkKeep_KV {m : Nat} {cur : List S82} (h : KV m cur) (c i u d o : ByteArray) : KV (m + 2) (tkKeep cur c i u d o) := (h.put _ _).put _ _
theorem tkMint_KV {m : Nat} {cur : List S82} (h : KV m cur) (c i u d o : ByteArray) : KV (m + 3) (tkMint cur c i u d o) := by
  unfold tkMint
  split
  · exact bkSet_KV (tkKeep_KV h c i u d o) _ _
  · exact h.mono (by omega)
theorem tkBurn3_KV {m : Nat} {cur : List S82} (h : KV m cur) (c i o : ByteArray) : KV m (tkBurn3 cur c i o) := ((h.del _).del _).del _
theorem tkBurn_KV {m : Nat} {cur : List S82} (h : KV m cur) (c i : ByteArray) : KV (m + 1) (tkBurn cur c i) := by
  unfold tkBurn
  split
  · exact bkSet_KV (tkBurn3_KV h _ _ _) _ _
  · exact h.mono (by omega)
theorem tkMove_KV {m : Nat} {cur : List S82} (h : KV m cur) (c i p : ByteArray) : KV (m + 2) (tkMove cur c i p) := by
  unfold tkMove
  split
  · exact tkKeep_KV ((h.del _).del _) _ _ _ _ _
  · exact h.mono (by omega)
theorem getK_has (cur : List S82) (key : ByteArray) : (getK cur key).2 = hasK cur key := by unfold getK; cases hasK cur key <;> rfl
theorem val3 (a b c : ByteArray) : valB [a, b, c] = textB a ++ (textB b ++ textB c) := by
  have e : (⟨#[]⟩ : ByteArray) ++ textB a = textB a := ba_ext (by rw [ba_append]; simp [ByteArray.toList_eq])
  show (((⟨#[]⟩ : ByteArray) ++ textB a) ++ textB b) ++ textB c = _
  rw [e]
  apply ba_ext
  rw [ba_append, ba_append, ba_append, ba_append, List.append_assoc]
theorem val3_len (a b c : ByteArray) : (valB [a, b, c]).size ≤ 27 + a.size + b.size + c.size := by
  have h1 := textB_len a
  have h2 := textB_len b
  have h3 := textB_len c
  rw [val3, ByteArray.size_append, ByteArray.size_append]; omega
theorem txt3_val (a b c : ByteArray) (ha : a.size ≤ 65536) (hb : b.size ≤ 65536) (hc : c.size ≤ 65536) : txt3 (valB [a, b, c]) = (a, b, c, 0) := by
  unfold txt3
  rw [val3, rText_textB a _ ha]
  dsimp only
  rw [rText_textB b _ hb]
  dsimp only
  rw [rText_textB0 c hc]
  dsimp only
  rw [show rDone (⟨#[]⟩ : ByteArray) 0 = 0 by simp [rDone, ByteArray.toList_eq]]
theorem tkSup_len (c : ByteArray) : (tkSup c).size ≤ 13 + 2 * c.size := by
  have h1 := hidL_len ((⟨#[115, 117, 112, 112, 108, 121]⟩ : ByteArray)).toList
  have h2 := hidL_len c.toList
  rw [← ba_size] at h1 h2
  have h3 : ((⟨#[115, 117, 112, 112, 108, 121]⟩ : ByteArray)).size = 6 := rfl
  unfold tkSup keyB keyL glue
  rw [ofL_size]
  simp only [List.map_cons, List.map_nil, List.flatMap_cons, List.flatMap_nil, List.length_append, List.length_cons, List.length_nil]
  omega
theorem tkKey_ev (c i : ByteArray) (hc : c.size ≤ 50000000) (hi : i.size ≤ 50000000) : ∃ k, token_key.f k c i = some (tkKey c i) := by
  obtain ⟨k, e⟩ := key_ev (⟨#[116, 111, 107, 101, 110]⟩ : ByteArray) [c, i] (by decide) (by simp) (by simpa using ⟨hc, hi⟩)
  exact ⟨k, by unfold token_key.f; rw [e]; rfl⟩
theorem tkMay_ev (c i : ByteArray) (hc : c.size ≤ 50000000) (hi : i.size ≤ 50000000) : ∃ k, token_may.f k c i = some (tkMay c i) := by
  obtain ⟨k, e⟩ := key_ev (⟨#[109, 97, 121]⟩ : ByteArray) [c, i] (by decide) (by simp) (by simpa using ⟨hc, hi⟩)
  exact ⟨k, by unfold token_may.f; rw [e]; rfl⟩
theorem tkOwn_ev (c i u d o : ByteArray) (hc : c.size ≤ 50000000) (hi : i.size ≤ 50000000) (ho : o.size ≤ 50000000) : ∃ k, token_own.f k c i u d o = some (tkOwn o c i) := by
  obtain ⟨k, e⟩ := key_ev (⟨#[111, 119, 110]⟩ : ByteArray) [o, c, i] (by decide) (by simp) (by simpa using ⟨ho, hc, hi⟩)
  exact ⟨k, by unfold token_own.f; rw [e]; rfl⟩
theorem tkValue_is (c i u d o : ByteArray) (hu : u.size ≤ 1000000) (hd : d.size ≤ 1000000) (ho : o.size ≤ 1000000) : token_value.f 4 c i u d o = some (valB [u, d, o]) := by
  have l1 := textB_len u
  have l2 := textB_len d
  have l3 := textB_len o
  have st : ∀ (k : Nat) (acc : ByteArray) (j : Nat) (s : ByteArray), j < 3 → rdOf ByteArray.empty [u, d, o] (j : Int) = s → acc.size + (textB s).size ≤ 9223372036854775807 → token_value.l0 (k + 1) acc [u, d, o] 3 (j : Int) = token_value.l0 k (acc ++ textB s) [u, d, o] 3 ((j + 1 : Nat) : Int) := fun k acc j s hj hr hz => by
    rw [token_value.l0, if_pos (by omega), if_pos (by omega), if_pos (by show (j : Int) < ((3 : Nat) : Int); omega), hr, wText_is, Option.bind_some, if_pos hz, w_one j (by omega)]
  have e0 : (⟨#[]⟩ : ByteArray).size = 0 := rfl
  unfold token_value.f
  rw [Option.bind_some]
  show token_value.l0 (3 + 1) (⟨#[]⟩ : ByteArray) [u, d, o] 3 ((0 : Nat) : Int) = _
  rw [st 3 _ 0 u (by omega) rfl (by omega), st 2 _ 1 d (by omega) rfl (by rw [ByteArray.size_append]; omega), st 1 _ 2 o (by omega) rfl (by rw [ByteArray.size_append, ByteArray.size_append]; omega), token_value.l0, if_neg (by decide)]
  rfl
theorem tkNamed_is (o : ByteArray) : token_named.f o = some (decide (¬ (o.size = 0 ∨ o.size > 512))) := by
  unfold token_named.f
  by_cases h : o.toList = ([] : List UInt8)
  · have : o.size = 0 := by rw [ba_size, h]; rfl
    rw [if_pos h, decide_eq_false (by omega)]
  · have : ¬ o.size = 0 := fun e => h (by rw [ba_size] at e; exact List.length_eq_zero_iff.1 e)
    rw [if_neg h]
    congr 1
    exact decide_eq_decide.2 (by omega)
set_option maxHeartbeats 8000000 in
set_option maxRecDepth 100000 in
theorem tk_counted {base g : Nat} {ok : Nat → Prop} {w0 : World} {cur : List S82} (id : ByteArray) (n : Int) {w : World} (h : JS base ok w0 g cur w) (hk1 : KV 1000000 cur) (hid : id.size ≤ 50000000) :
    Calls Tryz.prog 27 #[.pointer (some ⟨g, 0, none⟩), .string id, .int .i64 n] w fun e w' => e = .returned (.tuple #[]) ∧ JS base ok w0 g (bkSet cur (tkSup id) n) w' ∧ JK w w' := by
  obtain ⟨y1, hy1⟩ : ∃ y : List ByteArray, y = [id] := ⟨_, rfl⟩
  obtain ⟨k1, key1⟩ := key_ev (⟨#[115, 117, 112, 112, 108, 121]⟩ : ByteArray) y1 (by decide) (by rw [hy1]; simp) (by rw [hy1]; simpa using hid)
  have Ny1 := Aside0.mk hy1
  have HJ := Aside0.mk h
  have HK := Aside0.mk (JK.of_below (Below.refl w.heap.size w))
  clear h
  generalize hkey : keyB (⟨#[115, 117, 112, 112, 108, 121]⟩ : ByteArray) y1 = key at key1
  have ekey : tkSup id = key := by unfold tkSup; rw [← hy1]; exact hkey
  rw [ekey]
  clear hy1 hkey ekey
  obtain ⟨cur', hcur⟩ : ∃ c, bkSet cur key n = c := ⟨_, rfl⟩
  obtain ⟨er, hnum⟩ := bkNum_is n
  obtain ⟨V, hV⟩ : ∃ V, bkNum n = V := ⟨_, rfl⟩
  rw [hcur]
  rw [hV] at hnum
  unfold bkSet at hcur
  rw [hV] at hcur
  clear hV
  go_enter Tryz.func27, Tryz.ntmps27
  go_wp2_with (first | ((with_reducible refine gate_dst (N := 10) rfl ?_); (try (refine gate_guard (by rfl) ?_; dsimp only)); refine Kd.R_lit Kd.string _ 9 ?hg (N := 10) ?hd (xs := ([id] : List ByteArray)) (inner := [.string id]) (ok := fun _ => True) (okp := fun _ => True) ?hr ?hp (fun _ hk => hk) trivial (Below.refl _ _) (Nat.le_refl _) (by simp) ?_; (case hd => rfl); (case hg => rfl); (case hr => first | (go_simp; done) | (go_simp; rfl)); (case hp => exact (Reps.one (show Kd.M Kd.string _ _ _ id [.string id] from rfl) (Reps.none _ _))); intro vlit wy1 hlit hb hg_ hnew_; clear hg_ hnew_; rw [← Ny1.out] at hlit; obtain ⟨Ay1, cy1, el_⟩ := Kd.R_slice hlit; subst el_; have Ry1 := Aside0.mk hlit; clear hlit; have n_HK := Aside0.mk (HK.out.trans (JK.of_below hb)); have n_HJ := Aside0.mk (JS.below (base := base) (ok := ok) (w0 := w0) (g := g) (cur := cur) (by first | exact HJ.out | ((with_reducible repeat (first | apply JS.drewN | apply JS.drew | apply JS.alloc)); exact HJ.out)) hb); clear HK HJ; have HK := n_HK; have HJ := n_HJ; clear n_HK n_HJ; clear hb))
  refine (path_Join.calls k1 (⟨#[115, 117, 112, 112, 108, 121]⟩ : ByteArray) Ay1 cy1 y1 key _ (Kd.R_reads' Ry1.out).2.2 (Kd.R_reads' Ry1.out).2.1 key1).mono ?_
  rintro e w1 ⟨rfl, hb⟩
  have n_HK := Aside0.mk (HK.out.trans (JK.of_below hb))
  have n_HJ := Aside0.mk (JS.below (base := base) (ok := ok) (w0 := w0) (g := g) (cur := cur) (by first | exact HJ.out | ((with_reducible repeat (first | apply JS.drewN | apply JS.drew | apply JS.alloc)); exact HJ.out)) hb)
  clear HK HJ
  have HK := n_HK
  have HJ := n_HJ
  clear n_HK n_HJ
  clear hb
  clear Ry1 Ny1
  by_cases hz : n = 0
  · subst hz
    rw [if_pos rfl] at hcur
    subst hcur
    go_wp2_with fail
    refine (js_del key HJ.out hk1).mono ?_
    rintro e w2 ⟨rfl, hj, hk⟩
    have n_HK := Aside0.mk (HK.out.trans hk)
    have n_HJ := Aside0.mk (hj)
    clear HK HJ
    have HK := n_HK
    have HJ := n_HJ
    clear n_HK n_HJ
    clear hj hk
    go_wp2
    first | go_end0 | refine bodyPost_ret (results_none rfl _ _ _) rfl ?_
    exact ⟨rfl, HJ.out, HK.out⟩
  · rw [if_neg hz] at hcur
    subst hcur
    go_wp2_with fail
    refine (wire_Num.calls n V er _ hnum).mono ?_
    rintro e w2 ⟨rfl, hb⟩
    have n_HK := Aside0.mk (HK.out.trans (JK.of_below hb))
    have n_HJ := Aside0.mk (JS.below (base := base) (ok := ok) (w0 := w0) (g := g) (cur := cur) (by first | exact HJ.out | ((with_reducible repeat (first | apply JS.drewN | apply JS.drew | apply JS.alloc)); exact HJ.out)) hb)
    clear HK HJ
    have HK := n_HK
    have HJ := n_HJ
    clear n_HK n_HJ
    clear hb
    go_wp2_with fail
    refine (js_set key V HJ.out hk1).mono ?_
    rintro e w3 ⟨rfl, hj, hk⟩
    have n_HK := Aside0.mk (HK.out.trans hk)
    have n_HJ := Aside0.mk (hj)
    clear HK HJ
    have HK := n_HK
    have HJ := n_HJ
    clear n_HK n_HJ
    clear hj hk
    go_wp2
    first | go_end0 | refine bodyPost_ret (results_none rfl _ _ _) rfl ?_
    exact ⟨rfl, HJ.out, HK.out⟩
set_option maxHeartbeats 8000000 in
set_option maxRecDepth 100000 in
theorem tk_get {base g : Nat} {ok : Nat → Prop} {w0 : World} {cur : List S82} (c i : ByteArray) (x0 x1 x2 x3 x4 : ByteArray) (x5 : Int) {w : World} (h : JS base ok w0 g cur w) (hk : KV 1000000 cur) (hc : c.size ≤ 50000000) (hi : i.size ≤ 50000000) (hres : tkGet cur c i = (x0, x1, x2, x3, x4, x5)) :
    Calls Tryz.prog 6 #[.pointer (some ⟨g, 0, none⟩), .string c, .string i] w fun e w' => e = .returned (.tuple #[.agg #[.string x0, .string x1, .string x2, .string x3, .string x4], .int .i64 x5]) ∧ Below w.heap.size w w' := by
  obtain ⟨k1, key1⟩ := tkKey_ev c i hc hi
  have HJ := Aside0.mk h
  have HB := Aside0.mk (Below.refl w.heap.size w)
  clear h
  unfold tkGet at hres
  generalize tkKey c i = key at key1 hres
  have hvs := hk.get key
  obtain ⟨v, hv⟩ : ∃ v, (getK cur key).1 = v := ⟨_, rfl⟩
  obtain ⟨b, hb0⟩ : ∃ b, hasK cur key = b := ⟨_, rfl⟩
  unfold txt3 at hres
  rw [hv] at hvs
  rw [hv, hb0] at hres
  obtain ⟨t1, s1, e1, hq1⟩ : ∃ a b c, rText v 0 = (a, b, c) := ⟨_, _, _, rfl⟩
  obtain ⟨t2, s2, e2, hq2⟩ : ∃ a b c, rText s1 e1 = (a, b, c) := ⟨_, _, _, rfl⟩
  obtain ⟨t3, s3, e3, hq3⟩ : ∃ a b c, rText s2 e2 = (a, b, c) := ⟨_, _, _, rfl⟩
  have hz1 := rText_sz v 0
  have hz2 := rText_sz s1 e1
  rw [hq1] at hz1
  rw [hq2] at hz2
  dsimp only at hz1 hz2
  have hT1 : wire_Reader_Text.f v 0 = some (t1, s1, e1) := by rw [rText_is _ _ (by omega), hq1]
  have hT2 : wire_Reader_Text.f s1 e1 = some (t2, s2, e2) := by rw [rText_is _ _ (by omega), hq2]
  have hT3 : wire_Reader_Text.f s2 e2 = some (t3, s3, e3) := by rw [rText_is _ _ (by omega), hq3]
  rw [hq1] at hres
  dsimp only at hres
  rw [hq2] at hres
  dsimp only at hres
  rw [hq3] at hres
  dsimp only at hres
  clear hq1 hq2 hq3 hz1 hz2
  go_enter Tryz.func6, Tryz.ntmps6
  go_wp2_with (first | ((with_reducible refine gate_dst (N := 6) rfl ?_); refine box_event ?hg (N := 6) ?hd (cs := #[.string (⟨#[]⟩ : ByteArray), .string (⟨#[]⟩ : ByteArray), .string (⟨#[]⟩ : ByteArray), .string (⟨#[]⟩ : ByteArray), .string (⟨#[]⟩ : ByteArray)]) (t := 23) ?hr ?_; (case hd => rfl); (case hg => rfl); (case hr => first | (go_simp; done) | (go_simp; rfl)); intro gbq hg wq hbox hb; have GEq := Aside0.mk ((by rw [hg]; exact (below_size (by repeat (first | (with_reducible first | exact HB.out | apply below_alloc | apply pw_below_drewN | apply below_drew1) | exact HB.out))) : w.heap.size ≤ gbq)); have GJq := Aside0.mk ((by rw [hg]; exact JS.size0 (base := base) (ok := ok) (w0 := w0) (g := g) (cur := cur) (by first | exact HJ.out | ((with_reducible repeat (first | apply JS.drewN | apply JS.drew | apply JS.alloc)); exact HJ.out)) : w0.heap.size ≤ gbq)); have n_HB := Aside0.mk (below_step (by repeat (first | (with_reducible first | exact HB.out | apply below_alloc | apply pw_below_drewN | apply below_drew1) | exact HB.out)) hb); have n_HJ := Aside0.mk (JS.below (base := base) (ok := ok) (w0 := w0) (g := g) (cur := cur) (by first | exact HJ.out | ((with_reducible repeat (first | apply JS.drewN | apply JS.drew | apply JS.alloc)); exact HJ.out)) hb); clear HB HJ; have HB := n_HB; have HJ := n_HJ; clear n_HB n_HJ; have BKq := Aside0.mk hbox; clear hb hbox hg; have zq_0 : World.cell? _ ⟨gbq, 0, none⟩ = some (.string (⟨#[]⟩ : ByteArray)) := (blk_cell BKq.out 0).trans rfl; have fq_0 := blk_frozen BKq.out 0; have zq_1 : World.cell? _ ⟨gbq, 1, none⟩ = some (.string (⟨#[]⟩ : ByteArray)) := (blk_cell BKq.out 1).trans rfl; have fq_1 := blk_frozen BKq.out 1; have zq_2 : World.cell? _ ⟨gbq, 2, none⟩ = some (.string (⟨#[]⟩ : ByteArray)) := (blk_cell BKq.out 2).trans rfl; have fq_2 := blk_frozen BKq.out 2; have zq_3 : World.cell? _ ⟨gbq, 3, none⟩ = some (.string (⟨#[]⟩ : ByteArray)) := (blk_cell BKq.out 3).trans rfl; have fq_3 := blk_frozen BKq.out 3; have zq_4 : World.cell? _ ⟨gbq, 4, none⟩ = some (.string (⟨#[]⟩ : ByteArray)) := (blk_cell BKq.out 4).trans rfl; have fq_4 := blk_frozen BKq.out 4))
  refine (token_key.calls k1 c i key _ key1).mono ?_
  rintro e w1 ⟨rfl, hb⟩
  have n_HB := Aside0.mk (below_step (by repeat (first | (with_reducible first | exact HB.out | apply below_alloc | apply pw_below_drewN | apply below_drew1 | refine below_set ?_ GEq.out) | exact HB.out)) hb)
  have n_HJ := Aside0.mk (JS.below (base := base) (ok := ok) (w0 := w0) (g := g) (cur := cur) (by first | exact HJ.out | ((with_reducible repeat (first | apply JS.drewN | apply JS.drew | apply JS.alloc)); exact HJ.out)) hb)
  have n_BKq := Aside0.mk (blk_below (g := gbq) (o := .cells #[.string (⟨#[]⟩ : ByteArray), .string (⟨#[]⟩ : ByteArray), .string (⟨#[]⟩ : ByteArray), .string (⟨#[]⟩ : ByteArray), .string (⟨#[]⟩ : ByteArray)] 23 (0, 0)) (by first | exact BKq.out | ((with_reducible repeat (first | refine blk_drewN ?_ _ | refine blk_drew ?_ | refine blk_alloc ?_ _)); exact BKq.out)) hb)
  clear HB HJ BKq
  have HB := n_HB
  have HJ := n_HJ
  have BKq := n_BKq
  clear n_HB n_HJ n_BKq
  clear hb
  go_wp2_with fail
  refine (js_get key v b HJ.out hk hv hb0).mono ?_
  rintro e w2 ⟨rfl, hb⟩
  have n_HB := Aside0.mk (below_step (by repeat (first | (with_reducible first | exact HB.out | apply below_alloc | apply pw_below_drewN | apply below_drew1 | refine below_set ?_ GEq.out) | exact HB.out)) hb)
  have n_HJ := Aside0.mk (JS.below (base := base) (ok := ok) (w0 := w0) (g := g) (cur := cur) (by first | exact HJ.out | ((with_reducible repeat (first | apply JS.drewN | apply JS.drew | apply JS.alloc)); exact HJ.out)) hb)
  have n_BKq := Aside0.mk (blk_below (g := gbq) (o := .cells #[.string (⟨#[]⟩ : ByteArray), .string (⟨#[]⟩ : ByteArray), .string (⟨#[]⟩ : ByteArray), .string (⟨#[]⟩ : ByteArray), .string (⟨#[]⟩ : ByteArray)] 23 (0, 0)) (by first | exact BKq.out | ((with_reducible repeat (first | refine blk_drewN ?_ _ | refine blk_drew ?_ | refine blk_alloc ?_ _)); exact BKq.out)) hb)
  clear HB HJ BKq
  have HB := n_HB
  have HJ := n_HJ
  have BKq := n_BKq
  clear n_HB n_HJ n_BKq
  clear hb
  go_wp2_with fail
  refine (wire_New.calls v v 0 w _ (by repeat (first | (with_reducible first | exact HB.out | apply below_alloc | apply pw_below_drewN | apply below_drew1 | refine below_set ?_ GEq.out) | exact HB.out)) rfl).mono ?_
  rintro e w_1 ⟨grr, rfl, hI, _, hb⟩
  have n_HB := Aside0.mk (below_step (by repeat (first | (with_reducible first | exact HB.out | apply below_alloc | apply pw_below_drewN | apply below_drew1 | refine below_set ?_ GEq.out) | exact HB.out)) hb)
  have n_BKq := Aside0.mk (blk_below (g := gbq) (o := .cells #[.string (⟨#[]⟩ : ByteArray), .string (⟨#[]⟩ : ByteArray), .string (⟨#[]⟩ : ByteArray), .string (⟨#[]⟩ : ByteArray), .string (⟨#[]⟩ : ByteArray)] 23 (0, 0)) (by first | exact BKq.out | ((with_reducible repeat (first | refine blk_drewN ?_ _ | refine blk_drew ?_ | refine blk_alloc ?_ _)); exact BKq.out)) hb)
  clear HB BKq
  have HB := n_HB
  have BKq := n_BKq
  clear n_HB n_BKq
  clear hb
  have HIr := Aside0.mk hI
  clear hI
  have NRr_q := Aside0.mk (IsS88.ne_blk HIr.out BKq.out (by decide) : grr ≠ gbq)
  go_wp2_with fail
  refine (wire_Reader_Text.calls grr v 0 _ _ _ w _ (by (with_reducible repeat (first | apply IsS88.drewN | apply IsS88.drew | apply IsS88.alloc)); exact HIr.out) (by repeat (first | (with_reducible first | exact HB.out | apply below_alloc | apply pw_below_drewN | apply below_drew1 | refine below_set ?_ GEq.out) | exact HB.out)) hT1).mono ?_
  rintro e w_2 ⟨rfl, hI, hB, hK⟩
  have n_HB := Aside0.mk (hB)
  have n_HIr := Aside0.mk (hI)
  have n_BKq := Aside0.mk (KeepBut.blk (g' := gbq) hK (o := .cells #[.string (⟨#[]⟩ : ByteArray), .string (⟨#[]⟩ : ByteArray), .string (⟨#[]⟩ : ByteArray), .string (⟨#[]⟩ : ByteArray), .string (⟨#[]⟩ : ByteArray)] 23 (0, 0)) (by first | exact BKq.out | ((with_reducible repeat (first | refine blk_drewN ?_ _ | refine blk_drew ?_ | refine blk_alloc ?_ _)); exact BKq.out)) NRr_q.out.symm (by simp))
  clear HB HIr BKq
  have HB := n_HB
  have HIr := n_HIr
  have BKq := n_BKq
  clear n_HB n_HIr n_BKq
  clear hI hB hK
  go_wp2_with fail
  refine (wire_Reader_Text.calls grr s1 e1 _ _ _ w _ (by (with_reducible repeat (first | apply IsS88.drewN | apply IsS88.drew | apply IsS88.alloc)); exact HIr.out) (by repeat (first | (with_reducible first | exact HB.out | apply below_alloc | apply pw_below_drewN | apply below_drew1 | refine below_set ?_ GEq.out) | exact HB.out)) hT2).mono ?_
  rintro e w_3 ⟨rfl, hI, hB, hK⟩
  have n_HB := Aside0.mk (hB)
  have n_HIr := Aside0.mk (hI)
  have n_BKq := Aside0.mk (KeepBut.blk (g' := gbq) hK (o := .cells #[.string (⟨#[]⟩ : ByteArray), .string (⟨#[]⟩ : ByteArray), .string (⟨#[]⟩ : ByteArray), .string (⟨#[]⟩ : ByteArray), .string (⟨#[]⟩ : ByteArray)] 23 (0, 0)) (by first | exact BKq.out | ((with_reducible repeat (first | refine blk_drewN ?_ _ | refine blk_drew ?_ | refine blk_alloc ?_ _)); exact BKq.out)) NRr_q.out.symm (by simp))
  clear HB HIr BKq
  have HB := n_HB
  have HIr := n_HIr
  have BKq := n_BKq
  clear n_HB n_HIr n_BKq
  clear hI hB hK
  go_wp2_with fail
  refine (wire_Reader_Text.calls grr s2 e2 _ _ _ w _ (by (with_reducible repeat (first | apply IsS88.drewN | apply IsS88.drew | apply IsS88.alloc)); exact HIr.out) (by repeat (first | (with_reducible first | exact HB.out | apply below_alloc | apply pw_below_drewN | apply below_drew1 | refine below_set ?_ GEq.out) | exact HB.out)) hT3).mono ?_
  rintro e w_4 ⟨rfl, hI, hB, hK⟩
  have n_HB := Aside0.mk (hB)
  have n_HIr := Aside0.mk (hI)
  have n_BKq := Aside0.mk (KeepBut.blk (g' := gbq) hK (o := .cells #[.string (⟨#[]⟩ : ByteArray), .string (⟨#[]⟩ : ByteArray), .string (⟨#[]⟩ : ByteArray), .string (⟨#[]⟩ : ByteArray), .string (⟨#[]⟩ : ByteArray)] 23 (0, 0)) (by first | exact BKq.out | ((with_reducible repeat (first | refine blk_drewN ?_ _ | refine blk_drew ?_ | refine blk_alloc ?_ _)); exact BKq.out)) NRr_q.out.symm (by simp))
  clear HB HIr BKq
  have HB := n_HB
  have HIr := n_HIr
  have BKq := n_BKq
  clear n_HB n_HIr n_BKq
  clear hI hB hK
  cases b with
  | false =>
    rw [if_neg (by simp)] at hres
    simp only [Prod.mk.injEq] at hres
    obtain ⟨rfl, rfl, rfl, rfl, rfl, rfl⟩ := hres
    go_wp2_with (first | ((with_reducible refine gate_dst (N := 11) rfl ?_); refine box_event ?hg (N := 11) ?hd (cs := #[.string (⟨#[]⟩ : ByteArray), .string (⟨#[]⟩ : ByteArray), .string (⟨#[]⟩ : ByteArray), .string (⟨#[]⟩ : ByteArray), .string (⟨#[]⟩ : ByteArray)]) (t := 23) ?hr ?_; (case hd => rfl); (case hg => rfl); (case hr => first | (go_simp; done) | (go_simp; rfl)); intro gbc hg wc hbox hb; have GEc := Aside0.mk ((by rw [hg]; exact (below_size (by repeat (first | (with_reducible first | exact HB.out | apply below_alloc | apply pw_below_drewN | apply below_drew1 | refine below_set ?_ GEq.out) | exact HB.out))) : w.heap.size ≤ gbc)); have NBq_c := Aside0.mk ((by rw [hg]; exact Nat.ne_of_lt (blk_lt (g := gbq) (o := .cells #[.string (⟨#[]⟩ : ByteArray), .string (⟨#[]⟩ : ByteArray), .string (⟨#[]⟩ : ByteArray), .string (⟨#[]⟩ : ByteArray), .string (⟨#[]⟩ : ByteArray)] 23 (0, 0)) (by first | exact BKq.out | ((with_reducible repeat (first | refine blk_drewN ?_ _ | refine blk_drew ?_ | refine blk_alloc ?_ _)); exact BKq.out))) : gbq ≠ gbc)); have NBc_q := Aside0.mk ((by rw [hg]; exact Nat.ne_of_gt (blk_lt (g := gbq) (o := .cells #[.string (⟨#[]⟩ : ByteArray), .string (⟨#[]⟩ : ByteArray), .string (⟨#[]⟩ : ByteArray), .string (⟨#[]⟩ : ByteArray), .string (⟨#[]⟩ : ByteArray)] 23 (0, 0)) (by first | exact BKq.out | ((with_reducible repeat (first | refine blk_drewN ?_ _ | refine blk_drew ?_ | refine blk_alloc ?_ _)); exact BKq.out))) : gbc ≠ gbq)); have n_HB := Aside0.mk (below_step (by repeat (first | (with_reducible first | exact HB.out | apply below_alloc | apply pw_below_drewN | apply below_drew1 | refine below_set ?_ GEq.out) | exact HB.out)) hb); have n_BKq := Aside0.mk (blk_below (g := gbq) (o := .cells #[.string (⟨#[]⟩ : ByteArray), .string (⟨#[]⟩ : ByteArray), .string (⟨#[]⟩ : ByteArray), .string (⟨#[]⟩ : ByteArray), .string (⟨#[]⟩ : ByteArray)] 23 (0, 0)) (by first | exact BKq.out | ((with_reducible repeat (first | refine blk_drewN ?_ _ | refine blk_drew ?_ | refine blk_alloc ?_ _)); exact BKq.out)) hb); have n_HIr := Aside0.mk (IsS88.below (by (with_reducible repeat (first | apply IsS88.drewN | apply IsS88.drew | apply IsS88.alloc)); exact HIr.out) hb); clear HB BKq HIr; have HB := n_HB; have BKq := n_BKq; have HIr := n_HIr; clear n_HB n_BKq n_HIr; have BKc := Aside0.mk hbox; have NRr_c := Aside0.mk (IsS88.ne_blk HIr.out hbox (by decide) : grr ≠ gbc); clear hb hbox hg; have zc_0 : World.cell? _ ⟨gbc, 0, none⟩ = some (.string (⟨#[]⟩ : ByteArray)) := (blk_cell BKc.out 0).trans rfl; have fc_0 := blk_frozen BKc.out 0; have zc_1 : World.cell? _ ⟨gbc, 1, none⟩ = some (.string (⟨#[]⟩ : ByteArray)) := (blk_cell BKc.out 1).trans rfl; have fc_1 := blk_frozen BKc.out 1; have zc_2 : World.cell? _ ⟨gbc, 2, none⟩ = some (.string (⟨#[]⟩ : ByteArray)) := (blk_cell BKc.out 2).trans rfl; have fc_2 := blk_frozen BKc.out 2; have zc_3 : World.cell? _ ⟨gbc, 3, none⟩ = some (.string (⟨#[]⟩ : ByteArray)) := (blk_cell BKc.out 3).trans rfl; have fc_3 := blk_frozen BKc.out 3; have zc_4 : World.cell? _ ⟨gbc, 4, none⟩ = some (.string (⟨#[]⟩ : ByteArray)) := (blk_cell BKc.out 4).trans rfl; have fc_4 := blk_frozen BKc.out 4; have hncq := NBc_q.out; have hmcq := NBq_c.out; have zq_0 : World.cell? _ ⟨gbq, 0, none⟩ = some (.string (⟨#[]⟩ : ByteArray)) := (blk_cell BKq.out 0).trans rfl; have fq_0 := blk_frozen BKq.out 0; have zq_1 : World.cell? _ ⟨gbq, 1, none⟩ = some (.string (⟨#[]⟩ : ByteArray)) := (blk_cell BKq.out 1).trans rfl; have fq_1 := blk_frozen BKq.out 1; have zq_2 : World.cell? _ ⟨gbq, 2, none⟩ = some (.string (⟨#[]⟩ : ByteArray)) := (blk_cell BKq.out 2).trans rfl; have fq_2 := blk_frozen BKq.out 2; have zq_3 : World.cell? _ ⟨gbq, 3, none⟩ = some (.string (⟨#[]⟩ : ByteArray)) := (blk_cell BKq.out 3).trans rfl; have fq_3 := blk_frozen BKq.out 3; have zq_4 : World.cell? _ ⟨gbq, 4, none⟩ = some (.string (⟨#[]⟩ : ByteArray)) := (blk_cell BKq.out 4).trans rfl; have fq_4 := blk_frozen BKq.out 4; have hnqc := NBq_c.out; have hmqc := NBc_q.out))
    refine bodyPost_ret (results_ct rfl _ _ gbq 23 #[.string (⟨#[]⟩ : ByteArray), .string (⟨#[]⟩ : ByteArray), .string (⟨#[]⟩ : ByteArray), .string (⟨#[]⟩ : ByteArray), .string (⟨#[]⟩ : ByteArray)] (0, 0) _ rfl (by (with_reducible repeat (first | refine blk_drewN ?_ _ | refine blk_drew ?_ | refine blk_alloc ?_ _)); refine blk_put (cs := #[.string (⟨#[]⟩ : ByteArray), .string (⟨#[]⟩ : ByteArray), .string (⟨#[]⟩ : ByteArray), .string (⟨#[]⟩ : ByteArray), .string (⟨#[]⟩ : ByteArray)]) ?_ 4 _ rfl; (with_reducible repeat (first | refine blk_drewN ?_ _ | refine blk_drew ?_ | refine blk_alloc ?_ _)); refine blk_put (cs := #[.string (⟨#[]⟩ : ByteArray), .string (⟨#[]⟩ : ByteArray), .string (⟨#[]⟩ : ByteArray), .string (⟨#[]⟩ : ByteArray), .string (⟨#[]⟩ : ByteArray)]) ?_ 3 _ rfl; (with_reducible repeat (first | refine blk_drewN ?_ _ | refine blk_drew ?_ | refine blk_alloc ?_ _)); refine blk_put (cs := #[.string (⟨#[]⟩ : ByteArray), .string (⟨#[]⟩ : ByteArray), .string (⟨#[]⟩ : ByteArray), .string (⟨#[]⟩ : ByteArray), .string (⟨#[]⟩ : ByteArray)]) ?_ 2 _ rfl; (with_reducible repeat (first | refine blk_drewN ?_ _ | refine blk_drew ?_ | refine blk_alloc ?_ _)); refine blk_put (cs := #[.string (⟨#[]⟩ : ByteArray), .string (⟨#[]⟩ : ByteArray), .string (⟨#[]⟩ : ByteArray), .string (⟨#[]⟩ : ByteArray), .string (⟨#[]⟩ : ByteArray)]) ?_ 1 _ rfl; (with_reducible repeat (first | refine blk_drewN ?_ _ | refine blk_drew ?_ | refine blk_alloc ?_ _)); refine blk_put (cs := #[.string (⟨#[]⟩ : ByteArray), .string (⟨#[]⟩ : ByteArray), .string (⟨#[]⟩ : ByteArray), .string (⟨#[]⟩ : ByteArray), .string (⟨#[]⟩ : ByteArray)]) ?_ 0 _ rfl; (with_reducible repeat (first | refine blk_drewN ?_ _ | refine blk_drew ?_ | refine blk_alloc ?_ _)); refine blk_far ?_ NBq_c.out _; (with_reducible repeat (first | refine blk_drewN ?_ _ | refine blk_drew ?_ | refine blk_alloc ?_ _)); refine blk_far ?_ NBq_c.out _; (with_reducible repeat (first | refine blk_drewN ?_ _ | refine blk_drew ?_ | refine blk_alloc ?_ _)); refine blk_far ?_ NBq_c.out _; (with_reducible repeat (first | refine blk_drewN ?_ _ | refine blk_drew ?_ | refine blk_alloc ?_ _)); refine blk_far ?_ NBq_c.out _; (with_reducible repeat (first | refine blk_drewN ?_ _ | refine blk_drew ?_ | refine blk_alloc ?_ _)); refine blk_far ?_ NBq_c.out _; (with_reducible repeat (first | refine blk_drewN ?_ _ | refine blk_drew ?_ | refine blk_alloc ?_ _)); exact BKq.out) Tryz.underlying23 rfl (by kernel_rfl)) rfl ?_
    exact ⟨by first | rfl | trivial, by repeat (first | (with_reducible first | exact HB.out | apply below_alloc | apply pw_below_drewN | apply below_drew1 | refine below_set ?_ GEq.out | refine below_set ?_ GEc.out) | exact HB.out)⟩
  | true =>
    go_wp2_with (first | ((with_reducible refine gate_dst (N := 11) rfl ?_); refine box_event ?hg (N := 11) ?hd (cs := #[.string (⟨#[]⟩ : ByteArray), .string (⟨#[]⟩ : ByteArray), .string (⟨#[]⟩ : ByteArray), .string (⟨#[]⟩ : ByteArray), .string (⟨#[]⟩ : ByteArray)]) (t := 23) ?hr ?_; (case hd => rfl); (case hg => rfl); (case hr => first | (go_simp; done) | (go_simp; rfl)); intro gbc hg wc hbox hb; have GEc := Aside0.mk ((by rw [hg]; exact (below_size (by repeat (first | (with_reducible first | exact HB.out | apply below_alloc | apply pw_below_drewN | apply below_drew1 | refine below_set ?_ GEq.out) | exact HB.out))) : w.heap.size ≤ gbc)); have NBq_c := Aside0.mk ((by rw [hg]; exact Nat.ne_of_lt (blk_lt (g := gbq) (o := .cells #[.string (⟨#[]⟩ : ByteArray), .string (⟨#[]⟩ : ByteArray), .string (⟨#[]⟩ : ByteArray), .string (⟨#[]⟩ : ByteArray), .string (⟨#[]⟩ : ByteArray)] 23 (0, 0)) (by first | exact BKq.out | ((with_reducible repeat (first | refine blk_drewN ?_ _ | refine blk_drew ?_ | refine blk_alloc ?_ _)); exact BKq.out))) : gbq ≠ gbc)); have NBc_q := Aside0.mk ((by rw [hg]; exact Nat.ne_of_gt (blk_lt (g := gbq) (o := .cells #[.string (⟨#[]⟩ : ByteArray), .string (⟨#[]⟩ : ByteArray), .string (⟨#[]⟩ : ByteArray), .string (⟨#[]⟩ : ByteArray), .string (⟨#[]⟩ : ByteArray)] 23 (0, 0)) (by first | exact BKq.out | ((with_reducible repeat (first | refine blk_drewN ?_ _ | refine blk_drew ?_ | refine blk_alloc ?_ _)); exact BKq.out))) : gbc ≠ gbq)); have n_HB := Aside0.mk (below_step (by repeat (first | (with_reducible first | exact HB.out | apply below_alloc | apply pw_below_drewN | apply below_drew1 | refine below_set ?_ GEq.out) | exact HB.out)) hb); have n_BKq := Aside0.mk (blk_below (g := gbq) (o := .cells #[.string (⟨#[]⟩ : ByteArray), .string (⟨#[]⟩ : ByteArray), .string (⟨#[]⟩ : ByteArray), .string (⟨#[]⟩ : ByteArray), .string (⟨#[]⟩ : ByteArray)] 23 (0, 0)) (by first | exact BKq.out | ((with_reducible repeat (first | refine blk_drewN ?_ _ | refine blk_drew ?_ | refine blk_alloc ?_ _)); exact BKq.out)) hb); have n_HIr := Aside0.mk (IsS88.below (by (with_reducible repeat (first | apply IsS88.drewN | apply IsS88.drew | apply IsS88.alloc)); exact HIr.out) hb); clear HB BKq HIr; have HB := n_HB; have BKq := n_BKq; have HIr := n_HIr; clear n_HB n_BKq n_HIr; have BKc := Aside0.mk hbox; have NRr_c := Aside0.mk (IsS88.ne_blk HIr.out hbox (by decide) : grr ≠ gbc); clear hb hbox hg; have zc_0 : World.cell? _ ⟨gbc, 0, none⟩ = some (.string (⟨#[]⟩ : ByteArray)) := (blk_cell BKc.out 0).trans rfl; have fc_0 := blk_frozen BKc.out 0; have zc_1 : World.cell? _ ⟨gbc, 1, none⟩ = some (.string (⟨#[]⟩ : ByteArray)) := (blk_cell BKc.out 1).trans rfl; have fc_1 := blk_frozen BKc.out 1; have zc_2 : World.cell? _ ⟨gbc, 2, none⟩ = some (.string (⟨#[]⟩ : ByteArray)) := (blk_cell BKc.out 2).trans rfl; have fc_2 := blk_frozen BKc.out 2; have zc_3 : World.cell? _ ⟨gbc, 3, none⟩ = some (.string (⟨#[]⟩ : ByteArray)) := (blk_cell BKc.out 3).trans rfl; have fc_3 := blk_frozen BKc.out 3; have zc_4 : World.cell? _ ⟨gbc, 4, none⟩ = some (.string (⟨#[]⟩ : ByteArray)) := (blk_cell BKc.out 4).trans rfl; have fc_4 := blk_frozen BKc.out 4; have hncq := NBc_q.out; have hmcq := NBq_c.out; have zq_0 : World.cell? _ ⟨gbq, 0, none⟩ = some (.string (⟨#[]⟩ : ByteArray)) := (blk_cell BKq.out 0).trans rfl; have fq_0 := blk_frozen BKq.out 0; have zq_1 : World.cell? _ ⟨gbq, 1, none⟩ = some (.string (⟨#[]⟩ : ByteArray)) := (blk_cell BKq.out 1).trans rfl; have fq_1 := blk_frozen BKq.out 1; have zq_2 : World.cell? _ ⟨gbq, 2, none⟩ = some (.string (⟨#[]⟩ : ByteArray)) := (blk_cell BKq.out 2).trans rfl; have fq_2 := blk_frozen BKq.out 2; have zq_3 : World.cell? _ ⟨gbq, 3, none⟩ = some (.string (⟨#[]⟩ : ByteArray)) := (blk_cell BKq.out 3).trans rfl; have fq_3 := blk_frozen BKq.out 3; have zq_4 : World.cell? _ ⟨gbq, 4, none⟩ = some (.string (⟨#[]⟩ : ByteArray)) := (blk_cell BKq.out 4).trans rfl; have fq_4 := blk_frozen BKq.out 4; have hnqc := NBq_c.out; have hmqc := NBc_q.out))
    refine (wire_Reader_Done.calls grr s3 e3 _ _ _ w _ (by (with_reducible repeat (first | apply IsS88.drewN | apply IsS88.drew | apply IsS88.alloc)); refine IsS88.far ?_ NRr_c.out _; (with_reducible repeat (first | apply IsS88.drewN | apply IsS88.drew | apply IsS88.alloc)); refine IsS88.far ?_ NRr_c.out _; (with_reducible repeat (first | apply IsS88.drewN | apply IsS88.drew | apply IsS88.alloc)); refine IsS88.far ?_ NRr_c.out _; (with_reducible repeat (first | apply IsS88.drewN | apply IsS88.drew | apply IsS88.alloc)); refine IsS88.far ?_ NRr_c.out _; (with_reducible repeat (first | apply IsS88.drewN | apply IsS88.drew | apply IsS88.alloc)); refine IsS88.far ?_ NRr_c.out _; (with_reducible repeat (first | apply IsS88.drewN | apply IsS88.drew | apply IsS88.alloc)); exact HIr.out) (by repeat (first | (with_reducible first | exact HB.out | apply below_alloc | apply pw_below_drewN | apply below_drew1 | refine below_set ?_ GEq.out | refine below_set ?_ GEc.out) | exact HB.out)) (rDone_is s3 e3)).mono ?_
    rintro e w_5 ⟨rfl, hI, hB, hK⟩
    have n_HB := Aside0.mk (hB)
    have n_HIr := Aside0.mk (hI)
    have n_BKq := Aside0.mk (KeepBut.blk (g' := gbq) hK (o := .cells #[.string (⟨#[]⟩ : ByteArray), .string (⟨#[]⟩ : ByteArray), .string (⟨#[]⟩ : ByteArray), .string (⟨#[]⟩ : ByteArray), .string (⟨#[]⟩ : ByteArray)] 23 (0, 0)) (by (with_reducible repeat (first | refine blk_drewN ?_ _ | refine blk_drew ?_ | refine blk_alloc ?_ _)); refine blk_far ?_ NBq_c.out _; (with_reducible repeat (first | refine blk_drewN ?_ _ | refine blk_drew ?_ | refine blk_alloc ?_ _)); refine blk_far ?_ NBq_c.out _; (with_reducible repeat (first | refine blk_drewN ?_ _ | refine blk_drew ?_ | refine blk_alloc ?_ _)); refine blk_far ?_ NBq_c.out _; (with_reducible repeat (first | refine blk_drewN ?_ _ | refine blk_drew ?_ | refine blk_alloc ?_ _)); refine blk_far ?_ NBq_c.out _; (with_reducible repeat (first | refine blk_drewN ?_ _ | refine blk_drew ?_ | refine blk_alloc ?_ _)); refine blk_far ?_ NBq_c.out _; (with_reducible repeat (first | refine blk_drewN ?_ _ | refine blk_drew ?_ | refine blk_alloc ?_ _)); exact BKq.out) NRr_q.out.symm (by simp))
    have n_BKc := Aside0.mk (KeepBut.blk (g' := gbc) hK (o := .cells #[.string c, .string i, .string t1, .string t2, .string t3] 23 (0, 0)) (by (with_reducible repeat (first | refine blk_drewN ?_ _ | refine blk_drew ?_ | refine blk_alloc ?_ _)); refine blk_put (cs := #[.string c, .string i, .string t1, .string t2, .string (⟨#[]⟩ : ByteArray)]) ?_ 4 _ rfl; (with_reducible repeat (first | refine blk_drewN ?_ _ | refine blk_drew ?_ | refine blk_alloc ?_ _)); refine blk_put (cs := #[.string c, .string i, .string t1, .string (⟨#[]⟩ : ByteArray), .string (⟨#[]⟩ : ByteArray)]) ?_ 3 _ rfl; (with_reducible repeat (first | refine blk_drewN ?_ _ | refine blk_drew ?_ | refine blk_alloc ?_ _)); refine blk_put (cs := #[.string c, .string i, .string (⟨#[]⟩ : ByteArray), .string (⟨#[]⟩ : ByteArray), .string (⟨#[]⟩ : ByteArray)]) ?_ 2 _ rfl; (with_reducible repeat (first | refine blk_drewN ?_ _ | refine blk_drew ?_ | refine blk_alloc ?_ _)); refine blk_put (cs := #[.string c, .string (⟨#[]⟩ : ByteArray), .string (⟨#[]⟩ : ByteArray), .string (⟨#[]⟩ : ByteArray), .string (⟨#[]⟩ : ByteArray)]) ?_ 1 _ rfl; (with_reducible repeat (first | refine blk_drewN ?_ _ | refine blk_drew ?_ | refine blk_alloc ?_ _)); refine blk_put (cs := #[.string (⟨#[]⟩ : ByteArray), .string (⟨#[]⟩ : ByteArray), .string (⟨#[]⟩ : ByteArray), .string (⟨#[]⟩ : ByteArray), .string (⟨#[]⟩ : ByteArray)]) ?_ 0 _ rfl; (with_reducible repeat (first | refine blk_drewN ?_ _ | refine blk_drew ?_ | refine blk_alloc ?_ _)); exact BKc.out) NRr_c.out.symm (by simp))
    clear HB HIr BKq BKc
    have HB := n_HB
    have HIr := n_HIr
    have BKq := n_BKq
    have BKc := n_BKc
    clear n_HB n_HIr n_BKq n_BKc
    clear hI hB hK
    by_cases hd : rDone s3 e3 = 0
    · replace hres : (c, i, t1, t2, t3, (0 : Int)) = (x0, x1, x2, x3, x4, x5) := by simpa [hd] using hres
      simp only [Prod.mk.injEq] at hres
      obtain ⟨rfl, rfl, rfl, rfl, rfl, rfl⟩ := hres
      have zq_0 : World.cell? _ ⟨gbq, 0, none⟩ = some (.string (⟨#[]⟩ : ByteArray)) := (blk_cell BKq.out 0).trans rfl
      have fq_0 := blk_frozen BKq.out 0
      have zq_1 : World.cell? _ ⟨gbq, 1, none⟩ = some (.string (⟨#[]⟩ : ByteArray)) := (blk_cell BKq.out 1).trans rfl
      have fq_1 := blk_frozen BKq.out 1
      have zq_2 : World.cell? _ ⟨gbq, 2, none⟩ = some (.string (⟨#[]⟩ : ByteArray)) := (blk_cell BKq.out 2).trans rfl
      have fq_2 := blk_frozen BKq.out 2
      have zq_3 : World.cell? _ ⟨gbq, 3, none⟩ = some (.string (⟨#[]⟩ : ByteArray)) := (blk_cell BKq.out 3).trans rfl
      have fq_3 := blk_frozen BKq.out 3
      have zq_4 : World.cell? _ ⟨gbq, 4, none⟩ = some (.string (⟨#[]⟩ : ByteArray)) := (blk_cell BKq.out 4).trans rfl
      have fq_4 := blk_frozen BKq.out 4
      have hnqc := NBq_c.out
      have hmqc := NBc_q.out
      have zc_0 : World.cell? _ ⟨gbc, 0, none⟩ = some (.string c) := (blk_cell BKc.out 0).trans rfl
      have fc_0 := blk_frozen BKc.out 0
      have zc_1 : World.cell? _ ⟨gbc, 1, none⟩ = some (.string i) := (blk_cell BKc.out 1).trans rfl
      have fc_1 := blk_frozen BKc.out 1
      have zc_2 : World.cell? _ ⟨gbc, 2, none⟩ = some (.string t1) := (blk_cell BKc.out 2).trans rfl
      have fc_2 := blk_frozen BKc.out 2
      have zc_3 : World.cell? _ ⟨gbc, 3, none⟩ = some (.string t2) := (blk_cell BKc.out 3).trans rfl
      have fc_3 := blk_frozen BKc.out 3
      have zc_4 : World.cell? _ ⟨gbc, 4, none⟩ = some (.string t3) := (blk_cell BKc.out 4).trans rfl
      have fc_4 := blk_frozen BKc.out 4
      have hncq := NBc_q.out
      have hmcq := NBq_c.out
      go_wp2
      refine bodyPost_ret (results_ct rfl _ _ gbq 23 #[.string c, .string i, .string t1, .string t2, .string t3] (0, 0) _ rfl (by (with_reducible repeat (first | refine blk_drewN ?_ _ | refine blk_drew ?_ | refine blk_alloc ?_ _)); refine blk_put (cs := #[.string c, .string i, .string t1, .string t2, .string (⟨#[]⟩ : ByteArray)]) ?_ 4 _ rfl; (with_reducible repeat (first | refine blk_drewN ?_ _ | refine blk_drew ?_ | refine blk_alloc ?_ _)); refine blk_put (cs := #[.string c, .string i, .string t1, .string (⟨#[]⟩ : ByteArray), .string (⟨#[]⟩ : ByteArray)]) ?_ 3 _ rfl; (with_reducible repeat (first | refine blk_drewN ?_ _ | refine blk_drew ?_ | refine blk_alloc ?_ _)); refine blk_put (cs := #[.string c, .string i, .string (⟨#[]⟩ : ByteArray), .string (⟨#[]⟩ : ByteArray), .string (⟨#[]⟩ : ByteArray)]) ?_ 2 _ rfl; (with_reducible repeat (first | refine blk_drewN ?_ _ | refine blk_drew ?_ | refine blk_alloc ?_ _)); refine blk_put (cs := #[.string c, .string (⟨#[]⟩ : ByteArray), .string (⟨#[]⟩ : ByteArray), .string (⟨#[]⟩ : ByteArray), .string (⟨#[]⟩ : ByteArray)]) ?_ 1 _ rfl; (with_reducible repeat (first | refine blk_drewN ?_ _ | refine blk_drew ?_ | refine blk_alloc ?_ _)); refine blk_put (cs := #[.string (⟨#[]⟩ : ByteArray), .string (⟨#[]⟩ : ByteArray), .string (⟨#[]⟩ : ByteArray), .string (⟨#[]⟩ : ByteArray), .string (⟨#[]⟩ : ByteArray)]) ?_ 0 _ rfl; (with_reducible repeat (first | refine blk_drewN ?_ _ | refine blk_drew ?_ | refine blk_alloc ?_ _)); exact BKq.out) Tryz.underlying23 rfl (by kernel_rfl)) rfl ?_
      exact ⟨by first | rfl | trivial, by repeat (first | (with_reducible first | exact HB.out | apply below_alloc | apply pw_below_drewN | apply below_drew1 | refine below_set ?_ GEq.out | refine below_set ?_ GEc.out) | exact HB.out)⟩
    · replace hres : ((⟨#[]⟩ : ByteArray), (⟨#[]⟩ : ByteArray), (⟨#[]⟩ : ByteArray), (⟨#[]⟩ : ByteArray), (⟨#[]⟩ : ByteArray), (8 : Int)) = (x0, x1, x2, x3, x4, x5) := by simpa [hd] using hres
      simp only [Prod.mk.injEq] at hres
      obtain ⟨rfl, rfl, rfl, rfl, rfl, rfl⟩ := hres
      have zq_0 : World.cell? _ ⟨gbq, 0, none⟩ = some (.string (⟨#[]⟩ : ByteArray)) := (blk_cell BKq.out 0).trans rfl
      have fq_0 := blk_frozen BKq.out 0
      have zq_1 : World.cell? _ ⟨gbq, 1, none⟩ = some (.string (⟨#[]⟩ : ByteArray)) := (blk_cell BKq.out 1).trans rfl
      have fq_1 := blk_frozen BKq.out 1
      have zq_2 : World.cell? _ ⟨gbq, 2, none⟩ = some (.string (⟨#[]⟩ : ByteArray)) := (blk_cell BKq.out 2).trans rfl
      have fq_2 := blk_frozen BKq.out 2
      have zq_3 : World.cell? _ ⟨gbq, 3, none⟩ = some (.string (⟨#[]⟩ : ByteArray)) := (blk_cell BKq.out 3).trans rfl
      have fq_3 := blk_frozen BKq.out 3
      have zq_4 : World.cell? _ ⟨gbq, 4, none⟩ = some (.string (⟨#[]⟩ : ByteArray)) := (blk_cell BKq.out 4).trans rfl
      have fq_4 := blk_frozen BKq.out 4
      have hnqc := NBq_c.out
      have hmqc := NBc_q.out
      have zc_0 : World.cell? _ ⟨gbc, 0, none⟩ = some (.string c) := (blk_cell BKc.out 0).trans rfl
      have fc_0 := blk_frozen BKc.out 0
      have zc_1 : World.cell? _ ⟨gbc, 1, none⟩ = some (.string i) := (blk_cell BKc.out 1).trans rfl
      have fc_1 := blk_frozen BKc.out 1
      have zc_2 : World.cell? _ ⟨gbc, 2, none⟩ = some (.string t1) := (blk_cell BKc.out 2).trans rfl
      have fc_2 := blk_frozen BKc.out 2
      have zc_3 : World.cell? _ ⟨gbc, 3, none⟩ = some (.string t2) := (blk_cell BKc.out 3).trans rfl
      have fc_3 := blk_frozen BKc.out 3
      have zc_4 : World.cell? _ ⟨gbc, 4, none⟩ = some (.string t3) := (blk_cell BKc.out 4).trans rfl
      have fc_4 := blk_frozen BKc.out 4
      have hncq := NBc_q.out
      have hmcq := NBq_c.out
      go_wp2
      refine bodyPost_ret (results_ct rfl _ _ gbq 23 #[.string (⟨#[]⟩ : ByteArray), .string (⟨#[]⟩ : ByteArray), .string (⟨#[]⟩ : ByteArray), .string (⟨#[]⟩ : ByteArray), .string (⟨#[]⟩ : ByteArray)] (0, 0) _ rfl (by (with_reducible repeat (first | refine blk_drewN ?_ _ | refine blk_drew ?_ | refine blk_alloc ?_ _)); refine blk_put (cs := #[.string (⟨#[]⟩ : ByteArray), .string (⟨#[]⟩ : ByteArray), .string (⟨#[]⟩ : ByteArray), .string (⟨#[]⟩ : ByteArray), .string (⟨#[]⟩ : ByteArray)]) ?_ 4 _ rfl; (with_reducible repeat (first | refine blk_drewN ?_ _ | refine blk_drew ?_ | refine blk_alloc ?_ _)); refine blk_put (cs := #[.string (⟨#[]⟩ : ByteArray), .string (⟨#[]⟩ : ByteArray), .string (⟨#[]⟩ : ByteArray), .string (⟨#[]⟩ : ByteArray), .string (⟨#[]⟩ : ByteArray)]) ?_ 3 _ rfl; (with_reducible repeat (first | refine blk_drewN ?_ _ | refine blk_drew ?_ | refine blk_alloc ?_ _)); refine blk_put (cs := #[.string (⟨#[]⟩ : ByteArray), .string (⟨#[]⟩ : ByteArray), .string (⟨#[]⟩ : ByteArray), .string (⟨#[]⟩ : ByteArray), .string (⟨#[]⟩ : ByteArray)]) ?_ 2 _ rfl; (with_reducible repeat (first | refine blk_drewN ?_ _ | refine blk_drew ?_ | refine blk_alloc ?_ _)); refine blk_put (cs := #[.string (⟨#[]⟩ : ByteArray), .string (⟨#[]⟩ : ByteArray), .string (⟨#[]⟩ : ByteArray), .string (⟨#[]⟩ : ByteArray), .string (⟨#[]⟩ : ByteArray)]) ?_ 1 _ rfl; (with_reducible repeat (first | refine blk_drewN ?_ _ | refine blk_drew ?_ | refine blk_alloc ?_ _)); refine blk_put (cs := #[.string (⟨#[]⟩ : ByteArray), .string (⟨#[]⟩ : ByteArray), .string (⟨#[]⟩ : ByteArray), .string (⟨#[]⟩ : ByteArray), .string (⟨#[]⟩ : ByteArray)]) ?_ 0 _ rfl; (with_reducible repeat (first | refine blk_drewN ?_ _ | refine blk_drew ?_ | refine blk_alloc ?_ _)); exact BKq.out) Tryz.underlying23 rfl (by kernel_rfl)) rfl ?_
      exact ⟨by first | rfl | trivial, by repeat (first | (with_reducible first | exact HB.out | apply below_alloc | apply pw_below_drewN | apply below_drew1 | refine below_set ?_ GEq.out | refine below_set ?_ GEc.out) | exact HB.out)⟩
set_option maxHeartbeats 8000000 in
set_option maxRecDepth 100000 in
theorem tkn_get (c i : ByteArray) (w : World) :
    Calls Tryz.prog 6 #[.pointer none, .string c, .string i] w fun e w' => e = .returned (.tuple #[.agg #[.string (⟨#[]⟩ : ByteArray), .string (⟨#[]⟩ : ByteArray), .string (⟨#[]⟩ : ByteArray), .string (⟨#[]⟩ : ByteArray), .string (⟨#[]⟩ : ByteArray)], .int .i64 2]) ∧ Below w.heap.size w w' := by
  have HB := Aside0.mk (Below.refl w.heap.size w)
  go_enter Tryz.func6, Tryz.ntmps6
  go_wp2_with (first | ((with_reducible refine gate_dst (N := 6) rfl ?_); refine box_event ?hg (N := 6) ?hd (cs := #[.string (⟨#[]⟩ : ByteArray), .string (⟨#[]⟩ : ByteArray), .string (⟨#[]⟩ : ByteArray), .string (⟨#[]⟩ : ByteArray), .string (⟨#[]⟩ : ByteArray)]) (t := 23) ?hr ?_; (case hd => rfl); (case hg => rfl); (case hr => first | (go_simp; done) | (go_simp; rfl)); intro gbq hg wq hbox hb; have GEq := Aside0.mk ((by rw [hg]; exact (below_size (by repeat (first | (with_reducible first | exact HB.out | apply below_alloc | apply pw_below_drewN | apply below_drew1) | exact HB.out))) : w.heap.size ≤ gbq)); have n_HB := Aside0.mk (below_step (by repeat (first | (with_reducible first | exact HB.out | apply below_alloc | apply pw_below_drewN | apply below_drew1) | exact HB.out)) hb); clear HB; have HB := n_HB; clear n_HB; have BKq := Aside0.mk hbox; clear hb hbox hg; have zq_0 : World.cell? _ ⟨gbq, 0, none⟩ = some (.string (⟨#[]⟩ : ByteArray)) := (blk_cell BKq.out 0).trans rfl; have fq_0 := blk_frozen BKq.out 0; have zq_1 : World.cell? _ ⟨gbq, 1, none⟩ = some (.string (⟨#[]⟩ : ByteArray)) := (blk_cell BKq.out 1).trans rfl; have fq_1 := blk_frozen BKq.out 1; have zq_2 : World.cell? _ ⟨gbq, 2, none⟩ = some (.string (⟨#[]⟩ : ByteArray)) := (blk_cell BKq.out 2).trans rfl; have fq_2 := blk_frozen BKq.out 2; have zq_3 : World.cell? _ ⟨gbq, 3, none⟩ = some (.string (⟨#[]⟩ : ByteArray)) := (blk_cell BKq.out 3).trans rfl; have fq_3 := blk_frozen BKq.out 3; have zq_4 : World.cell? _ ⟨gbq, 4, none⟩ = some (.string (⟨#[]⟩ : ByteArray)) := (blk_cell BKq.out 4).trans rfl; have fq_4 := blk_frozen BKq.out 4; have zq_0 : World.cell? _ ⟨gbq, 0, none⟩ = some (.string (⟨#[]⟩ : ByteArray)) := (blk_cell BKq.out 0).trans rfl; have fq_0 := blk_frozen BKq.out 0; have zq_1 : World.cell? _ ⟨gbq, 1, none⟩ = some (.string (⟨#[]⟩ : ByteArray)) := (blk_cell BKq.out 1).trans rfl; have fq_1 := blk_frozen BKq.out 1; have zq_2 : World.cell? _ ⟨gbq, 2, none⟩ = some (.string (⟨#[]⟩ : ByteArray)) := (blk_cell BKq.out 2).trans rfl; have fq_2 := blk_frozen BKq.out 2; have zq_3 : World.cell? _ ⟨gbq, 3, none⟩ = some (.string (⟨#[]⟩ : ByteArray)) := (blk_cell BKq.out 3).trans rfl; have fq_3 := blk_frozen BKq.out 3; have zq_4 : World.cell? _ ⟨gbq, 4, none⟩ = some (.string (⟨#[]⟩ : ByteArray)) := (blk_cell BKq.out 4).trans rfl; have fq_4 := blk_frozen BKq.out 4))
  refine bodyPost_ret (results_ct rfl _ _ gbq 23 #[.string (⟨#[]⟩ : ByteArray), .string (⟨#[]⟩ : ByteArray), .string (⟨#[]⟩ : ByteArray), .string (⟨#[]⟩ : ByteArray), .string (⟨#[]⟩ : ByteArray)] (0, 0) _ rfl (by (with_reducible repeat (first | refine blk_drewN ?_ _ | refine blk_drew ?_ | refine blk_alloc ?_ _)); refine blk_put (cs := #[.string (⟨#[]⟩ : ByteArray), .string (⟨#[]⟩ : ByteArray), .string (⟨#[]⟩ : ByteArray), .string (⟨#[]⟩ : ByteArray), .string (⟨#[]⟩ : ByteArray)]) ?_ 4 _ rfl; (with_reducible repeat (first | refine blk_drewN ?_ _ | refine blk_drew ?_ | refine blk_alloc ?_ _)); refine blk_put (cs := #[.string (⟨#[]⟩ : ByteArray), .string (⟨#[]⟩ : ByteArray), .string (⟨#[]⟩ : ByteArray), .string (⟨#[]⟩ : ByteArray), .string (⟨#[]⟩ : ByteArray)]) ?_ 3 _ rfl; (with_reducible repeat (first | refine blk_drewN ?_ _ | refine blk_drew ?_ | refine blk_alloc ?_ _)); refine blk_put (cs := #[.string (⟨#[]⟩ : ByteArray), .string (⟨#[]⟩ : ByteArray), .string (⟨#[]⟩ : ByteArray), .string (⟨#[]⟩ : ByteArray), .string (⟨#[]⟩ : ByteArray)]) ?_ 2 _ rfl; (with_reducible repeat (first | refine blk_drewN ?_ _ | refine blk_drew ?_ | refine blk_alloc ?_ _)); refine blk_put (cs := #[.string (⟨#[]⟩ : ByteArray), .string (⟨#[]⟩ : ByteArray), .string (⟨#[]⟩ : ByteArray), .string (⟨#[]⟩ : ByteArray), .string (⟨#[]⟩ : ByteArray)]) ?_ 1 _ rfl; (with_reducible repeat (first | refine blk_drewN ?_ _ | refine blk_drew ?_ | refine blk_alloc ?_ _)); refine blk_put (cs := #[.string (⟨#[]⟩ : ByteArray), .string (⟨#[]⟩ : ByteArray), .string (⟨#[]⟩ : ByteArray), .string (⟨#[]⟩ : ByteArray), .string (⟨#[]⟩ : ByteArray)]) ?_ 0 _ rfl; (with_reducible repeat (first | refine blk_drewN ?_ _ | refine blk_drew ?_ | refine blk_alloc ?_ _)); exact BKq.out) Tryz.underlying23 rfl (by kernel_rfl)) rfl ?_
  exact ⟨by first | rfl | trivial, by repeat (first | (with_reducible first | exact HB.out | apply below_alloc | apply pw_below_drewN | apply below_drew1 | refine below_set ?_ GEq.out) | exact HB.out)⟩
set_option maxHeartbeats 8000000 in
set_option maxRecDepth 100000 in
theorem tk_keep {base g : Nat} {ok : Nat → Prop} {w0 : World} {cur : List S82} (c i u d o : ByteArray) {w : World} (h : JS base ok w0 g cur w) (hk1 : KV 900000 cur) (hc : c.size ≤ 50000000) (hi : i.size ≤ 50000000) (hu : u.size ≤ 1000000) (hd : d.size ≤ 1000000) (ho : o.size ≤ 1000000) :
    Calls Tryz.prog 28 #[.pointer (some ⟨g, 0, none⟩), .agg #[.string c, .string i, .string u, .string d, .string o]] w fun e w' => e = .returned (.tuple #[]) ∧ JS base ok w0 g (tkKeep cur c i u d o) w' ∧ JK w w' := by
  obtain ⟨k1, key1⟩ := tkKey_ev c i hc hi
  obtain ⟨k2, key2⟩ := tkOwn_ev c i u d o hc hi (Nat.le_trans ho (by decide))
  have key3 := tkValue_is c i u d o hu hd ho
  obtain ⟨cur', hcur⟩ : ∃ z, tkKeep cur c i u d o = z := ⟨_, rfl⟩
  rw [hcur]
  unfold tkKeep at hcur
  generalize tkKey c i = kA at key1 hcur
  generalize tkOwn o c i = kB at key2 hcur
  generalize valB [u, d, o] = V at key3 hcur
  have hk2 := hk1.mono (show 900000 ≤ 1000000 by omega)
  have hkA := (hk1.put kA V).mono (show 900001 ≤ 1000000 by omega)
  have HJ := Aside0.mk h
  have HK := Aside0.mk (JK.of_below (Below.refl w.heap.size w))
  clear h hu hd ho hc hi
  obtain ⟨cA, hcA⟩ : ∃ z, setC cur kA V = z := ⟨_, rfl⟩
  rw [hcA] at hcur hkA
  have HC := Aside0.mk hcA
  clear hcA
  go_enter Tryz.func28, Tryz.ntmps28
  go_upto_region 1 with (first | ((with_reducible refine gate_dst (N := 3) rfl ?_); refine box_event ?hg (N := 3) ?hd (cs := #[.string c, .string i, .string u, .string d, .string o]) (t := 23) ?hr ?_; (case hd => rfl); (case hg => rfl); (case hr => first | (go_simp; done) | (go_simp; rfl)); intro gbt hg wt hbox hb; have GKt := Aside0.mk ((by rw [hg]; exact JK.size (by first | exact HK.out | ((with_reducible repeat (first | apply JK.drewN | apply JK.drew | apply JK.alloc)); exact HK.out)) : w.heap.size ≤ gbt)); have GJt := Aside0.mk ((by rw [hg]; exact JS.size0 (base := base) (ok := ok) (w0 := w0) (g := g) (cur := cur) (by first | exact HJ.out | ((with_reducible repeat (first | apply JS.drewN | apply JS.drew | apply JS.alloc)); exact HJ.out)) : w0.heap.size ≤ gbt)); have n_HK := Aside0.mk (HK.out.trans (JK.of_below hb)); have n_HJ := Aside0.mk (JS.below (base := base) (ok := ok) (w0 := w0) (g := g) (cur := cur) (by first | exact HJ.out | ((with_reducible repeat (first | apply JS.drewN | apply JS.drew | apply JS.alloc)); exact HJ.out)) hb); clear HK HJ; have HK := n_HK; have HJ := n_HJ; clear n_HK n_HJ; have BKt := Aside0.mk hbox; clear hb hbox hg; have zt_0 : World.cell? _ ⟨gbt, 0, none⟩ = some (.string c) := (blk_cell BKt.out 0).trans rfl; have ft_0 := blk_frozen BKt.out 0; have zt_1 : World.cell? _ ⟨gbt, 1, none⟩ = some (.string i) := (blk_cell BKt.out 1).trans rfl; have ft_1 := blk_frozen BKt.out 1; have zt_2 : World.cell? _ ⟨gbt, 2, none⟩ = some (.string u) := (blk_cell BKt.out 2).trans rfl; have ft_2 := blk_frozen BKt.out 2; have zt_3 : World.cell? _ ⟨gbt, 3, none⟩ = some (.string d) := (blk_cell BKt.out 3).trans rfl; have ft_3 := blk_frozen BKt.out 3; have zt_4 : World.cell? _ ⟨gbt, 4, none⟩ = some (.string o) := (blk_cell BKt.out 4).trans rfl; have ft_4 := blk_frozen BKt.out 4))
  refine start_ (n := 9) (S := fun w' => HeldC gbt #[.string c, .string i, .string u, .string d, .string o] 23 w') (ds := []) #[false, false, false, false, false, false, false, false, false] (by kernel_rfl) rfl rfl (HeldC.of (by first | exact BKt.out | ((with_reducible repeat (first | refine blk_drewN ?_ _ | refine blk_drew ?_ | refine blk_alloc ?_ _)); exact BKt.out))) (fun hHeld => ?_)
  have n_HJ := at_world hHeld (F := fun Y => JS base ok w0 g cur Y) (by first | exact HJ.out | ((with_reducible repeat (first | apply JS.drewN | apply JS.drew | apply JS.alloc)); exact HJ.out))
  have n_HK := at_world hHeld (F := fun Y => JK w Y) (by first | exact HK.out | ((with_reducible repeat (first | apply JK.drewN | apply JK.drew | apply JK.alloc)); exact HK.out))
  have n_BKt := at_world hHeld (F := fun Y => Y.heap[gbt]? = some (.cells #[.string c, .string i, .string u, .string d, .string o] 23 (0, 0))) (by first | exact BKt.out | ((with_reducible repeat (first | refine blk_drewN ?_ _ | refine blk_drew ?_ | refine blk_alloc ?_ _)); exact BKt.out))
  clear HJ HK BKt
  have HJ := n_HJ
  have HK := n_HK
  have BKt := n_BKt
  clear n_HJ n_HK n_BKt
  refine pure_ (i := 0) (N := some 4) (v := ?_) (a' := ?_) #[true, false, false, false, false, false, false, false, false] rfl rfl (by kernel_rfl) (fun _ _ _ h => h) (Or.inl ⟨by rfl, ?_⟩) ?_ ?_
  rotate_left
  · intro w'
    go_simp
    with_reducible rfl
  rotate_left
  · simp only [Act.put, List.setIfInBounds_toArray, List.set_cons_zero, List.set_cons_succ, i64_w, i32_w]
    rfl
  refine pure_ (i := 1) (N := some 5) (v := ?_) (a' := ?_) #[true, true, false, false, false, false, false, false, false] rfl rfl (by kernel_rfl) (fun _ _ _ h => h) (Or.inl ⟨by rfl, ?_⟩) ?_ ?_
  rotate_left
  · intro w'
    go_simp
    with_reducible rfl
  rotate_left
  · simp only [Act.put, List.setIfInBounds_toArray, List.set_cons_zero, List.set_cons_succ, i64_w, i32_w]
    rfl
  refine take_ (i := 2) (N := some 6) (v := ?_) (a' := ?_) #[true, true, true, false, false, false, false, false, false] rfl rfl (by kernel_rfl) (fun _ _ _ h => h) (Or.inl ⟨by rfl, ?_⟩) hHeld ?_ ?_
  rotate_left
  · rintro w' s0
    have t0_0 : w'.cell? ⟨gbt, 0, none⟩ = some (.string c) := (blk_cell (HeldC.blk s0) 0).trans rfl
    have t0_1 : w'.cell? ⟨gbt, 1, none⟩ = some (.string i) := (blk_cell (HeldC.blk s0) 1).trans rfl
    have t0_2 : w'.cell? ⟨gbt, 2, none⟩ = some (.string u) := (blk_cell (HeldC.blk s0) 2).trans rfl
    have t0_3 : w'.cell? ⟨gbt, 3, none⟩ = some (.string d) := (blk_cell (HeldC.blk s0) 3).trans rfl
    have t0_4 : w'.cell? ⟨gbt, 4, none⟩ = some (.string o) := (blk_cell (HeldC.blk s0) 4).trans rfl
    go_simp
    with_reducible rfl
  rotate_left
  · simp only [Act.put, List.setIfInBounds_toArray, List.set_cons_zero, List.set_cons_succ, i64_w, i32_w]
    rfl
  refine pure_ (i := 3) (N := some 7) (v := ?_) (a' := ?_) #[true, true, true, true, false, false, false, false, false] rfl rfl (by kernel_rfl) (fun _ _ _ h => h) (Or.inl ⟨by rfl, ?_⟩) ?_ ?_
  rotate_left
  · intro w'
    go_simp
    with_reducible rfl
  rotate_left
  · simp only [Act.put, List.setIfInBounds_toArray, List.set_cons_zero, List.set_cons_succ, i64_w, i32_w]
    rfl
  refine take_ (i := 4) (N := some 8) (v := ?_) (a' := ?_) #[true, true, true, true, true, false, false, false, false] rfl rfl (by kernel_rfl) (fun _ _ _ h => h) (Or.inl ⟨by rfl, ?_⟩) hHeld ?_ ?_
  rotate_left
  · rintro w' s0
    have t0_0 : w'.cell? ⟨gbt, 0, none⟩ = some (.string c) := (blk_cell (HeldC.blk s0) 0).trans rfl
    have t0_1 : w'.cell? ⟨gbt, 1, none⟩ = some (.string i) := (blk_cell (HeldC.blk s0) 1).trans rfl
    have t0_2 : w'.cell? ⟨gbt, 2, none⟩ = some (.string u) := (blk_cell (HeldC.blk s0) 2).trans rfl
    have t0_3 : w'.cell? ⟨gbt, 3, none⟩ = some (.string d) := (blk_cell (HeldC.blk s0) 3).trans rfl
    have t0_4 : w'.cell? ⟨gbt, 4, none⟩ = some (.string o) := (blk_cell (HeldC.blk s0) 4).trans rfl
    go_simp
    with_reducible rfl
  rotate_left
  · simp only [Act.put, List.setIfInBounds_toArray, List.set_cons_zero, List.set_cons_succ, i64_w, i32_w]
    rfl
  refine take_ (i := 6) (N := some 10) (v := ?_) (a' := ?_) #[true, true, true, true, true, false, true, false, false] rfl rfl (by kernel_rfl) (fun _ _ _ h => h) (Or.inl ⟨by rfl, ?_⟩) hHeld ?_ ?_
  rotate_left
  · rintro w' s0
    have t0_0 : w'.cell? ⟨gbt, 0, none⟩ = some (.string c) := (blk_cell (HeldC.blk s0) 0).trans rfl
    have t0_1 : w'.cell? ⟨gbt, 1, none⟩ = some (.string i) := (blk_cell (HeldC.blk s0) 1).trans rfl
    have t0_2 : w'.cell? ⟨gbt, 2, none⟩ = some (.string u) := (blk_cell (HeldC.blk s0) 2).trans rfl
    have t0_3 : w'.cell? ⟨gbt, 3, none⟩ = some (.string d) := (blk_cell (HeldC.blk s0) 3).trans rfl
    have t0_4 : w'.cell? ⟨gbt, 4, none⟩ = some (.string o) := (blk_cell (HeldC.blk s0) 4).trans rfl
    go_simp
    with_reducible rfl
  rotate_left
  · simp only [Act.put, List.setIfInBounds_toArray, List.set_cons_zero, List.set_cons_succ, i64_w, i32_w]
    rfl
  refine one_ (i := 5) (N := some 9) #[true, true, true, true, true, true, true, false, false] rfl rfl (by kernel_rfl) (by decide) (fun K hK => ?_)
  refine goes_ Tryz.func21 (by kernel_rfl) rfl #[.string c, .string i] (by rfl) rfl rfl (by (try simp only [List.map_toArray, List.map_cons, List.map_nil]); first | done | rfl) ?_
  refine (token_key.calls k1 c i kA _ key1).mono ?_
  rintro e w1 ⟨rfl, hb⟩
  refine ⟨_, rfl, ?_⟩
  have n_HK := Aside0.mk (HK.out.trans (JK.of_below hb))
  have n_HJ := Aside0.mk (JS.below (base := base) (ok := ok) (w0 := w0) (g := g) (cur := cur) (by first | exact HJ.out | ((with_reducible repeat (first | apply JS.drewN | apply JS.drew | apply JS.alloc)); exact HJ.out)) hb)
  have n_BKt := Aside0.mk (blk_below (g := gbt) (o := .cells #[.string c, .string i, .string u, .string d, .string o] 23 (0, 0)) (by first | exact BKt.out | ((with_reducible repeat (first | refine blk_drewN ?_ _ | refine blk_drew ?_ | refine blk_alloc ?_ _)); exact BKt.out)) hb)
  clear HK HJ BKt
  have HK := n_HK
  have HJ := n_HJ
  have BKt := n_BKt
  clear n_HK n_HJ n_BKt
  clear hb
  refine hK.out _ _ (HeldC.of BKt.out) (fun hHeld => ?_)
  clear hK K
  refine norm_ (a' := ?_) ?_ ?_
  rotate_left
  · show Act.put _ (some 9) _ = _
    simp only [Act.put, List.setIfInBounds_toArray, List.set_cons_zero, List.set_cons_succ, i64_w, i32_w]
    rfl
  refine one_ (i := 7) (N := some 11) #[true, true, true, true, true, true, true, true, false] rfl rfl (by kernel_rfl) (by decide) (fun K hK => ?_)
  refine goes_ Tryz.func58 (by kernel_rfl) rfl #[.agg #[.string c, .string i, .string u, .string d, .string o]] (by rfl) rfl rfl (by (try simp only [List.map_toArray, List.map_cons, List.map_nil]); first | done | rfl) ?_
  refine (token_value.calls 4 c i u d o V _ key3).mono ?_
  rintro e w2 ⟨rfl, hb⟩
  refine ⟨_, rfl, ?_⟩
  have n_HK := Aside0.mk (HK.out.trans (JK.of_below hb))
  have n_HJ := Aside0.mk (JS.below (base := base) (ok := ok) (w0 := w0) (g := g) (cur := cur) (by first | exact HJ.out | ((with_reducible repeat (first | apply JS.drewN | apply JS.drew | apply JS.alloc)); exact HJ.out)) hb)
  have n_BKt := Aside0.mk (blk_below (g := gbt) (o := .cells #[.string c, .string i, .string u, .string d, .string o] 23 (0, 0)) (by first | exact BKt.out | ((with_reducible repeat (first | refine blk_drewN ?_ _ | refine blk_drew ?_ | refine blk_alloc ?_ _)); exact BKt.out)) hb)
  clear HK HJ BKt
  have HK := n_HK
  have HJ := n_HJ
  have BKt := n_BKt
  clear n_HK n_HJ n_BKt
  clear hb
  refine hK.out _ _ (HeldC.of BKt.out) (fun hHeld => ?_)
  clear hK K
  refine norm_ (a' := ?_) ?_ ?_
  rotate_left
  · show Act.put _ (some 11) _ = _
    simp only [Act.put, List.setIfInBounds_toArray, List.set_cons_zero, List.set_cons_succ, i64_w, i32_w]
    rfl
  refine one_ (i := 8) (N := some 12) #[true, true, true, true, true, true, true, true, true] rfl rfl (by kernel_rfl) (by decide) (fun K hK => ?_)
  refine goes_ Tryz.func57 (by kernel_rfl) rfl #[.pointer (some ⟨g, 0, none⟩), .string kA, .string V] (by rfl) rfl rfl (by (try simp only [List.map_toArray, List.map_cons, List.map_nil]); first | done | rfl) ?_
  refine (js_set kA V HJ.out hk2).mono ?_
  rintro e w3 ⟨rfl, hj, hk⟩
  rw [HC.out] at hj
  refine ⟨_, rfl, ?_⟩
  have n_HK := Aside0.mk (HK.out.trans hk)
  have n_HJ := Aside0.mk (hj)
  have n_BKt := Aside0.mk (JK.blk (b := gbt) (c := #[.string c, .string i, .string u, .string d, .string o]) (q := 23) (x := (0, 0)) hk (by first | exact BKt.out | ((with_reducible repeat (first | refine blk_drewN ?_ _ | refine blk_drew ?_ | refine blk_alloc ?_ _)); exact BKt.out)) (by decide))
  clear HK HJ BKt
  have HK := n_HK
  have HJ := n_HJ
  have BKt := n_BKt
  clear n_HK n_HJ n_BKt
  clear hj hk
  refine hK.out _ _ (HeldC.of BKt.out) (fun hHeld => ?_)
  clear hK K
  refine norm_ (a' := ?_) ?_ ?_
  rotate_left
  · show Act.put _ (some 12) _ = _
    simp only [Act.put, List.setIfInBounds_toArray, List.set_cons_zero, List.set_cons_succ, i64_w, i32_w]
    rfl
  refine done_ (by kernel_rfl) ?_
  clear hHeld
  have zt_0 : World.cell? _ ⟨gbt, 0, none⟩ = some (.string c) := (blk_cell BKt.out 0).trans rfl
  have ft_0 := blk_frozen BKt.out 0
  have zt_1 : World.cell? _ ⟨gbt, 1, none⟩ = some (.string i) := (blk_cell BKt.out 1).trans rfl
  have ft_1 := blk_frozen BKt.out 1
  have zt_2 : World.cell? _ ⟨gbt, 2, none⟩ = some (.string u) := (blk_cell BKt.out 2).trans rfl
  have ft_2 := blk_frozen BKt.out 2
  have zt_3 : World.cell? _ ⟨gbt, 3, none⟩ = some (.string d) := (blk_cell BKt.out 3).trans rfl
  have ft_3 := blk_frozen BKt.out 3
  have zt_4 : World.cell? _ ⟨gbt, 4, none⟩ = some (.string o) := (blk_cell BKt.out 4).trans rfl
  have ft_4 := blk_frozen BKt.out 4
  go_wp2_with fail
  refine (token_own.calls k2 c i u d o kB _ key2).mono ?_
  rintro e w4 ⟨rfl, hb⟩
  have n_HK := Aside0.mk (HK.out.trans (JK.of_below hb))
  have n_HJ := Aside0.mk (JS.below (base := base) (ok := ok) (w0 := w0) (g := g) (cur := cA) (by first | exact HJ.out | ((with_reducible repeat (first | apply JS.drewN | apply JS.drew | apply JS.alloc)); exact HJ.out)) hb)
  have n_BKt := Aside0.mk (blk_below (g := gbt) (o := .cells #[.string c, .string i, .string u, .string d, .string o] 23 (0, 0)) (by first | exact BKt.out | ((with_reducible repeat (first | refine blk_drewN ?_ _ | refine blk_drew ?_ | refine blk_alloc ?_ _)); exact BKt.out)) hb)
  clear HK HJ BKt
  have HK := n_HK
  have HJ := n_HJ
  have BKt := n_BKt
  clear n_HK n_HJ n_BKt
  clear hb
  go_wp2_with fail
  refine (js_set kB (⟨#[1]⟩ : ByteArray) HJ.out hkA).mono ?_
  rintro e w5 ⟨rfl, hj, hk⟩
  rw [hcur] at hj
  have n_HK := Aside0.mk (HK.out.trans hk)
  have n_HJ := Aside0.mk (hj)
  have n_BKt := Aside0.mk (JK.blk (b := gbt) (c := #[.string c, .string i, .string u, .string d, .string o]) (q := 23) (x := (0, 0)) hk (by first | exact BKt.out | ((with_reducible repeat (first | refine blk_drewN ?_ _ | refine blk_drew ?_ | refine blk_alloc ?_ _)); exact BKt.out)) (by decide))
  clear HK HJ BKt
  have HK := n_HK
  have HJ := n_HJ
  have BKt := n_BKt
  clear n_HK n_HJ n_BKt
  clear hj hk
  go_wp2
  first | go_end0 | refine bodyPost_ret (results_none rfl _ _ _) rfl ?_
  exact ⟨rfl, HJ.out, HK.out⟩
set_option maxHeartbeats 8000000 in
set_option maxRecDepth 100000 in
theorem tk_check {base g : Nat} {ok : Nat → Prop} {w0 : World} {cur : List S82} (c i u d o : ByteArray) (x : Int) {w : World} (h : JS base ok w0 g cur w) (hk : KV 1000000 cur) (hc : c.size ≤ 50000) (hi : i.size ≤ 50000) (hx : tkMintE cur c i u d o = x) :
    Calls Tryz.prog 25 #[.pointer (some ⟨g, 0, none⟩), .agg #[.string c, .string i, .string u, .string d, .string o]] w fun e w' => e = .returned (.int .i64 x) ∧ Below w.heap.size w w' := by
  obtain ⟨k1, key1⟩ := tkKey_ev c i (Nat.le_trans hc (by decide)) (Nat.le_trans hi (by decide))
  have hid : c.size ≤ 50000000 := Nat.le_trans hc (by decide)
  obtain ⟨G0, G1, G2, G3, GE, hG⟩ : ∃ a0 a1 a2 a3 a4, clGet cur c = (a0, a1, a2, a3, a4) := ⟨_, _, _, _, _, rfl⟩
  obtain ⟨K0, c0⟩ := nm_check_ev 5 i (Nat.le_trans hi (by decide))
  generalize hn0 : nm_checkSpec 5 i = n0 at c0
  replace c0 : names_Check.f K0 5 i = some n0 := c0 K0 (Nat.le_refl _)
  have hnm := tkNamed_is o
  unfold tkMintE at hx
  rw [hG, hn0] at hx
  dsimp only at hx
  clear hn0
  generalize tkKey c i = key at key1 hx
  obtain ⟨v, hv⟩ : ∃ v, (getK cur key).1 = v := ⟨_, rfl⟩
  obtain ⟨b, hb0⟩ : ∃ b, hasK cur key = b := ⟨_, rfl⟩
  rw [hb0] at hx
  obtain ⟨nb, hnb⟩ : ∃ z, decide (¬ (o.size = 0 ∨ o.size > 512)) = z := ⟨_, rfl⟩
  rw [hnb] at hnm
  have AG := Aside0.mk hG
  have HJ := Aside0.mk h
  have HB := Aside0.mk (Below.refl w.heap.size w)
  clear h hG hc hi
  go_enter Tryz.func25, Tryz.ntmps25
  go_wp2_with (first | ((with_reducible refine gate_dst (N := 3) rfl ?_); refine box_event ?hg (N := 3) ?hd (cs := #[.string c, .string i, .string u, .string d, .string o]) (t := 23) ?hr ?_; (case hd => rfl); (case hg => rfl); (case hr => first | (go_simp; done) | (go_simp; rfl)); intro gbt hg wt hbox hb; have GEt := Aside0.mk ((by rw [hg]; exact (below_size (by repeat (first | (with_reducible first | exact HB.out | apply below_alloc | apply pw_below_drewN | apply below_drew1) | exact HB.out))) : w.heap.size ≤ gbt)); have GJt := Aside0.mk ((by rw [hg]; exact JS.size0 (base := base) (ok := ok) (w0 := w0) (g := g) (cur := cur) (by first | exact HJ.out | ((with_reducible repeat (first | apply JS.drewN | apply JS.drew | apply JS.alloc)); exact HJ.out)) : w0.heap.size ≤ gbt)); have n_HB := Aside0.mk (below_step (by repeat (first | (with_reducible first | exact HB.out | apply below_alloc | apply pw_below_drewN | apply below_drew1) | exact HB.out)) hb); have n_HJ := Aside0.mk (JS.below (base := base) (ok := ok) (w0 := w0) (g := g) (cur := cur) (by first | exact HJ.out | ((with_reducible repeat (first | apply JS.drewN | apply JS.drew | apply JS.alloc)); exact HJ.out)) hb); clear HB HJ; have HB := n_HB; have HJ := n_HJ; clear n_HB n_HJ; have BKt := Aside0.mk hbox; clear hb hbox hg; have zt_0 : World.cell? _ ⟨gbt, 0, none⟩ = some (.string c) := (blk_cell BKt.out 0).trans rfl; have ft_0 := blk_frozen BKt.out 0; have zt_1 : World.cell? _ ⟨gbt, 1, none⟩ = some (.string i) := (blk_cell BKt.out 1).trans rfl; have ft_1 := blk_frozen BKt.out 1; have zt_2 : World.cell? _ ⟨gbt, 2, none⟩ = some (.string u) := (blk_cell BKt.out 2).trans rfl; have ft_2 := blk_frozen BKt.out 2; have zt_3 : World.cell? _ ⟨gbt, 3, none⟩ = some (.string d) := (blk_cell BKt.out 3).trans rfl; have ft_3 := blk_frozen BKt.out 3; have zt_4 : World.cell? _ ⟨gbt, 4, none⟩ = some (.string o) := (blk_cell BKt.out 4).trans rfl; have ft_4 := blk_frozen BKt.out 4; have zt_0 : World.cell? _ ⟨gbt, 0, none⟩ = some (.string c) := (blk_cell BKt.out 0).trans rfl; have ft_0 := blk_frozen BKt.out 0; have zt_1 : World.cell? _ ⟨gbt, 1, none⟩ = some (.string i) := (blk_cell BKt.out 1).trans rfl; have ft_1 := blk_frozen BKt.out 1; have zt_2 : World.cell? _ ⟨gbt, 2, none⟩ = some (.string u) := (blk_cell BKt.out 2).trans rfl; have ft_2 := blk_frozen BKt.out 2; have zt_3 : World.cell? _ ⟨gbt, 3, none⟩ = some (.string d) := (blk_cell BKt.out 3).trans rfl; have ft_3 := blk_frozen BKt.out 3; have zt_4 : World.cell? _ ⟨gbt, 4, none⟩ = some (.string o) := (blk_cell BKt.out 4).trans rfl; have ft_4 := blk_frozen BKt.out 4))
  refine (cl_get c G0 G1 G2 G3 GE HJ.out hk hid AG.out).mono ?_
  rintro e w1 ⟨rfl, hb⟩
  have n_HB := Aside0.mk (below_step (by repeat (first | (with_reducible first | exact HB.out | apply below_alloc | apply pw_below_drewN | apply below_drew1 | refine below_set ?_ GEt.out) | exact HB.out)) hb)
  have n_HJ := Aside0.mk (JS.below (base := base) (ok := ok) (w0 := w0) (g := g) (cur := cur) (by first | exact HJ.out | ((with_reducible repeat (first | apply JS.drewN | apply JS.drew | apply JS.alloc)); exact HJ.out)) hb)
  have n_BKt := Aside0.mk (blk_below (g := gbt) (o := .cells #[.string c, .string i, .string u, .string d, .string o] 23 (0, 0)) (by first | exact BKt.out | ((with_reducible repeat (first | refine blk_drewN ?_ _ | refine blk_drew ?_ | refine blk_alloc ?_ _)); exact BKt.out)) hb)
  clear HB HJ BKt
  have HB := n_HB
  have HJ := n_HJ
  have BKt := n_BKt
  clear n_HB n_HJ n_BKt
  clear hb
  have zt_0 : World.cell? _ ⟨gbt, 0, none⟩ = some (.string c) := (blk_cell BKt.out 0).trans rfl
  have ft_0 := blk_frozen BKt.out 0
  have zt_1 : World.cell? _ ⟨gbt, 1, none⟩ = some (.string i) := (blk_cell BKt.out 1).trans rfl
  have ft_1 := blk_frozen BKt.out 1
  have zt_2 : World.cell? _ ⟨gbt, 2, none⟩ = some (.string u) := (blk_cell BKt.out 2).trans rfl
  have ft_2 := blk_frozen BKt.out 2
  have zt_3 : World.cell? _ ⟨gbt, 3, none⟩ = some (.string d) := (blk_cell BKt.out 3).trans rfl
  have ft_3 := blk_frozen BKt.out 3
  have zt_4 : World.cell? _ ⟨gbt, 4, none⟩ = some (.string o) := (blk_cell BKt.out 4).trans rfl
  have ft_4 := blk_frozen BKt.out 4
  by_cases z0 : GE = 0
  · rw [if_neg (fun e => e z0)] at hx
    subst z0
    go_wp2_with (first | ((with_reducible refine gate_dst (N := 5) rfl ?_); refine box_event ?hg (N := 5) ?hd (cs := #[.string (⟨#[]⟩ : ByteArray), .string (⟨#[]⟩ : ByteArray), .string (⟨#[]⟩ : ByteArray), .string (⟨#[]⟩ : ByteArray)]) (t := 66) ?hr ?_; (case hd => rfl); (case hg => rfl); (case hr => first | (go_simp; done) | (go_simp; rfl)); intro gbq hg wq hbox hb; have GEq := Aside0.mk ((by rw [hg]; exact (below_size (by repeat (first | (with_reducible first | exact HB.out | apply below_alloc | apply pw_below_drewN | apply below_drew1 | refine below_set ?_ GEt.out) | exact HB.out))) : w.heap.size ≤ gbq)); have GJq := Aside0.mk ((by rw [hg]; exact JS.size0 (base := base) (ok := ok) (w0 := w0) (g := g) (cur := cur) (by first | exact HJ.out | ((with_reducible repeat (first | apply JS.drewN | apply JS.drew | apply JS.alloc)); exact HJ.out)) : w0.heap.size ≤ gbq)); have NBt_q := Aside0.mk ((by rw [hg]; exact Nat.ne_of_lt (blk_lt (g := gbt) (o := .cells #[.string c, .string i, .string u, .string d, .string o] 23 (0, 0)) (by first | exact BKt.out | ((with_reducible repeat (first | refine blk_drewN ?_ _ | refine blk_drew ?_ | refine blk_alloc ?_ _)); exact BKt.out))) : gbt ≠ gbq)); have NBq_t := Aside0.mk ((by rw [hg]; exact Nat.ne_of_gt (blk_lt (g := gbt) (o := .cells #[.string c, .string i, .string u, .string d, .string o] 23 (0, 0)) (by first | exact BKt.out | ((with_reducible repeat (first | refine blk_drewN ?_ _ | refine blk_drew ?_ | refine blk_alloc ?_ _)); exact BKt.out))) : gbq ≠ gbt)); have n_HB := Aside0.mk (below_step (by repeat (first | (with_reducible first | exact HB.out | apply below_alloc | apply pw_below_drewN | apply below_drew1 | refine below_set ?_ GEt.out) | exact HB.out)) hb); have n_HJ := Aside0.mk (JS.below (base := base) (ok := ok) (w0 := w0) (g := g) (cur := cur) (by first | exact HJ.out | ((with_reducible repeat (first | apply JS.drewN | apply JS.drew | apply JS.alloc)); exact HJ.out)) hb); have n_BKt := Aside0.mk (blk_below (g := gbt) (o := .cells #[.string c, .string i, .string u, .string d, .string o] 23 (0, 0)) (by first | exact BKt.out | ((with_reducible repeat (first | refine blk_drewN ?_ _ | refine blk_drew ?_ | refine blk_alloc ?_ _)); exact BKt.out)) hb); clear HB HJ BKt; have HB := n_HB; have HJ := n_HJ; have BKt := n_BKt; clear n_HB n_HJ n_BKt; have BKq := Aside0.mk hbox; clear hb hbox hg; have zq_0 : World.cell? _ ⟨gbq, 0, none⟩ = some (.string (⟨#[]⟩ : ByteArray)) := (blk_cell BKq.out 0).trans rfl; have fq_0 := blk_frozen BKq.out 0; have zq_1 : World.cell? _ ⟨gbq, 1, none⟩ = some (.string (⟨#[]⟩ : ByteArray)) := (blk_cell BKq.out 1).trans rfl; have fq_1 := blk_frozen BKq.out 1; have zq_2 : World.cell? _ ⟨gbq, 2, none⟩ = some (.string (⟨#[]⟩ : ByteArray)) := (blk_cell BKq.out 2).trans rfl; have fq_2 := blk_frozen BKq.out 2; have zq_3 : World.cell? _ ⟨gbq, 3, none⟩ = some (.string (⟨#[]⟩ : ByteArray)) := (blk_cell BKq.out 3).trans rfl; have fq_3 := blk_frozen BKq.out 3; have hnqt := NBq_t.out; have hmqt := NBt_q.out; have zt_0 : World.cell? _ ⟨gbt, 0, none⟩ = some (.string c) := (blk_cell BKt.out 0).trans rfl; have ft_0 := blk_frozen BKt.out 0; have zt_1 : World.cell? _ ⟨gbt, 1, none⟩ = some (.string i) := (blk_cell BKt.out 1).trans rfl; have ft_1 := blk_frozen BKt.out 1; have zt_2 : World.cell? _ ⟨gbt, 2, none⟩ = some (.string u) := (blk_cell BKt.out 2).trans rfl; have ft_2 := blk_frozen BKt.out 2; have zt_3 : World.cell? _ ⟨gbt, 3, none⟩ = some (.string d) := (blk_cell BKt.out 3).trans rfl; have ft_3 := blk_frozen BKt.out 3; have zt_4 : World.cell? _ ⟨gbt, 4, none⟩ = some (.string o) := (blk_cell BKt.out 4).trans rfl; have ft_4 := blk_frozen BKt.out 4; have hntq := NBt_q.out; have hmtq := NBq_t.out; have zq_0 : World.cell? _ ⟨gbq, 0, none⟩ = some (.string (⟨#[]⟩ : ByteArray)) := (blk_cell BKq.out 0).trans rfl; have fq_0 := blk_frozen BKq.out 0; have zq_1 : World.cell? _ ⟨gbq, 1, none⟩ = some (.string (⟨#[]⟩ : ByteArray)) := (blk_cell BKq.out 1).trans rfl; have fq_1 := blk_frozen BKq.out 1; have zq_2 : World.cell? _ ⟨gbq, 2, none⟩ = some (.string (⟨#[]⟩ : ByteArray)) := (blk_cell BKq.out 2).trans rfl; have fq_2 := blk_frozen BKq.out 2; have zq_3 : World.cell? _ ⟨gbq, 3, none⟩ = some (.string (⟨#[]⟩ : ByteArray)) := (blk_cell BKq.out 3).trans rfl; have fq_3 := blk_frozen BKq.out 3; have hnqt := NBq_t.out; have hmqt := NBt_q.out))
    refine (token_key.calls k1 c i key _ key1).mono ?_
    rintro e w2 ⟨rfl, hb⟩
    have n_HB := Aside0.mk (below_step (by repeat (first | (with_reducible first | exact HB.out | apply below_alloc | apply pw_below_drewN | apply below_drew1 | refine below_set ?_ GEt.out | refine below_set ?_ GEq.out) | exact HB.out)) hb)
    have n_HJ := Aside0.mk (JS.below (base := base) (ok := ok) (w0 := w0) (g := g) (cur := cur) (by (with_reducible repeat (first | apply JS.drewN | apply JS.drew | apply JS.alloc)); refine JS.setb (q := 66) ?_ GJq.out (by (with_reducible repeat (first | refine blk_drewN ?_ _ | refine blk_drew ?_ | refine blk_alloc ?_ _)); refine blk_put (cs := #[.string G0, .string G1, .string (⟨#[]⟩ : ByteArray), .string (⟨#[]⟩ : ByteArray)]) ?_ 2 _ rfl; (with_reducible repeat (first | refine blk_drewN ?_ _ | refine blk_drew ?_ | refine blk_alloc ?_ _)); refine blk_put (cs := #[.string G0, .string (⟨#[]⟩ : ByteArray), .string (⟨#[]⟩ : ByteArray), .string (⟨#[]⟩ : ByteArray)]) ?_ 1 _ rfl; (with_reducible repeat (first | refine blk_drewN ?_ _ | refine blk_drew ?_ | refine blk_alloc ?_ _)); refine blk_put (cs := #[.string (⟨#[]⟩ : ByteArray), .string (⟨#[]⟩ : ByteArray), .string (⟨#[]⟩ : ByteArray), .string (⟨#[]⟩ : ByteArray)]) ?_ 0 _ rfl; (with_reducible repeat (first | refine blk_drewN ?_ _ | refine blk_drew ?_ | refine blk_alloc ?_ _)); exact BKq.out) _ (by decide); (with_reducible repeat (first | apply JS.drewN | apply JS.drew | apply JS.alloc)); refine JS.setb (q := 66) ?_ GJq.out (by (with_reducible repeat (first | refine blk_drewN ?_ _ | refine blk_drew ?_ | refine blk_alloc ?_ _)); refine blk_put (cs := #[.string G0, .string (⟨#[]⟩ : ByteArray), .string (⟨#[]⟩ : ByteArray), .string (⟨#[]⟩ : ByteArray)]) ?_ 1 _ rfl; (with_reducible repeat (first | refine blk_drewN ?_ _ | refine blk_drew ?_ | refine blk_alloc ?_ _)); refine blk_put (cs := #[.string (⟨#[]⟩ : ByteArray), .string (⟨#[]⟩ : ByteArray), .string (⟨#[]⟩ : ByteArray), .string (⟨#[]⟩ : ByteArray)]) ?_ 0 _ rfl; (with_reducible repeat (first | refine blk_drewN ?_ _ | refine blk_drew ?_ | refine blk_alloc ?_ _)); exact BKq.out) _ (by decide); (with_reducible repeat (first | apply JS.drewN | apply JS.drew | apply JS.alloc)); refine JS.setb (q := 66) ?_ GJq.out (by (with_reducible repeat (first | refine blk_drewN ?_ _ | refine blk_drew ?_ | refine blk_alloc ?_ _)); refine blk_put (cs := #[.string (⟨#[]⟩ : ByteArray), .string (⟨#[]⟩ : ByteArray), .string (⟨#[]⟩ : ByteArray), .string (⟨#[]⟩ : ByteArray)]) ?_ 0 _ rfl; (with_reducible repeat (first | refine blk_drewN ?_ _ | refine blk_drew ?_ | refine blk_alloc ?_ _)); exact BKq.out) _ (by decide); (with_reducible repeat (first | apply JS.drewN | apply JS.drew | apply JS.alloc)); refine JS.setb (q := 66) ?_ GJq.out (by first | exact BKq.out | ((with_reducible repeat (first | refine blk_drewN ?_ _ | refine blk_drew ?_ | refine blk_alloc ?_ _)); exact BKq.out)) _ (by decide); (with_reducible repeat (first | apply JS.drewN | apply JS.drew | apply JS.alloc)); exact HJ.out) hb)
    have n_BKt := Aside0.mk (blk_below (g := gbt) (o := .cells #[.string c, .string i, .string u, .string d, .string o] 23 (0, 0)) (by (with_reducible repeat (first | refine blk_drewN ?_ _ | refine blk_drew ?_ | refine blk_alloc ?_ _)); refine blk_far ?_ NBt_q.out _; (with_reducible repeat (first | refine blk_drewN ?_ _ | refine blk_drew ?_ | refine blk_alloc ?_ _)); refine blk_far ?_ NBt_q.out _; (with_reducible repeat (first | refine blk_drewN ?_ _ | refine blk_drew ?_ | refine blk_alloc ?_ _)); refine blk_far ?_ NBt_q.out _; (with_reducible repeat (first | refine blk_drewN ?_ _ | refine blk_drew ?_ | refine blk_alloc ?_ _)); refine blk_far ?_ NBt_q.out _; (with_reducible repeat (first | refine blk_drewN ?_ _ | refine blk_drew ?_ | refine blk_alloc ?_ _)); exact BKt.out) hb)
    have n_BKq := Aside0.mk (blk_below (g := gbq) (o := .cells #[.string G0, .string G1, .string G2, .string G3] 66 (0, 0)) (by (with_reducible repeat (first | refine blk_drewN ?_ _ | refine blk_drew ?_ | refine blk_alloc ?_ _)); refine blk_put (cs := #[.string G0, .string G1, .string G2, .string (⟨#[]⟩ : ByteArray)]) ?_ 3 _ rfl; (with_reducible repeat (first | refine blk_drewN ?_ _ | refine blk_drew ?_ | refine blk_alloc ?_ _)); refine blk_put (cs := #[.string G0, .string G1, .string (⟨#[]⟩ : ByteArray), .string (⟨#[]⟩ : ByteArray)]) ?_ 2 _ rfl; (with_reducible repeat (first | refine blk_drewN ?_ _ | refine blk_drew ?_ | refine blk_alloc ?_ _)); refine blk_put (cs := #[.string G0, .string (⟨#[]⟩ : ByteArray), .string (⟨#[]⟩ : ByteArray), .string (⟨#[]⟩ : ByteArray)]) ?_ 1 _ rfl; (with_reducible repeat (first | refine blk_drewN ?_ _ | refine blk_drew ?_ | refine blk_alloc ?_ _)); refine blk_put (cs := #[.string (⟨#[]⟩ : ByteArray), .string (⟨#[]⟩ : ByteArray), .string (⟨#[]⟩ : ByteArray), .string (⟨#[]⟩ : ByteArray)]) ?_ 0 _ rfl; (with_reducible repeat (first | refine blk_drewN ?_ _ | refine blk_drew ?_ | refine blk_alloc ?_ _)); exact BKq.out) hb)
    clear HB HJ BKt BKq
    have HB := n_HB
    have HJ := n_HJ
    have BKt := n_BKt
    have BKq := n_BKq
    clear n_HB n_HJ n_BKt n_BKq
    clear hb
    have zt_0 : World.cell? _ ⟨gbt, 0, none⟩ = some (.string c) := (blk_cell BKt.out 0).trans rfl
    have ft_0 := blk_frozen BKt.out 0
    have zt_1 : World.cell? _ ⟨gbt, 1, none⟩ = some (.string i) := (blk_cell BKt.out 1).trans rfl
    have ft_1 := blk_frozen BKt.out 1
    have zt_2 : World.cell? _ ⟨gbt, 2, none⟩ = some (.string u) := (blk_cell BKt.out 2).trans rfl
    have ft_2 := blk_frozen BKt.out 2
    have zt_3 : World.cell? _ ⟨gbt, 3, none⟩ = some (.string d) := (blk_cell BKt.out 3).trans rfl
    have ft_3 := blk_frozen BKt.out 3
    have zt_4 : World.cell? _ ⟨gbt, 4, none⟩ = some (.string o) := (blk_cell BKt.out 4).trans rfl
    have ft_4 := blk_frozen BKt.out 4
    have hntq := NBt_q.out
    have hmtq := NBq_t.out
    go_wp2_with fail
    refine (js_get key v b HJ.out hk hv hb0).mono ?_
    rintro e w3 ⟨rfl, hb⟩
    have n_HB := Aside0.mk (below_step (by repeat (first | (with_reducible first | exact HB.out | apply below_alloc | apply pw_below_drewN | apply below_drew1 | refine below_set ?_ GEt.out | refine below_set ?_ GEq.out) | exact HB.out)) hb)
    have n_HJ := Aside0.mk (JS.below (base := base) (ok := ok) (w0 := w0) (g := g) (cur := cur) (by first | exact HJ.out | ((with_reducible repeat (first | apply JS.drewN | apply JS.drew | apply JS.alloc)); exact HJ.out)) hb)
    have n_BKt := Aside0.mk (blk_below (g := gbt) (o := .cells #[.string c, .string i, .string u, .string d, .string o] 23 (0, 0)) (by first | exact BKt.out | ((with_reducible repeat (first | refine blk_drewN ?_ _ | refine blk_drew ?_ | refine blk_alloc ?_ _)); exact BKt.out)) hb)
    have n_BKq := Aside0.mk (blk_below (g := gbq) (o := .cells #[.string G0, .string G1, .string G2, .string G3] 66 (0, 0)) (by first | exact BKq.out | ((with_reducible repeat (first | refine blk_drewN ?_ _ | refine blk_drew ?_ | refine blk_alloc ?_ _)); exact BKq.out)) hb)
    clear HB HJ BKt BKq
    have HB := n_HB
    have HJ := n_HJ
    have BKt := n_BKt
    have BKq := n_BKq
    clear n_HB n_HJ n_BKt n_BKq
    clear hb
    have zt_0 : World.cell? _ ⟨gbt, 0, none⟩ = some (.string c) := (blk_cell BKt.out 0).trans rfl
    have ft_0 := blk_frozen BKt.out 0
    have zt_1 : World.cell? _ ⟨gbt, 1, none⟩ = some (.string i) := (blk_cell BKt.out 1).trans rfl
    have ft_1 := blk_frozen BKt.out 1
    have zt_2 : World.cell? _ ⟨gbt, 2, none⟩ = some (.string u) := (blk_cell BKt.out 2).trans rfl
    have ft_2 := blk_frozen BKt.out 2
    have zt_3 : World.cell? _ ⟨gbt, 3, none⟩ = some (.string d) := (blk_cell BKt.out 3).trans rfl
    have ft_3 := blk_frozen BKt.out 3
    have zt_4 : World.cell? _ ⟨gbt, 4, none⟩ = some (.string o) := (blk_cell BKt.out 4).trans rfl
    have ft_4 := blk_frozen BKt.out 4
    have hntq := NBt_q.out
    have hmtq := NBq_t.out
    go_wp2_with fail
    refine (names_Check.calls K0 5 i n0 _ c0).mono ?_
    rintro e w4 ⟨rfl, hb⟩
    have n_HB := Aside0.mk (below_step (by repeat (first | (with_reducible first | exact HB.out | apply below_alloc | apply pw_below_drewN | apply below_drew1 | refine below_set ?_ GEt.out | refine below_set ?_ GEq.out) | exact HB.out)) hb)
    have n_HJ := Aside0.mk (JS.below (base := base) (ok := ok) (w0 := w0) (g := g) (cur := cur) (by first | exact HJ.out | ((with_reducible repeat (first | apply JS.drewN | apply JS.drew | apply JS.alloc)); exact HJ.out)) hb)
    have n_BKt := Aside0.mk (blk_below (g := gbt) (o := .cells #[.string c, .string i, .string u, .string d, .string o] 23 (0, 0)) (by first | exact BKt.out | ((with_reducible repeat (first | refine blk_drewN ?_ _ | refine blk_drew ?_ | refine blk_alloc ?_ _)); exact BKt.out)) hb)
    have n_BKq := Aside0.mk (blk_below (g := gbq) (o := .cells #[.string G0, .string G1, .string G2, .string G3] 66 (0, 0)) (by first | exact BKq.out | ((with_reducible repeat (first | refine blk_drewN ?_ _ | refine blk_drew ?_ | refine blk_alloc ?_ _)); exact BKq.out)) hb)
    clear HB HJ BKt BKq
    have HB := n_HB
    have HJ := n_HJ
    have BKt := n_BKt
    have BKq := n_BKq
    clear n_HB n_HJ n_BKt n_BKq
    clear hb
    have zt_0 : World.cell? _ ⟨gbt, 0, none⟩ = some (.string c) := (blk_cell BKt.out 0).trans rfl
    have ft_0 := blk_frozen BKt.out 0
    have zt_1 : World.cell? _ ⟨gbt, 1, none⟩ = some (.string i) := (blk_cell BKt.out 1).trans rfl
    have ft_1 := blk_frozen BKt.out 1
    have zt_2 : World.cell? _ ⟨gbt, 2, none⟩ = some (.string u) := (blk_cell BKt.out 2).trans rfl
    have ft_2 := blk_frozen BKt.out 2
    have zt_3 : World.cell? _ ⟨gbt, 3, none⟩ = some (.string d) := (blk_cell BKt.out 3).trans rfl
    have ft_3 := blk_frozen BKt.out 3
    have zt_4 : World.cell? _ ⟨gbt, 4, none⟩ = some (.string o) := (blk_cell BKt.out 4).trans rfl
    have ft_4 := blk_frozen BKt.out 4
    have hntq := NBt_q.out
    have hmtq := NBq_t.out
    by_cases z1 : n0 = 0
    · subst z1
      go_wp2_with fail
      refine (token_named.calls o nb _ hnm).mono ?_
      rintro e w5 ⟨rfl, hdr⟩
      have hb := hdr.below
      clear hdr
      have n_HB := Aside0.mk (below_step (by repeat (first | (with_reducible first | exact HB.out | apply below_alloc | apply pw_below_drewN | apply below_drew1 | refine below_set ?_ GEt.out | refine below_set ?_ GEq.out) | exact HB.out)) hb)
      have n_HJ := Aside0.mk (JS.below (base := base) (ok := ok) (w0 := w0) (g := g) (cur := cur) (by first | exact HJ.out | ((with_reducible repeat (first | apply JS.drewN | apply JS.drew | apply JS.alloc)); exact HJ.out)) hb)
      have n_BKt := Aside0.mk (blk_below (g := gbt) (o := .cells #[.string c, .string i, .string u, .string d, .string o] 23 (0, 0)) (by first | exact BKt.out | ((with_reducible repeat (first | refine blk_drewN ?_ _ | refine blk_drew ?_ | refine blk_alloc ?_ _)); exact BKt.out)) hb)
      have n_BKq := Aside0.mk (blk_below (g := gbq) (o := .cells #[.string G0, .string G1, .string G2, .string G3] 66 (0, 0)) (by first | exact BKq.out | ((with_reducible repeat (first | refine blk_drewN ?_ _ | refine blk_drew ?_ | refine blk_alloc ?_ _)); exact BKq.out)) hb)
      clear HB HJ BKt BKq
      have HB := n_HB
      have HJ := n_HJ
      have BKt := n_BKt
      have BKq := n_BKq
      clear n_HB n_HJ n_BKt n_BKq
      clear hb
      have zt_0 : World.cell? _ ⟨gbt, 0, none⟩ = some (.string c) := (blk_cell BKt.out 0).trans rfl
      have ft_0 := blk_frozen BKt.out 0
      have zt_1 : World.cell? _ ⟨gbt, 1, none⟩ = some (.string i) := (blk_cell BKt.out 1).trans rfl
      have ft_1 := blk_frozen BKt.out 1
      have zt_2 : World.cell? _ ⟨gbt, 2, none⟩ = some (.string u) := (blk_cell BKt.out 2).trans rfl
      have ft_2 := blk_frozen BKt.out 2
      have zt_3 : World.cell? _ ⟨gbt, 3, none⟩ = some (.string d) := (blk_cell BKt.out 3).trans rfl
      have ft_3 := blk_frozen BKt.out 3
      have zt_4 : World.cell? _ ⟨gbt, 4, none⟩ = some (.string o) := (blk_cell BKt.out 4).trans rfl
      have ft_4 := blk_frozen BKt.out 4
      have hntq := NBt_q.out
      have hmtq := NBq_t.out
      cases nb with
      | false =>
        have z2 := Classical.not_not.1 (of_decide_eq_false hnb)
        rw [if_pos (.inr z2)] at hx
        subst hx
        go_wp2
        go_ret
        exact ⟨rfl, by repeat (first | (with_reducible first | exact HB.out | apply below_alloc | apply pw_below_drewN | apply below_drew1 | refine below_set ?_ GEt.out | refine below_set ?_ GEq.out) | exact HB.out)⟩
      | true =>
        have z2 := of_decide_eq_true hnb
        rw [if_neg (fun e => e.elim (fun e => e rfl) z2)] at hx
        clear z2
        by_cases z3 : 32768 < u.size
        · rw [if_pos (.inl z3)] at hx
          subst hx
          go_wp2
          go_ret
          exact ⟨rfl, by repeat (first | (with_reducible first | exact HB.out | apply below_alloc | apply pw_below_drewN | apply below_drew1 | refine below_set ?_ GEt.out | refine below_set ?_ GEq.out) | exact HB.out)⟩
        · by_cases z4 : 16384 < d.size
          · rw [if_pos (.inr z4)] at hx
            subst hx
            go_wp2
            go_ret
            exact ⟨rfl, by repeat (first | (with_reducible first | exact HB.out | apply below_alloc | apply pw_below_drewN | apply below_drew1 | refine below_set ?_ GEt.out | refine below_set ?_ GEq.out) | exact HB.out)⟩
          · rw [if_neg (by omega)] at hx
            cases b with
            | false =>
              rw [if_neg (by decide)] at hx
              subst hx
              go_wp2
              go_ret
              exact ⟨rfl, by repeat (first | (with_reducible first | exact HB.out | apply below_alloc | apply pw_below_drewN | apply below_drew1 | refine below_set ?_ GEt.out | refine below_set ?_ GEq.out) | exact HB.out)⟩
            | true =>
              rw [if_pos rfl] at hx
              subst hx
              go_wp2
              go_ret
              exact ⟨rfl, by repeat (first | (with_reducible first | exact HB.out | apply below_alloc | apply pw_below_drewN | apply below_drew1 | refine below_set ?_ GEt.out | refine below_set ?_ GEq.out) | exact HB.out)⟩
    · rw [if_pos (.inl z1)] at hx
      subst hx
      go_wp2
      go_ret
      exact ⟨rfl, by repeat (first | (with_reducible first | exact HB.out | apply below_alloc | apply pw_below_drewN | apply below_drew1 | refine below_set ?_ GEt.out | refine below_set ?_ GEq.out) | exact HB.out)⟩
  · rw [if_pos z0] at hx
    subst hx
    go_wp2_with (first | ((with_reducible refine gate_dst (N := 5) rfl ?_); refine box_event ?hg (N := 5) ?hd (cs := #[.string (⟨#[]⟩ : ByteArray), .string (⟨#[]⟩ : ByteArray), .string (⟨#[]⟩ : ByteArray), .string (⟨#[]⟩ : ByteArray)]) (t := 66) ?hr ?_; (case hd => rfl); (case hg => rfl); (case hr => first | (go_simp; done) | (go_simp; rfl)); intro gbq hg wq hbox hb; have GEq := Aside0.mk ((by rw [hg]; exact (below_size (by repeat (first | (with_reducible first | exact HB.out | apply below_alloc | apply pw_below_drewN | apply below_drew1 | refine below_set ?_ GEt.out) | exact HB.out))) : w.heap.size ≤ gbq)); have GJq := Aside0.mk ((by rw [hg]; exact JS.size0 (base := base) (ok := ok) (w0 := w0) (g := g) (cur := cur) (by first | exact HJ.out | ((with_reducible repeat (first | apply JS.drewN | apply JS.drew | apply JS.alloc)); exact HJ.out)) : w0.heap.size ≤ gbq)); have NBt_q := Aside0.mk ((by rw [hg]; exact Nat.ne_of_lt (blk_lt (g := gbt) (o := .cells #[.string c, .string i, .string u, .string d, .string o] 23 (0, 0)) (by first | exact BKt.out | ((with_reducible repeat (first | refine blk_drewN ?_ _ | refine blk_drew ?_ | refine blk_alloc ?_ _)); exact BKt.out))) : gbt ≠ gbq)); have NBq_t := Aside0.mk ((by rw [hg]; exact Nat.ne_of_gt (blk_lt (g := gbt) (o := .cells #[.string c, .string i, .string u, .string d, .string o] 23 (0, 0)) (by first | exact BKt.out | ((with_reducible repeat (first | refine blk_drewN ?_ _ | refine blk_drew ?_ | refine blk_alloc ?_ _)); exact BKt.out))) : gbq ≠ gbt)); have n_HB := Aside0.mk (below_step (by repeat (first | (with_reducible first | exact HB.out | apply below_alloc | apply pw_below_drewN | apply below_drew1 | refine below_set ?_ GEt.out) | exact HB.out)) hb); have n_HJ := Aside0.mk (JS.below (base := base) (ok := ok) (w0 := w0) (g := g) (cur := cur) (by first | exact HJ.out | ((with_reducible repeat (first | apply JS.drewN | apply JS.drew | apply JS.alloc)); exact HJ.out)) hb); have n_BKt := Aside0.mk (blk_below (g := gbt) (o := .cells #[.string c, .string i, .string u, .string d, .string o] 23 (0, 0)) (by first | exact BKt.out | ((with_reducible repeat (first | refine blk_drewN ?_ _ | refine blk_drew ?_ | refine blk_alloc ?_ _)); exact BKt.out)) hb); clear HB HJ BKt; have HB := n_HB; have HJ := n_HJ; have BKt := n_BKt; clear n_HB n_HJ n_BKt; have BKq := Aside0.mk hbox; clear hb hbox hg; have zq_0 : World.cell? _ ⟨gbq, 0, none⟩ = some (.string (⟨#[]⟩ : ByteArray)) := (blk_cell BKq.out 0).trans rfl; have fq_0 := blk_frozen BKq.out 0; have zq_1 : World.cell? _ ⟨gbq, 1, none⟩ = some (.string (⟨#[]⟩ : ByteArray)) := (blk_cell BKq.out 1).trans rfl; have fq_1 := blk_frozen BKq.out 1; have zq_2 : World.cell? _ ⟨gbq, 2, none⟩ = some (.string (⟨#[]⟩ : ByteArray)) := (blk_cell BKq.out 2).trans rfl; have fq_2 := blk_frozen BKq.out 2; have zq_3 : World.cell? _ ⟨gbq, 3, none⟩ = some (.string (⟨#[]⟩ : ByteArray)) := (blk_cell BKq.out 3).trans rfl; have fq_3 := blk_frozen BKq.out 3; have hnqt := NBq_t.out; have hmqt := NBt_q.out; have zt_0 : World.cell? _ ⟨gbt, 0, none⟩ = some (.string c) := (blk_cell BKt.out 0).trans rfl; have ft_0 := blk_frozen BKt.out 0; have zt_1 : World.cell? _ ⟨gbt, 1, none⟩ = some (.string i) := (blk_cell BKt.out 1).trans rfl; have ft_1 := blk_frozen BKt.out 1; have zt_2 : World.cell? _ ⟨gbt, 2, none⟩ = some (.string u) := (blk_cell BKt.out 2).trans rfl; have ft_2 := blk_frozen BKt.out 2; have zt_3 : World.cell? _ ⟨gbt, 3, none⟩ = some (.string d) := (blk_cell BKt.out 3).trans rfl; have ft_3 := blk_frozen BKt.out 3; have zt_4 : World.cell? _ ⟨gbt, 4, none⟩ = some (.string o) := (blk_cell BKt.out 4).trans rfl; have ft_4 := blk_frozen BKt.out 4; have hntq := NBt_q.out; have hmtq := NBq_t.out; have zq_0 : World.cell? _ ⟨gbq, 0, none⟩ = some (.string (⟨#[]⟩ : ByteArray)) := (blk_cell BKq.out 0).trans rfl; have fq_0 := blk_frozen BKq.out 0; have zq_1 : World.cell? _ ⟨gbq, 1, none⟩ = some (.string (⟨#[]⟩ : ByteArray)) := (blk_cell BKq.out 1).trans rfl; have fq_1 := blk_frozen BKq.out 1; have zq_2 : World.cell? _ ⟨gbq, 2, none⟩ = some (.string (⟨#[]⟩ : ByteArray)) := (blk_cell BKq.out 2).trans rfl; have fq_2 := blk_frozen BKq.out 2; have zq_3 : World.cell? _ ⟨gbq, 3, none⟩ = some (.string (⟨#[]⟩ : ByteArray)) := (blk_cell BKq.out 3).trans rfl; have fq_3 := blk_frozen BKq.out 3; have hnqt := NBq_t.out; have hmqt := NBt_q.out))
    go_ret
    exact ⟨rfl, by repeat (first | (with_reducible first | exact HB.out | apply below_alloc | apply pw_below_drewN | apply below_drew1 | refine below_set ?_ GEt.out | refine below_set ?_ GEq.out) | exact HB.out)⟩
set_option maxHeartbeats 8000000 in
set_option maxRecDepth 100000 in
theorem tkn_check (c i u d o : ByteArray) (w : World) :
    Calls Tryz.prog 25 #[.pointer none, .agg #[.string c, .string i, .string u, .string d, .string o]] w fun e w' => e = .returned (.int .i64 2) ∧ Below w.heap.size w w' := by
  have HB := Aside0.mk (Below.refl w.heap.size w)
  go_enter Tryz.func25, Tryz.ntmps25
  go_wp2_with (first | ((with_reducible refine gate_dst (N := 3) rfl ?_); refine box_event ?hg (N := 3) ?hd (cs := #[.string c, .string i, .string u, .string d, .string o]) (t := 23) ?hr ?_; (case hd => rfl); (case hg => rfl); (case hr => first | (go_simp; done) | (go_simp; rfl)); intro gbt hg wt hbox hb; have GEt := Aside0.mk ((by rw [hg]; exact (below_size (by repeat (first | (with_reducible first | exact HB.out | apply below_alloc | apply pw_below_drewN | apply below_drew1) | exact HB.out))) : w.heap.size ≤ gbt)); have n_HB := Aside0.mk (below_step (by repeat (first | (with_reducible first | exact HB.out | apply below_alloc | apply pw_below_drewN | apply below_drew1) | exact HB.out)) hb); clear HB; have HB := n_HB; clear n_HB; have BKt := Aside0.mk hbox; clear hb hbox hg; have zt_0 : World.cell? _ ⟨gbt, 0, none⟩ = some (.string c) := (blk_cell BKt.out 0).trans rfl; have ft_0 := blk_frozen BKt.out 0; have zt_1 : World.cell? _ ⟨gbt, 1, none⟩ = some (.string i) := (blk_cell BKt.out 1).trans rfl; have ft_1 := blk_frozen BKt.out 1; have zt_2 : World.cell? _ ⟨gbt, 2, none⟩ = some (.string u) := (blk_cell BKt.out 2).trans rfl; have ft_2 := blk_frozen BKt.out 2; have zt_3 : World.cell? _ ⟨gbt, 3, none⟩ = some (.string d) := (blk_cell BKt.out 3).trans rfl; have ft_3 := blk_frozen BKt.out 3; have zt_4 : World.cell? _ ⟨gbt, 4, none⟩ = some (.string o) := (blk_cell BKt.out 4).trans rfl; have ft_4 := blk_frozen BKt.out 4; have zt_0 : World.cell? _ ⟨gbt, 0, none⟩ = some (.string c) := (blk_cell BKt.out 0).trans rfl; have ft_0 := blk_frozen BKt.out 0; have zt_1 : World.cell? _ ⟨gbt, 1, none⟩ = some (.string i) := (blk_cell BKt.out 1).trans rfl; have ft_1 := blk_frozen BKt.out 1; have zt_2 : World.cell? _ ⟨gbt, 2, none⟩ = some (.string u) := (blk_cell BKt.out 2).trans rfl; have ft_2 := blk_frozen BKt.out 2; have zt_3 : World.cell? _ ⟨gbt, 3, none⟩ = some (.string d) := (blk_cell BKt.out 3).trans rfl; have ft_3 := blk_frozen BKt.out 3; have zt_4 : World.cell? _ ⟨gbt, 4, none⟩ = some (.string o) := (blk_cell BKt.out 4).trans rfl; have ft_4 := blk_frozen BKt.out 4))
  refine (cln_get c _).mono ?_
  rintro e w1 ⟨rfl, hb⟩
  have n_HB := Aside0.mk (below_step (by repeat (first | (with_reducible first | exact HB.out | apply below_alloc | apply pw_below_drewN | apply below_drew1 | refine below_set ?_ GEt.out) | exact HB.out)) hb)
  have n_BKt := Aside0.mk (blk_below (g := gbt) (o := .cells #[.string c, .string i, .string u, .string d, .string o] 23 (0, 0)) (by first | exact BKt.out | ((with_reducible repeat (first | refine blk_drewN ?_ _ | refine blk_drew ?_ | refine blk_alloc ?_ _)); exact BKt.out)) hb)
  clear HB BKt
  have HB := n_HB
  have BKt := n_BKt
  clear n_HB n_BKt
  clear hb
  have zt_0 : World.cell? _ ⟨gbt, 0, none⟩ = some (.string c) := (blk_cell BKt.out 0).trans rfl
  have ft_0 := blk_frozen BKt.out 0
  have zt_1 : World.cell? _ ⟨gbt, 1, none⟩ = some (.string i) := (blk_cell BKt.out 1).trans rfl
  have ft_1 := blk_frozen BKt.out 1
  have zt_2 : World.cell? _ ⟨gbt, 2, none⟩ = some (.string u) := (blk_cell BKt.out 2).trans rfl
  have ft_2 := blk_frozen BKt.out 2
  have zt_3 : World.cell? _ ⟨gbt, 3, none⟩ = some (.string d) := (blk_cell BKt.out 3).trans rfl
  have ft_3 := blk_frozen BKt.out 3
  have zt_4 : World.cell? _ ⟨gbt, 4, none⟩ = some (.string o) := (blk_cell BKt.out 4).trans rfl
  have ft_4 := blk_frozen BKt.out 4
  go_wp2_with (first | ((with_reducible refine gate_dst (N := 5) rfl ?_); refine box_event ?hg (N := 5) ?hd (cs := #[.string (⟨#[]⟩ : ByteArray), .string (⟨#[]⟩ : ByteArray), .string (⟨#[]⟩ : ByteArray), .string (⟨#[]⟩ : ByteArray)]) (t := 66) ?hr ?_; (case hd => rfl); (case hg => rfl); (case hr => first | (go_simp; done) | (go_simp; rfl)); intro gbq hg wq hbox hb; have GEq := Aside0.mk ((by rw [hg]; exact (below_size (by repeat (first | (with_reducible first | exact HB.out | apply below_alloc | apply pw_below_drewN | apply below_drew1 | refine below_set ?_ GEt.out) | exact HB.out))) : w.heap.size ≤ gbq)); have NBt_q := Aside0.mk ((by rw [hg]; exact Nat.ne_of_lt (blk_lt (g := gbt) (o := .cells #[.string c, .string i, .string u, .string d, .string o] 23 (0, 0)) (by first | exact BKt.out | ((with_reducible repeat (first | refine blk_drewN ?_ _ | refine blk_drew ?_ | refine blk_alloc ?_ _)); exact BKt.out))) : gbt ≠ gbq)); have NBq_t := Aside0.mk ((by rw [hg]; exact Nat.ne_of_gt (blk_lt (g := gbt) (o := .cells #[.string c, .string i, .string u, .string d, .string o] 23 (0, 0)) (by first | exact BKt.out | ((with_reducible repeat (first | refine blk_drewN ?_ _ | refine blk_drew ?_ | refine blk_alloc ?_ _)); exact BKt.out))) : gbq ≠ gbt)); have n_HB := Aside0.mk (below_step (by repeat (first | (with_reducible first | exact HB.out | apply below_alloc | apply pw_below_drewN | apply below_drew1 | refine below_set ?_ GEt.out) | exact HB.out)) hb); have n_BKt := Aside0.mk (blk_below (g := gbt) (o := .cells #[.string c, .string i, .string u, .string d, .string o] 23 (0, 0)) (by first | exact BKt.out | ((with_reducible repeat (first | refine blk_drewN ?_ _ | refine blk_drew ?_ | refine blk_alloc ?_ _)); exact BKt.out)) hb); clear HB BKt; have HB := n_HB; have BKt := n_BKt; clear n_HB n_BKt; have BKq := Aside0.mk hbox; clear hb hbox hg; have zq_0 : World.cell? _ ⟨gbq, 0, none⟩ = some (.string (⟨#[]⟩ : ByteArray)) := (blk_cell BKq.out 0).trans rfl; have fq_0 := blk_frozen BKq.out 0; have zq_1 : World.cell? _ ⟨gbq, 1, none⟩ = some (.string (⟨#[]⟩ : ByteArray)) := (blk_cell BKq.out 1).trans rfl; have fq_1 := blk_frozen BKq.out 1; have zq_2 : World.cell? _ ⟨gbq, 2, none⟩ = some (.string (⟨#[]⟩ : ByteArray)) := (blk_cell BKq.out 2).trans rfl; have fq_2 := blk_frozen BKq.out 2; have zq_3 : World.cell? _ ⟨gbq, 3, none⟩ = some (.string (⟨#[]⟩ : ByteArray)) := (blk_cell BKq.out 3).trans rfl; have fq_3 := blk_frozen BKq.out 3; have hnqt := NBq_t.out; have hmqt := NBt_q.out; have zt_0 : World.cell? _ ⟨gbt, 0, none⟩ = some (.string c) := (blk_cell BKt.out 0).trans rfl; have ft_0 := blk_frozen BKt.out 0; have zt_1 : World.cell? _ ⟨gbt, 1, none⟩ = some (.string i) := (blk_cell BKt.out 1).trans rfl; have ft_1 := blk_frozen BKt.out 1; have zt_2 : World.cell? _ ⟨gbt, 2, none⟩ = some (.string u) := (blk_cell BKt.out 2).trans rfl; have ft_2 := blk_frozen BKt.out 2; have zt_3 : World.cell? _ ⟨gbt, 3, none⟩ = some (.string d) := (blk_cell BKt.out 3).trans rfl; have ft_3 := blk_frozen BKt.out 3; have zt_4 : World.cell? _ ⟨gbt, 4, none⟩ = some (.string o) := (blk_cell BKt.out 4).trans rfl; have ft_4 := blk_frozen BKt.out 4; have hntq := NBt_q.out; have hmtq := NBq_t.out; have zq_0 : World.cell? _ ⟨gbq, 0, none⟩ = some (.string (⟨#[]⟩ : ByteArray)) := (blk_cell BKq.out 0).trans rfl; have fq_0 := blk_frozen BKq.out 0; have zq_1 : World.cell? _ ⟨gbq, 1, none⟩ = some (.string (⟨#[]⟩ : ByteArray)) := (blk_cell BKq.out 1).trans rfl; have fq_1 := blk_frozen BKq.out 1; have zq_2 : World.cell? _ ⟨gbq, 2, none⟩ = some (.string (⟨#[]⟩ : ByteArray)) := (blk_cell BKq.out 2).trans rfl; have fq_2 := blk_frozen BKq.out 2; have zq_3 : World.cell? _ ⟨gbq, 3, none⟩ = some (.string (⟨#[]⟩ : ByteArray)) := (blk_cell BKq.out 3).trans rfl; have fq_3 := blk_frozen BKq.out 3; have hnqt := NBq_t.out; have hmqt := NBt_q.out))
  go_ret
  exact ⟨rfl, by repeat (first | (with_reducible first | exact HB.out | apply below_alloc | apply pw_below_drewN | apply below_drew1 | refine below_set ?_ GEt.out | refine below_set ?_ GEq.out) | exact HB.out)⟩

end Go.Proofs.YtjappgjpikbdeaaGreatDoor.PTkk
