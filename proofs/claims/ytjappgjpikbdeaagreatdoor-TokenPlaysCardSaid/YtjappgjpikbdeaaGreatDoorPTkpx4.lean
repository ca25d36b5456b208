/- A part of the walk of TokenPlays. No condition. -/
import Derived.Test.YtjappgjpikbdeaaGreatDoorPTkpx0
import Derived.Test.YtjappgjpikbdeaaGreatDoorPTkpx1
import Derived.Test.YtjappgjpikbdeaaGreatDoorPTkpx2
import Derived.Test.YtjappgjpikbdeaaGreatDoorPTkpx3
namespace Go.Proofs.YtjappgjpikbdeaaGreatDoor.PTkp
set_option maxRecDepth 100000
set_option maxHeartbeats 8000000
open Go.RowKit Go.Proofs.YtjappgjpikbdeaaGreatDoorW.PrintWords Go.Proofs.YtjappgjpikbdeaaGreatDoorW.PrintLast Go.Proofs.YtjappgjpikbdeaaGreatDoorW.PrintMore
attribute [local go_sem] max2_int min2_int max_two min_two max_three min_three max_four min_four   -- for this text's walks alone
set_option linter.unusedVariables false
set_option linter.unusedSimpArgs false
theorem bkNum_is (n : Int) : ∃ er, wire_Num.f n = some (bkNum n, er) := by
 unfold bkNum
 by_cases h : n < 0 ∨ 9007199254740992 < n
 ·rw [if_pos h]; unfold wire_Num.f; rw [if_pos h]; exact ⟨_, rfl⟩
 ·rw [if_neg h]
  obtain ⟨m, rfl⟩ : ∃ m : Nat, n = (m : Int) := ⟨n.toNat, by omega⟩
  rw [Int.toNat_natCast]; exact ⟨_, wNum_is m (by omega)⟩
theorem bkNum_sz (n : Int) : (bkNum n).size ≤ 9 := by
 unfold bkNum
 split
 ·exact Nat.zero_le _
 ·exact numB_len _
theorem numK_bd (cur : List S82) (key : ByteArray) : 0 ≤ numK cur key ∧ numK cur key ≤ 9007199254740992 := by
 unfold numK
 split
 ·exact rNum_bd _ _
 ·exact ⟨Int.le_refl _, by omega⟩
def tkKey (c i : ByteArray) : ByteArray := keyB (⟨#[116, 111, 107, 101, 110]⟩ : ByteArray) [c, i]
def tkOwn (o c i : ByteArray) : ByteArray := keyB (⟨#[111, 119, 110]⟩ : ByteArray) [o, c, i]
def tkMay (c i : ByteArray) : ByteArray := keyB (⟨#[109, 97, 121]⟩ : ByteArray) [c, i]
def tkSup (c : ByteArray) : ByteArray := keyB (⟨#[115, 117, 112, 112, 108, 121]⟩ : ByteArray) [c]
def tkGet (cur : List S82) (c i : ByteArray) : ByteArray × ByteArray × ByteArray × ByteArray × ByteArray × Int :=
 if hasK cur (tkKey c i) = true ∧ (txt3 (getK cur (tkKey c i)).1).2.2.2 = 0 then (c, i, (txt3 (getK cur (tkKey c i)).1).1, (txt3 (getK cur (tkKey c i)).1).2.1, (txt3 (getK cur (tkKey c i)).1).2.2.1, 0) else ((⟨#[]⟩ : ByteArray), (⟨#[]⟩ : ByteArray), (⟨#[]⟩ : ByteArray), (⟨#[]⟩ : ByteArray), (⟨#[]⟩ : ByteArray), 8)
def tkE (x : ByteArray × ByteArray × ByteArray × ByteArray × ByteArray × Int) : Int := x.2.2.2.2.2
def tkO (x : ByteArray × ByteArray × ByteArray × ByteArray × ByteArray × Int) : ByteArray := x.2.2.2.2.1
def tkKeep (cur : List S82) (c i u d o : ByteArray) : List S82 := setC (setC cur (tkKey c i) (valB [u, d, o])) (tkOwn o c i) (⟨#[1]⟩ : ByteArray)
noncomputable def tkMintE (cur : List S82) (c i u d o : ByteArray) : Int :=
 if (clGet cur c).2.2.2.2 ≠ 0 then (clGet cur c).2.2.2.2 else if nm_checkSpec 5 i ≠ 0 ∨ o.size = 0 ∨ o.size > 512 then 7 else if u.size > 32768 ∨ d.size > 16384 then 4 else if hasK cur (tkKey c i) = true then 9 else 0
noncomputable def tkMint (cur : List S82) (c i u d o : ByteArray) : List S82 := if tkMintE cur c i u d o = 0 then bkSet (tkKeep cur c i u d o) (tkSup c) (numK cur (tkSup c) + 1) else cur
def tkBurn3 (cur : List S82) (c i o : ByteArray) : List S82 := delK (delK (delK cur (tkKey c i)) (tkOwn o c i)) (tkMay c i)
def tkBurn (cur : List S82) (c i : ByteArray) : List S82 := if tkE (tkGet cur c i) = 0 then bkSet (tkBurn3 cur c i (tkO (tkGet cur c i))) (tkSup c) (numK cur (tkSup c) - 1) else cur
def tkMoveE (cur : List S82) (c i p : ByteArray) : Int := if tkE (tkGet cur c i) ≠ 0 then tkE (tkGet cur c i) else if p.size = 0 ∨ p.size > 512 then 7 else 0
def tkMove (cur : List S82) (c i p : ByteArray) : List S82 := if tkMoveE cur c i p = 0 then tkKeep (delK (delK cur (tkOwn (tkO (tkGet cur c i)) c i)) (tkMay c i)) c i (tkGet cur c i).2.2.1 (tkGet cur c i).2.2.2.1 p else cur
theorem h_tok : (⟨#[116, 111, 107, 101, 110]⟩ : ByteArray).toList = 116 :: [111, 107, 101, 110] := by simp [ByteArray.toList_eq]
theorem h_own : (⟨#[111, 119, 110]⟩ : ByteArray).toList = 111 :: [119, 110] := by simp [ByteArray.toList_eq]
theorem h_may : (⟨#[109, 97, 121]⟩ : ByteArray).toList = 109 :: [97, 121] := by simp [ByteArray.toList_eq]
theorem h_sup : (⟨#[115, 117, 112, 112, 108, 121]⟩ : ByteArray).toList = 115 :: [117, 112, 112, 108, 121] := by simp [ByteArray.toList_eq]
theorem h_cls : (⟨#[99, 108, 97, 115, 115]⟩ : ByteArray).toList = 99 :: [108, 97, 115, 115] := by simp [ByteArray.toList_eq]
theorem ne_KeyOwn (c i o' c' i' : ByteArray) : tkKey c i ≠ tkOwn o' c' i' := keyB_ne h_tok h_own (by decide) (by decide) (by decide) (by decide) (by decide)
theorem ne_KeySup (c i c' : ByteArray) : tkKey c i ≠ tkSup c' := keyB_ne h_tok h_sup (by decide) (by decide) (by decide) (by decide) (by decide)
theorem ne_KeyCls (c i c' : ByteArray) : tkKey c i ≠ keyB (⟨#[99, 108, 97, 115, 115]⟩ : ByteArray) [c'] := keyB_ne h_tok h_cls (by decide) (by decide) (by decide) (by decide) (by decide)
theorem ne_OwnCls (o c i c' : ByteArray) : tkOwn o c i ≠ keyB (⟨#[99, 108, 97, 115, 115]⟩ : ByteArray) [c'] := keyB_ne h_own h_cls (by decide) (by decide) (by decide) (by decide) (by decide)
theorem ne_MayCls (c i c' : ByteArray) : tkMay c i ≠ keyB (⟨#[99, 108, 97, 115, 115]⟩ : ByteArray) [c'] := keyB_ne h_may h_cls (by decide) (by decide) (by decide) (by decide) (by decide)
theorem ne_SupKey (c c' i' : ByteArray) : tkSup c ≠ tkKey c' i' := keyB_ne h_sup h_tok (by decide) (by decide) (by decide) (by decide) (by decide)
theorem ne_SupOwn (c o' c' i' : ByteArray) : tkSup c ≠ tkOwn o' c' i' := keyB_ne h_sup h_own (by decide) (by decide) (by decide) (by decide) (by decide)
theorem ne_SupMay (c c' i' : ByteArray) : tkSup c ≠ tkMay c' i' := keyB_ne h_sup h_may (by decide) (by decide) (by decide) (by decide) (by decide)
theorem ne_SupCls (c c' : ByteArray) : tkSup c ≠ keyB (⟨#[99, 108, 97, 115, 115]⟩ : ByteArray) [c'] := keyB_ne h_sup h_cls (by decide) (by decide) (by decide) (by decide) (by decide)
theorem ne_ClsKey (c c' i' : ByteArray) : keyB (⟨#[99, 108, 97, 115, 115]⟩ : ByteArray) [c] ≠ tkKey c' i' := keyB_ne h_cls h_tok (by decide) (by decide) (by decide) (by decide) (by decide)
theorem ne_ClsOwn (c o' c' i' : ByteArray) : keyB (⟨#[99, 108, 97, 115, 115]⟩ : ByteArray) [c] ≠ tkOwn o' c' i' := keyB_ne h_cls h_own (by decide) (by decide) (by decide) (by decide) (by decide)
theorem ne_ClsSup (c c' : ByteArray) : keyB (⟨#[99, 108, 97, 115, 115]⟩ : ByteArray) [c] ≠ tkSup c' := keyB_ne h_cls h_sup (by decide) (by decide) (by decide) (by decide) (by decide)
theorem keyB_len2 (a p q : ByteArray) : (keyB a [p, q]).size ≤ 2 * a.size + 2 + 2 * p.size + 2 * q.size := by
 have h1 := hidL_len a.toList
 have h2 := hidL_len p.toList
 have h3 := hidL_len q.toList
 rw [← ba_size] at h1 h2 h3
 unfold keyB keyL glue
 rw [ofL_size]
 simp only [List.map_cons, List.map_nil, List.flatMap_cons, List.flatMap_nil, List.length_append, List.length_cons, List.length_nil]
 omega
theorem keyB_len3 (a p q r : ByteArray) : (keyB a [p, q, r]).size ≤ 2 * a.size + 3 + 2 * p.size + 2 * q.size + 2 * r.size := by
 have h1 := hidL_len a.toList
 have h2 := hidL_len p.toList
 have h3 := hidL_len q.toList
 have h4 := hidL_len r.toList
 rw [← ba_size] at h1 h2 h3 h4
 unfold keyB keyL glue
 rw [ofL_size]
 simp only [List.map_cons, List.map_nil, List.flatMap_cons, List.flatMap_nil, List.length_append, List.length_cons, List.length_nil]
 omega
theorem tkKey_len (c i : ByteArray) : (tkKey c i).size ≤ 12 + 2 * c.size + 2 * i.size := by
 have := keyB_len2 (⟨#[116, 111, 107, 101, 110]⟩ : ByteArray) c i
 rw [show (⟨#[116, 111, 107, 101, 110]⟩ : ByteArray).size = 5 from rfl] at this
 unfold tkKey; omega
theorem tkOwn_len (o c i : ByteArray) : (tkOwn o c i).size ≤ 9 + 2 * o.size + 2 * c.size + 2 * i.size := by
 have := keyB_len3 (⟨#[111, 119, 110]⟩ : ByteArray) o c i
 rw [show (⟨#[111, 119, 110]⟩ : ByteArray).size = 3 from rfl] at this
 unfold tkOwn; omega
theorem tkKeep_KV {m : Nat} {cur : List S82} (h : KV m cur) (c i u d o : ByteArray) : KV (m + 2) (tkKeep cur c i u d o) := (h.put _ _).put _ _
theorem tkMint_KV {m : Nat} {cur : List S82} (h : KV m cur) (c i u d o : ByteArray) : KV (m + 3) (tkMint cur c i u d o) := by
 unfold tkMint
 split
 ·exact bkSet_KV (tkKeep_KV h c i u d o) _ _
 ·exact h.mono (by omega)
theorem tkBurn3_KV {m : Nat} {cur : List S82} (h : KV m cur) (c i o : ByteArray) : KV m (tkBurn3 cur c i o) := ((h.del _).del _).del _
theorem tkBurn_KV {m : Nat} {cur : List S82} (h : KV m cur) (c i : ByteArray) : KV (m + 1) (tkBurn cur c i) := by
 unfold tkBurn
 split
 ·exact bkSet_KV (tkBurn3_KV h _ _ _) _ _
 ·exact h.mono (by omega)
theorem tkMove_KV {m : Nat} {cur : List S82} (h : KV m cur) (c i p : ByteArray) : KV (m + 2) (tkMove cur c i p) := by
 unfold tkMove
 split
 ·exact tkKeep_KV ((h.del _).del _) _ _ _ _ _
 ·exact h.mono (by omega)
theorem getK_has (cur : List S82) (key : ByteArray) : (getK cur key).2 = hasK cur key := by unfold getK; cases hasK cur key <;> rfl
theorem val3 (a b c : ByteArray) : valB [a, b, c] = textB a ++ (textB b ++ textB c) := by
 have e : (⟨#[]⟩ : ByteArray) ++ textB a = textB a := ba_ext ap3_
 show (((⟨#[]⟩ : ByteArray) ++ textB a) ++ textB b) ++ textB c = _
 rw [e]
 apply ba_ext
 rw [ba_append, ba_append, ba_append, ba_append, List.append_assoc]
theorem val3_len (a b c : ByteArray) : (valB [a, b, c]).size ≤ 27 + a.size + b.size + c.size := by
 have h1 := textB_len a
 have h2 := textB_len b
 have h3 := textB_len c
 rw [val3, ByteArray.size_append, ByteArray.size_append]; omega
theorem txt3_val (a b c : ByteArray) (ha : a.size ≤ 65536) (hb : b.size ≤ 65536) (hc : c.size ≤ 65536) : txt3 (valB [a, b, c]) = (a, b, c, 0) := by
 unfold txt3
 rw [val3, rText_textB a _ ha]
 dsimp only
 rw [rText_textB b _ hb]
 dsimp only
 rw [rText_textB0 c hc]
 dsimp only
 rw [show rDone (⟨#[]⟩ : ByteArray) 0 = 0 by simp [rDone, ByteArray.toList_eq]]
theorem tkSup_len (c : ByteArray) : (tkSup c).size ≤ 13 + 2 * c.size := by
 have h1 := hidL_len ((⟨#[115, 117, 112, 112, 108, 121]⟩ : ByteArray)).toList
 have h2 := hidL_len c.toList
 rw [← ba_size] at h1 h2
 have h3 : ((⟨#[115, 117, 112, 112, 108, 121]⟩ : ByteArray)).size = 6 := rfl
 unfold tkSup keyB keyL glue
 rw [ofL_size]
 simp only [List.map_cons, List.map_nil, List.flatMap_cons, List.flatMap_nil, List.length_append, List.length_cons, List.length_nil]
 omega
theorem tkKey_ev (c i : ByteArray) (hc : c.size ≤ 50000000) (hi : i.size ≤ 50000000) : ∃ k, token_key.f k c i = some (tkKey c i) := by
 obtain ⟨k, e⟩ := key_ev (⟨#[116, 111, 107, 101, 110]⟩ : ByteArray) [c, i] (by decide) (by simp) (by simpa using ⟨hc, hi⟩)
 exact ⟨k, by unfold token_key.f; rw [e]; rfl⟩
theorem tkMay_ev (c i : ByteArray) (hc : c.size ≤ 50000000) (hi : i.size ≤ 50000000) : ∃ k, token_may.f k c i = some (tkMay c i) := by
 obtain ⟨k, e⟩ := key_ev (⟨#[109, 97, 121]⟩ : ByteArray) [c, i] (by decide) (by simp) (by simpa using ⟨hc, hi⟩)
 exact ⟨k, by unfold token_may.f; rw [e]; rfl⟩
theorem tkOwn_ev (c i u d o : ByteArray) (hc : c.size ≤ 50000000) (hi : i.size ≤ 50000000) (ho : o.size ≤ 50000000) : ∃ k, token_own.f k c i u d o = some (tkOwn o c i) := by
 obtain ⟨k, e⟩ := key_ev (⟨#[111, 119, 110]⟩ : ByteArray) [o, c, i] (by decide) (by simp) (by simpa using ⟨ho, hc, hi⟩)
 exact ⟨k, by unfold token_own.f; rw [e]; rfl⟩
theorem tkValue_is (c i u d o : ByteArray) (hu : u.size ≤ 1000000) (hd : d.size ≤ 1000000) (ho : o.size ≤ 1000000) : token_value.f 4 c i u d o = some (valB [u, d, o]) := by
 have l1 := textB_len u
 have l2 := textB_len d
 have l3 := textB_len o
 have st : ∀ (k : Nat) (acc : ByteArray) (j : Nat) (s : ByteArray), j < 3 → rdOf ByteArray.empty [u, d, o] (j : Int) = s → acc.size + (textB s).size ≤ 9223372036854775807 → token_value.l0 (k + 1) acc [u, d, o] 3 (j : Int) = token_value.l0 k (acc ++ textB s) [u, d, o] 3 ((j + 1 : Nat) : Int) := fun k acc j s hj hr hz => by
  rw [token_value.l0, if_pos (by omega), if_pos (by omega), if_pos (by show (j : Int) < ((3 : Nat) : Int); omega), hr, wText_is, Option.bind_some, if_pos hz, w_one j (by omega)]
 have e0 : (⟨#[]⟩ : ByteArray).size = 0 := rfl
 unfold token_value.f
 rw [Option.bind_some]
 show token_value.l0 (3 + 1) (⟨#[]⟩ : ByteArray) [u, d, o] 3 ((0 : Nat) : Int) = _
 rw [st 3 _ 0 u (by omega) rfl (by omega), st 2 _ 1 d (by omega) rfl (by rw [ByteArray.size_append]; omega), st 1 _ 2 o (by omega) rfl (by rw [ByteArray.size_append, ByteArray.size_append]; omega), token_value.l0, if_neg (by decide)]
 rfl
theorem tkNamed_is (o : ByteArray) : token_named.f o = some (decide (¬ (o.size = 0 ∨ o.size > 512))) := by
 unfold token_named.f
 by_cases h : o.toList = ([] : List UInt8)
 ·have : o.size = 0 := by rw [ba_size, h]; rfl
  rw [if_pos h, decide_eq_false (by omega)]
 ·have : ¬ o.size = 0 := fun e => h (by rw [ba_size] at e; exact List.length_eq_zero_iff.1 e)
  rw [if_neg h]
  congr 1
  exact decide_eq_decide.2 (by omega)
theorem tk_counted {base g : Nat} {ok : Nat → Prop} {w0 : World} {cur : List S82} (id : ByteArray) (n : Int) {w : World} (h : JS base ok w0 g cur w) (hk1 : KV 1000000 cur) (hid : id.size ≤ 50000000) :
  Calls Tryz.prog 27 #[.pointer (some ⟨g, 0, none⟩), .string id, .int .i64 n] w fun e w' => e = .returned (.tuple #[]) ∧ JS base ok w0 g (bkSet cur (tkSup id) n) w' ∧ JK w w' := by
 obtain ⟨y1, hy1⟩ : ∃ y : List ByteArray, y = [id] := ⟨_, rfl⟩
 obtain ⟨k1, key1⟩ := key_ev (⟨#[115, 117, 112, 112, 108, 121]⟩ : ByteArray) y1 (by decide) (by rw [hy1]; simp) (by rw [hy1]; simpa using hid)
 have Ny1 := As_ hy1
 have HJ := As_ h
 have HK := As_ (JK.of_below (Below.refl w.heap.size w))
 clear h
 generalize hkey : keyB (⟨#[115, 117, 112, 112, 108, 121]⟩ : ByteArray) y1 = key at key1
 have ekey : tkSup id = key := by unfold tkSup; rw [← hy1]; exact hkey
 rw [ekey]
 clear hy1 hkey ekey
 obtain ⟨cur', hcur⟩ : ∃ c, bkSet cur key n = c := ⟨_, rfl⟩
 obtain ⟨er, hnum⟩ := bkNum_is n
 obtain ⟨V, hV⟩ : ∃ V, bkNum n = V := ⟨_, rfl⟩
 rw [hcur]
 rw [hV] at hnum
 unfold bkSet at hcur
 rw [hV] at hcur
 clear hV
 go_enter Tryz.func27, Tryz.ntmps27
 go_wp2_with (first | ((with_reducible refine gate_dst (N := 10) rfl ?_); (try (refine gate_guard (by rfl) ?_; dsimp only)); refine Kd.R_lit Kd.string _ 9 ?hg (N := 10) ?hd (xs := ([id] : List ByteArray)) (inner := [.string id]) (ok := fun _ => True) (okp := fun _ => True) ?hr ?hp (fun _ hk => hk) trivial (Below.refl _ _) (Nat.le_refl _) (by simp) ?_; (case hd => rfl); (case hg => rfl); (case hr => first | (go_simp; done) | (go_simp; rfl)); (case hp => exact (Reps.one (show Kd.M Kd.string _ _ _ id [.string id] from rfl) (Reps.none _ _))); intro vlit wy1 hlit hb hg_ hnew_; clear hg_ hnew_; rw [← Ny1.out] at hlit; obtain ⟨Ay1, cy1, el_⟩ := Kd.R_slice hlit; subst el_; have Ry1 := As_ hlit; clear hlit; replace HK := As_ (HK.out.trans (JK.of_below hb)); replace HJ := As_ (JS.below (base := base) (ok := ok) (w0 := w0) (g := g) (cur := cur) (jsG) hb); clear hb))
 refine (path_Join.calls k1 (⟨#[115, 117, 112, 112, 108, 121]⟩ : ByteArray) Ay1 cy1 y1 key _ (Kd.R_reads' Ry1.out).2.2 (Kd.R_reads' Ry1.out).2.1 key1).mono ?_
 rintro e w1 ⟨rfl, hb⟩
 replace HK := As_ (HK.out.trans (JK.of_below hb))
 replace HJ := As_ (JS.below (base := base) (ok := ok) (w0 := w0) (g := g) (cur := cur) (jsG) hb)
 clear hb
 clear Ry1 Ny1
 by_cases hz : n = 0
 ·subst hz
  rw [if_pos rfl] at hcur
  subst hcur
  go_wp2_with fail
  refine (js_del key HJ.out hk1).mono ?_
  rintro e w2 ⟨rfl, hj, hk⟩
  replace HK := As_ (HK.out.trans hk)
  replace HJ := As_ (hj)
  clear hj hk
  go_wp2
  first | go_end0 | refine bodyPost_ret (results_none rfl _ _ _) rfl ?_
  exact ⟨rfl, HJ.out, HK.out⟩
 ·rw [if_neg hz] at hcur
  subst hcur
  go_wp2_with fail
  refine (wire_Num.calls n V er _ hnum).mono ?_
  rintro e w2 ⟨rfl, hb⟩
  replace HK := As_ (HK.out.trans (JK.of_below hb))
  replace HJ := As_ (JS.below (base := base) (ok := ok) (w0 := w0) (g := g) (cur := cur) (jsG) hb)
  clear hb
  go_wp2_with fail
  refine (js_set key V HJ.out hk1).mono ?_
  rintro e w3 ⟨rfl, hj, hk⟩
  replace HK := As_ (HK.out.trans hk)
  replace HJ := As_ (hj)
  clear hj hk
  go_wp2
  first | go_end0 | refine bodyPost_ret (results_none rfl _ _ _) rfl ?_
  exact ⟨rfl, HJ.out, HK.out⟩
theorem tk_get {base g : Nat} {ok : Nat → Prop} {w0 : World} {cur : List S82} (c i : ByteArray) (x0 x1 x2 x3 x4 : ByteArray) (x5 : Int) {w : World} (h : JS base ok w0 g cur w) (hk : KV 1000000 cur) (hc : c.size ≤ 50000000) (hi : i.size ≤ 50000000) (hres : tkGet cur c i = (x0, x1, x2, x3, x4, x5)) :
  Calls Tryz.prog 6 #[.pointer (some ⟨g, 0, none⟩), .string c, .string i] w fun e w' => e = .returned (.tuple #[.agg #[.string x0, .string x1, .string x2, .string x3, .string x4], .int .i64 x5]) ∧ Below w.heap.size w w' := by
 obtain ⟨k1, key1⟩ := tkKey_ev c i hc hi
 have HJ := As_ h
 have HB := As_ (Below.refl w.heap.size w)
 clear h
 unfold tkGet at hres
 generalize tkKey c i = key at key1 hres
 have hvs := hk.get key
 obtain ⟨v, hv⟩ : ∃ v, (getK cur key).1 = v := ⟨_, rfl⟩
 obtain ⟨b, hb0⟩ : ∃ b, hasK cur key = b := ⟨_, rfl⟩
 unfold txt3 at hres
 rw [hv] at hvs
 rw [hv, hb0] at hres
 obtain ⟨t1, s1, e1, hq1⟩ : ∃ a b c, rText v 0 = (a, b, c) := ⟨_, _, _, rfl⟩
 obtain ⟨t2, s2, e2, hq2⟩ : ∃ a b c, rText s1 e1 = (a, b, c) := ⟨_, _, _, rfl⟩
 obtain ⟨t3, s3, e3, hq3⟩ : ∃ a b c, rText s2 e2 = (a, b, c) := ⟨_, _, _, rfl⟩
 have hz1 := rText_sz v 0
 have hz2 := rText_sz s1 e1
 rw [hq1] at hz1
 rw [hq2] at hz2
 dsimp only at hz1 hz2
 have hT1 : wire_Reader_Text.f v 0 = some (t1, s1, e1) := by rw [rText_is _ _ (by omega), hq1]
 have hT2 : wire_Reader_Text.f s1 e1 = some (t2, s2, e2) := by rw [rText_is _ _ (by omega), hq2]
 have hT3 : wire_Reader_Text.f s2 e2 = some (t3, s3, e3) := by rw [rText_is _ _ (by omega), hq3]
 rw [hq1] at hres
 dsimp only at hres
 rw [hq2] at hres
 dsimp only at hres
 rw [hq3] at hres
 dsimp only at hres
 clear hq1 hq2 hq3 hz1 hz2
 go_enter Tryz.func6, Tryz.ntmps6
 go_wp2_with (first | ((with_reducible refine gate_dst (N := 6) rfl ?_); refine bxE (N := 6) (cs := #[.string ⟨#[]⟩, .string ⟨#[]⟩, .string ⟨#[]⟩, .string ⟨#[]⟩, .string ⟨#[]⟩]) (t := 23) ?_; intro gbq hg wq hbox hb; have GEq := As_ ((by rw [hg]; exact (below_size (blwG)) : w.heap.size ≤ gbq)); have GJq := As_ ((by rw [hg]; exact JS.size0 (base := base) (ok := ok) (w0 := w0) (g := g) (cur := cur) (jsG) : w0.heap.size ≤ gbq)); replace HB := As_ (below_step (blwG) hb); replace HJ := As_ (JS.below (base := base) (ok := ok) (w0 := w0) (g := g) (cur := cur) (jsG) hb); have BKq := As_ hbox; clear hb hbox hg; obtain ⟨zq_0, fq_0, zq_1, fq_1, zq_2, fq_2, zq_3, fq_3, zq_4, fq_4⟩ := cellsN5 BKq.out))
 refine (token_key.calls k1 c i key _ key1).mono ?_
 rintro e w1 ⟨rfl, hb⟩
 replace HB := As_ (below_step (blwG) hb)
 replace HJ := As_ (JS.below (base := base) (ok := ok) (w0 := w0) (g := g) (cur := cur) (jsG) hb)
 replace BKq := As_ (blk_below (g := gbq) (o := .cells #[.string ⟨#[]⟩, .string ⟨#[]⟩, .string ⟨#[]⟩, .string ⟨#[]⟩, .string ⟨#[]⟩] 23 (0, 0)) (bkG_q) hb)
 clear hb
 go_wp2_with fail
 refine (js_get key v b HJ.out hk hv hb0).mono ?_
 rintro e w2 ⟨rfl, hb⟩
 replace HB := As_ (below_step (blwG) hb)
 replace HJ := As_ (JS.below (base := base) (ok := ok) (w0 := w0) (g := g) (cur := cur) (jsG) hb)
 replace BKq := As_ (blk_below (g := gbq) (o := .cells #[.string ⟨#[]⟩, .string ⟨#[]⟩, .string ⟨#[]⟩, .string ⟨#[]⟩, .string ⟨#[]⟩] 23 (0, 0)) (bkG_q) hb)
 clear hb
 go_wp2_with fail
 refine (wire_New.calls v v 0 w _ (blwG) rfl).mono ?_
 rintro e w_1 ⟨grr, rfl, hI, _, hb⟩
 replace HB := As_ (below_step (blwG) hb)
 replace BKq := As_ (blk_below (g := gbq) (o := .cells #[.string ⟨#[]⟩, .string ⟨#[]⟩, .string ⟨#[]⟩, .string ⟨#[]⟩, .string ⟨#[]⟩] 23 (0, 0)) (bkG_q) hb)
 clear hb
 have HIr := As_ hI
 clear hI
 have NRr_q := As_ (IsS88.ne_blk HIr.out BKq.out (by decide) : grr ≠ gbq)
 go_wp2_with fail
 refine (wire_Reader_Text.calls grr v 0 _ _ _ w _ (rdG_r) (blwG) hT1).mono ?_
 rintro e w_2 ⟨rfl, hI, hB, hK⟩
 replace HB := As_ (hB)
 replace HIr := As_ (hI)
 replace BKq := As_ (KeepBut.blk (g' := gbq) hK (o := .cells #[.string ⟨#[]⟩, .string ⟨#[]⟩, .string ⟨#[]⟩, .string ⟨#[]⟩, .string ⟨#[]⟩] 23 (0, 0)) (bkG_q) NRr_q.out.symm (by simp))
 clear hI hB hK
 go_wp2_with fail
 refine (wire_Reader_Text.calls grr s1 e1 _ _ _ w _ (rdG_r) (blwG) hT2).mono ?_
 rintro e w_3 ⟨rfl, hI, hB, hK⟩
 replace HB := As_ (hB)
 replace HIr := As_ (hI)
 replace BKq := As_ (KeepBut.blk (g' := gbq) hK (o := .cells #[.string ⟨#[]⟩, .string ⟨#[]⟩, .string ⟨#[]⟩, .string ⟨#[]⟩, .string ⟨#[]⟩] 23 (0, 0)) (bkG_q) NRr_q.out.symm (by simp))
 clear hI hB hK
 go_wp2_with fail
 refine (wire_Reader_Text.calls grr s2 e2 _ _ _ w _ (rdG_r) (blwG) hT3).mono ?_
 rintro e w_4 ⟨rfl, hI, hB, hK⟩
 replace HB := As_ (hB)
 replace HIr := As_ (hI)
 replace BKq := As_ (KeepBut.blk (g' := gbq) hK (o := .cells #[.string ⟨#[]⟩, .string ⟨#[]⟩, .string ⟨#[]⟩, .string ⟨#[]⟩, .string ⟨#[]⟩] 23 (0, 0)) (bkG_q) NRr_q.out.symm (by simp))
 clear hI hB hK
 cases b with
 | false =>
  rw [if_neg (by simp)] at hres
  simp only [Prod.mk.injEq] at hres
  obtain ⟨rfl, rfl, rfl, rfl, rfl, rfl⟩ := hres
  go_wp2_with (first | ((with_reducible refine gate_dst (N := 11) rfl ?_); refine bxE (N := 11) (cs := #[.string ⟨#[]⟩, .string ⟨#[]⟩, .string ⟨#[]⟩, .string ⟨#[]⟩, .string ⟨#[]⟩]) (t := 23) ?_; intro gbc hg wc hbox hb; have GEc := As_ ((by rw [hg]; exact (below_size (blwG)) : w.heap.size ≤ gbc)); have NBq_c := As_ ((by rw [hg]; exact Nat.ne_of_lt (blk_lt (g := gbq) (o := .cells #[.string ⟨#[]⟩, .string ⟨#[]⟩, .string ⟨#[]⟩, .string ⟨#[]⟩, .string ⟨#[]⟩] 23 (0, 0)) (bkG_q)) : gbq ≠ gbc)); have NBc_q := As_ ((by rw [hg]; exact Nat.ne_of_gt (blk_lt (g := gbq) (o := .cells #[.string ⟨#[]⟩, .string ⟨#[]⟩, .string ⟨#[]⟩, .string ⟨#[]⟩, .string ⟨#[]⟩] 23 (0, 0)) (bkG_q)) : gbc ≠ gbq)); replace HB := As_ (below_step (blwG) hb); replace BKq := As_ (blk_below (g := gbq) (o := .cells #[.string ⟨#[]⟩, .string ⟨#[]⟩, .string ⟨#[]⟩, .string ⟨#[]⟩, .string ⟨#[]⟩] 23 (0, 0)) (bkG_q) hb); replace HIr := As_ (IsS88.below (rdG_r) hb); have BKc := As_ hbox; have NRr_c := As_ (IsS88.ne_blk HIr.out hbox (by decide) : grr ≠ gbc); clear hb hbox hg; obtain ⟨zc_0, fc_0, zc_1, fc_1, zc_2, fc_2, zc_3, fc_3, zc_4, fc_4⟩ := cellsN5 BKc.out; have hncq := NBc_q.out; have hmcq := NBq_c.out; obtain ⟨zq_0, fq_0, zq_1, fq_1, zq_2, fq_2, zq_3, fq_3, zq_4, fq_4⟩ := cellsN5 BKq.out; have hnqc := NBq_c.out; have hmqc := NBc_q.out))
  refine bodyPost_ret (results_ct rfl _ _ gbq 23 #[.string ⟨#[]⟩, .string ⟨#[]⟩, .string ⟨#[]⟩, .string ⟨#[]⟩, .string ⟨#[]⟩] (0, 0) _ rfl (bkG_q) Tryz.underlying23 rfl (by kernel_rfl)) rfl ?_
  exact ⟨by first | rfl | trivial, blwG⟩
 | true =>
  go_wp2_with (first | ((with_reducible refine gate_dst (N := 11) rfl ?_); refine bxE (N := 11) (cs := #[.string ⟨#[]⟩, .string ⟨#[]⟩, .string ⟨#[]⟩, .string ⟨#[]⟩, .string ⟨#[]⟩]) (t := 23) ?_; intro gbc hg wc hbox hb; have GEc := As_ ((by rw [hg]; exact (below_size (blwG)) : w.heap.size ≤ gbc)); have NBq_c := As_ ((by rw [hg]; exact Nat.ne_of_lt (blk_lt (g := gbq) (o := .cells #[.string ⟨#[]⟩, .string ⟨#[]⟩, .string ⟨#[]⟩, .string ⟨#[]⟩, .string ⟨#[]⟩] 23 (0, 0)) (bkG_q)) : gbq ≠ gbc)); have NBc_q := As_ ((by rw [hg]; exact Nat.ne_of_gt (blk_lt (g := gbq) (o := .cells #[.string ⟨#[]⟩, .string ⟨#[]⟩, .string ⟨#[]⟩, .string ⟨#[]⟩, .string ⟨#[]⟩] 23 (0, 0)) (bkG_q)) : gbc ≠ gbq)); replace HB := As_ (below_step (blwG) hb); replace BKq := As_ (blk_below (g := gbq) (o := .cells #[.string ⟨#[]⟩, .string ⟨#[]⟩, .string ⟨#[]⟩, .string ⟨#[]⟩, .string ⟨#[]⟩] 23 (0, 0)) (bkG_q) hb); replace HIr := As_ (IsS88.below (rdG_r) hb); have BKc := As_ hbox; have NRr_c := As_ (IsS88.ne_blk HIr.out hbox (by decide) : grr ≠ gbc); clear hb hbox hg; obtain ⟨zc_0, fc_0, zc_1, fc_1, zc_2, fc_2, zc_3, fc_3, zc_4, fc_4⟩ := cellsN5 BKc.out; have hncq := NBc_q.out; have hmcq := NBq_c.out; obtain ⟨zq_0, fq_0, zq_1, fq_1, zq_2, fq_2, zq_3, fq_3, zq_4, fq_4⟩ := cellsN5 BKq.out; have hnqc := NBq_c.out; have hmqc := NBc_q.out))
  refine (wire_Reader_Done.calls grr s3 e3 _ _ _ w _ (rdG_r) (blwG) (rDone_is s3 e3)).mono ?_
  rintro e w_5 ⟨rfl, hI, hB, hK⟩
  replace HB := As_ (hB)
  replace HIr := As_ (hI)
  replace BKq := As_ (KeepBut.blk (g' := gbq) hK (o := .cells #[.string ⟨#[]⟩, .string ⟨#[]⟩, .string ⟨#[]⟩, .string ⟨#[]⟩, .string ⟨#[]⟩] 23 (0, 0)) (bkG_q) NRr_q.out.symm (by simp))
  replace BKc := As_ (KeepBut.blk (g' := gbc) hK (o := .cells #[.string c, .string i, .string t1, .string t2, .string t3] 23 (0, 0)) (bkG_c) NRr_c.out.symm (by simp))
  clear hI hB hK
  by_cases hd : rDone s3 e3 = 0
  ·replace hres : (c, i, t1, t2, t3, (0 : Int)) = (x0, x1, x2, x3, x4, x5) := by simpa [hd] using hres
   simp only [Prod.mk.injEq] at hres
   obtain ⟨rfl, rfl, rfl, rfl, rfl, rfl⟩ := hres
   obtain ⟨zq_0, fq_0, zq_1, fq_1, zq_2, fq_2, zq_3, fq_3, zq_4, fq_4⟩ := cellsN5 BKq.out
   have hnqc := NBq_c.out
   have hmqc := NBc_q.out
   obtain ⟨zc_0, fc_0, zc_1, fc_1, zc_2, fc_2, zc_3, fc_3, zc_4, fc_4⟩ := cellsN5 BKc.out
   have hncq := NBc_q.out
   have hmcq := NBq_c.out
   go_wp2
   refine bodyPost_ret (results_ct rfl _ _ gbq 23 #[.string c, .string i, .string t1, .string t2, .string t3] (0, 0) _ rfl (bkG_q) Tryz.underlying23 rfl (by kernel_rfl)) rfl ?_
   exact ⟨by first | rfl | trivial, blwG⟩
  ·replace hres : ((⟨#[]⟩ : ByteArray), (⟨#[]⟩ : ByteArray), (⟨#[]⟩ : ByteArray), (⟨#[]⟩ : ByteArray), (⟨#[]⟩ : ByteArray), (8 : Int)) = (x0, x1, x2, x3, x4, x5) := by simpa [hd] using hres
   simp only [Prod.mk.injEq] at hres
   obtain ⟨rfl, rfl, rfl, rfl, rfl, rfl⟩ := hres
   obtain ⟨zq_0, fq_0, zq_1, fq_1, zq_2, fq_2, zq_3, fq_3, zq_4, fq_4⟩ := cellsN5 BKq.out
   have hnqc := NBq_c.out
   have hmqc := NBc_q.out
   obtain ⟨zc_0, fc_0, zc_1, fc_1, zc_2, fc_2, zc_3, fc_3, zc_4, fc_4⟩ := cellsN5 BKc.out
   have hncq := NBc_q.out
   have hmcq := NBq_c.out
   go_wp2
   refine bodyPost_ret (results_ct rfl _ _ gbq 23 #[.string ⟨#[]⟩, .string ⟨#[]⟩, .string ⟨#[]⟩, .string ⟨#[]⟩, .string ⟨#[]⟩] (0, 0) _ rfl (bkG_q) Tryz.underlying23 rfl (by kernel_rfl)) rfl ?_
   exact ⟨by first | rfl | trivial, blwG⟩
theorem tk_keep {base g : Nat} {ok : Nat → Prop} {w0 : World} {cur : List S82} (c i u d o : ByteArray) {w : World} (h : JS base ok w0 g cur w) (hk1 : KV 900000 cur) (hc : c.size ≤ 50000000) (hi : i.size ≤ 50000000) (hu : u.size ≤ 1000000) (hd : d.size ≤ 1000000) (ho : o.size ≤ 1000000) :
  Calls Tryz.prog 28 #[.pointer (some ⟨g, 0, none⟩), .agg #[.string c, .string i, .string u, .string d, .string o]] w fun e w' => e = .returned (.tuple #[]) ∧ JS base ok w0 g (tkKeep cur c i u d o) w' ∧ JK w w' := by
 obtain ⟨k1, key1⟩ := tkKey_ev c i hc hi
 obtain ⟨k2, key2⟩ := tkOwn_ev c i u d o hc hi (Nat.le_trans ho (by decide))
 have key3 := tkValue_is c i u d o hu hd ho
 obtain ⟨cur', hcur⟩ : ∃ z, tkKeep cur c i u d o = z := ⟨_, rfl⟩
 rw [hcur]
 unfold tkKeep at hcur
 generalize tkKey c i = kA at key1 hcur
 generalize tkOwn o c i = kB at key2 hcur
 generalize valB [u, d, o] = V at key3 hcur
 have hk2 := hk1.mono (show 900000 ≤ 1000000 by omega)
 have hkA := (hk1.put kA V).mono (show 900001 ≤ 1000000 by omega)
 have HJ := As_ h
 have HK := As_ (JK.of_below (Below.refl w.heap.size w))
 clear h hu hd ho hc hi
 obtain ⟨cA, hcA⟩ : ∃ z, setC cur kA V = z := ⟨_, rfl⟩
 rw [hcA] at hcur hkA
 have HC := As_ hcA
 clear hcA
 go_enter Tryz.func28, Tryz.ntmps28
 go_upto_region 1 with (first | ((with_reducible refine gate_dst (N := 3) rfl ?_); refine bxE (N := 3) (cs := #[.string c, .string i, .string u, .string d, .string o]) (t := 23) ?_; intro gbt hg wt hbox hb; have GKt := As_ ((by rw [hg]; exact JK.size (jkG) : w.heap.size ≤ gbt)); have GJt := As_ ((by rw [hg]; exact JS.size0 (base := base) (ok := ok) (w0 := w0) (g := g) (cur := cur) (jsG) : w0.heap.size ≤ gbt)); replace HK := As_ (HK.out.trans (JK.of_below hb)); replace HJ := As_ (JS.below (base := base) (ok := ok) (w0 := w0) (g := g) (cur := cur) (jsG) hb); have BKt := As_ hbox; clear hb hbox hg; obtain ⟨zt_0, ft_0, zt_1, ft_1, zt_2, ft_2, zt_3, ft_3, zt_4, ft_4⟩ := cellsN5 BKt.out))
 refine start_ (n := 9) (S := fun w' => HeldC gbt #[.string c, .string i, .string u, .string d, .string o] 23 w') (ds := []) #[false, false, false, false, false, false, false, false, false] (by kernel_rfl) rfl rfl (HeldC.of (bkG_t)) (fun hHeld => ?_)
 have n_HJ := at_world hHeld (F := fun Y => JS base ok w0 g cur Y) (jsG)
 have n_HK := at_world hHeld (F := fun Y => JK w Y) (jkG)
 have n_BKt := at_world hHeld (F := fun Y => Y.heap[gbt]? = some (.cells #[.string c, .string i, .string u, .string d, .string o] 23 (0, 0))) (bkG_t)
 clear HJ HK BKt
 have HJ := n_HJ
 have HK := n_HK
 have BKt := n_BKt
 clear n_HJ n_HK n_BKt
 refine pure_ (i := 0) (N := some 4) #[true, false, false, false, false, false, false, false, false] rfl rfl (by kernel_rfl) (fun _ _ _ h => h) (Or.inl ⟨by rfl, ap2_⟩) ap35_ ?_
 refine pure_ (i := 1) (N := some 5) #[true, true, false, false, false, false, false, false, false] rfl rfl (by kernel_rfl) (fun _ _ _ h => h) (Or.inl ⟨by rfl, ap2_⟩) ap35_ ?_
 refine take_ (i := 2) (N := some 6) #[true, true, true, false, false, false, false, false, false] rfl rfl (by kernel_rfl) (fun _ _ _ h => h) (Or.inl ⟨by rfl, (by rintro w' s0; have t0_0 : w'.cell? ⟨gbt, 0, none⟩ = some (.string c) := (blk_cell (HeldC.blk s0) 0).trans rfl; have t0_1 : w'.cell? ⟨gbt, 1, none⟩ = some (.string i) := (blk_cell (HeldC.blk s0) 1).trans rfl; have t0_2 : w'.cell? ⟨gbt, 2, none⟩ = some (.string u) := (blk_cell (HeldC.blk s0) 2).trans rfl; have t0_3 : w'.cell? ⟨gbt, 3, none⟩ = some (.string d) := (blk_cell (HeldC.blk s0) 3).trans rfl; have t0_4 : w'.cell? ⟨gbt, 4, none⟩ = some (.string o) := (blk_cell (HeldC.blk s0) 4).trans rfl; go_simp; with_reducible rfl)⟩) hHeld ap35_ ?_
 refine pure_ (i := 3) (N := some 7) #[true, true, true, true, false, false, false, false, false] rfl rfl (by kernel_rfl) (fun _ _ _ h => h) (Or.inl ⟨by rfl, ap2_⟩) ap35_ ?_
 refine take_ (i := 4) (N := some 8) #[true, true, true, true, true, false, false, false, false] rfl rfl (by kernel_rfl) (fun _ _ _ h => h) (Or.inl ⟨by rfl, (by rintro w' s0; have t0_0 : w'.cell? ⟨gbt, 0, none⟩ = some (.string c) := (blk_cell (HeldC.blk s0) 0).trans rfl; have t0_1 : w'.cell? ⟨gbt, 1, none⟩ = some (.string i) := (blk_cell (HeldC.blk s0) 1).trans rfl; have t0_2 : w'.cell? ⟨gbt, 2, none⟩ = some (.string u) := (blk_cell (HeldC.blk s0) 2).trans rfl; have t0_3 : w'.cell? ⟨gbt, 3, none⟩ = some (.string d) := (blk_cell (HeldC.blk s0) 3).trans rfl; have t0_4 : w'.cell? ⟨gbt, 4, none⟩ = some (.string o) := (blk_cell (HeldC.blk s0) 4).trans rfl; go_simp; with_reducible rfl)⟩) hHeld ap35_ ?_
 refine take_ (i := 6) (N := some 10) #[true, true, true, true, true, false, true, false, false] rfl rfl (by kernel_rfl) (fun _ _ _ h => h) (Or.inl ⟨by rfl, (by rintro w' s0; have t0_0 : w'.cell? ⟨gbt, 0, none⟩ = some (.string c) := (blk_cell (HeldC.blk s0) 0).trans rfl; have t0_1 : w'.cell? ⟨gbt, 1, none⟩ = some (.string i) := (blk_cell (HeldC.blk s0) 1).trans rfl; have t0_2 : w'.cell? ⟨gbt, 2, none⟩ = some (.string u) := (blk_cell (HeldC.blk s0) 2).trans rfl; have t0_3 : w'.cell? ⟨gbt, 3, none⟩ = some (.string d) := (blk_cell (HeldC.blk s0) 3).trans rfl; have t0_4 : w'.cell? ⟨gbt, 4, none⟩ = some (.string o) := (blk_cell (HeldC.blk s0) 4).trans rfl; go_simp; with_reducible rfl)⟩) hHeld ap35_ ?_
 refine one_ (i := 5) (N := some 9) #[true, true, true, true, true, true, true, false, false] rfl rfl (by kernel_rfl) (by decide) (fun K hK => ?_)
 refine goes_ Tryz.func21 (by kernel_rfl) rfl #[.string c, .string i] (by rfl) rfl rfl ap16_ ?_
 refine (token_key.calls k1 c i kA _ key1).mono ?_
 rintro e w1 ⟨rfl, hb⟩
 refine ⟨_, rfl, ?_⟩
 replace HK := As_ (HK.out.trans (JK.of_below hb))
 replace HJ := As_ (JS.below (base := base) (ok := ok) (w0 := w0) (g := g) (cur := cur) (jsG) hb)
 replace BKt := As_ (blk_below (g := gbt) (o := .cells #[.string c, .string i, .string u, .string d, .string o] 23 (0, 0)) (bkG_t) hb)
 clear hb
 refine hK.out _ _ (HeldC.of BKt.out) (fun hHeld => ?_)
 clear hK K
 refine norm_ (a' := ?_) ?_ ?_
 rotate_left
 ·show Act.put _ (some 9) _ = _
  simp only [Act.put, List.setIfInBounds_toArray, List.set_cons_zero, List.set_cons_succ, i64_w, i32_w]
  rfl
 refine one_ (i := 7) (N := some 11) #[true, true, true, true, true, true, true, true, false] rfl rfl (by kernel_rfl) (by decide) (fun K hK => ?_)
 refine goes_ Tryz.func58 (by kernel_rfl) rfl #[.agg #[.string c, .string i, .string u, .string d, .string o]] (by rfl) rfl rfl ap16_ ?_
 refine (token_value.calls 4 c i u d o V _ key3).mono ?_
 rintro e w2 ⟨rfl, hb⟩
 refine ⟨_, rfl, ?_⟩
 replace HK := As_ (HK.out.trans (JK.of_below hb))
 replace HJ := As_ (JS.below (base := base) (ok := ok) (w0 := w0) (g := g) (cur := cur) (jsG) hb)
 replace BKt := As_ (blk_below (g := gbt) (o := .cells #[.string c, .string i, .string u, .string d, .string o] 23 (0, 0)) (bkG_t) hb)
 clear hb
 refine hK.out _ _ (HeldC.of BKt.out) (fun hHeld => ?_)
 clear hK K
 refine norm_ (a' := ?_) ?_ ?_
 rotate_left
 ·show Act.put _ (some 11) _ = _
  simp only [Act.put, List.setIfInBounds_toArray, List.set_cons_zero, List.set_cons_succ, i64_w, i32_w]
  rfl
 refine one_ (i := 8) (N := some 12) #[true, true, true, true, true, true, true, true, true] rfl rfl (by kernel_rfl) (by decide) (fun K hK => ?_)
 refine goes_ Tryz.func57 (by kernel_rfl) rfl #[.pointer (some ⟨g, 0, none⟩), .string kA, .string V] (by rfl) rfl rfl ap16_ ?_
 refine (js_set kA V HJ.out hk2).mono ?_
 rintro e w3 ⟨rfl, hj, hk⟩
 rw [HC.out] at hj
 refine ⟨_, rfl, ?_⟩
 replace HK := As_ (HK.out.trans hk)
 replace HJ := As_ (hj)
 replace BKt := As_ (JK.blk (b := gbt) (c := #[.string c, .string i, .string u, .string d, .string o]) (q := 23) (x := (0, 0)) hk (bkG_t) (by decide))
 clear hj hk
 refine hK.out _ _ (HeldC.of BKt.out) (fun hHeld => ?_)
 clear hK K
 refine norm_ (a' := ?_) ?_ ?_
 rotate_left
 ·show Act.put _ (some 12) _ = _
  simp only [Act.put, List.setIfInBounds_toArray, List.set_cons_zero, List.set_cons_succ, i64_w, i32_w]
  rfl
 refine done_ (by kernel_rfl) ?_
 clear hHeld
 obtain ⟨zt_0, ft_0, zt_1, ft_1, zt_2, ft_2, zt_3, ft_3, zt_4, ft_4⟩ := cellsN5 BKt.out
 go_wp2_with fail
 refine (token_own.calls k2 c i u d o kB _ key2).mono ?_
 rintro e w4 ⟨rfl, hb⟩
 replace HK := As_ (HK.out.trans (JK.of_below hb))
 replace HJ := As_ (JS.below (base := base) (ok := ok) (w0 := w0) (g := g) (cur := cA) (jsG) hb)
 replace BKt := As_ (blk_below (g := gbt) (o := .cells #[.string c, .string i, .string u, .string d, .string o] 23 (0, 0)) (bkG_t) hb)
 clear hb
 go_wp2_with fail
 refine (js_set kB (⟨#[1]⟩ : ByteArray) HJ.out hkA).mono ?_
 rintro e w5 ⟨rfl, hj, hk⟩
 rw [hcur] at hj
 replace HK := As_ (HK.out.trans hk)
 replace HJ := As_ (hj)
 replace BKt := As_ (JK.blk (b := gbt) (c := #[.string c, .string i, .string u, .string d, .string o]) (q := 23) (x := (0, 0)) hk (bkG_t) (by decide))
 clear hj hk
 go_wp2
 first | go_end0 | refine bodyPost_ret (results_none rfl _ _ _) rfl ?_
 exact ⟨rfl, HJ.out, HK.out⟩
theorem tk_check {base g : Nat} {ok : Nat → Prop} {w0 : World} {cur : List S82} (c i u d o : ByteArray) (x : Int) {w : World} (h : JS base ok w0 g cur w) (hk : KV 1000000 cur) (hc : c.size ≤ 50000) (hi : i.size ≤ 50000) (hx : tkMintE cur c i u d o = x) :
  Calls Tryz.prog 25 #[.pointer (some ⟨g, 0, none⟩), .agg #[.string c, .string i, .string u, .string d, .string o]] w fun e w' => e = .returned (.int .i64 x) ∧ Below w.heap.size w w' := by
 obtain ⟨k1, key1⟩ := tkKey_ev c i (Nat.le_trans hc (by decide)) (Nat.le_trans hi (by decide))
 have hid : c.size ≤ 50000000 := Nat.le_trans hc (by decide)
 obtain ⟨G0, G1, G2, G3, GE, hG⟩ : ∃ a0 a1 a2 a3 a4, clGet cur c = (a0, a1, a2, a3, a4) := ⟨_, _, _, _, _, rfl⟩
 obtain ⟨K0, c0⟩ := nm_check_ev 5 i (Nat.le_trans hi (by decide))
 generalize hn0 : nm_checkSpec 5 i = n0 at c0
 replace c0 : names_Check.f K0 5 i = some n0 := c0 K0 (Nat.le_refl _)
 have hnm := tkNamed_is o
 unfold tkMintE at hx
 rw [hG, hn0] at hx
 dsimp only at hx
 clear hn0
 generalize tkKey c i = key at key1 hx
 obtain ⟨v, hv⟩ : ∃ v, (getK cur key).1 = v := ⟨_, rfl⟩
 obtain ⟨b, hb0⟩ : ∃ b, hasK cur key = b := ⟨_, rfl⟩
 rw [hb0] at hx
 obtain ⟨nb, hnb⟩ : ∃ z, decide (¬ (o.size = 0 ∨ o.size > 512)) = z := ⟨_, rfl⟩
 rw [hnb] at hnm
 have AG := As_ hG
 have HJ := As_ h
 have HB := As_ (Below.refl w.heap.size w)
 clear h hG hc hi
 go_enter Tryz.func25, Tryz.ntmps25
 go_wp2_with (first | ((with_reducible refine gate_dst (N := 3) rfl ?_); refine bxE (N := 3) (cs := #[.string c, .string i, .string u, .string d, .string o]) (t := 23) ?_; intro gbt hg wt hbox hb; have GEt := As_ ((by rw [hg]; exact (below_size (blwG)) : w.heap.size ≤ gbt)); have GJt := As_ ((by rw [hg]; exact JS.size0 (base := base) (ok := ok) (w0 := w0) (g := g) (cur := cur) (jsG) : w0.heap.size ≤ gbt)); replace HB := As_ (below_step (blwG) hb); replace HJ := As_ (JS.below (base := base) (ok := ok) (w0 := w0) (g := g) (cur := cur) (jsG) hb); have BKt := As_ hbox; clear hb hbox hg; obtain ⟨zt_0, ft_0, zt_1, ft_1, zt_2, ft_2, zt_3, ft_3, zt_4, ft_4⟩ := cellsN5 BKt.out; obtain ⟨zt_0, ft_0, zt_1, ft_1, zt_2, ft_2, zt_3, ft_3, zt_4, ft_4⟩ := cellsN5 BKt.out))
 refine (cl_get c G0 G1 G2 G3 GE HJ.out hk hid AG.out).mono ?_
 rintro e w1 ⟨rfl, hb⟩
 replace HB := As_ (below_step (blwG) hb)
 replace HJ := As_ (JS.below (base := base) (ok := ok) (w0 := w0) (g := g) (cur := cur) (jsG) hb)
 replace BKt := As_ (blk_below (g := gbt) (o := .cells #[.string c, .string i, .string u, .string d, .string o] 23 (0, 0)) (bkG_t) hb)
 clear hb
 obtain ⟨zt_0, ft_0, zt_1, ft_1, zt_2, ft_2, zt_3, ft_3, zt_4, ft_4⟩ := cellsN5 BKt.out
 by_cases z0 : GE = 0
 ·rw [if_neg (fun e => e z0)] at hx
  subst z0
  go_wp2_with (first | ((with_reducible refine gate_dst (N := 5) rfl ?_); refine bxE (N := 5) (cs := #[.string ⟨#[]⟩, .string ⟨#[]⟩, .string ⟨#[]⟩, .string ⟨#[]⟩]) (t := 66) ?_; intro gbq hg wq hbox hb; have GEq := As_ ((by rw [hg]; exact (below_size (blwG)) : w.heap.size ≤ gbq)); have GJq := As_ ((by rw [hg]; exact JS.size0 (base := base) (ok := ok) (w0 := w0) (g := g) (cur := cur) (jsG) : w0.heap.size ≤ gbq)); have NBt_q := As_ ((by rw [hg]; exact Nat.ne_of_lt (blk_lt (g := gbt) (o := .cells #[.string c, .string i, .string u, .string d, .string o] 23 (0, 0)) (bkG_t)) : gbt ≠ gbq)); have NBq_t := As_ ((by rw [hg]; exact Nat.ne_of_gt (blk_lt (g := gbt) (o := .cells #[.string c, .string i, .string u, .string d, .string o] 23 (0, 0)) (bkG_t)) : gbq ≠ gbt)); replace HB := As_ (below_step (blwG) hb); replace HJ := As_ (JS.below (base := base) (ok := ok) (w0 := w0) (g := g) (cur := cur) (jsG) hb); replace BKt := As_ (blk_below (g := gbt) (o := .cells #[.string c, .string i, .string u, .string d, .string o] 23 (0, 0)) (bkG_t) hb); have BKq := As_ hbox; clear hb hbox hg; obtain ⟨zq_0, fq_0, zq_1, fq_1, zq_2, fq_2, zq_3, fq_3⟩ := cellsN4 BKq.out; have hnqt := NBq_t.out; have hmqt := NBt_q.out; obtain ⟨zt_0, ft_0, zt_1, ft_1, zt_2, ft_2, zt_3, ft_3, zt_4, ft_4⟩ := cellsN5 BKt.out; have hntq := NBt_q.out; have hmtq := NBq_t.out; obtain ⟨zq_0, fq_0, zq_1, fq_1, zq_2, fq_2, zq_3, fq_3⟩ := cellsN4 BKq.out; have hnqt := NBq_t.out; have hmqt := NBt_q.out))
  refine (token_key.calls k1 c i key _ key1).mono ?_
  rintro e w2 ⟨rfl, hb⟩
  replace HB := As_ (below_step (blwG) hb)
  replace HJ := As_ (JS.below (base := base) (ok := ok) (w0 := w0) (g := g) (cur := cur) (jsG) hb)
  replace BKt := As_ (blk_below (g := gbt) (o := .cells #[.string c, .string i, .string u, .string d, .string o] 23 (0, 0)) (bkG_t) hb)
  replace BKq := As_ (blk_below (g := gbq) (o := .cells #[.string G0, .string G1, .string G2, .string G3] 66 (0, 0)) (bkG_q) hb)
  clear hb
  obtain ⟨zt_0, ft_0, zt_1, ft_1, zt_2, ft_2, zt_3, ft_3, zt_4, ft_4⟩ := cellsN5 BKt.out
  have hntq := NBt_q.out
  have hmtq := NBq_t.out
  go_wp2_with fail
  refine (js_get key v b HJ.out hk hv hb0).mono ?_
  rintro e w3 ⟨rfl, hb⟩
  replace HB := As_ (below_step (blwG) hb)
  replace HJ := As_ (JS.below (base := base) (ok := ok) (w0 := w0) (g := g) (cur := cur) (jsG) hb)
  replace BKt := As_ (blk_below (g := gbt) (o := .cells #[.string c, .string i, .string u, .string d, .string o] 23 (0, 0)) (bkG_t) hb)
  replace BKq := As_ (blk_below (g := gbq) (o := .cells #[.string G0, .string G1, .string G2, .string G3] 66 (0, 0)) (bkG_q) hb)
  clear hb
  obtain ⟨zt_0, ft_0, zt_1, ft_1, zt_2, ft_2, zt_3, ft_3, zt_4, ft_4⟩ := cellsN5 BKt.out
  have hntq := NBt_q.out
  have hmtq := NBq_t.out
  go_wp2_with fail
  refine (names_Check.calls K0 5 i n0 _ c0).mono ?_
  rintro e w4 ⟨rfl, hb⟩
  replace HB := As_ (below_step (blwG) hb)
  replace HJ := As_ (JS.below (base := base) (ok := ok) (w0 := w0) (g := g) (cur := cur) (jsG) hb)
  replace BKt := As_ (blk_below (g := gbt) (o := .cells #[.string c, .string i, .string u, .string d, .string o] 23 (0, 0)) (bkG_t) hb)
  replace BKq := As_ (blk_below (g := gbq) (o := .cells #[.string G0, .string G1, .string G2, .string G3] 66 (0, 0)) (bkG_q) hb)
  clear hb
  obtain ⟨zt_0, ft_0, zt_1, ft_1, zt_2, ft_2, zt_3, ft_3, zt_4, ft_4⟩ := cellsN5 BKt.out
  have hntq := NBt_q.out
  have hmtq := NBq_t.out
  by_cases z1 : n0 = 0
  ·subst z1
   go_wp2_with fail
   refine (token_named.calls o nb _ hnm).mono ?_
   rintro e w5 ⟨rfl, hdr⟩
   have hb := hdr.below
   clear hdr
   replace HB := As_ (below_step (blwG) hb)
   replace HJ := As_ (JS.below (base := base) (ok := ok) (w0 := w0) (g := g) (cur := cur) (jsG) hb)
   replace BKt := As_ (blk_below (g := gbt) (o := .cells #[.string c, .string i, .string u, .string d, .string o] 23 (0, 0)) (bkG_t) hb)
   replace BKq := As_ (blk_below (g := gbq) (o := .cells #[.string G0, .string G1, .string G2, .string G3] 66 (0, 0)) (bkG_q) hb)
   clear hb
   obtain ⟨zt_0, ft_0, zt_1, ft_1, zt_2, ft_2, zt_3, ft_3, zt_4, ft_4⟩ := cellsN5 BKt.out
   have hntq := NBt_q.out
   have hmtq := NBq_t.out
   cases nb with
   | false =>
    have z2 := Classical.not_not.1 (of_decide_eq_false hnb)
    rw [if_pos (.inr z2)] at hx
    subst hx
    go_wp2
    go_ret
    exact ⟨rfl, blwG⟩
   | true =>
    have z2 := of_decide_eq_true hnb
    rw [if_neg (fun e => e.elim (fun e => e rfl) z2)] at hx
    clear z2
    by_cases z3 : 32768 < u.size
    ·rw [if_pos (.inl z3)] at hx
     subst hx
     go_wp2
     go_ret
     exact ⟨rfl, blwG⟩
    ·by_cases z4 : 16384 < d.size
     ·rw [if_pos (.inr z4)] at hx
      subst hx
      go_wp2
      go_ret
      exact ⟨rfl, blwG⟩
     ·rw [if_neg (by omega)] at hx
      cases b with
      | false =>
       rw [if_neg (by decide)] at hx
       subst hx
       go_wp2
       go_ret
       exact ⟨rfl, blwG⟩
      | true =>
       rw [if_pos rfl] at hx
       subst hx
       go_wp2
       go_ret
       exact ⟨rfl, blwG⟩
  ·rw [if_pos (.inl z1)] at hx
   subst hx
   go_wp2
   go_ret
   exact ⟨rfl, blwG⟩
 ·rw [if_pos z0] at hx
  subst hx
  go_wp2_with (first | ((with_reducible refine gate_dst (N := 5) rfl ?_); refine bxE (N := 5) (cs := #[.string ⟨#[]⟩, .string ⟨#[]⟩, .string ⟨#[]⟩, .string ⟨#[]⟩]) (t := 66) ?_; intro gbq hg wq hbox hb; have GEq := As_ ((by rw [hg]; exact (below_size (blwG)) : w.heap.size ≤ gbq)); have GJq := As_ ((by rw [hg]; exact JS.size0 (base := base) (ok := ok) (w0 := w0) (g := g) (cur := cur) (jsG) : w0.heap.size ≤ gbq)); have NBt_q := As_ ((by rw [hg]; exact Nat.ne_of_lt (blk_lt (g := gbt) (o := .cells #[.string c, .string i, .string u, .string d, .string o] 23 (0, 0)) (bkG_t)) : gbt ≠ gbq)); have NBq_t := As_ ((by rw [hg]; exact Nat.ne_of_gt (blk_lt (g := gbt) (o := .cells #[.string c, .string i, .string u, .string d, .string o] 23 (0, 0)) (bkG_t)) : gbq ≠ gbt)); replace HB := As_ (below_step (blwG) hb); replace HJ := As_ (JS.below (base := base) (ok := ok) (w0 := w0) (g := g) (cur := cur) (jsG) hb); replace BKt := As_ (blk_below (g := gbt) (o := .cells #[.string c, .string i, .string u, .string d, .string o] 23 (0, 0)) (bkG_t) hb); have BKq := As_ hbox; clear hb hbox hg; obtain ⟨zq_0, fq_0, zq_1, fq_1, zq_2, fq_2, zq_3, fq_3⟩ := cellsN4 BKq.out; have hnqt := NBq_t.out; have hmqt := NBt_q.out; obtain ⟨zt_0, ft_0, zt_1, ft_1, zt_2, ft_2, zt_3, ft_3, zt_4, ft_4⟩ := cellsN5 BKt.out; have hntq := NBt_q.out; have hmtq := NBq_t.out; obtain ⟨zq_0, fq_0, zq_1, fq_1, zq_2, fq_2, zq_3, fq_3⟩ := cellsN4 BKq.out; have hnqt := NBq_t.out; have hmqt := NBt_q.out))
  go_ret
  exact ⟨rfl, blwG⟩
theorem leaves_tmps {P : Program} {fn : Func} {t1 t2 : Array Value} {R : Ending → World → Prop} (h : ∀ w, (results fn t1).run P w = (results fn t2).run P w) : ∀ (ds : List Deferred) (u : FrameMode) (w : World), Leaves P fn t1 R ds u w → Leaves P fn t2 R ds u w
 | [], .returning, w, ⟨v, h1, h2⟩ => ⟨v, (h w).symm.trans h1, h2⟩
 | [], .panicking _, _, hr => hr
 | [], .run, _, hr => hr
 | _ :: ds, _, _, ⟨hu, fv, cap, f, args, ht, hi, hC⟩ => ⟨hu, fv, cap, f, args, ht, hi, hC.mono (fun e u' w' hx => by
   cases e with
   | returned v => exact leaves_tmps h ds _ _ hx
   | panicked c => exact leaves_tmps h ds _ _ hx
   | outgrown => exact hx)⟩
theorem put_other {a : Act} {N t : Nat} (hn : N ≠ t) (v : Value) : (a.put (some N) v).tmps.getD t undef = a.tmps.getD t undef := by
 show (a.tmps.setIfInBounds N v).getD t undef = _
 simp [Array.getD_eq_getD_getElem?, Array.getElem?_setIfInBounds, hn]
theorem panic_put {P : Program} {fn : Func} {R : Ending → World → Prop} {t N : Nat} (hr : fn.results = #[.tmp t]) (hn : N ≠ t) (c : List PanicEntry) (a : Act) (v : Value) (w : World) (h : bodyPostD P fn R (.panic c) (a.put (some N) v) w) : bodyPostD P fn R (.panic c) a w := by
 have hd : (a.put (some N) v).defers = a.defers := rfl
 refine leaves_tmps (t1 := (a.put (some N) v).tmps) (fun w => ?_) _ _ _ (hd ▸ h)
 rw [results_tmp hr, results_tmp hr, put_other hn]
theorem hmf_ (fn : Fn) (first cap : Array Value) (w : World) : (Instr.makeFunc fn first cap).run Tryz.prog w = .ok (.func fn first cap) w := rfl
theorem tk_supply {base g : Nat} {ok : Nat → Prop} {w0 : World} {cur : List S82} (id : ByteArray) (x : Int) {w : World} (h : JS base ok w0 g cur w) (hk : KV 1000000 cur) (hid : id.size ≤ 50000000) (hx : numK cur (tkSup id) = x) :
  Calls Tryz.prog 15 #[.pointer (some ⟨g, 0, none⟩), .string id] w fun e w' => e = .returned (.int .i64 x) ∧ Below w.heap.size w w' := by
 subst hx
 exact cl_supply id h hk hid
theorem rText_fst (s : ByteArray) (e : Int) : (rText s e).1.size ≤ 65536 := by
 have ⟨⟨a1, a2⟩, b1, b2⟩ := numW_bd s
 unfold rText
 split
 ·split
  ·split
   ·exact Nat.zero_le _
   ·split
    ·exact Nat.zero_le _
    ·show (s.extract _ _).size ≤ _
     rw [ByteArray.size_extract]
     omega
  ·exact Nat.zero_le _
 ·exact Nat.zero_le _
theorem tkGet_ok {cur : List S82} {c i x0 x1 x2 x3 x4 : ByteArray} {x5 : Int} (h : tkGet cur c i = (x0, x1, x2, x3, x4, x5)) (h5 : x5 = 0) : x0 = c ∧ x1 = i := by
 unfold tkGet at h
 split at h
 ·simp only [Prod.mk.injEq] at h
  exact ⟨h.1.symm, h.2.1.symm⟩
 ·simp only [Prod.mk.injEq] at h
  omega
theorem tkGet_sz {cur : List S82} {c i x0 x1 x2 x3 x4 : ByteArray} {x5 : Int} (h : tkGet cur c i = (x0, x1, x2, x3, x4, x5)) : x2.size ≤ 65536 ∧ x3.size ≤ 65536 ∧ x4.size ≤ 65536 := by
 unfold tkGet at h
 split at h
 ·simp only [Prod.mk.injEq] at h
  obtain ⟨_, _, rfl, rfl, rfl, _⟩ := h
  unfold txt3
  exact ⟨rText_fst _ _, rText_fst _ _, rText_fst _ _⟩
 ·simp only [Prod.mk.injEq] at h
  obtain ⟨_, _, rfl, rfl, rfl, _⟩ := h
  exact ⟨Nat.zero_le _, Nat.zero_le _, Nat.zero_le _⟩
theorem tk_mint1 {base g : Nat} {ok : Nat → Prop} {w0 : World} {cur : List S82} (gj gt gn : Nat) (c i u d o : ByteArray) (N : Int) {w : World} {um : FrameMode} (h : JS base ok w0 g cur w) (hk : KV 1000000 cur) (hid : c.size ≤ 50000000) (zj : w.heap[gj]? = some (.cells #[.pointer (some ⟨g, 0, none⟩)] 34 (0, 0))) (zt : w.heap[gt]? = some (.cells #[.string c, .string i, .string u, .string d, .string o] 23 (0, 0))) (zn : w.heap[gn]? = some (.cells #[.int .i64 N] 3 (0, 0))) (hw : wrap64 (N + 1) = N + 1) :
  CallsD Tryz.prog 26 #[.pointer (some ⟨gj, 0, none⟩), .pointer (some ⟨gt, 0, none⟩), .pointer (some ⟨gn, 0, none⟩)] um w fun e u' w' => u' = um ∧ e = .returned (.tuple #[]) ∧ JS base ok w0 g (bkSet cur (tkSup c) (N + 1)) w' ∧ JK w w' := by
 have qj0 : w.cell? ⟨gj, 0, none⟩ = some (.pointer (some ⟨g, 0, none⟩)) := (blk_cell zj 0).trans rfl
 have qt0 : w.cell? ⟨gt, 0, none⟩ = some (.string c) := (blk_cell zt 0).trans rfl
 have qt1 : w.cell? ⟨gt, 1, none⟩ = some (.string i) := (blk_cell zt 1).trans rfl
 have qt2 : w.cell? ⟨gt, 2, none⟩ = some (.string u) := (blk_cell zt 2).trans rfl
 have qt3 : w.cell? ⟨gt, 3, none⟩ = some (.string d) := (blk_cell zt 3).trans rfl
 have qt4 : w.cell? ⟨gt, 4, none⟩ = some (.string o) := (blk_cell zt 4).trans rfl
 have qn0 : w.cell? ⟨gn, 0, none⟩ = some (.int .i64 N) := (blk_cell zn 0).trans rfl
 have HJ := As_ h
 have HW := As_ hw
 clear h hw zj zt zn
 go_enter_d Tryz.func26, Tryz.ntmps26
 go_wp2_with fail
 refine (tk_counted c _ HJ.out hk hid).mono ?_
 rintro e w1 ⟨rfl, hj, hk1⟩
 rw [HW.out] at hj
 have HJ1 := As_ hj
 have HK1 := As_ hk1
 clear hj hk1
 go_wp2
 go_end0
 exact ⟨rfl, HJ1.out, HK1.out⟩
theorem tk_burn1 {base g : Nat} {ok : Nat → Prop} {w0 : World} {cur : List S82} (gj gt gn : Nat) (c : ByteArray) (N : Int) {w : World} {um : FrameMode} (h : JS base ok w0 g cur w) (hk : KV 1000000 cur) (hid : c.size ≤ 50000000) (zj : w.heap[gj]? = some (.cells #[.pointer (some ⟨g, 0, none⟩)] 34 (0, 0))) (zt : w.heap[gt]? = some (.cells #[.string c] 9 (0, 0))) (zn : w.heap[gn]? = some (.cells #[.int .i64 N] 3 (0, 0))) (hw : wrap64 (N - 1) = N - 1) :
  CallsD Tryz.prog 29 #[.pointer (some ⟨gj, 0, none⟩), .pointer (some ⟨gt, 0, none⟩), .pointer (some ⟨gn, 0, none⟩)] um w fun e u' w' => u' = um ∧ e = .returned (.tuple #[]) ∧ JS base ok w0 g (bkSet cur (tkSup c) (N - 1)) w' ∧ JK w w' := by
 have qj0 : w.cell? ⟨gj, 0, none⟩ = some (.pointer (some ⟨g, 0, none⟩)) := (blk_cell zj 0).trans rfl
 have qt0 : w.cell? ⟨gt, 0, none⟩ = some (.string c) := (blk_cell zt 0).trans rfl
 have qn0 : w.cell? ⟨gn, 0, none⟩ = some (.int .i64 N) := (blk_cell zn 0).trans rfl
 have HJ := As_ h
 have HW := As_ hw
 clear h hw zj zt zn
 go_enter_d Tryz.func29, Tryz.ntmps29
 go_wp2_with fail
 refine (tk_counted c _ HJ.out hk hid).mono ?_
 rintro e w1 ⟨rfl, hj, hk1⟩
 rw [HW.out] at hj
 have HJ1 := As_ hj
 have HK1 := As_ hk1
 clear hj hk1
 go_wp2
 go_end0
 exact ⟨rfl, HJ1.out, HK1.out⟩
theorem tk_mint {base g : Nat} {ok : Nat → Prop} {w0 : World} {cur : List S82} (c i u d o : ByteArray) (x : Int) (cur' : List S82) {w : World} (h : JS base ok w0 g cur w) (hk1 : KV 100000 cur) (hc : c.size ≤ 50000) (hi : i.size ≤ 50000) (hu : u.size ≤ 1000000) (hd : d.size ≤ 1000000) (ho : o.size ≤ 1000000) (hx : tkMintE cur c i u d o = x) (hcur : tkMint cur c i u d o = cur') :
  Calls Tryz.prog 7 #[.pointer (some ⟨g, 0, none⟩), .agg #[.string c, .string i, .string u, .string d, .string o]] w fun e w' => e = .returned (.int .i64 x) ∧ JS base ok w0 g cur' w' ∧ JK w w' := by
 unfold tkMint at hcur
 rw [hx] at hcur
 obtain ⟨N, hN⟩ : ∃ z, numK cur (tkSup c) = z := ⟨_, rfl⟩
 have bdN : 0 ≤ N ∧ N ≤ 9007199254740992 := by rw [← hN]; exact numK_bd _ _
 rw [hN] at hcur
 have hk2 := hk1.mono (show 100000 ≤ 1000000 by omega)
 have hk3 := hk1.mono (show 100000 ≤ 900000 by omega)
 have hkK := (tkKeep_KV hk1 c i u d o).mono (show 100002 ≤ 1000000 by omega)
 have hid : c.size ≤ 50000000 := Nat.le_trans hc (by decide)
 have hid2 : i.size ≤ 50000000 := Nat.le_trans hi (by decide)
 have HW := As_ (show wrap64 (N + 1) = N + 1 from w64 (by omega) (by omega))
 have hmf := hmf_
 have HJ := As_ h
 have HK := As_ (JK.of_below (Below.refl w.heap.size w))
 have AX := As_ hx
 clear h bdN hx
 go_enter_defers Tryz.func7, Tryz.ntmps7
 go_wp2_with (first | ((with_reducible refine gate_dst (N := 2) rfl ?_); refine bxE (N := 2) (cs := #[.pointer (some ⟨g, 0, none⟩)]) (t := 34) ?_; intro gbj hg wj hbox hb; have GKj := As_ ((by rw [hg]; exact JK.size (jkG) : w.heap.size ≤ gbj)); have GJj := As_ ((by rw [hg]; exact JS.size0 (base := base) (ok := ok) (w0 := w0) (g := g) (cur := cur) (jsG) : w0.heap.size ≤ gbj)); replace HK := As_ (HK.out.trans (JK.of_below hb)); replace HJ := As_ (JS.below (base := base) (ok := ok) (w0 := w0) (g := g) (cur := cur) (jsG) hb); have BKj := As_ hbox; clear hb hbox hg; obtain ⟨zj_0, fj_0⟩ := cellsN1 BKj.out) | ((with_reducible refine gate_dst (N := 3) rfl ?_); refine bxE (N := 3) (cs := #[.string c, .string i, .string u, .string d, .string o]) (t := 23) ?_; intro gbt hg wt hbox hb; have GKt := As_ ((by rw [hg]; exact JK.size (jkG) : w.heap.size ≤ gbt)); have GJt := As_ ((by rw [hg]; exact JS.size0 (base := base) (ok := ok) (w0 := w0) (g := g) (cur := cur) (jsG) : w0.heap.size ≤ gbt)); have NBj_t := As_ ((by rw [hg]; exact Nat.ne_of_lt (blk_lt (g := gbj) (o := .cells #[.pointer (some ⟨g, 0, none⟩)] 34 (0, 0)) (bkG_j)) : gbj ≠ gbt)); have NBt_j := As_ ((by rw [hg]; exact Nat.ne_of_gt (blk_lt (g := gbj) (o := .cells #[.pointer (some ⟨g, 0, none⟩)] 34 (0, 0)) (bkG_j)) : gbt ≠ gbj)); replace HK := As_ (HK.out.trans (JK.of_below hb)); replace HJ := As_ (JS.below (base := base) (ok := ok) (w0 := w0) (g := g) (cur := cur) (jsG) hb); replace BKj := As_ (blk_below (g := gbj) (o := .cells #[.pointer (some ⟨g, 0, none⟩)] 34 (0, 0)) (bkG_j) hb); have BKt := As_ hbox; clear hb hbox hg; obtain ⟨zt_0, ft_0, zt_1, ft_1, zt_2, ft_2, zt_3, ft_3, zt_4, ft_4⟩ := cellsN5 BKt.out; have hntj := NBt_j.out; have hmtj := NBj_t.out; obtain ⟨zj_0, fj_0⟩ := cellsN1 BKj.out; have hnjt := NBj_t.out; have hmjt := NBt_j.out; obtain ⟨zt_0, ft_0, zt_1, ft_1, zt_2, ft_2, zt_3, ft_3, zt_4, ft_4⟩ := cellsN5 BKt.out; have hntj := NBt_j.out; have hmtj := NBj_t.out))
 refine (tk_check c i u d o x HJ.out hk2 hc hi AX.out).mono ?_
 rintro e w1 ⟨rfl, hb⟩
 replace HK := As_ (HK.out.trans (JK.of_below hb))
 replace HJ := As_ (JS.below (base := base) (ok := ok) (w0 := w0) (g := g) (cur := cur) (jsG) hb)
 replace BKj := As_ (blk_below (g := gbj) (o := .cells #[.pointer (some ⟨g, 0, none⟩)] 34 (0, 0)) (bkG_j) hb)
 replace BKt := As_ (blk_below (g := gbt) (o := .cells #[.string c, .string i, .string u, .string d, .string o] 23 (0, 0)) (bkG_t) hb)
 clear hb
 obtain ⟨zj_0, fj_0⟩ := cellsN1 BKj.out
 have hnjt := NBj_t.out
 have hmjt := NBt_j.out
 obtain ⟨zt_0, ft_0, zt_1, ft_1, zt_2, ft_2, zt_3, ft_3, zt_4, ft_4⟩ := cellsN5 BKt.out
 have hntj := NBt_j.out
 have hmtj := NBj_t.out
 clear AX
 by_cases z0 : x = 0
 ·subst z0
  rw [if_pos rfl] at hcur
  subst hcur
  go_wp2_with fail
  refine (tk_supply c N HJ.out hk2 hid hN).mono ?_
  rintro e w2 ⟨rfl, hb⟩
  replace HK := As_ (HK.out.trans (JK.of_below hb))
  replace HJ := As_ (JS.below (base := base) (ok := ok) (w0 := w0) (g := g) (cur := cur) (jsG) hb)
  replace BKj := As_ (blk_below (g := gbj) (o := .cells #[.pointer (some ⟨g, 0, none⟩)] 34 (0, 0)) (bkG_j) hb)
  replace BKt := As_ (blk_below (g := gbt) (o := .cells #[.string c, .string i, .string u, .string d, .string o] 23 (0, 0)) (bkG_t) hb)
  clear hb
  obtain ⟨zj_0, fj_0⟩ := cellsN1 BKj.out
  have hnjt := NBj_t.out
  have hmjt := NBt_j.out
  obtain ⟨zt_0, ft_0, zt_1, ft_1, zt_2, ft_2, zt_3, ft_3, zt_4, ft_4⟩ := cellsN5 BKt.out
  have hntj := NBt_j.out
  have hmtj := NBj_t.out
  go_wp2_with (first | ((with_reducible refine gate_dst (N := 6) rfl ?_); refine bxE (N := 6) (cs := #[.int .i64 0]) (t := 3) ?_; intro gbn hg wn hbox hb; have GKn := As_ ((by rw [hg]; exact JK.size (jkG) : w.heap.size ≤ gbn)); have GJn := As_ ((by rw [hg]; exact JS.size0 (base := base) (ok := ok) (w0 := w0) (g := g) (cur := cur) (jsG) : w0.heap.size ≤ gbn)); have NBj_n := As_ ((by rw [hg]; exact Nat.ne_of_lt (blk_lt (g := gbj) (o := .cells #[.pointer (some ⟨g, 0, none⟩)] 34 (0, 0)) (bkG_j)) : gbj ≠ gbn)); have NBn_j := As_ ((by rw [hg]; exact Nat.ne_of_gt (blk_lt (g := gbj) (o := .cells #[.pointer (some ⟨g, 0, none⟩)] 34 (0, 0)) (bkG_j)) : gbn ≠ gbj)); have NBt_n := As_ ((by rw [hg]; exact Nat.ne_of_lt (blk_lt (g := gbt) (o := .cells #[.string c, .string i, .string u, .string d, .string o] 23 (0, 0)) (bkG_t)) : gbt ≠ gbn)); have NBn_t := As_ ((by rw [hg]; exact Nat.ne_of_gt (blk_lt (g := gbt) (o := .cells #[.string c, .string i, .string u, .string d, .string o] 23 (0, 0)) (bkG_t)) : gbn ≠ gbt)); replace HK := As_ (HK.out.trans (JK.of_below hb)); replace HJ := As_ (JS.below (base := base) (ok := ok) (w0 := w0) (g := g) (cur := cur) (jsG) hb); replace BKj := As_ (blk_below (g := gbj) (o := .cells #[.pointer (some ⟨g, 0, none⟩)] 34 (0, 0)) (bkG_j) hb); replace BKt := As_ (blk_below (g := gbt) (o := .cells #[.string c, .string i, .string u, .string d, .string o] 23 (0, 0)) (bkG_t) hb); have BKn := As_ hbox; clear hb hbox hg; obtain ⟨zn_0, fn_0⟩ := cellsN1 BKn.out; have hnnj := NBn_j.out; have hmnj := NBj_n.out; have hnnt := NBn_t.out; have hmnt := NBt_n.out; obtain ⟨zj_0, fj_0⟩ := cellsN1 BKj.out; have hnjt := NBj_t.out; have hmjt := NBt_j.out; have hnjn := NBj_n.out; have hmjn := NBn_j.out; obtain ⟨zt_0, ft_0, zt_1, ft_1, zt_2, ft_2, zt_3, ft_3, zt_4, ft_4⟩ := cellsN5 BKt.out; have hntj := NBt_j.out; have hmtj := NBj_t.out; have hntn := NBt_n.out; have hmtn := NBn_t.out))
  refine (tk_keep (base := base) (ok := ok) (w0 := w0) (g := g) (cur := cur) c i u d o (jsG) hk3 hid hid2 hu hd ho).mono ?_
  rintro e w3 ⟨rfl, hj, hk⟩
  replace HK := As_ ((jkG : JK _ _).trans hk)
  replace HJ := As_ (hj)
  replace BKj := As_ (JK.blk (b := gbj) (c := #[.pointer (some ⟨g, 0, none⟩)]) (q := 34) (x := (0, 0)) hk (bkG_j) (by decide))
  replace BKt := As_ (JK.blk (b := gbt) (c := #[.string c, .string i, .string u, .string d, .string o]) (q := 23) (x := (0, 0)) hk (bkG_t) (by decide))
  replace BKn := As_ (JK.blk (b := gbn) (c := #[.int .i64 N]) (q := 3) (x := (0, 0)) hk (bkG_n) (by decide))
  clear hj hk
  go_wp2
  refine leaves_cons (f := 26) (args := #[.pointer (some ⟨gbj, 0, none⟩), .pointer (some ⟨gbt, 0, none⟩), .pointer (some ⟨gbn, 0, none⟩)]) (by simp) (by simp [go_sem]) ?_
  refine (tk_mint1 gbj gbt gbn c i u d o N HJ.out hkK hid BKj.out BKt.out BKn.out HW.out).mono ?_
  rintro e u' w9 ⟨rfl, rfl, hj, hk⟩
  exact ⟨_, results_tmp rfl _ _ _, rfl, hj, HK.out.trans hk⟩
 ·rw [if_neg z0] at hcur
  subst hcur
  go_wp2
  first | exact ⟨_, results_tmp rfl _ _ _, rfl, jsG, jkG⟩ | (go_ret; exact ⟨rfl, jsG, jkG⟩)
theorem tk_burn {base g : Nat} {ok : Nat → Prop} {w0 : World} {cur : List S82} (c i : ByteArray) (x : Int) (cur' : List S82) {w : World} (h : JS base ok w0 g cur w) (hk1 : KV 100000 cur) (hc : c.size ≤ 50000) (hi : i.size ≤ 50000) (hx : tkE (tkGet cur c i) = x) (hcur : tkBurn cur c i = cur') :
  Calls Tryz.prog 8 #[.pointer (some ⟨g, 0, none⟩), .string c, .string i] w fun e w' => e = .returned (.int .i64 x) ∧ JS base ok w0 g cur' w' ∧ JK w w' := by
 obtain ⟨x0, x1, x2, x3, x4, x5, hg⟩ : ∃ a0 a1 a2 a3 a4 a5, tkGet cur c i = (a0, a1, a2, a3, a4, a5) := ⟨_, _, _, _, _, _, rfl⟩
 unfold tkBurn at hcur
 rw [hg] at hx hcur
 simp only [tkE, tkO] at hx
 subst hx
 replace hcur : (if x5 = 0 then bkSet (tkBurn3 cur c i x4) (tkSup c) (numK cur (tkSup c) - 1) else cur) = cur' := hcur
 obtain ⟨N, hN⟩ : ∃ z, numK cur (tkSup c) = z := ⟨_, rfl⟩
 have bdN : 0 ≤ N ∧ N ≤ 9007199254740992 := by rw [← hN]; exact numK_bd _ _
 rw [hN] at hcur
 have hsz := tkGet_sz hg
 have hk2 := hk1.mono (show 100000 ≤ 1000000 by omega)
 have hid : c.size ≤ 50000000 := Nat.le_trans hc (by decide)
 have hid2 : i.size ≤ 50000000 := Nat.le_trans hi (by decide)
 obtain ⟨k1, key1⟩ := tkKey_ev c i hid hid2
 obtain ⟨k3, key3⟩ := tkMay_ev c i hid hid2
 have AO := As_ (fun h5 : x5 = 0 => tkGet_ok hg h5)
 have A4 := As_ hsz.2.2
 have AG := As_ hg
 have HW := As_ (show wrap64 (N - 1) = N - 1 from w64 (by omega) (by omega))
 have hmf := hmf_
 have HJ := As_ h
 have HK := As_ (JK.of_below (Below.refl w.heap.size w))
 clear h bdN hg hsz
 go_enter_defers Tryz.func8, Tryz.ntmps8
 go_wp2_with (first | ((with_reducible refine gate_dst (N := 3) rfl ?_); refine bxE (N := 3) (cs := #[.pointer (some ⟨g, 0, none⟩)]) (t := 34) ?_; intro gbj hg wj hbox hb; have GKj := As_ ((by rw [hg]; exact JK.size (jkG) : w.heap.size ≤ gbj)); have GJj := As_ ((by rw [hg]; exact JS.size0 (base := base) (ok := ok) (w0 := w0) (g := g) (cur := cur) (jsG) : w0.heap.size ≤ gbj)); replace HK := As_ (HK.out.trans (JK.of_below hb)); replace HJ := As_ (JS.below (base := base) (ok := ok) (w0 := w0) (g := g) (cur := cur) (jsG) hb); have BKj := As_ hbox; clear hb hbox hg; obtain ⟨zj_0, fj_0⟩ := cellsN1 BKj.out) | ((with_reducible refine gate_dst (N := 4) rfl ?_); refine bxE (N := 4) (cs := #[.string c]) (t := 9) ?_; intro gbd hg wd hbox hb; have GKd := As_ ((by rw [hg]; exact JK.size (jkG) : w.heap.size ≤ gbd)); have GJd := As_ ((by rw [hg]; exact JS.size0 (base := base) (ok := ok) (w0 := w0) (g := g) (cur := cur) (jsG) : w0.heap.size ≤ gbd)); have NBj_d := As_ ((by rw [hg]; exact Nat.ne_of_lt (blk_lt (g := gbj) (o := .cells #[.pointer (some ⟨g, 0, none⟩)] 34 (0, 0)) (bkG_j)) : gbj ≠ gbd)); have NBd_j := As_ ((by rw [hg]; exact Nat.ne_of_gt (blk_lt (g := gbj) (o := .cells #[.pointer (some ⟨g, 0, none⟩)] 34 (0, 0)) (bkG_j)) : gbd ≠ gbj)); replace HK := As_ (HK.out.trans (JK.of_below hb)); replace HJ := As_ (JS.below (base := base) (ok := ok) (w0 := w0) (g := g) (cur := cur) (jsG) hb); replace BKj := As_ (blk_below (g := gbj) (o := .cells #[.pointer (some ⟨g, 0, none⟩)] 34 (0, 0)) (bkG_j) hb); have BKd := As_ hbox; clear hb hbox hg; obtain ⟨zd_0, fd_0⟩ := cellsN1 BKd.out; have hndj := NBd_j.out; have hmdj := NBj_d.out; obtain ⟨zj_0, fj_0⟩ := cellsN1 BKj.out; have hnjd := NBj_d.out; have hmjd := NBd_j.out; obtain ⟨zd_0, fd_0⟩ := cellsN1 BKd.out; have hndj := NBd_j.out; have hmdj := NBj_d.out))
 refine (tk_get c i x0 x1 x2 x3 x4 x5 HJ.out hk2 hid hid2 AG.out).mono ?_
 rintro e w1 ⟨rfl, hb⟩
 replace HK := As_ (HK.out.trans (JK.of_below hb))
 replace HJ := As_ (JS.below (base := base) (ok := ok) (w0 := w0) (g := g) (cur := cur) (jsG) hb)
 replace BKj := As_ (blk_below (g := gbj) (o := .cells #[.pointer (some ⟨g, 0, none⟩)] 34 (0, 0)) (bkG_j) hb)
 replace BKd := As_ (blk_below (g := gbd) (o := .cells #[.string c] 9 (0, 0)) (bkG_d) hb)
 clear hb
 obtain ⟨zj_0, fj_0⟩ := cellsN1 BKj.out
 have hnjd := NBj_d.out
 have hmjd := NBd_j.out
 obtain ⟨zd_0, fd_0⟩ := cellsN1 BKd.out
 have hndj := NBd_j.out
 have hmdj := NBj_d.out
 clear AG
 by_cases z0 : x5 = 0
 ·subst z0
  rw [if_pos rfl] at hcur
  obtain ⟨rfl, rfl⟩ := AO.out rfl
  clear AO
  obtain ⟨k2, key2⟩ := tkOwn_ev x0 x1 x2 x3 x4 hid hid2 (Nat.le_trans A4.out (by decide))
  unfold tkBurn3 at hcur
  have hkA := hk1.del (tkKey x0 x1)
  have hkB := hkA.del (tkOwn x4 x0 x1)
  have hkC := (hkB.del (tkMay x0 x1)).mono (show 100000 ≤ 1000000 by omega)
  replace hkA := hkA.mono (show 100000 ≤ 1000000 by omega)
  replace hkB := hkB.mono (show 100000 ≤ 1000000 by omega)
  generalize tkKey x0 x1 = kA at key1 hcur hkA hkB hkC
  generalize tkOwn x4 x0 x1 = kB at key2 hcur hkB hkC
  generalize tkMay x0 x1 = kC at key3 hcur hkC
  go_wp2_with (first | ((with_reducible refine gate_dst (N := 7) rfl ?_); refine bxE (N := 7) (cs := #[.string ⟨#[]⟩, .string ⟨#[]⟩, .string ⟨#[]⟩, .string ⟨#[]⟩, .string ⟨#[]⟩]) (t := 23) ?_; intro gbt hg wt hbox hb; have GKt := As_ ((by rw [hg]; exact JK.size (jkG) : w.heap.size ≤ gbt)); have GJt := As_ ((by rw [hg]; exact JS.size0 (base := base) (ok := ok) (w0 := w0) (g := g) (cur := cur) (jsG) : w0.heap.size ≤ gbt)); have NBj_t := As_ ((by rw [hg]; exact Nat.ne_of_lt (blk_lt (g := gbj) (o := .cells #[.pointer (some ⟨g, 0, none⟩)] 34 (0, 0)) (bkG_j)) : gbj ≠ gbt)); have NBt_j := As_ ((by rw [hg]; exact Nat.ne_of_gt (blk_lt (g := gbj) (o := .cells #[.pointer (some ⟨g, 0, none⟩)] 34 (0, 0)) (bkG_j)) : gbt ≠ gbj)); have NBd_t := As_ ((by rw [hg]; exact Nat.ne_of_lt (blk_lt (g := gbd) (o := .cells #[.string x0] 9 (0, 0)) (bkG_d)) : gbd ≠ gbt)); have NBt_d := As_ ((by rw [hg]; exact Nat.ne_of_gt (blk_lt (g := gbd) (o := .cells #[.string x0] 9 (0, 0)) (bkG_d)) : gbt ≠ gbd)); replace HK := As_ (HK.out.trans (JK.of_below hb)); replace HJ := As_ (JS.below (base := base) (ok := ok) (w0 := w0) (g := g) (cur := cur) (jsG) hb); replace BKj := As_ (blk_below (g := gbj) (o := .cells #[.pointer (some ⟨g, 0, none⟩)] 34 (0, 0)) (bkG_j) hb); replace BKd := As_ (blk_below (g := gbd) (o := .cells #[.string x0] 9 (0, 0)) (bkG_d) hb); have BKt := As_ hbox; clear hb hbox hg; obtain ⟨zt_0, ft_0, zt_1, ft_1, zt_2, ft_2, zt_3, ft_3, zt_4, ft_4⟩ := cellsN5 BKt.out; have hntj := NBt_j.out; have hmtj := NBj_t.out; have hntd := NBt_d.out; have hmtd := NBd_t.out; obtain ⟨zj_0, fj_0⟩ := cellsN1 BKj.out; have hnjd := NBj_d.out; have hmjd := NBd_j.out; have hnjt := NBj_t.out; have hmjt := NBt_j.out; obtain ⟨zd_0, fd_0⟩ := cellsN1 BKd.out; have hndj := NBd_j.out; have hmdj := NBj_d.out; have hndt := NBd_t.out; have hmdt := NBt_d.out; obtain ⟨zt_0, ft_0, zt_1, ft_1, zt_2, ft_2, zt_3, ft_3, zt_4, ft_4⟩ := cellsN5 BKt.out; have hntj := NBt_j.out; have hmtj := NBj_t.out; have hntd := NBt_d.out; have hmtd := NBd_t.out))
  refine (tk_supply (base := base) (ok := ok) (w0 := w0) (g := g) (cur := cur) x0 N (jsG) hk2 hid hN).mono ?_
  rintro e w2 ⟨rfl, hb⟩
  replace HK := As_ ((jkG : JK _ _).trans (JK.of_below hb))
  replace HJ := As_ (JS.below (base := base) (ok := ok) (w0 := w0) (g := g) (cur := cur) (jsG) hb)
  replace BKj := As_ (blk_below (g := gbj) (o := .cells #[.pointer (some ⟨g, 0, none⟩)] 34 (0, 0)) (bkG_j) hb)
  replace BKd := As_ (blk_below (g := gbd) (o := .cells #[.string x0] 9 (0, 0)) (bkG_d) hb)
  replace BKt := As_ (blk_below (g := gbt) (o := .cells #[.string x0, .string x1, .string x2, .string x3, .string x4] 23 (0, 0)) (bkG_t) hb)
  clear hb
  obtain ⟨zj_0, fj_0⟩ := cellsN1 BKj.out
  have hnjd := NBj_d.out
  have hmjd := NBd_j.out
  have hnjt := NBj_t.out
  have hmjt := NBt_j.out
  obtain ⟨zd_0, fd_0⟩ := cellsN1 BKd.out
  have hndj := NBd_j.out
  have hmdj := NBj_d.out
  have hndt := NBd_t.out
  have hmdt := NBt_d.out
  obtain ⟨zt_0, ft_0, zt_1, ft_1, zt_2, ft_2, zt_3, ft_3, zt_4, ft_4⟩ := cellsN5 BKt.out
  have hntj := NBt_j.out
  have hmtj := NBj_t.out
  have hntd := NBt_d.out
  have hmtd := NBd_t.out
  go_upto_region 6 with (first | ((with_reducible refine gate_dst (N := 9) rfl ?_); refine bxE (N := 9) (cs := #[.int .i64 0]) (t := 3) ?_; intro gbn hg wn hbox hb; have GKn := As_ ((by rw [hg]; exact JK.size (jkG) : w.heap.size ≤ gbn)); have GJn := As_ ((by rw [hg]; exact JS.size0 (base := base) (ok := ok) (w0 := w0) (g := g) (cur := cur) (jsG) : w0.heap.size ≤ gbn)); have NBj_n := As_ ((by rw [hg]; exact Nat.ne_of_lt (blk_lt (g := gbj) (o := .cells #[.pointer (some ⟨g, 0, none⟩)] 34 (0, 0)) (bkG_j)) : gbj ≠ gbn)); have NBn_j := As_ ((by rw [hg]; exact Nat.ne_of_gt (blk_lt (g := gbj) (o := .cells #[.pointer (some ⟨g, 0, none⟩)] 34 (0, 0)) (bkG_j)) : gbn ≠ gbj)); have NBd_n := As_ ((by rw [hg]; exact Nat.ne_of_lt (blk_lt (g := gbd) (o := .cells #[.string x0] 9 (0, 0)) (bkG_d)) : gbd ≠ gbn)); have NBn_d := As_ ((by rw [hg]; exact Nat.ne_of_gt (blk_lt (g := gbd) (o := .cells #[.string x0] 9 (0, 0)) (bkG_d)) : gbn ≠ gbd)); have NBt_n := As_ ((by rw [hg]; exact Nat.ne_of_lt (blk_lt (g := gbt) (o := .cells #[.string x0, .string x1, .string x2, .string x3, .string x4] 23 (0, 0)) (bkG_t)) : gbt ≠ gbn)); have NBn_t := As_ ((by rw [hg]; exact Nat.ne_of_gt (blk_lt (g := gbt) (o := .cells #[.string x0, .string x1, .string x2, .string x3, .string x4] 23 (0, 0)) (bkG_t)) : gbn ≠ gbt)); replace HK := As_ (HK.out.trans (JK.of_below hb)); replace HJ := As_ (JS.below (base := base) (ok := ok) (w0 := w0) (g := g) (cur := cur) (jsG) hb); replace BKj := As_ (blk_below (g := gbj) (o := .cells #[.pointer (some ⟨g, 0, none⟩)] 34 (0, 0)) (bkG_j) hb); replace BKd := As_ (blk_below (g := gbd) (o := .cells #[.string x0] 9 (0, 0)) (bkG_d) hb); replace BKt := As_ (blk_below (g := gbt) (o := .cells #[.string x0, .string x1, .string x2, .string x3, .string x4] 23 (0, 0)) (bkG_t) hb); have BKn := As_ hbox; clear hb hbox hg; obtain ⟨zn_0, fn_0⟩ := cellsN1 BKn.out; have hnnj := NBn_j.out; have hmnj := NBj_n.out; have hnnd := NBn_d.out; have hmnd := NBd_n.out; have hnnt := NBn_t.out; have hmnt := NBt_n.out; obtain ⟨zj_0, fj_0⟩ := cellsN1 BKj.out; have hnjd := NBj_d.out; have hmjd := NBd_j.out; have hnjt := NBj_t.out; have hmjt := NBt_j.out; have hnjn := NBj_n.out; have hmjn := NBn_j.out; obtain ⟨zd_0, fd_0⟩ := cellsN1 BKd.out; have hndj := NBd_j.out; have hmdj := NBj_d.out; have hndt := NBd_t.out; have hmdt := NBt_d.out; have hndn := NBd_n.out; have hmdn := NBn_d.out; obtain ⟨zt_0, ft_0, zt_1, ft_1, zt_2, ft_2, zt_3, ft_3, zt_4, ft_4⟩ := cellsN5 BKt.out; have hntj := NBt_j.out; have hmtj := NBj_t.out; have hntd := NBt_d.out; have hmtd := NBd_t.out; have hntn := NBt_n.out; have hmtn := NBn_t.out))
  refine start_ (n := 5) (S := fun w' => HeldC gbj #[.pointer (some ⟨g, 0, none⟩)] 34 w' ∧ HeldC gbd #[.string x0] 9 w') (ds := []) #[false, false, false, false, false] (by kernel_rfl) rfl rfl ⟨HeldC.of (bkG_j), HeldC.of (bkG_d)⟩ (fun hHeld => ?_)
  have n_HJ := at_world hHeld.1 (F := fun Y => JS base ok w0 g cur Y) (jsG)
  have n_HK := at_world hHeld.1 (F := fun Y => JK w Y) (jkG)
  have n_BKj := at_world hHeld.1 (F := fun Y => Y.heap[gbj]? = some (.cells #[.pointer (some ⟨g, 0, none⟩)] 34 (0, 0))) (bkG_j)
  have n_BKd := at_world hHeld.1 (F := fun Y => Y.heap[gbd]? = some (.cells #[.string x0] 9 (0, 0))) (bkG_d)
  have n_BKt := at_world hHeld.1 (F := fun Y => Y.heap[gbt]? = some (.cells #[.string x0, .string x1, .string x2, .string x3, .string x4] 23 (0, 0))) (bkG_t)
  have n_BKn := at_world hHeld.1 (F := fun Y => Y.heap[gbn]? = some (.cells #[.int .i64 N] 3 (0, 0))) (bkG_n)
  clear HJ HK BKj BKd BKt BKn
  have HJ := n_HJ
  have HK := n_HK
  have BKj := n_BKj
  have BKd := n_BKd
  have BKt := n_BKt
  have BKn := n_BKn
  clear n_HJ n_HK n_BKj n_BKd n_BKt n_BKn
  refine take_ (i := 0) (N := some 24) #[true, false, false, false, false] rfl rfl (by kernel_rfl) (fun c a w h => panic_put (t := 6) (N := 24) rfl (by decide) c a _ w h) (Or.inl ⟨by rfl, (by rintro w' ⟨s0, s1⟩; have t0_0 : w'.cell? ⟨gbj, 0, none⟩ = some (.pointer (some ⟨g, 0, none⟩)) := (blk_cell (HeldC.blk s0) 0).trans rfl; have t1_0 : w'.cell? ⟨gbd, 0, none⟩ = some (.string x0) := (blk_cell (HeldC.blk s1) 0).trans rfl; go_simp; with_reducible rfl)⟩) hHeld ap35_ ?_
  refine take_ (i := 1) (N := some 25) #[true, true, false, false, false] rfl rfl (by kernel_rfl) (fun c a w h => panic_put (t := 6) (N := 25) rfl (by decide) c a _ w h) (Or.inl ⟨by rfl, (by rintro w' ⟨s0, s1⟩; have t0_0 : w'.cell? ⟨gbj, 0, none⟩ = some (.pointer (some ⟨g, 0, none⟩)) := (blk_cell (HeldC.blk s0) 0).trans rfl; have t1_0 : w'.cell? ⟨gbd, 0, none⟩ = some (.string x0) := (blk_cell (HeldC.blk s1) 0).trans rfl; go_simp; with_reducible rfl)⟩) hHeld ap35_ ?_
  refine pure_ (i := 2) (N := some 26) #[true, true, true, false, false] rfl rfl (by kernel_rfl) (fun c a w h => panic_put (t := 6) (N := 26) rfl (by decide) c a _ w h) (Or.inl ⟨by rfl, ap2_⟩) ap35_ ?_
  refine one_ (i := 3) (N := some 27) #[true, true, true, true, false] rfl rfl (by kernel_rfl) (by decide) (fun K hK => ?_)
  refine goes_ Tryz.func21 (by kernel_rfl) rfl #[.string x0, .string x1] (by rfl) rfl rfl ap16_ ?_
  refine (token_key.calls k1 x0 x1 kA _ key1).mono ?_
  rintro e w3 ⟨rfl, hb⟩
  refine ⟨_, rfl, ?_⟩
  replace HK := As_ (HK.out.trans (JK.of_below hb))
  replace HJ := As_ (JS.below (base := base) (ok := ok) (w0 := w0) (g := g) (cur := cur) (jsG) hb)
  replace BKj := As_ (blk_below (g := gbj) (o := .cells #[.pointer (some ⟨g, 0, none⟩)] 34 (0, 0)) (bkG_j) hb)
  replace BKd := As_ (blk_below (g := gbd) (o := .cells #[.string x0] 9 (0, 0)) (bkG_d) hb)
  replace BKt := As_ (blk_below (g := gbt) (o := .cells #[.string x0, .string x1, .string x2, .string x3, .string x4] 23 (0, 0)) (bkG_t) hb)
  replace BKn := As_ (blk_below (g := gbn) (o := .cells #[.int .i64 N] 3 (0, 0)) (bkG_n) hb)
  clear hb
  refine hK.out _ _ ⟨HeldC.of BKj.out, HeldC.of BKd.out⟩ (fun hHeld => ?_)
  clear hK K
  refine norm_ (a' := ?_) ?_ ?_
  rotate_left
  ·show Act.put _ (some 27) _ = _
   simp only [Act.put, List.setIfInBounds_toArray, List.set_cons_zero, List.set_cons_succ, i64_w, i32_w]
   rfl
  refine one_ (i := 4) (N := some 28) #[true, true, true, true, true] rfl rfl (by kernel_rfl) (by decide) (fun K hK => ?_)
  refine goes_ Tryz.func30 (by kernel_rfl) rfl #[.pointer (some ⟨g, 0, none⟩), .string kA] (by rfl) rfl rfl ap16_ ?_
  refine (js_del kA HJ.out hk2).mono ?_
  rintro e w4 ⟨rfl, hj, hk⟩
  refine ⟨_, rfl, ?_⟩
  replace HK := As_ (HK.out.trans hk)
  replace HJ := As_ (hj)
  replace BKj := As_ (JK.blk (b := gbj) (c := #[.pointer (some ⟨g, 0, none⟩)]) (q := 34) (x := (0, 0)) hk (bkG_j) (by decide))
  replace BKd := As_ (JK.blk (b := gbd) (c := #[.string x0]) (q := 9) (x := (0, 0)) hk (bkG_d) (by decide))
  replace BKt := As_ (JK.blk (b := gbt) (c := #[.string x0, .string x1, .string x2, .string x3, .string x4]) (q := 23) (x := (0, 0)) hk (bkG_t) (by decide))
  replace BKn := As_ (JK.blk (b := gbn) (c := #[.int .i64 N]) (q := 3) (x := (0, 0)) hk (bkG_n) (by decide))
  clear hj hk
  refine hK.out _ _ ⟨HeldC.of BKj.out, HeldC.of BKd.out⟩ (fun hHeld => ?_)
  clear hK K
  refine norm_ (a' := ?_) ?_ ?_
  rotate_left
  ·show Act.put _ (some 28) _ = _
   simp only [Act.put, List.setIfInBounds_toArray, List.set_cons_zero, List.set_cons_succ, i64_w, i32_w]
   rfl
  refine done_ (by kernel_rfl) ?_
  clear hHeld
  go_upto_region 7 with (fail)
  refine start_ (n := 4) (S := fun w' => HeldC gbj #[.pointer (some ⟨g, 0, none⟩)] 34 w' ∧ HeldC gbt #[.string x0, .string x1, .string x2, .string x3, .string x4] 23 w') (ds := []) #[false, false, false, false] (by kernel_rfl) rfl rfl ⟨HeldC.of (bkG_j), HeldC.of (bkG_t)⟩ (fun hHeld => ?_)
  have n_HJ := at_world hHeld.1 (F := fun Y => JS base ok w0 g (delK cur kA) Y) (jsG)
  have n_HK := at_world hHeld.1 (F := fun Y => JK w Y) (jkG)
  have n_BKj := at_world hHeld.1 (F := fun Y => Y.heap[gbj]? = some (.cells #[.pointer (some ⟨g, 0, none⟩)] 34 (0, 0))) (bkG_j)
  have n_BKd := at_world hHeld.1 (F := fun Y => Y.heap[gbd]? = some (.cells #[.string x0] 9 (0, 0))) (bkG_d)
  have n_BKt := at_world hHeld.1 (F := fun Y => Y.heap[gbt]? = some (.cells #[.string x0, .string x1, .string x2, .string x3, .string x4] 23 (0, 0))) (bkG_t)
  have n_BKn := at_world hHeld.1 (F := fun Y => Y.heap[gbn]? = some (.cells #[.int .i64 N] 3 (0, 0))) (bkG_n)
  clear HJ HK BKj BKd BKt BKn
  have HJ := n_HJ
  have HK := n_HK
  have BKj := n_BKj
  have BKd := n_BKd
  have BKt := n_BKt
  have BKn := n_BKn
  clear n_HJ n_HK n_BKj n_BKd n_BKt n_BKn
  refine take_ (i := 0) (N := some 29) #[true, false, false, false] rfl rfl (by kernel_rfl) (fun c a w h => panic_put (t := 6) (N := 29) rfl (by decide) c a _ w h) (Or.inl ⟨by rfl, (by rintro w' ⟨s0, s1⟩; have t0_0 : w'.cell? ⟨gbj, 0, none⟩ = some (.pointer (some ⟨g, 0, none⟩)) := (blk_cell (HeldC.blk s0) 0).trans rfl; have t1_0 : w'.cell? ⟨gbt, 0, none⟩ = some (.string x0) := (blk_cell (HeldC.blk s1) 0).trans rfl; have t1_1 : w'.cell? ⟨gbt, 1, none⟩ = some (.string x1) := (blk_cell (HeldC.blk s1) 1).trans rfl; have t1_2 : w'.cell? ⟨gbt, 2, none⟩ = some (.string x2) := (blk_cell (HeldC.blk s1) 2).trans rfl; have t1_3 : w'.cell? ⟨gbt, 3, none⟩ = some (.string x3) := (blk_cell (HeldC.blk s1) 3).trans rfl; have t1_4 : w'.cell? ⟨gbt, 4, none⟩ = some (.string x4) := (blk_cell (HeldC.blk s1) 4).trans rfl; go_simp; with_reducible rfl)⟩) hHeld ap35_ ?_
  refine take_ (i := 1) (N := some 30) #[true, true, false, false] rfl rfl (by kernel_rfl) (fun c a w h => panic_put (t := 6) (N := 30) rfl (by decide) c a _ w h) (Or.inl ⟨by rfl, (by rintro w' ⟨s0, s1⟩; have t0_0 : w'.cell? ⟨gbj, 0, none⟩ = some (.pointer (some ⟨g, 0, none⟩)) := (blk_cell (HeldC.blk s0) 0).trans rfl; have t1_0 : w'.cell? ⟨gbt, 0, none⟩ = some (.string x0) := (blk_cell (HeldC.blk s1) 0).trans rfl; have t1_1 : w'.cell? ⟨gbt, 1, none⟩ = some (.string x1) := (blk_cell (HeldC.blk s1) 1).trans rfl; have t1_2 : w'.cell? ⟨gbt, 2, none⟩ = some (.string x2) := (blk_cell (HeldC.blk s1) 2).trans rfl; have t1_3 : w'.cell? ⟨gbt, 3, none⟩ = some (.string x3) := (blk_cell (HeldC.blk s1) 3).trans rfl; have t1_4 : w'.cell? ⟨gbt, 4, none⟩ = some (.string x4) := (blk_cell (HeldC.blk s1) 4).trans rfl; go_simp; with_reducible rfl)⟩) hHeld ap35_ ?_
  refine one_ (i := 2) (N := some 31) #[true, true, true, false] rfl rfl (by kernel_rfl) (by decide) (fun K hK => ?_)
  refine goes_ Tryz.func31 (by kernel_rfl) rfl #[.agg #[.string x0, .string x1, .string x2, .string x3, .string x4]] (by rfl) rfl rfl ap16_ ?_
  refine (token_own.calls k2 x0 x1 x2 x3 x4 kB _ key2).mono ?_
  rintro e w5 ⟨rfl, hb⟩
  refine ⟨_, rfl, ?_⟩
  replace HK := As_ (HK.out.trans (JK.of_below hb))
  replace HJ := As_ (JS.below (base := base) (ok := ok) (w0 := w0) (g := g) (cur := (delK cur kA)) (jsG) hb)
  replace BKj := As_ (blk_below (g := gbj) (o := .cells #[.pointer (some ⟨g, 0, none⟩)] 34 (0, 0)) (bkG_j) hb)
  replace BKd := As_ (blk_below (g := gbd) (o := .cells #[.string x0] 9 (0, 0)) (bkG_d) hb)
  replace BKt := As_ (blk_below (g := gbt) (o := .cells #[.string x0, .string x1, .string x2, .string x3, .string x4] 23 (0, 0)) (bkG_t) hb)
  replace BKn := As_ (blk_below (g := gbn) (o := .cells #[.int .i64 N] 3 (0, 0)) (bkG_n) hb)
  clear hb
  refine hK.out _ _ ⟨HeldC.of BKj.out, HeldC.of BKt.out⟩ (fun hHeld => ?_)
  clear hK K
  refine norm_ (a' := ?_) ?_ ?_
  rotate_left
  ·show Act.put _ (some 31) _ = _
   simp only [Act.put, List.setIfInBounds_toArray, List.set_cons_zero, List.set_cons_succ, i64_w, i32_w]
   rfl
  refine one_ (i := 3) (N := some 32) #[true, true, true, true] rfl rfl (by kernel_rfl) (by decide) (fun K hK => ?_)
  refine goes_ Tryz.func30 (by kernel_rfl) rfl #[.pointer (some ⟨g, 0, none⟩), .string kB] (by rfl) rfl rfl ap16_ ?_
  refine (js_del kB HJ.out hkA).mono ?_
  rintro e w6 ⟨rfl, hj, hk⟩
  refine ⟨_, rfl, ?_⟩
  replace HK := As_ (HK.out.trans hk)
  replace HJ := As_ (hj)
  replace BKj := As_ (JK.blk (b := gbj) (c := #[.pointer (some ⟨g, 0, none⟩)]) (q := 34) (x := (0, 0)) hk (bkG_j) (by decide))
  replace BKd := As_ (JK.blk (b := gbd) (c := #[.string x0]) (q := 9) (x := (0, 0)) hk (bkG_d) (by decide))
  replace BKt := As_ (JK.blk (b := gbt) (c := #[.string x0, .string x1, .string x2, .string x3, .string x4]) (q := 23) (x := (0, 0)) hk (bkG_t) (by decide))
  replace BKn := As_ (JK.blk (b := gbn) (c := #[.int .i64 N]) (q := 3) (x := (0, 0)) hk (bkG_n) (by decide))
  clear hj hk
  refine hK.out _ _ ⟨HeldC.of BKj.out, HeldC.of BKt.out⟩ (fun hHeld => ?_)
  clear hK K
  refine norm_ (a' := ?_) ?_ ?_
  rotate_left
  ·show Act.put _ (some 32) _ = _
   simp only [Act.put, List.setIfInBounds_toArray, List.set_cons_zero, List.set_cons_succ, i64_w, i32_w]
   rfl
  refine done_ (by kernel_rfl) ?_
  clear hHeld
  go_upto_region 8 with (fail)
  refine start_ (n := 5) (S := fun w' => HeldC gbj #[.pointer (some ⟨g, 0, none⟩)] 34 w' ∧ HeldC gbd #[.string x0] 9 w') (ds := []) #[false, false, false, false, false] (by kernel_rfl) rfl rfl ⟨HeldC.of (bkG_j), HeldC.of (bkG_d)⟩ (fun hHeld => ?_)
  have n_HJ := at_world hHeld.1 (F := fun Y => JS base ok w0 g (delK (delK cur kA) kB) Y) (jsG)
  have n_HK := at_world hHeld.1 (F := fun Y => JK w Y) (jkG)
  have n_BKj := at_world hHeld.1 (F := fun Y => Y.heap[gbj]? = some (.cells #[.pointer (some ⟨g, 0, none⟩)] 34 (0, 0))) (bkG_j)
  have n_BKd := at_world hHeld.1 (F := fun Y => Y.heap[gbd]? = some (.cells #[.string x0] 9 (0, 0))) (bkG_d)
  have n_BKt := at_world hHeld.1 (F := fun Y => Y.heap[gbt]? = some (.cells #[.string x0, .string x1, .string x2, .string x3, .string x4] 23 (0, 0))) (bkG_t)
  have n_BKn := at_world hHeld.1 (F := fun Y => Y.heap[gbn]? = some (.cells #[.int .i64 N] 3 (0, 0))) (bkG_n)
  clear HJ HK BKj BKd BKt BKn
  have HJ := n_HJ
  have HK := n_HK
  have BKj := n_BKj
  have BKd := n_BKd
  have BKt := n_BKt
  have BKn := n_BKn
  clear n_HJ n_HK n_BKj n_BKd n_BKt n_BKn
  refine take_ (i := 0) (N := some 33) #[true, false, false, false, false] rfl rfl (by kernel_rfl) (fun c a w h => panic_put (t := 6) (N := 33) rfl (by decide) c a _ w h) (Or.inl ⟨by rfl, (by rintro w' ⟨s0, s1⟩; have t0_0 : w'.cell? ⟨gbj, 0, none⟩ = some (.pointer (some ⟨g, 0, none⟩)) := (blk_cell (HeldC.blk s0) 0).trans rfl; have t1_0 : w'.cell? ⟨gbd, 0, none⟩ = some (.string x0) := (blk_cell (HeldC.blk s1) 0).trans rfl; go_simp; with_reducible rfl)⟩) hHeld ap35_ ?_
  refine take_ (i := 1) (N := some 34) #[true, true, false, false, false] rfl rfl (by kernel_rfl) (fun c a w h => panic_put (t := 6) (N := 34) rfl (by decide) c a _ w h) (Or.inl ⟨by rfl, (by rintro w' ⟨s0, s1⟩; have t0_0 : w'.cell? ⟨gbj, 0, none⟩ = some (.pointer (some ⟨g, 0, none⟩)) := (blk_cell (HeldC.blk s0) 0).trans rfl; have t1_0 : w'.cell? ⟨gbd, 0, none⟩ = some (.string x0) := (blk_cell (HeldC.blk s1) 0).trans rfl; go_simp; with_reducible rfl)⟩) hHeld ap35_ ?_
  refine pure_ (i := 2) (N := some 35) #[true, true, true, false, false] rfl rfl (by kernel_rfl) (fun c a w h => panic_put (t := 6) (N := 35) rfl (by decide) c a _ w h) (Or.inl ⟨by rfl, ap2_⟩) ap35_ ?_
  refine one_ (i := 3) (N := some 36) #[true, true, true, true, false] rfl rfl (by kernel_rfl) (by decide) (fun K hK => ?_)
  refine goes_ Tryz.func32 (by kernel_rfl) rfl #[.string x0, .string x1] (by rfl) rfl rfl ap16_ ?_
  refine (token_may.calls k3 x0 x1 kC _ key3).mono ?_
  rintro e w7 ⟨rfl, hb⟩
  refine ⟨_, rfl, ?_⟩
  replace HK := As_ (HK.out.trans (JK.of_below hb))
  replace HJ := As_ (JS.below (base := base) (ok := ok) (w0 := w0) (g := g) (cur := (delK (delK cur kA) kB)) (jsG) hb)
  replace BKj := As_ (blk_below (g := gbj) (o := .cells #[.pointer (some ⟨g, 0, none⟩)] 34 (0, 0)) (bkG_j) hb)
  replace BKd := As_ (blk_below (g := gbd) (o := .cells #[.string x0] 9 (0, 0)) (bkG_d) hb)
  replace BKt := As_ (blk_below (g := gbt) (o := .cells #[.string x0, .string x1, .string x2, .string x3, .string x4] 23 (0, 0)) (bkG_t) hb)
  replace BKn := As_ (blk_below (g := gbn) (o := .cells #[.int .i64 N] 3 (0, 0)) (bkG_n) hb)
  clear hb
  refine hK.out _ _ ⟨HeldC.of BKj.out, HeldC.of BKd.out⟩ (fun hHeld => ?_)
  clear hK K
  refine norm_ (a' := ?_) ?_ ?_
  rotate_left
  ·show Act.put _ (some 36) _ = _
   simp only [Act.put, List.setIfInBounds_toArray, List.set_cons_zero, List.set_cons_succ, i64_w, i32_w]
   rfl
  refine one_ (i := 4) (N := some 37) #[true, true, true, true, true] rfl rfl (by kernel_rfl) (by decide) (fun K hK => ?_)
  refine goes_ Tryz.func30 (by kernel_rfl) rfl #[.pointer (some ⟨g, 0, none⟩), .string kC] (by rfl) rfl rfl ap16_ ?_
  refine (js_del kC HJ.out hkB).mono ?_
  rintro e w8 ⟨rfl, hj, hk⟩
  refine ⟨_, rfl, ?_⟩
  replace HK := As_ (HK.out.trans hk)
  replace HJ := As_ (hj)
  replace BKj := As_ (JK.blk (b := gbj) (c := #[.pointer (some ⟨g, 0, none⟩)]) (q := 34) (x := (0, 0)) hk (bkG_j) (by decide))
  replace BKd := As_ (JK.blk (b := gbd) (c := #[.string x0]) (q := 9) (x := (0, 0)) hk (bkG_d) (by decide))
  replace BKt := As_ (JK.blk (b := gbt) (c := #[.string x0, .string x1, .string x2, .string x3, .string x4]) (q := 23) (x := (0, 0)) hk (bkG_t) (by decide))
  replace BKn := As_ (JK.blk (b := gbn) (c := #[.int .i64 N]) (q := 3) (x := (0, 0)) hk (bkG_n) (by decide))
  clear hj hk
  refine hK.out _ _ ⟨HeldC.of BKj.out, HeldC.of BKd.out⟩ (fun hHeld => ?_)
  clear hK K
  refine norm_ (a' := ?_) ?_ ?_
  rotate_left
  ·show Act.put _ (some 37) _ = _
   simp only [Act.put, List.setIfInBounds_toArray, List.set_cons_zero, List.set_cons_succ, i64_w, i32_w]
   rfl
  refine done_ (by kernel_rfl) ?_
  clear hHeld
  subst hcur
  go_wp2
  refine leaves_cons (f := 29) (args := #[.pointer (some ⟨gbj, 0, none⟩), .pointer (some ⟨gbd, 0, none⟩), .pointer (some ⟨gbn, 0, none⟩)]) (by simp) (by simp [go_sem]) ?_
  refine (tk_burn1 gbj gbd gbn x0 N HJ.out hkC hid BKj.out BKd.out BKn.out HW.out).mono ?_
  rintro e u' w9 ⟨rfl, rfl, hj, hk⟩
  exact ⟨_, results_tmp rfl _ _ _, rfl, hj, HK.out.trans hk⟩
 ·rw [if_neg z0] at hcur
  subst hcur
  go_wp2_with (first | ((with_reducible refine gate_dst (N := 7) rfl ?_); refine bxE (N := 7) (cs := #[.string ⟨#[]⟩, .string ⟨#[]⟩, .string ⟨#[]⟩, .string ⟨#[]⟩, .string ⟨#[]⟩]) (t := 23) ?_; intro gbt hg wt hbox hb; have GKt := As_ ((by rw [hg]; exact JK.size (jkG) : w.heap.size ≤ gbt)); have GJt := As_ ((by rw [hg]; exact JS.size0 (base := base) (ok := ok) (w0 := w0) (g := g) (cur := cur) (jsG) : w0.heap.size ≤ gbt)); have NBj_t := As_ ((by rw [hg]; exact Nat.ne_of_lt (blk_lt (g := gbj) (o := .cells #[.pointer (some ⟨g, 0, none⟩)] 34 (0, 0)) (bkG_j)) : gbj ≠ gbt)); have NBt_j := As_ ((by rw [hg]; exact Nat.ne_of_gt (blk_lt (g := gbj) (o := .cells #[.pointer (some ⟨g, 0, none⟩)] 34 (0, 0)) (bkG_j)) : gbt ≠ gbj)); have NBd_t := As_ ((by rw [hg]; exact Nat.ne_of_lt (blk_lt (g := gbd) (o := .cells #[.string c] 9 (0, 0)) (bkG_d)) : gbd ≠ gbt)); have NBt_d := As_ ((by rw [hg]; exact Nat.ne_of_gt (blk_lt (g := gbd) (o := .cells #[.string c] 9 (0, 0)) (bkG_d)) : gbt ≠ gbd)); replace HK := As_ (HK.out.trans (JK.of_below hb)); replace HJ := As_ (JS.below (base := base) (ok := ok) (w0 := w0) (g := g) (cur := cur) (jsG) hb); replace BKj := As_ (blk_below (g := gbj) (o := .cells #[.pointer (some ⟨g, 0, none⟩)] 34 (0, 0)) (bkG_j) hb); replace BKd := As_ (blk_below (g := gbd) (o := .cells #[.string c] 9 (0, 0)) (bkG_d) hb); have BKt := As_ hbox; clear hb hbox hg; obtain ⟨zt_0, ft_0, zt_1, ft_1, zt_2, ft_2, zt_3, ft_3, zt_4, ft_4⟩ := cellsN5 BKt.out; have hntj := NBt_j.out; have hmtj := NBj_t.out; have hntd := NBt_d.out; have hmtd := NBd_t.out; obtain ⟨zj_0, fj_0⟩ := cellsN1 BKj.out; have hnjd := NBj_d.out; have hmjd := NBd_j.out; have hnjt := NBj_t.out; have hmjt := NBt_j.out; obtain ⟨zd_0, fd_0⟩ := cellsN1 BKd.out; have hndj := NBd_j.out; have hmdj := NBj_d.out; have hndt := NBd_t.out; have hmdt := NBt_d.out; obtain ⟨zt_0, ft_0, zt_1, ft_1, zt_2, ft_2, zt_3, ft_3, zt_4, ft_4⟩ := cellsN5 BKt.out; have hntj := NBt_j.out; have hmtj := NBj_t.out; have hntd := NBt_d.out; have hmtd := NBd_t.out))
  first | exact ⟨_, results_tmp rfl _ _ _, rfl, jsG, jkG⟩ | (go_ret; exact ⟨rfl, jsG, jkG⟩)
theorem tk_move {base g : Nat} {ok : Nat → Prop} {w0 : World} {cur : List S82} (c i p : ByteArray) (x : Int) (cur' : List S82) {w : World} (h : JS base ok w0 g cur w) (hk1 : KV 100000 cur) (hc : c.size ≤ 50000) (hi : i.size ≤ 50000) (hp : p.size ≤ 1000000) (hx : tkMoveE cur c i p = x) (hcur : tkMove cur c i p = cur') :
  Calls Tryz.prog 9 #[.pointer (some ⟨g, 0, none⟩), .string c, .string i, .string p] w fun e w' => e = .returned (.int .i64 x) ∧ JS base ok w0 g cur' w' ∧ JK w w' := by
 obtain ⟨x0, x1, x2, x3, x4, x5, hg⟩ : ∃ a0 a1 a2 a3 a4 a5, tkGet cur c i = (a0, a1, a2, a3, a4, a5) := ⟨_, _, _, _, _, _, rfl⟩
 unfold tkMove at hcur
 rw [hx] at hcur
 unfold tkMoveE at hx
 rw [hg] at hx hcur
 replace hx : (if x5 ≠ 0 then x5 else if p.size = 0 ∨ p.size > 512 then 7 else 0) = x := hx
 replace hcur : (if x = 0 then tkKeep (delK (delK cur (tkOwn x4 c i)) (tkMay c i)) c i x2 x3 p else cur) = cur' := hcur
 have hsz := tkGet_sz hg
 have hk2 := hk1.mono (show 100000 ≤ 1000000 by omega)
 have hid : c.size ≤ 50000000 := Nat.le_trans hc (by decide)
 have hid2 : i.size ≤ 50000000 := Nat.le_trans hi (by decide)
 obtain ⟨k3, key3⟩ := tkMay_ev c i hid hid2
 have hnm := tkNamed_is p
 obtain ⟨nb, hnb⟩ : ∃ z, decide (¬ (p.size = 0 ∨ p.size > 512)) = z := ⟨_, rfl⟩
 rw [hnb] at hnm
 have AO := As_ (fun h5 : x5 = 0 => tkGet_ok hg h5)
 have A4 := As_ hsz
 have AG := As_ hg
 have HJ := As_ h
 have HK := As_ (JK.of_below (Below.refl w.heap.size w))
 clear h hg hsz
 go_enter Tryz.func9, Tryz.ntmps9
 go_wp2_with fail
 refine (tk_get c i x0 x1 x2 x3 x4 x5 HJ.out hk2 hid hid2 AG.out).mono ?_
 rintro e w1 ⟨rfl, hb⟩
 replace HK := As_ (HK.out.trans (JK.of_below hb))
 replace HJ := As_ (JS.below (base := base) (ok := ok) (w0 := w0) (g := g) (cur := cur) (jsG) hb)
 clear hb
 clear AG
 by_cases z0 : x5 = 0
 ·rw [if_neg (fun e => e z0)] at hx
  subst z0
  obtain ⟨rfl, rfl⟩ := AO.out rfl
  clear AO
  go_wp2_with (first | ((with_reducible refine gate_dst (N := 9) rfl ?_); refine bxE (N := 9) (cs := #[.string ⟨#[]⟩, .string ⟨#[]⟩, .string ⟨#[]⟩, .string ⟨#[]⟩, .string ⟨#[]⟩]) (t := 23) ?_; intro gbt hg wt hbox hb; have GKt := As_ ((by rw [hg]; exact JK.size (jkG) : w.heap.size ≤ gbt)); have GJt := As_ ((by rw [hg]; exact JS.size0 (base := base) (ok := ok) (w0 := w0) (g := g) (cur := cur) (jsG) : w0.heap.size ≤ gbt)); replace HK := As_ (HK.out.trans (JK.of_below hb)); replace HJ := As_ (JS.below (base := base) (ok := ok) (w0 := w0) (g := g) (cur := cur) (jsG) hb); have BKt := As_ hbox; clear hb hbox hg; obtain ⟨zt_0, ft_0, zt_1, ft_1, zt_2, ft_2, zt_3, ft_3, zt_4, ft_4⟩ := cellsN5 BKt.out; obtain ⟨zt_0, ft_0, zt_1, ft_1, zt_2, ft_2, zt_3, ft_3, zt_4, ft_4⟩ := cellsN5 BKt.out))
  refine (token_named.calls p nb _ hnm).mono ?_
  rintro e w2 ⟨rfl, hdr⟩
  have hb := hdr.below
  clear hdr
  replace HK := As_ ((jkG : JK _ _).trans (JK.of_below hb))
  replace HJ := As_ (JS.below (base := base) (ok := ok) (w0 := w0) (g := g) (cur := cur) (jsG) hb)
  replace BKt := As_ (blk_below (g := gbt) (o := .cells #[.string x0, .string x1, .string x2, .string x3, .string x4] 23 (0, 0)) (bkG_t) hb)
  clear hb
  obtain ⟨zt_0, ft_0, zt_1, ft_1, zt_2, ft_2, zt_3, ft_3, zt_4, ft_4⟩ := cellsN5 BKt.out
  cases nb with
  | false =>
   have z2 := Classical.not_not.1 (of_decide_eq_false hnb)
   rw [if_pos z2] at hx
   subst hx
   rw [if_neg (by decide)] at hcur
   subst hcur
   clear z2 hnb
   go_wp2
   go_ret
   exact ⟨rfl, jsG, jkG⟩
  | true =>
   have z2 := of_decide_eq_true hnb
   rw [if_neg z2] at hx
   subst hx
   rw [if_pos rfl] at hcur
   clear z2 hnb
   obtain ⟨k2, key2⟩ := tkOwn_ev x0 x1 x2 x3 x4 hid hid2 (Nat.le_trans A4.out.2.2 (by decide))
   have hkA := hk1.del (tkOwn x4 x0 x1)
   have hkB := (hkA.del (tkMay x0 x1)).mono (show 100000 ≤ 900000 by omega)
   replace hkA := hkA.mono (show 100000 ≤ 1000000 by omega)
   generalize tkOwn x4 x0 x1 = kB at key2 hcur hkA hkB
   generalize tkMay x0 x1 = kC at key3 hcur hkB
   go_wp2_with fail
   refine (token_own.calls k2 x0 x1 x2 x3 x4 kB _ key2).mono ?_
   rintro e w3 ⟨rfl, hb⟩
   replace HK := As_ (HK.out.trans (JK.of_below hb))
   replace HJ := As_ (JS.below (base := base) (ok := ok) (w0 := w0) (g := g) (cur := cur) (jsG) hb)
   replace BKt := As_ (blk_below (g := gbt) (o := .cells #[.string x0, .string x1, .string x2, .string x3, .string x4] 23 (0, 0)) (bkG_t) hb)
   clear hb
   obtain ⟨zt_0, ft_0, zt_1, ft_1, zt_2, ft_2, zt_3, ft_3, zt_4, ft_4⟩ := cellsN5 BKt.out
   go_wp2_with fail
   refine (js_del kB HJ.out hk2).mono ?_
   rintro e w4 ⟨rfl, hj, hk⟩
   replace HK := As_ (HK.out.trans hk)
   replace HJ := As_ (hj)
   replace BKt := As_ (JK.blk (b := gbt) (c := #[.string x0, .string x1, .string x2, .string x3, .string x4]) (q := 23) (x := (0, 0)) hk (bkG_t) (by decide))
   clear hj hk
   obtain ⟨zt_0, ft_0, zt_1, ft_1, zt_2, ft_2, zt_3, ft_3, zt_4, ft_4⟩ := cellsN5 BKt.out
   go_wp2_with fail
   refine (token_may.calls k3 x0 x1 kC _ key3).mono ?_
   rintro e w5 ⟨rfl, hb⟩
   replace HK := As_ (HK.out.trans (JK.of_below hb))
   replace HJ := As_ (JS.below (base := base) (ok := ok) (w0 := w0) (g := g) (cur := (delK cur kB)) (jsG) hb)
   replace BKt := As_ (blk_below (g := gbt) (o := .cells #[.string x0, .string x1, .string x2, .string x3, .string x4] 23 (0, 0)) (bkG_t) hb)
   clear hb
   obtain ⟨zt_0, ft_0, zt_1, ft_1, zt_2, ft_2, zt_3, ft_3, zt_4, ft_4⟩ := cellsN5 BKt.out
   go_wp2_with fail
   refine (js_del kC HJ.out hkA).mono ?_
   rintro e w6 ⟨rfl, hj, hk⟩
   replace HK := As_ (HK.out.trans hk)
   replace HJ := As_ (hj)
   replace BKt := As_ (JK.blk (b := gbt) (c := #[.string x0, .string x1, .string x2, .string x3, .string x4]) (q := 23) (x := (0, 0)) hk (bkG_t) (by decide))
   clear hj hk
   obtain ⟨zt_0, ft_0, zt_1, ft_1, zt_2, ft_2, zt_3, ft_3, zt_4, ft_4⟩ := cellsN5 BKt.out
   go_wp2_with fail
   refine (tk_keep (base := base) (ok := ok) (w0 := w0) (g := g) (cur := (delK (delK cur kB) kC)) x0 x1 x2 x3 p (jsG) hkB hid hid2 (Nat.le_trans A4.out.1 (by decide)) (Nat.le_trans A4.out.2.1 (by decide)) hp).mono ?_
   rintro e w7 ⟨rfl, hj, hk⟩
   rw [hcur] at hj
   replace HK := As_ ((jkG : JK _ _).trans hk)
   replace HJ := As_ (hj)
   replace BKt := As_ (JK.blk (b := gbt) (c := #[.string x0, .string x1, .string x2, .string x3, .string p]) (q := 23) (x := (0, 0)) hk (bkG_t) (by decide))
   clear hj hk
   go_wp2
   go_ret
   exact ⟨rfl, HJ.out, HK.out⟩
 ·rw [if_pos z0] at hx
  subst hx
  rw [if_neg z0] at hcur
  subst hcur
  go_wp2_with (first | ((with_reducible refine gate_dst (N := 9) rfl ?_); refine bxE (N := 9) (cs := #[.string ⟨#[]⟩, .string ⟨#[]⟩, .string ⟨#[]⟩, .string ⟨#[]⟩, .string ⟨#[]⟩]) (t := 23) ?_; intro gbt hg wt hbox hb; have GKt := As_ ((by rw [hg]; exact JK.size (jkG) : w.heap.size ≤ gbt)); have GJt := As_ ((by rw [hg]; exact JS.size0 (base := base) (ok := ok) (w0 := w0) (g := g) (cur := cur) (jsG) : w0.heap.size ≤ gbt)); replace HK := As_ (HK.out.trans (JK.of_below hb)); replace HJ := As_ (JS.below (base := base) (ok := ok) (w0 := w0) (g := g) (cur := cur) (jsG) hb); have BKt := As_ hbox; clear hb hbox hg; obtain ⟨zt_0, ft_0, zt_1, ft_1, zt_2, ft_2, zt_3, ft_3, zt_4, ft_4⟩ := cellsN5 BKt.out; obtain ⟨zt_0, ft_0, zt_1, ft_1, zt_2, ft_2, zt_3, ft_3, zt_4, ft_4⟩ := cellsN5 BKt.out))
  go_ret
  exact ⟨rfl, jsG, jkG⟩
end Go.Proofs.YtjappgjpikbdeaaGreatDoor.PTkp
