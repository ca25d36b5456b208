-- written by wip/myprint.py over the kit's print; not a printed text of print.sh
import Derived.Test.YtjappgjpikbdeaaGreatDoorPTkkx0
import Derived.Test.YtjappgjpikbdeaaGreatDoorPTkkx3
import Derived.Test.YtjappgjpikbdeaaGreatDoorPTkkx15
import Derived.Test.YtjappgjpikbdeaaGreatDoorPTkkx16
import Derived.Test.YtjappgjpikbdeaaGreatDoorPTkkx17
import Derived.Test.YtjappgjpikbdeaaGreatDoorPTkkx21
import Derived.Test.YtjappgjpikbdeaaGreatDoorPTkkx22
import Derived.Test.YtjappgjpikbdeaaGreatDoorPTkkx23
import Derived.Test.YtjappgjpikbdeaaGreatDoorPTkkx31
namespace Go.Proofs.YtjappgjpikbdeaaGreatDoor.PTkk
open Go.RowKit Go.Proofs.YtjappgjpikbdeaaGreatDoorW.PrintWords Go.Proofs.YtjappgjpikbdeaaGreatDoorW.PrintLast Go.Proofs.YtjappgjpikbdeaaGreatDoorW.PrintMore
attribute [local go_sem] max2_int min2_int max_two min_two max_three min_three max_four min_four   -- for this text's walks alone
set_option linter.unusedVariables false
set_option linter.unusedSimpArgs false

/-! ### words: tkback.inc -/
/-! ### there and back -/
theorem getK_keep {cur : List S82} (hs : sortK cur) (c i u d o k : ByteArray) (hc : c.size ≤ 1000) (hi : i.size ≤ 1000) (ho : o.size ≤ 1000) (hu : u.size ≤ 32768) (hd : d.size ≤ 16384) :
    getK (tkKeep cur c i u d o) k = if k = tkOwn o c i then ((⟨#[1]⟩ : ByteArray), true) else if k = tkKey c i then (valB [u, d, o], true) else getK cur k := by
  have l1 := tkKey_len c i
  have l2 := tkOwn_len o c i
  have l3 := val3_len u d o
  have e1 : ¬ ((tkOwn o c i).size > 65536 ∨ (⟨#[1]⟩ : ByteArray).size > 65536) := by rw [show (⟨#[1]⟩ : ByteArray).size = 1 from rfl]; omega
  have e2 : ¬ ((tkKey c i).size > 65536 ∨ (valB [u, d, o]).size > 65536) := by omega
  unfold tkKeep
  rw [getK_setC (sortK_setC hs _ _), getK_setC hs]
  by_cases h1 : k = tkOwn o c i
  · rw [if_pos ⟨h1, e1⟩, if_pos h1]
  · rw [if_neg (fun h => h1 h.1), if_neg h1]
    by_cases h2 : k = tkKey c i
    · rw [if_pos ⟨h2, e2⟩, if_pos h2]
    · rw [if_neg (fun h => h2 h.1), if_neg h2]
theorem sortK_keep {cur : List S82} (hs : sortK cur) (c i u d o : ByteArray) : sortK (tkKeep cur c i u d o) := sortK_setC (sortK_setC hs _ _) _ _
theorem tkGet_of {cur : List S82} {c i u d o : ByteArray} (h : getK cur (tkKey c i) = (valB [u, d, o], true)) (hu : u.size ≤ 32768) (hd : d.size ≤ 16384) (ho : o.size ≤ 1000) : tkGet cur c i = (c, i, u, d, o, 0) := by
  have h2 : hasK cur (tkKey c i) = true := by rw [← getK_has, h]
  unfold tkGet
  rw [h, h2]
  dsimp only
  rw [txt3_val u d o (by omega) (by omega) (by omega)]
  exact if_pos ⟨rfl, rfl⟩
/-- A minted token's store, at each key. -/
structure Minted (S0 S1 : List S82) (c i u d o : ByteArray) : Prop where
  s0 : sortK S0
  s1 : sortK S1
  at_ : ∀ k, getK S1 k = if k = tkSup c then (numB 1, true) else if k = tkOwn o c i then ((⟨#[1]⟩ : ByteArray), true) else if k = tkKey c i then (valB [u, d, o], true) else getK S0 k
  e0 : ∀ k, k ≠ keyB (⟨#[99, 108, 97, 115, 115]⟩ : ByteArray) [c] → getK S0 k = ((⟨#[]⟩ : ByteArray), false)
theorem bk_one {cur : List S82} (hs : sortK cur) (key k : ByteArray) (hk : key.size ≤ 65536) : getK (bkSet cur key 1) k = if k = key then (numB 1, true) else getK cur k := by
  rw [getK_bk hs]
  by_cases h : k = key
  · rw [if_pos h, if_pos h]
    have hz : ¬ (key.size > 65536 ∨ (bkNum 1).size > 65536) := by have := bkNum_sz 1; omega
    unfold bkVal
    rw [if_neg (by decide), if_neg hz]
    unfold bkNum
    rw [if_neg (by omega)]
    rfl
  · rw [if_neg h, if_neg h]
theorem numK_1 {cur : List S82} {key : ByteArray} (h : getK cur key = (numB 1, true)) : numK cur key = 1 := by
  unfold numK
  rw [h]
  dsimp only
  rw [rNum_numB0 1 (by omega)]
  dsimp only
  rw [show rDone (⟨#[]⟩ : ByteArray) 0 = 0 by simp [rDone, ByteArray.toList_eq], if_pos rfl]
  rfl
theorem numK_no {cur : List S82} {key : ByteArray} (h : getK cur key = ((⟨#[]⟩ : ByteArray), false)) : numK cur key = 0 := by
  unfold numK
  rw [h]
  decide +kernel
theorem tk_minted {S0 : List S82} (hs : sortK S0) {c i u d o : ByteArray} (hc : c.size ≤ 1000) (hi : i.size ≤ 1000) (hE : tkMintE S0 c i u d o = 0) (e0 : ∀ k, k ≠ keyB (⟨#[99, 108, 97, 115, 115]⟩ : ByteArray) [c] → getK S0 k = ((⟨#[]⟩ : ByteArray), false)) :
    Minted S0 (tkMint S0 c i u d o) c i u d o ∧ (o.size ≠ 0 ∧ o.size ≤ 512) ∧ u.size ≤ 32768 ∧ d.size ≤ 16384 := by
  have hE' := hE
  unfold tkMintE at hE'
  by_cases h1 : (clGet S0 c).2.2.2.2 ≠ 0
  · rw [if_pos h1] at hE'; exact absurd hE' h1
  rw [if_neg h1] at hE'
  by_cases h2 : nm_checkSpec 5 i ≠ 0 ∨ o.size = 0 ∨ o.size > 512
  · rw [if_pos h2] at hE'; exact absurd hE' (by decide)
  rw [if_neg h2] at hE'
  by_cases h3 : u.size > 32768 ∨ d.size > 16384
  · rw [if_pos h3] at hE'; exact absurd hE' (by decide)
  have ho : o.size ≠ 0 ∧ o.size ≤ 512 := ⟨fun e => h2 (.inr (.inl e)), by omega⟩
  refine ⟨?_, ho, by omega, by omega⟩
  have hn : numK S0 (tkSup c) = 0 := numK_no (e0 _ (ne_SupCls c c))
  unfold tkMint
  rw [if_pos hE, hn]
  have hk := sortK_keep hs c i u d o
  refine ⟨hs, sortK_bk hk _ _, fun k => ?_, e0⟩
  have hl := tkSup_len c
  rw [show (0 : Int) + 1 = 1 from rfl, bk_one hk _ _ (by omega), getK_keep hs c i u d o k hc hi (by omega) (by omega) (by omega)]
theorem Minted.get {S0 S1 : List S82} {c i u d o : ByteArray} (h : Minted S0 S1 c i u d o) (hu : u.size ≤ 32768) (hd : d.size ≤ 16384) (ho : o.size ≤ 1000) : tkGet S1 c i = (c, i, u, d, o, 0) := by
  refine tkGet_of ?_ hu hd ho
  rw [h.at_, if_neg (ne_KeySup c i c), if_neg (ne_KeyOwn c i o c i), if_pos rfl]
/-- Moved: the store at each key. -/
theorem tk_moved {S1 : List S82} (hs : sortK S1) {c i u d o p : ByteArray} (hg : tkGet S1 c i = (c, i, u, d, o, 0)) (hp : ¬ (p.size = 0 ∨ p.size > 512)) :
    tkMoveE S1 c i p = 0 ∧ tkMove S1 c i p = tkKeep (delK (delK S1 (tkOwn o c i)) (tkMay c i)) c i u d p := by
  have hE : tkMoveE S1 c i p = 0 := by
    unfold tkMoveE
    rw [hg]
    show (if (0 : Int) ≠ 0 then _ else _) = _
    rw [if_neg (by decide), if_neg hp]
  refine ⟨hE, ?_⟩
  unfold tkMove
  rw [if_pos hE, hg]
  rfl
theorem tk_there_back {S0 S1 : List S82} {c i u d o p : ByteArray} (h : Minted S0 S1 c i u d o) (hc : c.size ≤ 1000) (hi : i.size ≤ 1000) (hu : u.size ≤ 32768) (hd : d.size ≤ 16384) (ho : o.size ≠ 0 ∧ o.size ≤ 512) (hp : ¬ (p.size = 0 ∨ p.size > 512)) :
    tkMoveE (tkMove S1 c i p) c i o = 0 ∧ tkMove (tkMove S1 c i p) c i o = S1 := by
  have g1 := h.get hu hd (by omega)
  obtain ⟨_, m1⟩ := tk_moved h.s1 g1 hp
  have s2 := sortK_del (sortK_del h.s1 (tkOwn o c i)) (tkMay c i)
  have k2 := fun k => getK_keep s2 c i u d p k hc hi (by omega) hu hd
  have s3 := sortK_keep s2 c i u d p
  rw [m1]
  have g2 : tkGet (tkKeep (delK (delK S1 (tkOwn o c i)) (tkMay c i)) c i u d p) c i = (c, i, u, d, p, 0) := by
    refine tkGet_of ?_ hu hd (by omega)
    rw [k2, if_neg (ne_KeyOwn c i p c i), if_pos rfl]
  obtain ⟨e3, m3⟩ := tk_moved s3 g2 (p := o) (by omega)
  refine ⟨e3, ?_⟩
  rw [m3]
  have s4 := sortK_del (sortK_del s3 (tkOwn p c i)) (tkMay c i)
  refine sortK_get (sortK_keep s4 c i u d o) h.s1 (fun k => ?_)
  rw [getK_keep s4 c i u d o k hc hi (by omega) hu hd]
  by_cases a1 : k = tkOwn o c i
  · rw [if_pos a1, h.at_, if_neg (fun e => ne_OwnSup o c i c (a1 ▸ e)), if_pos a1]
  rw [if_neg a1]
  by_cases a2 : k = tkKey c i
  · rw [if_pos a2, h.at_, if_neg (fun e => ne_KeySup c i c (a2 ▸ e)), if_neg a1, if_pos a2]
  rw [if_neg a2, getK_delK (sortK_del s3 _)]
  by_cases a3 : k = tkMay c i
  · rw [if_pos a3, h.at_, if_neg (fun e => ne_MaySup c i c (a3 ▸ e)), if_neg a1, if_neg a2, h.e0 k (fun e => ne_MayCls c i c (a3 ▸ e))]
  rw [if_neg a3, getK_delK s3]
  by_cases a5 : k = tkOwn p c i
  · rw [if_pos a5, h.at_, if_neg (fun e => ne_OwnSup p c i c (a5 ▸ e)), if_neg a1, if_neg a2, h.e0 k (fun e => ne_OwnCls p c i c (a5 ▸ e))]
  rw [if_neg a5, k2, if_neg a5, if_neg a2, getK_delK (sortK_del h.s1 _), if_neg a3, getK_delK h.s1, if_neg a1]
/-- Burnt: as it was. -/
theorem tk_burnt {S0 S1 : List S82} {c i u d o : ByteArray} (h : Minted S0 S1 c i u d o) (hu : u.size ≤ 32768) (hd : d.size ≤ 16384) (ho : o.size ≠ 0 ∧ o.size ≤ 512) :
    tkE (tkGet S1 c i) = 0 ∧ tkBurn S1 c i = S0 := by
  have g1 := h.get hu hd (by omega)
  have hE : tkE (tkGet S1 c i) = 0 := by rw [g1]; rfl
  refine ⟨hE, ?_⟩
  have hn : numK S1 (tkSup c) = 1 := numK_1 (by rw [h.at_, if_pos rfl])
  unfold tkBurn
  rw [if_pos hE, g1, hn]
  show bkSet (tkBurn3 S1 c i o) (tkSup c) (1 - 1) = _
  unfold bkSet tkBurn3
  rw [if_pos (by decide)]
  have s1 := sortK_del h.s1 (tkKey c i)
  have s2 := sortK_del s1 (tkOwn o c i)
  have s3 := sortK_del s2 (tkMay c i)
  refine sortK_get (sortK_del s3 (tkSup c)) h.s0 (fun k => ?_)
  rw [getK_delK s3]
  by_cases a4 : k = tkSup c
  · rw [if_pos a4, h.e0 k (fun e => ne_SupCls c c (a4 ▸ e))]
  rw [if_neg a4, getK_delK s2]
  by_cases a3 : k = tkMay c i
  · rw [if_pos a3, h.e0 k (fun e => ne_MayCls c i c (a3 ▸ e))]
  rw [if_neg a3, getK_delK s1]
  by_cases a1 : k = tkOwn o c i
  · rw [if_pos a1, h.e0 k (fun e => ne_OwnCls o c i c (a1 ▸ e))]
  rw [if_neg a1, getK_delK h.s1]
  by_cases a2 : k = tkKey c i
  · rw [if_pos a2, h.e0 k (fun e => ne_KeyCls c i c (a2 ▸ e))]
  rw [if_neg a2, h.at_, if_neg a4, if_neg a1, if_neg a2]

/-! ### words: tkaw.inc -/
/-! ### where the laws begin; what the examples do -/
def begK (l : List ByteArray) : List S82 := l.foldl (fun cur x => clNew cur x (⟨#[117]⟩ : ByteArray) (⟨#[]⟩ : ByteArray) (⟨#[97, 108]⟩ : ByteArray)) []
theorem begK_snoc (l : List ByteArray) (x : ByteArray) : begK (l ++ [x]) = clNew (begK l) x (⟨#[117]⟩ : ByteArray) (⟨#[]⟩ : ByteArray) (⟨#[97, 108]⟩ : ByteArray) := by unfold begK; rw [List.foldl_append]; rfl
theorem begK_take (l : List ByteArray) (i : Nat) (h : i < l.length) : begK (l.take (i + 1)) = clNew (begK (l.take i)) l[i] (⟨#[117]⟩ : ByteArray) (⟨#[]⟩ : ByteArray) (⟨#[97, 108]⟩ : ByteArray) := by rw [List.take_add_one, List.getElem?_eq_getElem h]; exact begK_snoc _ _
theorem clNew_KV1 {n : Nat} {cur : List S82} (h : KV n cur) (c0 c1 c2 c3 : ByteArray) : KV (n + 1) (clNew cur c0 c1 c2 c3) := by
  unfold clNew
  repeat' split
  all_goals first | exact h.mono (Nat.le_succ _) | exact h.put _ _
theorem begK_KV_go : ∀ (l : List ByteArray) (n : Nat) (cur : List S82), KV n cur → KV (n + l.length) (l.foldl (fun cur x => clNew cur x (⟨#[117]⟩ : ByteArray) (⟨#[]⟩ : ByteArray) (⟨#[97, 108]⟩ : ByteArray)) cur)
  | [], n, cur, h => h
  | x :: l, n, cur, h => by
    have := begK_KV_go l (n + 1) _ (clNew_KV1 h x (⟨#[117]⟩ : ByteArray) (⟨#[]⟩ : ByteArray) (⟨#[97, 108]⟩ : ByteArray))
    rw [List.foldl_cons, List.length_cons, show n + (l.length + 1) = n + 1 + l.length by omega]
    exact this
theorem begK_KV (l : List ByteArray) : KV l.length (begK l) := by
  have := begK_KV_go l 0 [] (KV.nil 0)
  rw [Nat.zero_add] at this
  exact this
theorem keyCls_len (c : ByteArray) : (keyB (⟨#[99, 108, 97, 115, 115]⟩ : ByteArray) [c]).size ≤ 11 + 2 * c.size := by
  have h1 := hidL_len ((⟨#[99, 108, 97, 115, 115]⟩ : ByteArray)).toList
  have h2 := hidL_len c.toList
  rw [← ba_size] at h1 h2
  have h3 : ((⟨#[99, 108, 97, 115, 115]⟩ : ByteArray)).size = 5 := rfl
  unfold keyB keyL glue
  rw [ofL_size]
  simp only [List.map_cons, List.map_nil, List.flatMap_cons, List.flatMap_nil, List.length_append, List.length_cons, List.length_nil]
  omega
theorem beg1 {c : ByteArray} (h1 : ¬ c.size = 0) (h2 : c.size ≤ 512) : sortK (begK [c]) ∧ ∀ k, getK (begK [c]) k = if k = keyB (⟨#[99, 108, 97, 115, 115]⟩ : ByteArray) [c] then (valB [(⟨#[117]⟩ : ByteArray), (⟨#[]⟩ : ByteArray), (⟨#[97, 108]⟩ : ByteArray)], true) else ((⟨#[]⟩ : ByteArray), false) := by
  have so : sortK ([] : List S82) := List.Pairwise.nil
  have hl := keyCls_len c
  have hv : (valB [(⟨#[117]⟩ : ByteArray), (⟨#[]⟩ : ByteArray), (⟨#[97, 108]⟩ : ByteArray)]).size ≤ 65536 := by decide +kernel
  have a1 : ¬ (c.size = 0 ∨ c.size > 512 ∨ (⟨#[97, 108]⟩ : ByteArray).size > 512) := by rw [show (⟨#[97, 108]⟩ : ByteArray).size = 2 from rfl]; omega
  have a2 : ¬ ((⟨#[117]⟩ : ByteArray).size > 32768 ∨ (⟨#[]⟩ : ByteArray).size > 16384) := by decide
  have a3 : ¬ (hasK ([] : List S82) (keyB (⟨#[99, 108, 97, 115, 115]⟩ : ByteArray) [c]) = true) := fun e => Bool.noConfusion (show false = true from e)
  have e : begK [c] = setC [] (keyB (⟨#[99, 108, 97, 115, 115]⟩ : ByteArray) [c]) (valB [(⟨#[117]⟩ : ByteArray), (⟨#[]⟩ : ByteArray), (⟨#[97, 108]⟩ : ByteArray)]) := by
    show clNew [] c (⟨#[117]⟩ : ByteArray) (⟨#[]⟩ : ByteArray) (⟨#[97, 108]⟩ : ByteArray) = _
    unfold clNew
    rw [if_neg a1, if_neg a2, if_neg a3]
  rw [e]
  refine ⟨sortK_setC so _ _, fun k => ?_⟩
  rw [getK_setC so]
  by_cases h : k = keyB (⟨#[99, 108, 97, 115, 115]⟩ : ByteArray) [c]
  · rw [if_pos ⟨h, by omega⟩, if_pos h]
  · rw [if_neg (fun e => h e.1), if_neg h]; rfl
theorem keyCls_inj {a b : ByteArray} (h : keyB (⟨#[99, 108, 97, 115, 115]⟩ : ByteArray) [a] = keyB (⟨#[99, 108, 97, 115, 115]⟩ : ByteArray) [b]) : a = b := by
  unfold keyB keyL glue at h
  have h2 := ofL_inj h
  simp only [List.map_cons, List.map_nil, List.flatMap_cons, List.flatMap_nil, List.append_nil, List.append_cancel_left_eq, List.cons.injEq, true_and] at h2
  exact ba_ext (hidL_inj _ _ h2)
theorem clGet_yes {cur : List S82} {c : ByteArray} (h : getK cur (keyB (⟨#[99, 108, 97, 115, 115]⟩ : ByteArray) [c]) = (valB [(⟨#[117]⟩ : ByteArray), (⟨#[]⟩ : ByteArray), (⟨#[97, 108]⟩ : ByteArray)], true)) : (clGet cur c).2.2.2.2 = 0 := by
  have h2 : hasK cur (keyB (⟨#[99, 108, 97, 115, 115]⟩ : ByteArray) [c]) = true := by rw [← getK_has, h]
  unfold clGet
  rw [h, h2]
  dsimp only
  rw [txt3_val (⟨#[117]⟩ : ByteArray) (⟨#[]⟩ : ByteArray) (⟨#[97, 108]⟩ : ByteArray) (by decide) (by decide) (by decide)]
  rw [if_pos ⟨rfl, rfl⟩]
theorem clGet_no {cur : List S82} {c : ByteArray} (h : getK cur (keyB (⟨#[99, 108, 97, 115, 115]⟩ : ByteArray) [c]) = ((⟨#[]⟩ : ByteArray), false)) : (clGet cur c).2.2.2.2 = 8 := by
  have h2 : hasK cur (keyB (⟨#[99, 108, 97, 115, 115]⟩ : ByteArray) [c]) = false := by rw [← getK_has, h]
  unfold clGet
  rw [h2, if_neg (fun e => Bool.noConfusion e.1)]
theorem tkGet_no {cur : List S82} {c i : ByteArray} (h : getK cur (tkKey c i) = ((⟨#[]⟩ : ByteArray), false)) : tkGet cur c i = ((⟨#[]⟩ : ByteArray), (⟨#[]⟩ : ByteArray), (⟨#[]⟩ : ByteArray), (⟨#[]⟩ : ByteArray), (⟨#[]⟩ : ByteArray), 8) := by
  have h2 : hasK cur (tkKey c i) = false := by rw [← getK_has, h]
  unfold tkGet
  rw [h2, if_neg (fun e => Bool.noConfusion e.1)]
theorem mint_yes {cur : List S82} {c i u d o : ByteArray} (h : getK cur (keyB (⟨#[99, 108, 97, 115, 115]⟩ : ByteArray) [c]) = (valB [(⟨#[117]⟩ : ByteArray), (⟨#[]⟩ : ByteArray), (⟨#[97, 108]⟩ : ByteArray)], true)) (hi : nm_checkSpec 5 i = 0) (ho : ¬ (o.size = 0 ∨ o.size > 512)) (hu : ¬ (u.size > 32768 ∨ d.size > 16384)) (b : Bool) (hb : hasK cur (tkKey c i) = b) : tkMintE cur c i u d o = if b = true then 9 else 0 := by
  unfold tkMintE
  rw [clGet_yes h, if_neg (fun e => e rfl), if_neg (fun e => e.elim (fun e => e hi) ho), if_neg hu, hb]
theorem mint_no {cur : List S82} {c : ByteArray} (h : getK cur (keyB (⟨#[99, 108, 97, 115, 115]⟩ : ByteArray) [c]) = ((⟨#[]⟩ : ByteArray), false)) (i u d o : ByteArray) : tkMintE cur c i u d o = 8 := by
  unfold tkMintE
  rw [clGet_no h, if_pos (by decide)]
theorem Minted.cls {S0 S1 : List S82} {c i u d o : ByteArray} (h : Minted S0 S1 c i u d o) (x : ByteArray) : getK S1 (keyB (⟨#[99, 108, 97, 115, 115]⟩ : ByteArray) [x]) = getK S0 (keyB (⟨#[99, 108, 97, 115, 115]⟩ : ByteArray) [x]) := by
  rw [h.at_, if_neg (ne_ClsSup x c), if_neg (ne_ClsOwn x o c i), if_neg (ne_ClsKey x c i)]
theorem Minted.move {S0 S1 : List S82} {c i u d o p : ByteArray} (h : Minted S0 S1 c i u d o) (hc : c.size ≤ 1000) (hi : i.size ≤ 1000) (hu : u.size ≤ 32768) (hd : d.size ≤ 16384) (ho : o.size ≤ 1000) (hp : ¬ (p.size = 0 ∨ p.size > 512)) :
    tkMoveE S1 c i p = 0 ∧ Minted S0 (tkMove S1 c i p) c i u d p := by
  obtain ⟨e1, m1⟩ := tk_moved h.s1 (h.get hu hd ho) hp
  refine ⟨e1, ?_⟩
  rw [m1]
  have s2 := sortK_del (sortK_del h.s1 (tkOwn o c i)) (tkMay c i)
  refine ⟨h.s0, sortK_keep s2 c i u d p, fun k => ?_, h.e0⟩
  rw [getK_keep s2 c i u d p k hc hi (by omega) hu hd]
  by_cases a4 : k = tkSup c
  · rw [if_pos a4, if_neg (fun e => ne_SupOwn c p c i (a4.symm.trans e)), if_neg (fun e => ne_SupKey c c i (a4.symm.trans e)), getK_delK (sortK_del h.s1 _), if_neg (fun e => ne_SupMay c c i (a4.symm.trans e)), getK_delK h.s1, if_neg (fun e => ne_SupOwn c o c i (a4.symm.trans e)), h.at_, if_pos a4]
  rw [if_neg a4]
  by_cases a5 : k = tkOwn p c i
  · rw [if_pos a5, if_pos a5]
  rw [if_neg a5, if_neg a5]
  by_cases a2 : k = tkKey c i
  · rw [if_pos a2, if_pos a2]
  rw [if_neg a2, if_neg a2, getK_delK (sortK_del h.s1 _)]
  by_cases a3 : k = tkMay c i
  · rw [if_pos a3, h.e0 k (fun e => ne_MayCls c i c (a3 ▸ e))]
  rw [if_neg a3, getK_delK h.s1]
  by_cases a1 : k = tkOwn o c i
  · rw [if_pos a1, h.e0 k (fun e => ne_OwnCls o c i c (a1 ▸ e))]
  rw [if_neg a1, h.at_, if_neg a4, if_neg a1, if_neg a2]
theorem Minted.sup {S0 S1 : List S82} {c i u d o : ByteArray} (h : Minted S0 S1 c i u d o) : numK S1 (tkSup c) = 1 := numK_1 (by rw [h.at_, if_pos rfl])
theorem run5_1 : nm_checkSpec 5 (⟨#[49]⟩ : ByteArray) = 0 := nm_eq 5 _ (by decide) 60 0 (by kernel_rfl)
/-- What the examples leave and answer. -/
structure TkAw (S0 S1 S2 : List S82) : Prop where
  k0 : KV 10 S0
  k1 : KV 10 S1
  k2 : KV 10 S2
  m1 : tkMintE S0 (⟨#[99, 97, 116]⟩ : ByteArray) (⟨#[49]⟩ : ByteArray) (⟨#[117]⟩ : ByteArray) (⟨#[100]⟩ : ByteArray) (⟨#[97, 108]⟩ : ByteArray) = 0 ∧ tkMint S0 (⟨#[99, 97, 116]⟩ : ByteArray) (⟨#[49]⟩ : ByteArray) (⟨#[117]⟩ : ByteArray) (⟨#[100]⟩ : ByteArray) (⟨#[97, 108]⟩ : ByteArray) = S1
  m2 : tkMintE S1 (⟨#[99, 97, 116]⟩ : ByteArray) (⟨#[49]⟩ : ByteArray) (⟨#[117]⟩ : ByteArray) (⟨#[100]⟩ : ByteArray) (⟨#[97, 108]⟩ : ByteArray) = 9 ∧ tkMint S1 (⟨#[99, 97, 116]⟩ : ByteArray) (⟨#[49]⟩ : ByteArray) (⟨#[117]⟩ : ByteArray) (⟨#[100]⟩ : ByteArray) (⟨#[97, 108]⟩ : ByteArray) = S1
  g1 : tkGet S1 (⟨#[99, 97, 116]⟩ : ByteArray) (⟨#[49]⟩ : ByteArray) = ((⟨#[99, 97, 116]⟩ : ByteArray), (⟨#[49]⟩ : ByteArray), (⟨#[117]⟩ : ByteArray), (⟨#[100]⟩ : ByteArray), (⟨#[97, 108]⟩ : ByteArray), 0)
  n1 : numK S1 (tkSup (⟨#[99, 97, 116]⟩ : ByteArray)) = 1
  v1 : tkMoveE S1 (⟨#[99, 97, 116]⟩ : ByteArray) (⟨#[49]⟩ : ByteArray) (⟨#[98, 111]⟩ : ByteArray) = 0 ∧ tkMove S1 (⟨#[99, 97, 116]⟩ : ByteArray) (⟨#[49]⟩ : ByteArray) (⟨#[98, 111]⟩ : ByteArray) = S2
  g2 : tkGet S2 (⟨#[99, 97, 116]⟩ : ByteArray) (⟨#[49]⟩ : ByteArray) = ((⟨#[99, 97, 116]⟩ : ByteArray), (⟨#[49]⟩ : ByteArray), (⟨#[117]⟩ : ByteArray), (⟨#[100]⟩ : ByteArray), (⟨#[98, 111]⟩ : ByteArray), 0)
  b1 : tkE (tkGet S2 (⟨#[99, 97, 116]⟩ : ByteArray) (⟨#[49]⟩ : ByteArray)) = 0 ∧ tkBurn S2 (⟨#[99, 97, 116]⟩ : ByteArray) (⟨#[49]⟩ : ByteArray) = S0
  b2 : tkE (tkGet S0 (⟨#[99, 97, 116]⟩ : ByteArray) (⟨#[49]⟩ : ByteArray)) = 8 ∧ tkBurn S0 (⟨#[99, 97, 116]⟩ : ByteArray) (⟨#[49]⟩ : ByteArray) = S0
  n0 : numK S0 (tkSup (⟨#[99, 97, 116]⟩ : ByteArray)) = 0
  m3 : tkMintE S0 (⟨#[100, 111, 103]⟩ : ByteArray) (⟨#[49]⟩ : ByteArray) (⟨#[117]⟩ : ByteArray) (⟨#[100]⟩ : ByteArray) (⟨#[97, 108]⟩ : ByteArray) = 8 ∧ tkMint S0 (⟨#[100, 111, 103]⟩ : ByteArray) (⟨#[49]⟩ : ByteArray) (⟨#[117]⟩ : ByteArray) (⟨#[100]⟩ : ByteArray) (⟨#[97, 108]⟩ : ByteArray) = S0
  v2 : tkMoveE S0 (⟨#[99, 97, 116]⟩ : ByteArray) (⟨#[50]⟩ : ByteArray) (⟨#[98, 111]⟩ : ByteArray) = 8 ∧ tkMove S0 (⟨#[99, 97, 116]⟩ : ByteArray) (⟨#[50]⟩ : ByteArray) (⟨#[98, 111]⟩ : ByteArray) = S0
theorem tk_aw : ∃ S1 S2, TkAw (begK [(⟨#[99, 97, 116]⟩ : ByteArray)]) S1 S2 := by
  obtain ⟨so, hg⟩ := beg1 (c := (⟨#[99, 97, 116]⟩ : ByteArray)) (by decide) (by decide)
  have k0 := begK_KV [(⟨#[99, 97, 116]⟩ : ByteArray)]
  obtain ⟨S0, hS0⟩ : ∃ s, begK [(⟨#[99, 97, 116]⟩ : ByteArray)] = s := ⟨_, rfl⟩
  rw [hS0] at so hg k0 ⊢
  clear hS0
  have k0' : KV 1 S0 := k0
  have e0 : ∀ k, k ≠ keyB (⟨#[99, 108, 97, 115, 115]⟩ : ByteArray) [(⟨#[99, 97, 116]⟩ : ByteArray)] → getK S0 k = ((⟨#[]⟩ : ByteArray), false) := fun k hk => by rw [hg, if_neg hk]
  have hc := hg (keyB (⟨#[99, 108, 97, 115, 115]⟩ : ByteArray) [(⟨#[99, 97, 116]⟩ : ByteArray)])
  rw [if_pos rfl] at hc
  have no1 : hasK S0 (tkKey (⟨#[99, 97, 116]⟩ : ByteArray) (⟨#[49]⟩ : ByteArray)) = false := by rw [← getK_has, e0 _ (ne_KeyCls _ _ _)]
  have E1 : tkMintE S0 (⟨#[99, 97, 116]⟩ : ByteArray) (⟨#[49]⟩ : ByteArray) (⟨#[117]⟩ : ByteArray) (⟨#[100]⟩ : ByteArray) (⟨#[97, 108]⟩ : ByteArray) = 0 := by rw [mint_yes hc run5_1 (by decide) (by decide) false no1]; rfl
  obtain ⟨M1, _, _, _⟩ := tk_minted so (by decide) (by decide) E1 e0
  obtain ⟨S1, hS1⟩ : ∃ s, tkMint S0 (⟨#[99, 97, 116]⟩ : ByteArray) (⟨#[49]⟩ : ByteArray) (⟨#[117]⟩ : ByteArray) (⟨#[100]⟩ : ByteArray) (⟨#[97, 108]⟩ : ByteArray) = s := ⟨_, rfl⟩
  have k1 := tkMint_KV k0' (⟨#[99, 97, 116]⟩ : ByteArray) (⟨#[49]⟩ : ByteArray) (⟨#[117]⟩ : ByteArray) (⟨#[100]⟩ : ByteArray) (⟨#[97, 108]⟩ : ByteArray)
  rw [hS1] at M1 k1
  have g1 := M1.get (by decide) (by decide) (by decide)
  have h1 : hasK S1 (tkKey (⟨#[99, 97, 116]⟩ : ByteArray) (⟨#[49]⟩ : ByteArray)) = true := by rw [← getK_has, M1.at_, if_neg (ne_KeySup _ _ _), if_neg (ne_KeyOwn _ _ _ _ _), if_pos rfl]
  have E2 : tkMintE S1 (⟨#[99, 97, 116]⟩ : ByteArray) (⟨#[49]⟩ : ByteArray) (⟨#[117]⟩ : ByteArray) (⟨#[100]⟩ : ByteArray) (⟨#[97, 108]⟩ : ByteArray) = 9 := by rw [mint_yes ((M1.cls _).trans hc) run5_1 (by decide) (by decide) true h1]; rfl
  obtain ⟨v1, M2⟩ := M1.move (p := (⟨#[98, 111]⟩ : ByteArray)) (by decide) (by decide) (by decide) (by decide) (by decide) (by decide)
  obtain ⟨S2, hS2⟩ : ∃ s, tkMove S1 (⟨#[99, 97, 116]⟩ : ByteArray) (⟨#[49]⟩ : ByteArray) (⟨#[98, 111]⟩ : ByteArray) = s := ⟨_, rfl⟩
  have k2 := tkMove_KV k1 (⟨#[99, 97, 116]⟩ : ByteArray) (⟨#[49]⟩ : ByteArray) (⟨#[98, 111]⟩ : ByteArray)
  rw [hS2] at M2 k2
  have b1 := tk_burnt M2 (by decide) (by decide) (by decide)
  have g0 := tkGet_no (e0 _ (ne_KeyCls (⟨#[99, 97, 116]⟩ : ByteArray) (⟨#[49]⟩ : ByteArray) (⟨#[99, 97, 116]⟩ : ByteArray)))
  have g3 := tkGet_no (e0 _ (ne_KeyCls (⟨#[99, 97, 116]⟩ : ByteArray) (⟨#[50]⟩ : ByteArray) (⟨#[99, 97, 116]⟩ : ByteArray)))
  have E3 := mint_no (e0 _ (fun e => absurd (keyCls_inj e) (by decide))) (⟨#[49]⟩ : ByteArray) (⟨#[117]⟩ : ByteArray) (⟨#[100]⟩ : ByteArray) (⟨#[97, 108]⟩ : ByteArray) (c := (⟨#[100, 111, 103]⟩ : ByteArray))
  have x2 : tkE (tkGet S0 (⟨#[99, 97, 116]⟩ : ByteArray) (⟨#[49]⟩ : ByteArray)) = 8 := by rw [g0]; rfl
  have x3 : tkMoveE S0 (⟨#[99, 97, 116]⟩ : ByteArray) (⟨#[50]⟩ : ByteArray) (⟨#[98, 111]⟩ : ByteArray) = 8 := by unfold tkMoveE; rw [g3]; rfl
  refine ⟨S1, S2, k0'.mono (by omega), k1.mono (by omega), k2.mono (by omega), ⟨E1, hS1⟩, ⟨E2, ?_⟩, g1, M1.sup, ⟨v1, hS2⟩, M2.get (by decide) (by decide) (by decide), b1, ⟨x2, ?_⟩, numK_no (e0 _ (ne_SupCls _ _)), ⟨E3, ?_⟩, ⟨x3, ?_⟩⟩
  · unfold tkMint; rw [E2, if_neg (by decide)]
  · unfold tkBurn; rw [x2, if_neg (by decide)]
  · unfold tkMint; rw [E3, if_neg (by decide)]
  · unfold tkMove; rw [x3, if_neg (by decide)]

end Go.Proofs.YtjappgjpikbdeaaGreatDoor.PTkk
