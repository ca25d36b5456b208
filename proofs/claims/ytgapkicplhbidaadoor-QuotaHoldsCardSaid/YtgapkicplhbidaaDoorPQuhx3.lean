/- A part of the walk of QuotaHolds. No condition. -/
import Derived.Test.YtgapkicplhbidaaDoorPQuhx0
import Derived.Test.YtgapkicplhbidaaDoorPQuhx1
import Derived.Test.YtgapkicplhbidaaDoorPQuhx2
namespace Go.Proofs.YtgapkicplhbidaaDoor.PQuh
set_option maxRecDepth 100000
set_option maxHeartbeats 8000000
open Go.RowKit Go.Proofs.YtgapkicplhbidaaDoorW.PrintWords Go.Proofs.YtgapkicplhbidaaDoorW.PrintLast Go.Proofs.YtgapkicplhbidaaDoorW.PrintMore
attribute [local go_sem] max2_int min2_int max_two min_two max_three min_three max_four min_four   -- for this text's walks alone
set_option linter.unusedVariables false
set_option linter.unusedSimpArgs false
section
theorem bkNum_is (n : Int) : ∃ er, wire_Num.f n = some (bkNum n, er) := by
 unfold bkNum
 by_cases h : n < 0 ∨ 9007199254740992 < n
 ·rw [if_pos h]; unfold wire_Num.f; rw [if_pos h]; exact ⟨_, rfl⟩
 ·rw [if_neg h]
  obtain ⟨m, rfl⟩ : ∃ m : Nat, n = (m : Int) := ⟨n.toNat, by omega⟩
  rw [Int.toNat_natCast]; exact ⟨_, wNum_is m (by omega)⟩
theorem bkNum_sz (n : Int) : (bkNum n).size ≤ 9 := by
 unfold bkNum
 split
 ·exact Nat.zero_le _
 ·exact numB_len _
theorem tdiv_bd (t q : Int) (h1 : -9223372036854775808 ≤ t) (h2 : t ≤ 9223372036854775807) (hq : 1 ≤ q) : -9223372036854775808 ≤ t.tdiv q ∧ t.tdiv q ≤ 9223372036854775807 := by
 rcases Int.lt_or_le t 0 with a | a
 ·have e : t.tdiv q = -((-t).tdiv q) := by rw [Int.neg_tdiv, Int.neg_neg]
  have b : (-t).tdiv q ≤ -t := by rw [Int.tdiv_eq_ediv_of_nonneg (by omega)]; exact Int.ediv_le_self _ (by omega)
  have c : 0 ≤ (-t).tdiv q := Int.tdiv_nonneg (by omega) (by omega)
  omega
 ·have b : t.tdiv q ≤ t := by rw [Int.tdiv_eq_ediv_of_nonneg a]; exact Int.ediv_le_self _ a
  have c : 0 ≤ t.tdiv q := Int.tdiv_nonneg a (by omega)
  omega
def quK (name : ByteArray) : ByteArray := keyB (⟨#[113, 117, 111, 116, 97]⟩ : ByteArray) [name]
def spK (name : ByteArray) : ByteArray := keyB (⟨#[115, 112, 101, 110, 116]⟩ : ByteArray) [name]
theorem qu_ne (a b : ByteArray) : quK a ≠ spK b := keyB_ne (c := 113) (t := [117, 111, 116, 97]) (d := 115) (u := [112, 101, 110, 116]) (by simp [ByteArray.toList_eq]) (by simp [ByteArray.toList_eq]) (by decide) (by decide) (by decide) (by decide) (by decide)
def two2 (v : ByteArray) : Int × Int × Int := ((rNum v 0).1, (rNum (rNum v 0).2.1 (rNum v 0).2.2).1, rDone (rNum (rNum v 0).2.1 (rNum v 0).2.2).2.1 (rNum (rNum v 0).2.1 (rNum v 0).2.2).2.2)
def quTwo (cur : List S50) (key : ByteArray) : Int × Int × Bool := ((two2 (getK cur key).1).1, (two2 (getK cur key).1).2.1, hasK cur key && ((two2 (getK cur key).1).2.2 == 0))
noncomputable def quSetE (name : ByteArray) (n long : Int) : Int := if nm_checkSpec 6 name = 0 then (if n < 0 ∨ n > 1099511627776 ∨ long < 1 ∨ long > 1099511627776 then 3 else 0) else 7
noncomputable def quSet (cur : List S50) (name : ByteArray) (n long : Int) : List S50 := if quSetE name n long = 0 then setC (delK cur (spK name)) (quK name) (bkNum n ++ bkNum long) else cur
def quRest (cur : List S50) (name : ByteArray) (most every time : Int) : Int := if (quTwo cur (spK name)).2.2 = true ∧ (quTwo cur (spK name)).1 = time.tdiv every then most - (quTwo cur (spK name)).2.1 else most
def quLeft (cur : List S50) (name : ByteArray) (time : Int) : Int :=
 if (quTwo cur (quK name)).2.2 = true then (if time < 0 ∨ time > 1099511627776 then 0 else quRest cur name (quTwo cur (quK name)).1 (quTwo cur (quK name)).2.1 time) else 0
def quSpendE (cur : List S50) (name : ByteArray) (time n : Int) : Int :=
 if (quTwo cur (quK name)).2.2 = true then
  (if time < 0 ∨ time > 1099511627776 ∨ n < 1 ∨ n > 1099511627776 then 3
   else if (quTwo cur (spK name)).2.2 = true ∧ (quTwo cur (spK name)).1 > time.tdiv (quTwo cur (quK name)).2.1 then 14
   else if n > quRest cur name (quTwo cur (quK name)).1 (quTwo cur (quK name)).2.1 time then 21 else 0)
 else 8
def quSpend (cur : List S50) (name : ByteArray) (time n : Int) : List S50 :=
 if quSpendE cur name time n = 0 then setC cur (spK name) (bkNum (time.tdiv (quTwo cur (quK name)).2.1) ++ bkNum ((quTwo cur (quK name)).1 - quRest cur name (quTwo cur (quK name)).1 (quTwo cur (quK name)).2.1 time + n)) else cur
def QInv (cur : List S50) : Prop := ∀ name, (quTwo cur (quK name)).2.2 = true → 0 ≤ (quTwo cur (quK name)).1 ∧ (quTwo cur (quK name)).1 ≤ 1099511627776 ∧ 1 ≤ (quTwo cur (quK name)).2.1 ∧ (quTwo cur (quK name)).2.1 ≤ 1099511627776
theorem bkNum_of {n : Int} (h : 0 ≤ n) (h2 : n ≤ 9007199254740992) : bkNum n = numB n.toNat := by unfold bkNum; rw [if_neg (by omega)]
theorem two2_num {a b : Int} (h : 0 ≤ a) (h2 : a ≤ 9007199254740992) (h3 : 0 ≤ b) (h4 : b ≤ 9007199254740992) : two2 (bkNum a ++ bkNum b) = (a, b, 0) := by
 rw [bkNum_of h h2, bkNum_of h3 h4]
 unfold two2
 rw [rNum_numB _ (by omega)]
 dsimp only
 rw [rNum_numB0 _ (by omega)]
 dsimp only
 rw [show rDone (⟨#[]⟩ : ByteArray) 0 = 0 by simp [rDone, ByteArray.toList_eq], Int.toNat_of_nonneg h, Int.toNat_of_nonneg h3]
theorem two2_bd (v : ByteArray) : (0 ≤ (two2 v).1 ∧ (two2 v).1 ≤ 9007199254740992) ∧ 0 ≤ (two2 v).2.1 ∧ (two2 v).2.1 ≤ 9007199254740992 := ⟨rNum_bd _ _, rNum_bd _ _⟩
theorem quTwo_get {cur : List S50} {key : ByteArray} {a b : Int} (h : getK cur key = (bkNum a ++ bkNum b, true)) (h1 : 0 ≤ a) (h2 : a ≤ 9007199254740992) (h3 : 0 ≤ b) (h4 : b ≤ 9007199254740992) : quTwo cur key = (a, b, true) := by
 have hk : hasK cur key = true := by have := congrArg Prod.snd h; unfold getK at this; revert this; cases hasK cur key <;> simp
 unfold quTwo
 rw [h, hk]
 dsimp only
 rw [two2_num h1 h2 h3 h4]
 rfl
theorem quTwo_cong {a b : List S50} {key : ByteArray} (h : getK a key = getK b key) : quTwo a key = quTwo b key := by
 have h1 : ∀ c : List S50, hasK c key = (getK c key).2 := fun c => by unfold getK; cases hasK c key <;> rfl
 unfold quTwo
 rw [h1, h1, h]
theorem quTwo_no {cur : List S50} {key : ByteArray} (h : getK cur key = ((⟨#[]⟩ : ByteArray), false)) : (quTwo cur key).2.2 = false := by
 have h1 : hasK cur key = (getK cur key).2 := by unfold getK; cases hasK cur key <;> rfl
 unfold quTwo
 rw [h1, h]
 rfl
theorem quK_inj {a b : ByteArray} (h : quK a = quK b) : a = b := by
 unfold quK keyB keyL glue at h
 have h2 := ofL_inj h
 simp only [List.map_cons, List.map_nil, List.flatMap_cons, List.flatMap_nil, List.append_nil, List.append_cancel_left_eq, List.cons.injEq, true_and] at h2
 exact ba_ext (hidL_inj _ _ h2)
theorem spK_len (name : ByteArray) : (spK name).size ≤ 11 + 2 * name.size := by
 have h1 := hidL_len ((⟨#[115, 112, 101, 110, 116]⟩ : ByteArray)).toList
 have h2 := hidL_len name.toList
 rw [← ba_size] at h1 h2
 have h3 : ((⟨#[115, 112, 101, 110, 116]⟩ : ByteArray)).size = 5 := rfl
 unfold spK keyB keyL glue
 rw [ofL_size]
 simp only [List.map_cons, List.map_nil, List.flatMap_cons, List.flatMap_nil, List.length_append, List.length_cons, List.length_nil]
 omega
theorem quK_len (name : ByteArray) : (quK name).size ≤ 11 + 2 * name.size := by
 have h1 := hidL_len ((⟨#[113, 117, 111, 116, 97]⟩ : ByteArray)).toList
 have h2 := hidL_len name.toList
 rw [← ba_size] at h1 h2
 have h3 : ((⟨#[113, 117, 111, 116, 97]⟩ : ByteArray)).size = 5 := rfl
 unfold quK keyB keyL glue
 rw [ofL_size]
 simp only [List.map_cons, List.map_nil, List.flatMap_cons, List.flatMap_nil, List.length_append, List.length_cons, List.length_nil]
 omega
theorem bk2_sz (a b : Int) : (bkNum a ++ bkNum b).size ≤ 18 := by
 have h1 := bkNum_sz a
 have h2 := bkNum_sz b
 rw [ByteArray.size_append]; omega
theorem setC_in {cur : List S50} (hs : sortK cur) {key value : ByteArray} (k : ByteArray) (h1 : key.size ≤ 65536) (h2 : value.size ≤ 65536) : getK (setC cur key value) k = if k = key then (value, true) else getK cur k := by
 rw [getK_setC hs]
 by_cases h : k = key
 ·rw [if_pos ⟨h, by omega⟩, if_pos h]
 ·rw [if_neg (fun e => h e.1), if_neg h]
theorem quSet_KV {m : Nat} {cur : List S50} (h : KV m cur) (name : ByteArray) (n long : Int) : KV (m + 1) (quSet cur name n long) := by
 unfold quSet
 split
 ·exact (h.del _).put _ _
 ·exact h.mono (by omega)
theorem quSpend_KV {m : Nat} {cur : List S50} (h : KV m cur) (name : ByteArray) (time n : Int) : KV (m + 1) (quSpend cur name time n) := by
 unfold quSpend
 split
 ·exact h.put _ _
 ·exact h.mono (by omega)
theorem QInv.nil : QInv [] := fun name h => by
 have : (quTwo [] (quK name)).2.2 = false := quTwo_no rfl
 rw [this] at h; cases h
theorem QInv.set {cur : List S50} (h : QInv cur) (hs : sortK cur) {name : ByteArray} (hn : name.size ≤ 1000) (n long : Int) : QInv (quSet cur name n long) := by
 unfold quSet quSetE
 by_cases a : nm_checkSpec 6 name = 0
 ·rw [if_pos a]
  by_cases b : n < 0 ∨ n > 1099511627776 ∨ long < 1 ∨ long > 1099511627776
  ·rw [if_pos b, if_neg (by decide)]; exact h
  ·rw [if_neg b, if_pos rfl]
   have hl := quK_len name
   have hz := bk2_sz n long
   intro nm
   have hg := setC_in (sortK_del hs (spK name)) (quK nm) (key := quK name) (value := bkNum n ++ bkNum long) (by omega) (by omega)
   by_cases e : quK nm = quK name
   ·rw [if_pos e] at hg
    rw [quTwo_get hg (by omega) (by omega) (by omega) (by omega)]
    intro _
    dsimp only
    omega
   ·rw [if_neg e, getK_delK hs, if_neg (qu_ne nm name)] at hg
    rw [quTwo_cong hg]
    exact h nm
 ·rw [if_neg a, if_neg (by decide)]; exact h
theorem QInv.spend {cur : List S50} (h : QInv cur) (hs : sortK cur) {name : ByteArray} (hn : name.size ≤ 1000) (time n : Int) : QInv (quSpend cur name time n) := by
 unfold quSpend
 split
 ·intro nm
  have hl := spK_len name
  have hz := bk2_sz (time.tdiv (quTwo cur (quK name)).2.1) ((quTwo cur (quK name)).1 - quRest cur name (quTwo cur (quK name)).1 (quTwo cur (quK name)).2.1 time + n)
  have hg := setC_in hs (quK nm) (key := spK name) (value := bkNum (time.tdiv (quTwo cur (quK name)).2.1) ++ bkNum ((quTwo cur (quK name)).1 - quRest cur name (quTwo cur (quK name)).1 (quTwo cur (quK name)).2.1 time + n)) (by omega) (by omega)
  rw [if_neg (qu_ne nm name)] at hg
  rw [quTwo_cong hg]
  exact h nm
 ·exact h
theorem qu_get {base g : Nat} {ok : Nat → Prop} {w0 : World} {cur : List S50} (word name key : ByteArray) (a b : Int) (bb : Bool) {w : World} (h : JS base ok w0 g cur w) (hk : KV 1000000 cur) (hw : word.size ≤ 50000000) (hn : name.size ≤ 50000000) (hkey : keyB word [name] = key) (hx : quTwo cur key = (a, b, bb)) :
  Calls Tryd.prog 16 #[.pointer (some ⟨g, 0, none⟩), .string word, .string name] w fun e w' => e = .returned (.tuple #[.agg #[.int .i64 a, .int .i64 b], .bool bb]) ∧ Below w.heap.size w w' := by
 obtain ⟨y1, hy1⟩ : ∃ y : List ByteArray, y = [name] := ⟨_, rfl⟩
 obtain ⟨k1, key1⟩ := key_ev word y1 hw (by rw [hy1]; simp) (by rw [hy1]; simpa using hn)
 have ekey : keyB word y1 = key := by rw [hy1]; exact hkey
 rw [ekey] at key1
 have Ny1 := As_ hy1
 obtain ⟨v, hv⟩ : ∃ v, (getK cur key).1 = v := ⟨_, rfl⟩
 obtain ⟨bh, hb0⟩ : ∃ b, hasK cur key = b := ⟨_, rfl⟩
 obtain ⟨q1, q2, q3, hq⟩ : ∃ a b c, rNum v 0 = (a, b, c) := ⟨_, _, _, rfl⟩
 obtain ⟨p1, p2, p3, hp⟩ : ∃ a b c, rNum q2 q3 = (a, b, c) := ⟨_, _, _, rfl⟩
 unfold quTwo two2 at hx
 rw [hv, hb0, hq] at hx
 dsimp only at hx
 rw [hp] at hx
 dsimp only at hx
 have hn1 : wire_Reader_Num.f v 0 = some (q1, q2, q3) := by rw [rNum_is, hq]
 have hn2 : wire_Reader_Num.f q2 q3 = some (p1, p2, p3) := by rw [rNum_is, hp]
 simp only [Prod.mk.injEq] at hx
 obtain ⟨rfl, rfl, hbb⟩ := hx
 have AB := As_ hbb
 have HJ := As_ h
 have HB := As_ (Below.refl w.heap.size w)
 clear h hy1 ekey hkey hbb hq hp
 go_enter Tryd.func16, Tryd.ntmps16
 go_wp2_with (first | ((with_reducible refine gate_dst (N := 6) rfl ?_); refine bxE (N := 6) (cs := #[.int .i64 0, .int .i64 0]) (t := 43) ?_; intro gbq hg wq hbox hb; have GEq := As_ ((by rw [hg]; exact (below_size (blwG)) : w.heap.size ≤ gbq)); have GJq := As_ ((by rw [hg]; exact JS.size0 (base := base) (ok := ok) (w0 := w0) (g := g) (cur := cur) (jsG) : w0.heap.size ≤ gbq)); replace HB := As_ (below_step (blwG) hb); replace HJ := As_ (JS.below (base := base) (ok := ok) (w0 := w0) (g := g) (cur := cur) (jsG) hb); have BKq := As_ hbox; clear hb hbox hg; obtain ⟨zq_0, fq_0, zq_1, fq_1⟩ := cellsN2 BKq.out) | ((with_reducible refine gate_dst (N := 17) rfl ?_); (try (refine gate_guard (by rfl) ?_; dsimp only)); refine Kd.R_lit Kd.string _ 9 ?hg (N := 17) ?hd (xs := ([name] : List ByteArray)) (inner := [.string name]) (ok := fun _ => True) (okp := fun _ => True) ?hr ?hp (fun _ hk => hk) trivial (Below.refl _ _) (Nat.le_refl _) (by simp) ?_; (case hd => rfl); (case hg => rfl); (case hr => first | (go_simp; done) | (go_simp; rfl)); (case hp => exact (Reps.one (show Kd.M Kd.string _ _ _ name [.string name] from rfl) (Reps.none _ _))); intro vlit wy1 hlit hb hg_ hnew_; clear hg_ hnew_; rw [← Ny1.out] at hlit; obtain ⟨Ay1, cy1, el_⟩ := Kd.R_slice hlit; subst el_; have Ry1 := As_ hlit; clear hlit; replace HB := As_ (below_step (blwG) hb); replace HJ := As_ (JS.below (base := base) (ok := ok) (w0 := w0) (g := g) (cur := cur) (jsG) hb); replace BKq := As_ (blk_below (g := gbq) (o := .cells #[.int .i64 0, .int .i64 0] 43 (0, 0)) (bkG_q) hb); clear hb))
 refine (path_Join.calls k1 word Ay1 cy1 y1 key _ (Kd.R_reads' Ry1.out).2.2 (Kd.R_reads' Ry1.out).2.1 key1).mono ?_
 rintro e w1 ⟨rfl, hb⟩
 replace HB := As_ (below_step (blwG) hb)
 replace HJ := As_ (JS.below (base := base) (ok := ok) (w0 := w0) (g := g) (cur := cur) (jsG) hb)
 replace BKq := As_ (blk_below (g := gbq) (o := .cells #[.int .i64 0, .int .i64 0] 43 (0, 0)) (bkG_q) hb)
 clear hb
 clear Ry1 Ny1
 go_wp2_with fail
 refine (js_get key v bh HJ.out hk hv hb0).mono ?_
 rintro e w2 ⟨rfl, hb⟩
 replace HB := As_ (below_step (blwG) hb)
 replace HJ := As_ (JS.below (base := base) (ok := ok) (w0 := w0) (g := g) (cur := cur) (jsG) hb)
 replace BKq := As_ (blk_below (g := gbq) (o := .cells #[.int .i64 0, .int .i64 0] 43 (0, 0)) (bkG_q) hb)
 clear hb
 clear HJ
 go_wp2_with fail
 refine (wire_New.calls v v 0 w _ (blwG) rfl).mono ?_
 rintro e w_1 ⟨grr, rfl, hI, _, hb⟩
 replace HB := As_ (below_step (blwG) hb)
 replace BKq := As_ (blk_below (g := gbq) (o := .cells #[.int .i64 0, .int .i64 0] 43 (0, 0)) (bkG_q) hb)
 clear hb
 have HIr := As_ hI
 clear hI
 have NRr_q := As_ (IsS83.ne_blk HIr.out BKq.out (by decide) : grr ≠ gbq)
 go_wp2_with (first | ((with_reducible refine gate_dst (N := 11) rfl ?_); refine bxE (N := 11) (cs := #[.int .i64 0, .int .i64 0]) (t := 43) ?_; intro gbn hg wn hbox hb; have GEn := As_ ((by rw [hg]; exact (below_size (blwG)) : w.heap.size ≤ gbn)); have NBq_n := As_ ((by rw [hg]; exact Nat.ne_of_lt (blk_lt (g := gbq) (o := .cells #[.int .i64 0, .int .i64 0] 43 (0, 0)) (bkG_q)) : gbq ≠ gbn)); have NBn_q := As_ ((by rw [hg]; exact Nat.ne_of_gt (blk_lt (g := gbq) (o := .cells #[.int .i64 0, .int .i64 0] 43 (0, 0)) (bkG_q)) : gbn ≠ gbq)); replace HB := As_ (below_step (blwG) hb); replace BKq := As_ (blk_below (g := gbq) (o := .cells #[.int .i64 0, .int .i64 0] 43 (0, 0)) (bkG_q) hb); replace HIr := As_ (IsS83.below (rdG_r) hb); have BKn := As_ hbox; have NRr_n := As_ (IsS83.ne_blk HIr.out hbox (by decide) : grr ≠ gbn); clear hb hbox hg; obtain ⟨zn_0, fn_0, zn_1, fn_1⟩ := cellsN2 BKn.out; have hnnq := NBn_q.out; have hmnq := NBq_n.out))
 go_loopg [24] 2 (fun gg si wx => (si = .int .i64 0 ∧ gg = 2 ∧ Aside0 (Below w.heap.size w wx) ∧ Aside0 (wx.heap[gbn]? = some (.cells #[.int .i64 0, .int .i64 0] 43 (0, 0))) ∧ Aside0 (wx.heap[gbq]? = some (.cells #[.int .i64 0, .int .i64 0] 43 (0, 0))) ∧ Aside0 (IsS83 w wx grr v 0)) ∨ (si = .int .i64 1 ∧ gg = 1 ∧ Aside0 (Below w.heap.size w wx) ∧ Aside0 (wx.heap[gbn]? = some (.cells #[.int .i64 q1, .int .i64 0] 43 (0, 0))) ∧ Aside0 (wx.heap[gbq]? = some (.cells #[.int .i64 0, .int .i64 0] 43 (0, 0))) ∧ Aside0 (IsS83 w wx grr q2 q3)) ∨ (si = .int .i64 2 ∧ gg = 0 ∧ Aside0 (Below w.heap.size w wx) ∧ Aside0 (wx.heap[gbn]? = some (.cells #[.int .i64 q1, .int .i64 p1] 43 (0, 0))) ∧ Aside0 (wx.heap[gbq]? = some (.cells #[.int .i64 0, .int .i64 0] 43 (0, 0))) ∧ Aside0 (IsS83 w wx grr p2 p3)))
 case atStart => exact .inl ⟨rfl, rfl, ⟨blwG⟩, ⟨bkG_n⟩, ⟨bkG_q⟩, ⟨rdG_r⟩⟩
 case round =>
  clear HB BKn BKq HIr
  rcases hrel with ⟨rfl, rfl, HB, BKn, BKq, HIr⟩ | ⟨rfl, rfl, HB, BKn, BKq, HIr⟩ | ⟨rfl, rfl, HB, BKn, BKq, HIr⟩
  ·go_wp2_with fail
   refine (wire_Reader_Num.calls grr v 0 _ _ _ w _ (rdG_r) (blwG) hn1).mono ?_
   rintro e w_2 ⟨rfl, hI, hB, hK⟩
   replace HB := As_ (hB)
   replace HIr := As_ (hI)
   replace BKq := As_ (KeepBut.blk (g' := gbq) hK (o := .cells #[.int .i64 0, .int .i64 0] 43 (0, 0)) (bkG_q) NRr_q.out.symm (by simp))
   replace BKn := As_ (KeepBut.blk (g' := gbn) hK (o := .cells #[.int .i64 0, .int .i64 0] 43 (0, 0)) (bkG_n) NRr_n.out.symm (by simp))
   clear hI hB hK
   obtain ⟨zn_0, fn_0, zn_1, fn_1⟩ := cellsN2 BKn.out
   have hnnq := NBn_q.out
   have hmnq := NBq_n.out
   go_wp2
   go_roundg 1
   case measure => omega
   case rel => exact .inr <| .inl ⟨by first | rfl | (simp; done), rfl, ⟨blwG⟩, ⟨bkG_n⟩, ⟨bkG_q⟩, ⟨rdG_r⟩⟩
  ·go_wp2_with fail
   refine (wire_Reader_Num.calls grr q2 q3 _ _ _ w _ (rdG_r) (blwG) hn2).mono ?_
   rintro e w_3 ⟨rfl, hI, hB, hK⟩
   replace HB := As_ (hB)
   replace HIr := As_ (hI)
   replace BKq := As_ (KeepBut.blk (g' := gbq) hK (o := .cells #[.int .i64 0, .int .i64 0] 43 (0, 0)) (bkG_q) NRr_q.out.symm (by simp))
   replace BKn := As_ (KeepBut.blk (g' := gbn) hK (o := .cells #[.int .i64 q1, .int .i64 0] 43 (0, 0)) (bkG_n) NRr_n.out.symm (by simp))
   clear hI hB hK
   obtain ⟨zn_0, fn_0, zn_1, fn_1⟩ := cellsN2 BKn.out
   have hnnq := NBn_q.out
   have hmnq := NBq_n.out
   go_wp2
   go_roundg 0
   case measure => omega
   case rel => exact .inr <| .inr ⟨by first | rfl | (simp; done), rfl, ⟨blwG⟩, ⟨bkG_n⟩, ⟨bkG_q⟩, ⟨rdG_r⟩⟩
  ·have hbb := AB.out
   clear AB
   cases bh with
   | false =>
    rw [Bool.false_and] at hbb
    subst hbb
    go_upto_region 9 with (fail)
    refine start_ (n := 9) (S := fun w' => HeldC gbn #[.int .i64 q1, .int .i64 p1] 43 w') (ds := []) #[false, false, false, false, false, false, false, false, false] (by kernel_rfl) rfl rfl (HeldC.of (bkG_n)) (fun hHeld => ?_)
    have n_HB := at_world hHeld (F := fun Y => Below w.heap.size w Y) (blwG)
    have n_BKn := at_world hHeld (F := fun Y => Y.heap[gbn]? = some (.cells #[.int .i64 q1, .int .i64 p1] 43 (0, 0))) (bkG_n)
    have n_BKq := at_world hHeld (F := fun Y => Y.heap[gbq]? = some (.cells #[.int .i64 0, .int .i64 0] 43 (0, 0))) (bkG_q)
    have n_HIr := at_world hHeld (F := fun Y => IsS83 w Y grr p2 p3) (rdG_r)
    clear HB BKn BKq HIr
    have HB := n_HB
    have BKn := n_BKn
    have BKq := n_BKq
    have HIr := n_HIr
    clear n_HB n_BKn n_BKq n_HIr
    generalize World.drew _ = w8 at hHeld HB BKn BKq HIr ⊢
    refine take_ (i := 0) (N := some 32) #[true, false, false, false, false, false, false, false, false] rfl rfl (by kernel_rfl) (fun _ _ _ h => h) (Or.inl ⟨by rfl, (by rintro w' s0; have t0 : w'.cell? ⟨gbn, 0, none⟩ = some (.int .i64 q1) := (blk_cell (HeldC.blk s0) 0).trans rfl; have t1 : w'.cell? ⟨gbn, 1, none⟩ = some (.int .i64 p1) := (blk_cell (HeldC.blk s0) 1).trans rfl; go_simp; with_reducible rfl)⟩) hHeld ap16_ ?_
    refine pure_ (i := 1) (N := some 33) #[true, true, false, false, false, false, false, false, false] rfl rfl (by kernel_rfl) (fun _ _ _ h => h) (Or.inl ⟨by rfl, ap1_⟩) ap16_ ?_
    refine pure_ (i := 2) (N := some 34) #[true, true, true, false, false, false, false, false, false] rfl rfl (by kernel_rfl) (fun _ _ _ h => h) (Or.inl ⟨by rfl, ap1_⟩) ap16_ ?_
    refine pure_ (i := 3) (N := some 35) (v := undef) (a' := ?_) #[true, true, true, true, false, false, false, false, false] rfl rfl (by kernel_rfl) (fun _ _ _ h => h) (Or.inr ⟨by rfl, rfl⟩) ?_ ?_
    rotate_left
    ·simp only [Act.put, List.setIfInBounds_toArray, List.set_cons_zero, List.set_cons_succ, i64_w, i32_w]
     rfl
    refine pure_ (i := 4) (N := some 36) (v := undef) (a' := ?_) #[true, true, true, true, true, false, false, false, false] rfl rfl (by kernel_rfl) (fun _ _ _ h => h) (Or.inr ⟨by rfl, rfl⟩) ?_ ?_
    rotate_left
    ·simp only [Act.put, List.setIfInBounds_toArray, List.set_cons_zero, List.set_cons_succ, i64_w, i32_w]
     rfl
    refine pure_ (i := 5) (N := some 37) (v := undef) (a' := ?_) #[true, true, true, true, true, true, false, false, false] rfl rfl (by kernel_rfl) (fun _ _ _ h => h) (Or.inr ⟨by rfl, rfl⟩) ?_ ?_
    rotate_left
    ·simp only [Act.put, List.setIfInBounds_toArray, List.set_cons_zero, List.set_cons_succ, i64_w, i32_w]
     rfl
    refine pure_ (i := 6) (N := some 38) #[true, true, true, true, true, true, true, false, false] rfl rfl (by kernel_rfl) (fun _ _ _ h => h) (Or.inl ⟨by rfl, ap1_⟩) ap16_ ?_
    obtain ⟨zq_0, fq_0, zq_1, fq_1⟩ := cellsN2 BKq.out
    have hnqn := NBq_n.out
    have hmqn := NBn_q.out
    refine one_ (i := 7) (N := none) #[true, true, true, true, true, true, true, true, false] rfl rfl (by kernel_rfl) (by decide) (fun K hK => ?_)
    refine skip_ (w1 := ?_) (by rfl) rfl ?_ ?_
    rotate_left
    ·go_simp
     rfl
    refine hK.out _ _ (HeldC.of (bkG_n)) (fun hHeld => ?_)
    clear hK K
    refine pure_ (i := 8) (N := some 7) #[true, true, true, true, true, true, true, true, true] rfl rfl (by kernel_rfl) (fun _ _ _ h => h) (Or.inl ⟨by rfl, ap1_⟩) ap16_ ?_
    refine done_ (by kernel_rfl) ?_
    clear hHeld
    skip
    first | (go_wp2; refine bodyPost_ret (results_ct rfl _ _ gbq 43 #[.int .i64 q1, .int .i64 p1] (0, 0) _ rfl (bkG_q) Tryd.underlying43 rfl (by kernel_rfl)) rfl ?_) | refine bodyPost_ret (results_ct rfl _ _ gbq 43 #[.int .i64 q1, .int .i64 p1] (0, 0) _ rfl (bkG_q) Tryd.underlying43 rfl (by kernel_rfl)) rfl ?_
    exact ⟨by first | (rfl) | rfl, blwG⟩
   | true =>
    rw [Bool.true_and] at hbb
    go_upto_region 9 with (fail)
    refine start_ (n := 9) (S := fun w' => HeldC gbn #[.int .i64 q1, .int .i64 p1] 43 w') (ds := []) #[false, false, false, false, false, false, false, false, false] (by kernel_rfl) rfl rfl (HeldC.of (bkG_n)) (fun hHeld => ?_)
    have n_HB := at_world hHeld (F := fun Y => Below w.heap.size w Y) (blwG)
    have n_BKn := at_world hHeld (F := fun Y => Y.heap[gbn]? = some (.cells #[.int .i64 q1, .int .i64 p1] 43 (0, 0))) (bkG_n)
    have n_BKq := at_world hHeld (F := fun Y => Y.heap[gbq]? = some (.cells #[.int .i64 0, .int .i64 0] 43 (0, 0))) (bkG_q)
    have n_HIr := at_world hHeld (F := fun Y => IsS83 w Y grr p2 p3) (rdG_r)
    clear HB BKn BKq HIr
    have HB := n_HB
    have BKn := n_BKn
    have BKq := n_BKq
    have HIr := n_HIr
    clear n_HB n_BKn n_BKq n_HIr
    generalize World.drew _ = w8 at hHeld HB BKn BKq HIr ⊢
    refine take_ (i := 0) (N := some 32) #[true, false, false, false, false, false, false, false, false] rfl rfl (by kernel_rfl) (fun _ _ _ h => h) (Or.inl ⟨by rfl, (by rintro w' s0; have t0 : w'.cell? ⟨gbn, 0, none⟩ = some (.int .i64 q1) := (blk_cell (HeldC.blk s0) 0).trans rfl; have t1 : w'.cell? ⟨gbn, 1, none⟩ = some (.int .i64 p1) := (blk_cell (HeldC.blk s0) 1).trans rfl; go_simp; with_reducible rfl)⟩) hHeld ap16_ ?_
    refine pure_ (i := 1) (N := some 33) #[true, true, false, false, false, false, false, false, false] rfl rfl (by kernel_rfl) (fun _ _ _ h => h) (Or.inl ⟨by rfl, ap1_⟩) ap16_ ?_
    refine pure_ (i := 2) (N := some 34) #[true, true, true, false, false, false, false, false, false] rfl rfl (by kernel_rfl) (fun _ _ _ h => h) (Or.inl ⟨by rfl, ap1_⟩) ap16_ ?_
    refine pure_ (i := 3) (N := some 35) #[true, true, true, true, false, false, false, false, false] rfl rfl (by kernel_rfl) (fun _ _ _ h => h) (Or.inl ⟨by rfl, ap1_⟩) ap16_ ?_
    refine one_ (i := 4) (N := some 36) #[true, true, true, true, true, false, false, false, false] rfl rfl (by kernel_rfl) (by decide) (fun K hK => ?_)
    refine goes_ Tryd.func31 (by kernel_rfl) rfl #[.pointer (some ⟨grr, 0, none⟩)] (by rfl) rfl rfl ap14_ ?_
    refine (wire_Reader_Done.calls grr p2 p3 _ _ _ w _ HIr.out HB.out (rDone_is p2 p3)).mono ?_
    rintro e w9 ⟨rfl, hI, hB, hK2⟩
    refine ⟨_, rfl, ?_⟩
    replace HB := As_ (hB)
    replace HIr := As_ (hI)
    replace BKn := As_ (KeepBut.blk (g' := gbn) hK2 (o := .cells #[.int .i64 q1, .int .i64 p1] 43 (0, 0)) BKn.out NRr_n.out.symm (by simp))
    replace BKq := As_ (KeepBut.blk (g' := gbq) hK2 (o := .cells #[.int .i64 0, .int .i64 0] 43 (0, 0)) BKq.out NRr_q.out.symm (by simp))
    clear hI hB hK2
    refine hK.out _ _ (HeldC.of BKn.out) (fun hHeld => ?_)
    clear hK K
    refine norm_ (a' := ?_) ?_ ?_
    rotate_left
    ·show Act.put _ (some 36) _ = _
     simp only [Act.put, List.setIfInBounds_toArray, List.set_cons_zero, List.set_cons_succ, i64_w, i32_w]
     rfl
    refine pure_ (i := 5) (N := some 37) #[true, true, true, true, true, true, false, false, false] rfl rfl (by kernel_rfl) (fun _ _ _ h => h) (Or.inl ⟨by rfl, ap1_⟩) ap16_ ?_
    refine pure_ (i := 6) (N := some 38) #[true, true, true, true, true, true, true, false, false] rfl rfl (by kernel_rfl) (fun _ _ _ h => h) (Or.inl ⟨by rfl, ap1_⟩) ap16_ ?_
    obtain ⟨zq_0, fq_0, zq_1, fq_1⟩ := cellsN2 BKq.out
    have hnqn := NBq_n.out
    have hmqn := NBn_q.out
    refine one_ (i := 7) (N := none) #[true, true, true, true, true, true, true, true, false] rfl rfl (by kernel_rfl) (by decide) (fun K hK => ?_)
    refine skip_ (w1 := ?_) (by rfl) rfl ?_ ?_
    rotate_left
    ·go_simp
     rfl
    refine hK.out _ _ (HeldC.of (bkG_n)) (fun hHeld => ?_)
    clear hK K
    refine pure_ (i := 8) (N := some 7) #[true, true, true, true, true, true, true, true, true] rfl rfl (by kernel_rfl) (fun _ _ _ h => h) (Or.inl ⟨by rfl, ap1_⟩) ap16_ ?_
    refine done_ (by kernel_rfl) ?_
    clear hHeld
    skip
    first | (go_wp2; refine bodyPost_ret (results_ct rfl _ _ gbq 43 #[.int .i64 q1, .int .i64 p1] (0, 0) _ rfl (bkG_q) Tryd.underlying43 rfl (by kernel_rfl)) rfl ?_) | refine bodyPost_ret (results_ct rfl _ _ gbq 43 #[.int .i64 q1, .int .i64 p1] (0, 0) _ rfl (bkG_q) Tryd.underlying43 rfl (by kernel_rfl)) rfl ?_
    exact ⟨by first | (rw [← hbb]; first | rfl | (simp; done)) | rfl, blwG⟩
theorem two_at0 (a b : Int) (w : World) : (Instr.index 43 (.agg #[.int .i64 a, .int .i64 b]) (.int .i64 0)).run Tryd.prog w = .ok (.int .i64 a) w := by
 have h := Tryd.underlying43
 simp [Instr.index, run_underlying h, go_sem]
theorem two_at1 (a b : Int) (w : World) : (Instr.index 43 (.agg #[.int .i64 a, .int .i64 b]) (.int .i64 1)).run Tryd.prog w = .ok (.int .i64 b) w := by
 have h := Tryd.underlying43
 simp [Instr.index, run_underlying h, go_sem]
attribute [local go_sem] two_at0 two_at1
theorem qu_put {base g : Nat} {ok : Nat → Prop} {w0 : World} {cur : List S50} (word name key : ByteArray) (a b : Int) {w : World} (h : JS base ok w0 g cur w) (hk : KV 1000000 cur) (hw : word.size ≤ 50000000) (hn : name.size ≤ 50000000) (hkey : keyB word [name] = key) :
  Calls Tryd.prog 15 #[.pointer (some ⟨g, 0, none⟩), .string word, .string name, .agg #[.int .i64 a, .int .i64 b]] w fun e w' => e = .returned (.int .i64 (setE key (bkNum a ++ bkNum b))) ∧ JS base ok w0 g (setC cur key (bkNum a ++ bkNum b)) w' ∧ JK w w' := by
 obtain ⟨y1, hy1⟩ : ∃ y : List ByteArray, y = [name] := ⟨_, rfl⟩
 obtain ⟨k1, key1⟩ := key_ev word y1 hw (by rw [hy1]; simp) (by rw [hy1]; simpa using hn)
 have ekey : keyB word y1 = key := by rw [hy1]; exact hkey
 rw [ekey] at key1
 have Ny1 := As_ hy1
 obtain ⟨ea, hna⟩ := bkNum_is a
 obtain ⟨eb, hnb⟩ := bkNum_is b
 have sa := bkNum_sz a
 have sb := bkNum_sz b
 obtain ⟨A, hA⟩ : ∃ z, bkNum a = z := ⟨_, rfl⟩
 obtain ⟨B, hB⟩ : ∃ z, bkNum b = z := ⟨_, rfl⟩
 rw [hA] at hna sa ⊢
 rw [hB] at hnb sb ⊢
 have c1 : (⟨#[]⟩ : ByteArray).size + A.size ≤ 9223372036854775807 := by rw [show (⟨#[]⟩ : ByteArray).size = 0 from rfl]; omega
 have c2 : A.size + B.size ≤ 9223372036854775807 := by omega
 have AC1 := As_ c1
 have AC2 := As_ c2
 have e0 : (⟨#[]⟩ : ByteArray) ++ A = A := ba_ext (by rw [ba_append]; simp [ByteArray.toList_eq])
 have AE := As_ e0
 have HJ := As_ h
 have HK := As_ (JK.of_below (Below.refl w.heap.size w))
 clear h hy1 ekey hkey hA hB sa sb c1 c2 e0
 go_enter Tryd.func15, Tryd.ntmps15
 go_wp2_with (first | ((with_reducible refine gate_dst (N := 7) rfl ?_); refine bxE (N := 7) (cs := #[.int .i64 a, .int .i64 b]) (t := 43) ?_; intro gbt hg wt hbox hb; have GKt := As_ ((by rw [hg]; exact JK.size (jkG) : w.heap.size ≤ gbt)); have GJt := As_ ((by rw [hg]; exact JS.size0 (base := base) (ok := ok) (w0 := w0) (g := g) (cur := cur) (jsG) : w0.heap.size ≤ gbt)); replace HK := As_ (HK.out.trans (JK.of_below hb)); replace HJ := As_ (JS.below (base := base) (ok := ok) (w0 := w0) (g := g) (cur := cur) (jsG) hb); have BKt := As_ hbox; clear hb hbox hg; obtain ⟨zt_0, ft_0, zt_1, ft_1⟩ := cellsN2 BKt.out; obtain ⟨zt_0, ft_0, zt_1, ft_1⟩ := cellsN2 BKt.out))
 go_loopg [9, 15] 2 (fun gg so si wx => (so = .string ⟨#[]⟩ ∧ si = .int .i64 0 ∧ gg = 2 ∧ Aside0 (JS base ok w0 g cur wx) ∧ Aside0 (JK w wx) ∧ Aside0 (wx.heap[gbt]? = some (.cells #[.int .i64 a, .int .i64 b] 43 (0, 0)))) ∨ (so = .string A ∧ si = .int .i64 1 ∧ gg = 1 ∧ Aside0 (JS base ok w0 g cur wx) ∧ Aside0 (JK w wx) ∧ Aside0 (wx.heap[gbt]? = some (.cells #[.int .i64 a, .int .i64 b] 43 (0, 0)))) ∨ (so = .string (A ++ B) ∧ si = .int .i64 2 ∧ gg = 0 ∧ Aside0 (JS base ok w0 g cur wx) ∧ Aside0 (JK w wx) ∧ Aside0 (wx.heap[gbt]? = some (.cells #[.int .i64 a, .int .i64 b] 43 (0, 0)))))
 case atStart => exact .inl ⟨rfl, rfl, rfl, ⟨jsG⟩, ⟨jkG⟩, ⟨bkG_t⟩⟩
 case round =>
  clear HJ HK BKt
  rcases hrel with ⟨rfl, rfl, rfl, HJ, HK, BKt⟩ | ⟨rfl, rfl, rfl, HJ, HK, BKt⟩ | ⟨rfl, rfl, rfl, HJ, HK, BKt⟩
  ·go_wp2_with fail
   refine (wire_Num.calls a A ea _ hna).mono ?_
   rintro e w2 ⟨rfl, hb⟩
   replace HK := As_ (HK.out.trans (JK.of_below hb))
   replace HJ := As_ (JS.below (base := base) (ok := ok) (w0 := w0) (g := g) (cur := cur) (jsG) hb)
   replace BKt := As_ (blk_below (g := gbt) (o := .cells #[.int .i64 a, .int .i64 b] 43 (0, 0)) (bkG_t) hb)
   clear hb
   have c9z : A.size ≤ 9223372036854775807 := by have h_ := AC1.out; rw [show (⟨#[]⟩ : ByteArray).size = 0 from rfl] at h_; omega
   have c9y := eq_true c9z
   have c9x : (9223372036854775807 < A.size) = False := eq_false (Nat.not_lt.2 c9z)
   clear c9z
   have c9b0 := eq_true AC1.out
   have c9b2 : (9223372036854775807 < (⟨#[]⟩ : ByteArray).size + A.size) = False := eq_false (Nat.not_lt.2 AC1.out)
   go_wp2
   go_roundg 1
   case measure => omega
   case rel => exact .inr <| .inl ⟨by rw [AE.out], by first | rfl | (simp; done), rfl, ⟨jsG⟩, ⟨jkG⟩, ⟨bkG_t⟩⟩
  ·go_wp2_with fail
   refine (wire_Num.calls b B eb _ hnb).mono ?_
   rintro e w3 ⟨rfl, hb⟩
   replace HK := As_ (HK.out.trans (JK.of_below hb))
   replace HJ := As_ (JS.below (base := base) (ok := ok) (w0 := w0) (g := g) (cur := cur) (jsG) hb)
   replace BKt := As_ (blk_below (g := gbt) (o := .cells #[.int .i64 a, .int .i64 b] 43 (0, 0)) (bkG_t) hb)
   clear hb
   have c9b0 := eq_true AC2.out
   have c9b2 : (9223372036854775807 < A.size + B.size) = False := eq_false (Nat.not_lt.2 AC2.out)
   go_wp2
   go_roundg 0
   case measure => omega
   case rel => exact .inr <| .inr ⟨rfl, by first | rfl | (simp; done), rfl, ⟨jsG⟩, ⟨jkG⟩, ⟨bkG_t⟩⟩
  ·go_wp2_with (first | ((with_reducible refine gate_dst (N := 30) rfl ?_); (try (refine gate_guard (by rfl) ?_; dsimp only)); refine Kd.R_lit Kd.string _ 9 ?hg (N := 30) ?hd (xs := ([name] : List ByteArray)) (inner := [.string name]) (ok := fun _ => True) (okp := fun _ => True) ?hr ?hp (fun _ hk => hk) trivial (Below.refl _ _) (Nat.le_refl _) (by simp) ?_; (case hd => rfl); (case hg => rfl); (case hr => first | (go_simp; done) | (go_simp; rfl)); (case hp => exact (Reps.one (show Kd.M Kd.string _ _ _ name [.string name] from rfl) (Reps.none _ _))); intro vlit wy1 hlit hb hg_ hnew_; clear hg_ hnew_; rw [← Ny1.out] at hlit; obtain ⟨Ay1, cy1, el_⟩ := Kd.R_slice hlit; subst el_; have Ry1 := As_ hlit; clear hlit; replace HK := As_ (HK.out.trans (JK.of_below hb)); replace HJ := As_ (JS.below (base := base) (ok := ok) (w0 := w0) (g := g) (cur := cur) (jsG) hb); replace BKt := As_ (blk_below (g := gbt) (o := .cells #[.int .i64 a, .int .i64 b] 43 (0, 0)) (bkG_t) hb); clear hb))
   refine (path_Join.calls k1 word Ay1 cy1 y1 key _ (Kd.R_reads' Ry1.out).2.2 (Kd.R_reads' Ry1.out).2.1 key1).mono ?_
   rintro e w6 ⟨rfl, hb⟩
   replace HK := As_ (HK.out.trans (JK.of_below hb))
   replace HJ := As_ (JS.below (base := base) (ok := ok) (w0 := w0) (g := g) (cur := cur) (jsG) hb)
   replace BKt := As_ (blk_below (g := gbt) (o := .cells #[.int .i64 a, .int .i64 b] 43 (0, 0)) (bkG_t) hb)
   clear hb
   clear Ry1 Ny1
   go_wp2_with fail
   refine (js_set key (A ++ B) HJ.out hk).mono ?_
   rintro e w7 ⟨rfl, hj, hk⟩
   replace HK := As_ (HK.out.trans hk)
   replace HJ := As_ (hj)
   replace BKt := As_ (JK.blk (b := gbt) (c := #[.int .i64 a, .int .i64 b]) (q := 43) (x := (0, 0)) hk (bkG_t) (by decide))
   clear hj hk
   go_wp2
   go_ret
   exact ⟨rfl, HJ.out, HK.out⟩
end
theorem qu_left {base g : Nat} {ok : Nat → Prop} {w0 : World} {cur : List S50} (name : ByteArray) (qa qb time x : Int) {w : World} (h : JS base ok w0 g cur w) (hk : KV 1000000 cur) (hn : name.size ≤ 50000000) (hqb : 1 ≤ qb) (hqb2 : qb ≤ 9007199254740992) (hqa : 0 ≤ qa ∧ qa ≤ 9007199254740992) (ht : -9223372036854775808 ≤ time ∧ time ≤ 9223372036854775807) (hx : quRest cur name qa qb time = x) :
  Calls Tryd.prog 17 #[.pointer (some ⟨g, 0, none⟩), .string name, .agg #[.int .i64 qa, .int .i64 qb], .int .i64 time] w fun e w' => e = .returned (.int .i64 x) ∧ Below w.heap.size w w' := by
 obtain ⟨sa, sb, so, hs⟩ : ∃ a b c, quTwo cur (spK name) = (a, b, c) := ⟨_, _, _, rfl⟩
 have hsb : 0 ≤ sb ∧ sb ≤ 9007199254740992 := by
  have := (two2_bd (getK cur (spK name)).1).2
  have e : (two2 (getK cur (spK name)).1).2.1 = sb := congrArg (fun z => z.2.1) hs
  rw [e] at this; exact this
 unfold quRest at hx
 rw [hs] at hx
 dsimp only at hx
 have hq0 : ¬ qb = 0 := by omega
 have hdv := tdiv_bd time qb ht.1 ht.2 hqb
 have HW1 := As_ (show wrap64 (qa - sb) = qa - sb from w64 (by omega) (by omega))
 have HW2 := As_ (show wrap64 (time.tdiv qb) = time.tdiv qb from w64 hdv.1 hdv.2)
 generalize hD : time.tdiv qb = D at hx HW2 hdv
 have AD := As_ hD
 have AS := As_ hs
 have A0_ := As_ hq0
 have HJ := As_ h
 have HB := As_ (Below.refl w.heap.size w)
 clear h hs hqb hqb2 hqa ht hsb hq0 hdv hD
 go_enter Tryd.func17, Tryd.ntmps17
 go_wp2_with (first | ((with_reducible refine gate_dst (N := 6) rfl ?_); refine bxE (N := 6) (cs := #[.int .i64 qa, .int .i64 qb]) (t := 43) ?_; intro gbq hg wq hbox hb; have GEq := As_ ((by rw [hg]; exact (below_size (blwG)) : w.heap.size ≤ gbq)); have GJq := As_ ((by rw [hg]; exact JS.size0 (base := base) (ok := ok) (w0 := w0) (g := g) (cur := cur) (jsG) : w0.heap.size ≤ gbq)); replace HB := As_ (below_step (blwG) hb); replace HJ := As_ (JS.below (base := base) (ok := ok) (w0 := w0) (g := g) (cur := cur) (jsG) hb); have BKq := As_ hbox; clear hb hbox hg; obtain ⟨zq_0, fq_0, zq_1, fq_1⟩ := cellsN2 BKq.out; obtain ⟨zq_0, fq_0, zq_1, fq_1⟩ := cellsN2 BKq.out))
 refine (qu_get (⟨#[115, 112, 101, 110, 116]⟩ : ByteArray) name _ sa sb so HJ.out hk (by decide) hn rfl AS.out).mono ?_
 rintro e w1 ⟨rfl, hb⟩
 replace HB := As_ (below_step (blwG) hb)
 replace HJ := As_ (JS.below (base := base) (ok := ok) (w0 := w0) (g := g) (cur := cur) (jsG) hb)
 replace BKq := As_ (blk_below (g := gbq) (o := .cells #[.int .i64 qa, .int .i64 qb] 43 (0, 0)) (bkG_q) hb)
 clear hb
 obtain ⟨zq_0, fq_0, zq_1, fq_1⟩ := cellsN2 BKq.out
 clear HJ AS
 cases so with
 | false =>
  go_upto_region 2 with (first | ((with_reducible refine gate_dst (N := 9) rfl ?_); refine bxE (N := 9) (cs := #[.int .i64 0, .int .i64 0]) (t := 43) ?_; intro gbs hg ws hbox hb; have GEs := As_ ((by rw [hg]; exact (below_size (blwG)) : w.heap.size ≤ gbs)); have NBq_s := As_ ((by rw [hg]; exact Nat.ne_of_lt (blk_lt (g := gbq) (o := .cells #[.int .i64 qa, .int .i64 qb] 43 (0, 0)) (bkG_q)) : gbq ≠ gbs)); have NBs_q := As_ ((by rw [hg]; exact Nat.ne_of_gt (blk_lt (g := gbq) (o := .cells #[.int .i64 qa, .int .i64 qb] 43 (0, 0)) (bkG_q)) : gbs ≠ gbq)); replace HB := As_ (below_step (blwG) hb); replace BKq := As_ (blk_below (g := gbq) (o := .cells #[.int .i64 qa, .int .i64 qb] 43 (0, 0)) (bkG_q) hb); have BKs := As_ hbox; clear hb hbox hg; obtain ⟨zs_0, fs_0, zs_1, fs_1⟩ := cellsN2 BKs.out; have hnsq := NBs_q.out; have hmsq := NBq_s.out; obtain ⟨zq_0, fq_0, zq_1, fq_1⟩ := cellsN2 BKq.out; have hnqs := NBq_s.out; have hmqs := NBs_q.out; obtain ⟨zs_0, fs_0, zs_1, fs_1⟩ := cellsN2 BKs.out; have hnsq := NBs_q.out; have hmsq := NBq_s.out))
  refine start_ (n := 10) (S := fun w' => HeldC gbq #[.int .i64 qa, .int .i64 qb] 43 w' ∧ HeldC gbs #[.int .i64 sa, .int .i64 sb] 43 w') (ds := []) #[false, false, false, false, false, false, false, false, false, false] (by kernel_rfl) rfl rfl ⟨HeldC.of (bkG_q), HeldC.of (bkG_s)⟩ (fun hHeld => ?_)
  have n_HB := at_world hHeld.1 (F := fun Y => Below w.heap.size w Y) (blwG)
  have n_BKq := at_world hHeld.1 (F := fun Y => Y.heap[gbq]? = some (.cells #[.int .i64 qa, .int .i64 qb] 43 (0, 0))) (bkG_q)
  have n_BKs := at_world hHeld.1 (F := fun Y => Y.heap[gbs]? = some (.cells #[.int .i64 sa, .int .i64 sb] 43 (0, 0))) (bkG_s)
  clear HB BKq BKs
  have HB := n_HB
  have BKq := n_BKq
  have BKs := n_BKs
  clear n_HB n_BKq n_BKs
  generalize World.drew _ = w8 at hHeld HB BKq BKs ⊢
  refine pure_ (i := 0) (N := some 17) #[true, false, false, false, false, false, false, false, false, false] rfl rfl (by kernel_rfl) (fun _ _ _ h => h) (Or.inl ⟨by rfl, ap1_⟩) ap16_ ?_
  refine pure_ (i := 1) (N := some 18) #[true, true, false, false, false, false, false, false, false, false] rfl rfl (by kernel_rfl) (fun _ _ _ h => h) (Or.inl ⟨by rfl, ap1_⟩) ap16_ ?_
  refine pure_ (i := 2) (N := some 19) (v := undef) (a' := ?_) #[true, true, true, false, false, false, false, false, false, false] rfl rfl (by kernel_rfl) (fun _ _ _ h => h) (Or.inr ⟨by rfl, rfl⟩) ?_ ?_
  rotate_left
  ·simp only [Act.put, List.setIfInBounds_toArray, List.set_cons_zero, List.set_cons_succ, i64_w, i32_w]
   rfl
  refine pure_ (i := 3) (N := some 20) (v := undef) (a' := ?_) #[true, true, true, true, false, false, false, false, false, false] rfl rfl (by kernel_rfl) (fun _ _ _ h => h) (Or.inr ⟨by rfl, rfl⟩) ?_ ?_
  rotate_left
  ·simp only [Act.put, List.setIfInBounds_toArray, List.set_cons_zero, List.set_cons_succ, i64_w, i32_w]
   rfl
  refine pure_ (i := 4) (N := some 21) (v := undef) (a' := ?_) #[true, true, true, true, true, false, false, false, false, false] rfl rfl (by kernel_rfl) (fun _ _ _ h => h) (Or.inr ⟨by rfl, rfl⟩) ?_ ?_
  rotate_left
  ·simp only [Act.put, List.setIfInBounds_toArray, List.set_cons_zero, List.set_cons_succ, i64_w, i32_w]
   rfl
  refine pure_ (i := 5) (N := some 22) (v := undef) (a' := ?_) #[true, true, true, true, true, true, false, false, false, false] rfl rfl (by kernel_rfl) (fun _ _ _ h => h) (Or.inr ⟨by rfl, rfl⟩) ?_ ?_
  rotate_left
  ·simp only [Act.put, List.setIfInBounds_toArray, List.set_cons_zero, List.set_cons_succ, i64_w, i32_w]
   rfl
  refine pure_ (i := 6) (N := some 23) (v := undef) (a' := ?_) #[true, true, true, true, true, true, true, false, false, false] rfl rfl (by kernel_rfl) (fun _ _ _ h => h) (Or.inr ⟨by rfl, rfl⟩) ?_ ?_
  rotate_left
  ·simp only [Act.put, List.setIfInBounds_toArray, List.set_cons_zero, List.set_cons_succ, i64_w, i32_w]
   rfl
  refine pure_ (i := 7) (N := some 24) (v := undef) (a' := ?_) #[true, true, true, true, true, true, true, true, false, false] rfl rfl (by kernel_rfl) (fun _ _ _ h => h) (Or.inr ⟨by rfl, rfl⟩) ?_ ?_
  rotate_left
  ·simp only [Act.put, List.setIfInBounds_toArray, List.set_cons_zero, List.set_cons_succ, i64_w, i32_w]
   rfl
  refine pure_ (i := 8) (N := some 25) (v := undef) (a' := ?_) #[true, true, true, true, true, true, true, true, true, false] rfl rfl (by kernel_rfl) (fun _ _ _ h => h) (Or.inr ⟨by rfl, rfl⟩) ?_ ?_
  rotate_left
  ·simp only [Act.put, List.setIfInBounds_toArray, List.set_cons_zero, List.set_cons_succ, i64_w, i32_w]
   rfl
  refine pure_ (i := 9) (N := some 26) #[true, true, true, true, true, true, true, true, true, true] rfl rfl (by kernel_rfl) (fun _ _ _ h => h) (Or.inl ⟨by rfl, ap1_⟩) ap16_ ?_
  refine done_ (by kernel_rfl) ?_
  clear hHeld
  rw [if_neg (by simp)] at hx
  subst hx
  obtain ⟨zq_0, fq_0, zq_1, fq_1⟩ := cellsN2 BKq.out
  have hnqs := NBq_s.out
  have hmqs := NBs_q.out
  go_wp2
  go_ret
  exact ⟨rfl, blwG⟩
 | true =>
  go_upto_region 2 with (first | ((with_reducible refine gate_dst (N := 9) rfl ?_); refine bxE (N := 9) (cs := #[.int .i64 0, .int .i64 0]) (t := 43) ?_; intro gbs hg ws hbox hb; have GEs := As_ ((by rw [hg]; exact (below_size (blwG)) : w.heap.size ≤ gbs)); have NBq_s := As_ ((by rw [hg]; exact Nat.ne_of_lt (blk_lt (g := gbq) (o := .cells #[.int .i64 qa, .int .i64 qb] 43 (0, 0)) (bkG_q)) : gbq ≠ gbs)); have NBs_q := As_ ((by rw [hg]; exact Nat.ne_of_gt (blk_lt (g := gbq) (o := .cells #[.int .i64 qa, .int .i64 qb] 43 (0, 0)) (bkG_q)) : gbs ≠ gbq)); replace HB := As_ (below_step (blwG) hb); replace BKq := As_ (blk_below (g := gbq) (o := .cells #[.int .i64 qa, .int .i64 qb] 43 (0, 0)) (bkG_q) hb); have BKs := As_ hbox; clear hb hbox hg; obtain ⟨zs_0, fs_0, zs_1, fs_1⟩ := cellsN2 BKs.out; have hnsq := NBs_q.out; have hmsq := NBq_s.out; obtain ⟨zq_0, fq_0, zq_1, fq_1⟩ := cellsN2 BKq.out; have hnqs := NBq_s.out; have hmqs := NBs_q.out; obtain ⟨zs_0, fs_0, zs_1, fs_1⟩ := cellsN2 BKs.out; have hnsq := NBs_q.out; have hmsq := NBq_s.out))
  refine start_ (n := 10) (S := fun w' => HeldC gbq #[.int .i64 qa, .int .i64 qb] 43 w' ∧ HeldC gbs #[.int .i64 sa, .int .i64 sb] 43 w') (ds := []) #[false, false, false, false, false, false, false, false, false, false] (by kernel_rfl) rfl rfl ⟨HeldC.of (bkG_q), HeldC.of (bkG_s)⟩ (fun hHeld => ?_)
  have n_HB := at_world hHeld.1 (F := fun Y => Below w.heap.size w Y) (blwG)
  have n_BKq := at_world hHeld.1 (F := fun Y => Y.heap[gbq]? = some (.cells #[.int .i64 qa, .int .i64 qb] 43 (0, 0))) (bkG_q)
  have n_BKs := at_world hHeld.1 (F := fun Y => Y.heap[gbs]? = some (.cells #[.int .i64 sa, .int .i64 sb] 43 (0, 0))) (bkG_s)
  clear HB BKq BKs
  have HB := n_HB
  have BKq := n_BKq
  have BKs := n_BKs
  clear n_HB n_BKq n_BKs
  generalize World.drew _ = w8 at hHeld HB BKq BKs ⊢
  refine pure_ (i := 0) (N := some 17) #[true, false, false, false, false, false, false, false, false, false] rfl rfl (by kernel_rfl) (fun _ _ _ h => h) (Or.inl ⟨by rfl, ap1_⟩) ap16_ ?_
  refine pure_ (i := 1) (N := some 18) #[true, true, false, false, false, false, false, false, false, false] rfl rfl (by kernel_rfl) (fun _ _ _ h => h) (Or.inl ⟨by rfl, ap1_⟩) ap16_ ?_
  refine pure_ (i := 2) (N := some 19) #[true, true, true, false, false, false, false, false, false, false] rfl rfl (by kernel_rfl) (fun _ _ _ h => h) (Or.inl ⟨by rfl, ap1_⟩) ap16_ ?_
  refine take_ (i := 3) (N := some 20) #[true, true, true, true, false, false, false, false, false, false] rfl rfl (by kernel_rfl) (fun _ _ _ h => h) (Or.inl ⟨by rfl, (by rintro w' ⟨s0, s1⟩; have t0 : w'.cell? ⟨gbq, 1, none⟩ = some (.int .i64 qb) := (blk_cell (HeldC.blk s0) 1).trans rfl; have t1 : w'.cell? ⟨gbs, 0, none⟩ = some (.int .i64 sa) := (blk_cell (HeldC.blk s1) 0).trans rfl; go_simp; with_reducible rfl)⟩) hHeld ap16_ ?_
  refine pure_ (i := 4) (N := some 21) #[true, true, true, true, true, false, false, false, false, false] rfl rfl (by kernel_rfl) (fun _ _ _ h => h) (Or.inl ⟨by rfl, ap1_⟩) ap16_ ?_
  refine pure_ (i := 5) (N := some 22) #[true, true, true, true, true, true, false, false, false, false] rfl rfl (by kernel_rfl) (fun _ _ _ h => h) (Or.inl ⟨by rfl, ap1_⟩) ap16_ ?_
  refine take_ (i := 6) (N := some 23) #[true, true, true, true, true, true, true, false, false, false] rfl rfl (by kernel_rfl) (fun _ _ _ h => h) (Or.inl ⟨by rfl, (by rintro w' ⟨s0, s1⟩; have t0 : w'.cell? ⟨gbq, 1, none⟩ = some (.int .i64 qb) := (blk_cell (HeldC.blk s0) 1).trans rfl; have t1 : w'.cell? ⟨gbs, 0, none⟩ = some (.int .i64 sa) := (blk_cell (HeldC.blk s1) 0).trans rfl; go_simp; with_reducible rfl)⟩) hHeld ap16_ ?_
  refine pure_ (i := 7) (N := some 24) #[true, true, true, true, true, true, true, true, false, false] rfl rfl (by kernel_rfl) (fun _ _ _ h => h) (Or.inl ⟨by rfl, (by intro w'; go_simp; have a0 := A0_.out; have hW := HW2.out; have hD := AD.out; rw [if_neg a0, i64_w, hD, hW]; first | done | with_reducible rfl)⟩) ap16_ ?_
  refine pure_ (i := 8) (N := some 25) #[true, true, true, true, true, true, true, true, true, false] rfl rfl (by kernel_rfl) (fun _ _ _ h => h) (Or.inl ⟨by rfl, ap1_⟩) ap16_ ?_
  refine pure_ (i := 9) (N := some 26) #[true, true, true, true, true, true, true, true, true, true] rfl rfl (by kernel_rfl) (fun _ _ _ h => h) (Or.inl ⟨by rfl, ap1_⟩) ap16_ ?_
  refine done_ (by kernel_rfl) ?_
  clear hHeld
  by_cases hw_ : sa = D
  ·rw [if_pos ⟨trivial, hw_⟩] at hx
   subst hx
   have c9 : (sa == D) = true := beq_iff_eq.2 hw_
   obtain ⟨zq_0, fq_0, zq_1, fq_1⟩ := cellsN2 BKq.out
   have hnqs := NBq_s.out
   have hmqs := NBs_q.out
   obtain ⟨zs_0, fs_0, zs_1, fs_1⟩ := cellsN2 BKs.out
   have hnsq := NBs_q.out
   have hmsq := NBq_s.out
   go_wp2
   go_ret
   exact ⟨congrArg (fun z => Ending.returned (Value.int .i64 z)) HW1.out, blwG⟩
  ·rw [if_neg (fun e => hw_ e.2)] at hx
   subst hx
   have c9 : (sa == D) = false := beq_eq_false_iff_ne.2 hw_
   obtain ⟨zq_0, fq_0, zq_1, fq_1⟩ := cellsN2 BKq.out
   have hnqs := NBq_s.out
   have hmqs := NBs_q.out
   go_wp2
   go_ret
   exact ⟨rfl, blwG⟩
theorem quBad_is (n l : Int) : quota_bad.f n l = some (decide (n < l ∨ n > 1099511627776)) := by
 unfold quota_bad.f
 by_cases h : n < l
 ·rw [if_pos h, decide_eq_true (.inl h)]
 ·rw [if_neg h]; congr 1; exact decide_eq_decide.2 ⟨.inr, fun e => e.resolve_left h⟩
theorem setE_0 {key value : ByteArray} (h1 : key.size ≤ 65536) (h2 : value.size ≤ 65536) : setE key value = 0 := if_neg (by omega)
theorem qu_Left {base g : Nat} {ok : Nat → Prop} {w0 : World} {cur : List S50} (name : ByteArray) (time x : Int) {w : World} (h : JS base ok w0 g cur w) (hk : KV 1000000 cur) (hn : name.size ≤ 50000000) (hinv : QInv cur) (hx : quLeft cur name time = x) :
  Calls Tryd.prog 7 #[.pointer (some ⟨g, 0, none⟩), .string name, .int .i64 time] w fun e w' => e = .returned (.int .i64 x) ∧ Below w.heap.size w w' := by
 obtain ⟨qa, qb, qo, hq⟩ : ∃ a b c, quTwo cur (quK name) = (a, b, c) := ⟨_, _, _, rfl⟩
 have hi := hinv name
 unfold quLeft at hx
 rw [hq] at hx hi
 dsimp only at hx hi
 have hbad := quBad_is time 0
 obtain ⟨z, hz⟩ : ∃ z, decide (time < 0 ∨ time > 1099511627776) = z := ⟨_, rfl⟩
 rw [hz] at hbad
 have AI := As_ hi
 have AX := As_ hx
 have AZ := As_ hz
 have AQ := As_ hq
 have HJ := As_ h
 have HB := As_ (Below.refl w.heap.size w)
 clear h hq hinv hi hx hz
 go_enter Tryd.func7, Tryd.ntmps7
 go_wp2_with fail
 refine (qu_get (⟨#[113, 117, 111, 116, 97]⟩ : ByteArray) name _ qa qb qo HJ.out hk (by decide) hn rfl AQ.out).mono ?_
 rintro e w1 ⟨rfl, hb⟩
 replace HB := As_ (below_step (blwG) hb)
 replace HJ := As_ (JS.below (base := base) (ok := ok) (w0 := w0) (g := g) (cur := cur) (jsG) hb)
 clear hb
 clear AQ
 cases qo with
 | false =>
  have hx := AX.out
  clear AX
  rw [if_neg (by simp)] at hx
  subst hx
  go_wp2_with (first | ((with_reducible refine gate_dst (N := 7) rfl ?_); refine bxE (N := 7) (cs := #[.int .i64 0, .int .i64 0]) (t := 43) ?_; intro gbq hg wq hbox hb; have GEq := As_ ((by rw [hg]; exact (below_size (blwG)) : w.heap.size ≤ gbq)); have GJq := As_ ((by rw [hg]; exact JS.size0 (base := base) (ok := ok) (w0 := w0) (g := g) (cur := cur) (jsG) : w0.heap.size ≤ gbq)); replace HB := As_ (below_step (blwG) hb); replace HJ := As_ (JS.below (base := base) (ok := ok) (w0 := w0) (g := g) (cur := cur) (jsG) hb); have BKq := As_ hbox; clear hb hbox hg; obtain ⟨zq_0, fq_0, zq_1, fq_1⟩ := cellsN2 BKq.out; obtain ⟨zq_0, fq_0, zq_1, fq_1⟩ := cellsN2 BKq.out))
  go_ret
  exact ⟨rfl, blwG⟩
 | true =>
  have hx := AX.out
  clear AX
  rw [if_pos rfl] at hx
  go_wp2_with (first | ((with_reducible refine gate_dst (N := 7) rfl ?_); refine bxE (N := 7) (cs := #[.int .i64 0, .int .i64 0]) (t := 43) ?_; intro gbq hg wq hbox hb; have GEq := As_ ((by rw [hg]; exact (below_size (blwG)) : w.heap.size ≤ gbq)); have GJq := As_ ((by rw [hg]; exact JS.size0 (base := base) (ok := ok) (w0 := w0) (g := g) (cur := cur) (jsG) : w0.heap.size ≤ gbq)); replace HB := As_ (below_step (blwG) hb); replace HJ := As_ (JS.below (base := base) (ok := ok) (w0 := w0) (g := g) (cur := cur) (jsG) hb); have BKq := As_ hbox; clear hb hbox hg; obtain ⟨zq_0, fq_0, zq_1, fq_1⟩ := cellsN2 BKq.out; obtain ⟨zq_0, fq_0, zq_1, fq_1⟩ := cellsN2 BKq.out))
  refine (quota_bad.calls time 0 z _ hbad).mono ?_
  rintro e w2 ⟨rfl, hd⟩
  have hb := hd.below
  clear hd
  replace HB := As_ (below_step (blwG) hb)
  replace HJ := As_ (JS.below (base := base) (ok := ok) (w0 := w0) (g := g) (cur := cur) (jsG) hb)
  replace BKq := As_ (blk_below (g := gbq) (o := .cells #[.int .i64 qa, .int .i64 qb] 43 (0, 0)) (bkG_q) hb)
  clear hb
  cases z with
  | false =>
   rw [if_neg (of_decide_eq_false AZ.out)] at hx
   obtain ⟨zq_0, fq_0, zq_1, fq_1⟩ := cellsN2 BKq.out
   go_wp2_with fail
   refine (qu_left name qa qb time x HJ.out hk hn (AI.out (by trivial)).2.2.1 (Int.le_trans (AI.out (by trivial)).2.2.2 (by decide)) ⟨(AI.out (by trivial)).1, Int.le_trans (AI.out (by trivial)).2.1 (by decide)⟩ (by have := of_decide_eq_false AZ.out; omega) hx).mono ?_
   rintro e w3 ⟨rfl, hb⟩
   replace HB := As_ (below_step (blwG) hb)
   replace HJ := As_ (JS.below (base := base) (ok := ok) (w0 := w0) (g := g) (cur := cur) (jsG) hb)
   replace BKq := As_ (blk_below (g := gbq) (o := .cells #[.int .i64 qa, .int .i64 qb] 43 (0, 0)) (bkG_q) hb)
   clear hb
   go_wp2
   go_ret
   exact ⟨rfl, HB.out⟩
  | true =>
   rw [if_pos (of_decide_eq_true AZ.out)] at hx
   subst hx
   go_wp2
   go_ret
   exact ⟨rfl, HB.out⟩
theorem qu_Spend {base g : Nat} {ok : Nat → Prop} {w0 : World} {cur : List S50} (name : ByteArray) (time n E : Int) (cur' : List S50) {w : World} (h : JS base ok w0 g cur w) (hk : KV 1000000 cur) (hn : name.size ≤ 1000) (hinv : QInv cur) (hE : quSpendE cur name time n = E) (hcur : quSpend cur name time n = cur') :
  Calls Tryd.prog 8 #[.pointer (some ⟨g, 0, none⟩), .string name, .int .i64 time, .int .i64 n] w fun e w' => e = .returned (.int .i64 E) ∧ JS base ok w0 g cur' w' ∧ JK w w' := by
 obtain ⟨qa, qb, qo, hq⟩ : ∃ a b c, quTwo cur (quK name) = (a, b, c) := ⟨_, _, _, rfl⟩
 obtain ⟨sa, sb, so, hs⟩ : ∃ a b c, quTwo cur (spK name) = (a, b, c) := ⟨_, _, _, rfl⟩
 obtain ⟨rest, hrest⟩ : ∃ z, quRest cur name qa qb time = z := ⟨_, rfl⟩
 have hi := hinv name
 unfold quSpend at hcur
 rw [hE] at hcur
 unfold quSpendE at hE
 rw [hq] at hE hi hcur
 dsimp only at hE hi hcur
 rw [hs, hrest] at hE
 rw [hrest] at hcur
 dsimp only at hE hcur
 have hrb : qo = true → -9007199254740992 ≤ rest ∧ rest ≤ 1099511627776 := fun e => by
  have h1 := hi e
  have h2 : 0 ≤ sb ∧ sb ≤ 9007199254740992 := by
   have := (two2_bd (getK cur (spK name)).1).2
   have e : (two2 (getK cur (spK name)).1).2.1 = sb := congrArg (fun z => z.2.1) hs
   rw [e] at this; exact this
  rw [← hrest]
  unfold quRest
  rw [hs]
  dsimp only
  split <;> omega
 have hb1 := quBad_is time 0
 obtain ⟨z1, hz1⟩ : ∃ z, decide (time < 0 ∨ time > 1099511627776) = z := ⟨_, rfl⟩
 rw [hz1] at hb1
 have hb2 := quBad_is n 1
 obtain ⟨z2, hz2⟩ : ∃ z, decide (n < 1 ∨ n > 1099511627776) = z := ⟨_, rfl⟩
 rw [hz2] at hb2
 obtain ⟨D, hD⟩ : ∃ z, time.tdiv qb = z := ⟨_, rfl⟩
 rw [hD] at hE hcur
 have hn5 : name.size ≤ 50000000 := by omega
 have AI := As_ hi
 have AR := As_ hrb
 have AE := As_ hE
 have AC := As_ hcur
 have AZ1 := As_ hz1
 have AZ2 := As_ hz2
 have AQ := As_ hq
 have AS := As_ hs
 have AT := As_ hrest
 have AD := As_ hD
 have HJ := As_ h
 have HK := As_ (JK.of_below (Below.refl w.heap.size w))
 clear h hq hs hinv hi hE hcur hz1 hz2 hrest hrb hD
 go_enter Tryd.func8, Tryd.ntmps8
 go_wp2_with fail
 refine (qu_get (⟨#[113, 117, 111, 116, 97]⟩ : ByteArray) name _ qa qb qo HJ.out hk (by decide) hn5 rfl AQ.out).mono ?_
 rintro e w1 ⟨rfl, hb⟩
 replace HK := As_ (HK.out.trans (JK.of_below hb))
 replace HJ := As_ (JS.below (base := base) (ok := ok) (w0 := w0) (g := g) (cur := cur) (jsG) hb)
 clear hb
 clear AQ
 cases qo with
 | false =>
  have hE := AE.out
  have hcur := AC.out
  rw [if_neg (by simp)] at hE
  subst hE
  rw [if_neg (by decide)] at hcur
  subst hcur
  go_wp2_with (first | ((with_reducible refine gate_dst (N := 9) rfl ?_); refine bxE (N := 9) (cs := #[.int .i64 0, .int .i64 0]) (t := 43) ?_; intro gbq hg wq hbox hb; have GKq := As_ ((by rw [hg]; exact JK.size (jkG) : w.heap.size ≤ gbq)); have GJq := As_ ((by rw [hg]; exact JS.size0 (base := base) (ok := ok) (w0 := w0) (g := g) (cur := cur) (jsG) : w0.heap.size ≤ gbq)); replace HK := As_ (HK.out.trans (JK.of_below hb)); replace HJ := As_ (JS.below (base := base) (ok := ok) (w0 := w0) (g := g) (cur := cur) (jsG) hb); have BKq := As_ hbox; clear hb hbox hg; obtain ⟨zq_0, fq_0, zq_1, fq_1⟩ := cellsN2 BKq.out; obtain ⟨zq_0, fq_0, zq_1, fq_1⟩ := cellsN2 BKq.out))
  go_ret
  exact ⟨rfl, jsG, jkG⟩
 | true =>
  have hI := AI.out (by trivial)
  have hR := AR.out (by trivial)
  have hE0 := AE.out
  rw [if_pos rfl] at hE0
  clear AE
  have AE := As_ hE0
  clear hE0
  have AHI := As_ hI
  have AHR := As_ hR
  clear hI hR AI AR
  go_wp2_with (first | ((with_reducible refine gate_dst (N := 9) rfl ?_); refine bxE (N := 9) (cs := #[.int .i64 0, .int .i64 0]) (t := 43) ?_; intro gbq hg wq hbox hb; have GKq := As_ ((by rw [hg]; exact JK.size (jkG) : w.heap.size ≤ gbq)); have GJq := As_ ((by rw [hg]; exact JS.size0 (base := base) (ok := ok) (w0 := w0) (g := g) (cur := cur) (jsG) : w0.heap.size ≤ gbq)); replace HK := As_ (HK.out.trans (JK.of_below hb)); replace HJ := As_ (JS.below (base := base) (ok := ok) (w0 := w0) (g := g) (cur := cur) (jsG) hb); have BKq := As_ hbox; clear hb hbox hg; obtain ⟨zq_0, fq_0, zq_1, fq_1⟩ := cellsN2 BKq.out; obtain ⟨zq_0, fq_0, zq_1, fq_1⟩ := cellsN2 BKq.out))
  refine (quota_bad.calls time 0 z1 _ hb1).mono ?_
  rintro e w2 ⟨rfl, hd⟩
  have hb := hd.below
  clear hd
  replace HK := As_ ((jkG : JK _ _).trans (JK.of_below hb))
  replace HJ := As_ (JS.below (base := base) (ok := ok) (w0 := w0) (g := g) (cur := cur) (jsG) hb)
  replace BKq := As_ (blk_below (g := gbq) (o := .cells #[.int .i64 qa, .int .i64 qb] 43 (0, 0)) (bkG_q) hb)
  clear hb
  cases z1 with
  | true =>
   have hE := AE.out
   have hcur := AC.out
   rw [if_pos ((of_decide_eq_true AZ1.out).imp id .inl)] at hE
   subst hE
   rw [if_neg (by decide)] at hcur
   subst hcur
   go_wp2
   go_ret
   exact ⟨rfl, jsG, jkG⟩
  | false =>
   go_wp2_with fail
   refine (quota_bad.calls n 1 z2 _ hb2).mono ?_
   rintro e w3 ⟨rfl, hd⟩
   have hb := hd.below
   clear hd
   replace HK := As_ (HK.out.trans (JK.of_below hb))
   replace HJ := As_ (JS.below (base := base) (ok := ok) (w0 := w0) (g := g) (cur := cur) (jsG) hb)
   replace BKq := As_ (blk_below (g := gbq) (o := .cells #[.int .i64 qa, .int .i64 qb] 43 (0, 0)) (bkG_q) hb)
   clear hb
   cases z2 with
   | true =>
    have hE := AE.out
    have hcur := AC.out
    rw [if_pos ((of_decide_eq_true AZ2.out).elim (fun e => .inr (.inr (.inl e))) (fun e => .inr (.inr (.inr e))))] at hE
    subst hE
    rw [if_neg (by decide)] at hcur
    subst hcur
    go_wp2
    go_ret
    exact ⟨rfl, jsG, jkG⟩
   | false =>
    have nz1 := of_decide_eq_false AZ1.out
    have nz2 := of_decide_eq_false AZ2.out
    have hE0 := AE.out
    rw [if_neg (by omega)] at hE0
    clear AE AZ1 AZ2
    have AE := As_ hE0
    have ATB := As_ (show 0 ≤ time ∧ time ≤ 1099511627776 by omega)
    have ANB := As_ (show 1 ≤ n ∧ n ≤ 1099511627776 by omega)
    clear hE0 nz1 nz2
    go_wp2_with fail
    refine (qu_get (⟨#[115, 112, 101, 110, 116]⟩ : ByteArray) name _ sa sb so HJ.out hk (by decide) hn5 rfl AS.out).mono ?_
    rintro e w4 ⟨rfl, hb⟩
    replace HK := As_ (HK.out.trans (JK.of_below hb))
    replace HJ := As_ (JS.below (base := base) (ok := ok) (w0 := w0) (g := g) (cur := cur) (jsG) hb)
    replace BKq := As_ (blk_below (g := gbq) (o := .cells #[.int .i64 qa, .int .i64 qb] 43 (0, 0)) (bkG_q) hb)
    clear hb
    obtain ⟨zq_0, fq_0, zq_1, fq_1⟩ := cellsN2 BKq.out
    clear AS
    go_wp2_with (first | ((with_reducible refine gate_dst (N := 11) rfl ?_); refine bxE (N := 11) (cs := #[.int .i64 0, .int .i64 0]) (t := 43) ?_; intro gbs hg ws hbox hb; have GKs := As_ ((by rw [hg]; exact JK.size (jkG) : w.heap.size ≤ gbs)); have GJs := As_ ((by rw [hg]; exact JS.size0 (base := base) (ok := ok) (w0 := w0) (g := g) (cur := cur) (jsG) : w0.heap.size ≤ gbs)); have NBq_s := As_ ((by rw [hg]; exact Nat.ne_of_lt (blk_lt (g := gbq) (o := .cells #[.int .i64 qa, .int .i64 qb] 43 (0, 0)) (bkG_q)) : gbq ≠ gbs)); have NBs_q := As_ ((by rw [hg]; exact Nat.ne_of_gt (blk_lt (g := gbq) (o := .cells #[.int .i64 qa, .int .i64 qb] 43 (0, 0)) (bkG_q)) : gbs ≠ gbq)); replace HK := As_ (HK.out.trans (JK.of_below hb)); replace HJ := As_ (JS.below (base := base) (ok := ok) (w0 := w0) (g := g) (cur := cur) (jsG) hb); replace BKq := As_ (blk_below (g := gbq) (o := .cells #[.int .i64 qa, .int .i64 qb] 43 (0, 0)) (bkG_q) hb); have BKs := As_ hbox; clear hb hbox hg; obtain ⟨zs_0, fs_0, zs_1, fs_1⟩ := cellsN2 BKs.out; have hnsq := NBs_q.out; have hmsq := NBq_s.out; obtain ⟨zs_0, fs_0, zs_1, fs_1⟩ := cellsN2 BKs.out; have hnsq := NBs_q.out; have hmsq := NBq_s.out; obtain ⟨zq_0, fq_0, zq_1, fq_1⟩ := cellsN2 BKq.out; have hnqs := NBq_s.out; have hmqs := NBs_q.out))
    refine (qu_left (base := base) (ok := ok) (w0 := w0) (g := g) (cur := cur) name qa qb time rest (jsG) hk hn5 AHI.out.2.2.1 (Int.le_trans AHI.out.2.2.2 (by decide)) ⟨AHI.out.1, Int.le_trans AHI.out.2.1 (by decide)⟩ (by have := ATB.out; omega) AT.out).mono ?_
    rintro e w5 ⟨rfl, hb⟩
    replace HK := As_ ((jkG : JK _ _).trans (JK.of_below hb))
    replace HJ := As_ (JS.below (base := base) (ok := ok) (w0 := w0) (g := g) (cur := cur) (jsG) hb)
    replace BKq := As_ (blk_below (g := gbq) (o := .cells #[.int .i64 qa, .int .i64 qb] 43 (0, 0)) (bkG_q) hb)
    replace BKs := As_ (blk_below (g := gbs) (o := .cells #[.int .i64 sa, .int .i64 sb] 43 (0, 0)) (bkG_s) hb)
    clear hb
    clear AT
    have HWD := As_ (show wrap64 D = D by have h1 := ATB.out; have h2 := tdiv_bd time qb (by omega) (by omega) AHI.out.2.2.1; rw [AD.out] at h2; exact w64 h2.1 h2.2)
    have HQ0 := As_ (show ¬ qb = 0 by have := AHI.out.2.2.1; omega)
    by_cases hg : so = true ∧ sa > D
    ·obtain ⟨rfl, hgt⟩ := hg
     go_upto_region 10 with (fail)
     refine start_ (n := 11) (S := fun w' => HeldC gbq #[.int .i64 qa, .int .i64 qb] 43 w' ∧ HeldC gbs #[.int .i64 sa, .int .i64 sb] 43 w') (ds := []) #[false, false, false, false, false, false, false, false, false, false, false] (by kernel_rfl) rfl rfl ⟨HeldC.of (bkG_q), HeldC.of (bkG_s)⟩ (fun hHeld => ?_)
     have n_HJ := at_world hHeld.1 (F := fun Y => JS base ok w0 g cur Y) (jsG)
     have n_HK := at_world hHeld.1 (F := fun Y => JK w Y) (jkG)
     have n_BKq := at_world hHeld.1 (F := fun Y => Y.heap[gbq]? = some (.cells #[.int .i64 qa, .int .i64 qb] 43 (0, 0))) (bkG_q)
     have n_BKs := at_world hHeld.1 (F := fun Y => Y.heap[gbs]? = some (.cells #[.int .i64 sa, .int .i64 sb] 43 (0, 0))) (bkG_s)
     clear HJ HK BKq BKs
     have HJ := n_HJ
     have HK := n_HK
     have BKq := n_BKq
     have BKs := n_BKs
     clear n_HJ n_HK n_BKq n_BKs
     generalize World.drew _ = w8 at hHeld HJ HK BKq BKs ⊢
     refine pure_ (i := 0) (N := some 44) #[true, false, false, false, false, false, false, false, false, false, false] rfl rfl (by kernel_rfl) (fun _ _ _ h => h) (Or.inl ⟨by rfl, ap1_⟩) ap16_ ?_
     refine pure_ (i := 1) (N := some 45) #[true, true, false, false, false, false, false, false, false, false, false] rfl rfl (by kernel_rfl) (fun _ _ _ h => h) (Or.inl ⟨by rfl, ap1_⟩) ap16_ ?_
     refine pure_ (i := 2) (N := some 46) #[true, true, true, false, false, false, false, false, false, false, false] rfl rfl (by kernel_rfl) (fun _ _ _ h => h) (Or.inl ⟨by rfl, ap1_⟩) ap16_ ?_
     refine take_ (i := 3) (N := some 47) #[true, true, true, true, false, false, false, false, false, false, false] rfl rfl (by kernel_rfl) (fun _ _ _ h => h) (Or.inl ⟨by rfl, (by rintro w' ⟨s0, s1⟩; have t0 : w'.cell? ⟨gbq, 1, none⟩ = some (.int .i64 qb) := (blk_cell (HeldC.blk s0) 1).trans rfl; have t1 : w'.cell? ⟨gbs, 0, none⟩ = some (.int .i64 sa) := (blk_cell (HeldC.blk s1) 0).trans rfl; go_simp; with_reducible rfl)⟩) hHeld ap16_ ?_
     refine pure_ (i := 4) (N := some 48) #[true, true, true, true, true, false, false, false, false, false, false] rfl rfl (by kernel_rfl) (fun _ _ _ h => h) (Or.inl ⟨by rfl, ap1_⟩) ap16_ ?_
     refine pure_ (i := 5) (N := some 49) #[true, true, true, true, true, true, false, false, false, false, false] rfl rfl (by kernel_rfl) (fun _ _ _ h => h) (Or.inl ⟨by rfl, ap1_⟩) ap16_ ?_
     refine take_ (i := 6) (N := some 50) #[true, true, true, true, true, true, true, false, false, false, false] rfl rfl (by kernel_rfl) (fun _ _ _ h => h) (Or.inl ⟨by rfl, (by rintro w' ⟨s0, s1⟩; have t0 : w'.cell? ⟨gbq, 1, none⟩ = some (.int .i64 qb) := (blk_cell (HeldC.blk s0) 1).trans rfl; have t1 : w'.cell? ⟨gbs, 0, none⟩ = some (.int .i64 sa) := (blk_cell (HeldC.blk s1) 0).trans rfl; go_simp; with_reducible rfl)⟩) hHeld ap16_ ?_
     refine pure_ (i := 7) (N := some 51) #[true, true, true, true, true, true, true, true, false, false, false] rfl rfl (by kernel_rfl) (fun _ _ _ h => h) (Or.inl ⟨by rfl, ap19_⟩) ap16_ ?_
     refine pure_ (i := 8) (N := some 52) #[true, true, true, true, true, true, true, true, true, false, false] rfl rfl (by kernel_rfl) (fun _ _ _ h => h) (Or.inl ⟨by rfl, ap1_⟩) ap16_ ?_
     refine pure_ (i := 9) (N := some 53) #[true, true, true, true, true, true, true, true, true, true, false] rfl rfl (by kernel_rfl) (fun _ _ _ h => h) (Or.inl ⟨by rfl, ap1_⟩) ap16_ ?_
     refine pure_ (i := 10) (N := some 43) #[true, true, true, true, true, true, true, true, true, true, true] rfl rfl (by kernel_rfl) (fun _ _ _ h => h) (Or.inl ⟨by rfl, ap1_⟩) ap16_ ?_
     refine done_ (by kernel_rfl) ?_
     clear hHeld
     have hE := AE.out
     have hcur := AC.out
     rw [if_pos ⟨by trivial, hgt⟩] at hE
     subst hE
     rw [if_neg (by decide)] at hcur
     subst hcur
     have c9 : decide (D < sa) = true := decide_eq_true hgt
     go_wp2
     go_ret
     exact ⟨rfl, jsG, jkG⟩
    ·have hE0 := AE.out
     rw [if_neg hg] at hE0
     clear AE
     have AE := As_ hE0
     clear hE0
     cases so with
     | false =>
      go_upto_region 10 with (fail)
      refine start_ (n := 11) (S := fun w' => HeldC gbq #[.int .i64 qa, .int .i64 qb] 43 w' ∧ HeldC gbs #[.int .i64 sa, .int .i64 sb] 43 w') (ds := []) #[false, false, false, false, false, false, false, false, false, false, false] (by kernel_rfl) rfl rfl ⟨HeldC.of (bkG_q), HeldC.of (bkG_s)⟩ (fun hHeld => ?_)
      have n_HJ := at_world hHeld.1 (F := fun Y => JS base ok w0 g cur Y) (jsG)
      have n_HK := at_world hHeld.1 (F := fun Y => JK w Y) (jkG)
      have n_BKq := at_world hHeld.1 (F := fun Y => Y.heap[gbq]? = some (.cells #[.int .i64 qa, .int .i64 qb] 43 (0, 0))) (bkG_q)
      have n_BKs := at_world hHeld.1 (F := fun Y => Y.heap[gbs]? = some (.cells #[.int .i64 sa, .int .i64 sb] 43 (0, 0))) (bkG_s)
      clear HJ HK BKq BKs
      have HJ := n_HJ
      have HK := n_HK
      have BKq := n_BKq
      have BKs := n_BKs
      clear n_HJ n_HK n_BKq n_BKs
      generalize World.drew _ = w8 at hHeld HJ HK BKq BKs ⊢
      refine pure_ (i := 0) (N := some 44) #[true, false, false, false, false, false, false, false, false, false, false] rfl rfl (by kernel_rfl) (fun _ _ _ h => h) (Or.inl ⟨by rfl, ap1_⟩) ap16_ ?_
      refine pure_ (i := 1) (N := some 45) #[true, true, false, false, false, false, false, false, false, false, false] rfl rfl (by kernel_rfl) (fun _ _ _ h => h) (Or.inl ⟨by rfl, ap1_⟩) ap16_ ?_
      refine pure_ (i := 2) (N := some 46) (v := undef) (a' := ?_) #[true, true, true, false, false, false, false, false, false, false, false] rfl rfl (by kernel_rfl) (fun _ _ _ h => h) (Or.inr ⟨by rfl, rfl⟩) ?_ ?_
      rotate_left
      ·simp only [Act.put, List.setIfInBounds_toArray, List.set_cons_zero, List.set_cons_succ, i64_w, i32_w]
       rfl
      refine pure_ (i := 3) (N := some 47) (v := undef) (a' := ?_) #[true, true, true, true, false, false, false, false, false, false, false] rfl rfl (by kernel_rfl) (fun _ _ _ h => h) (Or.inr ⟨by rfl, rfl⟩) ?_ ?_
      rotate_left
      ·simp only [Act.put, List.setIfInBounds_toArray, List.set_cons_zero, List.set_cons_succ, i64_w, i32_w]
       rfl
      refine pure_ (i := 4) (N := some 48) (v := undef) (a' := ?_) #[true, true, true, true, true, false, false, false, false, false, false] rfl rfl (by kernel_rfl) (fun _ _ _ h => h) (Or.inr ⟨by rfl, rfl⟩) ?_ ?_
      rotate_left
      ·simp only [Act.put, List.setIfInBounds_toArray, List.set_cons_zero, List.set_cons_succ, i64_w, i32_w]
       rfl
      refine pure_ (i := 5) (N := some 49) (v := undef) (a' := ?_) #[true, true, true, true, true, true, false, false, false, false, false] rfl rfl (by kernel_rfl) (fun _ _ _ h => h) (Or.inr ⟨by rfl, rfl⟩) ?_ ?_
      rotate_left
      ·simp only [Act.put, List.setIfInBounds_toArray, List.set_cons_zero, List.set_cons_succ, i64_w, i32_w]
       rfl
      refine pure_ (i := 6) (N := some 50) (v := undef) (a' := ?_) #[true, true, true, true, true, true, true, false, false, false, false] rfl rfl (by kernel_rfl) (fun _ _ _ h => h) (Or.inr ⟨by rfl, rfl⟩) ?_ ?_
      rotate_left
      ·simp only [Act.put, List.setIfInBounds_toArray, List.set_cons_zero, List.set_cons_succ, i64_w, i32_w]
       rfl
      refine pure_ (i := 7) (N := some 51) (v := undef) (a' := ?_) #[true, true, true, true, true, true, true, true, false, false, false] rfl rfl (by kernel_rfl) (fun _ _ _ h => h) (Or.inr ⟨by rfl, rfl⟩) ?_ ?_
      rotate_left
      ·simp only [Act.put, List.setIfInBounds_toArray, List.set_cons_zero, List.set_cons_succ, i64_w, i32_w]
       rfl
      refine pure_ (i := 8) (N := some 52) (v := undef) (a' := ?_) #[true, true, true, true, true, true, true, true, true, false, false] rfl rfl (by kernel_rfl) (fun _ _ _ h => h) (Or.inr ⟨by rfl, rfl⟩) ?_ ?_
      rotate_left
      ·simp only [Act.put, List.setIfInBounds_toArray, List.set_cons_zero, List.set_cons_succ, i64_w, i32_w]
       rfl
      refine pure_ (i := 9) (N := some 53) #[true, true, true, true, true, true, true, true, true, true, false] rfl rfl (by kernel_rfl) (fun _ _ _ h => h) (Or.inl ⟨by rfl, ap1_⟩) ap16_ ?_
      refine pure_ (i := 10) (N := some 43) #[true, true, true, true, true, true, true, true, true, true, true] rfl rfl (by kernel_rfl) (fun _ _ _ h => h) (Or.inl ⟨by rfl, ap1_⟩) ap16_ ?_
      refine done_ (by kernel_rfl) ?_
      clear hHeld
      by_cases hlt : n > rest
      ·have hE := AE.out
       have hcur := AC.out
       rw [if_pos hlt] at hE
       subst hE
       rw [if_neg (by decide)] at hcur
       subst hcur
       have c8 : decide (rest < n) = true := decide_eq_true hlt
       go_wp2
       go_ret
       exact ⟨rfl, jsG, jkG⟩
      ·have hE := AE.out
       have hcur := AC.out
       rw [if_neg hlt] at hE
       subst hE
       rw [if_pos rfl] at hcur
       have c8 : decide (rest < n) = false := decide_eq_false hlt
       clear hlt AE AC
       have HWS := As_ (show wrap64 (qa - rest) = qa - rest from w64 ap4_ ap4_)
       have HWN := As_ (show wrap64 (qa - rest + n) = qa - rest + n from w64 ap10_ ap10_)
       have hse := setE_0 (key := spK name) (value := bkNum D ++ bkNum (qa - rest + n)) (by have := spK_len name; omega) (by have := bk2_sz D (qa - rest + n); omega)
       have AP := As_ hse
       have AC := As_ hcur
       clear hse hcur
       go_upto_region 14 with (fail)
       refine start_ (n := 15) (S := fun w' => HeldC gbq #[.int .i64 qa, .int .i64 qb] 43 w') (ds := []) #[false, false, false, false, false, false, false, false, false, false, false, false, false, false, false] (by kernel_rfl) rfl rfl (HeldC.of (bkG_q)) (fun hHeld => ?_)
       have n_HJ := at_world hHeld (F := fun Y => JS base ok w0 g cur Y) (jsG)
       have n_HK := at_world hHeld (F := fun Y => JK w Y) (jkG)
       have n_BKq := at_world hHeld (F := fun Y => Y.heap[gbq]? = some (.cells #[.int .i64 qa, .int .i64 qb] 43 (0, 0))) (bkG_q)
       have n_BKs := at_world hHeld (F := fun Y => Y.heap[gbs]? = some (.cells #[.int .i64 sa, .int .i64 sb] 43 (0, 0))) (bkG_s)
       clear HJ HK BKq BKs
       have HJ := n_HJ
       have HK := n_HK
       have BKq := n_BKq
       have BKs := n_BKs
       clear n_HJ n_HK n_BKq n_BKs
       generalize World.drew _ = w9 at hHeld HJ HK BKq BKs ⊢
       refine pure_ (i := 0) (N := some 58) #[true, false, false, false, false, false, false, false, false, false, false, false, false, false, false] rfl rfl (by kernel_rfl) (fun _ _ _ h => h) (Or.inl ⟨by rfl, ap1_⟩) ap16_ ?_
       refine pure_ (i := 1) (N := some 59) #[true, true, false, false, false, false, false, false, false, false, false, false, false, false, false] rfl rfl (by kernel_rfl) (fun _ _ _ h => h) (Or.inl ⟨by rfl, ap1_⟩) ap16_ ?_
       refine pure_ (i := 2) (N := some 60) #[true, true, true, false, false, false, false, false, false, false, false, false, false, false, false] rfl rfl (by kernel_rfl) (fun _ _ _ h => h) (Or.inl ⟨by rfl, ap1_⟩) ap16_ ?_
       refine pure_ (i := 3) (N := some 61) #[true, true, true, true, false, false, false, false, false, false, false, false, false, false, false] rfl rfl (by kernel_rfl) (fun _ _ _ h => h) (Or.inl ⟨by rfl, ap1_⟩) ap16_ ?_
       refine take_ (i := 4) (N := some 62) #[true, true, true, true, true, false, false, false, false, false, false, false, false, false, false] rfl rfl (by kernel_rfl) (fun _ _ _ h => h) (Or.inl ⟨by rfl, (by rintro w' s0; have t0 : w'.cell? ⟨gbq, 1, none⟩ = some (.int .i64 qb) := (blk_cell (HeldC.blk s0) 1).trans rfl; go_simp; with_reducible rfl)⟩) hHeld ap16_ ?_
       refine pure_ (i := 5) (N := some 63) #[true, true, true, true, true, true, false, false, false, false, false, false, false, false, false] rfl rfl (by kernel_rfl) (fun _ _ _ h => h) (Or.inl ⟨by rfl, ap19_⟩) ap16_ ?_
       refine pure_ (i := 6) (N := some 64) #[true, true, true, true, true, true, true, false, false, false, false, false, false, false, false] rfl rfl (by kernel_rfl) (fun _ _ _ h => h) (Or.inl ⟨by rfl, ap1_⟩) ap16_ ?_
       refine take_ (i := 7) (N := some 65) #[true, true, true, true, true, true, true, true, false, false, false, false, false, false, false] rfl rfl (by kernel_rfl) (fun _ _ _ h => h) (Or.inl ⟨by rfl, (by rintro w' s0; have t0 : w'.cell? ⟨gbq, 0, none⟩ = some (.int .i64 qa) := (blk_cell (HeldC.blk s0) 0).trans rfl; go_simp; with_reducible rfl)⟩) hHeld ap16_ ?_
       refine pure_ (i := 8) (N := some 66) #[true, true, true, true, true, true, true, true, true, false, false, false, false, false, false] rfl rfl (by kernel_rfl) (fun _ _ _ h => h) (Or.inl ⟨by rfl, ap1_⟩) ap16_ ?_
       refine pure_ (i := 9) (N := some 67) #[true, true, true, true, true, true, true, true, true, true, false, false, false, false, false] rfl rfl (by kernel_rfl) (fun _ _ _ h => h) (Or.inl ⟨by rfl, ap20_⟩) ap16_ ?_
       refine pure_ (i := 10) (N := some 68) #[true, true, true, true, true, true, true, true, true, true, true, false, false, false, false] rfl rfl (by kernel_rfl) (fun _ _ _ h => h) (Or.inl ⟨by rfl, ap1_⟩) ap16_ ?_
       refine pure_ (i := 11) (N := some 69) #[true, true, true, true, true, true, true, true, true, true, true, true, false, false, false] rfl rfl (by kernel_rfl) (fun _ _ _ h => h) (Or.inl ⟨by rfl, ap21_⟩) ap16_ ?_
       refine pure_ (i := 12) (N := some 70) #[true, true, true, true, true, true, true, true, true, true, true, true, true, false, false] rfl rfl (by kernel_rfl) (fun _ _ _ h => h) (Or.inl ⟨by rfl, ap1_⟩) ap16_ ?_
       refine one_ (i := 13) (N := some 71) #[true, true, true, true, true, true, true, true, true, true, true, true, true, true, false] rfl rfl (by kernel_rfl) (by decide) (fun K hK => ?_)
       refine goes_ Tryd.func15 (by kernel_rfl) rfl #[.pointer (some ⟨g, 0, none⟩), .string ⟨#[115, 112, 101, 110, 116]⟩, .string name, .agg #[.int .i64 D, .int .i64 (qa - rest + n)]] (by rfl) rfl rfl ap14_ ?_
       refine (qu_put (⟨#[115, 112, 101, 110, 116]⟩ : ByteArray) name (spK name) D (qa - rest + n) HJ.out hk (by decide) hn5 rfl).mono ?_
       rintro e w7 ⟨rfl, hj, hk9⟩
       refine ⟨_, rfl, ?_⟩
       rw [AC.out] at hj
       rw [AP.out]
       have n_HK := As_ (HK.out.trans hk9)
       have n_BKq := As_ (JK.blk (b := gbq) (c := #[.int .i64 qa, .int .i64 qb]) (q := 43) (x := (0, 0)) hk9 BKq.out (by decide))
       clear HJ HK BKq BKs hk9
       have HJ := As_ hj
       have HK := n_HK
       have BKq := n_BKq
       clear n_HK n_BKq hj
       refine hK.out _ _ (HeldC.of BKq.out) (fun hHeld => ?_)
       clear hK K
       refine norm_ (a' := ?_) ?_ ?_
       rotate_left
       ·show Act.put _ (some 71) _ = _
        simp only [Act.put, List.setIfInBounds_toArray, List.set_cons_zero, List.set_cons_succ, i64_w, i32_w]
        rfl
       refine pure_ (i := 14) (N := some 8) #[true, true, true, true, true, true, true, true, true, true, true, true, true, true, true] rfl rfl (by kernel_rfl) (fun _ _ _ h => h) (Or.inl ⟨by rfl, ap1_⟩) ap16_ ?_
       refine done_ (by kernel_rfl) ?_
       clear hHeld
       first | (go_wp2; go_ret) | go_ret
       exact ⟨rfl, HJ.out, HK.out⟩
     | true =>
      have hle : ¬ sa > D := fun e => hg ⟨by trivial, e⟩
      have c9 : decide (D < sa) = false := decide_eq_false hle
      clear hle
      go_upto_region 10 with (fail)
      refine start_ (n := 11) (S := fun w' => HeldC gbq #[.int .i64 qa, .int .i64 qb] 43 w' ∧ HeldC gbs #[.int .i64 sa, .int .i64 sb] 43 w') (ds := []) #[false, false, false, false, false, false, false, false, false, false, false] (by kernel_rfl) rfl rfl ⟨HeldC.of (bkG_q), HeldC.of (bkG_s)⟩ (fun hHeld => ?_)
      have n_HJ := at_world hHeld.1 (F := fun Y => JS base ok w0 g cur Y) (jsG)
      have n_HK := at_world hHeld.1 (F := fun Y => JK w Y) (jkG)
      have n_BKq := at_world hHeld.1 (F := fun Y => Y.heap[gbq]? = some (.cells #[.int .i64 qa, .int .i64 qb] 43 (0, 0))) (bkG_q)
      have n_BKs := at_world hHeld.1 (F := fun Y => Y.heap[gbs]? = some (.cells #[.int .i64 sa, .int .i64 sb] 43 (0, 0))) (bkG_s)
      clear HJ HK BKq BKs
      have HJ := n_HJ
      have HK := n_HK
      have BKq := n_BKq
      have BKs := n_BKs
      clear n_HJ n_HK n_BKq n_BKs
      generalize World.drew _ = w8 at hHeld HJ HK BKq BKs ⊢
      refine pure_ (i := 0) (N := some 44) #[true, false, false, false, false, false, false, false, false, false, false] rfl rfl (by kernel_rfl) (fun _ _ _ h => h) (Or.inl ⟨by rfl, ap1_⟩) ap16_ ?_
      refine pure_ (i := 1) (N := some 45) #[true, true, false, false, false, false, false, false, false, false, false] rfl rfl (by kernel_rfl) (fun _ _ _ h => h) (Or.inl ⟨by rfl, ap1_⟩) ap16_ ?_
      refine pure_ (i := 2) (N := some 46) #[true, true, true, false, false, false, false, false, false, false, false] rfl rfl (by kernel_rfl) (fun _ _ _ h => h) (Or.inl ⟨by rfl, ap1_⟩) ap16_ ?_
      refine take_ (i := 3) (N := some 47) #[true, true, true, true, false, false, false, false, false, false, false] rfl rfl (by kernel_rfl) (fun _ _ _ h => h) (Or.inl ⟨by rfl, (by rintro w' ⟨s0, s1⟩; have t0 : w'.cell? ⟨gbq, 1, none⟩ = some (.int .i64 qb) := (blk_cell (HeldC.blk s0) 1).trans rfl; have t1 : w'.cell? ⟨gbs, 0, none⟩ = some (.int .i64 sa) := (blk_cell (HeldC.blk s1) 0).trans rfl; go_simp; with_reducible rfl)⟩) hHeld ap16_ ?_
      refine pure_ (i := 4) (N := some 48) #[true, true, true, true, true, false, false, false, false, false, false] rfl rfl (by kernel_rfl) (fun _ _ _ h => h) (Or.inl ⟨by rfl, ap1_⟩) ap16_ ?_
      refine pure_ (i := 5) (N := some 49) #[true, true, true, true, true, true, false, false, false, false, false] rfl rfl (by kernel_rfl) (fun _ _ _ h => h) (Or.inl ⟨by rfl, ap1_⟩) ap16_ ?_
      refine take_ (i := 6) (N := some 50) #[true, true, true, true, true, true, true, false, false, false, false] rfl rfl (by kernel_rfl) (fun _ _ _ h => h) (Or.inl ⟨by rfl, (by rintro w' ⟨s0, s1⟩; have t0 : w'.cell? ⟨gbq, 1, none⟩ = some (.int .i64 qb) := (blk_cell (HeldC.blk s0) 1).trans rfl; have t1 : w'.cell? ⟨gbs, 0, none⟩ = some (.int .i64 sa) := (blk_cell (HeldC.blk s1) 0).trans rfl; go_simp; with_reducible rfl)⟩) hHeld ap16_ ?_
      refine pure_ (i := 7) (N := some 51) #[true, true, true, true, true, true, true, true, false, false, false] rfl rfl (by kernel_rfl) (fun _ _ _ h => h) (Or.inl ⟨by rfl, ap19_⟩) ap16_ ?_
      refine pure_ (i := 8) (N := some 52) #[true, true, true, true, true, true, true, true, true, false, false] rfl rfl (by kernel_rfl) (fun _ _ _ h => h) (Or.inl ⟨by rfl, ap1_⟩) ap16_ ?_
      refine pure_ (i := 9) (N := some 53) #[true, true, true, true, true, true, true, true, true, true, false] rfl rfl (by kernel_rfl) (fun _ _ _ h => h) (Or.inl ⟨by rfl, ap1_⟩) ap16_ ?_
      refine pure_ (i := 10) (N := some 43) #[true, true, true, true, true, true, true, true, true, true, true] rfl rfl (by kernel_rfl) (fun _ _ _ h => h) (Or.inl ⟨by rfl, ap1_⟩) ap16_ ?_
      refine done_ (by kernel_rfl) ?_
      clear hHeld
      clear hg
      by_cases hlt : n > rest
      ·have hE := AE.out
       have hcur := AC.out
       rw [if_pos hlt] at hE
       subst hE
       rw [if_neg (by decide)] at hcur
       subst hcur
       have c8 : decide (rest < n) = true := decide_eq_true hlt
       go_wp2
       go_ret
       exact ⟨rfl, jsG, jkG⟩
      ·have hE := AE.out
       have hcur := AC.out
       rw [if_neg hlt] at hE
       subst hE
       rw [if_pos rfl] at hcur
       have c8 : decide (rest < n) = false := decide_eq_false hlt
       clear hlt AE AC
       have HWS := As_ (show wrap64 (qa - rest) = qa - rest from w64 ap4_ ap4_)
       have HWN := As_ (show wrap64 (qa - rest + n) = qa - rest + n from w64 ap10_ ap10_)
       have hse := setE_0 (key := spK name) (value := bkNum D ++ bkNum (qa - rest + n)) (by have := spK_len name; omega) (by have := bk2_sz D (qa - rest + n); omega)
       have AP := As_ hse
       have AC := As_ hcur
       clear hse hcur
       go_upto_region 14 with (fail)
       refine start_ (n := 15) (S := fun w' => HeldC gbq #[.int .i64 qa, .int .i64 qb] 43 w') (ds := []) #[false, false, false, false, false, false, false, false, false, false, false, false, false, false, false] (by kernel_rfl) rfl rfl (HeldC.of (bkG_q)) (fun hHeld => ?_)
       have n_HJ := at_world hHeld (F := fun Y => JS base ok w0 g cur Y) (jsG)
       have n_HK := at_world hHeld (F := fun Y => JK w Y) (jkG)
       have n_BKq := at_world hHeld (F := fun Y => Y.heap[gbq]? = some (.cells #[.int .i64 qa, .int .i64 qb] 43 (0, 0))) (bkG_q)
       have n_BKs := at_world hHeld (F := fun Y => Y.heap[gbs]? = some (.cells #[.int .i64 sa, .int .i64 sb] 43 (0, 0))) (bkG_s)
       clear HJ HK BKq BKs
       have HJ := n_HJ
       have HK := n_HK
       have BKq := n_BKq
       have BKs := n_BKs
       clear n_HJ n_HK n_BKq n_BKs
       generalize World.drew _ = w9 at hHeld HJ HK BKq BKs ⊢
       refine pure_ (i := 0) (N := some 58) #[true, false, false, false, false, false, false, false, false, false, false, false, false, false, false] rfl rfl (by kernel_rfl) (fun _ _ _ h => h) (Or.inl ⟨by rfl, ap1_⟩) ap16_ ?_
       refine pure_ (i := 1) (N := some 59) #[true, true, false, false, false, false, false, false, false, false, false, false, false, false, false] rfl rfl (by kernel_rfl) (fun _ _ _ h => h) (Or.inl ⟨by rfl, ap1_⟩) ap16_ ?_
       refine pure_ (i := 2) (N := some 60) #[true, true, true, false, false, false, false, false, false, false, false, false, false, false, false] rfl rfl (by kernel_rfl) (fun _ _ _ h => h) (Or.inl ⟨by rfl, ap1_⟩) ap16_ ?_
       refine pure_ (i := 3) (N := some 61) #[true, true, true, true, false, false, false, false, false, false, false, false, false, false, false] rfl rfl (by kernel_rfl) (fun _ _ _ h => h) (Or.inl ⟨by rfl, ap1_⟩) ap16_ ?_
       refine take_ (i := 4) (N := some 62) #[true, true, true, true, true, false, false, false, false, false, false, false, false, false, false] rfl rfl (by kernel_rfl) (fun _ _ _ h => h) (Or.inl ⟨by rfl, (by rintro w' s0; have t0 : w'.cell? ⟨gbq, 1, none⟩ = some (.int .i64 qb) := (blk_cell (HeldC.blk s0) 1).trans rfl; go_simp; with_reducible rfl)⟩) hHeld ap16_ ?_
       refine pure_ (i := 5) (N := some 63) #[true, true, true, true, true, true, false, false, false, false, false, false, false, false, false] rfl rfl (by kernel_rfl) (fun _ _ _ h => h) (Or.inl ⟨by rfl, ap19_⟩) ap16_ ?_
       refine pure_ (i := 6) (N := some 64) #[true, true, true, true, true, true, true, false, false, false, false, false, false, false, false] rfl rfl (by kernel_rfl) (fun _ _ _ h => h) (Or.inl ⟨by rfl, ap1_⟩) ap16_ ?_
       refine take_ (i := 7) (N := some 65) #[true, true, true, true, true, true, true, true, false, false, false, false, false, false, false] rfl rfl (by kernel_rfl) (fun _ _ _ h => h) (Or.inl ⟨by rfl, (by rintro w' s0; have t0 : w'.cell? ⟨gbq, 0, none⟩ = some (.int .i64 qa) := (blk_cell (HeldC.blk s0) 0).trans rfl; go_simp; with_reducible rfl)⟩) hHeld ap16_ ?_
       refine pure_ (i := 8) (N := some 66) #[true, true, true, true, true, true, true, true, true, false, false, false, false, false, false] rfl rfl (by kernel_rfl) (fun _ _ _ h => h) (Or.inl ⟨by rfl, ap1_⟩) ap16_ ?_
       refine pure_ (i := 9) (N := some 67) #[true, true, true, true, true, true, true, true, true, true, false, false, false, false, false] rfl rfl (by kernel_rfl) (fun _ _ _ h => h) (Or.inl ⟨by rfl, ap20_⟩) ap16_ ?_
       refine pure_ (i := 10) (N := some 68) #[true, true, true, true, true, true, true, true, true, true, true, false, false, false, false] rfl rfl (by kernel_rfl) (fun _ _ _ h => h) (Or.inl ⟨by rfl, ap1_⟩) ap16_ ?_
       refine pure_ (i := 11) (N := some 69) #[true, true, true, true, true, true, true, true, true, true, true, true, false, false, false] rfl rfl (by kernel_rfl) (fun _ _ _ h => h) (Or.inl ⟨by rfl, ap21_⟩) ap16_ ?_
       refine pure_ (i := 12) (N := some 70) #[true, true, true, true, true, true, true, true, true, true, true, true, true, false, false] rfl rfl (by kernel_rfl) (fun _ _ _ h => h) (Or.inl ⟨by rfl, ap1_⟩) ap16_ ?_
       refine one_ (i := 13) (N := some 71) #[true, true, true, true, true, true, true, true, true, true, true, true, true, true, false] rfl rfl (by kernel_rfl) (by decide) (fun K hK => ?_)
       refine goes_ Tryd.func15 (by kernel_rfl) rfl #[.pointer (some ⟨g, 0, none⟩), .string ⟨#[115, 112, 101, 110, 116]⟩, .string name, .agg #[.int .i64 D, .int .i64 (qa - rest + n)]] (by rfl) rfl rfl ap14_ ?_
       refine (qu_put (⟨#[115, 112, 101, 110, 116]⟩ : ByteArray) name (spK name) D (qa - rest + n) HJ.out hk (by decide) hn5 rfl).mono ?_
       rintro e w7 ⟨rfl, hj, hk9⟩
       refine ⟨_, rfl, ?_⟩
       rw [AC.out] at hj
       rw [AP.out]
       have n_HK := As_ (HK.out.trans hk9)
       have n_BKq := As_ (JK.blk (b := gbq) (c := #[.int .i64 qa, .int .i64 qb]) (q := 43) (x := (0, 0)) hk9 BKq.out (by decide))
       clear HJ HK BKq BKs hk9
       have HJ := As_ hj
       have HK := n_HK
       have BKq := n_BKq
       clear n_HK n_BKq hj
       refine hK.out _ _ (HeldC.of BKq.out) (fun hHeld => ?_)
       clear hK K
       refine norm_ (a' := ?_) ?_ ?_
       rotate_left
       ·show Act.put _ (some 71) _ = _
        simp only [Act.put, List.setIfInBounds_toArray, List.set_cons_zero, List.set_cons_succ, i64_w, i32_w]
        rfl
       refine pure_ (i := 14) (N := some 8) #[true, true, true, true, true, true, true, true, true, true, true, true, true, true, true] rfl rfl (by kernel_rfl) (fun _ _ _ h => h) (Or.inl ⟨by rfl, ap1_⟩) ap16_ ?_
       refine done_ (by kernel_rfl) ?_
       clear hHeld
       first | (go_wp2; go_ret) | go_ret
       exact ⟨rfl, HJ.out, HK.out⟩
theorem qu_Set {base g : Nat} {ok : Nat → Prop} {w0 : World} {cur : List S50} (name : ByteArray) (n long E : Int) (cur' : List S50) {w : World} (h : JS base ok w0 g cur w) (hk : KV 1000000 cur) (hn : name.size ≤ 1000) (hE : quSetE name n long = E) (hcur : quSet cur name n long = cur') :
  Calls Tryd.prog 6 #[.pointer (some ⟨g, 0, none⟩), .string name, .int .i64 n, .int .i64 long] w fun e w' => e = .returned (.int .i64 E) ∧ JS base ok w0 g cur' w' ∧ JK w w' := by
 obtain ⟨K0, c0⟩ := nm_check_ev 6 name (by omega)
 obtain ⟨n0, hn0⟩ : ∃ z, nm_checkSpec 6 name = z := ⟨_, rfl⟩
 rw [hn0] at c0
 replace c0 : names_Check.f K0 6 name = some n0 := c0 K0 (Nat.le_refl _)
 unfold quSet at hcur
 rw [hE] at hcur
 unfold quSetE at hE
 rw [hn0] at hE
 have hb1 := quBad_is n 0
 obtain ⟨z1, hz1⟩ : ∃ z, decide (n < 0 ∨ n > 1099511627776) = z := ⟨_, rfl⟩
 rw [hz1] at hb1
 have hb2 := quBad_is long 1
 obtain ⟨z2, hz2⟩ : ∃ z, decide (long < 1 ∨ long > 1099511627776) = z := ⟨_, rfl⟩
 rw [hz2] at hb2
 obtain ⟨y1, hy1⟩ : ∃ y : List ByteArray, y = [name] := ⟨_, rfl⟩
 obtain ⟨k1, key1⟩ := key_ev (⟨#[115, 112, 101, 110, 116]⟩ : ByteArray) y1 (by decide) (by rw [hy1]; simp) (by rw [hy1]; simp; omega)
 have ekey : keyB (⟨#[115, 112, 101, 110, 116]⟩ : ByteArray) y1 = spK name := by rw [hy1]; rfl
 rw [ekey] at key1
 have hn5 : name.size ≤ 50000000 := by omega
 have hse := setE_0 (key := quK name) (value := bkNum n ++ bkNum long) (by have := quK_len name; omega) (by have := bk2_sz n long; omega)
 have hkd := hk.del (spK name)
 have Ny1 := As_ hy1
 have AP := As_ hse
 have AE := As_ hE
 have AC := As_ hcur
 have AZ1 := As_ hz1
 have AZ2 := As_ hz2
 have HJ := As_ h
 have HK := As_ (JK.of_below (Below.refl w.heap.size w))
 clear h hE hcur hz1 hz2 hn0 hse hy1 ekey
 go_enter Tryd.func6, Tryd.ntmps6
 go_wp2_with fail
 refine (names_Check.calls K0 6 name n0 _ c0).mono ?_
 rintro e w1 ⟨rfl, hb⟩
 replace HK := As_ (HK.out.trans (JK.of_below hb))
 replace HJ := As_ (JS.below (base := base) (ok := ok) (w0 := w0) (g := g) (cur := cur) (jsG) hb)
 clear hb
 by_cases z0 : n0 = 0
 ·subst z0
  have hE0 := AE.out
  rw [if_pos rfl] at hE0
  clear AE
  have AE := As_ hE0
  clear hE0
  go_wp2_with fail
  refine (quota_bad.calls n 0 z1 _ hb1).mono ?_
  rintro e w2 ⟨rfl, hd⟩
  have hb := hd.below
  clear hd
  replace HK := As_ (HK.out.trans (JK.of_below hb))
  replace HJ := As_ (JS.below (base := base) (ok := ok) (w0 := w0) (g := g) (cur := cur) (jsG) hb)
  clear hb
  cases z1 with
  | true =>
   have hE := AE.out
   have hcur := AC.out
   rw [if_pos ((of_decide_eq_true AZ1.out).imp id .inl)] at hE
   subst hE
   rw [if_neg (by decide)] at hcur
   subst hcur
   go_wp2
   go_ret
   exact ⟨rfl, jsG, jkG⟩
  | false =>
   go_wp2_with fail
   refine (quota_bad.calls long 1 z2 _ hb2).mono ?_
   rintro e w3 ⟨rfl, hd⟩
   have hb := hd.below
   clear hd
   replace HK := As_ (HK.out.trans (JK.of_below hb))
   replace HJ := As_ (JS.below (base := base) (ok := ok) (w0 := w0) (g := g) (cur := cur) (jsG) hb)
   clear hb
   cases z2 with
   | true =>
    have hE := AE.out
    have hcur := AC.out
    rw [if_pos ((of_decide_eq_true AZ2.out).elim (fun e => .inr (.inr (.inl e))) (fun e => .inr (.inr (.inr e))))] at hE
    subst hE
    rw [if_neg (by decide)] at hcur
    subst hcur
    go_wp2
    go_ret
    exact ⟨rfl, jsG, jkG⟩
   | false =>
    have nz1 := of_decide_eq_false AZ1.out
    have nz2 := of_decide_eq_false AZ2.out
    have hE := AE.out
    have hcur := AC.out
    rw [if_neg (by omega)] at hE
    subst hE
    rw [if_pos rfl] at hcur
    clear AE AC AZ1 AZ2 nz1 nz2
    have AC := As_ hcur
    clear hcur
    go_wp2_with (first | ((with_reducible refine gate_dst (N := 25) rfl ?_); (try (refine gate_guard (by rfl) ?_; dsimp only)); refine Kd.R_lit Kd.string _ 9 ?hg (N := 25) ?hd (xs := ([name] : List ByteArray)) (inner := [.string name]) (ok := fun _ => True) (okp := fun _ => True) ?hr ?hp (fun _ hk => hk) trivial (Below.refl _ _) (Nat.le_refl _) (by simp) ?_; (case hd => rfl); (case hg => rfl); (case hr => first | (go_simp; done) | (go_simp; rfl)); (case hp => exact (Reps.one (show Kd.M Kd.string _ _ _ name [.string name] from rfl) (Reps.none _ _))); intro vlit wy1 hlit hb hg_ hnew_; clear hg_ hnew_; rw [← Ny1.out] at hlit; obtain ⟨Ay1, cy1, el_⟩ := Kd.R_slice hlit; subst el_; have Ry1 := As_ hlit; clear hlit; replace HK := As_ (HK.out.trans (JK.of_below hb)); replace HJ := As_ (JS.below (base := base) (ok := ok) (w0 := w0) (g := g) (cur := cur) (jsG) hb); clear hb))
    refine (path_Join.calls k1 (⟨#[115, 112, 101, 110, 116]⟩ : ByteArray) Ay1 cy1 y1 (spK name) _ (Kd.R_reads' Ry1.out).2.2 (Kd.R_reads' Ry1.out).2.1 key1).mono ?_
    rintro e w4 ⟨rfl, hb⟩
    replace HK := As_ (HK.out.trans (JK.of_below hb))
    replace HJ := As_ (JS.below (base := base) (ok := ok) (w0 := w0) (g := g) (cur := cur) (jsG) hb)
    clear hb
    clear Ry1 Ny1
    go_wp2_with fail
    refine (js_del (spK name) HJ.out hk).mono ?_
    rintro e w5 ⟨rfl, hj, hk9⟩
    have n_HK := As_ (HK.out.trans hk9)
    clear HJ HK hk9
    have HJ := As_ hj
    have HK := n_HK
    clear n_HK hj
    go_wp2_with fail
    refine (qu_put (⟨#[113, 117, 111, 116, 97]⟩ : ByteArray) name (quK name) n long HJ.out hkd (by decide) hn5 rfl).mono ?_
    rintro e w6 ⟨rfl, hj, hk9⟩
    rw [AC.out] at hj
    rw [AP.out]
    have n_HK := As_ (HK.out.trans hk9)
    clear HJ HK hk9
    have HJ := As_ hj
    have HK := n_HK
    clear n_HK hj
    go_wp2
    go_ret
    exact ⟨rfl, HJ.out, HK.out⟩
 ·have hE := AE.out
  have hcur := AC.out
  rw [if_neg z0] at hE
  subst hE
  rw [if_neg (by decide)] at hcur
  subst hcur
  have c7 : (n0 == 0) = false := beq_eq_false_iff_ne.2 z0
  go_wp2
  go_ret
  exact ⟨rfl, jsG, jkG⟩
structure QHold (cur : List S50) (x : ByteArray) (most every w sum : Int) : Prop where
 so : sortK cur
 q : quTwo cur (quK x) = (most, every, true)
 m : 0 ≤ sum ∧ sum ≤ most ∧ most ≤ 65535
 e : 1 ≤ every ∧ every ≤ 65535
 w0 : 0 ≤ w
 s : ((quTwo cur (spK x)).2.2 = false ∧ sum = 0) ∨ ((quTwo cur (spK x)).2.2 = true ∧ (((quTwo cur (spK x)).1 < w ∧ sum = 0) ∨ ((quTwo cur (spK x)).1 = w ∧ (quTwo cur (spK x)).2.1 = sum)))
theorem QHold.rest {cur : List S50} {x : ByteArray} {most every w sum : Int} (h : QHold cur x most every w sum) {time : Int} (hw : time.tdiv every = w) : quRest cur x most every time = most - sum := by
 unfold quRest
 rw [hw]
 rcases h.s with ⟨a, b⟩ | ⟨a, ⟨b, c⟩ | ⟨b, c⟩⟩
 ·rw [if_neg (fun e => by rw [a] at e; cases e.1)]; omega
 ·rw [if_neg (fun e => by omega)]; omega
 ·rw [if_pos ⟨a, b⟩, c]
theorem QHold.left {cur : List S50} {x : ByteArray} {most every w sum : Int} (h : QHold cur x most every w sum) {time : Int} (hw : time.tdiv every = w) (h0 : 0 ≤ time) (h1 : time ≤ 1099511627776) : quLeft cur x time = most - sum := by
 have e : ¬ (time < 0 ∨ time > 1099511627776) := by omega
 unfold quLeft
 rw [h.q]
 dsimp only
 rw [if_pos rfl, if_neg e, h.rest hw]
theorem QHold.next {cur : List S50} {x : ByteArray} {most every w sum : Int} (h : QHold cur x most every w sum) {w2 : Int} (hw : w < w2) : QHold cur x most every w2 0 := by
 refine ⟨h.so, h.q, ⟨Int.le_refl _, by have := h.m; omega, h.m.2.2⟩, h.e, by have := h.w0; omega, ?_⟩
 rcases h.s with ⟨a, b⟩ | ⟨a, ⟨b, c⟩ | ⟨b, c⟩⟩
 ·exact .inl ⟨a, rfl⟩
 ·exact .inr ⟨a, .inl ⟨by omega, rfl⟩⟩
 ·exact .inr ⟨a, .inl ⟨by omega, rfl⟩⟩
theorem QHold.spendE {cur : List S50} {x : ByteArray} {most every w sum : Int} (h : QHold cur x most every w sum) {time : Int} (hw : time.tdiv every = w) (h0 : 0 ≤ time) (h1 : time ≤ 1099511627776) (n : Int) (hn : 0 ≤ n ∧ n ≤ 65535) : quSpendE cur x time n = 0 ↔ (1 ≤ n ∧ n ≤ most - sum) := by
 have hm := h.m
 unfold quSpendE
 rw [h.q]
 dsimp only
 rw [if_pos rfl, h.rest hw, hw]
 by_cases a : n < 1
 ·have e1 : time < 0 ∨ time > 1099511627776 ∨ n < 1 ∨ n > 1099511627776 := by omega
  rw [if_pos e1]
  exact ⟨fun e => absurd e (by decide), fun e => by omega⟩
 ·have e1 : ¬ (time < 0 ∨ time > 1099511627776 ∨ n < 1 ∨ n > 1099511627776) := by omega
  have e2 : ¬ ((quTwo cur (spK x)).2.2 = true ∧ (quTwo cur (spK x)).1 > w) := by
   rintro ⟨b1, b2⟩
   rcases h.s with ⟨a, b⟩ | ⟨a, ⟨b, c⟩ | ⟨b, c⟩⟩
   ·rw [a] at b1; cases b1
   ·omega
   ·omega
  rw [if_neg e1, if_neg e2]
  by_cases b : n > most - sum
  ·rw [if_pos b]; exact ⟨fun e => absurd e (by decide), fun e => by omega⟩
  ·rw [if_neg b]; exact ⟨fun _ => by omega, fun _ => rfl⟩
theorem QHold.spent {cur : List S50} {x : ByteArray} {most every w sum : Int} (h : QHold cur x most every w sum) (hx : x.size ≤ 1000) {time : Int} (hw : time.tdiv every = w) (h0 : 0 ≤ time) (h1 : time ≤ 1099511627776) (n : Int) (hn : 1 ≤ n ∧ n ≤ most - sum) : QHold (quSpend cur x time n) x most every w (sum + n) := by
 have hm := h.m
 have hE := (h.spendE hw h0 h1 n (by omega)).2 hn
 have hv : quSpend cur x time n = setC cur (spK x) (bkNum w ++ bkNum (sum + n)) := by
  unfold quSpend
  rw [if_pos hE, h.q]
  dsimp only
  rw [h.rest hw, hw, show most - (most - sum) + n = sum + n by omega]
 have hle : w ≤ 1099511627776 := by
  have : w ≤ time := by
   rw [← hw, Int.tdiv_eq_ediv_of_nonneg h0]
   exact Int.ediv_le_self _ h0
  omega
 have hl := spK_len x
 have hz := bk2_sz w (sum + n)
 have g1 := setC_in h.so (quK x) (key := spK x) (value := bkNum w ++ bkNum (sum + n)) (by omega) (by omega)
 have g2 := setC_in h.so (spK x) (key := spK x) (value := bkNum w ++ bkNum (sum + n)) (by omega) (by omega)
 rw [if_neg (qu_ne x x)] at g1
 rw [if_pos rfl] at g2
 have t2 := quTwo_get g2 h.w0 (by omega) (by omega) (by omega)
 rw [hv]
 refine ⟨sortK_setC h.so _ _, (quTwo_cong g1).trans h.q, ⟨by omega, by omega, hm.2.2⟩, h.e, h.w0, .inr ?_⟩
 rw [t2]
 exact ⟨rfl, .inr ⟨rfl, rfl⟩⟩
theorem QHold.begin {x : ByteArray} (hx : x.size ≤ 1000) (hn : nm_checkSpec 6 x = 0) {most every : Int} (hm : 0 ≤ most ∧ most ≤ 65535) (he : 1 ≤ every ∧ every ≤ 65535) : quSetE x most every = 0 ∧ QHold (quSet [] x most every) x most every 0 0 := by
 have e1 : ¬ (most < 0 ∨ most > 1099511627776 ∨ every < 1 ∨ every > 1099511627776) := by omega
 have hE : quSetE x most every = 0 := by unfold quSetE; rw [if_pos hn, if_neg e1]
 refine ⟨hE, ?_⟩
 unfold quSet
 rw [if_pos hE]
 have so : sortK ([] : List S50) := List.Pairwise.nil
 have so2 := sortK_del so (spK x)
 have hl := quK_len x
 have hz := bk2_sz most every
 have g1 := setC_in so2 (quK x) (key := quK x) (value := bkNum most ++ bkNum every) (by omega) (by omega)
 have g2 := setC_in so2 (spK x) (key := quK x) (value := bkNum most ++ bkNum every) (by omega) (by omega)
 rw [if_pos rfl] at g1
 rw [if_neg (fun e => qu_ne x x e.symm), getK_delK so, if_pos rfl] at g2
 exact ⟨sortK_setC so2 _ _, quTwo_get g1 (by omega) (by omega) (by omega) (by omega), ⟨by omega, by omega, hm.2⟩, he, Int.le_refl _, .inl ⟨quTwo_no g2, rfl⟩⟩
theorem qun6 : nm_checkSpec 6 (⟨#[120]⟩ : ByteArray) = 0 := nm_eq 6 _ (by decide) 60 0 (by kernel_rfl)
theorem qun7 : nm_checkSpec 6 (⟨#[97, 47, 98]⟩ : ByteArray) = 7 := nm_eq 6 _ (by decide) 60 7 (by kernel_rfl)
theorem qu_none (cur : List S50) (name : ByteArray) (h : getK cur (quK name) = ((⟨#[]⟩ : ByteArray), false)) (time n : Int) : quSpendE cur name time n = 8 ∧ quLeft cur name time = 0 := by
 have h2 := quTwo_no h
 refine ⟨?_, ?_⟩
 ·unfold quSpendE; rw [h2]; rfl
 ·unfold quLeft; rw [h2]; rfl
noncomputable def quA1 : List S50 := quSet [] (⟨#[120]⟩ : ByteArray) 3 10
noncomputable def quA2 : List S50 := quSpend quA1 (⟨#[120]⟩ : ByteArray) 4 2
noncomputable def quA3 : List S50 := quSpend quA2 (⟨#[120]⟩ : ByteArray) 12 3
theorem quA_H1 : quSetE (⟨#[120]⟩ : ByteArray) 3 10 = 0 ∧ QHold quA1 (⟨#[120]⟩ : ByteArray) 3 10 0 0 := QHold.begin (by decide) qun6 (by decide) (by decide)
theorem quA_H2 : quSpendE quA1 (⟨#[120]⟩ : ByteArray) 4 2 = 0 ∧ QHold quA2 (⟨#[120]⟩ : ByteArray) 3 10 0 2 := ⟨(quA_H1.2.spendE (by decide) (by decide) (by decide) 2 (by decide)).2 (by decide), quA_H1.2.spent (by decide) (by decide) (by decide) (by decide) 2 (by decide)⟩
theorem quA_b : quSpendE quA2 (⟨#[120]⟩ : ByteArray) 9 2 = 21 ∧ quSpend quA2 (⟨#[120]⟩ : ByteArray) 9 2 = quA2 := by
 have hq := quA_H2.2.q
 have hs := quA_H2.2.s
 have hr := quA_H2.2.rest (time := 9) (by decide)
 have hE : quSpendE quA2 (⟨#[120]⟩ : ByteArray) 9 2 = 21 := by
  unfold quSpendE
  rw [hq]
  dsimp only
  have hd : (9 : Int).tdiv 10 = 0 := by decide
  have hn : ¬ ((quTwo quA2 (spK (⟨#[120]⟩ : ByteArray))).2.2 = true ∧ (quTwo quA2 (spK (⟨#[120]⟩ : ByteArray))).1 > (9 : Int).tdiv 10) := by
   rintro ⟨b1, b2⟩
   rw [hd] at b2
   rcases hs with ⟨a, b⟩ | ⟨a, ⟨b, c⟩ | ⟨b, c⟩⟩
   ·rw [a] at b1; cases b1
   ·omega
   ·omega
  rw [if_pos rfl, hr, if_neg (by decide), if_neg hn, if_pos (by decide)]
 exact ⟨hE, by unfold quSpend; rw [hE, if_neg (by decide)]⟩
theorem quA_l : quLeft quA2 (⟨#[120]⟩ : ByteArray) 9 = 1 ∧ quLeft quA2 (⟨#[120]⟩ : ByteArray) 10 = 3 := ⟨quA_H2.2.left (by decide) (by decide) (by decide), (quA_H2.2.next (show (0 : Int) < 1 by decide)).left (by decide) (by decide) (by decide)⟩
theorem quA_H3 : quSpendE quA2 (⟨#[120]⟩ : ByteArray) 12 3 = 0 ∧ QHold quA3 (⟨#[120]⟩ : ByteArray) 3 10 1 3 := ⟨((quA_H2.2.next (show (0 : Int) < 1 by decide)).spendE (by decide) (by decide) (by decide) 3 (by decide)).2 (by decide), (quA_H2.2.next (show (0 : Int) < 1 by decide)).spent (by decide) (by decide) (by decide) (by decide) 3 (by decide)⟩
theorem quA_f : quSpendE quA3 (⟨#[120]⟩ : ByteArray) 9 1 = 14 ∧ quSpend quA3 (⟨#[120]⟩ : ByteArray) 9 1 = quA3 := by
 have hq := quA_H3.2.q
 have hE : quSpendE quA3 (⟨#[120]⟩ : ByteArray) 9 1 = 14 := by
  have hv : quSpend quA2 (⟨#[120]⟩ : ByteArray) 12 3 = quA3 := rfl
  have hs : (quTwo quA3 (spK (⟨#[120]⟩ : ByteArray))).2.2 = true ∧ (quTwo quA3 (spK (⟨#[120]⟩ : ByteArray))).1 = 1 := by
   rcases quA_H3.2.s with ⟨a, b⟩ | ⟨a, ⟨b, c⟩ | ⟨b, c⟩⟩
   ·exact absurd b (by decide)
   ·exact absurd c (by decide)
   ·exact ⟨a, b⟩
  unfold quSpendE
  rw [hq]
  dsimp only
  rw [if_pos rfl, if_neg (by decide), if_pos ⟨hs.1, by rw [hs.2]; decide⟩]
 exact ⟨hE, by unfold quSpend; rw [hE, if_neg (by decide)]⟩
theorem quA_l2 : quLeft quA3 (⟨#[120]⟩ : ByteArray) 12 = 0 := quA_H3.2.left (by decide) (by decide) (by decide)
theorem quA_ky : quK (⟨#[121]⟩ : ByteArray) ≠ quK (⟨#[120]⟩ : ByteArray) := fun e => absurd (quK_inj e) (by decide)
theorem quA_y : quLeft quA3 (⟨#[121]⟩ : ByteArray) 1 = 0 := by
 have so1 : sortK ([] : List S50) := List.Pairwise.nil
 have g1 : getK quA1 (quK (⟨#[121]⟩ : ByteArray)) = ((⟨#[]⟩ : ByteArray), false) := by
  unfold quA1 quSet
  rw [if_pos quA_H1.1, getK_setC (sortK_del so1 _), if_neg (fun e => quA_ky e.1), getK_delK so1, if_neg (qu_ne _ _)]
  rfl
 have g2 : getK quA2 (quK (⟨#[121]⟩ : ByteArray)) = ((⟨#[]⟩ : ByteArray), false) := by
  unfold quA2 quSpend
  rw [if_pos quA_H2.1, getK_setC quA_H1.2.so, if_neg (fun e => qu_ne _ _ e.1)]
  exact g1
 have g3 : getK quA3 (quK (⟨#[121]⟩ : ByteArray)) = ((⟨#[]⟩ : ByteArray), false) := by
  unfold quA3 quSpend
  rw [if_pos quA_H3.1, getK_setC quA_H2.2.so, if_neg (fun e => qu_ne _ _ e.1)]
  exact g2
 exact (qu_none quA3 (⟨#[121]⟩ : ByteArray) g3 1 1).2
theorem quA_s7 : quSetE (⟨#[97, 47, 98]⟩ : ByteArray) 1 1 = 7 ∧ quSet quA3 (⟨#[97, 47, 98]⟩ : ByteArray) 1 1 = quA3 := by
 have hE : quSetE (⟨#[97, 47, 98]⟩ : ByteArray) 1 1 = 7 := by unfold quSetE; rw [qun7, if_neg (by decide)]
 exact ⟨hE, by unfold quSet; rw [hE, if_neg (by decide)]⟩
theorem quA_s3 : quSetE (⟨#[120]⟩ : ByteArray) 1 0 = 3 ∧ quSet quA3 (⟨#[120]⟩ : ByteArray) 1 0 = quA3 := by
 have hE : quSetE (⟨#[120]⟩ : ByteArray) 1 0 = 3 := by unfold quSetE; rw [qun6, if_pos rfl, if_pos (by decide)]
 exact ⟨hE, by unfold quSet; rw [hE, if_neg (by decide)]⟩
theorem quA_K1 : KV 1 quA1 := quSet_KV (KV.nil 0) _ _ _
theorem quA_K2 : KV 2 quA2 := quSpend_KV quA_K1 _ _ _
theorem quA_K3 : KV 3 quA3 := quSpend_KV quA_K2 _ _ _
theorem quA_I1 : QInv quA1 := QInv.nil.set List.Pairwise.nil (by decide) _ _
theorem quA_I2 : QInv quA2 := quA_I1.spend quA_K1.so (by decide) _ _
theorem quA_I3 : QInv quA3 := quA_I2.spend quA_K2.so (by decide) _ _
theorem qun_Spend (name : ByteArray) (time n : Int) (w : World) :
  Calls Tryd.prog 8 #[.pointer none, .string name, .int .i64 time, .int .i64 n] w fun e w' => e = .returned (.int .i64 2) ∧ Below w.heap.size w w' := by
 go_enter Tryd.func8, Tryd.ntmps8
 go_wp2
 go_ret
 exact ⟨rfl, by repeat (first | (with_reducible first | exact Below.refl _ _ | apply below_alloc | apply pw_below_drewN | apply below_drew1) | exact Below.refl _ _)⟩
theorem quaw_calls (w : World) : Calls Tryd.prog 4 #[] w fun e w' => e = .returned (.bool true) ∧ Below w.heap.size w w' := by
 have k1 := quA_K1.mono (show 1 ≤ 1000000 by omega)
 have k2 := quA_K2.mono (show 2 ≤ 1000000 by omega)
 have k3 := quA_K3.mono (show 3 ≤ 1000000 by omega)
 go_enter Tryd.func4, Tryd.ntmps4
 go_wp2_with fail
 refine (j_new_nil w).mono ?_
 rintro e w1 ⟨g, rfl, hm, hb⟩
 have HB1 := As_ hb
 have HJ := As_ (JS.start hm hb.size)
 have HK := As_ (JK.of_below hb)
 clear hm hb
 go_wp2_with fail
 refine (qu_Spend (⟨#[120]⟩ : ByteArray) 0 1 8 [] HJ.out (KV.nil _) (by decide) QInv.nil (qu_none [] _ rfl 0 1).1 (by unfold quSpend; rw [(qu_none [] _ rfl 0 1).1, if_neg (by decide)])).mono ?_
 rintro e w2 ⟨rfl, hj, hk⟩
 replace HK := As_ (HK.out.trans hk)
 replace HJ := As_ (hj)
 clear hj hk
 go_wp2_with fail
 refine (qu_Set (⟨#[120]⟩ : ByteArray) 3 10 0 quA1 HJ.out (KV.nil _) (by decide) quA_H1.1 rfl).mono ?_
 rintro e w3 ⟨rfl, hj, hk⟩
 replace HK := As_ (HK.out.trans hk)
 replace HJ := As_ (hj)
 clear hj hk
 go_wp2_with fail
 refine (qu_Spend (⟨#[120]⟩ : ByteArray) 4 2 0 quA2 HJ.out k1 (by decide) quA_I1 quA_H2.1 rfl).mono ?_
 rintro e w4 ⟨rfl, hj, hk⟩
 replace HK := As_ (HK.out.trans hk)
 replace HJ := As_ (hj)
 clear hj hk
 go_wp2_with fail
 refine (qu_Spend (⟨#[120]⟩ : ByteArray) 9 2 21 quA2 HJ.out k2 (by decide) quA_I2 quA_b.1 quA_b.2).mono ?_
 rintro e w5 ⟨rfl, hj, hk⟩
 replace HK := As_ (HK.out.trans hk)
 replace HJ := As_ (hj)
 clear hj hk
 go_wp2_with fail
 refine (qu_Left (⟨#[120]⟩ : ByteArray) 9 1 HJ.out k2 (by decide) quA_I2 quA_l.1).mono ?_
 rintro e w6 ⟨rfl, hb⟩
 replace HK := As_ (HK.out.trans (JK.of_below hb))
 replace HJ := As_ (JS.below (base := w.heap.size) (ok := fun k => w.heap.size ≤ k) (w0 := w1) (g := g) (cur := quA2) (jsG) hb)
 clear hb
 go_wp2_with fail
 refine (qu_Left (⟨#[120]⟩ : ByteArray) 10 3 HJ.out k2 (by decide) quA_I2 quA_l.2).mono ?_
 rintro e w7 ⟨rfl, hb⟩
 replace HK := As_ (HK.out.trans (JK.of_below hb))
 replace HJ := As_ (JS.below (base := w.heap.size) (ok := fun k => w.heap.size ≤ k) (w0 := w1) (g := g) (cur := quA2) (jsG) hb)
 clear hb
 go_wp2_with fail
 refine (qu_Spend (⟨#[120]⟩ : ByteArray) 12 3 0 quA3 HJ.out k2 (by decide) quA_I2 quA_H3.1 rfl).mono ?_
 rintro e w8 ⟨rfl, hj, hk⟩
 replace HK := As_ (HK.out.trans hk)
 replace HJ := As_ (hj)
 clear hj hk
 go_wp2_with fail
 refine (qu_Spend (⟨#[120]⟩ : ByteArray) 9 1 14 quA3 HJ.out k3 (by decide) quA_I3 quA_f.1 quA_f.2).mono ?_
 rintro e w9 ⟨rfl, hj, hk⟩
 replace HK := As_ (HK.out.trans hk)
 replace HJ := As_ (hj)
 clear hj hk
 go_wp2_with fail
 refine (qu_Left (⟨#[120]⟩ : ByteArray) 12 0 HJ.out k3 (by decide) quA_I3 quA_l2).mono ?_
 rintro e w10 ⟨rfl, hb⟩
 replace HK := As_ (HK.out.trans (JK.of_below hb))
 replace HJ := As_ (JS.below (base := w.heap.size) (ok := fun k => w.heap.size ≤ k) (w0 := w1) (g := g) (cur := quA3) (jsG) hb)
 clear hb
 go_wp2_with fail
 refine (qu_Left (⟨#[121]⟩ : ByteArray) 1 0 HJ.out k3 (by decide) quA_I3 quA_y).mono ?_
 rintro e w11 ⟨rfl, hb⟩
 replace HK := As_ (HK.out.trans (JK.of_below hb))
 replace HJ := As_ (JS.below (base := w.heap.size) (ok := fun k => w.heap.size ≤ k) (w0 := w1) (g := g) (cur := quA3) (jsG) hb)
 clear hb
 go_wp2_with fail
 refine (qu_Set (⟨#[97, 47, 98]⟩ : ByteArray) 1 1 7 quA3 HJ.out k3 (by decide) quA_s7.1 quA_s7.2).mono ?_
 rintro e w12 ⟨rfl, hj, hk⟩
 replace HK := As_ (HK.out.trans hk)
 replace HJ := As_ (hj)
 clear hj hk
 go_wp2_with fail
 refine (qu_Set (⟨#[120]⟩ : ByteArray) 1 0 3 quA3 HJ.out k3 (by decide) quA_s3.1 quA_s3.2).mono ?_
 rintro e w13 ⟨rfl, hj, hk⟩
 replace HK := As_ (HK.out.trans hk)
 replace HJ := As_ (hj)
 clear hj hk
 go_wp2_with fail
 refine (qun_Spend (⟨#[120]⟩ : ByteArray) 0 1 _).mono ?_
 rintro e w14 ⟨rfl, hb⟩
 replace HK := As_ (HK.out.trans (JK.of_below hb))
 replace HJ := As_ (JS.below (base := w.heap.size) (ok := fun k => w.heap.size ≤ k) (w0 := w1) (g := g) (cur := quA3) (jsG) hb)
 clear hb
 have hfin := As_ (JW.toBelow HB1.out HB1.out.size HJ.out.jw (fun k hk => hk))
 clear HJ HK
 go_wp2
 go_ret
 exact ⟨rfl, hfin.out⟩
end Go.Proofs.YtgapkicplhbidaaDoor.PQuh
