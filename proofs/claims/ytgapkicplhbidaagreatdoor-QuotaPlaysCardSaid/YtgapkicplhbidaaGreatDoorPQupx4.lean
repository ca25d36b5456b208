/- A part of the walk of QuotaPlays. No condition. -/
import Derived.Test.YtgapkicplhbidaaGreatDoorPQupx0
import Derived.Test.YtgapkicplhbidaaGreatDoorPQupx1
import Derived.Test.YtgapkicplhbidaaGreatDoorPQupx2
import Derived.Test.YtgapkicplhbidaaGreatDoorPQupx3
namespace Go.Proofs.YtgapkicplhbidaaGreatDoor.PQup
set_option maxRecDepth 100000
set_option maxHeartbeats 8000000
open Go.RowKit Go.Proofs.YtgapkicplhbidaaGreatDoorW.PrintWords Go.Proofs.YtgapkicplhbidaaGreatDoorW.PrintLast Go.Proofs.YtgapkicplhbidaaGreatDoorW.PrintMore
attribute [local go_sem] max2_int min2_int max_two min_two max_three min_three max_four min_four   -- for this text's walks alone
set_option linter.unusedVariables false
set_option linter.unusedSimpArgs false
structure QHold (cur : List S55) (x : ByteArray) (most every w sum : Int) : Prop where
 so : sortK cur
 q : quTwo cur (quK x) = (most, every, true)
 m : 0 ≤ sum ∧ sum ≤ most ∧ most ≤ 65535
 e : 1 ≤ every ∧ every ≤ 65535
 w0 : 0 ≤ w
 s : ((quTwo cur (spK x)).2.2 = false ∧ sum = 0) ∨ ((quTwo cur (spK x)).2.2 = true ∧ (((quTwo cur (spK x)).1 < w ∧ sum = 0) ∨ ((quTwo cur (spK x)).1 = w ∧ (quTwo cur (spK x)).2.1 = sum)))
theorem QHold.rest {cur : List S55} {x : ByteArray} {most every w sum : Int} (h : QHold cur x most every w sum) {time : Int} (hw : time.tdiv every = w) : quRest cur x most every time = most - sum := by
 unfold quRest
 rw [hw]
 rcases h.s with ⟨a, b⟩ | ⟨a, ⟨b, c⟩ | ⟨b, c⟩⟩
 ·rw [if_neg (fun e => by rw [a] at e; cases e.1)]; omega
 ·rw [if_neg (fun e => by omega)]; omega
 ·rw [if_pos ⟨a, b⟩, c]
theorem QHold.left {cur : List S55} {x : ByteArray} {most every w sum : Int} (h : QHold cur x most every w sum) {time : Int} (hw : time.tdiv every = w) (h0 : 0 ≤ time) (h1 : time ≤ 1099511627776) : quLeft cur x time = most - sum := by
 have e : ¬ (time < 0 ∨ time > 1099511627776) := by omega
 unfold quLeft
 rw [h.q]
 dsimp only
 rw [if_pos rfl, if_neg e, h.rest hw]
theorem QHold.next {cur : List S55} {x : ByteArray} {most every w sum : Int} (h : QHold cur x most every w sum) {w2 : Int} (hw : w < w2) : QHold cur x most every w2 0 := by
 refine ⟨h.so, h.q, ⟨Int.le_refl _, by have := h.m; omega, h.m.2.2⟩, h.e, by have := h.w0; omega, ?_⟩
 rcases h.s with ⟨a, b⟩ | ⟨a, ⟨b, c⟩ | ⟨b, c⟩⟩
 ·exact .inl ⟨a, rfl⟩
 ·exact .inr ⟨a, .inl ⟨by omega, rfl⟩⟩
 ·exact .inr ⟨a, .inl ⟨by omega, rfl⟩⟩
theorem QHold.spendE {cur : List S55} {x : ByteArray} {most every w sum : Int} (h : QHold cur x most every w sum) {time : Int} (hw : time.tdiv every = w) (h0 : 0 ≤ time) (h1 : time ≤ 1099511627776) (n : Int) (hn : 0 ≤ n ∧ n ≤ 65535) : quSpendE cur x time n = 0 ↔ (1 ≤ n ∧ n ≤ most - sum) := by
 have hm := h.m
 unfold quSpendE
 rw [h.q]
 dsimp only
 rw [if_pos rfl, h.rest hw, hw]
 by_cases a : n < 1
 ·have e1 : time < 0 ∨ time > 1099511627776 ∨ n < 1 ∨ n > 1099511627776 := by omega
  rw [if_pos e1]
  exact ⟨fun e => absurd e (by decide), fun e => by omega⟩
 ·have e1 : ¬ (time < 0 ∨ time > 1099511627776 ∨ n < 1 ∨ n > 1099511627776) := by omega
  have e2 : ¬ ((quTwo cur (spK x)).2.2 = true ∧ (quTwo cur (spK x)).1 > w) := by
   rintro ⟨b1, b2⟩
   rcases h.s with ⟨a, b⟩ | ⟨a, ⟨b, c⟩ | ⟨b, c⟩⟩
   ·rw [a] at b1; cases b1
   ·omega
   ·omega
  rw [if_neg e1, if_neg e2]
  by_cases b : n > most - sum
  ·rw [if_pos b]; exact ⟨fun e => absurd e (by decide), fun e => by omega⟩
  ·rw [if_neg b]; exact ⟨fun _ => by omega, fun _ => rfl⟩
theorem QHold.spent {cur : List S55} {x : ByteArray} {most every w sum : Int} (h : QHold cur x most every w sum) (hx : x.size ≤ 1000) {time : Int} (hw : time.tdiv every = w) (h0 : 0 ≤ time) (h1 : time ≤ 1099511627776) (n : Int) (hn : 1 ≤ n ∧ n ≤ most - sum) : QHold (quSpend cur x time n) x most every w (sum + n) := by
 have hm := h.m
 have hE := (h.spendE hw h0 h1 n (by omega)).2 hn
 have hv : quSpend cur x time n = setC cur (spK x) (bkNum w ++ bkNum (sum + n)) := by
  unfold quSpend
  rw [if_pos hE, h.q]
  dsimp only
  rw [h.rest hw, hw, show most - (most - sum) + n = sum + n by omega]
 have hle : w ≤ 1099511627776 := by
  have : w ≤ time := by
   rw [← hw, Int.tdiv_eq_ediv_of_nonneg h0]
   exact Int.ediv_le_self _ h0
  omega
 have hl := spK_len x
 have hz := bk2_sz w (sum + n)
 have g1 := setC_in h.so (quK x) (key := spK x) (value := bkNum w ++ bkNum (sum + n)) (by omega) (by omega)
 have g2 := setC_in h.so (spK x) (key := spK x) (value := bkNum w ++ bkNum (sum + n)) (by omega) (by omega)
 rw [if_neg (qu_ne x x)] at g1
 rw [if_pos rfl] at g2
 have t2 := quTwo_get g2 h.w0 (by omega) (by omega) (by omega)
 rw [hv]
 refine ⟨sortK_setC h.so _ _, (quTwo_cong g1).trans h.q, ⟨by omega, by omega, hm.2.2⟩, h.e, h.w0, .inr ?_⟩
 rw [t2]
 exact ⟨rfl, .inr ⟨rfl, rfl⟩⟩
theorem QHold.begin {x : ByteArray} (hx : x.size ≤ 1000) (hn : nm_checkSpec 6 x = 0) {most every : Int} (hm : 0 ≤ most ∧ most ≤ 65535) (he : 1 ≤ every ∧ every ≤ 65535) : quSetE x most every = 0 ∧ QHold (quSet [] x most every) x most every 0 0 := by
 have e1 : ¬ (most < 0 ∨ most > 1099511627776 ∨ every < 1 ∨ every > 1099511627776) := by omega
 have hE : quSetE x most every = 0 := by unfold quSetE; rw [if_pos hn, if_neg e1]
 refine ⟨hE, ?_⟩
 unfold quSet
 rw [if_pos hE]
 have so : sortK ([] : List S55) := List.Pairwise.nil
 have so2 := sortK_del so (spK x)
 have hl := quK_len x
 have hz := bk2_sz most every
 have g1 := setC_in so2 (quK x) (key := quK x) (value := bkNum most ++ bkNum every) (by omega) (by omega)
 have g2 := setC_in so2 (spK x) (key := quK x) (value := bkNum most ++ bkNum every) (by omega) (by omega)
 rw [if_pos rfl] at g1
 rw [if_neg (fun e => qu_ne x x e.symm), getK_delK so, if_pos rfl] at g2
 exact ⟨sortK_setC so2 _ _, quTwo_get g1 (by omega) (by omega) (by omega) (by omega), ⟨by omega, by omega, hm.2⟩, he, Int.le_refl _, .inl ⟨quTwo_no g2, rfl⟩⟩
theorem qun6 : nm_checkSpec 6 (⟨#[120]⟩ : ByteArray) = 0 := nm_eq 6 _ (by decide) 60 0 (by kernel_rfl)
theorem qun7 : nm_checkSpec 6 (⟨#[97, 47, 98]⟩ : ByteArray) = 7 := nm_eq 6 _ (by decide) 60 7 (by kernel_rfl)
theorem qu_none (cur : List S55) (name : ByteArray) (h : getK cur (quK name) = ((⟨#[]⟩ : ByteArray), false)) (time n : Int) : quSpendE cur name time n = 8 ∧ quLeft cur name time = 0 := by
 have h2 := quTwo_no h
 refine ⟨?_, ?_⟩
 ·unfold quSpendE; rw [h2]; rfl
 ·unfold quLeft; rw [h2]; rfl
noncomputable def quA1 : List S55 := quSet [] (⟨#[120]⟩ : ByteArray) 3 10
noncomputable def quA2 : List S55 := quSpend quA1 (⟨#[120]⟩ : ByteArray) 4 2
noncomputable def quA3 : List S55 := quSpend quA2 (⟨#[120]⟩ : ByteArray) 12 3
theorem quA_H1 : quSetE (⟨#[120]⟩ : ByteArray) 3 10 = 0 ∧ QHold quA1 (⟨#[120]⟩ : ByteArray) 3 10 0 0 := QHold.begin (by decide) qun6 (by decide) (by decide)
theorem quA_H2 : quSpendE quA1 (⟨#[120]⟩ : ByteArray) 4 2 = 0 ∧ QHold quA2 (⟨#[120]⟩ : ByteArray) 3 10 0 2 := ⟨(quA_H1.2.spendE (by decide) (by decide) (by decide) 2 (by decide)).2 (by decide), quA_H1.2.spent (by decide) (by decide) (by decide) (by decide) 2 (by decide)⟩
theorem quA_b : quSpendE quA2 (⟨#[120]⟩ : ByteArray) 9 2 = 21 ∧ quSpend quA2 (⟨#[120]⟩ : ByteArray) 9 2 = quA2 := by
 have hq := quA_H2.2.q
 have hs := quA_H2.2.s
 have hr := quA_H2.2.rest (time := 9) (by decide)
 have hE : quSpendE quA2 (⟨#[120]⟩ : ByteArray) 9 2 = 21 := by
  unfold quSpendE
  rw [hq]
  dsimp only
  have hd : (9 : Int).tdiv 10 = 0 := by decide
  have hn : ¬ ((quTwo quA2 (spK (⟨#[120]⟩ : ByteArray))).2.2 = true ∧ (quTwo quA2 (spK (⟨#[120]⟩ : ByteArray))).1 > (9 : Int).tdiv 10) := by
   rintro ⟨b1, b2⟩
   rw [hd] at b2
   rcases hs with ⟨a, b⟩ | ⟨a, ⟨b, c⟩ | ⟨b, c⟩⟩
   ·rw [a] at b1; cases b1
   ·omega
   ·omega
  rw [if_pos rfl, hr, if_neg (by decide), if_neg hn, if_pos (by decide)]
 exact ⟨hE, by unfold quSpend; rw [hE, if_neg (by decide)]⟩
theorem quA_l : quLeft quA2 (⟨#[120]⟩ : ByteArray) 9 = 1 ∧ quLeft quA2 (⟨#[120]⟩ : ByteArray) 10 = 3 := ⟨quA_H2.2.left (by decide) (by decide) (by decide), (quA_H2.2.next (show (0 : Int) < 1 by decide)).left (by decide) (by decide) (by decide)⟩
theorem quA_H3 : quSpendE quA2 (⟨#[120]⟩ : ByteArray) 12 3 = 0 ∧ QHold quA3 (⟨#[120]⟩ : ByteArray) 3 10 1 3 := ⟨((quA_H2.2.next (show (0 : Int) < 1 by decide)).spendE (by decide) (by decide) (by decide) 3 (by decide)).2 (by decide), (quA_H2.2.next (show (0 : Int) < 1 by decide)).spent (by decide) (by decide) (by decide) (by decide) 3 (by decide)⟩
theorem quA_f : quSpendE quA3 (⟨#[120]⟩ : ByteArray) 9 1 = 14 ∧ quSpend quA3 (⟨#[120]⟩ : ByteArray) 9 1 = quA3 := by
 have hq := quA_H3.2.q
 have hE : quSpendE quA3 (⟨#[120]⟩ : ByteArray) 9 1 = 14 := by
  have hv : quSpend quA2 (⟨#[120]⟩ : ByteArray) 12 3 = quA3 := rfl
  have hs : (quTwo quA3 (spK (⟨#[120]⟩ : ByteArray))).2.2 = true ∧ (quTwo quA3 (spK (⟨#[120]⟩ : ByteArray))).1 = 1 := by
   rcases quA_H3.2.s with ⟨a, b⟩ | ⟨a, ⟨b, c⟩ | ⟨b, c⟩⟩
   ·exact absurd b (by decide)
   ·exact absurd c (by decide)
   ·exact ⟨a, b⟩
  unfold quSpendE
  rw [hq]
  dsimp only
  rw [if_pos rfl, if_neg (by decide), if_pos ⟨hs.1, by rw [hs.2]; decide⟩]
 exact ⟨hE, by unfold quSpend; rw [hE, if_neg (by decide)]⟩
theorem quA_l2 : quLeft quA3 (⟨#[120]⟩ : ByteArray) 12 = 0 := quA_H3.2.left (by decide) (by decide) (by decide)
theorem quA_ky : quK (⟨#[121]⟩ : ByteArray) ≠ quK (⟨#[120]⟩ : ByteArray) := fun e => absurd (quK_inj e) (by decide)
theorem quA_y : quLeft quA3 (⟨#[121]⟩ : ByteArray) 1 = 0 := by
 have so1 : sortK ([] : List S55) := List.Pairwise.nil
 have g1 : getK quA1 (quK (⟨#[121]⟩ : ByteArray)) = ((⟨#[]⟩ : ByteArray), false) := by
  unfold quA1 quSet
  rw [if_pos quA_H1.1, getK_setC (sortK_del so1 _), if_neg (fun e => quA_ky e.1), getK_delK so1, if_neg (qu_ne _ _)]
  rfl
 have g2 : getK quA2 (quK (⟨#[121]⟩ : ByteArray)) = ((⟨#[]⟩ : ByteArray), false) := by
  unfold quA2 quSpend
  rw [if_pos quA_H2.1, getK_setC quA_H1.2.so, if_neg (fun e => qu_ne _ _ e.1)]
  exact g1
 have g3 : getK quA3 (quK (⟨#[121]⟩ : ByteArray)) = ((⟨#[]⟩ : ByteArray), false) := by
  unfold quA3 quSpend
  rw [if_pos quA_H3.1, getK_setC quA_H2.2.so, if_neg (fun e => qu_ne _ _ e.1)]
  exact g2
 exact (qu_none quA3 (⟨#[121]⟩ : ByteArray) g3 1 1).2
theorem quA_s7 : quSetE (⟨#[97, 47, 98]⟩ : ByteArray) 1 1 = 7 ∧ quSet quA3 (⟨#[97, 47, 98]⟩ : ByteArray) 1 1 = quA3 := by
 have hE : quSetE (⟨#[97, 47, 98]⟩ : ByteArray) 1 1 = 7 := by unfold quSetE; rw [qun7, if_neg (by decide)]
 exact ⟨hE, by unfold quSet; rw [hE, if_neg (by decide)]⟩
theorem quA_s3 : quSetE (⟨#[120]⟩ : ByteArray) 1 0 = 3 ∧ quSet quA3 (⟨#[120]⟩ : ByteArray) 1 0 = quA3 := by
 have hE : quSetE (⟨#[120]⟩ : ByteArray) 1 0 = 3 := by unfold quSetE; rw [qun6, if_pos rfl, if_pos (by decide)]
 exact ⟨hE, by unfold quSet; rw [hE, if_neg (by decide)]⟩
theorem quA_K1 : KV 1 quA1 := quSet_KV (KV.nil 0) _ _ _
theorem quA_K2 : KV 2 quA2 := quSpend_KV quA_K1 _ _ _
theorem quA_K3 : KV 3 quA3 := quSpend_KV quA_K2 _ _ _
theorem quA_I1 : QInv quA1 := QInv.nil.set List.Pairwise.nil (by decide) _ _
theorem quA_I2 : QInv quA2 := quA_I1.spend quA_K1.so (by decide) _ _
theorem quA_I3 : QInv quA3 := quA_I2.spend quA_K2.so (by decide) _ _
theorem qun_Spend (name : ByteArray) (time n : Int) (w : World) :
  Calls Tryz.prog 11 #[.pointer none, .string name, .int .i64 time, .int .i64 n] w fun e w' => e = .returned (.int .i64 2) ∧ Below w.heap.size w w' := by
 go_enter Tryz.func11, Tryz.ntmps11
 go_wp2
 go_ret
 exact ⟨rfl, by repeat (first | (with_reducible first | exact Below.refl _ _ | apply below_alloc | apply pw_below_drewN | apply below_drew1) | exact Below.refl _ _)⟩
theorem quaw_calls (w : World) : Calls Tryz.prog 4 #[] w fun e w' => e = .returned (.bool true) ∧ Below w.heap.size w w' := by
 have k1 := quA_K1.mono (show 1 ≤ 1000000 by omega)
 have k2 := quA_K2.mono (show 2 ≤ 1000000 by omega)
 have k3 := quA_K3.mono (show 3 ≤ 1000000 by omega)
 go_enter Tryz.func4, Tryz.ntmps4
 go_wp2_with fail
 refine (j_new_nil w).mono ?_
 rintro e w1 ⟨g, rfl, hm, hb⟩
 have HB1 := As_ hb
 have HJ := As_ (JS.start hm hb.size)
 have HK := As_ (JK.of_below hb)
 clear hm hb
 go_wp2_with fail
 refine (qu_Spend (⟨#[120]⟩ : ByteArray) 0 1 8 [] HJ.out (KV.nil _) (by decide) QInv.nil (qu_none [] _ rfl 0 1).1 (by unfold quSpend; rw [(qu_none [] _ rfl 0 1).1, if_neg (by decide)])).mono ?_
 rintro e w2 ⟨rfl, hj, hk⟩
 replace HK := As_ (HK.out.trans hk)
 replace HJ := As_ (hj)
 clear hj hk
 go_wp2_with fail
 refine (qu_Set (⟨#[120]⟩ : ByteArray) 3 10 0 quA1 HJ.out (KV.nil _) (by decide) quA_H1.1 rfl).mono ?_
 rintro e w3 ⟨rfl, hj, hk⟩
 replace HK := As_ (HK.out.trans hk)
 replace HJ := As_ (hj)
 clear hj hk
 go_wp2_with fail
 refine (qu_Spend (⟨#[120]⟩ : ByteArray) 4 2 0 quA2 HJ.out k1 (by decide) quA_I1 quA_H2.1 rfl).mono ?_
 rintro e w4 ⟨rfl, hj, hk⟩
 replace HK := As_ (HK.out.trans hk)
 replace HJ := As_ (hj)
 clear hj hk
 go_wp2_with fail
 refine (qu_Spend (⟨#[120]⟩ : ByteArray) 9 2 21 quA2 HJ.out k2 (by decide) quA_I2 quA_b.1 quA_b.2).mono ?_
 rintro e w5 ⟨rfl, hj, hk⟩
 replace HK := As_ (HK.out.trans hk)
 replace HJ := As_ (hj)
 clear hj hk
 go_wp2_with fail
 refine (qu_Left (⟨#[120]⟩ : ByteArray) 9 1 HJ.out k2 (by decide) quA_I2 quA_l.1).mono ?_
 rintro e w6 ⟨rfl, hb⟩
 replace HK := As_ (HK.out.trans (JK.of_below hb))
 replace HJ := As_ (JS.below (base := w.heap.size) (ok := fun k => w.heap.size ≤ k) (w0 := w1) (g := g) (cur := quA2) (jsG) hb)
 clear hb
 go_wp2_with fail
 refine (qu_Left (⟨#[120]⟩ : ByteArray) 10 3 HJ.out k2 (by decide) quA_I2 quA_l.2).mono ?_
 rintro e w7 ⟨rfl, hb⟩
 replace HK := As_ (HK.out.trans (JK.of_below hb))
 replace HJ := As_ (JS.below (base := w.heap.size) (ok := fun k => w.heap.size ≤ k) (w0 := w1) (g := g) (cur := quA2) (jsG) hb)
 clear hb
 go_wp2_with fail
 refine (qu_Spend (⟨#[120]⟩ : ByteArray) 12 3 0 quA3 HJ.out k2 (by decide) quA_I2 quA_H3.1 rfl).mono ?_
 rintro e w8 ⟨rfl, hj, hk⟩
 replace HK := As_ (HK.out.trans hk)
 replace HJ := As_ (hj)
 clear hj hk
 go_wp2_with fail
 refine (qu_Spend (⟨#[120]⟩ : ByteArray) 9 1 14 quA3 HJ.out k3 (by decide) quA_I3 quA_f.1 quA_f.2).mono ?_
 rintro e w9 ⟨rfl, hj, hk⟩
 replace HK := As_ (HK.out.trans hk)
 replace HJ := As_ (hj)
 clear hj hk
 go_wp2_with fail
 refine (qu_Left (⟨#[120]⟩ : ByteArray) 12 0 HJ.out k3 (by decide) quA_I3 quA_l2).mono ?_
 rintro e w10 ⟨rfl, hb⟩
 replace HK := As_ (HK.out.trans (JK.of_below hb))
 replace HJ := As_ (JS.below (base := w.heap.size) (ok := fun k => w.heap.size ≤ k) (w0 := w1) (g := g) (cur := quA3) (jsG) hb)
 clear hb
 go_wp2_with fail
 refine (qu_Left (⟨#[121]⟩ : ByteArray) 1 0 HJ.out k3 (by decide) quA_I3 quA_y).mono ?_
 rintro e w11 ⟨rfl, hb⟩
 replace HK := As_ (HK.out.trans (JK.of_below hb))
 replace HJ := As_ (JS.below (base := w.heap.size) (ok := fun k => w.heap.size ≤ k) (w0 := w1) (g := g) (cur := quA3) (jsG) hb)
 clear hb
 go_wp2_with fail
 refine (qu_Set (⟨#[97, 47, 98]⟩ : ByteArray) 1 1 7 quA3 HJ.out k3 (by decide) quA_s7.1 quA_s7.2).mono ?_
 rintro e w12 ⟨rfl, hj, hk⟩
 replace HK := As_ (HK.out.trans hk)
 replace HJ := As_ (hj)
 clear hj hk
 go_wp2_with fail
 refine (qu_Set (⟨#[120]⟩ : ByteArray) 1 0 3 quA3 HJ.out k3 (by decide) quA_s3.1 quA_s3.2).mono ?_
 rintro e w13 ⟨rfl, hj, hk⟩
 replace HK := As_ (HK.out.trans hk)
 replace HJ := As_ (hj)
 clear hj hk
 go_wp2_with fail
 refine (qun_Spend (⟨#[120]⟩ : ByteArray) 0 1 _).mono ?_
 rintro e w14 ⟨rfl, hb⟩
 replace HK := As_ (HK.out.trans (JK.of_below hb))
 replace HJ := As_ (JS.below (base := w.heap.size) (ok := fun k => w.heap.size ≤ k) (w0 := w1) (g := g) (cur := quA3) (jsG) hb)
 clear hb
 have hfin := As_ (JW.toBelow HB1.out HB1.out.size HJ.out.jw (fun k hk => hk))
 clear HJ HK
 go_wp2
 go_ret
 exact ⟨rfl, hfin.out⟩
def footbridgeref08_hidden.l0 : Nat → ByteArray → List Int → Int → Option (ByteArray)
 | 0, _, _, _ => none
 | k + 1, x0, x3, x4 => if x4 < (x0.size : Int) then (if 0 ≤ x4 then (if (bt x0 x4) = 37 then ((some (([37, 112] : List Int) : List Int)).bind fun y128 => (if x3.length + y128.length < 140737488355328 then (footbridgeref08_hidden.l0 k x0 (x3 ++ y128) (wrap64 (x4 + 1))) else (none))) else (if (bt x0 x4) = 47 then ((some (([37, 115] : List Int) : List Int)).bind fun y134 => (if x3.length + y134.length < 140737488355328 then (footbridgeref08_hidden.l0 k x0 (x3 ++ y134) (wrap64 (x4 + 1))) else (none))) else (if x3.length < 140737488355328 then (footbridgeref08_hidden.l0 k x0 (x3 ++ [bt x0 x4]) (wrap64 (x4 + 1))) else (none)))) else (none)) else (some (strOfNums x3))
def footbridgeref08_hidden.f (k : Nat) (a0 : ByteArray) : Option (ByteArray) := footbridgeref08_hidden.l0 k a0 ([] : List Int) 0
theorem footbridgeref08_hidden.mono_l : ∀ k, (∀ y0 y1 y2, LeO (footbridgeref08_hidden.l0 k y0 y1 y2) (footbridgeref08_hidden.l0 (k + 1) y0 y1 y2))
 | 0 => fun _ _ _ r h => by simp [footbridgeref08_hidden.l0] at h
 | k + 1 => by
  have ih0 := footbridgeref08_hidden.mono_l k
  ·intro y0 y1 y2
   unfold footbridgeref08_hidden.l0
   repeat' first
   | (with_reducible exact ih0 _ _ _)
   | (with_reducible exact LeO.refl _)
   | (with_reducible exact LeO.none _)
   | (with_reducible refine LeO.ite ?_ ?_)
   | (with_reducible refine LeO.bind ?_ (fun _ => ?_))
   | exact ih0 _ _ _
   | exact LeO.none _
   | refine LeO.ite ?_ ?_
   | refine LeO.bind ?_ (fun _ => ?_)
theorem footbridgeref08_hidden.mono : ∀ a0 k, LeO (footbridgeref08_hidden.f k a0) (footbridgeref08_hidden.f (k + 1) a0) := by
 intro a0 k
 have ih0 := footbridgeref08_hidden.mono_l k
 unfold footbridgeref08_hidden.f
 repeat' first
   | (with_reducible exact ih0 _ _ _)
   | (with_reducible exact LeO.refl _)
   | (with_reducible exact LeO.none _)
   | (with_reducible refine LeO.ite ?_ ?_)
   | (with_reducible refine LeO.bind ?_ (fun _ => ?_))
   | exact ih0 _ _ _
   | exact LeO.none _
   | refine LeO.ite ?_ ?_
   | refine LeO.bind ?_ (fun _ => ?_)
theorem footbridgeref08_hidden.calls (k : Nat) (a0 : ByteArray) (r : ByteArray) (w : World) (h : footbridgeref08_hidden.f k a0 = some r) :
  Calls Tryz.prog 71 #[.string a0] w fun e w' => e = .returned (.string r) ∧ Below w.heap.size w w' := by
 have HB := As_ (Below.refl w.heap.size w)
 have H : (footbridgeref08_hidden.l0 k a0 ([] : List Int) 0) = some r := h
 clear h
 have H' := As_ H
 clear H
 go_enter Tryz.func71, Tryz.ntmps71
 go_wp2
 go_loopg [3, 4] k (fun kq v3 v4 w' => ∃ (x3_1 : List Int) (x4_1 : Int), v4 = .int .i64 x4_1 ∧ Aside0 (footbridgeref08_hidden.l0 kq a0 x3_1 x4_1 = some r) ∧ Aside0 (kq ≤ k) ∧ Aside0 (Kd.R (Kd.int .u8) 5 w' w.heap.size (fun _ => True) v3 x3_1) ∧ Aside0 (Below w.heap.size w w'))
 case atStart => exact ⟨(([] : List Int)), (0), ap4_, H', ⟨Nat.le_refl _⟩, ⟨by first | exact Kd.R_nil _ _ _ _ _ | exact Kd.N_nil _ _ _ _ _ | exact Kd.V_nil _ _ _ _ _ | exact Kd.Q_nil _ _ _ _ _ | exact Kd.S_nil _ _ _ _ _⟩, ⟨ap28_⟩⟩
 case round =>
  clear H'
  obtain ⟨x3_1, x4_1, rfl, HA, HK1, HO_3, HB⟩ := hrel
  cases gk with
  | zero => exact absurd HA.out (by simp [footbridgeref08_hidden.l0])
  | succ k1 =>
   have H := HA.out
   clear HA
   simp only [footbridgeref08_hidden.l0] at H
   by_cases c2 : x4_1 < (a0.size : Int)
   ·rw [if_pos c2] at H
    have c2b0 : decide (x4_1 < (a0.size : Int)) = true := decide_eq_true c2
    clear c2
    by_cases c3 : 0 ≤ x4_1
    ·rw [if_pos c3] at H
     have c3b0 : decide (0 ≤ x4_1) = true := decide_eq_true c3
     clear c3
     by_cases c5 : (bt a0 x4_1) = 37
     ·rw [if_pos c5] at H
      have c5b0 : ((bt a0 x4_1) == 37) = true := beq_iff_eq.mpr c5
      have c5b1 : ((bt a0 x4_1) != 37) = false := bne_eq_false_iff_eq.mpr c5
      clear c5
      obtain ⟨y128, hy128⟩ : ∃ y_ : List Int, y_ = (([37, 112] : List Int)) := ⟨_, rfl⟩
      replace H : (if x3_1.length + y128.length < 140737488355328 then (footbridgeref08_hidden.l0 k1 a0 (x3_1 ++ y128) (wrap64 (x4_1 + 1))) else (none)) = some r := by first | (rw [hy128]; with_reducible exact H) | (have H2_ := (Option.bind_some _ _).symm.trans H; rw [hy128]; with_reducible exact H2_) | (have H2_ := (Option.bind_some _ _).symm.trans H; with_reducible exact H2_) | with_reducible exact H | (rw [hy128]; exact H) | exact H
      have Ny128 := As_ hy128
      clear hy128
      by_cases c6 : x3_1.length + y128.length < 140737488355328
      ·rw [if_pos c6] at H
       have LMc6 := As_ c6
       clear c6
       obtain ⟨y131, hy131⟩ : ∃ y_ : List Int, y_ = (x3_1 ++ y128) := ⟨_, rfl⟩
       replace H : (footbridgeref08_hidden.l0 k1 a0 y131 (wrap64 (x4_1 + 1))) = some r := by first | (rw [hy131]; with_reducible exact H) | (have H2_ := (Option.bind_some _ _).symm.trans H; rw [hy131]; with_reducible exact H2_) | (have H2_ := (Option.bind_some _ _).symm.trans H; with_reducible exact H2_) | with_reducible exact H | (rw [hy131]; exact H) | exact H
       have Ny131 := As_ hy131
       clear hy131
       have H' := As_ H
       clear H
       have p4 : 0 ≤ (x4_1 : Int) := of_decide_eq_true ap5_
       have q4 : x4_1 < (a0.size : Int) := of_decide_eq_true ap5_
       have hx4 := bt_at a0 x4_1
       replace p4 := eq_true p4
       replace q4 := eq_true q4
       go_wp2_with (first | ((with_reducible refine gate_dst (N := 23) rfl ?_); refine Kd.R_lit (Kd.int .u8) _ 5 ?hg (N := 23) ?hd (xs := ([37, 112] : List Int)) (inner := [.int .u8 37, .int .u8 112]) (ok := fun _ => True) (okp := fun _ => True) ?hr ?hp (fun _ hk => hk) trivial (Below.refl _ _) (Nat.le_refl _) (by simp) ?_; (case hd => rfl); (case hg => rfl); (case hr => first | (go_simp; done) | (go_simp; rfl)); (case hp => exact (Reps.one (show Kd.M (Kd.int .u8) _ _ _ 37 [.int .u8 37] from rfl) (Reps.one (show Kd.M (Kd.int .u8) _ _ _ 112 [.int .u8 112] from rfl) (Reps.none _ _)))); intro v129 w7 ho8 hb hg_ hnew_; clear hg_ hnew_; (first | rw [← Ny128.out] at ho8 | (simp only [Int.reduceToNat] at ho8; rw [← Ny128.out] at ho8)); have HO130 := As_ (Kd.R_lower (Kd.R_new' ho8 (Kd.R_lt ap17_)) (below_size ap28_)); replace HO_3 := As_ (Kd.R_elder' ap17_ (Kd.R_base ho8) hb); replace HB := As_ (below_step ap28_ hb); clear hb ho8; obtain ⟨Ao10, co10, eo10⟩ := Kd.R_slice HO130.out; subst eo10) | ((with_reducible refine gate_builtin (b := .append) (xs := #[.tmp 22, .tmp 23]) rfl ?_); at_builtin; refine Kd.R_append_rows (Kd.int .u8) (w0 := w) w.heap.size rfl (.tmp 22) (.tmp 23) 108 5 (.int .u8 0) 1 rfl Tryz.underlying108 info5 rfl (by decide) (by omega) u3 x3_1 y128 _ _ _ (fun k_ => some k_ ≠ (.slice Ao10 y128.length co10 : Value).ownBlock) (fun _ => False) rfl rfl ?aO ?aR (fun _ _ h => h) (fun _ h => h.elim) ?aF ?aB ?aS ?aL ?_; (case aR => repeat (first | exact (Kd.R_reads' HO130.out).2.2 | (with_reducible refine Kd.C_alloc ?_ _) | (with_reducible refine Kd.C_drewN ?_ _) | (with_reducible refine Kd.C_drew ?_))); (case aB => exact ap28_); (case aF => exact (fun k_ hk => Kd.fresh' (Kd.R_lt ap24_) k_ hk)); (case aO => exact ap29_); (case aS => exact (below_size ap28_)); (case aL => have := LMc6.out; omega); intro v132 w9 ho hb hg hat; rw [← Ny131.out] at ho; have n0_ := As_ (Kd.R_after (ok := (fun _ => True)) ap24_ hg hat); have n1_ := As_ (hb); have n2_ := As_ (ho); clear HO130; clear HB; clear HO_3; have HO130 := n0_; have HB := n1_; have HO133 := n2_; clear n0_ n1_ n2_; clear ho hb hg hat))
       go_roundg k1
       case measure => have := HK1.out; omega
       case rel => exact ⟨(y131), (wrap64 (x4_1 + 1)), ap4_, H', ⟨by have := HK1.out; omega⟩, ⟨by (with_reducible repeat (first | apply Kd.R_alloc | apply Kd.R_drewN | apply Kd.R_drew)); exact Kd.R_mono HO133.out (fun _ hk => trivial)⟩, ⟨ap28_⟩⟩
      ·rw [if_neg c6] at H
       exact absurd H (by simp)
     ·rw [if_neg c5] at H
      have c5b0 : ((bt a0 x4_1) == 37) = false := beq_eq_false_iff_ne.mpr c5
      have c5b1 : ((bt a0 x4_1) != 37) = true := bne_iff_ne.mpr c5
      by_cases c11 : (bt a0 x4_1) = 47
      ·rw [if_pos c11] at H
       have c11b0 : ((bt a0 x4_1) == 47) = true := beq_iff_eq.mpr c11
       have c11b1 : ((bt a0 x4_1) != 47) = false := bne_eq_false_iff_eq.mpr c11
       clear c11
       obtain ⟨y134, hy134⟩ : ∃ y_ : List Int, y_ = (([37, 115] : List Int)) := ⟨_, rfl⟩
       replace H : (if x3_1.length + y134.length < 140737488355328 then (footbridgeref08_hidden.l0 k1 a0 (x3_1 ++ y134) (wrap64 (x4_1 + 1))) else (none)) = some r := by first | (rw [hy134]; with_reducible exact H) | (have H2_ := (Option.bind_some _ _).symm.trans H; rw [hy134]; with_reducible exact H2_) | (have H2_ := (Option.bind_some _ _).symm.trans H; with_reducible exact H2_) | with_reducible exact H | (rw [hy134]; exact H) | exact H
       have Ny134 := As_ hy134
       clear hy134
       by_cases c12 : x3_1.length + y134.length < 140737488355328
       ·rw [if_pos c12] at H
        have LMc12 := As_ c12
        clear c12
        obtain ⟨y137, hy137⟩ : ∃ y_ : List Int, y_ = (x3_1 ++ y134) := ⟨_, rfl⟩
        replace H : (footbridgeref08_hidden.l0 k1 a0 y137 (wrap64 (x4_1 + 1))) = some r := by first | (rw [hy137]; with_reducible exact H) | (have H2_ := (Option.bind_some _ _).symm.trans H; rw [hy137]; with_reducible exact H2_) | (have H2_ := (Option.bind_some _ _).symm.trans H; with_reducible exact H2_) | with_reducible exact H | (rw [hy137]; exact H) | exact H
        have Ny137 := As_ hy137
        clear hy137
        have H' := As_ H
        clear H
        have p4 : 0 ≤ (x4_1 : Int) := of_decide_eq_true ap5_
        have q4 : x4_1 < (a0.size : Int) := of_decide_eq_true ap5_
        have hx4 := bt_at a0 x4_1
        replace p4 := eq_true p4
        replace q4 := eq_true q4
        go_wp2_with (first | ((with_reducible refine gate_dst (N := 28) rfl ?_); refine Kd.R_lit (Kd.int .u8) _ 5 ?hg (N := 28) ?hd (xs := ([37, 115] : List Int)) (inner := [.int .u8 37, .int .u8 115]) (ok := fun _ => True) (okp := fun _ => True) ?hr ?hp (fun _ hk => hk) trivial (Below.refl _ _) (Nat.le_refl _) (by simp) ?_; (case hd => rfl); (case hg => rfl); (case hr => first | (go_simp; done) | (go_simp; rfl)); (case hp => exact (Reps.one (show Kd.M (Kd.int .u8) _ _ _ 37 [.int .u8 37] from rfl) (Reps.one (show Kd.M (Kd.int .u8) _ _ _ 115 [.int .u8 115] from rfl) (Reps.none _ _)))); intro v135 w13 ho14 hb hg_ hnew_; clear hg_ hnew_; (first | rw [← Ny134.out] at ho14 | (simp only [Int.reduceToNat] at ho14; rw [← Ny134.out] at ho14)); have HO136 := As_ (Kd.R_lower (Kd.R_new' ho14 (Kd.R_lt ap17_)) (below_size ap28_)); replace HO_3 := As_ (Kd.R_elder' ap17_ (Kd.R_base ho14) hb); replace HB := As_ (below_step ap28_ hb); clear hb ho14; obtain ⟨Ao16, co16, eo16⟩ := Kd.R_slice HO136.out; subst eo16) | ((with_reducible refine gate_builtin (b := .append) (xs := #[.tmp 27, .tmp 28]) rfl ?_); at_builtin; refine Kd.R_append_rows (Kd.int .u8) (w0 := w) w.heap.size rfl (.tmp 27) (.tmp 28) 108 5 (.int .u8 0) 1 rfl Tryz.underlying108 info5 rfl (by decide) (by omega) u3 x3_1 y134 _ _ _ (fun k_ => some k_ ≠ (.slice Ao16 y134.length co16 : Value).ownBlock) (fun _ => False) rfl rfl ?aO ?aR (fun _ _ h => h) (fun _ h => h.elim) ?aF ?aB ?aS ?aL ?_; (case aR => repeat (first | exact (Kd.R_reads' HO136.out).2.2 | (with_reducible refine Kd.C_alloc ?_ _) | (with_reducible refine Kd.C_drewN ?_ _) | (with_reducible refine Kd.C_drew ?_))); (case aB => exact ap28_); (case aF => exact (fun k_ hk => Kd.fresh' (Kd.R_lt ap23_) k_ hk)); (case aO => exact ap29_); (case aS => exact (below_size ap28_)); (case aL => have := LMc12.out; omega); intro v138 w15 ho hb hg hat; rw [← Ny137.out] at ho; have n0_ := As_ (Kd.R_after (ok := (fun _ => True)) ap23_ hg hat); have n1_ := As_ (hb); have n2_ := As_ (ho); clear HO136; clear HB; clear HO_3; have HO136 := n0_; have HB := n1_; have HO139 := n2_; clear n0_ n1_ n2_; clear ho hb hg hat))
        go_roundg k1
        case measure => have := HK1.out; omega
        case rel => exact ⟨(y137), (wrap64 (x4_1 + 1)), ap4_, H', ⟨by have := HK1.out; omega⟩, ⟨by (with_reducible repeat (first | apply Kd.R_alloc | apply Kd.R_drewN | apply Kd.R_drew)); exact Kd.R_mono HO139.out (fun _ hk => trivial)⟩, ⟨ap28_⟩⟩
       ·rw [if_neg c12] at H
        exact absurd H (by simp)
      ·rw [if_neg c11] at H
       have c11b0 : ((bt a0 x4_1) == 47) = false := beq_eq_false_iff_ne.mpr c11
       have c11b1 : ((bt a0 x4_1) != 47) = true := bne_iff_ne.mpr c11
       by_cases c18 : x3_1.length < 140737488355328
       ·rw [if_pos c18] at H
        have LMc18 := As_ c18
        clear c18
        obtain ⟨y140, hy140⟩ : ∃ y_ : List Int, y_ = (x3_1 ++ [bt a0 x4_1]) := ⟨_, rfl⟩
        replace H : (footbridgeref08_hidden.l0 k1 a0 y140 (wrap64 (x4_1 + 1))) = some r := by first | (rw [hy140]; with_reducible exact H) | (have H2_ := (Option.bind_some _ _).symm.trans H; rw [hy140]; with_reducible exact H2_) | (have H2_ := (Option.bind_some _ _).symm.trans H; with_reducible exact H2_) | with_reducible exact H | (rw [hy140]; exact H) | exact H
        have Ny140 := As_ hy140
        clear hy140
        have H' := As_ H
        clear H
        have p4 : 0 ≤ (x4_1 : Int) := of_decide_eq_true ap5_
        have q4 : x4_1 < (a0.size : Int) := of_decide_eq_true ap5_
        have hx4 := bt_at a0 x4_1
        replace p4 := eq_true p4
        replace q4 := eq_true q4
        have p17 : 0 ≤ (x4_1 : Int) := of_decide_eq_true ap5_
        have q17 : x4_1 < (a0.size : Int) := of_decide_eq_true ap5_
        have hx17 := bt_at a0 x4_1
        replace p17 := eq_true p17
        replace q17 := eq_true q17
        go_wp2_with (first | ((with_reducible refine gate_builtin (b := .append) (xs := #[.tmp 14, .tmp 18]) rfl ?_); at_builtin; refine Kd.R_append (Kd.int .u8) (w0 := w) w.heap.size rfl (.tmp 14) (.tmp 18) 108 5 (.int .u8 0) 1 rfl Tryz.underlying108 info5 rfl (by decide) (by omega) u3 x3_1 (bt a0 x4_1) [.int .u8 (bt a0 x4_1)] (fun _ => True) (fun _ => False) rfl rfl ?aP (fun _ hk => hk.elim) ?aF ?aO ?aB ?aS ?aL ?_; (case aP => exact rfl); (case aB => exact ap28_); (case aF => exact (fun _ _ => trivial)); (case aO => exact ap17_); (case aS => exact (below_size ap28_)); (case aL => have := LMc18.out; omega); intro v141 w19 ho hb hg hat; rw [← Ny140.out] at ho; have n0_ := As_ (hb); have n1_ := As_ (ho); clear HB; clear HO_3; have HB := n0_; have HO142 := n1_; clear n0_ n1_; clear ho hb hg hat))
        go_roundg k1
        case measure => have := HK1.out; omega
        case rel => exact ⟨(y140), (wrap64 (x4_1 + 1)), ap4_, H', ⟨by have := HK1.out; omega⟩, ⟨by (with_reducible repeat (first | apply Kd.R_alloc | apply Kd.R_drewN | apply Kd.R_drew)); exact HO142.out⟩, ⟨ap28_⟩⟩
       ·rw [if_neg c18] at H
        exact absurd H (by simp)
    ·rw [if_neg c3] at H
     exact absurd H (by simp)
   ·rw [if_neg c2] at H
    have c2b0 : decide (x4_1 < (a0.size : Int)) = false := decide_eq_false c2
    clear c2
    obtain rfl := Option.some.inj H
    have hcv20 := own_string (P := Tryz.prog) Tryz.underlying108 Tryz.underlying5 Tryz.underlying9 (Kd.own_of_R HO_3.out)
    (try (have hcv20d := own_string (P := Tryz.prog) Tryz.underlying108 Tryz.underlying5 Tryz.underlying9 (Kd.own_of_R (Kd.R_drew (HO_3.out)))))
    go_wp2
    go_ret
    exact ⟨ap14_, ap28_⟩
def footbridgeref08_Join.l0 : Nat → List ByteArray → ByteArray → Int → Option (ByteArray)
 | 0, _, _, _ => none
 | k + 1, x1, x5, x6 => if x6 < (x1.length : Int) then (if x5.size + 1 ≤ 9223372036854775807 then (if 0 ≤ x6 then ((footbridgeref08_hidden.f k (rdOf ByteArray.empty x1 x6)).bind fun t145 => (if (x5 ++ (⟨#[47]⟩ : ByteArray)).size + t145.size ≤ 9223372036854775807 then (footbridgeref08_Join.l0 k x1 ((x5 ++ (⟨#[47]⟩ : ByteArray)) ++ t145) (wrap64 (x6 + 1))) else (none))) else (none)) else (none)) else (some x5)
def footbridgeref08_Join.f (k : Nat) (a0 : ByteArray) (l1 : List ByteArray) : Option (ByteArray) := (footbridgeref08_hidden.f k a0).bind fun t143 => (footbridgeref08_Join.l0 k l1 t143 0)
theorem footbridgeref08_Join.mono_l : ∀ k, (∀ y0 y1 y2, LeO (footbridgeref08_Join.l0 k y0 y1 y2) (footbridgeref08_Join.l0 (k + 1) y0 y1 y2))
 | 0 => fun _ _ _ r h => by simp [footbridgeref08_Join.l0] at h
 | k + 1 => by
  have ih0 := footbridgeref08_Join.mono_l k
  ·intro y0 y1 y2
   unfold footbridgeref08_Join.l0
   repeat' first
   | (with_reducible exact ih0 _ _ _)
   | (with_reducible exact footbridgeref08_hidden.mono _ _)
   | (with_reducible exact LeO.refl _)
   | (with_reducible exact LeO.none _)
   | (with_reducible refine LeO.ite ?_ ?_)
   | (with_reducible refine LeO.bind ?_ (fun _ => ?_))
   | exact ih0 _ _ _
   | exact footbridgeref08_hidden.mono _ _
   | exact LeO.none _
   | refine LeO.ite ?_ ?_
   | refine LeO.bind ?_ (fun _ => ?_)
theorem footbridgeref08_Join.mono : ∀ a0 a1 k, LeO (footbridgeref08_Join.f k a0 a1) (footbridgeref08_Join.f (k + 1) a0 a1) := by
 intro a0 a1 k
 have ih0 := footbridgeref08_Join.mono_l k
 unfold footbridgeref08_Join.f
 repeat' first
   | (with_reducible exact ih0 _ _ _)
   | (with_reducible exact footbridgeref08_hidden.mono _ _)
   | (with_reducible exact LeO.refl _)
   | (with_reducible exact LeO.none _)
   | (with_reducible refine LeO.ite ?_ ?_)
   | (with_reducible refine LeO.bind ?_ (fun _ => ?_))
   | exact ih0 _ _ _
   | exact footbridgeref08_hidden.mono _ _
   | exact LeO.none _
   | refine LeO.ite ?_ ?_
   | refine LeO.bind ?_ (fun _ => ?_)
theorem footbridgeref08_Join.calls (k : Nat) (a0 : ByteArray) (A1 : Option Addr) (c1 : Nat) (l1 : List ByteArray) (r : ByteArray) (w : World) (hr1 : Kd.C Kd.string w A1 l1.length l1) (hc1 : l1.length ≤ c1) (h : footbridgeref08_Join.f k a0 l1 = some r) :
  Calls Tryz.prog 54 #[.string a0, .slice A1 l1.length c1] w fun e w' => e = .returned (.string r) ∧ Below w.heap.size w w' := by
 have HR1 := As_ hr1
 have HC1 := As_ hc1
 clear hr1 hc1
 have HB := As_ (Below.refl w.heap.size w)
 have H : ((footbridgeref08_hidden.f k a0).bind fun t143 => (footbridgeref08_Join.l0 k l1 t143 0)) = some r := h
 clear h
 replace H := Option.bind_eq_some_iff.mp H
 obtain ⟨t143, A30, H⟩ := H
 try dsimp only at H
 have A3 := As_ A30
 clear A30
 have H' := As_ H
 clear H
 go_enter Tryz.func54, Tryz.ntmps54
 go_wp2_with (first | ((with_reducible refine gate_callee (f := 71) rfl ?_); refine gk_ (some 8) Tryz.func71 #[.string a0] ?_; (with_reducible refine (footbridgeref08_hidden.calls k a0 t143 _ A3.out).mono ?_); rintro e w4 ⟨rfl, hb⟩; refine ⟨_, rfl, ?_⟩; replace HB := As_ (below_step ap28_ hb); (try clear hb); (try clear hb2); (try clear hk); (try clear hi)))
 go_loopg [5, 6] k (fun kq v5 v6 w' => ∃ (x5_1 : ByteArray) (x6_1 : Int), v5 = .string x5_1 ∧ v6 = .int .i64 x6_1 ∧ Aside0 (footbridgeref08_Join.l0 kq l1 x5_1 x6_1 = some r) ∧ Aside0 (kq ≤ k) ∧ Aside0 (Below w.heap.size w w'))
 case atStart => exact ⟨(t143), (0), ap4_, ap4_, H', ⟨Nat.le_refl _⟩, ⟨ap28_⟩⟩
 case round =>
  clear H'
  try clear c1
  obtain ⟨x5_1, x6_1, rfl, rfl, HA, HK1, HB⟩ := hrel
  cases gk with
  | zero => exact absurd HA.out (by simp [footbridgeref08_Join.l0])
  | succ k1 =>
   have H := HA.out
   clear HA
   simp only [footbridgeref08_Join.l0] at H
   by_cases c5 : x6_1 < (l1.length : Int)
   ·rw [if_pos c5] at H
    have c5b0 : decide (x6_1 < (l1.length : Int)) = true := decide_eq_true c5
    clear c5
    by_cases c6 : x5_1.size + 1 ≤ 9223372036854775807
    ·rw [if_pos c6] at H
     have c6b0 := eq_true c6
     have c6b1 : decide (x5_1.size + 1 ≤ 9223372036854775807) = true := decide_eq_true c6
     try have c6b2 : (9223372036854775807 < x5_1.size + 1) = False := eq_false (Nat.not_lt.2 c6)
     by_cases c7 : 0 ≤ x6_1
     ·rw [if_pos c7] at H
      have c7b0 : decide (0 ≤ x6_1) = true := decide_eq_true c7
      clear c7
      replace H := Option.bind_eq_some_iff.mp H
      obtain ⟨t145, A80, H⟩ := H
      try dsimp only at H
      have A8 := As_ A80
      clear A80
      by_cases c9 : (x5_1 ++ (⟨#[47]⟩ : ByteArray)).size + t145.size ≤ 9223372036854775807
      ·rw [if_pos c9] at H
       have c9b0 := eq_true c9
       have c9b1 : decide ((x5_1 ++ (⟨#[47]⟩ : ByteArray)).size + t145.size ≤ 9223372036854775807) = true := decide_eq_true c9
       try have c9b2 : (9223372036854775807 < (x5_1 ++ (⟨#[47]⟩ : ByteArray)).size + t145.size) = False := eq_false (Nat.not_lt.2 c9)
       try (have c9b2_ := c9b2; simp only [ByteArray.size_append, my_lit_size, List.length_cons, List.length_nil, Nat.reduceAdd] at c9b2_)
       have H' := As_ H
       clear H
       have p144 : 0 ≤ (x6_1 : Int) := of_decide_eq_true ap5_
       have q144 : x6_1 < (l1.length : Int) := of_decide_eq_true ap5_
       obtain ⟨ad144, e144, hx144_0⟩ := Kd.at_string HR1.out x6_1 p144 q144
       cases e144
       replace hx144_0 := (HB.out.cell (World.block_lt_of_cell? w _ hx144_0)).trans hx144_0
       replace p144 := eq_true p144
       replace q144 := eq_true q144
       go_wp2_with (first | ((with_reducible refine gate_callee (f := 71) rfl ?_); refine gk_ (some 21) Tryz.func71 #[.string (rdOf ByteArray.empty l1 x6_1)] ?_; (with_reducible refine (footbridgeref08_hidden.calls k1 (rdOf ByteArray.empty l1 x6_1) t145 _ A8.out).mono ?_); rintro e w10 ⟨rfl, hb⟩; refine ⟨_, rfl, ?_⟩; replace HB := As_ (below_step ap28_ hb); (try clear hb); (try clear hb2); (try clear hk); (try clear hi)))
       go_roundg k1
       case measure => have := HK1.out; omega
       case rel => exact ⟨((x5_1 ++ (⟨#[47]⟩ : ByteArray)) ++ t145), (wrap64 (x6_1 + 1)), ap4_, ap4_, H', ⟨by have := HK1.out; omega⟩, ⟨ap28_⟩⟩
      ·rw [if_neg c9] at H
       exact absurd H (by simp)
     ·rw [if_neg c7] at H
      exact absurd H (by simp)
    ·rw [if_neg c6] at H
     exact absurd H (by simp)
   ·rw [if_neg c5] at H
    have c5b0 : decide (x6_1 < (l1.length : Int)) = false := decide_eq_false c5
    clear c5
    obtain rfl := Option.some.inj H
    go_wp2
    go_ret
    exact ⟨ap14_, ap28_⟩
def footbridgeref14_Key.f (k : Nat) (l0 : List ByteArray) : Option (ByteArray) := if 0 < (l0.length : Int) then (if 1 ≤ (l0.length : Int) then ((footbridgeref08_Join.f k (rdOf ByteArray.empty l0 0) (l0.drop 1)).bind fun t148 => (some t148)) else (none)) else (none)
theorem footbridgeref14_Key.mono : ∀ a0 k, LeO (footbridgeref14_Key.f k a0) (footbridgeref14_Key.f (k + 1) a0) := by
 intro a0 k
 unfold footbridgeref14_Key.f
 repeat' first
   | (with_reducible exact footbridgeref08_Join.mono _ _ _)
   | (with_reducible exact LeO.refl _)
   | (with_reducible exact LeO.none _)
   | (with_reducible refine LeO.ite ?_ ?_)
   | (with_reducible refine LeO.bind ?_ (fun _ => ?_))
   | exact footbridgeref08_Join.mono _ _ _
   | exact LeO.none _
   | refine LeO.ite ?_ ?_
   | refine LeO.bind ?_ (fun _ => ?_)
theorem footbridgeref14_Key.calls (k : Nat) (A0 : Option Addr) (c0 : Nat) (l0 : List ByteArray) (r : ByteArray) (w : World) (hr0 : Kd.C Kd.string w A0 l0.length l0) (hc0 : l0.length ≤ c0) (h : footbridgeref14_Key.f k l0 = some r) :
  Calls Tryz.prog 30 #[.slice A0 l0.length c0] w fun e w' => e = .returned (.string r) ∧ Below w.heap.size w w' := by
 have HR0 := As_ hr0
 have HC0 := As_ hc0
 clear hr0 hc0
 have HB := As_ (Below.refl w.heap.size w)
 have H : (if 0 < (l0.length : Int) then (if 1 ≤ (l0.length : Int) then ((footbridgeref08_Join.f k (rdOf ByteArray.empty l0 0) (l0.drop 1)).bind fun t148 => (some t148)) else (none)) else (none)) = some r := h
 clear h
 by_cases c2 : 0 < (l0.length : Int)
 ·rw [if_pos c2] at H
  have c2b0 : decide (0 < (l0.length : Int)) = true := decide_eq_true c2
  have c2b1 : decide (0 < l0.length) = true := decide_eq_true (by omega)
  clear c2
  by_cases c3 : 1 ≤ (l0.length : Int)
  ·rw [if_pos c3] at H
   have c3b0 := eq_true c3
   have c3b1 : decide (1 ≤ (l0.length : Int)) = true := decide_eq_true c3
   clear c3
   replace H := Option.bind_eq_some_iff.mp H
   obtain ⟨t148, A40, H⟩ := H
   try dsimp only at H
   have A4 := As_ A40
   clear A40
   obtain rfl := Option.some.inj H
   go_enter Tryz.func30, Tryz.ntmps30
   try go_wp2
   replace HB := As_ (below_drew1 HB.out)
   have p146 : 0 ≤ (0 : Int) := (by omega)
   have q146 : 0 < (l0.length : Int) := of_decide_eq_true ap5_
   obtain ⟨ad146, e146, hx146_0⟩ := Kd.at_string HR0.out 0 p146 q146
   have hw146_0 := hx146_0
   (try rw [show ((0 : Int)).toNat = 0 from rfl] at hw146_0)
   (try rw [show 0 * 1 = 0 from rfl] at hw146_0)
   (try rw [Addr.add_zero'] at hw146_0)
   cases e146
   have qi146 : (0 < l0.length) = True := eq_true (by omega)
   (try rw [show ((0 : Int)).toNat = 0 from rfl] at hx146_0)
   (try rw [Addr.add_zero'] at hx146_0)
   replace hx146_0 := (HB.out.cell (World.block_lt_of_cell? w _ hx146_0)).trans hx146_0
   replace p146 := eq_true p146
   replace q146 := eq_true q146
   obtain ⟨i06, hi06, _, hsz6, _⟩ := info_parts info9
   obtain ⟨A6, hcut6, hA6, hC6⟩ := print_drop_of (P := Tryz.prog) Value.string ⟨#[]⟩ 88 9 .i64 Tryz.underlying88 hi06 hsz6 (some ad146) c0 l0 1 (by omega) (of_decide_eq_true ap5_) HC0.out
   have HR147 := As_ (Kd.C_of_reads (h1 := fun _ => rfl) (hA6 _ (Kd.reads_of_C HR0.out)))
   have HC147 := As_ hC6
   clear hA6 hC6 hi06 hsz6
   refine start_ (n := 7) (S := fun w' => w'.cell? ad146 = some (.string (rdOf ByteArray.empty l0 0))) (ds := []) #[false, false, false, false, false, false, false] (by kernel_rfl) rfl rfl (((HB.out.cell (World.block_lt_of_cell? w _ hw146_0)).trans hw146_0)) (fun hHeld => ?_)
   generalize w.drew = w5 at HB HR147 hx146_0 hHeld ⊢
   refine pure_ (i := 0) (N := some 3) #[true, false, false, false, false, false, false] rfl rfl (by kernel_rfl) (fun _ _ _ h => h) (Or.inl ⟨by rfl, ap2_⟩) ap25_ ?_
   refine pure_ (i := 1) (N := some 4) #[true, true, false, false, false, false, false] rfl rfl (by kernel_rfl) (fun _ _ _ h => h) (Or.inl ⟨by rfl, ap2_⟩) ap25_ ?_
   refine pure_ (i := 3) (N := some 6) #[true, true, false, true, false, false, false] rfl rfl (by kernel_rfl) (fun _ _ _ h => h) (Or.inl ⟨by rfl, ap2_⟩) ap25_ ?_
   refine pure_ (i := 4) (N := some 7) #[true, true, false, true, true, false, false] rfl rfl (by kernel_rfl) (fun _ _ _ h => h) (Or.inl ⟨by rfl, ap2_⟩) ap25_ ?_
   refine take_ (i := 2) (N := some 5) #[true, true, true, true, true, false, false] rfl rfl (by kernel_rfl) (fun _ _ _ h => h) (Or.inl ⟨by rfl, (by intro w' s0; go_simp; with_reducible rfl)⟩) hHeld ap25_ ?_
   refine one_ (i := 5) (N := some 8) #[true, true, true, true, true, true, false] rfl rfl (by kernel_rfl) (by decide) (fun K hK => ?_)
   refine goes_ Tryz.func54 (by kernel_rfl) rfl #[.string (rdOf ByteArray.empty l0 0), .slice A6 (l0.drop 1).length (c0 - 1)] (by rfl) rfl rfl (by (try simp only [List.map_toArray, List.map_cons, List.map_nil]); first | done | (rw [show (l0.drop 1).length = (l0.length - 1) from List.length_drop] <;> rfl) | rfl | (simp only [List.length_drop, List.length_take]; rfl)) ?_
   with_reducible refine (footbridgeref08_Join.calls k (rdOf ByteArray.empty l0 0) _ _ (l0.drop 1) t148 _ ?side1 ?side2 A4.out).mono ?_
   (case side1 => repeat (first | exact (Kd.C_below HR147.out HB.out) | (with_reducible refine Kd.C_alloc ?_ _) | (with_reducible refine Kd.C_drewN ?_ _) | (with_reducible refine Kd.C_drew ?_)))
   (case side2 => exact HC147.out)
   rintro e w7 ⟨rfl, hb⟩
   refine ⟨_, rfl, ?_⟩
   replace HB := As_ (below_step ap28_ hb)
   (try clear hb)
   (try clear hb2)
   (try clear hk)
   (try clear hi)
   refine hK.out _ _ (((HB.out.cell (World.block_lt_of_cell? w _ hw146_0)).trans hw146_0)) (fun hHeld => ?_)
   clear hK K
   refine norm_ (a' := ?_) ?_ ?_
   rotate_left
   ·show Act.put _ (some 8) _ = _
    simp only [Act.put, List.setIfInBounds_toArray, List.set_cons_zero, List.set_cons_succ, i64_w, i32_w]
    rfl
   refine pure_ (i := 6) (N := some 2) #[true, true, true, true, true, true, true] rfl rfl (by kernel_rfl) (fun _ _ _ h => h) (Or.inl ⟨by rfl, ap2_⟩) ap25_ ?_
   refine done_ (by kernel_rfl) ?_
   try go_wp2
   go_ret
   exact ⟨ap14_, ap28_⟩
  ·rw [if_neg c3] at H
   exact absurd H (by simp)
 ·rw [if_neg c2] at H
  exact absurd H (by simp)
def footbridgeref09_at.l0 : Nat → List (S55) → ByteArray → Int → Option (Int)
 | 0, _, _, _ => none
 | k + 1, x0, x1, x5 => if x5 < (x0.length : Int) then (if 0 ≤ x5 then (if (Op.bytesLess (((rd_T55 x0 x5).f0).toList) x1.toList) = true then (footbridgeref09_at.l0 k x0 x1 (wrap64 (x5 + 1))) else (some x5)) else (none)) else (some x5)
def footbridgeref09_at.f (k : Nat) (l0 : List (S55)) (a1 : ByteArray) : Option (Int) := footbridgeref09_at.l0 k l0 a1 0
theorem footbridgeref09_at.mono_l : ∀ k, (∀ y0 y1 y2, LeO (footbridgeref09_at.l0 k y0 y1 y2) (footbridgeref09_at.l0 (k + 1) y0 y1 y2))
 | 0 => fun _ _ _ r h => by simp [footbridgeref09_at.l0] at h
 | k + 1 => by
  have ih0 := footbridgeref09_at.mono_l k
  ·intro y0 y1 y2
   unfold footbridgeref09_at.l0
   repeat' first
   | (with_reducible exact ih0 _ _ _)
   | (with_reducible exact LeO.refl _)
   | (with_reducible exact LeO.none _)
   | (with_reducible refine LeO.ite ?_ ?_)
   | (with_reducible refine LeO.bind ?_ (fun _ => ?_))
   | exact ih0 _ _ _
   | exact LeO.none _
   | refine LeO.ite ?_ ?_
   | refine LeO.bind ?_ (fun _ => ?_)
theorem footbridgeref09_at.mono : ∀ a0 a1 k, LeO (footbridgeref09_at.f k a0 a1) (footbridgeref09_at.f (k + 1) a0 a1) := by
 intro a0 a1 k
 have ih0 := footbridgeref09_at.mono_l k
 unfold footbridgeref09_at.f
 repeat' first
   | (with_reducible exact ih0 _ _ _)
   | (with_reducible exact LeO.refl _)
   | (with_reducible exact LeO.none _)
   | (with_reducible refine LeO.ite ?_ ?_)
   | (with_reducible refine LeO.bind ?_ (fun _ => ?_))
   | exact ih0 _ _ _
   | exact LeO.none _
   | refine LeO.ite ?_ ?_
   | refine LeO.bind ?_ (fun _ => ?_)
theorem footbridgeref09_at.calls (k : Nat) (A0 : Option Addr) (c0 : Nat) (l0 : List (S55)) (a1 : ByteArray) (r : Int) (w : World) (hr0 : Kd.C k55 w A0 l0.length l0) (hc0 : l0.length ≤ c0) (h : footbridgeref09_at.f k l0 a1 = some r) :
  Calls Tryz.prog 51 #[.slice A0 l0.length c0, .string a1] w fun e w' => e = .returned (.int .i64 r) ∧ Drawn0 w w' := by
 have HR0 := As_ hr0
 have HC0 := As_ hc0
 clear hr0 hc0
 have H : (footbridgeref09_at.l0 k l0 a1 0) = some r := h
 clear h
 have H' := As_ H
 clear H
 go_enter Tryz.func51, Tryz.ntmps51
 go_wp2
 go_loopg [5] k (fun kq v5 w' => ∃ (x5_1 : Int), v5 = .int .i64 x5_1 ∧ Aside0 (footbridgeref09_at.l0 kq l0 a1 x5_1 = some r) ∧ Aside0 (kq ≤ k) ∧ Drawn0 w w')
 case atStart => exact ⟨(0), ap4_, H', ⟨Nat.le_refl _⟩, ap7_⟩
 case round =>
  clear H'
  obtain ⟨x5_1, rfl, HA, HK1, ⟨m1, rfl⟩⟩ := hrel
  cases gk with
  | zero => exact absurd HA.out (by simp [footbridgeref09_at.l0])
  | succ k1 =>
   have H := HA.out
   clear HA
   simp only [footbridgeref09_at.l0] at H
   by_cases c3 : x5_1 < (l0.length : Int)
   ·rw [if_pos c3] at H
    have c3b0 : decide (x5_1 < (l0.length : Int)) = true := decide_eq_true c3
    clear c3
    by_cases c4 : 0 ≤ x5_1
    ·rw [if_pos c4] at H
     have c4b0 : decide (0 ≤ x5_1) = true := decide_eq_true c4
     clear c4
     by_cases c5 : (Op.bytesLess (((rd_T55 l0 x5_1).f0).toList) a1.toList) = true
     ·rw [if_pos c5] at H
      have c5b0 : (Op.bytesLess (((rd_T55 l0 x5_1).f0).toList) a1.toList) = true := c5
      clear c5
      have H' := As_ H
      clear H
      have p149 : 0 ≤ (x5_1 : Int) := of_decide_eq_true ap5_
      have q149 : x5_1 < (l0.length : Int) := of_decide_eq_true ap5_
      obtain ⟨ad149, e149, hx149_0, hx149_1⟩ := at_T55 HR0.out x5_1 p149 q149
      cases e149
      replace p149 := eq_true p149
      replace q149 := eq_true q149
      go_wp2
      go_roundg k1
      case measure => have := HK1.out; omega
      case rel => exact ⟨(wrap64 (x5_1 + 1)), ap4_, H', ⟨by have := HK1.out; omega⟩, ap7_⟩
     ·rw [if_neg c5] at H
      have c5b0 : (Op.bytesLess (((rd_T55 l0 x5_1).f0).toList) a1.toList) = false := by simpa using c5
      clear c5
      obtain rfl := Option.some.inj H
      have p149 : 0 ≤ (x5_1 : Int) := of_decide_eq_true ap5_
      have q149 : x5_1 < (l0.length : Int) := of_decide_eq_true ap5_
      obtain ⟨ad149, e149, hx149_0, hx149_1⟩ := at_T55 HR0.out x5_1 p149 q149
      cases e149
      replace p149 := eq_true p149
      replace q149 := eq_true q149
      go_wp2
      go_ret
      exact ⟨ap4_, ap7_⟩
    ·rw [if_neg c4] at H
     exact absurd H (by simp)
   ·rw [if_neg c3] at H
    have c3b0 : decide (x5_1 < (l0.length : Int)) = false := decide_eq_false c3
    clear c3
    obtain rfl := Option.some.inj H
    go_wp2
    go_ret
    exact ⟨ap4_, ap7_⟩
def footbridgeref09_Get.f (k : Nat) (l0 : List (S55)) (a1 : ByteArray) : Option (ByteArray × Bool) := (footbridgeref09_at.f k l0 a1).bind fun t150 => (if t150 < (l0.length : Int) then (if 0 ≤ t150 then (if ((rd_T55 l0 t150).f0).toList = a1.toList then (some ((rd_T55 l0 t150).f1, true)) else (some ((⟨#[]⟩ : ByteArray), false))) else (none)) else (some ((⟨#[]⟩ : ByteArray), false)))
theorem footbridgeref09_Get.mono : ∀ a0 a1 k, LeO (footbridgeref09_Get.f k a0 a1) (footbridgeref09_Get.f (k + 1) a0 a1) := by
 intro a0 a1 k
 unfold footbridgeref09_Get.f
 repeat' first
   | (with_reducible exact footbridgeref09_at.mono _ _ _)
   | (with_reducible exact LeO.refl _)
   | (with_reducible exact LeO.none _)
   | (with_reducible refine LeO.ite ?_ ?_)
   | (with_reducible refine LeO.bind ?_ (fun _ => ?_))
   | exact footbridgeref09_at.mono _ _ _
   | exact LeO.none _
   | refine LeO.ite ?_ ?_
   | refine LeO.bind ?_ (fun _ => ?_)
theorem footbridgeref09_Get.calls (k : Nat) (A0 : Option Addr) (c0 : Nat) (l0 : List (S55)) (a1 : ByteArray) (r1 : ByteArray) (r2 : Bool) (w : World) (hr0 : Kd.C k55 w A0 l0.length l0) (hc0 : l0.length ≤ c0) (h : footbridgeref09_Get.f k l0 a1 = some (r1, r2)) :
  Calls Tryz.prog 35 #[.slice A0 l0.length c0, .string a1] w fun e w' => e = .returned (.tuple #[.string r1, .bool r2]) ∧ Drawn0 w w' := by
 have HR0 := As_ hr0
 have HC0 := As_ hc0
 clear hr0 hc0
 have H : ((footbridgeref09_at.f k l0 a1).bind fun t150 => (if t150 < (l0.length : Int) then (if 0 ≤ t150 then (if ((rd_T55 l0 t150).f0).toList = a1.toList then (some ((rd_T55 l0 t150).f1, true)) else (some ((⟨#[]⟩ : ByteArray), false))) else (none)) else (some ((⟨#[]⟩ : ByteArray), false)))) = some (r1, r2) := h
 clear h
 replace H := Option.bind_eq_some_iff.mp H
 obtain ⟨t150, A30, H⟩ := H
 try dsimp only at H
 have A3 := As_ A30
 clear A30
 by_cases c4 : t150 < (l0.length : Int)
 ·rw [if_pos c4] at H
  have c4b0 : decide (t150 < (l0.length : Int)) = true := decide_eq_true c4
  clear c4
  by_cases c5 : 0 ≤ t150
  ·rw [if_pos c5] at H
   have c5b0 : decide (0 ≤ t150) = true := decide_eq_true c5
   clear c5
   by_cases c6 : ((rd_T55 l0 t150).f0).toList = a1.toList
   ·rw [if_pos c6] at H
    have c6b0 : (((rd_T55 l0 t150).f0).toList == a1.toList) = true := beq_iff_eq.mpr c6
    have c6b1 : (((rd_T55 l0 t150).f0).toList != a1.toList) = false := bne_eq_false_iff_eq.mpr c6
    clear c6
    simp only [Option.some.injEq, Prod.mk.injEq] at H
    obtain ⟨rfl, rfl⟩ := H
    go_enter Tryz.func35, Tryz.ntmps35
    go_wp2_with (first | ((with_reducible refine gate_callee (f := 51) rfl ?_); refine gk_ (some 9) Tryz.func51 #[.slice A0 l0.length c0, .string a1] ?_; (with_reducible refine (footbridgeref09_at.calls k _ _ l0 a1 t150 _ ?side1 ?side2 A3.out).mono ?_); (case side1 => repeat (first | exact HR0.out | (with_reducible refine Kd.C_alloc ?_ _) | (with_reducible refine Kd.C_drewN ?_ _) | (with_reducible refine Kd.C_drew ?_))); (case side2 => exact HC0.out); rintro e w' ⟨rfl, ⟨nd, rfl⟩⟩; refine ⟨_, rfl, ?_⟩; have p151 : 0 ≤ (t150 : Int) := of_decide_eq_true ap5_; have q151 : t150 < (l0.length : Int) := of_decide_eq_true ap5_; obtain ⟨ad151, e151, hx151_0, hx151_1⟩ := at_T55 HR0.out t150 p151 q151; cases e151; replace p151 := eq_true p151; replace q151 := eq_true q151; have p152 : 0 ≤ (t150 : Int) := of_decide_eq_true ap5_; have q152 : t150 < (l0.length : Int) := of_decide_eq_true ap5_; obtain ⟨ad152, e152, hx152_0, hx152_1⟩ := at_T55 HR0.out t150 p152 q152; obtain rfl : ad151 = ad152 := (by injection e152); replace p152 := eq_true p152; replace q152 := eq_true q152))
    go_ret2
    exact ⟨ap4_, ap7_⟩
   ·rw [if_neg c6] at H
    have c6b0 : (((rd_T55 l0 t150).f0).toList == a1.toList) = false := beq_eq_false_iff_ne.mpr c6
    have c6b1 : (((rd_T55 l0 t150).f0).toList != a1.toList) = true := bne_iff_ne.mpr c6
    simp only [Option.some.injEq, Prod.mk.injEq] at H
    obtain ⟨rfl, rfl⟩ := H
    go_enter Tryz.func35, Tryz.ntmps35
    go_wp2_with (first | ((with_reducible refine gate_callee (f := 51) rfl ?_); refine gk_ (some 9) Tryz.func51 #[.slice A0 l0.length c0, .string a1] ?_; (with_reducible refine (footbridgeref09_at.calls k _ _ l0 a1 t150 _ ?side1 ?side2 A3.out).mono ?_); (case side1 => repeat (first | exact HR0.out | (with_reducible refine Kd.C_alloc ?_ _) | (with_reducible refine Kd.C_drewN ?_ _) | (with_reducible refine Kd.C_drew ?_))); (case side2 => exact HC0.out); rintro e w' ⟨rfl, ⟨nd, rfl⟩⟩; refine ⟨_, rfl, ?_⟩; have p151 : 0 ≤ (t150 : Int) := of_decide_eq_true ap5_; have q151 : t150 < (l0.length : Int) := of_decide_eq_true ap5_; obtain ⟨ad151, e151, hx151_0, hx151_1⟩ := at_T55 HR0.out t150 p151 q151; cases e151; replace p151 := eq_true p151; replace q151 := eq_true q151))
    go_ret2
    exact ⟨ap4_, ap7_⟩
  ·rw [if_neg c5] at H
   exact absurd H (by simp)
 ·rw [if_neg c4] at H
  have c4b0 : decide (t150 < (l0.length : Int)) = false := decide_eq_false c4
  clear c4
  simp only [Option.some.injEq, Prod.mk.injEq] at H
  obtain ⟨rfl, rfl⟩ := H
  go_enter Tryz.func35, Tryz.ntmps35
  go_wp2_with (first | ((with_reducible refine gate_callee (f := 51) rfl ?_); refine gk_ (some 9) Tryz.func51 #[.slice A0 l0.length c0, .string a1] ?_; (with_reducible refine (footbridgeref09_at.calls k _ _ l0 a1 t150 _ ?side1 ?side2 A3.out).mono ?_); (case side1 => repeat (first | exact HR0.out | (with_reducible refine Kd.C_alloc ?_ _) | (with_reducible refine Kd.C_drewN ?_ _) | (with_reducible refine Kd.C_drew ?_))); (case side2 => exact HC0.out); rintro e w' ⟨rfl, ⟨nd, rfl⟩⟩; refine ⟨_, rfl, ?_⟩))
  go_ret2
  exact ⟨ap4_, ap7_⟩
mutual
def footbridgeref01_R_Num.j0 : Nat → Int → Bool → ByteArray → Int → Option (ByteArray × Int × Int)
 | 0, _, _, _, _ => none
 | k + 1, x4, x39, x154000, x154001 => if x39 = true then (some (x154000, 6, 0)) else (if (wrap64 ((x154000.size : Int) - 1)) < x4 then (some (x154000, 5, 0)) else (footbridgeref01_R_Num.l0 k x4 0 1 x154000 x154001))
def footbridgeref01_R_Num.l0 : Nat → Int → Int → Int → ByteArray → Int → Option (ByteArray × Int × Int)
 | 0, _, _, _, _, _ => none
 | k + 1, x4, x5, x6, x154000, x154001 => if x6 ≤ x4 then (if 0 ≤ x6 then (if x6 < (x154000.size : Int) then (footbridgeref01_R_Num.l0 k x4 (wrap64 ((wrap64 (x5 * 256)) + (wrap64 (bt x154000 x6)))) (wrap64 (x6 + 1)) x154000 x154001) else (none)) else (none)) else (if x5 > 9007199254740992 then (some (x154000, 3, 0)) else (if 0 ≤ (wrap64 (1 + x4)) then (if (wrap64 (1 + x4)) ≤ (x154000.size : Int) then (some (x154000.extract ((wrap64 (1 + x4)) : Int).toNat x154000.size, 0, x5)) else (none)) else (none)))
end
def footbridgeref01_R_Num.f (k : Nat) (a0_0 : ByteArray) (a0_1 : Int) : Option (ByteArray × Int × Int) := if a0_1 = 0 then (if a0_0.toList = ([] : List UInt8) then (some (a0_0, 5, 0)) else (if 0 < (a0_0.size : Int) then (if (wrap64 (bt a0_0 0)) > 7 then (some (a0_0, 6, 0)) else (if (wrap64 (bt a0_0 0)) > 0 then (if (a0_0.size : Int) > 1 then (if 1 < (a0_0.size : Int) then (footbridgeref01_R_Num.j0 k (wrap64 (bt a0_0 0)) ((bt a0_0 1) == 0) a0_0 a0_1) else (none)) else (footbridgeref01_R_Num.j0 k (wrap64 (bt a0_0 0)) false a0_0 a0_1)) else (footbridgeref01_R_Num.j0 k (wrap64 (bt a0_0 0)) false a0_0 a0_1))) else (none))) else (some (a0_0, a0_1, 0))
theorem footbridgeref01_R_Num.mono_l : ∀ k, (∀ y0 y1 y2 y3, LeO (footbridgeref01_R_Num.j0 k y0 y1 y2 y3) (footbridgeref01_R_Num.j0 (k + 1) y0 y1 y2 y3)) ∧ (∀ y0 y1 y2 y3 y4, LeO (footbridgeref01_R_Num.l0 k y0 y1 y2 y3 y4) (footbridgeref01_R_Num.l0 (k + 1) y0 y1 y2 y3 y4))
 | 0 => ⟨fun _ _ _ _ r h => by simp [footbridgeref01_R_Num.j0] at h, fun _ _ _ _ _ r h => by simp [footbridgeref01_R_Num.l0] at h⟩
 | k + 1 => by
  obtain ⟨ih0, ih1⟩ := footbridgeref01_R_Num.mono_l k
  refine ⟨?_, ?_⟩
  ·intro y0 y1 y2 y3
   unfold footbridgeref01_R_Num.j0
   repeat' first
   | (with_reducible exact ih0 _ _ _ _)
   | (with_reducible exact ih1 _ _ _ _ _)
   | (with_reducible exact LeO.refl _)
   | (with_reducible exact LeO.none _)
   | (with_reducible refine LeO.ite ?_ ?_)
   | (with_reducible refine LeO.bind ?_ (fun _ => ?_))
   | exact ih0 _ _ _ _
   | exact ih1 _ _ _ _ _
   | exact LeO.none _
   | refine LeO.ite ?_ ?_
   | refine LeO.bind ?_ (fun _ => ?_)
  ·intro y0 y1 y2 y3 y4
   unfold footbridgeref01_R_Num.l0
   repeat' first
   | (with_reducible exact ih0 _ _ _ _)
   | (with_reducible exact ih1 _ _ _ _ _)
   | (with_reducible exact LeO.refl _)
   | (with_reducible exact LeO.none _)
   | (with_reducible refine LeO.ite ?_ ?_)
   | (with_reducible refine LeO.bind ?_ (fun _ => ?_))
   | exact ih0 _ _ _ _
   | exact ih1 _ _ _ _ _
   | exact LeO.none _
   | refine LeO.ite ?_ ?_
   | refine LeO.bind ?_ (fun _ => ?_)
theorem footbridgeref01_R_Num.mono : ∀ a0 a1 k, LeO (footbridgeref01_R_Num.f k a0 a1) (footbridgeref01_R_Num.f (k + 1) a0 a1) := by
 intro a0 a1 k
 obtain ⟨ih0, ih1⟩ := footbridgeref01_R_Num.mono_l k
 unfold footbridgeref01_R_Num.f
 repeat' first
   | (with_reducible exact ih0 _ _ _ _)
   | (with_reducible exact ih1 _ _ _ _ _)
   | (with_reducible exact LeO.refl _)
   | (with_reducible exact LeO.none _)
   | (with_reducible refine LeO.ite ?_ ?_)
   | (with_reducible refine LeO.bind ?_ (fun _ => ?_))
   | exact ih0 _ _ _ _
   | exact ih1 _ _ _ _ _
   | exact LeO.none _
   | refine LeO.ite ?_ ?_
   | refine LeO.bind ?_ (fun _ => ?_)
theorem footbridgeref01_R_Num.calls (k : Nat) (a0_0 : ByteArray) (a0_1 : Int) (r1 : ByteArray) (r2 : Int) (r3 : Int) (w : World) (h : footbridgeref01_R_Num.f k a0_0 a0_1 = some (r1, r2, r3)) :
  Calls Tryz.prog 36 #[.agg #[.string a0_0, .int .i64 a0_1]] w fun e w' => e = .returned (.tuple #[.agg #[.string r1, .int .i64 r2], .int .i64 r3]) ∧ Below w.heap.size w w' := by
 have hu76 := Tryz.underlying76
 have HB := As_ (Below.refl w.heap.size w)
 have H : (if a0_1 = 0 then (if a0_0.toList = ([] : List UInt8) then (some (a0_0, 5, 0)) else (if 0 < (a0_0.size : Int) then (if (wrap64 (bt a0_0 0)) > 7 then (some (a0_0, 6, 0)) else (if (wrap64 (bt a0_0 0)) > 0 then (if (a0_0.size : Int) > 1 then (if 1 < (a0_0.size : Int) then (footbridgeref01_R_Num.j0 k (wrap64 (bt a0_0 0)) ((bt a0_0 1) == 0) a0_0 a0_1) else (none)) else (footbridgeref01_R_Num.j0 k (wrap64 (bt a0_0 0)) false a0_0 a0_1)) else (footbridgeref01_R_Num.j0 k (wrap64 (bt a0_0 0)) false a0_0 a0_1))) else (none))) else (some (a0_0, a0_1, 0))) = some (r1, r2, r3) := h
 clear h
 by_cases c2 : a0_1 = 0
 ·rw [if_pos c2] at H
  have c2b0 : (a0_1 == 0) = true := beq_iff_eq.mpr c2
  have c2b1 : (a0_1 != 0) = false := bne_eq_false_iff_eq.mpr c2
  clear c2
  by_cases c3 : a0_0.toList = ([] : List UInt8)
  ·rw [if_pos c3] at H
   have c3b0 : (a0_0.toList == ([] : List UInt8)) = true := beq_iff_eq.mpr c3
   have c3b1 : (a0_0.toList != ([] : List UInt8)) = false := bne_eq_false_iff_eq.mpr c3
   clear c3
   simp only [Option.some.injEq, Prod.mk.injEq] at H
   obtain ⟨rfl, rfl, rfl⟩ := H
   go_enter Tryz.func36, Tryz.ntmps36
   go_wp2_with (first | ((with_reducible refine gate_dst (N := 1) rfl ?_); (try (refine gate_guard (by rfl) ?_; dsimp only)); refine bxE (N := 1) (cs := #[.string a0_0, .int .i64 a0_1]) (t := 76) ?_; intro gb153 hg w4 hbox hb; have BK153 := As_ (hbox); have GW153 := As_ ((by rw [hg]; exact (below_size ap28_) : w.heap.size ≤ gb153)); have GE153 := As_ ((by rw [hg]; exact (below_size ap28_) : w.heap.size ≤ gb153)); replace HB := As_ (below_step ap28_ hb); clear hb hbox hg) | ((with_reducible refine gate_dst (N := 2) rfl ?_); (try (refine gate_guard (by rfl) ?_; dsimp only)); refine bxE (N := 2) (cs := #[.string ⟨#[]⟩, .int .i64 0]) (t := 76) ?_; intro gb154 hg w5 hbox hb; have BK154 := As_ (hbox); have GW154 := As_ ((by rw [hg]; exact (below_size ap35_) : w.heap.size ≤ gb154)); have GE154 := As_ ((by rw [hg]; exact (below_size ap35_) : w.heap.size ≤ gb154)); replace HB := As_ (below_step ap35_ hb); have NB153_154 := As_ ((by rw [hg]; exact Nat.ne_of_lt (blk_lt (g := gb153) (o := .cells #[.string a0_0, .int .i64 a0_1] 76 (0, 0)) ap26_) : gb153 ≠ gb154)); have NB154_153 := As_ ((by rw [hg]; exact Nat.ne_of_gt (blk_lt (g := gb153) (o := .cells #[.string a0_0, .int .i64 a0_1] 76 (0, 0)) ap26_) : gb154 ≠ gb153)); replace BK153 := As_ (blk_below (g := gb153) (o := .cells #[.string a0_0, .int .i64 a0_1] 76 (0, 0)) ap26_ hb); clear hb hbox hg; have hnb6 := NB153_154.out; have hnc6 := NB154_153.out; obtain ⟨hcz7_0, hfz7_0, hcz7_1, hfz7_1⟩ := clN2 BK153.out; obtain ⟨hcz8_0, hfz8_0, hcz8_1, hfz8_1⟩ := clN2 BK154.out))
   refine bodyPost_ret (results_ct rfl _ _ gb154 76 #[.string a0_0, .int .i64 5] (0, 0) _ rfl ap44_ Tryz.underlying76 rfl (by kernel_rfl)) rfl ?_
   exact ⟨ap14_, ap40_⟩
  ·rw [if_neg c3] at H
   have c3b0 : (a0_0.toList == ([] : List UInt8)) = false := beq_eq_false_iff_ne.mpr c3
   have c3b1 : (a0_0.toList != ([] : List UInt8)) = true := bne_iff_ne.mpr c3
   by_cases c9 : 0 < (a0_0.size : Int)
   ·rw [if_pos c9] at H
    have c9b0 : decide (0 < (a0_0.size : Int)) = true := decide_eq_true c9
    have c9b1 : decide (0 < a0_0.size) = true := decide_eq_true (by omega)
    clear c9
    by_cases c11 : (wrap64 (bt a0_0 0)) > 7
    ·rw [if_pos c11] at H
     have c11b0 : decide (7 < (wrap64 (bt a0_0 0))) = true := decide_eq_true c11
     clear c11
     simp only [Option.some.injEq, Prod.mk.injEq] at H
     obtain ⟨rfl, rfl, rfl⟩ := H
     go_enter Tryz.func36, Tryz.ntmps36
     go_wp2_with (first | ((with_reducible refine gate_dst (N := 1) rfl ?_); (try (refine gate_guard (by rfl) ?_; dsimp only)); refine bxE (N := 1) (cs := #[.string a0_0, .int .i64 a0_1]) (t := 76) ?_; intro gb153 hg w12 hbox hb; have BK153 := As_ (hbox); have GW153 := As_ ((by rw [hg]; exact (below_size ap28_) : w.heap.size ≤ gb153)); have GE153 := As_ ((by rw [hg]; exact (below_size ap28_) : w.heap.size ≤ gb153)); replace HB := As_ (below_step ap28_ hb); clear hb hbox hg) | ((with_reducible refine gate_dst (N := 2) rfl ?_); (try (refine gate_guard (by rfl) ?_; dsimp only)); refine bxE (N := 2) (cs := #[.string ⟨#[]⟩, .int .i64 0]) (t := 76) ?_; intro gb154 hg w13 hbox hb; have BK154 := As_ (hbox); have GW154 := As_ ((by rw [hg]; exact (below_size ap35_) : w.heap.size ≤ gb154)); have GE154 := As_ ((by rw [hg]; exact (below_size ap35_) : w.heap.size ≤ gb154)); replace HB := As_ (below_step ap35_ hb); have NB153_154 := As_ ((by rw [hg]; exact Nat.ne_of_lt (blk_lt (g := gb153) (o := .cells #[.string a0_0, .int .i64 a0_1] 76 (0, 0)) ap26_) : gb153 ≠ gb154)); have NB154_153 := As_ ((by rw [hg]; exact Nat.ne_of_gt (blk_lt (g := gb153) (o := .cells #[.string a0_0, .int .i64 a0_1] 76 (0, 0)) ap26_) : gb154 ≠ gb153)); replace BK153 := As_ (blk_below (g := gb153) (o := .cells #[.string a0_0, .int .i64 a0_1] 76 (0, 0)) ap26_ hb); clear hb hbox hg; have hnb14 := NB153_154.out; have hnc14 := NB154_153.out; obtain ⟨hcz15_0, hfz15_0, hcz15_1, hfz15_1⟩ := clN2 BK153.out; have p10 : 0 ≤ (0 : Int) := (by omega); have q10 : 0 < a0_0.size := (by have : (0 : Int) < (a0_0.size : Int) := of_decide_eq_true ap5_; omega); have hx10 : ∀ h : 0 < a0_0.size, ((a0_0[0]'h).toNat : Int) = bt a0_0 0 := bt_at a0_0 0; clear p10; have qi10 : (0 < (a0_0.size : Int)) = True := eq_true (of_decide_eq_true ap5_); replace q10 := eq_true q10; obtain ⟨hcz16_0, hfz16_0, hcz16_1, hfz16_1⟩ := clN2 BK154.out))
     refine bodyPost_ret (results_ct rfl _ _ gb154 76 #[.string a0_0, .int .i64 6] (0, 0) _ rfl ap44_ Tryz.underlying76 rfl (by kernel_rfl)) rfl ?_
     exact ⟨ap14_, ap40_⟩
    ·rw [if_neg c11] at H
     have c11b0 : decide (7 < (wrap64 (bt a0_0 0))) = false := decide_eq_false c11
     clear c11
     have HC17 := As_ H
     clear H
     go_enter Tryz.func36, Tryz.ntmps36
     go_upto_region 8 with (first | ((with_reducible refine gate_dst (N := 1) rfl ?_); (try (refine gate_guard (by rfl) ?_; dsimp only)); refine bxE (N := 1) (cs := #[.string a0_0, .int .i64 a0_1]) (t := 76) ?_; intro gb153 hg w18 hbox hb; have BK153 := As_ (hbox); have GW153 := As_ ((by rw [hg]; exact (below_size ap28_) : w.heap.size ≤ gb153)); have GE153 := As_ ((by rw [hg]; exact (below_size ap28_) : w.heap.size ≤ gb153)); replace HB := As_ (below_step ap28_ hb); clear hb hbox hg) | ((with_reducible refine gate_dst (N := 2) rfl ?_); (try (refine gate_guard (by rfl) ?_; dsimp only)); refine bxE (N := 2) (cs := #[.string ⟨#[]⟩, .int .i64 0]) (t := 76) ?_; intro gb154 hg w19 hbox hb; have BK154 := As_ (hbox); have GW154 := As_ ((by rw [hg]; exact (below_size ap35_) : w.heap.size ≤ gb154)); have GE154 := As_ ((by rw [hg]; exact (below_size ap35_) : w.heap.size ≤ gb154)); replace HB := As_ (below_step ap35_ hb); have NB153_154 := As_ ((by rw [hg]; exact Nat.ne_of_lt (blk_lt (g := gb153) (o := .cells #[.string a0_0, .int .i64 a0_1] 76 (0, 0)) ap26_) : gb153 ≠ gb154)); have NB154_153 := As_ ((by rw [hg]; exact Nat.ne_of_gt (blk_lt (g := gb153) (o := .cells #[.string a0_0, .int .i64 a0_1] 76 (0, 0)) ap26_) : gb154 ≠ gb153)); replace BK153 := As_ (blk_below (g := gb153) (o := .cells #[.string a0_0, .int .i64 a0_1] 76 (0, 0)) ap26_ hb); clear hb hbox hg; have hnb20 := NB153_154.out; have hnc20 := NB154_153.out; obtain ⟨hcz21_0, hfz21_0, hcz21_1, hfz21_1⟩ := clN2 BK153.out; have p10 : 0 ≤ (0 : Int) := (by omega); have q10 : 0 < a0_0.size := (by have : (0 : Int) < (a0_0.size : Int) := of_decide_eq_true ap5_; omega); have hx10 : ∀ h : 0 < a0_0.size, ((a0_0[0]'h).toNat : Int) = bt a0_0 0 := bt_at a0_0 0; clear p10; have qi10 : (0 < (a0_0.size : Int)) = True := eq_true (of_decide_eq_true ap5_); replace q10 := eq_true q10))
     (try simp only [Act.put, List.setIfInBounds_toArray, List.set_cons_zero, List.set_cons_succ])
     go_cut [39] (fun v39 wc => ∃ (kq : Nat) (x39_16 : Bool), v39 = .bool x39_16 ∧ Aside0 (footbridgeref01_R_Num.j0 kq (wrap64 (bt a0_0 0)) x39_16 a0_0 a0_1 = some (r1, r2, r3)) ∧ Aside0 (kq ≤ k) ∧ Aside0 (wc.heap[gb153]? = some (.cells #[.string a0_0, .int .i64 a0_1] 76 (0, 0))) ∧ Aside0 (wc.heap[gb154]? = some (.cells #[.string ⟨#[]⟩, .int .i64 0] 76 (0, 0))) ∧ Aside0 (Below w.heap.size w wc))
     case first =>
      have H := HC17.out
      clear HC17
      by_cases c22 : (wrap64 (bt a0_0 0)) > 0
      ·rw [if_pos c22] at H
       have c22b0 : decide (0 < (wrap64 (bt a0_0 0))) = true := decide_eq_true c22
       clear c22
       (first | rw [c22b0] | (simp only [i64_w, i32_w]; rw [c22b0]) | skip)
       by_cases c23 : (a0_0.size : Int) > 1
       ·rw [if_pos c23] at H
        have c23b0 : decide (1 < (a0_0.size : Int)) = true := decide_eq_true c23
        have c23b1 : decide (1 < a0_0.size) = true := decide_eq_true (by omega)
        clear c23
        by_cases c24 : 1 < (a0_0.size : Int)
        ·rw [if_pos c24] at H
         have c24b0 : decide (1 < (a0_0.size : Int)) = true := decide_eq_true c24
         have c24b1 : decide (1 < a0_0.size) = true := decide_eq_true (by omega)
         clear c24
         have H' := As_ H
         clear H
         have hnb26 := NB153_154.out
         have hnc26 := NB154_153.out
         obtain ⟨hcz27_0, hfz27_0, hcz27_1, hfz27_1⟩ := clN2 BK153.out
         have p25 : 0 ≤ (1 : Int) := (by omega)
         have q25 : 1 < a0_0.size := (by have : (1 : Int) < (a0_0.size : Int) := of_decide_eq_true ap5_; omega)
         have hx25 : ∀ h : 1 < a0_0.size, ((a0_0[1]'h).toNat : Int) = bt a0_0 1 := bt_at a0_0 1
         clear p25
         have qi25 : (1 < (a0_0.size : Int)) = True := eq_true (of_decide_eq_true ap5_)
         replace q25 := eq_true q25
         go_wp2
         go_meet
         case rel => exact ⟨_, (((bt a0_0 1) == 0)), ap4_, H', ⟨ap1_⟩, ⟨ap26_⟩, ⟨ap27_⟩, ⟨ap40_⟩⟩
        ·rw [if_neg c24] at H
         exact absurd H (by simp)
       ·rw [if_neg c23] at H
        have c23b0 : decide (1 < (a0_0.size : Int)) = false := decide_eq_false c23
        have c23b1 : decide (1 < a0_0.size) = false := decide_eq_false (by omega)
        clear c23
        have H' := As_ H
        clear H
        have hnb28 := NB153_154.out
        have hnc28 := NB154_153.out
        obtain ⟨hcz29_0, hfz29_0, hcz29_1, hfz29_1⟩ := clN2 BK153.out
        go_wp2
        go_meet
        case rel => exact ⟨_, (false), ap4_, H', ⟨ap1_⟩, ⟨ap26_⟩, ⟨ap27_⟩, ⟨ap40_⟩⟩
      ·rw [if_neg c22] at H
       have c22b0 : decide (0 < (wrap64 (bt a0_0 0))) = false := decide_eq_false c22
       clear c22
       (first | rw [c22b0] | (simp only [i64_w, i32_w]; rw [c22b0]) | skip)
       have H' := As_ H
       clear H
       go_wp2
       go_meet
       case rel => exact ⟨_, (false), ap4_, H', ⟨ap1_⟩, ⟨ap26_⟩, ⟨ap27_⟩, ⟨ap40_⟩⟩
     case rest =>
      clear HC17
      try clear c2
      try clear c2b0
      try clear c2b1
      try clear c3
      try clear c3b0
      try clear c3b1
      try clear c9
      try clear c9b0
      try clear c9b1
      try clear p10
      try clear q10
      try clear hx10
      try clear qi10
      try clear c11
      try clear c11b0
      try clear hcz21_0
      try clear hcz21_1
      try clear hfz21_0
      try clear hfz21_1
      try clear p10
      try clear q10
      obtain ⟨kq, x39_16, rfl, HA, HJ16, BK153, BK154, HB⟩ := hcut
      cases kq with
      | zero => exact absurd HA.out (by simp [footbridgeref01_R_Num.j0])
      | succ kj16 =>
       have H := HA.out
       clear HA
       simp only [footbridgeref01_R_Num.j0] at H
       by_cases c30 : x39_16 = true
       ·subst c30
        have H1 : (some (a0_0, 6, 0)) = some (r1, r2, r3) := by rw [if_pos rfl] at H; exact H
        clear H
        have H := H1
        clear H1
        simp only [Option.some.injEq, Prod.mk.injEq] at H
        obtain ⟨rfl, rfl, rfl⟩ := H
        have hnb31 := NB153_154.out
        have hnc31 := NB154_153.out
        obtain ⟨hcz32_0, hfz32_0, hcz32_1, hfz32_1⟩ := clN2 BK153.out
        obtain ⟨hcz33_0, hfz33_0, hcz33_1, hfz33_1⟩ := clN2 BK154.out
        go_wp2
        refine bodyPost_ret (results_ct rfl _ _ gb154 76 #[.string a0_0, .int .i64 6] (0, 0) _ rfl ap44_ Tryz.underlying76 rfl (by kernel_rfl)) rfl ?_
        exact ⟨ap14_, ap40_⟩
       ·replace c30 := Bool.eq_false_iff.mpr c30
        subst c30
        have H1 : (if (wrap64 ((a0_0.size : Int) - 1)) < (wrap64 (bt a0_0 0)) then (some (a0_0, 5, 0)) else (footbridgeref01_R_Num.l0 kj16 (wrap64 (bt a0_0 0)) 0 1 a0_0 a0_1)) = some (r1, r2, r3) := by rw [if_neg (show ¬ (false = true) by decide)] at H; exact H
        clear H
        have H := H1
        clear H1
        by_cases c34 : (wrap64 ((a0_0.size : Int) - 1)) < (wrap64 (bt a0_0 0))
        ·rw [if_pos c34] at H
         have c34b0 : decide ((wrap64 ((a0_0.size : Int) - 1)) < (wrap64 (bt a0_0 0))) = true := decide_eq_true c34
         clear c34
         simp only [Option.some.injEq, Prod.mk.injEq] at H
         obtain ⟨rfl, rfl, rfl⟩ := H
         have hnb35 := NB153_154.out
         have hnc35 := NB154_153.out
         obtain ⟨hcz36_0, hfz36_0, hcz36_1, hfz36_1⟩ := clN2 BK153.out
         obtain ⟨hcz37_0, hfz37_0, hcz37_1, hfz37_1⟩ := clN2 BK154.out
         go_wp2
         refine bodyPost_ret (results_ct rfl _ _ gb154 76 #[.string a0_0, .int .i64 5] (0, 0) _ rfl ap44_ Tryz.underlying76 rfl (by kernel_rfl)) rfl ?_
         exact ⟨ap14_, ap40_⟩
        ·rw [if_neg c34] at H
         have c34b0 : decide ((wrap64 ((a0_0.size : Int) - 1)) < (wrap64 (bt a0_0 0))) = false := decide_eq_false c34
         clear c34
         have H' := As_ H
         clear H
         have hnb38 := NB153_154.out
         have hnc38 := NB154_153.out
         obtain ⟨hcz39_0, hfz39_0, hcz39_1, hfz39_1⟩ := clN2 BK153.out
         go_wp2
         go_loopg [5, 6] kj16 (fun kq v5 v6 w' => ∃ (x5_2 : Int) (x6_2 : Int), v5 = .int .i64 x5_2 ∧ v6 = .int .i64 x6_2 ∧ Aside0 (footbridgeref01_R_Num.l0 kq (wrap64 (bt a0_0 0)) x5_2 x6_2 a0_0 a0_1 = some (r1, r2, r3)) ∧ Aside0 (kq ≤ kj16) ∧ Aside0 (w'.heap[gb153]? = some (.cells #[.string a0_0, .int .i64 a0_1] 76 (0, 0))) ∧ Aside0 (w'.heap[gb154]? = some (.cells #[.string ⟨#[]⟩, .int .i64 0] 76 (0, 0))) ∧ Aside0 (Below w.heap.size w w'))
         case atStart => exact ⟨(0), (1), ap4_, ap4_, H', ⟨Nat.le_refl _⟩, ⟨ap26_⟩, ⟨ap27_⟩, ⟨ap40_⟩⟩
         case round =>
          clear H'
          try clear c2
          try clear c2b0
          try clear c2b1
          try clear c3
          try clear c3b0
          try clear c3b1
          try clear c9
          try clear c9b0
          try clear c9b1
          try clear p10
          try clear q10
          try clear hx10
          try clear qi10
          try clear c11
          try clear c11b0
          try clear c30
          try clear c34
          try clear c34b0
          try clear hcz21_0
          try clear hcz21_1
          try clear hcz39_0
          try clear hcz39_1
          try clear hfz21_0
          try clear hfz21_1
          try clear hfz39_0
          try clear hfz39_1
          try clear p10
          try clear q10
          obtain ⟨x5_2, x6_2, rfl, rfl, HA, HK2, BK153, BK154, HB⟩ := hrel
          cases gk with
          | zero => exact absurd HA.out (by simp [footbridgeref01_R_Num.l0])
          | succ k2 =>
           have H := HA.out
           clear HA
           simp only [footbridgeref01_R_Num.l0] at H
           by_cases c40 : x6_2 ≤ (wrap64 (bt a0_0 0))
           ·rw [if_pos c40] at H
            have c40b0 : decide (x6_2 ≤ (wrap64 (bt a0_0 0))) = true := decide_eq_true c40
            clear c40
            by_cases c41 : 0 ≤ x6_2
            ·rw [if_pos c41] at H
             have c41b0 : decide (0 ≤ x6_2) = true := decide_eq_true c41
             clear c41
             by_cases c42 : x6_2 < (a0_0.size : Int)
             ·rw [if_pos c42] at H
              have c42b0 : decide (x6_2 < (a0_0.size : Int)) = true := decide_eq_true c42
              clear c42
              have H' := As_ H
              clear H
              have hnb44 := NB153_154.out
              have hnc44 := NB154_153.out
              obtain ⟨hcz45_0, hfz45_0, hcz45_1, hfz45_1⟩ := clN2 BK153.out
              have p43 : 0 ≤ (x6_2 : Int) := of_decide_eq_true ap5_
              have q43 : x6_2 < (a0_0.size : Int) := of_decide_eq_true ap5_
              have hx43 := bt_at a0_0 x6_2
              replace p43 := eq_true p43
              replace q43 := eq_true q43
              go_wp2
              go_roundg k2
              case measure => have := HJ16.out; have := HK2.out; omega
              case rel => exact ⟨(wrap64 ((wrap64 (x5_2 * 256)) + (wrap64 (bt a0_0 x6_2)))), (wrap64 (x6_2 + 1)), ap4_, ap4_, H', ⟨by have := HJ16.out; have := HK2.out; omega⟩, ⟨ap26_⟩, ⟨ap27_⟩, ⟨ap40_⟩⟩
             ·rw [if_neg c42] at H
              exact absurd H (by simp)
            ·rw [if_neg c41] at H
             exact absurd H (by simp)
           ·rw [if_neg c40] at H
            have c40b0 : decide (x6_2 ≤ (wrap64 (bt a0_0 0))) = false := decide_eq_false c40
            clear c40
            by_cases c46 : x5_2 > 9007199254740992
            ·rw [if_pos c46] at H
             have c46b0 : decide (9007199254740992 < x5_2) = true := decide_eq_true c46
             clear c46
             simp only [Option.some.injEq, Prod.mk.injEq] at H
             obtain ⟨rfl, rfl, rfl⟩ := H
             have hnb47 := NB153_154.out
             have hnc47 := NB154_153.out
             obtain ⟨hcz48_0, hfz48_0, hcz48_1, hfz48_1⟩ := clN2 BK153.out
             obtain ⟨hcz49_0, hfz49_0, hcz49_1, hfz49_1⟩ := clN2 BK154.out
             go_wp2
             refine bodyPost_ret (results_ct rfl _ _ gb154 76 #[.string a0_0, .int .i64 3] (0, 0) _ rfl ap44_ Tryz.underlying76 rfl (by kernel_rfl)) rfl ?_
             exact ⟨ap14_, ap40_⟩
            ·rw [if_neg c46] at H
             have c46b0 : decide (9007199254740992 < x5_2) = false := decide_eq_false c46
             clear c46
             obtain ⟨ji50, hji50⟩ : ∃ j_ : Int, (wrap64 (1 + (wrap64 (bt a0_0 0)))) = j_ := ⟨_, rfl⟩
             replace H : (if 0 ≤ (ji50) then (if (ji50) ≤ (a0_0.size : Int) then (some (a0_0.extract ((ji50) : Int).toNat a0_0.size, 0, x5_2)) else (none)) else (none)) = some (r1, r2, r3) := by first | (rw [hji50] at H; exact H) | (simp only [hji50] at H ⊢; exact H)
             have hji50w : (IntKind.i64.wrap (1 + (wrap64 (bt a0_0 0)))) = ji50 := (i64_w _).trans hji50
             by_cases c51 : 0 ≤ (ji50)
             ·rw [if_pos c51] at H
              have c51b0 := eq_true c51
              have c51b1 : decide (0 ≤ (ji50)) = true := decide_eq_true c51
              clear c51
              by_cases c52 : (ji50) ≤ (a0_0.size : Int)
              ·rw [if_pos c52] at H
               have c52b0 := eq_true c52
               have c52b1 : decide ((ji50) ≤ (a0_0.size : Int)) = true := decide_eq_true c52
               clear c52
               simp only [Option.some.injEq, Prod.mk.injEq] at H
               obtain ⟨rfl, rfl, rfl⟩ := H
               have hnb53 := NB153_154.out
               have hnc53 := NB154_153.out
               obtain ⟨hcz54_0, hfz54_0, hcz54_1, hfz54_1⟩ := clN2 BK153.out
               obtain ⟨hcz55_0, hfz55_0, hcz55_1, hfz55_1⟩ := clN2 BK154.out
               go_wp2
               refine bodyPost_ret (results_ct rfl _ _ gb154 76 #[.string (a0_0.extract ((ji50) : Int).toNat a0_0.size), .int .i64 0] (0, 0) _ rfl (by (with_reducible repeat (first | refine blk_drewN ?_ _ | refine blk_drew ?_ | refine blk_alloc ?_ _)); refine blk_put (cs := #[.string (a0_0.extract ((ji50) : Int).toNat a0_0.size), .int .i64 0]) ?_ 1 _ rfl; (with_reducible repeat (first | refine blk_drewN ?_ _ | refine blk_drew ?_ | refine blk_alloc ?_ _)); refine blk_put (cs := #[.string ⟨#[]⟩, .int .i64 0]) ?_ 0 _ rfl; (with_reducible repeat (first | refine blk_drewN ?_ _ | refine blk_drew ?_ | refine blk_alloc ?_ _)); exact BK154.out) Tryz.underlying76 rfl (by kernel_rfl)) rfl ?_
               exact ⟨by first | rfl | (simp [errW_none, errW_some] <;> rfl) | (simp only [← hji50]; first | rfl | (simp [errW_none, errW_some] <;> rfl)) | (simp [*, errW_none, errW_some] <;> rfl), ap40_⟩
              ·rw [if_neg c52] at H
               exact absurd H (by simp)
             ·rw [if_neg c51] at H
              exact absurd H (by simp)
   ·rw [if_neg c9] at H
    exact absurd H (by simp)
 ·rw [if_neg c2] at H
  have c2b0 : (a0_1 == 0) = false := beq_eq_false_iff_ne.mpr c2
  have c2b1 : (a0_1 != 0) = true := bne_iff_ne.mpr c2
  simp only [Option.some.injEq, Prod.mk.injEq] at H
  obtain ⟨rfl, rfl, rfl⟩ := H
  go_enter Tryz.func36, Tryz.ntmps36
  go_wp2_with (first | ((with_reducible refine gate_dst (N := 1) rfl ?_); (try (refine gate_guard (by rfl) ?_; dsimp only)); refine bxE (N := 1) (cs := #[.string a0_0, .int .i64 a0_1]) (t := 76) ?_; intro gb153 hg w56 hbox hb; have BK153 := As_ (hbox); have GW153 := As_ ((by rw [hg]; exact (below_size ap28_) : w.heap.size ≤ gb153)); have GE153 := As_ ((by rw [hg]; exact (below_size ap28_) : w.heap.size ≤ gb153)); replace HB := As_ (below_step ap28_ hb); clear hb hbox hg) | ((with_reducible refine gate_dst (N := 2) rfl ?_); (try (refine gate_guard (by rfl) ?_; dsimp only)); refine bxE (N := 2) (cs := #[.string ⟨#[]⟩, .int .i64 0]) (t := 76) ?_; intro gb154 hg w57 hbox hb; have BK154 := As_ (hbox); have GW154 := As_ ((by rw [hg]; exact (below_size ap35_) : w.heap.size ≤ gb154)); have GE154 := As_ ((by rw [hg]; exact (below_size ap35_) : w.heap.size ≤ gb154)); replace HB := As_ (below_step ap35_ hb); have NB153_154 := As_ ((by rw [hg]; exact Nat.ne_of_lt (blk_lt (g := gb153) (o := .cells #[.string a0_0, .int .i64 a0_1] 76 (0, 0)) ap26_) : gb153 ≠ gb154)); have NB154_153 := As_ ((by rw [hg]; exact Nat.ne_of_gt (blk_lt (g := gb153) (o := .cells #[.string a0_0, .int .i64 a0_1] 76 (0, 0)) ap26_) : gb154 ≠ gb153)); replace BK153 := As_ (blk_below (g := gb153) (o := .cells #[.string a0_0, .int .i64 a0_1] 76 (0, 0)) ap26_ hb); clear hb hbox hg; have hnb58 := NB153_154.out; have hnc58 := NB154_153.out; obtain ⟨hcz59_0, hfz59_0, hcz59_1, hfz59_1⟩ := clN2 BK153.out; obtain ⟨hcz60_0, hfz60_0, hcz60_1, hfz60_1⟩ := clN2 BK154.out))
  refine bodyPost_ret (results_ct rfl _ _ gb154 76 #[.string a0_0, .int .i64 a0_1] (0, 0) _ rfl ap44_ Tryz.underlying76 rfl (by kernel_rfl)) rfl ?_
  exact ⟨ap14_, ap40_⟩
def footbridgeref01_R_Done.f (a0_0 : ByteArray) (a0_1 : Int) : Option (Int) := if a0_1 = 0 then (if a0_0.toList = ([] : List UInt8) then (some a0_1) else (some 6)) else (some a0_1)
theorem footbridgeref01_R_Done.calls (a0_0 : ByteArray) (a0_1 : Int) (r : Int) (w : World) (h : footbridgeref01_R_Done.f a0_0 a0_1 = some r) :
  Calls Tryz.prog 37 #[.agg #[.string a0_0, .int .i64 a0_1]] w fun e w' => e = .returned (.int .i64 r) ∧ Below w.heap.size w w' := by
 have hu76 := Tryz.underlying76
 have HB := As_ (Below.refl w.heap.size w)
 have H : (if a0_1 = 0 then (if a0_0.toList = ([] : List UInt8) then (some a0_1) else (some 6)) else (some a0_1)) = some r := h
 clear h
 by_cases c2 : a0_1 = 0
 ·rw [if_pos c2] at H
  have c2b0 : (a0_1 == 0) = true := beq_iff_eq.mpr c2
  have c2b1 : (a0_1 != 0) = false := bne_eq_false_iff_eq.mpr c2
  clear c2
  by_cases c3 : a0_0.toList = ([] : List UInt8)
  ·rw [if_pos c3] at H
   have c3b0 : (a0_0.toList == ([] : List UInt8)) = true := beq_iff_eq.mpr c3
   have c3b1 : (a0_0.toList != ([] : List UInt8)) = false := bne_eq_false_iff_eq.mpr c3
   clear c3
   obtain rfl := Option.some.inj H
   go_enter Tryz.func37, Tryz.ntmps37
   go_wp2_with (first | ((with_reducible refine gate_dst (N := 1) rfl ?_); refine bxE (N := 1) (cs := #[.string a0_0, .int .i64 a0_1]) (t := 76) ?_; intro gb155 hg w4 hbox hb; have BK155 := As_ (hbox); have GW155 := As_ ((by rw [hg]; exact (below_size ap28_) : w.heap.size ≤ gb155)); have GE155 := As_ ((by rw [hg]; exact (below_size ap28_) : w.heap.size ≤ gb155)); replace HB := As_ (below_step ap28_ hb); clear hb hbox hg; obtain ⟨hcz5_0, hfz5_0, hcz5_1, hfz5_1⟩ := clN2 BK155.out))
   go_ret
   exact ⟨ap14_, ap37_⟩
  ·rw [if_neg c3] at H
   have c3b0 : (a0_0.toList == ([] : List UInt8)) = false := beq_eq_false_iff_ne.mpr c3
   have c3b1 : (a0_0.toList != ([] : List UInt8)) = true := bne_iff_ne.mpr c3
   obtain rfl := Option.some.inj H
   go_enter Tryz.func37, Tryz.ntmps37
   go_wp2_with (first | ((with_reducible refine gate_dst (N := 1) rfl ?_); refine bxE (N := 1) (cs := #[.string a0_0, .int .i64 a0_1]) (t := 76) ?_; intro gb155 hg w6 hbox hb; have BK155 := As_ (hbox); have GW155 := As_ ((by rw [hg]; exact (below_size ap28_) : w.heap.size ≤ gb155)); have GE155 := As_ ((by rw [hg]; exact (below_size ap28_) : w.heap.size ≤ gb155)); replace HB := As_ (below_step ap28_ hb); clear hb hbox hg; obtain ⟨hcz7_0, hfz7_0, hcz7_1, hfz7_1⟩ := clN2 BK155.out))
   go_ret
   exact ⟨ap14_, ap37_⟩
 ·rw [if_neg c2] at H
  have c2b0 : (a0_1 == 0) = false := beq_eq_false_iff_ne.mpr c2
  have c2b1 : (a0_1 != 0) = true := bne_iff_ne.mpr c2
  obtain rfl := Option.some.inj H
  go_enter Tryz.func37, Tryz.ntmps37
  go_wp2_with (first | ((with_reducible refine gate_dst (N := 1) rfl ?_); refine bxE (N := 1) (cs := #[.string a0_0, .int .i64 a0_1]) (t := 76) ?_; intro gb155 hg w8 hbox hb; have BK155 := As_ (hbox); have GW155 := As_ ((by rw [hg]; exact (below_size ap28_) : w.heap.size ≤ gb155)); have GE155 := As_ ((by rw [hg]; exact (below_size ap28_) : w.heap.size ≤ gb155)); replace HB := As_ (below_step ap28_ hb); clear hb hbox hg; obtain ⟨hcz9_0, hfz9_0, hcz9_1, hfz9_1⟩ := clN2 BK155.out))
  go_ret
  exact ⟨ap14_, ap37_⟩
def footbridgeref49_two.f (k : Nat) (l0 : List (S55)) (a1 : ByteArray) (a2 : ByteArray) : Option (Int × Int × Bool) := (footbridgeref14_Key.f k (([a1, a2] : List ByteArray))).bind fun t159 => ((footbridgeref09_Get.f k l0 t159).bind fun bt160 => ((footbridgeref01_R_Num.f k bt160.1 0).bind fun bt163 => ((footbridgeref01_R_Num.f k bt163.1 bt163.2.1).bind fun bt166 => (if bt160.2 = true then ((footbridgeref01_R_Done.f bt166.1 bt166.2.1).bind fun t169 => (some (bt163.2.2, bt166.2.2, (t169 == 0)))) else (some (bt163.2.2, bt166.2.2, false))))))
theorem footbridgeref49_two.mono : ∀ a0 a1 a2 k, LeO (footbridgeref49_two.f k a0 a1 a2) (footbridgeref49_two.f (k + 1) a0 a1 a2) := by
 intro a0 a1 a2 k
 unfold footbridgeref49_two.f
 repeat' first
   | (with_reducible exact footbridgeref01_R_Num.mono _ _ _)
   | (with_reducible exact footbridgeref09_Get.mono _ _ _)
   | (with_reducible exact footbridgeref14_Key.mono _ _)
   | (with_reducible exact LeO.refl _)
   | (with_reducible exact LeO.none _)
   | (with_reducible refine LeO.ite ?_ ?_)
   | (with_reducible refine LeO.bind ?_ (fun _ => ?_))
   | exact footbridgeref01_R_Num.mono _ _ _
   | exact footbridgeref09_Get.mono _ _ _
   | exact footbridgeref14_Key.mono _ _
   | exact LeO.none _
   | refine LeO.ite ?_ ?_
   | refine LeO.bind ?_ (fun _ => ?_)
theorem footbridgeref49_two.calls (k : Nat) (A0 : Option Addr) (c0 : Nat) (l0 : List (S55)) (a1 : ByteArray) (a2 : ByteArray) (r1 : Int) (r2 : Int) (r3 : Bool) (w : World) (hr0 : Kd.C k55 w A0 l0.length l0) (hc0 : l0.length ≤ c0) (h : footbridgeref49_two.f k l0 a1 a2 = some (r1, r2, r3)) :
  Calls Tryz.prog 20 #[.slice A0 l0.length c0, .string a1, .string a2] w fun e w' => e = .returned (.tuple #[.int .i64 r1, .int .i64 r2, .bool r3]) ∧ Below w.heap.size w w' := by
 have hu76 := Tryz.underlying76
 have HR0 := As_ hr0
 have HC0 := As_ hc0
 clear hr0 hc0
 have HB := As_ (Below.refl w.heap.size w)
 have H : ((footbridgeref14_Key.f k (([a1, a2] : List ByteArray))).bind fun t159 => ((footbridgeref09_Get.f k l0 t159).bind fun bt160 => ((footbridgeref01_R_Num.f k bt160.1 0).bind fun bt163 => ((footbridgeref01_R_Num.f k bt163.1 bt163.2.1).bind fun bt166 => (if bt160.2 = true then ((footbridgeref01_R_Done.f bt166.1 bt166.2.1).bind fun t169 => (some (bt163.2.2, bt166.2.2, (t169 == 0)))) else (some (bt163.2.2, bt166.2.2, false))))))) = some (r1, r2, r3) := h
 clear h
 obtain ⟨y156, hy156⟩ : ∃ y_ : List ByteArray, y_ = (([a1, a2] : List ByteArray)) := ⟨_, rfl⟩
 replace H : ((footbridgeref14_Key.f k y156).bind fun t159 => ((footbridgeref09_Get.f k l0 t159).bind fun bt160 => ((footbridgeref01_R_Num.f k bt160.1 0).bind fun bt163 => ((footbridgeref01_R_Num.f k bt163.1 bt163.2.1).bind fun bt166 => (if bt160.2 = true then ((footbridgeref01_R_Done.f bt166.1 bt166.2.1).bind fun t169 => (some (bt163.2.2, bt166.2.2, (t169 == 0)))) else (some (bt163.2.2, bt166.2.2, false))))))) = some (r1, r2, r3) := by first | (rw [hy156]; with_reducible exact H) | (have H2_ := (Option.bind_some _ _).symm.trans H; rw [hy156]; with_reducible exact H2_) | (have H2_ := (Option.bind_some _ _).symm.trans H; with_reducible exact H2_) | with_reducible exact H | (rw [hy156]; exact H) | exact H
 have Ny156 := As_ hy156
 clear hy156
 replace H := Option.bind_eq_some_iff.mp H
 obtain ⟨t159, A40, H⟩ := H
 try dsimp only at H
 have A4 := As_ A40
 clear A40
 replace H := Option.bind_eq_some_iff.mp H
 obtain ⟨⟨t160, t161⟩, A50, H⟩ := H
 try dsimp only at H
 have A5 := As_ A50
 clear A50
 replace H := Option.bind_eq_some_iff.mp H
 obtain ⟨⟨t163, t164, t165⟩, A60, H⟩ := H
 try dsimp only at H
 have A6 := As_ A60
 clear A60
 replace H := Option.bind_eq_some_iff.mp H
 obtain ⟨⟨t166, t167, t168⟩, A70, H⟩ := H
 try dsimp only at H
 have A7 := As_ A70
 clear A70
 by_cases c8 : t161 = true
 ·subst c8
  have H1 : ((footbridgeref01_R_Done.f t166 t167).bind fun t169 => (some (t165, t168, (t169 == 0)))) = some (r1, r2, r3) := by rw [if_pos rfl] at H; exact H
  clear H
  have H := H1
  clear H1
  replace H := Option.bind_eq_some_iff.mp H
  obtain ⟨t169, A90, H⟩ := H
  try dsimp only at H
  have A9 := As_ A90
  clear A90
  simp only [Option.some.injEq, Prod.mk.injEq] at H
  obtain ⟨rfl, rfl, rfl⟩ := H
  go_enter Tryz.func20, Tryz.ntmps20
  go_wp2_with (first | ((with_reducible refine gate_dst (N := 18) rfl ?_); refine Kd.R_lit Kd.string _ 9 ?hg (N := 18) ?hd (xs := ([a1, a2] : List ByteArray)) (inner := [.string a1, .string a2]) (ok := fun _ => True) (okp := fun _ => True) ?hr ?hp (fun _ hk => hk) trivial (Below.refl _ _) (Nat.le_refl _) (by simp) ?_; (case hd => rfl); (case hg => rfl); (case hr => first | (go_simp; done) | (go_simp; rfl)); (case hp => exact (Reps.one (show Kd.M Kd.string _ _ _ a1 [.string a1] from rfl) (Reps.one (show Kd.M Kd.string _ _ _ a2 [.string a2] from rfl) (Reps.none _ _)))); intro v157 w10 ho11 hb hg_ hnew_; clear hg_ hnew_; (first | rw [← Ny156.out] at ho11 | (simp only [Int.reduceToNat] at ho11; rw [← Ny156.out] at ho11)); have HO158 := As_ (Kd.R_lower ho11 (below_size ap28_)); replace HB := As_ (below_step ap28_ hb); clear hb ho11; obtain ⟨Ao12, co12, eo12⟩ := Kd.R_slice HO158.out; subst eo12) | ((with_reducible refine gate_callee (f := 30) rfl ?_); refine gk_ (some 19) Tryz.func30 #[.slice Ao12 y156.length co12] ?_; (with_reducible refine (footbridgeref14_Key.calls k _ _ y156 t159 _ ?side1 ?side2 A4.out).mono ?_); (case side1 => repeat (first | exact (Kd.R_reads' HO158.out).2.2 | (with_reducible refine Kd.C_alloc ?_ _) | (with_reducible refine Kd.C_drewN ?_ _) | (with_reducible refine Kd.C_drew ?_))); (case side2 => exact (Kd.R_reads' HO158.out).2.1); rintro e w13 ⟨rfl, hb⟩; refine ⟨_, rfl, ?_⟩; replace HO158 := As_ (Kd.R_below ap18_ hb); replace HB := As_ (below_step ap28_ hb); (try clear hb); (try clear hb2); (try clear hk); (try clear hi)) | ((with_reducible refine gate_callee (f := 35) rfl ?_); refine gk_ (some 20) Tryz.func35 #[.slice A0 l0.length c0, .string t159] ?_; (with_reducible refine (footbridgeref09_Get.calls k _ _ l0 t159 t160 true _ ?side1 ?side2 A5.out).mono ?_); (case side1 => repeat (first | exact (Kd.C_below HR0.out HB.out) | (with_reducible refine Kd.C_alloc ?_ _) | (with_reducible refine Kd.C_drewN ?_ _) | (with_reducible refine Kd.C_drew ?_))); (case side2 => exact HC0.out); rintro e w' ⟨rfl, ⟨nd, rfl⟩⟩; refine ⟨_, rfl, ?_⟩; (try (rw [drewN_self w13]; generalize hq_ : World.drewN w13 _ = w13; have n0_ : Aside0 (Kd.R Kd.string 9 w13 w.heap.size (fun _ => True) (.slice Ao12 y156.length co12) y156) := ⟨by rw [← hq_]; exact ap18_⟩; have n1_ : Aside0 (Below w.heap.size w w13) := ⟨by rw [← hq_]; exact ap28_⟩; clear HO158 HB hq_; have HO158 := n0_; have HB := n1_; clear n0_ n1_))) | ((with_reducible refine gate_dst (N := 11) rfl ?_); refine bxE (N := 11) (cs := #[.string ⟨#[]⟩, .int .i64 0]) (t := 76) ?_; intro gb162 hg w14 hbox hb; replace HO158 := As_ (Kd.R_below ap18_ hb); have BK162 := As_ (hbox); have GW162 := As_ ((by rw [hg]; exact (below_size ap28_) : w.heap.size ≤ gb162)); have GE162 := As_ ((by rw [hg]; exact (below_size ap28_) : w.heap.size ≤ gb162)); replace HB := As_ (below_step ap28_ hb); clear hb hbox hg; obtain ⟨hcz15_0, hfz15_0, hcz15_1, hfz15_1⟩ := clN2 BK162.out) | ((with_reducible refine gate_callee (f := 36) rfl ?_); refine gk_ (some 27) Tryz.func36 #[.agg #[.string t160, .int .i64 0]] ?_; (with_reducible refine (footbridgeref01_R_Num.calls k t160 0 t163 t164 t165 _ A6.out).mono ?_); rintro e w16 ⟨rfl, hb⟩; refine ⟨_, rfl, ?_⟩; replace HO158 := As_ (Kd.R_below ap41_ hb); replace BK162 := As_ (blk_below (g := gb162) (o := .cells #[.string t160, .int .i64 0] 76 (0, 0)) ap45_ hb); replace HB := As_ (below_step ap36_ hb); (try clear hb); (try clear hb2); (try clear hk); (try clear hi); obtain ⟨hcz17_0, hfz17_0, hcz17_1, hfz17_1⟩ := clN2 BK162.out) | ((with_reducible refine gate_callee (f := 36) rfl ?_); refine gk_ (some 32) Tryz.func36 #[.agg #[.string t163, .int .i64 t164]] ?_; (with_reducible refine (footbridgeref01_R_Num.calls k t163 t164 t166 t167 t168 _ A7.out).mono ?_); rintro e w18 ⟨rfl, hb⟩; refine ⟨_, rfl, ?_⟩; replace HO158 := As_ (Kd.R_below ap42_ hb); replace BK162 := As_ (blk_below (g := gb162) (o := .cells #[.string t163, .int .i64 t164] 76 (0, 0)) ap43_ hb); replace HB := As_ (below_step ap36_ hb); (try clear hb); (try clear hb2); (try clear hk); (try clear hi); obtain ⟨hcz19_0, hfz19_0, hcz19_1, hfz19_1⟩ := clN2 BK162.out) | (go_at_call 37; (with_reducible refine (footbridgeref01_R_Done.calls t166 t167 t169 _ A9.out).mono ?_); rintro e w20 ⟨rfl, hb⟩; replace HO158 := As_ (Kd.R_below (by (with_reducible repeat (first | apply Kd.R_alloc | apply Kd.R_drewN | apply Kd.R_drew)); exact (Kd.R_mono (Kd.R_far (p := ⟨gb162, 1, none⟩) (Kd.R_far (p := ⟨gb162, 0, none⟩) (Kd.R_types HO158.out BK162.out (by decide)) (fun _ hk => hk.2) (.string t166)) (fun _ hk => hk.2) (.int .i64 t167)) (fun _ h_ => h_.1))) hb); replace BK162 := As_ (blk_below (g := gb162) (o := .cells #[.string t166, .int .i64 t167] 76 (0, 0)) (by (with_reducible repeat (first | refine blk_drewN ?_ _ | refine blk_drew ?_ | refine blk_alloc ?_ _)); refine blk_put (cs := #[.string t166, .int .i64 t164]) ?_ 1 _ rfl; (with_reducible repeat (first | refine blk_drewN ?_ _ | refine blk_drew ?_ | refine blk_alloc ?_ _)); refine blk_put (cs := #[.string t163, .int .i64 t164]) ?_ 0 _ rfl; (with_reducible repeat (first | refine blk_drewN ?_ _ | refine blk_drew ?_ | refine blk_alloc ?_ _)); exact BK162.out) hb); replace HB := As_ (below_step ap36_ hb); (try clear hb); (try clear hb2); (try clear hk); (try clear hi)))
  go_ret3
  exact ⟨ap14_, ap36_⟩
 ·replace c8 := Bool.eq_false_iff.mpr c8
  subst c8
  have H1 : (some (t165, t168, false)) = some (r1, r2, r3) := by rw [if_neg (show ¬ (false = true) by decide)] at H; exact H
  clear H
  have H := H1
  clear H1
  simp only [Option.some.injEq, Prod.mk.injEq] at H
  obtain ⟨rfl, rfl, rfl⟩ := H
  go_enter Tryz.func20, Tryz.ntmps20
  go_wp2_with (first | ((with_reducible refine gate_dst (N := 18) rfl ?_); refine Kd.R_lit Kd.string _ 9 ?hg (N := 18) ?hd (xs := ([a1, a2] : List ByteArray)) (inner := [.string a1, .string a2]) (ok := fun _ => True) (okp := fun _ => True) ?hr ?hp (fun _ hk => hk) trivial (Below.refl _ _) (Nat.le_refl _) (by simp) ?_; (case hd => rfl); (case hg => rfl); (case hr => first | (go_simp; done) | (go_simp; rfl)); (case hp => exact (Reps.one (show Kd.M Kd.string _ _ _ a1 [.string a1] from rfl) (Reps.one (show Kd.M Kd.string _ _ _ a2 [.string a2] from rfl) (Reps.none _ _)))); intro v157 w21 ho22 hb hg_ hnew_; clear hg_ hnew_; (first | rw [← Ny156.out] at ho22 | (simp only [Int.reduceToNat] at ho22; rw [← Ny156.out] at ho22)); have HO158 := As_ (Kd.R_lower ho22 (below_size ap28_)); replace HB := As_ (below_step ap28_ hb); clear hb ho22; obtain ⟨Ao23, co23, eo23⟩ := Kd.R_slice HO158.out; subst eo23) | ((with_reducible refine gate_callee (f := 30) rfl ?_); refine gk_ (some 19) Tryz.func30 #[.slice Ao23 y156.length co23] ?_; (with_reducible refine (footbridgeref14_Key.calls k _ _ y156 t159 _ ?side1 ?side2 A4.out).mono ?_); (case side1 => repeat (first | exact (Kd.R_reads' HO158.out).2.2 | (with_reducible refine Kd.C_alloc ?_ _) | (with_reducible refine Kd.C_drewN ?_ _) | (with_reducible refine Kd.C_drew ?_))); (case side2 => exact (Kd.R_reads' HO158.out).2.1); rintro e w24 ⟨rfl, hb⟩; refine ⟨_, rfl, ?_⟩; replace HO158 := As_ (Kd.R_below ap18_ hb); replace HB := As_ (below_step ap28_ hb); (try clear hb); (try clear hb2); (try clear hk); (try clear hi)) | ((with_reducible refine gate_callee (f := 35) rfl ?_); refine gk_ (some 20) Tryz.func35 #[.slice A0 l0.length c0, .string t159] ?_; (with_reducible refine (footbridgeref09_Get.calls k _ _ l0 t159 t160 false _ ?side1 ?side2 A5.out).mono ?_); (case side1 => repeat (first | exact (Kd.C_below HR0.out HB.out) | (with_reducible refine Kd.C_alloc ?_ _) | (with_reducible refine Kd.C_drewN ?_ _) | (with_reducible refine Kd.C_drew ?_))); (case side2 => exact HC0.out); rintro e w' ⟨rfl, ⟨nd, rfl⟩⟩; refine ⟨_, rfl, ?_⟩; (try (rw [drewN_self w24]; generalize hq_ : World.drewN w24 _ = w24; have n0_ : Aside0 (Kd.R Kd.string 9 w24 w.heap.size (fun _ => True) (.slice Ao23 y156.length co23) y156) := ⟨by rw [← hq_]; exact ap18_⟩; have n1_ : Aside0 (Below w.heap.size w w24) := ⟨by rw [← hq_]; exact ap28_⟩; clear HO158 HB hq_; have HO158 := n0_; have HB := n1_; clear n0_ n1_))) | ((with_reducible refine gate_dst (N := 11) rfl ?_); refine bxE (N := 11) (cs := #[.string ⟨#[]⟩, .int .i64 0]) (t := 76) ?_; intro gb162 hg w25 hbox hb; replace HO158 := As_ (Kd.R_below ap18_ hb); have BK162 := As_ (hbox); have GW162 := As_ ((by rw [hg]; exact (below_size ap28_) : w.heap.size ≤ gb162)); have GE162 := As_ ((by rw [hg]; exact (below_size ap28_) : w.heap.size ≤ gb162)); replace HB := As_ (below_step ap28_ hb); clear hb hbox hg; obtain ⟨hcz26_0, hfz26_0, hcz26_1, hfz26_1⟩ := clN2 BK162.out) | ((with_reducible refine gate_callee (f := 36) rfl ?_); refine gk_ (some 27) Tryz.func36 #[.agg #[.string t160, .int .i64 0]] ?_; (with_reducible refine (footbridgeref01_R_Num.calls k t160 0 t163 t164 t165 _ A6.out).mono ?_); rintro e w27 ⟨rfl, hb⟩; refine ⟨_, rfl, ?_⟩; replace HO158 := As_ (Kd.R_below ap41_ hb); replace BK162 := As_ (blk_below (g := gb162) (o := .cells #[.string t160, .int .i64 0] 76 (0, 0)) ap45_ hb); replace HB := As_ (below_step ap36_ hb); (try clear hb); (try clear hb2); (try clear hk); (try clear hi); obtain ⟨hcz28_0, hfz28_0, hcz28_1, hfz28_1⟩ := clN2 BK162.out) | ((with_reducible refine gate_callee (f := 36) rfl ?_); refine gk_ (some 32) Tryz.func36 #[.agg #[.string t163, .int .i64 t164]] ?_; (with_reducible refine (footbridgeref01_R_Num.calls k t163 t164 t166 t167 t168 _ A7.out).mono ?_); rintro e w29 ⟨rfl, hb⟩; refine ⟨_, rfl, ?_⟩; replace HO158 := As_ (Kd.R_below ap42_ hb); replace BK162 := As_ (blk_below (g := gb162) (o := .cells #[.string t163, .int .i64 t164] 76 (0, 0)) ap43_ hb); replace HB := As_ (below_step ap36_ hb); (try clear hb); (try clear hb2); (try clear hk); (try clear hi); obtain ⟨hcz30_0, hfz30_0, hcz30_1, hfz30_1⟩ := clN2 BK162.out))
  go_ret3
  exact ⟨ap14_, ap36_⟩
def footbridgeref49_Left.j0 : Nat → List (S55) → ByteArray → Int → Int → Int → Bool → Option (Int)
 | 0, _, _, _, _, _, _ => none
 | k + 1, x0, x1, x2, x7, x8, x29 => if x29 = true then (some 0) else ((footbridgeref49_two.f k x0 (⟨#[115, 112, 101, 110, 116]⟩ : ByteArray) x1).bind fun bt173 => (if bt173.2.2 = true then (if x8 = 0 then (none) else (if bt173.1 = (wrap64 (Int.tdiv x2 x8)) then (some (wrap64 (x7 - bt173.2.1))) else (some x7))) else (some x7)))
def footbridgeref49_Left.f (k : Nat) (l0 : List (S55)) (a1 : ByteArray) (a2 : Int) : Option (Int) := (footbridgeref49_two.f k l0 (⟨#[113, 117, 111, 116, 97]⟩ : ByteArray) a1).bind fun bt170 => (if bt170.2.2 = true then (if a2 < 0 then (footbridgeref49_Left.j0 k l0 a1 a2 bt170.1 bt170.2.1 true) else (footbridgeref49_Left.j0 k l0 a1 a2 bt170.1 bt170.2.1 (decide (a2 > 1099511627776)))) else (footbridgeref49_Left.j0 k l0 a1 a2 bt170.1 bt170.2.1 true))
theorem footbridgeref49_Left.mono_l : ∀ k, (∀ y0 y1 y2 y3 y4 y5, LeO (footbridgeref49_Left.j0 k y0 y1 y2 y3 y4 y5) (footbridgeref49_Left.j0 (k + 1) y0 y1 y2 y3 y4 y5))
 | 0 => fun _ _ _ _ _ _ r h => by simp [footbridgeref49_Left.j0] at h
 | k + 1 => by
  have ih0 := footbridgeref49_Left.mono_l k
  ·intro y0 y1 y2 y3 y4 y5
   unfold footbridgeref49_Left.j0
   repeat' first
   | (with_reducible exact ih0 _ _ _ _ _ _)
   | (with_reducible exact footbridgeref49_two.mono _ _ _ _)
   | (with_reducible exact LeO.refl _)
   | (with_reducible exact LeO.none _)
   | (with_reducible refine LeO.ite ?_ ?_)
   | (with_reducible refine LeO.bind ?_ (fun _ => ?_))
   | exact ih0 _ _ _ _ _ _
   | exact footbridgeref49_two.mono _ _ _ _
   | exact LeO.none _
   | refine LeO.ite ?_ ?_
   | refine LeO.bind ?_ (fun _ => ?_)
theorem footbridgeref49_Left.mono : ∀ a0 a1 a2 k, LeO (footbridgeref49_Left.f k a0 a1 a2) (footbridgeref49_Left.f (k + 1) a0 a1 a2) := by
 intro a0 a1 a2 k
 have ih0 := footbridgeref49_Left.mono_l k
 unfold footbridgeref49_Left.f
 repeat' first
   | (with_reducible exact ih0 _ _ _ _ _ _)
   | (with_reducible exact footbridgeref49_two.mono _ _ _ _)
   | (with_reducible exact LeO.refl _)
   | (with_reducible exact LeO.none _)
   | (with_reducible refine LeO.ite ?_ ?_)
   | (with_reducible refine LeO.bind ?_ (fun _ => ?_))
   | exact ih0 _ _ _ _ _ _
   | exact footbridgeref49_two.mono _ _ _ _
   | exact LeO.none _
   | refine LeO.ite ?_ ?_
   | refine LeO.bind ?_ (fun _ => ?_)
theorem footbridgeref49_Left.calls (k : Nat) (A0 : Option Addr) (c0 : Nat) (l0 : List (S55)) (a1 : ByteArray) (a2 : Int) (r : Int) (w : World) (hr0 : Kd.C k55 w A0 l0.length l0) (hc0 : l0.length ≤ c0) (h : footbridgeref49_Left.f k l0 a1 a2 = some r) :
  Calls Tryz.prog 8 #[.slice A0 l0.length c0, .string a1, .int .i64 a2] w fun e w' => e = .returned (.int .i64 r) ∧ Below w.heap.size w w' := by
 have HR0 := As_ hr0
 have HC0 := As_ hc0
 clear hr0 hc0
 have HB := As_ (Below.refl w.heap.size w)
 have H : ((footbridgeref49_two.f k l0 (⟨#[113, 117, 111, 116, 97]⟩ : ByteArray) a1).bind fun bt170 => (if bt170.2.2 = true then (if a2 < 0 then (footbridgeref49_Left.j0 k l0 a1 a2 bt170.1 bt170.2.1 true) else (footbridgeref49_Left.j0 k l0 a1 a2 bt170.1 bt170.2.1 (decide (a2 > 1099511627776)))) else (footbridgeref49_Left.j0 k l0 a1 a2 bt170.1 bt170.2.1 true))) = some r := h
 clear h
 replace H := Option.bind_eq_some_iff.mp H
 obtain ⟨⟨t170, t171, t172⟩, A40, H⟩ := H
 try dsimp only at H
 have A4 := As_ A40
 clear A40
 have HC5 := As_ H
 clear H
 go_enter Tryz.func8, Tryz.ntmps8
 go_upto_region 2 with (first | ((with_reducible refine gate_callee (f := 20) rfl ?_); refine gk_ (some 16) Tryz.func20 #[.slice A0 l0.length c0, .string ⟨#[113, 117, 111, 116, 97]⟩, .string a1] ?_; (with_reducible refine (footbridgeref49_two.calls k _ _ l0 (⟨#[113, 117, 111, 116, 97]⟩ : ByteArray) a1 t170 t171 t172 _ ?side1 ?side2 A4.out).mono ?_); (case side1 => repeat (first | exact HR0.out | (with_reducible refine Kd.C_alloc ?_ _) | (with_reducible refine Kd.C_drewN ?_ _) | (with_reducible refine Kd.C_drew ?_))); (case side2 => exact HC0.out); rintro e w6 ⟨rfl, hb⟩; refine ⟨_, rfl, ?_⟩; replace HB := As_ (below_step ap28_ hb); (try clear hb); (try clear hb2); (try clear hk); (try clear hi)))
 (try simp only [Act.put, List.setIfInBounds_toArray, List.set_cons_zero, List.set_cons_succ])
 go_cut [29] (fun v29 wc => ∃ (kq : Nat) (x29_4 : Bool), v29 = .bool x29_4 ∧ Aside0 (footbridgeref49_Left.j0 kq l0 a1 a2 t170 t171 x29_4 = some r) ∧ Aside0 (kq ≤ k) ∧ Aside0 (Below w.heap.size w wc))
 case first =>
  have H := HC5.out
  clear HC5
  by_cases c7 : t172 = true
  ·subst c7
   have H1 : (if a2 < 0 then (footbridgeref49_Left.j0 k l0 a1 a2 t170 t171 true) else (footbridgeref49_Left.j0 k l0 a1 a2 t170 t171 (decide (a2 > 1099511627776)))) = some r := by rw [if_pos rfl] at H; exact H
   clear H
   have H := H1
   clear H1
   by_cases c8 : a2 < 0
   ·rw [if_pos c8] at H
    have c8b0 : decide (a2 < 0) = true := decide_eq_true c8
    clear c8
    (first | rw [c8b0] | (simp only [i64_w, i32_w]; rw [c8b0]) | skip)
    have H' := As_ H
    clear H
    go_wp2
    go_meet
    case rel => exact ⟨_, (true), ap4_, H', ⟨ap1_⟩, ⟨ap28_⟩⟩
   ·rw [if_neg c8] at H
    have c8b0 : decide (a2 < 0) = false := decide_eq_false c8
    clear c8
    (first | rw [c8b0] | (simp only [i64_w, i32_w]; rw [c8b0]) | skip)
    have H' := As_ H
    clear H
    go_wp2
    go_meet
    case rel => exact ⟨_, (decide (a2 > 1099511627776)), ap4_, H', ⟨ap1_⟩, ⟨ap28_⟩⟩
  ·replace c7 := Bool.eq_false_iff.mpr c7
   subst c7
   have H1 : (footbridgeref49_Left.j0 k l0 a1 a2 t170 t171 true) = some r := by rw [if_neg (show ¬ (false = true) by decide)] at H; exact H
   clear H
   have H := H1
   clear H1
   have H' := As_ H
   clear H
   go_wp2
   go_meet
   case rel => exact ⟨_, (true), ap4_, H', ⟨ap1_⟩, ⟨ap28_⟩⟩
 case rest =>
  clear HC5
  obtain ⟨kq, x29_4, rfl, HA, HJ4, HB⟩ := hcut
  cases kq with
  | zero => exact absurd HA.out (by simp [footbridgeref49_Left.j0])
  | succ kj4 =>
   have H := HA.out
   clear HA
   simp only [footbridgeref49_Left.j0] at H
   by_cases c9 : x29_4 = true
   ·subst c9
    have H1 : (some 0) = some r := by rw [if_pos rfl] at H; exact H
    clear H
    have H := H1
    clear H1
    obtain rfl := Option.some.inj H
    go_wp2
    go_ret
    exact ⟨ap14_, ap28_⟩
   ·replace c9 := Bool.eq_false_iff.mpr c9
    subst c9
    have H1 : ((footbridgeref49_two.f kj4 l0 (⟨#[115, 112, 101, 110, 116]⟩ : ByteArray) a1).bind fun bt173 => (if bt173.2.2 = true then (if t171 = 0 then (none) else (if bt173.1 = (wrap64 (Int.tdiv a2 t171)) then (some (wrap64 (t170 - bt173.2.1))) else (some t170))) else (some t170))) = some r := by rw [if_neg (show ¬ (false = true) by decide)] at H; exact H
    clear H
    have H := H1
    clear H1
    replace H := Option.bind_eq_some_iff.mp H
    obtain ⟨⟨t173, t174, t175⟩, A100, H⟩ := H
    try dsimp only at H
    have A10 := As_ A100
    clear A100
    by_cases c11 : t175 = true
    ·subst c11
     have H1 : (if t171 = 0 then (none) else (if t173 = (wrap64 (Int.tdiv a2 t171)) then (some (wrap64 (t170 - t174))) else (some t170))) = some r := by rw [if_pos rfl] at H; exact H
     clear H
     have H := H1
     clear H1
     by_cases c12 : t171 = 0
     ·rw [if_pos c12] at H
      exact absurd H (by simp)
     ·rw [if_neg c12] at H
      have c12b0 : (t171 == 0) = false := beq_eq_false_iff_ne.mpr c12
      have c12b1 : (t171 != 0) = true := bne_iff_ne.mpr c12
      by_cases c13 : t173 = (wrap64 (Int.tdiv a2 t171))
      ·rw [if_pos c13] at H
       have c13b0 : (t173 == (wrap64 (Int.tdiv a2 t171))) = true := beq_iff_eq.mpr c13
       have c13b1 : (t173 != (wrap64 (Int.tdiv a2 t171))) = false := bne_eq_false_iff_eq.mpr c13
       clear c13
       obtain rfl := Option.some.inj H
       go_wp2_with (first | ((with_reducible refine gate_callee (f := 20) rfl ?_); refine gk_ (some 33) Tryz.func20 #[.slice A0 l0.length c0, .string ⟨#[115, 112, 101, 110, 116]⟩, .string a1] ?_; (with_reducible refine (footbridgeref49_two.calls kj4 _ _ l0 (⟨#[115, 112, 101, 110, 116]⟩ : ByteArray) a1 t173 t174 true _ ?side1 ?side2 A10.out).mono ?_); (case side1 => repeat (first | exact (Kd.C_below HR0.out HB.out) | (with_reducible refine Kd.C_alloc ?_ _) | (with_reducible refine Kd.C_drewN ?_ _) | (with_reducible refine Kd.C_drew ?_))); (case side2 => exact HC0.out); rintro e w14 ⟨rfl, hb⟩; refine ⟨_, rfl, ?_⟩; replace HB := As_ (below_step ap28_ hb); (try clear hb); (try clear hb2); (try clear hk); (try clear hi)))
       go_ret
       exact ⟨ap14_, ap28_⟩
      ·rw [if_neg c13] at H
       have c13b0 : (t173 == (wrap64 (Int.tdiv a2 t171))) = false := beq_eq_false_iff_ne.mpr c13
       have c13b1 : (t173 != (wrap64 (Int.tdiv a2 t171))) = true := bne_iff_ne.mpr c13
       obtain rfl := Option.some.inj H
       go_wp2_with (first | ((with_reducible refine gate_callee (f := 20) rfl ?_); refine gk_ (some 33) Tryz.func20 #[.slice A0 l0.length c0, .string ⟨#[115, 112, 101, 110, 116]⟩, .string a1] ?_; (with_reducible refine (footbridgeref49_two.calls kj4 _ _ l0 (⟨#[115, 112, 101, 110, 116]⟩ : ByteArray) a1 t173 t174 true _ ?side1 ?side2 A10.out).mono ?_); (case side1 => repeat (first | exact (Kd.C_below HR0.out HB.out) | (with_reducible refine Kd.C_alloc ?_ _) | (with_reducible refine Kd.C_drewN ?_ _) | (with_reducible refine Kd.C_drew ?_))); (case side2 => exact HC0.out); rintro e w15 ⟨rfl, hb⟩; refine ⟨_, rfl, ?_⟩; replace HB := As_ (below_step ap28_ hb); (try clear hb); (try clear hb2); (try clear hk); (try clear hi)))
       go_ret
       exact ⟨ap14_, ap28_⟩
    ·replace c11 := Bool.eq_false_iff.mpr c11
     subst c11
     have H1 : (some t170) = some r := by rw [if_neg (show ¬ (false = true) by decide)] at H; exact H
     clear H
     have H := H1
     clear H1
     obtain rfl := Option.some.inj H
     go_wp2_with (first | ((with_reducible refine gate_callee (f := 20) rfl ?_); refine gk_ (some 33) Tryz.func20 #[.slice A0 l0.length c0, .string ⟨#[115, 112, 101, 110, 116]⟩, .string a1] ?_; (with_reducible refine (footbridgeref49_two.calls kj4 _ _ l0 (⟨#[115, 112, 101, 110, 116]⟩ : ByteArray) a1 t173 t174 false _ ?side1 ?side2 A10.out).mono ?_); (case side1 => repeat (first | exact (Kd.C_below HR0.out HB.out) | (with_reducible refine Kd.C_alloc ?_ _) | (with_reducible refine Kd.C_drewN ?_ _) | (with_reducible refine Kd.C_drew ?_))); (case side2 => exact HC0.out); rintro e w16 ⟨rfl, hb⟩; refine ⟨_, rfl, ?_⟩; replace HB := As_ (below_step ap28_ hb); (try clear hb); (try clear hb2); (try clear hk); (try clear hi)))
     go_ret
     exact ⟨ap14_, ap28_⟩
end Go.Proofs.YtgapkicplhbidaaGreatDoor.PQup
