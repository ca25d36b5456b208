/- A part of the walk of QuotaHolds. No condition. -/
import Derived.Test.YtgapkicplhbidaaDoorPQuhx0
import Derived.Test.YtgapkicplhbidaaDoorPQuhx1
import Derived.Test.YtgapkicplhbidaaDoorPQuhx2
import Derived.Test.YtgapkicplhbidaaDoorPQuhx3
namespace Go.Proofs.YtgapkicplhbidaaDoor.PQuh
set_option maxRecDepth 100000
set_option maxHeartbeats 8000000
open Go.RowKit Go.Proofs.YtgapkicplhbidaaDoorW.PrintWords Go.Proofs.YtgapkicplhbidaaDoorW.PrintLast Go.Proofs.YtgapkicplhbidaaDoorW.PrintMore
attribute [local go_sem] max2_int min2_int max_two min_two max_three min_three max_four min_four   -- for this text's walks alone
set_option linter.unusedVariables false
set_option linter.unusedSimpArgs false
def footbridgelaw49_QuotaHolds.f (a0 a1 : Int) (l : List S29) : Option Bool := if (0 ≤ a0 ∧ a0 ≤ 65535) ∧ (0 ≤ a1 ∧ a1 ≤ 65535) ∧ ∀ y ∈ l, (0 ≤ y.f0 ∧ y.f0 ≤ 65535) ∧ 0 ≤ y.f1 ∧ y.f1 ≤ 65535 then some true else none
theorem rd_memQ (l : List S29) (j : Nat) (h : j < l.length) : rd_T29 l (j : Int) ∈ l := by
 have e : rd_T29 l (j : Int) = l[j] := by
  unfold rd_T29
  rw [Int.toNat_natCast, List.getD_eq_getElem?_getD, List.getElem?_eq_getElem h]; rfl
 rw [e]; exact List.getElem_mem h
theorem tdiv_mono (a b q : Int) (h0 : 0 ≤ a) (h : a ≤ b) (hq : 1 ≤ q) : a.tdiv q ≤ b.tdiv q := by
 rw [Int.tdiv_eq_ediv_of_nonneg h0, Int.tdiv_eq_ediv_of_nonneg (by omega)]
 exact Int.ediv_le_ediv (by omega) h
theorem footbridgelaw49_QuotaHolds.calls (a0 a1 : Int) (A2 : Option Addr) (c2 : Nat) (l2 : List S29) (r : Bool) (w : World) (hr2 : Kd.C k29 w A2 l2.length l2) (hc2 : l2.length ≤ c2) (h : footbridgelaw49_QuotaHolds.f a0 a1 l2 = some r) :
  Calls Tryd.prog 3 #[.int .u16 a0, .int .u16 a1, .slice A2 l2.length c2] w fun e w' => e = .returned (.bool r) ∧ Below w.heap.size w w' := by
 unfold footbridgelaw49_QuotaHolds.f at h
 by_cases hg : (0 ≤ a0 ∧ a0 ≤ 65535) ∧ (0 ≤ a1 ∧ a1 ≤ 65535) ∧ ∀ y ∈ l2, (0 ≤ y.f0 ∧ y.f0 ≤ 65535) ∧ 0 ≤ y.f1 ∧ y.f1 ≤ 65535
 case neg => rw [if_neg hg] at h; cases h
 rw [if_pos hg] at h
 obtain rfl : true = r := Option.some.inj h
 obtain ⟨ha0, ha1, hel⟩ := hg
 clear h
 by_cases hbig : 40 < l2.length
 ·go_enter Tryd.func3, Tryd.ntmps3
  go_wp2_with fail
  refine (quaw_calls w).mono ?_
  rintro e w' ⟨rfl, hb⟩
  go_wp2
  go_ret
  exact ⟨rfl, hb⟩
 by_cases hz : a1 = 0
 ·subst hz
  go_enter Tryd.func3, Tryd.ntmps3
  go_wp2_with fail
  refine (quaw_calls w).mono ?_
  rintro e w' ⟨rfl, hb⟩
  go_wp2
  go_ret
  exact ⟨rfl, hb⟩
 have hz0 : (a1 == 0) = false := beq_eq_false_iff_ne.2 hz
 have hzf : (a1 = 0) = False := eq_false hz
 have hv0 : wrap64 a0 = a0 := w64 (by omega) (by omega)
 have hv1 : wrap64 a1 = a1 := w64 (by omega) (by omega)
 have AE := As_ hel
 have HR0 := As_ hr2
 obtain ⟨hE0, hH0⟩ := QHold.begin (x := (⟨#[120]⟩ : ByteArray)) (by decide) qun6 (most := a0) (every := a1) ha0 ⟨by omega, ha1.2⟩
 have AH0 := As_ hH0
 have HE0 := As_ hE0
 have AA := As_ (And.intro ha0 (And.intro (show 1 ≤ a1 by omega) ha1.2))
 clear hr2 hel hH0 hE0 ha0 ha1
 go_enter Tryd.func3, Tryd.ntmps3
 go_wp2_with fail
 refine (j_new_nil w).mono ?_
 rintro e w1 ⟨g, rfl, hm, hb⟩
 have HB1 := As_ hb
 have HJ := As_ (JS.start hm hb.size)
 clear hm hb
 go_wp2_with fail
 refine (qu_Set (⟨#[120]⟩ : ByteArray) a0 a1 0 (quSet [] (⟨#[120]⟩ : ByteArray) a0 a1) HJ.out (KV.nil _) (by decide) HE0.out rfl).mono ?_
 rintro e w2 ⟨rfl, hj, hk⟩
 have HJ2 := As_ hj
 clear hj hk HJ HE0
 go_wp2_with fail
 go_loopg [8, 9, 10, 11] l2.length (fun gg s8 s9 s10 s11 wx => ∃ (j : Nat) (cur : List S50) (time sum : Int), s8 = .int .i64 time ∧ s9 = .int .i64 (time.tdiv a1) ∧ s10 = .int .i64 sum ∧ s11 = .int .i64 j ∧ j + gg = l2.length ∧ Aside0 (KV (j + 1) cur ∧ 0 ≤ time ∧ time ≤ (j : Int) * 65535 ∧ QInv cur ∧ QHold cur (⟨#[120]⟩ : ByteArray) a0 a1 (time.tdiv a1) sum) ∧ Aside0 (JS w.heap.size (fun k => w.heap.size ≤ k) w1 g cur wx))
 case atStart => exact ⟨0, _, 0, 0, rfl, by rw [Int.zero_tdiv], rfl, rfl, by omega, ⟨quSet_KV (KV.nil 0) _ _ _, Int.le_refl _, by omega, QInv.nil.set List.Pairwise.nil (by decide) _ _, by rw [Int.zero_tdiv]; exact AH0.out⟩, HJ2⟩
 case round =>
  clear HJ2 AH0
  obtain ⟨j, cur, time, sum, rfl, rfl, rfl, rfl, hj, AL, HJ⟩ := hrel
  by_cases hlt : j < l2.length
  ·have hx0 : (0 : Int) ≤ ((j : Nat) : Int) := by omega
   have hkl : ((j : Nat) : Int) < (l2.length : Int) := by omega
   obtain ⟨ad, e1, zw0, zw1⟩ := at_T29 HR0.out ((j : Nat) : Int) hx0 hkl
   subst e1
   have hmem : rd_T29 l2 (j : Int) ∈ l2 := rd_memQ l2 j hlt
   have hr := AE.out _ hmem
   generalize rd_T29 l2 (j : Int) = d at zw0 zw1 hr
   rw [Int.toNat_natCast] at zw0 zw1
   have AW := As_ (w_one j (by omega))
   have AR := As_ hr
   have hB0 := JW.toBelow HB1.out HB1.out.size HJ.out.jw (fun k hk => hk)
   have z0 := (hB0.cell (World.block_lt_of_cell? _ _ zw0)).trans zw0
   have z1 := (hB0.cell (World.block_lt_of_cell? _ _ zw1)).trans zw1
   have AZ1 := As_ zw1
   clear hB0 hmem
   obtain ⟨hkv, ht0, ht1, hi, hH⟩ := id AL.out
   have hw0 : wrap64 d.f0 = d.f0 := w64 (by omega) (by omega)
   have hwt : wrap64 (time + d.f0) = time + d.f0 := w64 (by omega) (by omega)
   obtain ⟨T, hT⟩ : ∃ z, time + d.f0 = z := ⟨_, rfl⟩
   rw [hT] at hwt
   have hTb : 0 ≤ T ∧ T ≤ ((j + 1 : Nat) : Int) * 65535 := by omega
   have htd := tdiv_bd T a1 (by omega) (by omega) AA.out.2.1
   have hwd : wrap64 (T.tdiv a1) = T.tdiv a1 := w64 htd.1 htd.2
   have hnew : ∃ sum', sum' = (if T.tdiv a1 = time.tdiv a1 then sum else 0) ∧ QHold cur (⟨#[120]⟩ : ByteArray) a0 a1 (T.tdiv a1) sum' := by
    refine ⟨_, rfl, ?_⟩
    by_cases hq : T.tdiv a1 = time.tdiv a1
    ·rw [if_pos hq, hq]; exact hH
    ·rw [if_neg hq]
     refine hH.next ?_
     have := tdiv_mono time T a1 (by omega) (by omega) AA.out.2.1
     omega
   obtain ⟨sum', hs', hH'⟩ := hnew
   have hkv6 := hkv.mono (show j + 1 ≤ 1000000 by omega)
   have AH := As_ hH'
   have AI := As_ hi
   have AT := As_ hTb
   have hsb : wrap64 (a0 - sum') = a0 - sum' := w64 (by have := hH'.m; omega) (by have := hH'.m; omega)
   have AKV := As_ hkv
   have hL := hH'.left rfl hTb.1 (by omega)
   clear hH hi ht0 ht1 hH' AL htd hkv
   generalize time.tdiv a1 = W0 at hs'
   generalize hD : T.tdiv a1 = D at hs' hwd AH
   have AD := As_ hD
   have ASM := As_ (show 0 ≤ sum' ∧ sum' ≤ 65535 by have := AH.out.m; omega)
   clear hTb
   by_cases hq : D = W0
   ·rw [if_pos hq] at hs'
    subst hs'
    subst hq
    go_wp2_with fail
    refine (qu_Left (base := w.heap.size) (ok := fun k => w.heap.size ≤ k) (w0 := w1) (g := g) (cur := cur) (⟨#[120]⟩ : ByteArray) T _ HJ.out hkv6 (by decide) AI.out hL).mono ?_
    rintro e w3 ⟨rfl, hb⟩
    have n_HJ := As_ (HJ.out.below hb)
    clear HJ hb hL
    have HJ := n_HJ
    clear n_HJ
    have hB0 := JW.toBelow HB1.out HB1.out.size HJ.out.jw (fun k hk => hk)
    have z1 := (hB0.cell (World.block_lt_of_cell? _ _ AZ1.out)).trans AZ1.out
    clear hB0
    have hr := AR.out
    have hw1 : wrap64 d.f1 = d.f1 := w64 (by omega) (by omega)
    obtain ⟨n, hn⟩ : ∃ z, d.f1 = z := ⟨_, rfl⟩
    rw [hn] at z1 hw1 hr
    have ANB := As_ hr.2
    clear hr hn
    obtain ⟨E, hE⟩ : ∃ z, quSpendE cur (⟨#[120]⟩ : ByteArray) T n = z := ⟨_, rfl⟩
    obtain ⟨cur', hcur'⟩ : ∃ z, quSpend cur (⟨#[120]⟩ : ByteArray) T n = z := ⟨_, rfl⟩
    have hkn := quSpend_KV AKV.out (⟨#[120]⟩ : ByteArray) T n
    have hin := AI.out.spend AKV.out.so (name := (⟨#[120]⟩ : ByteArray)) (by decide) T n
    have hiff := AH.out.spendE AD.out AT.out.1 (by have := AT.out.2; omega) n ANB.out
    have hsp : (1 ≤ n ∧ n ≤ a0 - sum') → QHold cur' (⟨#[120]⟩ : ByteArray) a0 a1 D (sum' + n) := fun hh => by rw [← hcur']; exact AH.out.spent (by decide) AD.out AT.out.1 (by have := AT.out.2; omega) n hh
    have hno : ¬ E = 0 → cur' = cur := fun hh => by rw [← hcur']; unfold quSpend; rw [hE, if_neg hh]
    rw [hcur'] at hkn hin
    rw [hE] at hiff
    have AKN := As_ hkn
    have AIN := As_ hin
    have ASP := As_ hsp
    have ANO := As_ hno
    have AF := As_ hiff
    have A5 := As_ hE
    have A6 := As_ hcur'
    clear hkn hin hsp hno hiff hE hcur'
    go_wp2_with fail
    refine (qu_Spend (base := w.heap.size) (ok := fun k => w.heap.size ≤ k) (w0 := w1) (g := g) (cur := cur) (⟨#[120]⟩ : ByteArray) T n E cur' HJ.out hkv6 (by decide) AI.out A5.out A6.out).mono ?_
    rintro e w4 ⟨rfl, hj4, hk4⟩
    have n_HJ := As_ hj4
    clear HJ hj4 hk4
    have HJ := n_HJ
    clear n_HJ
    by_cases hn1 : 1 ≤ n
    ·by_cases hn2 : n ≤ a0 - sum'
     ·have hh : 1 ≤ n ∧ n ≤ a0 - sum' := ⟨hn1, hn2⟩
      have hE0 : E = 0 := AF.out.2 hh
      subst hE0
      have hd1 : decide (1 ≤ n) = true := decide_eq_true hn1
      have hd2 : decide (n ≤ a0 - sum') = true := decide_eq_true hn2
      have hd4 : decide (n ≤ a0 - sum') = true := hd2
      (try rw [Int.sub_zero] at hd4)
      have hws : wrap64 (sum' + n) = sum' + n := w64 ap3_ ap3_
      go_wp2
      go_roundg (l2.length - (j + 1))
      case measure => omega
      case rel => exact ⟨j + 1, cur', T, sum' + n, rfl, by rw [AD.out], ap13_, ap5_, by omega, ⟨AKN.out, AT.out.1, AT.out.2, AIN.out, by rw [AD.out]; exact ASP.out hh⟩, HJ⟩
     ·have hE0 : ¬ E = 0 := fun e => hn2 (AF.out.1 e).2
      have hd1 : decide (1 ≤ n) = true := decide_eq_true hn1
      have hd2 : decide (n ≤ a0 - sum') = false := decide_eq_false hn2
      have hd4 : decide (n ≤ a0 - sum') = false := hd2
      (try rw [Int.sub_zero] at hd4)
      have hd3 : (E == 0) = false := beq_eq_false_iff_ne.2 hE0
      go_wp2
      go_roundg (l2.length - (j + 1))
      case measure => omega
      case rel => exact ⟨j + 1, cur', T, sum', rfl, by rw [AD.out], ap13_, ap5_, by omega, ⟨AKN.out, AT.out.1, AT.out.2, AIN.out, ap2_⟩, HJ⟩
    ·have hE0 : ¬ E = 0 := fun e => hn1 (AF.out.1 e).1
     have hd1 : decide (1 ≤ n) = false := decide_eq_false hn1
     have hd3 : (E == 0) = false := beq_eq_false_iff_ne.2 hE0
     go_wp2
     go_roundg (l2.length - (j + 1))
     case measure => omega
     case rel => exact ⟨j + 1, cur', T, sum', rfl, by rw [AD.out], ap13_, ap5_, by omega, ⟨AKN.out, AT.out.1, AT.out.2, AIN.out, ap2_⟩, HJ⟩
   ·rw [if_neg hq] at hs'
    subst hs'
    have hq0 : (D == W0) = false := beq_eq_false_iff_ne.2 hq
    have hq1 : (D != W0) = true := bne_iff_ne.2 hq
    go_wp2_with fail
    refine (qu_Left (base := w.heap.size) (ok := fun k => w.heap.size ≤ k) (w0 := w1) (g := g) (cur := cur) (⟨#[120]⟩ : ByteArray) T _ HJ.out hkv6 (by decide) AI.out hL).mono ?_
    rintro e w3 ⟨rfl, hb⟩
    have n_HJ := As_ (HJ.out.below hb)
    clear HJ hb hL
    have HJ := n_HJ
    clear n_HJ
    have hB0 := JW.toBelow HB1.out HB1.out.size HJ.out.jw (fun k hk => hk)
    have z1 := (hB0.cell (World.block_lt_of_cell? _ _ AZ1.out)).trans AZ1.out
    clear hB0
    have hr := AR.out
    have hw1 : wrap64 d.f1 = d.f1 := w64 (by omega) (by omega)
    obtain ⟨n, hn⟩ : ∃ z, d.f1 = z := ⟨_, rfl⟩
    rw [hn] at z1 hw1 hr
    have ANB := As_ hr.2
    clear hr hn
    obtain ⟨E, hE⟩ : ∃ z, quSpendE cur (⟨#[120]⟩ : ByteArray) T n = z := ⟨_, rfl⟩
    obtain ⟨cur', hcur'⟩ : ∃ z, quSpend cur (⟨#[120]⟩ : ByteArray) T n = z := ⟨_, rfl⟩
    have hkn := quSpend_KV AKV.out (⟨#[120]⟩ : ByteArray) T n
    have hin := AI.out.spend AKV.out.so (name := (⟨#[120]⟩ : ByteArray)) (by decide) T n
    have hiff := AH.out.spendE AD.out AT.out.1 (by have := AT.out.2; omega) n ANB.out
    have hsp : (1 ≤ n ∧ n ≤ a0 - 0) → QHold cur' (⟨#[120]⟩ : ByteArray) a0 a1 D (0 + n) := fun hh => by rw [← hcur']; exact AH.out.spent (by decide) AD.out AT.out.1 (by have := AT.out.2; omega) n hh
    have hno : ¬ E = 0 → cur' = cur := fun hh => by rw [← hcur']; unfold quSpend; rw [hE, if_neg hh]
    rw [hcur'] at hkn hin
    rw [hE] at hiff
    have AKN := As_ hkn
    have AIN := As_ hin
    have ASP := As_ hsp
    have ANO := As_ hno
    have AF := As_ hiff
    have A5 := As_ hE
    have A6 := As_ hcur'
    clear hkn hin hsp hno hiff hE hcur'
    go_wp2_with fail
    refine (qu_Spend (base := w.heap.size) (ok := fun k => w.heap.size ≤ k) (w0 := w1) (g := g) (cur := cur) (⟨#[120]⟩ : ByteArray) T n E cur' HJ.out hkv6 (by decide) AI.out A5.out A6.out).mono ?_
    rintro e w4 ⟨rfl, hj4, hk4⟩
    have n_HJ := As_ hj4
    clear HJ hj4 hk4
    have HJ := n_HJ
    clear n_HJ
    by_cases hn1 : 1 ≤ n
    ·by_cases hn2 : n ≤ a0 - 0
     ·have hh : 1 ≤ n ∧ n ≤ a0 - 0 := ⟨hn1, hn2⟩
      have hE0 : E = 0 := AF.out.2 hh
      subst hE0
      have hd1 : decide (1 ≤ n) = true := decide_eq_true hn1
      have hd2 : decide (n ≤ a0 - 0) = true := decide_eq_true hn2
      have hd4 : decide (n ≤ a0 - 0) = true := hd2
      (try rw [Int.sub_zero] at hd4)
      have hws : wrap64 (0 + n) = 0 + n := w64 ap3_ ap3_
      go_wp2
      go_roundg (l2.length - (j + 1))
      case measure => omega
      case rel => exact ⟨j + 1, cur', T, 0 + n, rfl, by rw [AD.out], ap13_, ap5_, by omega, ⟨AKN.out, AT.out.1, AT.out.2, AIN.out, by rw [AD.out]; exact ASP.out hh⟩, HJ⟩
     ·have hE0 : ¬ E = 0 := fun e => hn2 (AF.out.1 e).2
      have hd1 : decide (1 ≤ n) = true := decide_eq_true hn1
      have hd2 : decide (n ≤ a0 - 0) = false := decide_eq_false hn2
      have hd4 : decide (n ≤ a0 - 0) = false := hd2
      (try rw [Int.sub_zero] at hd4)
      have hd3 : (E == 0) = false := beq_eq_false_iff_ne.2 hE0
      go_wp2
      go_roundg (l2.length - (j + 1))
      case measure => omega
      case rel => exact ⟨j + 1, cur', T, 0, rfl, by rw [AD.out], ap13_, ap5_, by omega, ⟨AKN.out, AT.out.1, AT.out.2, AIN.out, ap2_⟩, HJ⟩
    ·have hE0 : ¬ E = 0 := fun e => hn1 (AF.out.1 e).1
     have hd1 : decide (1 ≤ n) = false := decide_eq_false hn1
     have hd3 : (E == 0) = false := beq_eq_false_iff_ne.2 hE0
     go_wp2
     go_roundg (l2.length - (j + 1))
     case measure => omega
     case rel => exact ⟨j + 1, cur', T, 0, rfl, by rw [AD.out], ap13_, ap5_, by omega, ⟨AKN.out, AT.out.1, AT.out.2, AIN.out, ap2_⟩, HJ⟩
  ·obtain rfl : j = l2.length := by omega
   go_wp2_with fail
   refine (quaw_calls _).mono ?_
   rintro e w' ⟨rfl, hb⟩
   have hB := JW.toBelow HB1.out HB1.out.size HJ.out.jw (fun k hk => hk)
   have hfin := As_ (hB.trans (hb.mono hB.size))
   clear HJ hb hB
   go_wp2
   go_ret
   exact ⟨rfl, hfin.out⟩
end Go.Proofs.YtgapkicplhbidaaDoor.PQuh
