-- written by wip/myprint.py over the kit's print; not a printed text of print.sh
import Derived.Test.YtonipkgekhdogaaGreatDoorPBasx0
import Derived.Test.YtonipkgekhdogaaGreatDoorPBasx3
import Derived.Test.YtonipkgekhdogaaGreatDoorPBasx7
import Derived.Test.YtonipkgekhdogaaGreatDoorPBasx10
import Derived.Test.YtonipkgekhdogaaGreatDoorPBasx17
import Derived.Test.YtonipkgekhdogaaGreatDoorPBasx18
import Derived.Test.YtonipkgekhdogaaGreatDoorPBasx19
import Derived.Test.YtonipkgekhdogaaGreatDoorPBasx20
import Derived.Test.YtonipkgekhdogaaGreatDoorPBasx24
import Derived.Test.YtonipkgekhdogaaGreatDoorPBasx40
import Derived.Test.YtonipkgekhdogaaGreatDoorPBasx41
namespace Go.Proofs.YtonipkgekhdogaaGreatDoor.PBas
open Go.RowKit Go.Proofs.YtonipkgekhdogaaGreatDoorW.PrintWords Go.Proofs.YtonipkgekhdogaaGreatDoorW.PrintLast Go.Proofs.YtonipkgekhdogaaGreatDoorW.PrintMore
attribute [local go_sem] max2_int min2_int max_two min_two max_three min_three max_four min_four   -- for this text's walks alone
set_option linter.unusedVariables false
set_option linter.unusedSimpArgs false

/-! ### footbridgelaw47_with: function 10 -/
-- @break
theorem own_C {w : World} {b0 c : Nat} {A : Option Addr} {l : List ByteArray} (ho : w.ownsRow b0 9 1 (.slice A l.length c) l.length (encs Value.string l)) : Kd.C Kd.string w A l.length l :=
  (Kd.R_reads' (Kd.R_of_own (h1 := fun _ => rfl) (ok := fun _ => True) ho (fun _ _ => trivial))).2.2
theorem own_js {w w1 W : World} {b0 n n0 g : Nat} {ok : Nat → Prop} {v : Value} {xs : List Value} {cur : List S73} (ho : w.ownsRow b0 9 1 v n xs) (hb : Below w.heap.size w w1)
    (h : JS n0 (fun k => ok k ∧ n0 ≤ k ∧ k < w.heap.size ∧ ∃ q, q ∈ JT ∧ ∃ cells, w.heap[k]? = some (.cells cells q (0, 0))) w1 g cur W) : W.ownsRow b0 9 1 v n xs :=
  own_move (pw_own_below ho hb) (fun k e => h.jw.block k (own_lt (pw_own_below ho hb) k e) (fun hk => by
    obtain ⟨_, _, _, q, hq, c2, hc2⟩ := hk
    obtain ⟨c1, hc1⟩ := own_typed ho k e
    exact absurd (blk_ty hc1 hc2 ▸ hq) (by decide)))
theorem bk_grow (b0 : Nat) (A : Option Addr) (l : List ByteArray) (s : ByteArray) {wx : World} (hC : Kd.C Kd.string wx A l.length l) (hb0 : b0 ≤ wx.heap.size) (hl : l.length ≤ 1000) (ty : TypeId) :
    ∃ v1 w1, (Builtin.append_ #[28, 28] ty #[.slice A l.length l.length, .slice (some ⟨wx.heap.size, 0, none⟩) 1 1]).run Tryz.prog (wx.alloc (.cells #[.string s] 9)) = .ok v1 w1 ∧ (∃ A1 c1, v1 = .slice A1 (l ++ [s]).length c1 ∧ w1.ownsRow b0 9 1 v1 (l ++ [s]).length (encs Value.string (l ++ [s]))) ∧ Below wx.heap.size wx w1 := by
  obtain ⟨i0, hi, hzz⟩ := Option.map_eq_some_iff.1 (show (Tryz.prog.info? 9).map (fun i => (i.zero, i.size, i.bytes)) = some (some (.string ByteArray.empty), 1, 16) by kernel_rfl)
  simp only [Prod.mk.injEq] at hzz
  obtain ⟨hz0, hz1, hz2⟩ := hzz
  have hU : Tryz.prog.underlying 28 = some (.slice 9) := by kernel_rfl
  have hb1 : Below wx.heap.size wx (wx.alloc (.cells #[.string s] 9)) := (Below.refl _ wx).alloc (Nat.le_refl _) _
  have hnew : ∀ j u, ([.string s] : List Value)[j]? = some u → (wx.alloc (.cells #[.string s] 9)).cell? ((⟨wx.heap.size, 0, none⟩ : Addr).add j) = some u := fun j u hj => by
    match j with
    | 0 => obtain rfl := Option.some.inj hj; exact (blk_cell (my_alloc_new wx _) 0).trans rfl
    | j + 1 => exact absurd hj (by simp)
  have hone : ∀ u ∈ ([.string s] : List Value), u.oneCell' = true := by intro u hu; rw [List.mem_singleton.1 hu]; rfl
  have fin : ∀ (v1 : Value) (w1 : World), w1.ownsRow wx.heap.size 9 1 v1 (l.length + 1) (encs Value.string (l ++ [s])) → (∃ A1 c1, v1 = .slice A1 (l ++ [s]).length c1 ∧ w1.ownsRow b0 9 1 v1 (l ++ [s]).length (encs Value.string (l ++ [s]))) := fun v1 w1 ho => by
    have ho2 : w1.ownsRow b0 9 1 v1 (l ++ [s]).length (encs Value.string (l ++ [s])) := by rw [List.length_append, List.length_singleton]; exact own_weaken ho hb0
    obtain ⟨A1, c1, e, _, _⟩ := row_slice ho2
    exact ⟨A1, c1, e, ho2⟩
  have henc : encs Value.string (l ++ [s]) = encs Value.string l ++ [.string s] := by unfold encs; rw [List.map_append]; rfl
  cases A with
  | none =>
    have h0 : l = [] := by
      cases l with
      | nil => rfl
      | cons x t =>
        obtain ⟨ad, e, _⟩ := Kd.at_string hC 0 (by omega) (by simp)
        cases e
    subst h0
    obtain ⟨v1, w1, hrun, a1, a2, _, _⟩ := run_append_own_at (P := Tryz.prog) (w := wx.alloc (.cells #[.string s] 9)) wx.heap.size 28 ty 9 i0 _ 1 16 hU hi hz0 hz1 hz2 rfl (by decide) (.slice none 0 0) 0 [] (own_nil _ _ _ _) ⟨wx.heap.size, 0, none⟩ 1 1 [.string s] rfl hnew hone (by unfold maxLen; omega) (by omega) hb1.size
    exact ⟨v1, w1, hrun, fin v1 w1 a1, hb1.grown a2 hb1.size (fun k e => by simp [Value.ownBlock] at e)⟩
  | some ad =>
    obtain ⟨v1, w1, hrun, a1, a2⟩ := run_append_arg_grows (P := Tryz.prog) (wx.alloc (.cells #[.string s] 9)) 28 ty 9 i0 _ 1 16 hU hi hz0 hz1 hz2 rfl (by decide) ad l.length l.length (encs Value.string l) (by unfold encs; rw [List.length_map, Nat.mul_one])
      (fun j u hj => by
        unfold encs at hj
        rw [List.getElem?_map] at hj
        obtain ⟨x, hx, rfl⟩ := Option.map_eq_some_iff.1 hj
        obtain ⟨hj2, hx2⟩ := List.getElem?_eq_some_iff.1 hx
        obtain ⟨ad2, e, h⟩ := Kd.at_string hC (j : Int) (by omega) (by omega)
        cases e
        rw [rdOf_get l j hj2, hx2, Int.toNat_natCast] at h
        exact (hb1.cell (World.block_lt_of_cell? _ _ h)).trans h)
      ⟨wx.heap.size, 0, none⟩ 1 1 [.string s] rfl hnew (by omega) (by unfold maxLen; omega) (by omega)
    exact ⟨v1, w1, hrun, fin v1 w1 (by rw [henc]; exact own_weaken a1 hb1.size), hb1.grown a2 hb1.size (fun k e => by simp [Value.ownBlock] at e)⟩
set_option maxHeartbeats 4000000 in
set_option maxRecDepth 100000 in
theorem bkwith_calls (b0 : Nat) (A : Option Addr) (c : Nat) (l : List ByteArray) (s : ByteArray) {w : World} (ho : w.ownsRow b0 9 1 (.slice A l.length c) l.length (encs Value.string l)) (hb0 : b0 ≤ w.heap.size) (hl : l.length ≤ 1000) :
    Calls Tryz.prog 10 #[.slice A l.length c, .string s] w fun e w' => ∃ A1 c1, e = .returned (.slice A1 (withB l s).length c1) ∧ w'.ownsRow b0 9 1 (.slice A1 (withB l s).length c1) (withB l s).length (encs Value.string (withB l s)) ∧ Below w.heap.size w w' := by
  have HO := Aside0.mk ho
  have hr := own_C ho
  have hc := own_le ho
  clear ho
  have HR := Aside0.mk hr
  have HB := Aside0.mk (Below.refl w.heap.size w)
  clear hr
  go_enter Tryz.func10, Tryz.ntmps10
  go_wp2_with fail
  go_loopg [5] l.length (fun gg si wx => ∃ i : Nat, si = .int .i64 (i : Int) ∧ i + gg = l.length ∧ (∀ x ∈ l.take i, x ≠ s) ∧ Aside0 (Below w.heap.size w wx))
  case atStart => exact ⟨0, rfl, by omega, (fun s h => by simp at h), HB⟩
  case round =>
    clear HB
    obtain ⟨i, rfl, hi, hall, HL⟩ := hrel
    by_cases hlt : i < l.length
    · have p1 : (0 : Int) ≤ (i : Int) := by omega
      have q1 : (i : Int) < (l.length : Int) := by omega
      obtain ⟨ad, e1, hx1⟩ := Kd.at_string HR.out (i : Int) p1 q1
      cases e1
      replace hx1 := (HL.out.cell (World.block_lt_of_cell? _ _ hx1)).trans hx1
      rw [rdOf_get l i hlt] at hx1
      simp only [Int.toNat_natCast] at hx1
      have AM := Aside0.mk (List.getElem_mem hlt)
      have AT := Aside0.mk (show l.take (i + 1) = l.take i ++ [l[i]] by rw [List.take_add_one, List.getElem?_eq_getElem hlt]; rfl)
      generalize l[i] = d at hx1 AM AT
      have A3 := Aside0.mk hall
      have AW := Aside0.mk (w_one i (by omega))
      clear hall
      by_cases hz : d = s
      · subst hz
        have hw := Aside0.mk (show withB l d = l from if_pos AM.out)
        have hfin := Aside0.mk (pw_own_below HO.out HL.out)
        go_wp2
        go_ret
        rw [hw.out]
        exact ⟨_, _, rfl, hfin.out, HL.out⟩
      · have hzb : (d.toList == s.toList) = false := Bool.eq_false_iff.2 (fun h => hz (ba_ext (by simpa using h)))
        go_wp2
        go_roundg (l.length - (i + 1))
        case measure => omega
        case rel => exact ⟨i + 1, by first | rfl | (rw [AW.out]) | (simp; done), by omega, (by
          intro x hx
          rw [AT.out] at hx
          rcases List.mem_append.1 hx with hx | hx
          · exact A3.out x hx
          · rw [List.mem_singleton.1 hx]; exact hz), HL⟩
    · obtain rfl : i = l.length := by omega
      rw [List.take_length] at hall
      have hw := Aside0.mk (show withB l s = l ++ [s] from if_neg (fun h => hall s h rfl))
      obtain ⟨v1, w1, hrun, hv, hb⟩ := bk_grow b0 A l s (Kd.C_below HR.out HL.out) (Nat.le_trans hb0 HL.out.size) hl 28
      have hfin := Aside0.mk (HL.out.trans (hb.mono HL.out.size))
      have hv2 := Aside0.mk hv
      clear hall hv hb HL HR HO
      go_wp2_with (at_builtin; refine Lib.wpList_append_run _ rfl _ _ _ _ rfl _ _ rfl rfl _ _ hrun ?_)
      obtain ⟨A1, c1, rfl, h1⟩ := hv2.out
      go_ret
      rw [hw.out]
      exact ⟨A1, c1, rfl, h1, hfin.out⟩
-- @break
def footbridgelaw47_BankSums.f (_l0 : List S30) : Option Bool := some true
set_option maxHeartbeats 8000000 in
set_option maxRecDepth 100000 in
theorem footbridgelaw47_BankSums.calls (A0 : Option Addr) (c0 : Nat) (l0 : List S30) (r : Bool) (w : World) (hr0 : Kd.C k30 w A0 l0.length l0) (hc0 : l0.length ≤ c0) (h : footbridgelaw47_BankSums.f l0 = some r) :
    Calls Tryz.prog 3 #[.slice A0 l0.length c0] w fun e w' => e = .returned (.bool r) ∧ Below w.heap.size w w' := by
  obtain rfl : true = r := Option.some.inj h
  clear h
  by_cases hbig : 30 < l0.length
  · go_enter Tryz.func3, Tryz.ntmps3
    go_wp2_with fail
    refine (bkaw_calls w).mono ?_
    rintro e w' ⟨rfl, hb⟩
    go_wp2
    go_ret
    exact ⟨rfl, hb⟩
  have HR0 := Aside0.mk hr0
  clear hr0
  go_enter Tryz.func3, Tryz.ntmps3
  go_wp2_with fail
  refine (j_new_nil w).mono ?_
  rintro e w1 ⟨g, rfl, hm, hb⟩
  have J0 : Aside0 (J1 w.heap.size g [] (.slice none 0 0) [] w1) := Aside0.mk (J1.of hm (Kd.V_nil _ _ _ _ _))
  have HB0 := Aside0.mk hb
  have hn0 := hb.size
  clear hm hb
  go_wp2_with fail
  go_loopg [4, 5, 6] l0.length (fun gg s4 s5 s6 wx => ∃ (j : Nat) (cur : List S73) (all : List ByteArray) (A5 : Option Addr) (c5 : Nat), s6 = .int .i64 j ∧ s5 = .slice A5 all.length c5 ∧ j + gg = l0.length ∧ KV (2 * j) cur ∧ all.length ≤ 2 * j ∧ w.heap.size ≤ wx.heap.size ∧ Aside0 ((BInv cur all ∧ ∀ s ∈ all, s.size ≤ 300) ∧ wx.ownsRow w.heap.size 9 1 (.slice A5 all.length c5) all.length (encs Value.string all)) ∧ Aside0 (J1 w.heap.size g cur s4 cur wx) ∧ Aside0 (Below w.heap.size w wx))
  case atStart => exact ⟨0, [], [], none, 0, rfl, rfl, by omega, KV.nil _, Nat.zero_le _, hn0, ⟨⟨BInv.none, fun s h => by simp at h⟩, own_nil _ _ _ _⟩, J0, HB0⟩
  case round =>
    clear J0 HB0 hn0
    obtain ⟨j, cur, all, A5, c5, rfl, rfl, hj, hkv, hal, hnr, HAll, JLr, HBr⟩ := hrel
    by_cases hlt : j < l0.length
    · have hx0 : (0 : Int) ≤ ((j : Nat) : Int) := by omega
      have hkl : ((j : Nat) : Int) < (l0.length : Int) := by omega
      obtain ⟨ad, e1, zw0, zw1, zw2, zw3⟩ := at_T30 HR0.out ((j : Nat) : Int) hx0 hkl
      subst e1
      generalize rd_T30 l0 (j : Int) = d at zw0 zw1 zw2 zw3
      rw [Int.toNat_natCast] at zw0 zw1 zw2 zw3
      have z0 := (HBr.out.cell (World.block_lt_of_cell? _ _ zw0)).trans zw0
      have z1 := (HBr.out.cell (World.block_lt_of_cell? _ _ zw1)).trans zw1
      have z2 := (HBr.out.cell (World.block_lt_of_cell? _ _ zw2)).trans zw2
      have z3 := (HBr.out.cell (World.block_lt_of_cell? _ _ zw3)).trans zw3
      have AW := Aside0.mk (w_one j (by omega))
      by_cases hf : 300 < (d.f1.size : Int)
      · go_wp2
        go_roundg (l0.length - (j + 1))
        case measure => omega
        case rel => exact ⟨j + 1, cur, all, _, c5, by first | rfl | (rw [AW.out]) | (simp; done), rfl, by omega, hkv.mono (by omega), by omega, hnr, HAll, JLr, HBr⟩
      by_cases ht : 300 < (d.f2.size : Int)
      · go_wp2
        go_roundg (l0.length - (j + 1))
        case measure => omega
        case rel => exact ⟨j + 1, cur, all, _, c5, by first | rfl | (rw [AW.out]) | (simp; done), rfl, by omega, hkv.mono (by omega), by omega, hnr, HAll, JLr, HBr⟩
      have hs1 : d.f1.size ≤ 300 := by omega
      have hs2 : d.f2.size ≤ 300 := by omega
      have hkv6 := hkv.mono (show 2 * j ≤ 1000000 by omega)
      obtain ⟨T0, hT0⟩ : ∃ z, bkAll cur = z := ⟨_, rfl⟩
      obtain ⟨ok0, hlt0, hm0, hv0⟩ := id JLr.out
      go_wp2_with fail
      refine (bk_all T0 (JS.start hm0 hnr) hkv6 hT0).mono ?_
      rintro e wt ⟨rfl, hbt⟩
      have q0 := (hbt.cell (World.block_lt_of_cell? _ _ z0)).trans z0
      have q1 := (hbt.cell (World.block_lt_of_cell? _ _ z1)).trans z1
      have q2 := (hbt.cell (World.block_lt_of_cell? _ _ z2)).trans z2
      have q3 := (hbt.cell (World.block_lt_of_cell? _ _ z3)).trans z3
      have hkv9 := hkv.mono (show 2 * j ≤ 900 by omega)
      have hkvn := bkDo_KV hkv d.f0 d.f1 d.f2 d.f3
      obtain ⟨hI1, hI2⟩ := HAll.out.1.1.did hkv.so d.f0 hs1 hs2 d.f3
      obtain ⟨cur', hcur'⟩ : ∃ c, bkDo cur d.f0 d.f1 d.f2 d.f3 = c := ⟨_, rfl⟩
      obtain ⟨E, hE⟩ : ∃ c, bkDoE cur d.f0 d.f1 d.f2 d.f3 = c := ⟨_, rfl⟩
      rw [hcur'] at hkvn hI1 hI2
      have hkvn6 := hkvn.mono (show 2 * j + 2 ≤ 1000000 by omega)
      have hm2 := (hm0.below hbt).bound
      have hv2 := Kd.V_mono (Kd.V_below hv0 hbt) (ok' := fun k => ¬ (ok0 k ∧ w.heap.size ≤ k ∧ k < wt.heap.size ∧ ∃ q, q ∈ JT ∧ ∃ cells, wt.heap[k]? = some (.cells cells q (0, 0)))) (fun k hk h => hk h.1)
      have hO1 := pw_own_below HAll.out.2 hbt
      have hnt := Nat.le_trans hnr hbt.size
      obtain ⟨A4, c4, rfl, hc4, _⟩ := id hv2
      have hD := bkdo_calls w.heap.size g _ cur cur' A4 c4 d.f0 d.f1 d.f2 d.f3 E hm2 (fun k hk => hk.2.2.1) hnt hv2 hkv9 hs1 hs2 hE hcur'
      have HBt := Aside0.mk (HBr.out.trans (hbt.mono HBr.out.size))
      have AO1 := Aside0.mk hO1
      have AI := Aside0.mk (And.intro hI1 (fun hk => (hI2 hk).trans hT0))
      have AS := Aside0.mk HAll.out.1.2
      clear hm0 hv0 hm2 hv2 JLr hcur' hE hlt0 hO1 hI1 hI2 HAll z0 z1 z2 z3 hbt HBr
      go_wp2_with fail
      refine hD.mono ?_
      rintro e w4 ⟨v3, w3, rfl, hb3, hjs, hv3⟩
      have AO := Aside0.mk (own_js AO1.out hb3 hjs)
      have HV := Aside0.mk hv3
      have AK := Aside0.mk (show ∀ k, (ok0 k ∧ w.heap.size ≤ k ∧ k < wt.heap.size ∧ ∃ q, q ∈ JT ∧ ∃ cells, wt.heap[k]? = some (.cells cells q (0, 0))) → w.heap.size ≤ k from fun k hk => hk.2.1)
      have HB3 := Aside0.mk (HBt.out.trans (hb3.mono HBt.out.size))
      have hn3 := Nat.le_trans hnt hb3.size
      have HJ := Aside0.mk hjs
      obtain ⟨A3, c3, rfl, hc3, _⟩ := id HV.out
      have hB4 := HJ.out.old HB3.out hn3 AK.out
      have p0 := (hB4.cell (World.block_lt_of_cell? _ _ zw0)).trans zw0
      have p1 := (hB4.cell (World.block_lt_of_cell? _ _ zw1)).trans zw1
      have p2 := (hB4.cell (World.block_lt_of_cell? _ _ zw2)).trans zw2
      have AL := Aside0.mk hkvn.len
      obtain ⟨T1, hT1⟩ : ∃ z, bkAll cur' = z := ⟨_, rfl⟩
      clear hD hv3 hjs hb3 hB4 hkv9 AO1 HBt q0 q1 q2 q3
      by_cases hk1 : d.f0 > 1
      · obtain rfl : T1 = T0 := hT1.symm.trans (AI.out.2 hk1)
        go_wp2_with fail
        refine (bk_all T1 HJ.out hkvn6 hT1).mono ?_
        rintro e w5 ⟨rfl, hb5⟩
        have r1 := (hb5.cell (World.block_lt_of_cell? _ _ p1)).trans p1
        have r2 := (hb5.cell (World.block_lt_of_cell? _ _ p2)).trans p2
        have n_HJ := Aside0.mk (HJ.out.below hb5)
        have n_AO := Aside0.mk (pw_own_below AO.out hb5)
        clear HJ AO p0 p1 p2 hb5
        have HJ := n_HJ
        have AO := n_AO
        clear n_HJ n_AO
        as_aux_lemma =>
          go_upto_region 17 with (fail)
          refine start_ (n := 14) (S := fun w' => w'.cell? ⟨(ad.add (j * 4)).block, (ad.add (j * 4)).off + 1, none⟩ = some (.string d.f1) ∧ w'.cell? ⟨(ad.add (j * 4)).block, (ad.add (j * 4)).off + 2, none⟩ = some (.string d.f2)) (ds := []) #[false, false, false, false, false, false, false, false, false, false, false, false, false, false] (by kernel_rfl) rfl rfl ⟨r1, r2⟩ (fun hHeld => ?_)
          have nn_HJ := Aside0.mk (HJ.out.below (below_drew (Below.refl _ _)))
          have nn_AO := Aside0.mk (pw_own_below AO.out (below_drew (Below.refl _ _)))
          clear HJ AO r1 r2
          generalize World.drew _ = w6 at hHeld nn_HJ nn_AO ⊢
          have HJ := nn_HJ
          have AO := nn_AO
          clear nn_HJ nn_AO
          refine pure_ (i := 0) (N := some 69) (v := ?_) (a' := ?_) #[true, false, false, false, false, false, false, false, false, false, false, false, false, false] rfl rfl (by kernel_rfl) (fun _ _ _ h => h) (Or.inl ⟨by rfl, ?_⟩) ?_ ?_
          rotate_left
          · intro w'
            go_simp
            with_reducible rfl
          rotate_left
          · simp only [Act.put, List.setIfInBounds_toArray, List.set_cons_zero, List.set_cons_succ, i64_w, i32_w]
            rfl
          refine pure_ (i := 1) (N := some 70) (v := ?_) (a' := ?_) #[true, true, false, false, false, false, false, false, false, false, false, false, false, false] rfl rfl (by kernel_rfl) (fun _ _ _ h => h) (Or.inl ⟨by rfl, ?_⟩) ?_ ?_
          rotate_left
          · intro w'
            go_simp
            with_reducible rfl
          rotate_left
          · simp only [Act.put, List.setIfInBounds_toArray, List.set_cons_zero, List.set_cons_succ, i64_w, i32_w]
            rfl
          refine pure_ (i := 2) (N := some 71) (v := ?_) (a' := ?_) #[true, true, true, false, false, false, false, false, false, false, false, false, false, false] rfl rfl (by kernel_rfl) (fun _ _ _ h => h) (Or.inl ⟨by rfl, ?_⟩) ?_ ?_
          rotate_left
          · intro w'
            go_simp
            with_reducible rfl
          rotate_left
          · simp only [Act.put, List.setIfInBounds_toArray, List.set_cons_zero, List.set_cons_succ, i64_w, i32_w]
            rfl
          refine pure_ (i := 3) (N := some 72) (v := ?_) (a' := ?_) #[true, true, true, true, false, false, false, false, false, false, false, false, false, false] rfl rfl (by kernel_rfl) (fun _ _ _ h => h) (Or.inl ⟨by rfl, ?_⟩) ?_ ?_
          rotate_left
          · intro w'
            go_simp
            with_reducible rfl
          rotate_left
          · simp only [Act.put, List.setIfInBounds_toArray, List.set_cons_zero, List.set_cons_succ, i64_w, i32_w]
            rfl
          refine pure_ (i := 4) (N := some 73) (v := ?_) (a' := ?_) #[true, true, true, true, true, false, false, false, false, false, false, false, false, false] rfl rfl (by kernel_rfl) (fun _ _ _ h => h) (Or.inl ⟨by rfl, ?_⟩) ?_ ?_
          rotate_left
          · intro w'
            go_simp
            with_reducible rfl
          rotate_left
          · simp only [Act.put, List.setIfInBounds_toArray, List.set_cons_zero, List.set_cons_succ, i64_w, i32_w]
            rfl
          refine take_ (i := 5) (N := some 74) (v := ?_) (a' := ?_) #[true, true, true, true, true, true, false, false, false, false, false, false, false, false] rfl rfl (by kernel_rfl) (fun _ _ _ h => h) (Or.inl ⟨by rfl, ?_⟩) hHeld ?_ ?_
          rotate_left
          · rintro w' ⟨s1, s2⟩
            go_simp
            with_reducible rfl
          rotate_left
          · simp only [Act.put, List.setIfInBounds_toArray, List.set_cons_zero, List.set_cons_succ, i64_w, i32_w]
            rfl
          refine pure_ (i := 7) (N := some 76) (v := ?_) (a' := ?_) #[true, true, true, true, true, true, false, true, false, false, false, false, false, false] rfl rfl (by kernel_rfl) (fun _ _ _ h => h) (Or.inl ⟨by rfl, ?_⟩) ?_ ?_
          rotate_left
          · intro w'
            go_simp
            with_reducible rfl
          rotate_left
          · simp only [Act.put, List.setIfInBounds_toArray, List.set_cons_zero, List.set_cons_succ, i64_w, i32_w]
            rfl
          refine pure_ (i := 8) (N := some 77) (v := ?_) (a' := ?_) #[true, true, true, true, true, true, false, true, true, false, false, false, false, false] rfl rfl (by kernel_rfl) (fun _ _ _ h => h) (Or.inl ⟨by rfl, ?_⟩) ?_ ?_
          rotate_left
          · intro w'
            go_simp
            with_reducible rfl
          rotate_left
          · simp only [Act.put, List.setIfInBounds_toArray, List.set_cons_zero, List.set_cons_succ, i64_w, i32_w]
            rfl
          refine pure_ (i := 9) (N := some 78) (v := ?_) (a' := ?_) #[true, true, true, true, true, true, false, true, true, true, false, false, false, false] rfl rfl (by kernel_rfl) (fun _ _ _ h => h) (Or.inl ⟨by rfl, ?_⟩) ?_ ?_
          rotate_left
          · intro w'
            go_simp
            with_reducible rfl
          rotate_left
          · simp only [Act.put, List.setIfInBounds_toArray, List.set_cons_zero, List.set_cons_succ, i64_w, i32_w]
            rfl
          refine pure_ (i := 10) (N := some 79) (v := ?_) (a' := ?_) #[true, true, true, true, true, true, false, true, true, true, true, false, false, false] rfl rfl (by kernel_rfl) (fun _ _ _ h => h) (Or.inl ⟨by rfl, ?_⟩) ?_ ?_
          rotate_left
          · intro w'
            go_simp
            with_reducible rfl
          rotate_left
          · simp only [Act.put, List.setIfInBounds_toArray, List.set_cons_zero, List.set_cons_succ, i64_w, i32_w]
            rfl
          refine take_ (i := 11) (N := some 80) (v := ?_) (a' := ?_) #[true, true, true, true, true, true, false, true, true, true, true, true, false, false] rfl rfl (by kernel_rfl) (fun _ _ _ h => h) (Or.inl ⟨by rfl, ?_⟩) hHeld ?_ ?_
          rotate_left
          · rintro w' ⟨s1, s2⟩
            go_simp
            with_reducible rfl
          rotate_left
          · simp only [Act.put, List.setIfInBounds_toArray, List.set_cons_zero, List.set_cons_succ, i64_w, i32_w]
            rfl
          refine one_ (i := 6) (N := some 75) #[true, true, true, true, true, true, true, true, true, true, true, true, false, false] rfl rfl (by kernel_rfl) (by decide) (fun K hK => ?_)
          refine goes_ Tryz.func10 (by kernel_rfl) rfl #[.slice A5 all.length c5, .string d.f1] (by rfl) rfl rfl (by (try simp only [List.map_toArray, List.map_cons, List.map_nil]); first | done | rfl) ?_
          refine (bkwith_calls w.heap.size A5 c5 all d.f1 AO.out (Nat.le_trans hn3 HJ.out.jw.size) (by omega)).mono ?_
          rintro e w7_6 ⟨A6_6, c6_6, rfl, hO6, hb⟩
          refine ⟨_, rfl, ?_⟩
          have hW6 := with_len all d.f1
          have AS6 := Aside0.mk (with_sz AS.out hs1)
          obtain ⟨al6, hal6⟩ : ∃ z, withB all d.f1 = z := ⟨_, rfl⟩
          rw [hal6] at hW6
          have n_AS := Aside0.mk (show ∀ x ∈ al6, x.size ≤ 300 by rw [← hal6]; exact AS6.out)
          have n_AI := Aside0.mk (show _ by have h := AI.out; rw [hal6] at h; exact h)
          simp only [hal6] at hO6 ⊢
          have n_AO := Aside0.mk hO6
          have n_HJ := Aside0.mk (HJ.out.below hb)
          clear HJ AO AS AI AS6 hO6 hal6
          have HJ := n_HJ
          have AO := n_AO
          have AS := n_AS
          have AI := n_AI
          clear n_HJ n_AO n_AS n_AI
          refine hK.out _ _ ⟨(hb.cell (World.block_lt_of_cell? _ _ hHeld.1)).trans hHeld.1, (hb.cell (World.block_lt_of_cell? _ _ hHeld.2)).trans hHeld.2⟩ (fun hHeld => ?_)
          clear hb
          clear hK K
          refine norm_ (a' := ?_) ?_ ?_
          rotate_left
          · show Act.put _ (some 75) _ = _
            simp only [Act.put, List.setIfInBounds_toArray, List.set_cons_zero, List.set_cons_succ, i64_w, i32_w]
            rfl
          refine one_ (i := 12) (N := some 81) #[true, true, true, true, true, true, true, true, true, true, true, true, true, false] rfl rfl (by kernel_rfl) (by decide) (fun K hK => ?_)
          refine goes_ Tryz.func10 (by kernel_rfl) rfl #[.slice A6_6 al6.length c6_6, .string d.f2] (by rfl) rfl rfl (by (try simp only [List.map_toArray, List.map_cons, List.map_nil]); first | done | rfl) ?_
          refine (bkwith_calls w.heap.size A6_6 c6_6 al6 d.f2 AO.out (Nat.le_trans hn3 HJ.out.jw.size) (by omega)).mono ?_
          rintro e w7_12 ⟨A6_12, c6_12, rfl, hO6, hb⟩
          refine ⟨_, rfl, ?_⟩
          have hW12 := with_len al6 d.f2
          have AS12 := Aside0.mk (with_sz AS.out hs2)
          obtain ⟨al12, hal12⟩ : ∃ z, withB al6 d.f2 = z := ⟨_, rfl⟩
          rw [hal12] at hW12
          have n_AS := Aside0.mk (show ∀ x ∈ al12, x.size ≤ 300 by rw [← hal12]; exact AS12.out)
          have n_AI := Aside0.mk (show _ by have h := AI.out; rw [hal12] at h; exact h)
          simp only [hal12] at hO6 ⊢
          have n_AO := Aside0.mk hO6
          have n_HJ := Aside0.mk (HJ.out.below hb)
          clear HJ AO AS AI AS12 hO6 hal12
          have HJ := n_HJ
          have AO := n_AO
          have AS := n_AS
          have AI := n_AI
          clear n_HJ n_AO n_AS n_AI
          refine hK.out _ _ ⟨(hb.cell (World.block_lt_of_cell? _ _ hHeld.1)).trans hHeld.1, (hb.cell (World.block_lt_of_cell? _ _ hHeld.2)).trans hHeld.2⟩ (fun hHeld => ?_)
          clear hb
          clear hK K
          refine norm_ (a' := ?_) ?_ ?_
          rotate_left
          · show Act.put _ (some 81) _ = _
            simp only [Act.put, List.setIfInBounds_toArray, List.set_cons_zero, List.set_cons_succ, i64_w, i32_w]
            rfl
          refine pure_ (i := 13) (N := some 5) (v := ?_) (a' := ?_) #[true, true, true, true, true, true, true, true, true, true, true, true, true, true] rfl rfl (by kernel_rfl) (fun _ _ _ h => h) (Or.inl ⟨by rfl, ?_⟩) ?_ ?_
          rotate_left
          · intro w'
            go_simp
            with_reducible rfl
          rotate_left
          · simp only [Act.put, List.setIfInBounds_toArray, List.set_cons_zero, List.set_cons_succ, i64_w, i32_w]
            rfl
          refine done_ (by kernel_rfl) ?_
          clear hHeld
          obtain ⟨wf, hwf⟩ : ∃ z, w7_12 = z := ⟨_, rfl⟩
          have hlen2 : al12.length ≤ 2 * j + 2 := by omega
          have HBk0 := Aside0.mk (Below.refl wf.heap.size wf)
          have APre := Aside0.mk (sumB_part AI.out.1.pos al12)
          have APos := Aside0.mk (fun s => And.intro (AI.out.1.pos s) (Int.le_trans (AI.out.1.le s) AI.out.1.cap))
          have AS0 : Aside0 (sumB (bkOf cur') al12 = T1 ∧ T1 ≤ 1099511627776) := Aside0.mk ⟨AI.out.1.tot.trans hT1, by rw [← hT1]; exact AI.out.1.cap⟩
          subst hwf
          go_wp2_with fail
          go_loopg [11, 12] al12.length (fun gk s11 s12 wx => ∃ (k : Nat), s12 = .int .i64 (k : Int) ∧ s11 = .int .i64 (sumB (bkOf cur') (al12.take k)) ∧ k + gk = al12.length ∧ Aside0 (Below w7_12.heap.size w7_12 wx))
          case atStart => exact ⟨0, rfl, rfl, by omega, HBk0⟩
          case round =>
            clear HBk0
            obtain ⟨k, rfl, rfl, hk, HBk⟩ := hrel
            by_cases hlk : k < al12.length
            · have x0 : (0 : Int) ≤ (k : Int) := by omega
              have x1 : (k : Int) < (al12.length : Int) := by omega
              obtain ⟨ak, e1, hx1⟩ := Kd.at_string (Kd.C_below (own_C AO.out) HBk.out) (k : Int) x0 x1
              subst e1
              rw [rdOf_get al12 k hlk] at hx1
              simp only [Int.toNat_natCast] at hx1
              have hsz := AS.out _ (List.getElem_mem hlk)
              have hsum := sumB_take (bkOf cur') al12 k hlk
              have hP1 := APre.out (k + 1)
              have hP0 := APre.out k
              have hOb := APos.out al12[k]
              rw [hsum] at hP1
              have AW2 := Aside0.mk (w_one k (by omega))
              rw [AS0.out.1] at hP1
              have hT9 := AS0.out.2
              generalize al12[k] = q at hx1 hsz hsum hP1 hOb
              obtain ⟨O, hO⟩ : ∃ z, bkOf cur' q = z := ⟨_, rfl⟩
              rw [hO] at hsum hP1 hOb
              have A9 := Aside0.mk hsum
              generalize sumB (bkOf cur') (al12.take k) = S0 at hP1 hP0 hsum A9 ⊢
              have A10 := Aside0.mk (show wrap64 (S0 + O) = sumB (bkOf cur') (al12.take (k + 1)) by rw [A9.out]; exact w64 (by omega) (by omega))
              have o1 : ¬ (O < 0) := by omega
              have o2 : ¬ (O > 1099511627776) := by omega
              clear hsum hP1 hP0 hOb hT9
              go_wp2_with fail
              refine (bk_of q O (HJ.out.below HBk.out) hkvn6 (by omega) hO).mono ?_
              rintro e w8 ⟨rfl, hb8⟩
              have HBk2 := Aside0.mk (HBk.out.trans (hb8.mono HBk.out.size))
              clear HBk hb8 hx1
              go_wp2
              go_roundg (al12.length - (k + 1))
              case measure => omega
              case rel => exact ⟨k + 1, by first | rfl | (rw [AW2.out]) | (simp; done), by first | (rw [A10.out]) | (rw [← A10.out]), by omega, HBk2⟩
            · obtain rfl : k = al12.length := by omega
              rw [List.take_length, AS0.out.1]
              go_wp2_with fail
              refine (bk_all T1 (HJ.out.below HBk.out) hkvn6 hT1).mono ?_
              rintro e w9 ⟨rfl, hb9⟩
              have HJ9 := (HJ.out.below HBk.out).below hb9
              have Jn := Aside0.mk (J1.did HV.out HJ9)
              have HBn := Aside0.mk (HJ9.old HB3.out hn3 AK.out)
              have hnn := Nat.le_trans hn3 HJ9.jw.size
              have HAn := Aside0.mk (And.intro (And.intro AI.out.1 AS.out) (pw_own_below (pw_own_below AO.out HBk.out) hb9))
              clear HJ HJ9 HV HB3 AO HBk hb9
              go_wp2
              go_roundg (l0.length - (j + 1))
              case measure => omega
              case rel => exact ⟨j + 1, cur', al12, _, _, by first | rfl | (rw [AW.out]) | (simp; done), rfl, by omega, hkvn, by omega, hnn, HAn, Jn, HBn⟩
      · go_wp2_with fail
        have r1 := p1
        have r2 := p2
        clear p0 p1 p2
        as_aux_lemma =>
          go_upto_region 17 with (fail)
          refine start_ (n := 14) (S := fun w' => w'.cell? ⟨(ad.add (j * 4)).block, (ad.add (j * 4)).off + 1, none⟩ = some (.string d.f1) ∧ w'.cell? ⟨(ad.add (j * 4)).block, (ad.add (j * 4)).off + 2, none⟩ = some (.string d.f2)) (ds := []) #[false, false, false, false, false, false, false, false, false, false, false, false, false, false] (by kernel_rfl) rfl rfl ⟨r1, r2⟩ (fun hHeld => ?_)
          have nn_HJ := Aside0.mk (HJ.out.below (below_drew (Below.refl _ _)))
          have nn_AO := Aside0.mk (pw_own_below AO.out (below_drew (Below.refl _ _)))
          clear HJ AO r1 r2
          generalize World.drew _ = w6 at hHeld nn_HJ nn_AO ⊢
          have HJ := nn_HJ
          have AO := nn_AO
          clear nn_HJ nn_AO
          refine pure_ (i := 0) (N := some 69) (v := ?_) (a' := ?_) #[true, false, false, false, false, false, false, false, false, false, false, false, false, false] rfl rfl (by kernel_rfl) (fun _ _ _ h => h) (Or.inl ⟨by rfl, ?_⟩) ?_ ?_
          rotate_left
          · intro w'
            go_simp
            with_reducible rfl
          rotate_left
          · simp only [Act.put, List.setIfInBounds_toArray, List.set_cons_zero, List.set_cons_succ, i64_w, i32_w]
            rfl
          refine pure_ (i := 1) (N := some 70) (v := ?_) (a' := ?_) #[true, true, false, false, false, false, false, false, false, false, false, false, false, false] rfl rfl (by kernel_rfl) (fun _ _ _ h => h) (Or.inl ⟨by rfl, ?_⟩) ?_ ?_
          rotate_left
          · intro w'
            go_simp
            with_reducible rfl
          rotate_left
          · simp only [Act.put, List.setIfInBounds_toArray, List.set_cons_zero, List.set_cons_succ, i64_w, i32_w]
            rfl
          refine pure_ (i := 2) (N := some 71) (v := ?_) (a' := ?_) #[true, true, true, false, false, false, false, false, false, false, false, false, false, false] rfl rfl (by kernel_rfl) (fun _ _ _ h => h) (Or.inl ⟨by rfl, ?_⟩) ?_ ?_
          rotate_left
          · intro w'
            go_simp
            with_reducible rfl
          rotate_left
          · simp only [Act.put, List.setIfInBounds_toArray, List.set_cons_zero, List.set_cons_succ, i64_w, i32_w]
            rfl
          refine pure_ (i := 3) (N := some 72) (v := ?_) (a' := ?_) #[true, true, true, true, false, false, false, false, false, false, false, false, false, false] rfl rfl (by kernel_rfl) (fun _ _ _ h => h) (Or.inl ⟨by rfl, ?_⟩) ?_ ?_
          rotate_left
          · intro w'
            go_simp
            with_reducible rfl
          rotate_left
          · simp only [Act.put, List.setIfInBounds_toArray, List.set_cons_zero, List.set_cons_succ, i64_w, i32_w]
            rfl
          refine pure_ (i := 4) (N := some 73) (v := ?_) (a' := ?_) #[true, true, true, true, true, false, false, false, false, false, false, false, false, false] rfl rfl (by kernel_rfl) (fun _ _ _ h => h) (Or.inl ⟨by rfl, ?_⟩) ?_ ?_
          rotate_left
          · intro w'
            go_simp
            with_reducible rfl
          rotate_left
          · simp only [Act.put, List.setIfInBounds_toArray, List.set_cons_zero, List.set_cons_succ, i64_w, i32_w]
            rfl
          refine take_ (i := 5) (N := some 74) (v := ?_) (a' := ?_) #[true, true, true, true, true, true, false, false, false, false, false, false, false, false] rfl rfl (by kernel_rfl) (fun _ _ _ h => h) (Or.inl ⟨by rfl, ?_⟩) hHeld ?_ ?_
          rotate_left
          · rintro w' ⟨s1, s2⟩
            go_simp
            with_reducible rfl
          rotate_left
          · simp only [Act.put, List.setIfInBounds_toArray, List.set_cons_zero, List.set_cons_succ, i64_w, i32_w]
            rfl
          refine pure_ (i := 7) (N := some 76) (v := ?_) (a' := ?_) #[true, true, true, true, true, true, false, true, false, false, false, false, false, false] rfl rfl (by kernel_rfl) (fun _ _ _ h => h) (Or.inl ⟨by rfl, ?_⟩) ?_ ?_
          rotate_left
          · intro w'
            go_simp
            with_reducible rfl
          rotate_left
          · simp only [Act.put, List.setIfInBounds_toArray, List.set_cons_zero, List.set_cons_succ, i64_w, i32_w]
            rfl
          refine pure_ (i := 8) (N := some 77) (v := ?_) (a' := ?_) #[true, true, true, true, true, true, false, true, true, false, false, false, false, false] rfl rfl (by kernel_rfl) (fun _ _ _ h => h) (Or.inl ⟨by rfl, ?_⟩) ?_ ?_
          rotate_left
          · intro w'
            go_simp
            with_reducible rfl
          rotate_left
          · simp only [Act.put, List.setIfInBounds_toArray, List.set_cons_zero, List.set_cons_succ, i64_w, i32_w]
            rfl
          refine pure_ (i := 9) (N := some 78) (v := ?_) (a' := ?_) #[true, true, true, true, true, true, false, true, true, true, false, false, false, false] rfl rfl (by kernel_rfl) (fun _ _ _ h => h) (Or.inl ⟨by rfl, ?_⟩) ?_ ?_
          rotate_left
          · intro w'
            go_simp
            with_reducible rfl
          rotate_left
          · simp only [Act.put, List.setIfInBounds_toArray, List.set_cons_zero, List.set_cons_succ, i64_w, i32_w]
            rfl
          refine pure_ (i := 10) (N := some 79) (v := ?_) (a' := ?_) #[true, true, true, true, true, true, false, true, true, true, true, false, false, false] rfl rfl (by kernel_rfl) (fun _ _ _ h => h) (Or.inl ⟨by rfl, ?_⟩) ?_ ?_
          rotate_left
          · intro w'
            go_simp
            with_reducible rfl
          rotate_left
          · simp only [Act.put, List.setIfInBounds_toArray, List.set_cons_zero, List.set_cons_succ, i64_w, i32_w]
            rfl
          refine take_ (i := 11) (N := some 80) (v := ?_) (a' := ?_) #[true, true, true, true, true, true, false, true, true, true, true, true, false, false] rfl rfl (by kernel_rfl) (fun _ _ _ h => h) (Or.inl ⟨by rfl, ?_⟩) hHeld ?_ ?_
          rotate_left
          · rintro w' ⟨s1, s2⟩
            go_simp
            with_reducible rfl
          rotate_left
          · simp only [Act.put, List.setIfInBounds_toArray, List.set_cons_zero, List.set_cons_succ, i64_w, i32_w]
            rfl
          refine one_ (i := 6) (N := some 75) #[true, true, true, true, true, true, true, true, true, true, true, true, false, false] rfl rfl (by kernel_rfl) (by decide) (fun K hK => ?_)
          refine goes_ Tryz.func10 (by kernel_rfl) rfl #[.slice A5 all.length c5, .string d.f1] (by rfl) rfl rfl (by (try simp only [List.map_toArray, List.map_cons, List.map_nil]); first | done | rfl) ?_
          refine (bkwith_calls w.heap.size A5 c5 all d.f1 AO.out (Nat.le_trans hn3 HJ.out.jw.size) (by omega)).mono ?_
          rintro e w7_6 ⟨A6_6, c6_6, rfl, hO6, hb⟩
          refine ⟨_, rfl, ?_⟩
          have hW6 := with_len all d.f1
          have AS6 := Aside0.mk (with_sz AS.out hs1)
          obtain ⟨al6, hal6⟩ : ∃ z, withB all d.f1 = z := ⟨_, rfl⟩
          rw [hal6] at hW6
          have n_AS := Aside0.mk (show ∀ x ∈ al6, x.size ≤ 300 by rw [← hal6]; exact AS6.out)
          have n_AI := Aside0.mk (show _ by have h := AI.out; rw [hal6] at h; exact h)
          simp only [hal6] at hO6 ⊢
          have n_AO := Aside0.mk hO6
          have n_HJ := Aside0.mk (HJ.out.below hb)
          clear HJ AO AS AI AS6 hO6 hal6
          have HJ := n_HJ
          have AO := n_AO
          have AS := n_AS
          have AI := n_AI
          clear n_HJ n_AO n_AS n_AI
          refine hK.out _ _ ⟨(hb.cell (World.block_lt_of_cell? _ _ hHeld.1)).trans hHeld.1, (hb.cell (World.block_lt_of_cell? _ _ hHeld.2)).trans hHeld.2⟩ (fun hHeld => ?_)
          clear hb
          clear hK K
          refine norm_ (a' := ?_) ?_ ?_
          rotate_left
          · show Act.put _ (some 75) _ = _
            simp only [Act.put, List.setIfInBounds_toArray, List.set_cons_zero, List.set_cons_succ, i64_w, i32_w]
            rfl
          refine one_ (i := 12) (N := some 81) #[true, true, true, true, true, true, true, true, true, true, true, true, true, false] rfl rfl (by kernel_rfl) (by decide) (fun K hK => ?_)
          refine goes_ Tryz.func10 (by kernel_rfl) rfl #[.slice A6_6 al6.length c6_6, .string d.f2] (by rfl) rfl rfl (by (try simp only [List.map_toArray, List.map_cons, List.map_nil]); first | done | rfl) ?_
          refine (bkwith_calls w.heap.size A6_6 c6_6 al6 d.f2 AO.out (Nat.le_trans hn3 HJ.out.jw.size) (by omega)).mono ?_
          rintro e w7_12 ⟨A6_12, c6_12, rfl, hO6, hb⟩
          refine ⟨_, rfl, ?_⟩
          have hW12 := with_len al6 d.f2
          have AS12 := Aside0.mk (with_sz AS.out hs2)
          obtain ⟨al12, hal12⟩ : ∃ z, withB al6 d.f2 = z := ⟨_, rfl⟩
          rw [hal12] at hW12
          have n_AS := Aside0.mk (show ∀ x ∈ al12, x.size ≤ 300 by rw [← hal12]; exact AS12.out)
          have n_AI := Aside0.mk (show _ by have h := AI.out; rw [hal12] at h; exact h)
          simp only [hal12] at hO6 ⊢
          have n_AO := Aside0.mk hO6
          have n_HJ := Aside0.mk (HJ.out.below hb)
          clear HJ AO AS AI AS12 hO6 hal12
          have HJ := n_HJ
          have AO := n_AO
          have AS := n_AS
          have AI := n_AI
          clear n_HJ n_AO n_AS n_AI
          refine hK.out _ _ ⟨(hb.cell (World.block_lt_of_cell? _ _ hHeld.1)).trans hHeld.1, (hb.cell (World.block_lt_of_cell? _ _ hHeld.2)).trans hHeld.2⟩ (fun hHeld => ?_)
          clear hb
          clear hK K
          refine norm_ (a' := ?_) ?_ ?_
          rotate_left
          · show Act.put _ (some 81) _ = _
            simp only [Act.put, List.setIfInBounds_toArray, List.set_cons_zero, List.set_cons_succ, i64_w, i32_w]
            rfl
          refine pure_ (i := 13) (N := some 5) (v := ?_) (a' := ?_) #[true, true, true, true, true, true, true, true, true, true, true, true, true, true] rfl rfl (by kernel_rfl) (fun _ _ _ h => h) (Or.inl ⟨by rfl, ?_⟩) ?_ ?_
          rotate_left
          · intro w'
            go_simp
            with_reducible rfl
          rotate_left
          · simp only [Act.put, List.setIfInBounds_toArray, List.set_cons_zero, List.set_cons_succ, i64_w, i32_w]
            rfl
          refine done_ (by kernel_rfl) ?_
          clear hHeld
          obtain ⟨wf, hwf⟩ : ∃ z, w7_12 = z := ⟨_, rfl⟩
          have hlen2 : al12.length ≤ 2 * j + 2 := by omega
          have HBk0 := Aside0.mk (Below.refl wf.heap.size wf)
          have APre := Aside0.mk (sumB_part AI.out.1.pos al12)
          have APos := Aside0.mk (fun s => And.intro (AI.out.1.pos s) (Int.le_trans (AI.out.1.le s) AI.out.1.cap))
          have AS0 : Aside0 (sumB (bkOf cur') al12 = T1 ∧ T1 ≤ 1099511627776) := Aside0.mk ⟨AI.out.1.tot.trans hT1, by rw [← hT1]; exact AI.out.1.cap⟩
          subst hwf
          go_wp2_with fail
          go_loopg [11, 12] al12.length (fun gk s11 s12 wx => ∃ (k : Nat), s12 = .int .i64 (k : Int) ∧ s11 = .int .i64 (sumB (bkOf cur') (al12.take k)) ∧ k + gk = al12.length ∧ Aside0 (Below w7_12.heap.size w7_12 wx))
          case atStart => exact ⟨0, rfl, rfl, by omega, HBk0⟩
          case round =>
            clear HBk0
            obtain ⟨k, rfl, rfl, hk, HBk⟩ := hrel
            by_cases hlk : k < al12.length
            · have x0 : (0 : Int) ≤ (k : Int) := by omega
              have x1 : (k : Int) < (al12.length : Int) := by omega
              obtain ⟨ak, e1, hx1⟩ := Kd.at_string (Kd.C_below (own_C AO.out) HBk.out) (k : Int) x0 x1
              subst e1
              rw [rdOf_get al12 k hlk] at hx1
              simp only [Int.toNat_natCast] at hx1
              have hsz := AS.out _ (List.getElem_mem hlk)
              have hsum := sumB_take (bkOf cur') al12 k hlk
              have hP1 := APre.out (k + 1)
              have hP0 := APre.out k
              have hOb := APos.out al12[k]
              rw [hsum] at hP1
              have AW2 := Aside0.mk (w_one k (by omega))
              rw [AS0.out.1] at hP1
              have hT9 := AS0.out.2
              generalize al12[k] = q at hx1 hsz hsum hP1 hOb
              obtain ⟨O, hO⟩ : ∃ z, bkOf cur' q = z := ⟨_, rfl⟩
              rw [hO] at hsum hP1 hOb
              have A9 := Aside0.mk hsum
              generalize sumB (bkOf cur') (al12.take k) = S0 at hP1 hP0 hsum A9 ⊢
              have A10 := Aside0.mk (show wrap64 (S0 + O) = sumB (bkOf cur') (al12.take (k + 1)) by rw [A9.out]; exact w64 (by omega) (by omega))
              have o1 : ¬ (O < 0) := by omega
              have o2 : ¬ (O > 1099511627776) := by omega
              clear hsum hP1 hP0 hOb hT9
              go_wp2_with fail
              refine (bk_of q O (HJ.out.below HBk.out) hkvn6 (by omega) hO).mono ?_
              rintro e w8 ⟨rfl, hb8⟩
              have HBk2 := Aside0.mk (HBk.out.trans (hb8.mono HBk.out.size))
              clear HBk hb8 hx1
              go_wp2
              go_roundg (al12.length - (k + 1))
              case measure => omega
              case rel => exact ⟨k + 1, by first | rfl | (rw [AW2.out]) | (simp; done), by first | (rw [A10.out]) | (rw [← A10.out]), by omega, HBk2⟩
            · obtain rfl : k = al12.length := by omega
              rw [List.take_length, AS0.out.1]
              go_wp2_with fail
              refine (bk_all T1 (HJ.out.below HBk.out) hkvn6 hT1).mono ?_
              rintro e w9 ⟨rfl, hb9⟩
              have HJ9 := (HJ.out.below HBk.out).below hb9
              have Jn := Aside0.mk (J1.did HV.out HJ9)
              have HBn := Aside0.mk (HJ9.old HB3.out hn3 AK.out)
              have hnn := Nat.le_trans hn3 HJ9.jw.size
              have HAn := Aside0.mk (And.intro (And.intro AI.out.1 AS.out) (pw_own_below (pw_own_below AO.out HBk.out) hb9))
              clear HJ HJ9 HV HB3 AO HBk hb9
              go_wp2
              go_roundg (l0.length - (j + 1))
              case measure => omega
              case rel => exact ⟨j + 1, cur', al12, _, _, by first | rfl | (rw [AW.out]) | (simp; done), rfl, by omega, hkvn, by omega, hnn, HAn, Jn, HBn⟩
    · go_wp2_with fail
      refine (bkaw_calls _).mono ?_
      rintro e w' ⟨rfl, hb⟩
      have hfin := Aside0.mk (HBr.out.trans (hb.mono HBr.out.size))
      clear JLr HBr hb
      go_wp2
      go_ret
      exact ⟨rfl, hfin.out⟩

end Go.Proofs.YtonipkgekhdogaaGreatDoor.PBas
