-- written by wip/myprint.py over the kit's print; not a printed text of print.sh
import Derived.Test.YtcbaojkfffodiaaPJoux0
import Derived.Test.YtcbaojkfffodiaaPJoux2
import Derived.Test.YtcbaojkfffodiaaPJoux4
import Derived.Test.YtcbaojkfffodiaaPJoux8
import Derived.Test.YtcbaojkfffodiaaPJoux9
import Derived.Test.YtcbaojkfffodiaaPJoux10
import Derived.Test.YtcbaojkfffodiaaPJoux12
import Derived.Test.YtcbaojkfffodiaaPJoux14
import Derived.Test.YtcbaojkfffodiaaPJoux15
import Derived.Test.YtcbaojkfffodiaaPJoux16
import Derived.Test.YtcbaojkfffodiaaPJoux17
import Derived.Test.YtcbaojkfffodiaaPJoux18
import Derived.Test.YtcbaojkfffodiaaPJoux19
import Derived.Test.YtcbaojkfffodiaaPJoux20
import Derived.Test.YtcbaojkfffodiaaPJoux21
namespace Go.Proofs.Ytcbaojkfffodiaa.PJou
open Go.RowKit Go.Proofs.YtcbaojkfffodiaaW.PrintWords Go.Proofs.YtcbaojkfffodiaaW.PrintLast Go.Proofs.YtcbaojkfffodiaaW.PrintMore
attribute [local go_sem] max2_int min2_int max_two min_two max_three min_three max_four min_four   -- for this text's walks alone
set_option linter.unusedVariables false
set_option linter.unusedSimpArgs false

/-! ### footbridgelaw10_JournalCopies: function 4 -/
def footbridgelaw10_JournalCopies.f (_l0 : List S51) (_l1 _l2 : List S33) : Option Bool := some true
set_option maxHeartbeats 4000000 in
set_option maxRecDepth 100000 in
theorem footbridgelaw10_JournalCopies.calls (A0 : Option Addr) (c0 : Nat) (l0 : List S51) (A1 : Option Addr) (c1 : Nat) (l1 : List S33) (A2 : Option Addr) (c2 : Nat) (l2 : List S33) (r : Bool) (w : World) (hr0 : Kd.C k51 w A0 l0.length l0) (hc0 : l0.length ≤ c0) (hr1 : Kd.C k33 w A1 l1.length l1) (hc1 : l1.length ≤ c1) (hr2 : Kd.C k33 w A2 l2.length l2) (hc2 : l2.length ≤ c2) (h : footbridgelaw10_JournalCopies.f l0 l1 l2 = some r) :
    Calls Try.prog 4 #[.slice A0 l0.length c0, .slice A1 l1.length c1, .slice A2 l2.length c2] w fun e w' => e = .returned (.bool r) ∧ Below w.heap.size w w' := by
  obtain rfl : true = r := Option.some.inj h
  clear h
  have _ := @jdo_calls
  have _ := @j_get
  have _ := @j_copy
  have _ := @footbridgelaw10_JournalPlays.calls
  by_cases hbig : 20 < l0.length ∨ 40 < l1.length ∨ 40 < l2.length
  · by_cases hb0 : 20 < l0.length
    all_goals by_cases hb1 : 40 < l1.length
    all_goals
      have hb2 : 20 < (l0.length : Int) ∨ 40 < (l1.length : Int) ∨ 40 < (l2.length : Int) := by omega
      go_enter Try.func4, Try.ntmps4
      go_wp2_with fail
      refine (jawake_calls w).mono ?_
      rintro e w' ⟨rfl, hb⟩
      go_wp2
      go_ret
      exact ⟨rfl, hb⟩
  have hb0 : ¬ 20 < l0.length := fun h => hbig (.inl h)
  have hb1 : ¬ 40 < l1.length := fun h => hbig (.inr (.inl h))
  have hb2 : ¬ 40 < l2.length := fun h => hbig (.inr (.inr h))
  have HR1 := Aside0.mk hr1
  have HR2 := Aside0.mk hr2
  have hfresh := fresh_calls A0 c0 l0 w hr0 hc0 (by omega)
  clear hr0 hr1 hr2 hbig
  go_enter Try.func4, Try.ntmps4
  go_wp2_with fail
  refine hfresh.mono ?_
  rintro e w1 ⟨g, xv, n, rfl, hn1, hn2, hJ1, hX1, hbf⟩
  clear hfresh
  obtain ⟨Ax, cx, rfl, _, _⟩ := id hX1
  have hba : Below w1.heap.size w1 (w1.alloc (.cells #[.slice Ax (freK l0).length cx] 26)) := (Below.refl _ w1).alloc (Nat.le_refl _) _
  have JL1 : Aside0 (JL n g ⟨freK l0, []⟩ (.slice (some ⟨w1.heap.size, 0, none⟩) 1 1) (lvsK [] (freK l0)) (w1.alloc (.cells #[.slice Ax (freK l0).length cx] 26))) := Aside0.mk (JL.of (hJ1.bound.below hba) (lit1_V (my_alloc_new w1 _) (fun h => by have := h.2.2.1; omega) (Kd.V_mono (Kd.V_below hX1 hba) (fun k hk h => by have := h.1; have h3 : n ≤ k := this; omega))))
  have HB1 := Aside0.mk (hbf.trans (hba.mono hbf.size))
  have BD1 : JBd 20 0 ⟨freK l0, []⟩ := by
    have := freK_bd l0
    exact ⟨fun s hs => by obtain rfl : s = freK l0 := List.mem_singleton.1 hs; exact ⟨this.1, Nat.le_trans this.2 (by omega)⟩, Nat.le_refl _, Nat.le_refl _⟩
  have hnw : n ≤ (w1.alloc (.cells #[.slice Ax (freK l0).length cx] 26)).heap.size := Nat.le_trans hn2 hba.size
  clear hJ1 hX1 hba hbf hn2
  go_wp2_with fail
  go_loopg [9, 10] l1.length (fun gg s9 s10 wx => ∃ (j : Nat) (st : JSt), s10 = .int .i64 j ∧ j + gg = l1.length ∧ JBd 20 j st ∧ n ≤ wx.heap.size ∧ Aside0 (JL n g st s9 (lvsK st.lv st.cur) wx) ∧ Aside0 (Below w.heap.size w wx))
  case atStart => exact ⟨0, _, rfl, by omega, BD1, hnw, JL1, HB1⟩
  case round =>
    clear BD1 hnw JL1 HB1
    obtain ⟨j, st, rfl, hj, hbd, hnr, JLr, HB⟩ := hrel
    by_cases hlt : j < l1.length
    · have hx0 : (0 : Int) ≤ ((j : Nat) : Int) := by omega
      have hkl : ((j : Nat) : Int) < (l1.length : Int) := by omega
      obtain ⟨ad, e1, zw0, zw1, zw2⟩ := at_T33 HR1.out ((j : Nat) : Int) hx0 hkl
      subst e1
      generalize rd_T33 l1 (j : Int) = d at zw0 zw1 zw2
      rw [Int.toNat_natCast] at zw0 zw1 zw2
      have z0 := (HB.out.cell (World.block_lt_of_cell? _ _ zw0)).trans zw0
      have z1 := (HB.out.cell (World.block_lt_of_cell? _ _ zw1)).trans zw1
      have z2 := (HB.out.cell (World.block_lt_of_cell? _ _ zw2)).trans zw2
      obtain ⟨ok2, hlt2, hj2, hv1⟩ := JLr.out
      have hs := hbd.cur
      have hrel := do_rel st d.f0 d.f1 d.f2 hs.1
      have hbd' := hbd.step d.f0 d.f1 d.f2
      have hll := hbd.len
      have hmv := moved_f (preK st.lv st.cur) st.cur d.f0 d.f1 d.f2 1001 hs.1 (by omega) (by rw [preK_len]; omega) (by omega)
      rw [hrel, ← lvsK_pre] at hmv
      obtain ⟨A7, c7, rfl, hc7, _⟩ := id hv1
      have hmc := footbridgelaw10_moved.calls 1001 (fun k => ¬ ok2 k) A7 c7 (lvsK st.lv st.cur) d.f0 d.f1 d.f2 _ _ _ hv1 hmv
      obtain ⟨st', hst'⟩ : ∃ st', (doJ st d.f0 d.f1 d.f2).1 = st' := ⟨_, rfl⟩
      rw [hst'] at hmc hbd'
      generalize he : (doJ st d.f0 d.f1 d.f2).2 = ee at hmc
      clear hmv hrel JLr hv1
      go_wp2_with fail
      refine hmc.mono ?_
      rintro e w2 ⟨v2, rfl, hv2, hb3⟩
      replace hv2 : Kd.V (Kd.slice 51 k51) 26 w2 0 (fun k => ¬ ok2 k) v2 (lvsK st'.lv st'.cur) := Kd.V_lower (Kd.V_mono hv2 (fun k hk => hk.elim id (fun h1 h2 => by have := (hlt2 k h2).2; omega))) (Nat.zero_le _)
      replace hlt2 : ∀ k, ok2 k → n ≤ k ∧ k < w2.heap.size := fun k hk => ⟨(hlt2 k hk).1, Nat.lt_of_lt_of_le (hlt2 k hk).2 hb3.size⟩
      replace hj2 := hj2.below hb3
      have hB2 := HB.out.trans (hb3.mono HB.out.size)
      have hn2 := Nat.le_trans hnr hb3.size
      have q0 := (hB2.cell (World.block_lt_of_cell? _ _ zw0)).trans zw0
      have q1 := (hB2.cell (World.block_lt_of_cell? _ _ zw1)).trans zw1
      have q2 := (hB2.cell (World.block_lt_of_cell? _ _ zw2)).trans zw2
      obtain ⟨A9, c9, rfl, _, _⟩ := id hv2
      clear hmc HB hb3 z0 z1 z2
      go_wp2_with fail
      refine (jdo_calls n g 20 j ok2 st d.f0 d.f1 d.f2 w2 hj2 (fun k hk => (hlt2 k hk).2) hbd (by omega) (by omega) hn2).mono ?_
      rintro e w4 ⟨rfl, hm4, hw4⟩
      rw [hst'] at hm4
      have JL4 := Aside0.mk (JL.did hv2 hm4 hw4)
      have HB4 := Aside0.mk (JW.toBelow hB2 hB2.size hw4 (fun k hk => Nat.le_trans hn1 (hlt2 k hk).1))
      have hn4 := Nat.le_trans hn2 hw4.size
      clear hj2 hv2 hlt2 hm4 hw4 hB2 hn2 q0 q1 q2
      go_wp2
      go_roundg (l1.length - (j + 1))
      case measure => omega
      case rel => exact ⟨j + 1, st', by first | rfl | (simp; done), by omega, hbd', hn4, JL4, HB4⟩
    · obtain ⟨okj, hltj, hjj, hvj⟩ := id JLr.out
      obtain ⟨A9, c9, rfl, _, _⟩ := id hvj
      have hjn : j = l1.length := by omega
      have hbn : JBd 20 l1.length st := by rw [← hjn]; exact hbd
      clear hjn hltj
      go_wp2_with fail
      refine (j_copy n g okj st wr hjj (by have := hbd.cur.2; omega) (by have := hbd.len; omega) (fun l hl => by have := hbd.lvl l hl; omega)).mono ?_
      rintro e w2 ⟨gc, rfl, hk2, hb3⟩
      have JK := Aside0.mk (JL2.made JLr.out hnr hb3 hk2)
      have HBk := Aside0.mk (HB.out.trans (hb3.mono HB.out.size))
      have hnk := Nat.le_trans hnr hb3.size
      clear hjj hvj JLr HB hk2 hb3 hbd hnr
      go_wp2_with fail
      go_loopg [14] l2.length (fun gg s14 wx => ∃ (i : Nat) (s2 : JSt), s14 = .int .i64 i ∧ i + gg = l2.length ∧ JBd 20 (l1.length + i) s2 ∧ n ≤ wx.heap.size ∧ Aside0 (JL2 n g gc s2 st (.slice A9 (lvsK st.lv st.cur).length c9) (lvsK st.lv st.cur) wx) ∧ Aside0 (Below w.heap.size w wx))
      case atStart => exact ⟨0, _, rfl, by omega, hbn, hnk, JK, HBk⟩
      case round =>
        clear JK HBk hnk
        obtain ⟨i, s2, rfl, hi2, hbd2, hnr, JLr, HB⟩ := hrel
        by_cases hlt2 : i < l2.length
        · have hx0 : (0 : Int) ≤ ((i : Nat) : Int) := by omega
          have hkl : ((i : Nat) : Int) < (l2.length : Int) := by omega
          obtain ⟨ad, e1, zw0, zw1, zw2⟩ := at_T33 HR2.out ((i : Nat) : Int) hx0 hkl
          subst e1
          generalize rd_T33 l2 (i : Int) = d at zw0 zw1 zw2
          rw [Int.toNat_natCast] at zw0 zw1 zw2
          have z0 := (HB.out.cell (World.block_lt_of_cell? _ _ zw0)).trans zw0
          have z1 := (HB.out.cell (World.block_lt_of_cell? _ _ zw1)).trans zw1
          have z2 := (HB.out.cell (World.block_lt_of_cell? _ _ zw2)).trans zw2
          obtain ⟨okJ, okK, h1, h2, h3, h4, h5, h6⟩ := JLr.out
          have hbd3 := hbd2.step d.f0 d.f1 d.f2
          go_wp2_with fail
          refine (jdo_calls n g 20 (l1.length + i) okJ s2 d.f0 d.f1 d.f2 _ h4 (fun k hk => (h1 k hk).2) hbd2 (by omega) (by omega) hnr).mono ?_
          rintro e w4 ⟨rfl, hm4, hw4⟩
          have JL4 := Aside0.mk (JL2.did h2 h3 h5 h6 hm4 hw4)
          have HB4 := Aside0.mk (JW.toBelow HB.out HB.out.size hw4 (fun k hk => Nat.le_trans hn1 (h1 k hk).1))
          have hn4 := Nat.le_trans hnr hw4.size
          clear h1 h2 h3 h4 h5 h6 JLr HB hm4 hw4 z0 z1 z2
          go_wp2
          go_roundg (l2.length - (i + 1))
          case measure => omega
          case rel => exact ⟨i + 1, _, by first | rfl | (simp; done), by omega, hbd3, hn4, JL4, HB4⟩
        · obtain ⟨m, hskl⟩ : ∃ m, st.lv.length = m := ⟨_, rfl⟩
          have hmn : m ≤ 40 := by have := hbn.len; omega
          have hcl := hbn.cur
          have hLl : (lvsK st.lv st.cur).length = m + 1 := by rw [lvsK_len, hskl]
          have hv9 : ∃ P : Nat → Prop, Kd.V (Kd.slice 51 k51) 26 wr 0 P (.slice A9 (lvsK st.lv st.cur).length c9) (preK st.lv st.cur ++ [st.cur]) := by
            obtain ⟨okJ, okK, h1, h2, h3, h4, h5, h6⟩ := JLr.out
            rw [← lvsK_pre]
            exact ⟨_, h6⟩
          obtain ⟨P9, hv9⟩ := hv9
          obtain ⟨a9, Ai, ci, cv9, e9, q3, hci, hF2, _⟩ := v_last hv9
          rw [preK_len, hskl] at e9 q3
          have JLe := JLr
          rw [e9] at JLe ⊢
          have HBe := HB
          have hne := hnr
          have hwm : IntKind.i64.wrap (m : Int) = (m : Int) := by rw [i64_w]; unfold wrap64; omega
          clear JLr HB hnr hv9 hbd2
          go_upto_region 18 with (fail)
          refine start_ (n := 22) (S := fun w' => w'.cell? (a9.add m) = some (.slice Ai st.cur.length ci)) (ds := []) #[false, false, false, false, false, false, false, false, false, false, false, false, false, false, false, false, false, false, false, false, false, false] (by kernel_rfl) rfl rfl q3 (fun hHeld => ?_)
          have JL3 := Aside0.mk (JL2.below JLe.out (below_drew (Below.refl _ _)))
          have HB3 := Aside0.mk (below_drew HBe.out)
          have HF3 := Aside0.mk (Kd.F_below hF2 (below_drew (Below.refl wr.heap.size wr)))
          have hn3 : n ≤ wr.drew.heap.size := hne
          clear q3 JLe HBe hF2 hne
          generalize wr.drew = w3 at hHeld JL3 HB3 HF3 hn3 ⊢
          refine pure_ (i := 0) (N := some 75) (v := ?_) (a' := ?_) #[true, false, false, false, false, false, false, false, false, false, false, false, false, false, false, false, false, false, false, false, false, false] rfl rfl (by kernel_rfl) (fun _ _ _ h => h) (Or.inl ⟨by rfl, ?_⟩) ?_ ?_
          rotate_left
          · intro w'
            go_simp
            with_reducible rfl
          rotate_left
          · simp only [Act.put, List.setIfInBounds_toArray, List.set_cons_zero, List.set_cons_succ, i64_w, i32_w]
            rfl
          refine pure_ (i := 1) (N := some 76) (v := ?_) (a' := ?_) #[true, true, false, false, false, false, false, false, false, false, false, false, false, false, false, false, false, false, false, false, false, false] rfl rfl (by kernel_rfl) (fun _ _ _ h => h) (Or.inl ⟨by rfl, ?_⟩) ?_ ?_
          rotate_left
          · intro w'
            go_simp
            with_reducible rfl
          rotate_left
          · simp only [Act.put, List.setIfInBounds_toArray, List.set_cons_zero, List.set_cons_succ, i64_w, i32_w]
            rfl
          refine pure_ (i := 2) (N := some 77) (v := ?_) (a' := ?_) #[true, true, true, false, false, false, false, false, false, false, false, false, false, false, false, false, false, false, false, false, false, false] rfl rfl (by kernel_rfl) (fun _ _ _ h => h) (Or.inl ⟨by rfl, ?_⟩) ?_ ?_
          rotate_left
          · intro w'
            go_simp
            with_reducible rfl
          rotate_left
          · simp only [Act.put, List.setIfInBounds_toArray, List.set_cons_zero, List.set_cons_succ, i64_w, i32_w]
            rfl
          refine pure_ (i := 3) (N := some 78) (v := ?_) (a' := ?_) #[true, true, true, true, false, false, false, false, false, false, false, false, false, false, false, false, false, false, false, false, false, false] rfl rfl (by kernel_rfl) (fun _ _ _ h => h) (Or.inl ⟨by rfl, ?_⟩) ?_ ?_
          rotate_left
          · intro w'
            go_simp
            with_reducible rfl
          rotate_left
          · simp only [Act.put, List.setIfInBounds_toArray, List.set_cons_zero, List.set_cons_succ, i64_w, i32_w]
            rfl
          refine pure_ (i := 5) (N := some 80) (v := ?_) (a' := ?_) #[true, true, true, true, false, true, false, false, false, false, false, false, false, false, false, false, false, false, false, false, false, false] rfl rfl (by kernel_rfl) (fun _ _ _ h => h) (Or.inl ⟨by rfl, ?_⟩) ?_ ?_
          rotate_left
          · intro w'
            go_simp
            with_reducible rfl
          rotate_left
          · simp only [Act.put, List.setIfInBounds_toArray, List.set_cons_zero, List.set_cons_succ, i64_w, i32_w]
            rfl
          refine pure_ (i := 6) (N := some 81) (v := ?_) (a' := ?_) #[true, true, true, true, false, true, true, false, false, false, false, false, false, false, false, false, false, false, false, false, false, false] rfl rfl (by kernel_rfl) (fun _ _ _ h => h) (Or.inl ⟨by rfl, ?_⟩) ?_ ?_
          rotate_left
          · intro w'
            go_simp
            with_reducible rfl
          rotate_left
          · simp only [Act.put, List.setIfInBounds_toArray, List.set_cons_zero, List.set_cons_succ, i64_w, i32_w]
            rfl
          refine pure_ (i := 7) (N := some 82) (v := ?_) (a' := ?_) #[true, true, true, true, false, true, true, true, false, false, false, false, false, false, false, false, false, false, false, false, false, false] rfl rfl (by kernel_rfl) (fun _ _ _ h => h) (Or.inl ⟨by rfl, ?_⟩) ?_ ?_
          rotate_left
          · intro w'
            go_simp
            with_reducible rfl
          rotate_left
          · simp only [Act.put, List.setIfInBounds_toArray, List.set_cons_zero, List.set_cons_succ, i64_w, i32_w]
            rfl
          refine one_ (i := 4) (N := some 79) #[true, true, true, true, true, true, true, true, false, false, false, false, false, false, false, false, false, false, false, false, false, false] rfl rfl (by kernel_rfl) (by decide) (fun K hK => ?_)
          refine goes_ Try.func10 (by kernel_rfl) rfl #[.pointer (some ⟨gc, 0, none⟩)] (by rfl) rfl rfl (by (try simp only [List.map_toArray, List.map_cons, List.map_nil]); first | done | rfl) ?_
          obtain ⟨okJ, okK, _, _, _, _, hjk, _⟩ := id JL3.out
          refine (j_depth n gc okK st w3 hjk).mono ?_
          rintro e w5 ⟨rfl, hw5⟩
          rw [hw5, hskl]
          clear hw5 hjk
          refine ⟨_, rfl, ?_⟩
          refine hK.out _ _ hHeld (fun hHeld => ?_)
          clear hK K
          refine norm_ (a' := ?_) ?_ ?_
          rotate_left
          · show Act.put _ (some 79) _ = _
            simp only [Act.put, List.setIfInBounds_toArray, List.set_cons_zero, List.set_cons_succ, i64_w, i32_w]
            rfl
          refine pure_ (i := 8) (N := some 83) (v := ?_) (a' := ?_) #[true, true, true, true, true, true, true, true, true, false, false, false, false, false, false, false, false, false, false, false, false, false] rfl rfl (by kernel_rfl) (fun _ _ _ h => h) (Or.inl ⟨by rfl, ?_⟩) ?_ ?_
          rotate_left
          · intro w'
            go_simp
            with_reducible rfl
          rotate_left
          · simp only [Act.put, List.setIfInBounds_toArray, List.set_cons_zero, List.set_cons_succ, i64_w, i32_w]
            rfl
          refine pure_ (i := 9) (N := some 84) (v := ?_) (a' := ?_) #[true, true, true, true, true, true, true, true, true, true, false, false, false, false, false, false, false, false, false, false, false, false] rfl rfl (by kernel_rfl) (fun _ _ _ h => h) (Or.inl ⟨by rfl, ?_⟩) ?_ ?_
          rotate_left
          · intro w'
            go_simp
            with_reducible rfl
          rotate_left
          · simp only [Act.put, List.setIfInBounds_toArray, List.set_cons_zero, List.set_cons_succ, i64_w, i32_w]
            rfl
          refine pure_ (i := 10) (N := some 85) (v := ?_) (a' := ?_) #[true, true, true, true, true, true, true, true, true, true, true, false, false, false, false, false, false, false, false, false, false, false] rfl rfl (by kernel_rfl) (fun _ _ _ h => h) (Or.inl ⟨by rfl, ?_⟩) ?_ ?_
          rotate_left
          · intro w'
            go_simp
            with_reducible rfl
          rotate_left
          · simp only [Act.put, List.setIfInBounds_toArray, List.set_cons_zero, List.set_cons_succ, i64_w, i32_w]
            rfl
          refine pure_ (i := 11) (N := some 86) (v := ?_) (a' := ?_) #[true, true, true, true, true, true, true, true, true, true, true, true, false, false, false, false, false, false, false, false, false, false] rfl rfl (by kernel_rfl) (fun _ _ _ h => h) (Or.inl ⟨by rfl, ?_⟩) ?_ ?_
          rotate_left
          · intro w'
            go_simp
            with_reducible rfl
          rotate_left
          · simp only [Act.put, List.setIfInBounds_toArray, List.set_cons_zero, List.set_cons_succ, i64_w, i32_w]
            rfl
          refine pure_ (i := 13) (N := some 88) (v := ?_) (a' := ?_) #[true, true, true, true, true, true, true, true, true, true, true, true, false, true, false, false, false, false, false, false, false, false] rfl rfl (by kernel_rfl) (fun _ _ _ h => h) (Or.inl ⟨by rfl, ?_⟩) ?_ ?_
          rotate_left
          · intro w'
            go_simp
            with_reducible rfl
          rotate_left
          · simp only [Act.put, List.setIfInBounds_toArray, List.set_cons_zero, List.set_cons_succ, i64_w, i32_w]
            rfl
          refine pure_ (i := 14) (N := some 89) (v := ?_) (a' := ?_) #[true, true, true, true, true, true, true, true, true, true, true, true, false, true, true, false, false, false, false, false, false, false] rfl rfl (by kernel_rfl) (fun _ _ _ h => h) (Or.inl ⟨by rfl, ?_⟩) ?_ ?_
          rotate_left
          · intro w'
            go_simp
            with_reducible rfl
          rotate_left
          · simp only [Act.put, List.setIfInBounds_toArray, List.set_cons_zero, List.set_cons_succ, i64_w, i32_w]
            rfl
          refine pure_ (i := 15) (N := some 90) (v := ?_) (a' := ?_) #[true, true, true, true, true, true, true, true, true, true, true, true, false, true, true, true, false, false, false, false, false, false] rfl rfl (by kernel_rfl) (fun _ _ _ h => h) (Or.inl ⟨by rfl, ?_⟩) ?_ ?_
          rotate_left
          · intro w'
            go_simp
            with_reducible rfl
          rotate_left
          · simp only [Act.put, List.setIfInBounds_toArray, List.set_cons_zero, List.set_cons_succ, i64_w, i32_w]
            rfl
          refine pure_ (i := 16) (N := some 91) (v := ?_) (a' := ?_) #[true, true, true, true, true, true, true, true, true, true, true, true, false, true, true, true, true, false, false, false, false, false] rfl rfl (by kernel_rfl) (fun _ _ _ h => h) (Or.inl ⟨by rfl, ?_⟩) ?_ ?_
          rotate_left
          · intro w'
            go_simp
            with_reducible rfl
          rotate_left
          · simp only [Act.put, List.setIfInBounds_toArray, List.set_cons_zero, List.set_cons_succ, i64_w, i32_w]
            rfl
          refine pure_ (i := 17) (N := some 92) (v := ?_) (a' := ?_) #[true, true, true, true, true, true, true, true, true, true, true, true, false, true, true, true, true, true, false, false, false, false] rfl rfl (by kernel_rfl) (fun _ _ _ h => h) (Or.inl ⟨by rfl, ?_⟩) ?_ ?_
          rotate_left
          · intro w'
            go_simp
            rw [if_pos (by omega : (m : Int) < (m : Int) + 1)]
          rotate_left
          · simp only [Act.put, List.setIfInBounds_toArray, List.set_cons_zero, List.set_cons_succ, i64_w, i32_w]
            rfl
          refine take_ (i := 18) (N := some 93) (v := ?_) (a' := ?_) #[true, true, true, true, true, true, true, true, true, true, true, true, false, true, true, true, true, true, true, false, false, false] rfl rfl (by kernel_rfl) (fun _ _ _ h => h) (Or.inl ⟨by rfl, ?_⟩) hHeld ?_ ?_
          rotate_left
          · rintro w' s0
            go_simp
            with_reducible rfl
          rotate_left
          · simp only [Act.put, List.setIfInBounds_toArray, List.set_cons_zero, List.set_cons_succ, i64_w, i32_w]
            rfl
          refine one_ (i := 12) (N := some 87) #[true, true, true, true, true, true, true, true, true, true, true, true, true, true, true, true, true, true, true, false, false, false] rfl rfl (by kernel_rfl) (by decide) (fun K hK => ?_)
          refine goes_ Try.func12 (by kernel_rfl) rfl #[.pointer (some ⟨gc, 0, none⟩)] (by rfl) rfl rfl (by (try simp only [List.map_toArray, List.map_cons, List.map_nil]); first | done | rfl) ?_
          obtain ⟨okJ, okK, _, _, _, _, hjk, _⟩ := id JL3.out
          refine (j_list n gc okK st w3 hjk (by omega)).mono ?_
          rintro e w5 ⟨v5, rfl, o5, hb5⟩
          clear hjk
          refine ⟨_, rfl, ?_⟩
          obtain ⟨A5, c5, rfl, hc5, hC5⟩ := Kd.R_reads (rows_R (ok := fun _ => True) o5 (fun _ _ => trivial))
          have JL5 := Aside0.mk (JL2.below JL3.out hb5)
          have HB5 := Aside0.mk (HB3.out.trans (hb5.mono HB3.out.size))
          have HF5 := Aside0.mk (Kd.F_below HF3.out hb5)
          have hq5 := (hb5.cell (World.block_lt_of_cell? _ _ hHeld)).trans hHeld
          have hn5 := Nat.le_trans hn3 hb5.size
          have hsame := footbridgeref09_Same.calls 200 A5 c5 st.cur Ai ci st.cur true w5 hC5 hc5 (Kd.F_now HF5.out) hci (same_f _ 200 (by omega) (by omega))
          clear JL3 HB3 HF3 hb5 o5 hC5 hn3
          refine hK.out _ _ hq5 (fun hHeld => ?_)
          clear hq5
          clear hK K
          refine norm_ (a' := ?_) ?_ ?_
          rotate_left
          · show Act.put _ (some 87) _ = _
            simp only [Act.put, List.setIfInBounds_toArray, List.set_cons_zero, List.set_cons_succ, i64_w, i32_w]
            rfl
          refine one_ (i := 19) (N := some 94) #[true, true, true, true, true, true, true, true, true, true, true, true, true, true, true, true, true, true, true, true, false, false] rfl rfl (by kernel_rfl) (by decide) (fun K hK => ?_)
          refine goes_ Try.func11 (by kernel_rfl) rfl #[.slice A5 st.cur.length c5, .slice Ai st.cur.length ci] (by rfl) rfl rfl (by (try simp only [List.map_toArray, List.map_cons, List.map_nil]); first | done | rfl) ?_
          refine hsame.mono ?_
          rintro e w6 ⟨rfl, hd6⟩
          refine ⟨_, rfl, ?_⟩
          have JL6 := Aside0.mk (JL2.below JL5.out hd6.below).snd
          have HB6 := Aside0.mk (HB5.out.trans (hd6.below.mono HB5.out.size))
          have hn6 := Nat.le_trans hn5 hd6.below.size
          have hq6 := (hd6.below.cell (World.block_lt_of_cell? _ _ hHeld)).trans hHeld
          clear hsame JL5 HB5 HF5 hd6 hn5
          refine hK.out _ _ hq6 (fun hHeld => ?_)
          clear hq6
          clear hK K
          refine norm_ (a' := ?_) ?_ ?_
          rotate_left
          · show Act.put _ (some 94) _ = _
            simp only [Act.put, List.setIfInBounds_toArray, List.set_cons_zero, List.set_cons_succ, i64_w, i32_w]
            rfl
          refine pure_ (i := 20) (N := some 95) (v := ?_) (a' := ?_) #[true, true, true, true, true, true, true, true, true, true, true, true, true, true, true, true, true, true, true, true, true, false] rfl rfl (by kernel_rfl) (fun _ _ _ h => h) (Or.inl ⟨by rfl, ?_⟩) ?_ ?_
          rotate_left
          · intro w'
            go_simp
            with_reducible rfl
          rotate_left
          · simp only [Act.put, List.setIfInBounds_toArray, List.set_cons_zero, List.set_cons_succ, i64_w, i32_w]
            rfl
          refine pure_ (i := 21) (N := some 96) (v := ?_) (a' := ?_) #[true, true, true, true, true, true, true, true, true, true, true, true, true, true, true, true, true, true, true, true, true, true] rfl rfl (by kernel_rfl) (fun _ _ _ h => h) (Or.inl ⟨by rfl, ?_⟩) ?_ ?_
          rotate_left
          · intro w'
            go_simp
            with_reducible rfl
          rotate_left
          · simp only [Act.put, List.setIfInBounds_toArray, List.set_cons_zero, List.set_cons_succ, i64_w, i32_w]
            rfl
          refine done_ (by kernel_rfl) ?_
          have hw20 : IntKind.i64.wrap ((m : Int) - 1) = (m : Int) - 1 := by rw [i64_w]; unfold wrap64; omega
          have hw21 : IntKind.i64.wrap ((m : Int) + 1 - 2) = (m : Int) - 1 := by rw [i64_w]; unfold wrap64; omega
          clear hHeld
          generalize hLL : lvsK st.lv st.cur = L at JL6 hLl
          go_wp2_with fail
          go_loopg [15] m (fun gg s15 wx => ∃ (i : Nat) (sk : JSt), s15 = .int .i64 ((i : Int) - 1) ∧ gg = i ∧ sk.lv.length = i ∧ i ≤ m ∧ lvsK sk.lv sk.cur = L.take (i + 1) ∧ JBd 20 (l1.length + (m - i)) sk ∧ n ≤ wx.heap.size ∧ Aside0 (JL n gc sk (.slice (some a9) (m + 1) cv9) L wx) ∧ Aside0 (Below w.heap.size w wx))
          case atStart => exact ⟨m, st, by first | rfl | (congr 1; omega) | (simp; omega), rfl, hskl, Nat.le_refl _, by rw [hLL, List.take_of_length_le (by omega)], by rw [Nat.sub_self]; exact hbn, hn6, JL6, HB6⟩
          case round =>
            clear JL6 HB6 hn6 hw20 hw21
            obtain ⟨iq, sk, rfl, hgi, hsl, him, hLt, hbd3, hnr, JLr, HB⟩ := hrel
            cases iq with
            | zero =>
              have eq0 : ((0 : Nat) : Int) - 1 = -1 := rfl
              rw [eq0]
              go_wp2_with fail
              refine (jawake_calls _).mono ?_
              rintro e w' ⟨rfl, hb⟩
              have hfin := Aside0.mk (HB.out.trans (hb.mono HB.out.size))
              clear JLr HB hb
              go_wp2
              go_ret
              exact ⟨rfl, hfin.out⟩
            | succ q =>
              have eq1 : ((q + 1 : Nat) : Int) - 1 = (q : Int) := by omega
              rw [eq1]
              obtain ⟨hr1, hr2, hrc, hqL⟩ := roll_rel sk L q hsl hLt
              have hbd4 : JBd 20 (l1.length + (m - q)) (rolJ sk) := by
                have h9 := hbd3.step 4 ⟨#[]⟩ ⟨#[]⟩
                have e9 : (doJ sk 4 ⟨#[]⟩ ⟨#[]⟩).1 = rolJ sk := by
                  unfold doJ
                  rw [if_neg (by decide), if_neg (by decide), if_neg (by decide), if_neg (by omega), if_neg (by decide)]
                rw [e9] at h9
                rw [show l1.length + (m - q) = l1.length + (m - (q + 1)) + 1 by omega]
                exact h9
              have hlr : sk.cur.length + (lvAt sk.lv (sk.lv.length - 1)).length ≤ 1000000000 := by
                have h8 : (lvAt sk.lv (sk.lv.length - 1)).length ≤ l1.length + (m - (q + 1)) := by
                  unfold lvAt
                  rw [List.getD_eq_getElem?_getD, List.getElem?_eq_getElem (by omega)]
                  exact hbd3.lvl _ (List.getElem_mem _)
                have := hbd3.cur.2
                omega
              have hcl4 := hbd4.cur.2
              rw [hrc] at hcl4
              obtain ⟨okK, hltk, hjk, hvk⟩ := id JLr.out
              have hvk' := hvk
              rw [← hLl] at hvk'
              obtain ⟨a8, Aq, cq, cv8, e8, qc, hcq, hFq, hpq⟩ := v_at hvk' q hqL
              have e7 : a9 = a8 := by injection e8 with e8; injection e8 with e8
              subst e7
              have hwq : IntKind.i64.wrap ((q : Int) - 1) = (q : Int) - 1 := by rw [i64_w]; unfold wrap64; omega
              clear JLr hvk' e8
              go_upto_region 23 with (fail)
              refine start_ (n := 13) (S := fun w' => w'.cell? (a9.add q) = some (.slice Aq (L.getD q []).length cq)) (ds := []) #[false, false, false, false, false, false, false, false, false, false, false, false, false] (by kernel_rfl) rfl rfl qc (fun hHeld => ?_)
              have HB3 := Aside0.mk (below_drew HB.out)
              have HJ3 := Aside0.mk (hjk.below (below_drew (Below.refl _ _)))
              have HV3 := Aside0.mk (Kd.V_below hvk (below_drew (Below.refl wr.heap.size wr)))
              have HF3 := Aside0.mk (Kd.F_below hFq (below_drew (Below.refl wr.heap.size wr)))
              have hn3 : n ≤ wr.drew.heap.size := hnr
              have hlt3 : ∀ k, okK k → n ≤ k ∧ k < wr.drew.heap.size := hltk
              clear qc HB hjk hvk hFq hnr hltk
              generalize wr.drew = w3 at hHeld HB3 HJ3 HV3 HF3 hn3 hlt3 ⊢
              refine pure_ (i := 0) (N := some 104) (v := ?_) (a' := ?_) #[true, false, false, false, false, false, false, false, false, false, false, false, false] rfl rfl (by kernel_rfl) (fun _ _ _ h => h) (Or.inl ⟨by rfl, ?_⟩) ?_ ?_
              rotate_left
              · intro w'
                go_simp
                with_reducible rfl
              rotate_left
              · simp only [Act.put, List.setIfInBounds_toArray, List.set_cons_zero, List.set_cons_succ, i64_w, i32_w]
                rfl
              refine one_ (i := 1) (N := some 105) #[true, true, false, false, false, false, false, false, false, false, false, false, false] rfl rfl (by kernel_rfl) (by decide) (fun K hK => ?_)
              refine goes_ Try.func16 (by kernel_rfl) rfl #[.pointer (some ⟨gc, 0, none⟩)] (by rfl) rfl rfl (by (try simp only [List.map_toArray, List.map_cons, List.map_nil]); first | done | rfl) ?_
              refine (j_rollback n gc okK sk w3 HJ3.out (by omega) (by omega) hlr hn3).mono ?_
              rintro e w4 ⟨rfl, hm4, hw4⟩
              refine ⟨_, rfl, ?_⟩
              have JL4 := Aside0.mk (JL.did HV3.out hm4 hw4)
              have HB4 := Aside0.mk (JW.toBelow HB3.out HB3.out.size hw4 (fun k hk => Nat.le_trans hn1 (hlt3 k hk).1))
              have HF4 := Aside0.mk (Kd.F_step HF3.out (fun k hk hlt => hw4.block k hlt hk))
              have hq4 := cell_jw hw4 hpq hHeld
              have hn4 := Nat.le_trans hn3 hw4.size
              clear HJ3 HB3 HV3 HF3 hlt3 hm4 hw4 hn3
              refine hK.out _ _ hq4 (fun hHeld => ?_)
              clear hq4
              clear hK K
              refine norm_ (a' := ?_) ?_ ?_
              rotate_left
              · show Act.put _ (some 105) _ = _
                simp only [Act.put, List.setIfInBounds_toArray, List.set_cons_zero, List.set_cons_succ, i64_w, i32_w]
                rfl
              refine pure_ (i := 2) (N := some 106) (v := ?_) (a' := ?_) #[true, true, true, false, false, false, false, false, false, false, false, false, false] rfl rfl (by kernel_rfl) (fun _ _ _ h => h) (Or.inl ⟨by rfl, ?_⟩) ?_ ?_
              rotate_left
              · intro w'
                go_simp
                with_reducible rfl
              rotate_left
              · simp only [Act.put, List.setIfInBounds_toArray, List.set_cons_zero, List.set_cons_succ, i64_w, i32_w]
                rfl
              refine pure_ (i := 3) (N := some 107) (v := ?_) (a' := ?_) #[true, true, true, true, false, false, false, false, false, false, false, false, false] rfl rfl (by kernel_rfl) (fun _ _ _ h => h) (Or.inl ⟨by rfl, ?_⟩) ?_ ?_
              rotate_left
              · intro w'
                go_simp
                with_reducible rfl
              rotate_left
              · simp only [Act.put, List.setIfInBounds_toArray, List.set_cons_zero, List.set_cons_succ, i64_w, i32_w]
                rfl
              refine pure_ (i := 4) (N := some 108) (v := ?_) (a' := ?_) #[true, true, true, true, true, false, false, false, false, false, false, false, false] rfl rfl (by kernel_rfl) (fun _ _ _ h => h) (Or.inl ⟨by rfl, ?_⟩) ?_ ?_
              rotate_left
              · intro w'
                go_simp
                with_reducible rfl
              rotate_left
              · simp only [Act.put, List.setIfInBounds_toArray, List.set_cons_zero, List.set_cons_succ, i64_w, i32_w]
                rfl
              refine pure_ (i := 6) (N := some 110) (v := ?_) (a' := ?_) #[true, true, true, true, true, false, true, false, false, false, false, false, false] rfl rfl (by kernel_rfl) (fun _ _ _ h => h) (Or.inl ⟨by rfl, ?_⟩) ?_ ?_
              rotate_left
              · intro w'
                go_simp
                with_reducible rfl
              rotate_left
              · simp only [Act.put, List.setIfInBounds_toArray, List.set_cons_zero, List.set_cons_succ, i64_w, i32_w]
                rfl
              refine pure_ (i := 7) (N := some 111) (v := ?_) (a' := ?_) #[true, true, true, true, true, false, true, true, false, false, false, false, false] rfl rfl (by kernel_rfl) (fun _ _ _ h => h) (Or.inl ⟨by rfl, ?_⟩) ?_ ?_
              rotate_left
              · intro w'
                go_simp
                with_reducible rfl
              rotate_left
              · simp only [Act.put, List.setIfInBounds_toArray, List.set_cons_zero, List.set_cons_succ, i64_w, i32_w]
                rfl
              refine pure_ (i := 8) (N := some 112) (v := ?_) (a' := ?_) #[true, true, true, true, true, false, true, true, true, false, false, false, false] rfl rfl (by kernel_rfl) (fun _ _ _ h => h) (Or.inl ⟨by rfl, ?_⟩) ?_ ?_
              rotate_left
              · intro w'
                go_simp
                rw [if_pos (by omega : (q : Int) < (m : Int) + 1)]
              rotate_left
              · simp only [Act.put, List.setIfInBounds_toArray, List.set_cons_zero, List.set_cons_succ, i64_w, i32_w]
                rfl
              refine take_ (i := 9) (N := some 113) (v := ?_) (a' := ?_) #[true, true, true, true, true, false, true, true, true, true, false, false, false] rfl rfl (by kernel_rfl) (fun _ _ _ h => h) (Or.inl ⟨by rfl, ?_⟩) hHeld ?_ ?_
              rotate_left
              · rintro w' s0
                go_simp
                with_reducible rfl
              rotate_left
              · simp only [Act.put, List.setIfInBounds_toArray, List.set_cons_zero, List.set_cons_succ, i64_w, i32_w]
                rfl
              refine one_ (i := 5) (N := some 109) #[true, true, true, true, true, true, true, true, true, true, false, false, false] rfl rfl (by kernel_rfl) (by decide) (fun K hK => ?_)
              refine goes_ Try.func12 (by kernel_rfl) rfl #[.pointer (some ⟨gc, 0, none⟩)] (by rfl) rfl rfl (by (try simp only [List.map_toArray, List.map_cons, List.map_nil]); first | done | rfl) ?_
              obtain ⟨ok4, _, hj4, _⟩ := id JL4.out
              refine (j_list n gc ok4 (rolJ sk) w4 hj4 (by rw [hrc]; omega)).mono ?_
              rintro e w5 ⟨v5, rfl, o5, hb5⟩
              clear hj4
              refine ⟨_, rfl, ?_⟩
              rw [hrc] at o5
              obtain ⟨A5, c5, rfl, hc5, hC5⟩ := Kd.R_reads (rows_R (ok := fun _ => True) o5 (fun _ _ => trivial))
              have JL5 := Aside0.mk (JL.below JL4.out hb5)
              have HB5 := Aside0.mk (HB4.out.trans (hb5.mono HB4.out.size))
              have HF5 := Aside0.mk (Kd.F_below HF4.out hb5)
              have hq5 := (hb5.cell (World.block_lt_of_cell? _ _ hHeld)).trans hHeld
              have hn5 := Nat.le_trans hn4 hb5.size
              have hsame := footbridgeref09_Same.calls 200 A5 c5 (L.getD q []) Aq cq (L.getD q []) true w5 hC5 hc5 (Kd.F_now HF5.out) hcq (same_f _ 200 (by omega) (by omega))
              clear JL4 HB4 HF4 hb5 o5 hC5 hn4
              refine hK.out _ _ hq5 (fun hHeld => ?_)
              clear hq5
              clear hK K
              refine norm_ (a' := ?_) ?_ ?_
              rotate_left
              · show Act.put _ (some 109) _ = _
                simp only [Act.put, List.setIfInBounds_toArray, List.set_cons_zero, List.set_cons_succ, i64_w, i32_w]
                rfl
              refine one_ (i := 10) (N := some 114) #[true, true, true, true, true, true, true, true, true, true, true, false, false] rfl rfl (by kernel_rfl) (by decide) (fun K hK => ?_)
              refine goes_ Try.func11 (by kernel_rfl) rfl #[.slice A5 (L.getD q []).length c5, .slice Aq (L.getD q []).length cq] (by rfl) rfl rfl (by (try simp only [List.map_toArray, List.map_cons, List.map_nil]); first | done | rfl) ?_
              refine hsame.mono ?_
              rintro e w6 ⟨rfl, hd6⟩
              refine ⟨_, rfl, ?_⟩
              have JL6 := Aside0.mk (JL.below JL5.out hd6.below)
              have HB6 := Aside0.mk (HB5.out.trans (hd6.below.mono HB5.out.size))
              have hn6 := Nat.le_trans hn5 hd6.below.size
              have hq6 := (hd6.below.cell (World.block_lt_of_cell? _ _ hHeld)).trans hHeld
              clear hsame JL5 HB5 HF5 hd6 hn5
              refine hK.out _ _ hq6 (fun hHeld => ?_)
              clear hq6
              clear hK K
              refine norm_ (a' := ?_) ?_ ?_
              rotate_left
              · show Act.put _ (some 114) _ = _
                simp only [Act.put, List.setIfInBounds_toArray, List.set_cons_zero, List.set_cons_succ, i64_w, i32_w]
                rfl
              refine pure_ (i := 11) (N := some 115) (v := ?_) (a' := ?_) #[true, true, true, true, true, true, true, true, true, true, true, true, false] rfl rfl (by kernel_rfl) (fun _ _ _ h => h) (Or.inl ⟨by rfl, ?_⟩) ?_ ?_
              rotate_left
              · intro w'
                go_simp
                with_reducible rfl
              rotate_left
              · simp only [Act.put, List.setIfInBounds_toArray, List.set_cons_zero, List.set_cons_succ, i64_w, i32_w]
                rfl
              refine pure_ (i := 12) (N := some 116) (v := ?_) (a' := ?_) #[true, true, true, true, true, true, true, true, true, true, true, true, true] rfl rfl (by kernel_rfl) (fun _ _ _ h => h) (Or.inl ⟨by rfl, ?_⟩) ?_ ?_
              rotate_left
              · intro w'
                go_simp
                with_reducible rfl
              rotate_left
              · simp only [Act.put, List.setIfInBounds_toArray, List.set_cons_zero, List.set_cons_succ, i64_w, i32_w]
                rfl
              refine done_ (by kernel_rfl) ?_
              clear hHeld
              go_wp2
              go_roundg q
              case measure => omega
              case rel => exact ⟨q, rolJ sk, by first | rfl | (simp; done), rfl, hr1, by omega, hr2, hbd4, hn6, JL6, HB6⟩

end Go.Proofs.Ytcbaojkfffodiaa.PJou
