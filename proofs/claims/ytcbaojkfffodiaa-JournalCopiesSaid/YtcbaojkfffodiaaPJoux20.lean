-- written by wip/myprint.py over the kit's print; not a printed text of print.sh
import Derived.Test.YtcbaojkfffodiaaPJoux0
import Derived.Test.YtcbaojkfffodiaaPJoux2
import Derived.Test.YtcbaojkfffodiaaPJoux3
import Derived.Test.YtcbaojkfffodiaaPJoux4
import Derived.Test.YtcbaojkfffodiaaPJoux8
import Derived.Test.YtcbaojkfffodiaaPJoux10
import Derived.Test.YtcbaojkfffodiaaPJoux14
import Derived.Test.YtcbaojkfffodiaaPJoux15
import Derived.Test.YtcbaojkfffodiaaPJoux16
import Derived.Test.YtcbaojkfffodiaaPJoux17
import Derived.Test.YtcbaojkfffodiaaPJoux18
import Derived.Test.YtcbaojkfffodiaaPJoux19
namespace Go.Proofs.Ytcbaojkfffodiaa.PJou
open Go.RowKit Go.Proofs.YtcbaojkfffodiaaW.PrintWords Go.Proofs.YtcbaojkfffodiaaW.PrintLast Go.Proofs.YtcbaojkfffodiaaW.PrintMore
attribute [local go_sem] max2_int min2_int max_two min_two max_three min_three max_four min_four   -- for this text's walks alone
set_option linter.unusedVariables false
set_option linter.unusedSimpArgs false

/-! ### footbridgelaw10_JournalPlays: function 3 -/
def footbridgelaw10_JournalPlays.f (_l0 : List S51) (_l1 : List S33) : Option Bool := some true
set_option maxHeartbeats 4000000 in
set_option maxRecDepth 100000 in
theorem footbridgelaw10_JournalPlays.calls (A0 : Option Addr) (c0 : Nat) (l0 : List S51) (A1 : Option Addr) (c1 : Nat) (l1 : List S33) (r : Bool) (w : World) (hr0 : Kd.C k51 w A0 l0.length l0) (hc0 : l0.length ≤ c0) (hr1 : Kd.C k33 w A1 l1.length l1) (hc1 : l1.length ≤ c1) (h : footbridgelaw10_JournalPlays.f l0 l1 = some r) :
    Calls Try.prog 3 #[.slice A0 l0.length c0, .slice A1 l1.length c1] w fun e w' => e = .returned (.bool r) ∧ Below w.heap.size w w' := by
  obtain rfl : true = r := Option.some.inj h
  clear h
  have _ := @jdo_calls
  have _ := @j_get
  by_cases hbig : 40 < l0.length ∨ 80 < l1.length
  · by_cases hb0 : 40 < l0.length
    all_goals
      go_enter Try.func3, Try.ntmps3
      have hb1 : 40 < l0.length ∨ 80 < (l1.length : Int) := by omega
      go_wp2_with fail
      refine (jawake_calls w).mono ?_
      rintro e w' ⟨rfl, hb⟩
      go_wp2
      go_ret
      exact ⟨rfl, hb⟩
  have hb0 : ¬ 40 < l0.length := fun h => hbig (.inl h)
  have hb1 : ¬ 80 < l1.length := fun h => hbig (.inr h)
  have HR1 := Aside0.mk hr1
  have hfresh := fresh_calls A0 c0 l0 w hr0 hc0 (by omega)
  clear hr0 hr1 hbig
  go_enter Try.func3, Try.ntmps3
  go_wp2_with fail
  refine hfresh.mono ?_
  rintro e w1 ⟨g, xv, n, rfl, hn1, hn2, hJ1, hX1, hbf⟩
  clear hfresh
  obtain ⟨Ax, cx, rfl, _, _⟩ := id hX1
  have hba : Below w1.heap.size w1 (w1.alloc (.cells #[.slice Ax (freK l0).length cx] 26)) := (Below.refl _ w1).alloc (Nat.le_refl _) _
  have JL1 : Aside0 (JL n g ⟨freK l0, []⟩ (.slice (some ⟨w1.heap.size, 0, none⟩) 1 1) (lvsK [] (freK l0)) (w1.alloc (.cells #[.slice Ax (freK l0).length cx] 26))) := Aside0.mk (JL.of (hJ1.bound.below hba) (lit1_V (my_alloc_new w1 _) (fun h => by have := h.2.2.1; omega) (Kd.V_mono (Kd.V_below hX1 hba) (fun k hk h => by have := h.1; have h3 : n ≤ k := this; omega))))
  have HB1 := Aside0.mk (hbf.trans (hba.mono hbf.size))
  have BD1 : JBd 40 0 ⟨freK l0, []⟩ := by
    have := freK_bd l0
    exact ⟨fun s hs => by obtain rfl : s = freK l0 := List.mem_singleton.1 hs; exact ⟨this.1, Nat.le_trans this.2 (by omega)⟩, Nat.le_refl _, Nat.le_refl _⟩
  have hnw : n ≤ (w1.alloc (.cells #[.slice Ax (freK l0).length cx] 26)).heap.size := Nat.le_trans hn2 hba.size
  clear hJ1 hX1 hba hbf hn2
  go_wp2_with fail
  go_loopg [7, 8] l1.length (fun gg s7 s8 wx => ∃ (j : Nat) (st : JSt), s8 = .int .i64 j ∧ j + gg = l1.length ∧ JBd 40 j st ∧ n ≤ wx.heap.size ∧ Aside0 (JL n g st s7 (lvsK st.lv st.cur) wx) ∧ Aside0 (Below w.heap.size w wx))
  case atStart => exact ⟨0, _, rfl, by omega, BD1, hnw, JL1, HB1⟩
  case round =>
    clear BD1 hnw JL1 HB1
    obtain ⟨j, st, rfl, hj, hbd, hnr, JLr, HB⟩ := hrel
    by_cases hlt : j < l1.length
    · have hx0 : (0 : Int) ≤ ((j : Nat) : Int) := by omega
      have hkl : ((j : Nat) : Int) < (l1.length : Int) := by omega
      obtain ⟨ad, e1, zw0, zw1, zw2⟩ := at_T33 HR1.out ((j : Nat) : Int) hx0 hkl
      subst e1
      generalize rd_T33 l1 (j : Int) = d at zw0 zw1 zw2
      rw [Int.toNat_natCast] at zw0 zw1 zw2
      have z0 := (HB.out.cell (World.block_lt_of_cell? _ _ zw0)).trans zw0
      have z1 := (HB.out.cell (World.block_lt_of_cell? _ _ zw1)).trans zw1
      have z2 := (HB.out.cell (World.block_lt_of_cell? _ _ zw2)).trans zw2
      obtain ⟨ok2, hlt2, hj2, hv1⟩ := JLr.out
      have hs := hbd.cur
      have hrel := do_rel st d.f0 d.f1 d.f2 hs.1
      have hbd' := hbd.step d.f0 d.f1 d.f2
      have hll := hbd.len
      have hmv := moved_f (preK st.lv st.cur) st.cur d.f0 d.f1 d.f2 1001 hs.1 (by omega) (by rw [preK_len]; omega) (by omega)
      rw [hrel, ← lvsK_pre] at hmv
      obtain ⟨A7, c7, rfl, hc7, _⟩ := id hv1
      have hmc := footbridgelaw10_moved.calls 1001 (fun k => ¬ ok2 k) A7 c7 (lvsK st.lv st.cur) d.f0 d.f1 d.f2 _ _ _ hv1 hmv
      obtain ⟨st', hst'⟩ : ∃ st', (doJ st d.f0 d.f1 d.f2).1 = st' := ⟨_, rfl⟩
      rw [hst'] at hmc hbd'
      generalize he : (doJ st d.f0 d.f1 d.f2).2 = ee at hmc
      clear hmv hrel JLr hv1
      go_wp2_with fail
      refine hmc.mono ?_
      rintro e w2 ⟨v2, rfl, hv2, hb2⟩
      replace hv2 : Kd.V (Kd.slice 51 k51) 26 w2 0 (fun k => ¬ ok2 k) v2 (lvsK st'.lv st'.cur) := Kd.V_lower (Kd.V_mono hv2 (fun k hk => hk.elim id (fun h1 h2 => by have := (hlt2 k h2).2; omega))) (Nat.zero_le _)
      replace hlt2 : ∀ k, ok2 k → n ≤ k ∧ k < w2.heap.size := fun k hk => ⟨(hlt2 k hk).1, Nat.lt_of_lt_of_le (hlt2 k hk).2 hb2.size⟩
      replace hj2 := hj2.below hb2
      have hB2 := HB.out.trans (hb2.mono HB.out.size)
      have hn2 := Nat.le_trans hnr hb2.size
      have hvl := hv2
      rw [lvsK_pre] at hvl
      obtain ⟨a7, Ai, ci, c7', rfl, q3, hci, hF2, hp7⟩ := v_last hvl
      rw [preK_len] at q3 hv2 ⊢
      have q0 := (hB2.cell (World.block_lt_of_cell? _ _ zw0)).trans zw0
      have q1 := (hB2.cell (World.block_lt_of_cell? _ _ zw1)).trans zw1
      have q2 := (hB2.cell (World.block_lt_of_cell? _ _ zw2)).trans zw2
      have hcl := hbd'.cur.2
      have hll' := hbd'.len
      have hwm : IntKind.i64.wrap (st'.lv.length : Int) = (st'.lv.length : Int) := by rw [i64_w]; unfold wrap64; omega
      clear hvl hmc HB hb2 z0 z1 z2
      go_upto_region 12 with (fail)
      refine start_ (n := 28) (S := fun w' => w'.cell? (ad.add (j * 3)) = some (.int .i64 d.f0) ∧ w'.cell? ⟨(ad.add (j * 3)).block, (ad.add (j * 3)).off + 1, none⟩ = some (.string d.f1) ∧ w'.cell? ⟨(ad.add (j * 3)).block, (ad.add (j * 3)).off + 2, none⟩ = some (.string d.f2) ∧ w'.cell? (a7.add st'.lv.length) = some (.slice Ai st'.cur.length ci)) (ds := []) #[false, false, false, false, false, false, false, false, false, false, false, false, false, false, false, false, false, false, false, false, false, false, false, false, false, false, false, false] (by kernel_rfl) rfl rfl ⟨q0, q1, q2, q3⟩ (fun hHeld => ?_)
      have HJ3 := Aside0.mk (hj2.below (below_drew (Below.refl _ _)))
      have HB3 := Aside0.mk (below_drew hB2)
      have HV3 := Aside0.mk (Kd.V_below hv2 (below_drew (Below.refl w2.heap.size w2)))
      have HF3 := Aside0.mk (Kd.F_below hF2 (below_drew (Below.refl w2.heap.size w2)))
      have hn3 : n ≤ w2.drew.heap.size := hn2
      have hlt3 : ∀ k, ok2 k → n ≤ k ∧ k < w2.drew.heap.size := hlt2
      clear q0 q1 q2 q3 hj2 hB2 hv2 hF2 hn2 hlt2
      generalize w2.drew = w3 at hHeld HJ3 HB3 HV3 HF3 hn3 hlt3 ⊢
      refine pure_ (i := 0) (N := some 49) (v := ?_) (a' := ?_) #[true, false, false, false, false, false, false, false, false, false, false, false, false, false, false, false, false, false, false, false, false, false, false, false, false, false, false, false] rfl rfl (by kernel_rfl) (fun _ _ _ h => h) (Or.inl ⟨by rfl, ?_⟩) ?_ ?_
      rotate_left
      · intro w'
        go_simp
        with_reducible rfl
      rotate_left
      · simp only [Act.put, List.setIfInBounds_toArray, List.set_cons_zero, List.set_cons_succ, i64_w, i32_w]
        rfl
      refine pure_ (i := 1) (N := some 50) (v := ?_) (a' := ?_) #[true, true, false, false, false, false, false, false, false, false, false, false, false, false, false, false, false, false, false, false, false, false, false, false, false, false, false, false] rfl rfl (by kernel_rfl) (fun _ _ _ h => h) (Or.inl ⟨by rfl, ?_⟩) ?_ ?_
      rotate_left
      · intro w'
        go_simp
        with_reducible rfl
      rotate_left
      · simp only [Act.put, List.setIfInBounds_toArray, List.set_cons_zero, List.set_cons_succ, i64_w, i32_w]
        rfl
      refine pure_ (i := 2) (N := some 51) (v := ?_) (a' := ?_) #[true, true, true, false, false, false, false, false, false, false, false, false, false, false, false, false, false, false, false, false, false, false, false, false, false, false, false, false] rfl rfl (by kernel_rfl) (fun _ _ _ h => h) (Or.inl ⟨by rfl, ?_⟩) ?_ ?_
      rotate_left
      · intro w'
        go_simp
        with_reducible rfl
      rotate_left
      · simp only [Act.put, List.setIfInBounds_toArray, List.set_cons_zero, List.set_cons_succ, i64_w, i32_w]
        rfl
      refine pure_ (i := 3) (N := some 52) (v := ?_) (a' := ?_) #[true, true, true, true, false, false, false, false, false, false, false, false, false, false, false, false, false, false, false, false, false, false, false, false, false, false, false, false] rfl rfl (by kernel_rfl) (fun _ _ _ h => h) (Or.inl ⟨by rfl, ?_⟩) ?_ ?_
      rotate_left
      · intro w'
        go_simp
        with_reducible rfl
      rotate_left
      · simp only [Act.put, List.setIfInBounds_toArray, List.set_cons_zero, List.set_cons_succ, i64_w, i32_w]
        rfl
      refine take_ (i := 4) (N := some 53) (v := ?_) (a' := ?_) #[true, true, true, true, true, false, false, false, false, false, false, false, false, false, false, false, false, false, false, false, false, false, false, false, false, false, false, false] rfl rfl (by kernel_rfl) (fun _ _ _ h => h) (Or.inl ⟨by rfl, ?_⟩) hHeld ?_ ?_
      rotate_left
      · rintro w' ⟨s0, s1, s2, s3⟩
        go_simp
        with_reducible rfl
      rotate_left
      · simp only [Act.put, List.setIfInBounds_toArray, List.set_cons_zero, List.set_cons_succ, i64_w, i32_w]
        rfl
      refine pure_ (i := 6) (N := some 55) (v := ?_) (a' := ?_) #[true, true, true, true, true, false, true, false, false, false, false, false, false, false, false, false, false, false, false, false, false, false, false, false, false, false, false, false] rfl rfl (by kernel_rfl) (fun _ _ _ h => h) (Or.inl ⟨by rfl, ?_⟩) ?_ ?_
      rotate_left
      · intro w'
        go_simp
        with_reducible rfl
      rotate_left
      · simp only [Act.put, List.setIfInBounds_toArray, List.set_cons_zero, List.set_cons_succ, i64_w, i32_w]
        rfl
      refine one_ (i := 5) (N := some 54) #[true, true, true, true, true, true, true, false, false, false, false, false, false, false, false, false, false, false, false, false, false, false, false, false, false, false, false, false] rfl rfl (by kernel_rfl) (by decide) (fun K hK => ?_)
      refine goes_ Try.func9 (by kernel_rfl) rfl #[.pointer (some ⟨g, 0, none⟩), .agg #[.int .i64 d.f0, .string d.f1, .string d.f2]] (by rfl) rfl rfl (by (try simp only [List.map_toArray, List.map_cons, List.map_nil]); first | done | rfl) ?_
      refine (jdo_calls n g 40 j ok2 st d.f0 d.f1 d.f2 w3 HJ3.out (fun k hk => (hlt3 k hk).2) hbd (by omega) (by omega) hn3).mono ?_
      rintro e w4 ⟨rfl, hm4, hw4⟩
      refine ⟨_, rfl, ?_⟩
      rw [hst'] at hm4
      have JL4 := Aside0.mk (JL.did HV3.out hm4 hw4)
      have HB4 := Aside0.mk (JW.toBelow HB3.out HB3.out.size hw4 (fun k hk => Nat.le_trans hn1 (hlt3 k hk).1))
      have HF4 := Aside0.mk (Kd.F_step HF3.out (fun k hk hlt => hw4.block k hlt hk))
      have hq4 := cell_jw hw4 hp7 hHeld.2.2.2
      have hn4 := Nat.le_trans hn3 hw4.size
      clear HJ3 HB3 HV3 HF3 hlt3 hm4 hw4 hn3
      refine hK.out _ _ ⟨(HB4.out.cell (World.block_lt_of_cell? _ _ zw0)).trans zw0, (HB4.out.cell (World.block_lt_of_cell? _ _ zw1)).trans zw1, (HB4.out.cell (World.block_lt_of_cell? _ _ zw2)).trans zw2, hq4⟩ (fun hHeld => ?_)
      clear hq4
      clear hK K
      refine norm_ (a' := ?_) ?_ ?_
      rotate_left
      · show Act.put _ (some 54) _ = _
        simp only [Act.put, List.setIfInBounds_toArray, List.set_cons_zero, List.set_cons_succ, i64_w, i32_w]
        rfl
      refine pure_ (i := 7) (N := some 56) (v := ?_) (a' := ?_) #[true, true, true, true, true, true, true, true, false, false, false, false, false, false, false, false, false, false, false, false, false, false, false, false, false, false, false, false] rfl rfl (by kernel_rfl) (fun _ _ _ h => h) (Or.inl ⟨by rfl, ?_⟩) ?_ ?_
      rotate_left
      · intro w'
        go_simp
        first | done | (simp; done) | skip
        with_reducible rfl
      rotate_left
      · simp only [Act.put, List.setIfInBounds_toArray, List.set_cons_zero, List.set_cons_succ, i64_w, i32_w]
        rfl
      refine pure_ (i := 8) (N := some 57) (v := ?_) (a' := ?_) #[true, true, true, true, true, true, true, true, true, false, false, false, false, false, false, false, false, false, false, false, false, false, false, false, false, false, false, false] rfl rfl (by kernel_rfl) (fun _ _ _ h => h) (Or.inl ⟨by rfl, ?_⟩) ?_ ?_
      rotate_left
      · intro w'
        go_simp
        with_reducible rfl
      rotate_left
      · simp only [Act.put, List.setIfInBounds_toArray, List.set_cons_zero, List.set_cons_succ, i64_w, i32_w]
        rfl
      refine pure_ (i := 9) (N := some 58) (v := ?_) (a' := ?_) #[true, true, true, true, true, true, true, true, true, true, false, false, false, false, false, false, false, false, false, false, false, false, false, false, false, false, false, false] rfl rfl (by kernel_rfl) (fun _ _ _ h => h) (Or.inl ⟨by rfl, ?_⟩) ?_ ?_
      rotate_left
      · intro w'
        go_simp
        with_reducible rfl
      rotate_left
      · simp only [Act.put, List.setIfInBounds_toArray, List.set_cons_zero, List.set_cons_succ, i64_w, i32_w]
        rfl
      refine pure_ (i := 11) (N := some 60) (v := ?_) (a' := ?_) #[true, true, true, true, true, true, true, true, true, true, false, true, false, false, false, false, false, false, false, false, false, false, false, false, false, false, false, false] rfl rfl (by kernel_rfl) (fun _ _ _ h => h) (Or.inl ⟨by rfl, ?_⟩) ?_ ?_
      rotate_left
      · intro w'
        go_simp
        with_reducible rfl
      rotate_left
      · simp only [Act.put, List.setIfInBounds_toArray, List.set_cons_zero, List.set_cons_succ, i64_w, i32_w]
        rfl
      refine pure_ (i := 12) (N := some 61) (v := ?_) (a' := ?_) #[true, true, true, true, true, true, true, true, true, true, false, true, true, false, false, false, false, false, false, false, false, false, false, false, false, false, false, false] rfl rfl (by kernel_rfl) (fun _ _ _ h => h) (Or.inl ⟨by rfl, ?_⟩) ?_ ?_
      rotate_left
      · intro w'
        go_simp
        with_reducible rfl
      rotate_left
      · simp only [Act.put, List.setIfInBounds_toArray, List.set_cons_zero, List.set_cons_succ, i64_w, i32_w]
        rfl
      refine pure_ (i := 13) (N := some 62) (v := ?_) (a' := ?_) #[true, true, true, true, true, true, true, true, true, true, false, true, true, true, false, false, false, false, false, false, false, false, false, false, false, false, false, false] rfl rfl (by kernel_rfl) (fun _ _ _ h => h) (Or.inl ⟨by rfl, ?_⟩) ?_ ?_
      rotate_left
      · intro w'
        go_simp
        with_reducible rfl
      rotate_left
      · simp only [Act.put, List.setIfInBounds_toArray, List.set_cons_zero, List.set_cons_succ, i64_w, i32_w]
        rfl
      refine one_ (i := 10) (N := some 59) #[true, true, true, true, true, true, true, true, true, true, true, true, true, true, false, false, false, false, false, false, false, false, false, false, false, false, false, false] rfl rfl (by kernel_rfl) (by decide) (fun K hK => ?_)
      refine goes_ Try.func10 (by kernel_rfl) rfl #[.pointer (some ⟨g, 0, none⟩)] (by rfl) rfl rfl (by (try simp only [List.map_toArray, List.map_cons, List.map_nil]); first | done | rfl) ?_
      obtain ⟨ok4, _, hj4, _⟩ := id JL4.out
      refine (j_depth n g ok4 st' w4 hj4).mono ?_
      rintro e w5 ⟨rfl, hw5⟩
      rw [hw5]
      clear hw5 hj4
      refine ⟨_, rfl, ?_⟩
      refine hK.out _ _ hHeld (fun hHeld => ?_)
      clear hK K
      refine norm_ (a' := ?_) ?_ ?_
      rotate_left
      · show Act.put _ (some 59) _ = _
        simp only [Act.put, List.setIfInBounds_toArray, List.set_cons_zero, List.set_cons_succ, i64_w, i32_w]
        rfl
      refine pure_ (i := 14) (N := some 63) (v := ?_) (a' := ?_) #[true, true, true, true, true, true, true, true, true, true, true, true, true, true, true, false, false, false, false, false, false, false, false, false, false, false, false, false] rfl rfl (by kernel_rfl) (fun _ _ _ h => h) (Or.inl ⟨by rfl, ?_⟩) ?_ ?_
      rotate_left
      · intro w'
        go_simp
        with_reducible rfl
      rotate_left
      · simp only [Act.put, List.setIfInBounds_toArray, List.set_cons_zero, List.set_cons_succ, i64_w, i32_w]
        rfl
      refine pure_ (i := 15) (N := some 64) (v := ?_) (a' := ?_) #[true, true, true, true, true, true, true, true, true, true, true, true, true, true, true, true, false, false, false, false, false, false, false, false, false, false, false, false] rfl rfl (by kernel_rfl) (fun _ _ _ h => h) (Or.inl ⟨by rfl, ?_⟩) ?_ ?_
      rotate_left
      · intro w'
        go_simp
        with_reducible rfl
      rotate_left
      · simp only [Act.put, List.setIfInBounds_toArray, List.set_cons_zero, List.set_cons_succ, i64_w, i32_w]
        rfl
      refine pure_ (i := 16) (N := some 65) (v := ?_) (a' := ?_) #[true, true, true, true, true, true, true, true, true, true, true, true, true, true, true, true, true, false, false, false, false, false, false, false, false, false, false, false] rfl rfl (by kernel_rfl) (fun _ _ _ h => h) (Or.inl ⟨by rfl, ?_⟩) ?_ ?_
      rotate_left
      · intro w'
        go_simp
        with_reducible rfl
      rotate_left
      · simp only [Act.put, List.setIfInBounds_toArray, List.set_cons_zero, List.set_cons_succ, i64_w, i32_w]
        rfl
      refine pure_ (i := 17) (N := some 66) (v := ?_) (a' := ?_) #[true, true, true, true, true, true, true, true, true, true, true, true, true, true, true, true, true, true, false, false, false, false, false, false, false, false, false, false] rfl rfl (by kernel_rfl) (fun _ _ _ h => h) (Or.inl ⟨by rfl, ?_⟩) ?_ ?_
      rotate_left
      · intro w'
        go_simp
        with_reducible rfl
      rotate_left
      · simp only [Act.put, List.setIfInBounds_toArray, List.set_cons_zero, List.set_cons_succ, i64_w, i32_w]
        rfl
      refine pure_ (i := 19) (N := some 68) (v := ?_) (a' := ?_) #[true, true, true, true, true, true, true, true, true, true, true, true, true, true, true, true, true, true, false, true, false, false, false, false, false, false, false, false] rfl rfl (by kernel_rfl) (fun _ _ _ h => h) (Or.inl ⟨by rfl, ?_⟩) ?_ ?_
      rotate_left
      · intro w'
        go_simp
        with_reducible rfl
      rotate_left
      · simp only [Act.put, List.setIfInBounds_toArray, List.set_cons_zero, List.set_cons_succ, i64_w, i32_w]
        rfl
      refine pure_ (i := 20) (N := some 69) (v := ?_) (a' := ?_) #[true, true, true, true, true, true, true, true, true, true, true, true, true, true, true, true, true, true, false, true, true, false, false, false, false, false, false, false] rfl rfl (by kernel_rfl) (fun _ _ _ h => h) (Or.inl ⟨by rfl, ?_⟩) ?_ ?_
      rotate_left
      · intro w'
        go_simp
        with_reducible rfl
      rotate_left
      · simp only [Act.put, List.setIfInBounds_toArray, List.set_cons_zero, List.set_cons_succ, i64_w, i32_w]
        rfl
      refine pure_ (i := 21) (N := some 70) (v := ?_) (a' := ?_) #[true, true, true, true, true, true, true, true, true, true, true, true, true, true, true, true, true, true, false, true, true, true, false, false, false, false, false, false] rfl rfl (by kernel_rfl) (fun _ _ _ h => h) (Or.inl ⟨by rfl, ?_⟩) ?_ ?_
      rotate_left
      · intro w'
        go_simp
        with_reducible rfl
      rotate_left
      · simp only [Act.put, List.setIfInBounds_toArray, List.set_cons_zero, List.set_cons_succ, i64_w, i32_w]
        rfl
      refine pure_ (i := 22) (N := some 71) (v := ?_) (a' := ?_) #[true, true, true, true, true, true, true, true, true, true, true, true, true, true, true, true, true, true, false, true, true, true, true, false, false, false, false, false] rfl rfl (by kernel_rfl) (fun _ _ _ h => h) (Or.inl ⟨by rfl, ?_⟩) ?_ ?_
      rotate_left
      · intro w'
        go_simp
        with_reducible rfl
      rotate_left
      · simp only [Act.put, List.setIfInBounds_toArray, List.set_cons_zero, List.set_cons_succ, i64_w, i32_w]
        rfl
      refine pure_ (i := 23) (N := some 72) (v := ?_) (a' := ?_) #[true, true, true, true, true, true, true, true, true, true, true, true, true, true, true, true, true, true, false, true, true, true, true, true, false, false, false, false] rfl rfl (by kernel_rfl) (fun _ _ _ h => h) (Or.inl ⟨by rfl, ?_⟩) ?_ ?_
      rotate_left
      · intro w'
        go_simp
        rw [if_pos (by omega : (st'.lv.length : Int) < (st'.lv.length : Int) + 1)]
      rotate_left
      · simp only [Act.put, List.setIfInBounds_toArray, List.set_cons_zero, List.set_cons_succ, i64_w, i32_w]
        rfl
      refine take_ (i := 24) (N := some 73) (v := ?_) (a' := ?_) #[true, true, true, true, true, true, true, true, true, true, true, true, true, true, true, true, true, true, false, true, true, true, true, true, true, false, false, false] rfl rfl (by kernel_rfl) (fun _ _ _ h => h) (Or.inl ⟨by rfl, ?_⟩) hHeld ?_ ?_
      rotate_left
      · rintro w' ⟨s0, s1, s2, s3⟩
        go_simp
        with_reducible rfl
      rotate_left
      · simp only [Act.put, List.setIfInBounds_toArray, List.set_cons_zero, List.set_cons_succ, i64_w, i32_w]
        rfl
      refine one_ (i := 18) (N := some 67) #[true, true, true, true, true, true, true, true, true, true, true, true, true, true, true, true, true, true, true, true, true, true, true, true, true, false, false, false] rfl rfl (by kernel_rfl) (by decide) (fun K hK => ?_)
      refine goes_ Try.func12 (by kernel_rfl) rfl #[.pointer (some ⟨g, 0, none⟩)] (by rfl) rfl rfl (by (try simp only [List.map_toArray, List.map_cons, List.map_nil]); first | done | rfl) ?_
      obtain ⟨ok4, _, hj4, _⟩ := id JL4.out
      refine (j_list n g ok4 st' w4 hj4 (by omega)).mono ?_
      rintro e w5 ⟨v5, rfl, o5, hb5⟩
      clear hj4
      refine ⟨_, rfl, ?_⟩
      obtain ⟨A5, c5, rfl, hc5, hC5⟩ := Kd.R_reads (rows_R (ok := fun _ => True) o5 (fun _ _ => trivial))
      have JL5 := Aside0.mk (JL.below JL4.out hb5)
      have HB5 := Aside0.mk (HB4.out.trans (hb5.mono HB4.out.size))
      have HF5 := Aside0.mk (Kd.F_below HF4.out hb5)
      have hq5 := (hb5.cell (World.block_lt_of_cell? _ _ hHeld.2.2.2)).trans hHeld.2.2.2
      have hn5 := Nat.le_trans hn4 hb5.size
      have hsame := footbridgeref09_Same.calls 200 A5 c5 st'.cur Ai ci st'.cur true w5 hC5 hc5 (Kd.F_now HF5.out) hci (same_f _ 200 (by omega) (by omega))
      clear JL4 HB4 HF4 hb5 o5 hC5 hn4
      refine hK.out _ _ ⟨(HB5.out.cell (World.block_lt_of_cell? _ _ zw0)).trans zw0, (HB5.out.cell (World.block_lt_of_cell? _ _ zw1)).trans zw1, (HB5.out.cell (World.block_lt_of_cell? _ _ zw2)).trans zw2, hq5⟩ (fun hHeld => ?_)
      clear hq5
      clear hK K
      refine norm_ (a' := ?_) ?_ ?_
      rotate_left
      · show Act.put _ (some 67) _ = _
        simp only [Act.put, List.setIfInBounds_toArray, List.set_cons_zero, List.set_cons_succ, i64_w, i32_w]
        rfl
      refine one_ (i := 25) (N := some 74) #[true, true, true, true, true, true, true, true, true, true, true, true, true, true, true, true, true, true, true, true, true, true, true, true, true, true, false, false] rfl rfl (by kernel_rfl) (by decide) (fun K hK => ?_)
      refine goes_ Try.func11 (by kernel_rfl) rfl #[.slice A5 st'.cur.length c5, .slice Ai st'.cur.length ci] (by rfl) rfl rfl (by (try simp only [List.map_toArray, List.map_cons, List.map_nil]); first | done | rfl) ?_
      refine hsame.mono ?_
      rintro e w6 ⟨rfl, hd6⟩
      refine ⟨_, rfl, ?_⟩
      have JL6 := Aside0.mk (JL.below JL5.out hd6.below)
      have HB6 := Aside0.mk (HB5.out.trans (hd6.below.mono HB5.out.size))
      have HF6 := Aside0.mk (Kd.F_below HF5.out hd6.below)
      have hq6 := (hd6.below.cell (World.block_lt_of_cell? _ _ hHeld.2.2.2)).trans hHeld.2.2.2
      have hn6 := Nat.le_trans hn5 hd6.below.size
      clear hsame JL5 HB5 HF5 hd6 hn5
      refine hK.out _ _ ⟨(HB6.out.cell (World.block_lt_of_cell? _ _ zw0)).trans zw0, (HB6.out.cell (World.block_lt_of_cell? _ _ zw1)).trans zw1, (HB6.out.cell (World.block_lt_of_cell? _ _ zw2)).trans zw2, hq6⟩ (fun hHeld => ?_)
      clear hK K
      refine norm_ (a' := ?_) ?_ ?_
      rotate_left
      · show Act.put _ (some 74) _ = _
        simp only [Act.put, List.setIfInBounds_toArray, List.set_cons_zero, List.set_cons_succ, i64_w, i32_w]
        rfl
      refine pure_ (i := 26) (N := some 75) (v := ?_) (a' := ?_) #[true, true, true, true, true, true, true, true, true, true, true, true, true, true, true, true, true, true, true, true, true, true, true, true, true, true, true, false] rfl rfl (by kernel_rfl) (fun _ _ _ h => h) (Or.inl ⟨by rfl, ?_⟩) ?_ ?_
      rotate_left
      · intro w'
        go_simp
        with_reducible rfl
      rotate_left
      · simp only [Act.put, List.setIfInBounds_toArray, List.set_cons_zero, List.set_cons_succ, i64_w, i32_w]
        rfl
      refine pure_ (i := 27) (N := some 76) (v := ?_) (a' := ?_) #[true, true, true, true, true, true, true, true, true, true, true, true, true, true, true, true, true, true, true, true, true, true, true, true, true, true, true, true] rfl rfl (by kernel_rfl) (fun _ _ _ h => h) (Or.inl ⟨by rfl, ?_⟩) ?_ ?_
      rotate_left
      · intro w'
        go_simp
        with_reducible rfl
      rotate_left
      · simp only [Act.put, List.setIfInBounds_toArray, List.set_cons_zero, List.set_cons_succ, i64_w, i32_w]
        rfl
      refine done_ (by kernel_rfl) ?_
      have JL6' := JL6.out
      obtain ⟨ok6, hlt6, hj6, _⟩ := id JL6'
      have k1 := hHeld.2.1
      go_wp2_with fail
      refine (j_get n g ok6 st' d.f1 w6 hj6 (by omega)).mono ?_
      rintro e w7 ⟨rfl, hb7⟩
      have JL7 := JL6'.below hb7
      have HB7 := HB6.out.trans (hb7.mono HB6.out.size)
      have HF7 := Kd.F_below HF6.out hb7
      have hn7 := Nat.le_trans hn6 hb7.size
      have hq7 := (hb7.cell (World.block_lt_of_cell? _ _ hHeld.2.2.2)).trans hHeld.2.2.2
      clear hHeld JL6 JL6' hj6 HB6 HF6 hn6 hb7 k1 hlt6
      go_upto_region 15 with (fail)
      refine start_ (n := 17) (S := fun w' => w'.cell? ⟨(ad.add (j * 3)).block, (ad.add (j * 3)).off + 1, none⟩ = some (.string d.f1) ∧ w'.cell? (a7.add st'.lv.length) = some (.slice Ai st'.cur.length ci)) (ds := []) #[false, false, false, false, false, false, false, false, false, false, false, false, false, false, false, false, false] (by kernel_rfl) rfl rfl ⟨(HB7.cell (World.block_lt_of_cell? _ _ zw1)).trans zw1, hq7⟩ (fun hHeld => ?_)
      have JL8 := Aside0.mk (JL.below JL7 (below_drew (Below.refl _ _)))
      have HB8 := Aside0.mk (below_drew HB7)
      have HF8 := Aside0.mk (Kd.F_below HF7 (below_drew (Below.refl w7.heap.size w7)))
      have hn8 : n ≤ w7.drew.heap.size := hn7
      clear JL7 HB7 HF7 hn7 hq7
      generalize w7.drew = w8 at hHeld JL8 HB8 HF8 hn8 ⊢
      refine pure_ (i := 0) (N := some 88) (v := ?_) (a' := ?_) #[true, false, false, false, false, false, false, false, false, false, false, false, false, false, false, false, false] rfl rfl (by kernel_rfl) (fun _ _ _ h => h) (Or.inl ⟨by rfl, ?_⟩) ?_ ?_
      rotate_left
      · intro w'
        go_simp
        with_reducible rfl
      rotate_left
      · simp only [Act.put, List.setIfInBounds_toArray, List.set_cons_zero, List.set_cons_succ, i64_w, i32_w]
        rfl
      refine pure_ (i := 1) (N := some 89) (v := ?_) (a' := ?_) #[true, true, false, false, false, false, false, false, false, false, false, false, false, false, false, false, false] rfl rfl (by kernel_rfl) (fun _ _ _ h => h) (Or.inl ⟨by rfl, ?_⟩) ?_ ?_
      rotate_left
      · intro w'
        go_simp
        with_reducible rfl
      rotate_left
      · simp only [Act.put, List.setIfInBounds_toArray, List.set_cons_zero, List.set_cons_succ, i64_w, i32_w]
        rfl
      refine pure_ (i := 2) (N := some 90) (v := ?_) (a' := ?_) #[true, true, true, false, false, false, false, false, false, false, false, false, false, false, false, false, false] rfl rfl (by kernel_rfl) (fun _ _ _ h => h) (Or.inl ⟨by rfl, ?_⟩) ?_ ?_
      rotate_left
      · intro w'
        go_simp
        with_reducible rfl
      rotate_left
      · simp only [Act.put, List.setIfInBounds_toArray, List.set_cons_zero, List.set_cons_succ, i64_w, i32_w]
        rfl
      refine pure_ (i := 3) (N := some 91) (v := ?_) (a' := ?_) #[true, true, true, true, false, false, false, false, false, false, false, false, false, false, false, false, false] rfl rfl (by kernel_rfl) (fun _ _ _ h => h) (Or.inl ⟨by rfl, ?_⟩) ?_ ?_
      rotate_left
      · intro w'
        go_simp
        with_reducible rfl
      rotate_left
      · simp only [Act.put, List.setIfInBounds_toArray, List.set_cons_zero, List.set_cons_succ, i64_w, i32_w]
        rfl
      refine pure_ (i := 4) (N := some 92) (v := ?_) (a' := ?_) #[true, true, true, true, true, false, false, false, false, false, false, false, false, false, false, false, false] rfl rfl (by kernel_rfl) (fun _ _ _ h => h) (Or.inl ⟨by rfl, ?_⟩) ?_ ?_
      rotate_left
      · intro w'
        go_simp
        rw [if_pos (by omega : (st'.lv.length : Int) < (st'.lv.length : Int) + 1)]
      rotate_left
      · simp only [Act.put, List.setIfInBounds_toArray, List.set_cons_zero, List.set_cons_succ, i64_w, i32_w]
        rfl
      refine take_ (i := 5) (N := some 93) (v := ?_) (a' := ?_) #[true, true, true, true, true, true, false, false, false, false, false, false, false, false, false, false, false] rfl rfl (by kernel_rfl) (fun _ _ _ h => h) (Or.inl ⟨by rfl, ?_⟩) hHeld ?_ ?_
      rotate_left
      · rintro w' ⟨s0, s1⟩
        go_simp
        with_reducible rfl
      rotate_left
      · simp only [Act.put, List.setIfInBounds_toArray, List.set_cons_zero, List.set_cons_succ, i64_w, i32_w]
        rfl
      refine pure_ (i := 6) (N := some 94) (v := ?_) (a' := ?_) #[true, true, true, true, true, true, true, false, false, false, false, false, false, false, false, false, false] rfl rfl (by kernel_rfl) (fun _ _ _ h => h) (Or.inl ⟨by rfl, ?_⟩) ?_ ?_
      rotate_left
      · intro w'
        go_simp
        with_reducible rfl
      rotate_left
      · simp only [Act.put, List.setIfInBounds_toArray, List.set_cons_zero, List.set_cons_succ, i64_w, i32_w]
        rfl
      refine pure_ (i := 7) (N := some 95) (v := ?_) (a' := ?_) #[true, true, true, true, true, true, true, true, false, false, false, false, false, false, false, false, false] rfl rfl (by kernel_rfl) (fun _ _ _ h => h) (Or.inl ⟨by rfl, ?_⟩) ?_ ?_
      rotate_left
      · intro w'
        go_simp
        with_reducible rfl
      rotate_left
      · simp only [Act.put, List.setIfInBounds_toArray, List.set_cons_zero, List.set_cons_succ, i64_w, i32_w]
        rfl
      refine pure_ (i := 8) (N := some 96) (v := ?_) (a' := ?_) #[true, true, true, true, true, true, true, true, true, false, false, false, false, false, false, false, false] rfl rfl (by kernel_rfl) (fun _ _ _ h => h) (Or.inl ⟨by rfl, ?_⟩) ?_ ?_
      rotate_left
      · intro w'
        go_simp
        with_reducible rfl
      rotate_left
      · simp only [Act.put, List.setIfInBounds_toArray, List.set_cons_zero, List.set_cons_succ, i64_w, i32_w]
        rfl
      refine pure_ (i := 9) (N := some 97) (v := ?_) (a' := ?_) #[true, true, true, true, true, true, true, true, true, true, false, false, false, false, false, false, false] rfl rfl (by kernel_rfl) (fun _ _ _ h => h) (Or.inl ⟨by rfl, ?_⟩) ?_ ?_
      rotate_left
      · intro w'
        go_simp
        with_reducible rfl
      rotate_left
      · simp only [Act.put, List.setIfInBounds_toArray, List.set_cons_zero, List.set_cons_succ, i64_w, i32_w]
        rfl
      refine take_ (i := 10) (N := some 98) (v := ?_) (a' := ?_) #[true, true, true, true, true, true, true, true, true, true, true, false, false, false, false, false, false] rfl rfl (by kernel_rfl) (fun _ _ _ h => h) (Or.inl ⟨by rfl, ?_⟩) hHeld ?_ ?_
      rotate_left
      · rintro w' ⟨s0, s1⟩
        go_simp
        with_reducible rfl
      rotate_left
      · simp only [Act.put, List.setIfInBounds_toArray, List.set_cons_zero, List.set_cons_succ, i64_w, i32_w]
        rfl
      have hget := footbridgeref09_Get.calls 200 Ai ci st'.cur d.f1 (getK st'.cur d.f1).1 (getK st'.cur d.f1).2 w8 (Kd.F_now HF8.out) hci (get_f st'.cur d.f1 200 hbd'.cur.1 (by omega) (by omega))
      refine one_ (i := 11) (N := some 99) #[true, true, true, true, true, true, true, true, true, true, true, true, false, false, false, false, false] rfl rfl (by kernel_rfl) (by decide) (fun K hK => ?_)
      refine goes_ Try.func14 (by kernel_rfl) rfl #[.slice Ai st'.cur.length ci, .string d.f1] (by rfl) rfl rfl (by (try simp only [List.map_toArray, List.map_cons, List.map_nil]); first | done | rfl) ?_
      refine hget.mono ?_
      rintro e w9 ⟨rfl, hd9⟩
      refine ⟨_, rfl, ?_⟩
      have JL9 := Aside0.mk (JL.below JL8.out hd9.below)
      have HB9 := Aside0.mk (HB8.out.trans (hd9.below.mono HB8.out.size))
      have hn9 := Nat.le_trans hn8 hd9.below.size
      have hq9 := (hd9.below.cell (World.block_lt_of_cell? _ _ hHeld.2)).trans hHeld.2
      clear hget JL8 HB8 HF8 hd9 hn8
      refine hK.out _ _ ⟨(HB9.out.cell (World.block_lt_of_cell? _ _ zw1)).trans zw1, hq9⟩ (fun hHeld => ?_)
      clear hq9
      clear hK K
      refine norm_ (a' := ?_) ?_ ?_
      rotate_left
      · show Act.put _ (some 99) _ = _
        simp only [Act.put, List.setIfInBounds_toArray, List.set_cons_zero, List.set_cons_succ, i64_w, i32_w]
        rfl
      refine pure_ (i := 12) (N := some 87) (v := ?_) (a' := ?_) #[true, true, true, true, true, true, true, true, true, true, true, true, true, false, false, false, false] rfl rfl (by kernel_rfl) (fun _ _ _ h => h) (Or.inl ⟨by rfl, ?_⟩) ?_ ?_
      rotate_left
      · intro w'
        go_simp
        with_reducible rfl
      rotate_left
      · simp only [Act.put, List.setIfInBounds_toArray, List.set_cons_zero, List.set_cons_succ, i64_w, i32_w]
        rfl
      refine pure_ (i := 13) (N := some 100) (v := ?_) (a' := ?_) #[true, true, true, true, true, true, true, true, true, true, true, true, true, true, false, false, false] rfl rfl (by kernel_rfl) (fun _ _ _ h => h) (Or.inl ⟨by rfl, ?_⟩) ?_ ?_
      rotate_left
      · intro w'
        go_simp
        with_reducible rfl
      rotate_left
      · simp only [Act.put, List.setIfInBounds_toArray, List.set_cons_zero, List.set_cons_succ, i64_w, i32_w]
        rfl
      refine pure_ (i := 14) (N := some 101) (v := ?_) (a' := ?_) #[true, true, true, true, true, true, true, true, true, true, true, true, true, true, true, false, false] rfl rfl (by kernel_rfl) (fun _ _ _ h => h) (Or.inl ⟨by rfl, ?_⟩) ?_ ?_
      rotate_left
      · intro w'
        go_simp
        with_reducible rfl
      rotate_left
      · simp only [Act.put, List.setIfInBounds_toArray, List.set_cons_zero, List.set_cons_succ, i64_w, i32_w]
        rfl
      refine pure_ (i := 15) (N := some 13) (v := ?_) (a' := ?_) #[true, true, true, true, true, true, true, true, true, true, true, true, true, true, true, true, false] rfl rfl (by kernel_rfl) (fun _ _ _ h => h) (Or.inl ⟨by rfl, ?_⟩) ?_ ?_
      rotate_left
      · intro w'
        go_simp
        with_reducible rfl
      rotate_left
      · simp only [Act.put, List.setIfInBounds_toArray, List.set_cons_zero, List.set_cons_succ, i64_w, i32_w]
        rfl
      refine pure_ (i := 16) (N := some 14) (v := ?_) (a' := ?_) #[true, true, true, true, true, true, true, true, true, true, true, true, true, true, true, true, true] rfl rfl (by kernel_rfl) (fun _ _ _ h => h) (Or.inl ⟨by rfl, ?_⟩) ?_ ?_
      rotate_left
      · intro w'
        go_simp
        with_reducible rfl
      rotate_left
      · simp only [Act.put, List.setIfInBounds_toArray, List.set_cons_zero, List.set_cons_succ, i64_w, i32_w]
        rfl
      refine done_ (by kernel_rfl) ?_
      clear hHeld
      go_wp2
      go_roundg (l1.length - (j + 1))
      case measure => omega
      case rel => exact ⟨j + 1, st', by first | rfl | (simp; done), by omega, hbd', hn9, JL9, HB9⟩
    · go_wp2_with fail
      refine (jawake_calls _).mono ?_
      rintro e w' ⟨rfl, hb⟩
      have hfin := Aside0.mk (HB.out.trans (hb.mono HB.out.size))
      clear JLr HB hb
      go_wp2
      go_ret
      exact ⟨rfl, hfin.out⟩

end Go.Proofs.Ytcbaojkfffodiaa.PJou
