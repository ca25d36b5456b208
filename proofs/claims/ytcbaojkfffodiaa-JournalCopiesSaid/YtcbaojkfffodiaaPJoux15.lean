-- written by wip/myprint.py over the kit's print; not a printed text of print.sh
import Derived.Test.YtcbaojkfffodiaaPJoux0
import Derived.Test.YtcbaojkfffodiaaPJoux3
import Derived.Test.YtcbaojkfffodiaaPJoux5
import Derived.Test.YtcbaojkfffodiaaPJoux6
import Derived.Test.YtcbaojkfffodiaaPJoux7
import Derived.Test.YtcbaojkfffodiaaPJoux8
import Derived.Test.YtcbaojkfffodiaaPJoux12
import Derived.Test.YtcbaojkfffodiaaPJoux13
import Derived.Test.YtcbaojkfffodiaaPJoux14
namespace Go.Proofs.Ytcbaojkfffodiaa.PJou
open Go.RowKit Go.Proofs.YtcbaojkfffodiaaW.PrintWords Go.Proofs.YtcbaojkfffodiaaW.PrintLast Go.Proofs.YtcbaojkfffodiaaW.PrintMore
attribute [local go_sem] max2_int min2_int max_two min_two max_three min_three max_four min_four   -- for this text's walks alone
set_option linter.unusedVariables false
set_option linter.unusedSimpArgs false

/-! ### footbridgelaw10_Fresh: function 7 -/
def freK (l : List S51) : List S51 := l.foldl (fun c p => setK c p.f0 p.f1) []
theorem freK_snoc (l : List S51) (p : S51) : freK (l ++ [p]) = setK (freK l) p.f0 p.f1 := by unfold freK; rw [List.foldl_append]; rfl
theorem freK_take (l : List S51) (j : Nat) (hj : j < l.length) : freK (l.take (j + 1)) = setK (freK (l.take j)) l[j].f0 l[j].f1 := by rw [List.take_add_one, List.getElem?_eq_getElem hj]; exact freK_snoc _ _
set_option maxHeartbeats 2000000 in
set_option maxRecDepth 100000 in
theorem fresh_calls (A0 : Option Addr) (c0 : Nat) (l0 : List S51) (w : World) (hr0 : Kd.C k51 w A0 l0.length l0) (hc0 : l0.length ≤ c0) (hl0 : l0.length ≤ 1000) :
    Calls Try.prog 7 #[.slice A0 l0.length c0] w fun e w' => ∃ g xv n, e = .returned (.tuple #[.pointer (some ⟨g, 0, none⟩), xv]) ∧ w.heap.size ≤ n ∧ n ≤ w'.heap.size ∧ JM n (fun k => n ≤ k) g ⟨freK l0, []⟩ w' ∧ Kd.V k51 51 w' 0 (fun k => k < n) xv (freK l0) ∧ Below w.heap.size w w' := by
  have HR := Aside0.mk hr0
  clear hr0
  go_enter Try.func7, Try.ntmps7
  go_wp2_with fail
  refine (st_new w).mono ?_
  rintro e w1 ⟨rfl, s1, hb1⟩
  have S1 := Aside0.mk s1
  have HB := Aside0.mk hb1
  have X1 : Aside0 (ByP w.heap.size (.slice none 0 0) w1 (.slice none 0 0) []) := Aside0.mk (Kd.V_nil _ _ _ _ _)
  clear s1 hb1
  go_wp2_with fail
  go_loopg [5, 6] l0.length (fun gg s5 s6 wx => ∃ (j : Nat) (v : Value), s6 = .int .i64 j ∧ j + gg = l0.length ∧ (freK (l0.take j)).length ≤ j ∧ Aside0 (StoreIs w.heap.size w.heap.size v (freK (l0.take j)) wx) ∧ Aside0 (ByP w.heap.size v wx s5 (freK (l0.take j))) ∧ Aside0 (Below w.heap.size w wx))
  case atStart => exact ⟨0, _, rfl, by omega, Nat.le_refl _, S1, X1, HB⟩
  case round =>
    clear HB S1 X1
    obtain ⟨j, v, rfl, hj, hxj, S1, X1, HB⟩ := hrel
    by_cases hlt : j < l0.length
    · have hx0 : (0 : Int) ≤ ((j : Nat) : Int) := by omega
      have hkl : ((j : Nat) : Int) < (l0.length : Int) := by omega
      obtain ⟨ad, e1, z0, z1⟩ := at_T51 (Kd.C_below HR.out HB.out) ((j : Nat) : Int) hx0 hkl
      subst e1
      obtain ⟨ad2, e2, zw0, zw1⟩ := at_T51 HR.out ((j : Nat) : Int) hx0 hkl
      obtain rfl : ad = ad2 := Option.some.inj e2
      have hd : rd_T51 l0 (j : Int) = l0[j] := rdP l0 j hlt
      rw [hd] at z0 z1 zw0 zw1
      have hstep := freK_take l0 j hlt
      generalize l0[j] = d at z0 z1 zw0 zw1 hstep
      rw [Int.toNat_natCast] at z0 z1 zw0 zw1
      go_upto_region 6 with (fail)
      refine start_ (n := 12) (S := fun w' => w'.cell? (ad.add (j * 2)) = some (.string d.f0) ∧ w'.cell? ⟨(ad.add (j * 2)).block, (ad.add (j * 2)).off + 1, none⟩ = some (.string d.f1)) (ds := [11]) #[false, false, false, false, false, false, false, false, false, false, false, false] (by kernel_rfl) rfl rfl ⟨z0, z1⟩ (fun hHeld => ?_)
      have S2 := Aside0.mk (StoreIs.below S1.out (below_drew (Below.refl _ _)))
      have X2 := Aside0.mk (ByP.below X1.out (below_drew (Below.refl _ _)))
      have HB2 := Aside0.mk (below_drew HB.out)
      clear S1 X1 HB z0 z1
      generalize wr.drew = w2 at hHeld S2 X2 HB2 ⊢
      refine pure_ (i := 0) (N := some 16) (v := ?_) (a' := ?_) #[true, false, false, false, false, false, false, false, false, false, false, false] rfl rfl (by kernel_rfl) (fun _ _ _ h => h) (Or.inl ⟨by rfl, ?_⟩) ?_ ?_
      rotate_left
      · intro w'
        go_simp
        with_reducible rfl
      rotate_left
      · simp only [Act.put, List.setIfInBounds_toArray, List.set_cons_zero, List.set_cons_succ, i64_w, i32_w]
        rfl
      refine pure_ (i := 1) (N := some 17) (v := ?_) (a' := ?_) #[true, true, false, false, false, false, false, false, false, false, false, false] rfl rfl (by kernel_rfl) (fun _ _ _ h => h) (Or.inl ⟨by rfl, ?_⟩) ?_ ?_
      rotate_left
      · intro w'
        go_simp
        with_reducible rfl
      rotate_left
      · simp only [Act.put, List.setIfInBounds_toArray, List.set_cons_zero, List.set_cons_succ, i64_w, i32_w]
        rfl
      refine pure_ (i := 2) (N := some 18) (v := ?_) (a' := ?_) #[true, true, true, false, false, false, false, false, false, false, false, false] rfl rfl (by kernel_rfl) (fun _ _ _ h => h) (Or.inl ⟨by rfl, ?_⟩) ?_ ?_
      rotate_left
      · intro w'
        go_simp
        with_reducible rfl
      rotate_left
      · simp only [Act.put, List.setIfInBounds_toArray, List.set_cons_zero, List.set_cons_succ, i64_w, i32_w]
        rfl
      refine pure_ (i := 3) (N := some 19) (v := ?_) (a' := ?_) #[true, true, true, true, false, false, false, false, false, false, false, false] rfl rfl (by kernel_rfl) (fun _ _ _ h => h) (Or.inl ⟨by rfl, ?_⟩) ?_ ?_
      rotate_left
      · intro w'
        go_simp
        with_reducible rfl
      rotate_left
      · simp only [Act.put, List.setIfInBounds_toArray, List.set_cons_zero, List.set_cons_succ, i64_w, i32_w]
        rfl
      refine pure_ (i := 4) (N := some 20) (v := ?_) (a' := ?_) #[true, true, true, true, true, false, false, false, false, false, false, false] rfl rfl (by kernel_rfl) (fun _ _ _ h => h) (Or.inl ⟨by rfl, ?_⟩) ?_ ?_
      rotate_left
      · intro w'
        go_simp
        with_reducible rfl
      rotate_left
      · simp only [Act.put, List.setIfInBounds_toArray, List.set_cons_zero, List.set_cons_succ, i64_w, i32_w]
        rfl
      refine take_ (i := 5) (N := some 21) (v := ?_) (a' := ?_) #[true, true, true, true, true, true, false, false, false, false, false, false] rfl rfl (by kernel_rfl) (fun _ _ _ h => h) (Or.inl ⟨by rfl, ?_⟩) hHeld ?_ ?_
      rotate_left
      · rintro w' ⟨s0, s1⟩
        go_simp
        with_reducible rfl
      rotate_left
      · simp only [Act.put, List.setIfInBounds_toArray, List.set_cons_zero, List.set_cons_succ, i64_w, i32_w]
        rfl
      refine pure_ (i := 6) (N := some 22) (v := ?_) (a' := ?_) #[true, true, true, true, true, true, true, false, false, false, false, false] rfl rfl (by kernel_rfl) (fun _ _ _ h => h) (Or.inl ⟨by rfl, ?_⟩) ?_ ?_
      rotate_left
      · intro w'
        go_simp
        with_reducible rfl
      rotate_left
      · simp only [Act.put, List.setIfInBounds_toArray, List.set_cons_zero, List.set_cons_succ, i64_w, i32_w]
        rfl
      refine pure_ (i := 7) (N := some 23) (v := ?_) (a' := ?_) #[true, true, true, true, true, true, true, true, false, false, false, false] rfl rfl (by kernel_rfl) (fun _ _ _ h => h) (Or.inl ⟨by rfl, ?_⟩) ?_ ?_
      rotate_left
      · intro w'
        go_simp
        with_reducible rfl
      rotate_left
      · simp only [Act.put, List.setIfInBounds_toArray, List.set_cons_zero, List.set_cons_succ, i64_w, i32_w]
        rfl
      refine pure_ (i := 8) (N := some 24) (v := ?_) (a' := ?_) #[true, true, true, true, true, true, true, true, true, false, false, false] rfl rfl (by kernel_rfl) (fun _ _ _ h => h) (Or.inl ⟨by rfl, ?_⟩) ?_ ?_
      rotate_left
      · intro w'
        go_simp
        with_reducible rfl
      rotate_left
      · simp only [Act.put, List.setIfInBounds_toArray, List.set_cons_zero, List.set_cons_succ, i64_w, i32_w]
        rfl
      refine pure_ (i := 9) (N := some 25) (v := ?_) (a' := ?_) #[true, true, true, true, true, true, true, true, true, true, false, false] rfl rfl (by kernel_rfl) (fun _ _ _ h => h) (Or.inl ⟨by rfl, ?_⟩) ?_ ?_
      rotate_left
      · intro w'
        go_simp
        with_reducible rfl
      rotate_left
      · simp only [Act.put, List.setIfInBounds_toArray, List.set_cons_zero, List.set_cons_succ, i64_w, i32_w]
        rfl
      refine take_ (i := 10) (N := some 26) (v := ?_) (a' := ?_) #[true, true, true, true, true, true, true, true, true, true, true, false] rfl rfl (by kernel_rfl) (fun _ _ _ h => h) (Or.inl ⟨by rfl, ?_⟩) hHeld ?_ ?_
      rotate_left
      · rintro w' ⟨s0, s1⟩
        go_simp
        with_reducible rfl
      rotate_left
      · simp only [Act.put, List.setIfInBounds_toArray, List.set_cons_zero, List.set_cons_succ, i64_w, i32_w]
        rfl
      refine last_ (i := 11) (N := some 27) #[true, true, true, true, true, true, true, true, true, true, true, true] rfl rfl (by kernel_rfl) (by decide) (fun K hK => ?_)
      refine goes_ Try.func23 (by kernel_rfl) rfl #[.pointer (some ⟨w.heap.size, 0, none⟩), .string d.f0, .string d.f1] (by rfl) rfl rfl (by (try simp only [List.map_toArray, List.map_cons, List.map_nil]); first | done | rfl) ?_
      refine (st_set w.heap.size w.heap.size v (freK (l0.take j)) d.f0 d.f1 _ S2.out (by omega) HB2.out.size).mono ?_
      rintro e w3 ⟨rfl, v3, s3, W3, hv3⟩
      refine ⟨_, rfl, ?_⟩
      refine hK.out _ _ ?_
      clear hK K
      refine norm_ (a' := ?_) ?_ ?_
      rotate_left
      · show Act.put _ (some 27) _ = _
        simp only [Act.put, List.setIfInBounds_toArray, List.set_cons_zero, List.set_cons_succ, i64_w, i32_w]
        rfl
      refine done_ (by kernel_rfl) ?_
      have HB3 := Aside0.mk (StoreW.toBelow HB2.out HB2.out.size S2.out (Nat.le_refl _) W3)
      have X3 := Aside0.mk (ByP.store X2.out W3 hv3)
      have S3 := Aside0.mk s3
      have zz0 := (HB3.out.cell (World.block_lt_of_cell? _ _ zw0)).trans zw0
      have zz1 := (HB3.out.cell (World.block_lt_of_cell? _ _ zw1)).trans zw1
      have hsort := S2.out.2.1
      clear S2 X2 HB2 s3 W3 hv3 hHeld
      obtain ⟨A5, c5, rfl, hc5, hF5⟩ := id X3.out
      clear hF5
      go_upto_region 7 with (fail)
      refine start_ (n := 17) (S := fun w' => w'.cell? (ad.add (j * 2)) = some (.string d.f0) ∧ w'.cell? ⟨(ad.add (j * 2)).block, (ad.add (j * 2)).off + 1, none⟩ = some (.string d.f1)) (ds := [11]) #[false, false, false, false, false, false, false, false, false, false, false, false, false, false, false, false, false] (by kernel_rfl) rfl rfl ⟨zz0, zz1⟩ (fun hHeld => ?_)
      replace S3 := Aside0.mk (StoreIs.below S3.out (below_drew (Below.refl _ _)))
      replace X3 := Aside0.mk (ByP.below X3.out (below_drew (Below.refl _ _)))
      replace HB3 := Aside0.mk (below_drew HB3.out)
      clear zz0 zz1
      generalize w3.drew = w3 at hHeld S3 X3 HB3 ⊢
      have hset := footbridgeref09_Set.calls ((freK (l0.take j)).length + 1) A5 c5 (freK (l0.take j)) d.f0 d.f1 _ _ w3 (Kd.V_reads' X3.out).2.2 hc5 (set_f (freK (l0.take j)) d.f0 d.f1 _ hsort (by omega) (by omega))
      refine pure_ (i := 0) (N := some 29) (v := ?_) (a' := ?_) #[true, false, false, false, false, false, false, false, false, false, false, false, false, false, false, false, false] rfl rfl (by kernel_rfl) (fun _ _ _ h => h) (Or.inl ⟨by rfl, ?_⟩) ?_ ?_
      rotate_left
      · intro w'
        go_simp
        with_reducible rfl
      rotate_left
      · simp only [Act.put, List.setIfInBounds_toArray, List.set_cons_zero, List.set_cons_succ, i64_w, i32_w]
        rfl
      refine pure_ (i := 1) (N := some 30) (v := ?_) (a' := ?_) #[true, true, false, false, false, false, false, false, false, false, false, false, false, false, false, false, false] rfl rfl (by kernel_rfl) (fun _ _ _ h => h) (Or.inl ⟨by rfl, ?_⟩) ?_ ?_
      rotate_left
      · intro w'
        go_simp
        with_reducible rfl
      rotate_left
      · simp only [Act.put, List.setIfInBounds_toArray, List.set_cons_zero, List.set_cons_succ, i64_w, i32_w]
        rfl
      refine pure_ (i := 2) (N := some 31) (v := ?_) (a' := ?_) #[true, true, true, false, false, false, false, false, false, false, false, false, false, false, false, false, false] rfl rfl (by kernel_rfl) (fun _ _ _ h => h) (Or.inl ⟨by rfl, ?_⟩) ?_ ?_
      rotate_left
      · intro w'
        go_simp
        with_reducible rfl
      rotate_left
      · simp only [Act.put, List.setIfInBounds_toArray, List.set_cons_zero, List.set_cons_succ, i64_w, i32_w]
        rfl
      refine pure_ (i := 3) (N := some 32) (v := ?_) (a' := ?_) #[true, true, true, true, false, false, false, false, false, false, false, false, false, false, false, false, false] rfl rfl (by kernel_rfl) (fun _ _ _ h => h) (Or.inl ⟨by rfl, ?_⟩) ?_ ?_
      rotate_left
      · intro w'
        go_simp
        with_reducible rfl
      rotate_left
      · simp only [Act.put, List.setIfInBounds_toArray, List.set_cons_zero, List.set_cons_succ, i64_w, i32_w]
        rfl
      refine pure_ (i := 4) (N := some 33) (v := ?_) (a' := ?_) #[true, true, true, true, true, false, false, false, false, false, false, false, false, false, false, false, false] rfl rfl (by kernel_rfl) (fun _ _ _ h => h) (Or.inl ⟨by rfl, ?_⟩) ?_ ?_
      rotate_left
      · intro w'
        go_simp
        with_reducible rfl
      rotate_left
      · simp only [Act.put, List.setIfInBounds_toArray, List.set_cons_zero, List.set_cons_succ, i64_w, i32_w]
        rfl
      refine take_ (i := 5) (N := some 34) (v := ?_) (a' := ?_) #[true, true, true, true, true, true, false, false, false, false, false, false, false, false, false, false, false] rfl rfl (by kernel_rfl) (fun _ _ _ h => h) (Or.inl ⟨by rfl, ?_⟩) hHeld ?_ ?_
      rotate_left
      · rintro w' ⟨s0, s1⟩
        go_simp
        with_reducible rfl
      rotate_left
      · simp only [Act.put, List.setIfInBounds_toArray, List.set_cons_zero, List.set_cons_succ, i64_w, i32_w]
        rfl
      refine pure_ (i := 6) (N := some 35) (v := ?_) (a' := ?_) #[true, true, true, true, true, true, true, false, false, false, false, false, false, false, false, false, false] rfl rfl (by kernel_rfl) (fun _ _ _ h => h) (Or.inl ⟨by rfl, ?_⟩) ?_ ?_
      rotate_left
      · intro w'
        go_simp
        with_reducible rfl
      rotate_left
      · simp only [Act.put, List.setIfInBounds_toArray, List.set_cons_zero, List.set_cons_succ, i64_w, i32_w]
        rfl
      refine pure_ (i := 7) (N := some 36) (v := ?_) (a' := ?_) #[true, true, true, true, true, true, true, true, false, false, false, false, false, false, false, false, false] rfl rfl (by kernel_rfl) (fun _ _ _ h => h) (Or.inl ⟨by rfl, ?_⟩) ?_ ?_
      rotate_left
      · intro w'
        go_simp
        with_reducible rfl
      rotate_left
      · simp only [Act.put, List.setIfInBounds_toArray, List.set_cons_zero, List.set_cons_succ, i64_w, i32_w]
        rfl
      refine pure_ (i := 8) (N := some 37) (v := ?_) (a' := ?_) #[true, true, true, true, true, true, true, true, true, false, false, false, false, false, false, false, false] rfl rfl (by kernel_rfl) (fun _ _ _ h => h) (Or.inl ⟨by rfl, ?_⟩) ?_ ?_
      rotate_left
      · intro w'
        go_simp
        with_reducible rfl
      rotate_left
      · simp only [Act.put, List.setIfInBounds_toArray, List.set_cons_zero, List.set_cons_succ, i64_w, i32_w]
        rfl
      refine pure_ (i := 9) (N := some 38) (v := ?_) (a' := ?_) #[true, true, true, true, true, true, true, true, true, true, false, false, false, false, false, false, false] rfl rfl (by kernel_rfl) (fun _ _ _ h => h) (Or.inl ⟨by rfl, ?_⟩) ?_ ?_
      rotate_left
      · intro w'
        go_simp
        with_reducible rfl
      rotate_left
      · simp only [Act.put, List.setIfInBounds_toArray, List.set_cons_zero, List.set_cons_succ, i64_w, i32_w]
        rfl
      refine take_ (i := 10) (N := some 39) (v := ?_) (a' := ?_) #[true, true, true, true, true, true, true, true, true, true, true, false, false, false, false, false, false] rfl rfl (by kernel_rfl) (fun _ _ _ h => h) (Or.inl ⟨by rfl, ?_⟩) hHeld ?_ ?_
      rotate_left
      · rintro w' ⟨s0, s1⟩
        go_simp
        with_reducible rfl
      rotate_left
      · simp only [Act.put, List.setIfInBounds_toArray, List.set_cons_zero, List.set_cons_succ, i64_w, i32_w]
        rfl
      refine last_ (i := 11) (N := some 40) #[true, true, true, true, true, true, true, true, true, true, true, true, false, false, false, false, false] rfl rfl (by kernel_rfl) (by decide) (fun K hK => ?_)
      refine goes_ Try.func24 (by kernel_rfl) rfl #[.slice A5 (freK (l0.take j)).length c5, .string d.f0, .string d.f1] (by rfl) rfl rfl (by (try simp only [List.map_toArray, List.map_cons, List.map_nil]); first | done | rfl) ?_
      refine hset.mono ?_
      rintro e w4 ⟨yv, rfl, hy, hb4⟩
      refine ⟨_, rfl, ?_⟩
      refine hK.out _ _ ?_
      clear hK K
      refine norm_ (a' := ?_) ?_ ?_
      rotate_left
      · show Act.put _ (some 40) _ = _
        simp only [Act.put, List.setIfInBounds_toArray, List.set_cons_zero, List.set_cons_succ, i64_w, i32_w]
        rfl
      refine pure_ (i := 12) (N := some 28) (v := ?_) (a' := ?_) #[true, true, true, true, true, true, true, true, true, true, true, true, true, false, false, false, false] rfl rfl (by kernel_rfl) (fun _ _ _ h => h) (Or.inl ⟨by rfl, ?_⟩) ?_ ?_
      rotate_left
      · intro w'
        go_simp
        with_reducible rfl
      rotate_left
      · simp only [Act.put, List.setIfInBounds_toArray, List.set_cons_zero, List.set_cons_succ, i64_w, i32_w]
        rfl
      refine pure_ (i := 13) (N := some 41) (v := ?_) (a' := ?_) #[true, true, true, true, true, true, true, true, true, true, true, true, true, true, false, false, false] rfl rfl (by kernel_rfl) (fun _ _ _ h => h) (Or.inl ⟨by rfl, ?_⟩) ?_ ?_
      rotate_left
      · intro w'
        go_simp
        with_reducible rfl
      rotate_left
      · simp only [Act.put, List.setIfInBounds_toArray, List.set_cons_zero, List.set_cons_succ, i64_w, i32_w]
        rfl
      refine pure_ (i := 14) (N := some 42) (v := ?_) (a' := ?_) #[true, true, true, true, true, true, true, true, true, true, true, true, true, true, true, false, false] rfl rfl (by kernel_rfl) (fun _ _ _ h => h) (Or.inl ⟨by rfl, ?_⟩) ?_ ?_
      rotate_left
      · intro w'
        go_simp
        with_reducible rfl
      rotate_left
      · simp only [Act.put, List.setIfInBounds_toArray, List.set_cons_zero, List.set_cons_succ, i64_w, i32_w]
        rfl
      refine pure_ (i := 15) (N := some 7) (v := ?_) (a' := ?_) #[true, true, true, true, true, true, true, true, true, true, true, true, true, true, true, true, false] rfl rfl (by kernel_rfl) (fun _ _ _ h => h) (Or.inl ⟨by rfl, ?_⟩) ?_ ?_
      rotate_left
      · intro w'
        go_simp
        with_reducible rfl
      rotate_left
      · simp only [Act.put, List.setIfInBounds_toArray, List.set_cons_zero, List.set_cons_succ, i64_w, i32_w]
        rfl
      refine pure_ (i := 16) (N := some 8) (v := ?_) (a' := ?_) #[true, true, true, true, true, true, true, true, true, true, true, true, true, true, true, true, true] rfl rfl (by kernel_rfl) (fun _ _ _ h => h) (Or.inl ⟨by rfl, ?_⟩) ?_ ?_
      rotate_left
      · intro w'
        go_simp
        with_reducible rfl
      rotate_left
      · simp only [Act.put, List.setIfInBounds_toArray, List.set_cons_zero, List.set_cons_succ, i64_w, i32_w]
        rfl
      refine done_ (by kernel_rfl) ?_
      have S4 := Aside0.mk (StoreIs.below S3.out hb4)
      have X4 : Aside0 (ByP w.heap.size v3 w4 yv _) := Aside0.mk (ByP.fresh S3.out (Nat.le_refl _) hy)
      have HB4 := Aside0.mk (HB3.out.trans (hb4.mono HB3.out.size))
      have hlen := setK_len (freK (l0.take j)) d.f0 d.f1
      rw [← hstep] at S4 X4 hlen
      clear S3 X3 HB3 hy hb4 hset
      go_wp2
      go_roundg (l0.length - (j + 1))
      case measure => omega
      case rel => exact ⟨j + 1, v3, by first | rfl | (simp; done), by omega, by omega, S4, X4, HB4⟩
    · obtain rfl : j = l0.length := by omega
      rw [List.take_length] at S1 X1 hxj
      go_wp2_with fail
      refine (j_new w.heap.size w.heap.size v (freK l0) _ S1.out (by omega)).mono ?_
      rintro e w2 ⟨g, rfl, hJ, hb2⟩
      have X2 := Kd.V_old X1.out hb2
      have hfin := Aside0.mk (show _ ∧ _ ∧ _ ∧ _ ∧ _ from ⟨HB.out.size, hb2.size, hJ, Kd.V_mono X2 (fun k hk => hk.2), HB.out.trans (hb2.mono HB.out.size)⟩)
      obtain ⟨A5, c5, rfl, hc5, hF5⟩ := id X1.out
      clear hF5 S1 X1 X2 HB hJ hb2
      go_wp2
      go_ret2
      exact ⟨_, _, _, rfl, hfin.out⟩

end Go.Proofs.Ytcbaojkfffodiaa.PJou
