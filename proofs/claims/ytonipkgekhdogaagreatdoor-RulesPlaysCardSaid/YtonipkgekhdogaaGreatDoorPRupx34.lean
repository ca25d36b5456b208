-- written by wip/myprint.py over the kit's print; not a printed text of print.sh
import Derived.Test.YtonipkgekhdogaaGreatDoorPRupx0
import Derived.Test.YtonipkgekhdogaaGreatDoorPRupx2
import Derived.Test.YtonipkgekhdogaaGreatDoorPRupx7
import Derived.Test.YtonipkgekhdogaaGreatDoorPRupx8
import Derived.Test.YtonipkgekhdogaaGreatDoorPRupx10
import Derived.Test.YtonipkgekhdogaaGreatDoorPRupx16
import Derived.Test.YtonipkgekhdogaaGreatDoorPRupx20
import Derived.Test.YtonipkgekhdogaaGreatDoorPRupx21
import Derived.Test.YtonipkgekhdogaaGreatDoorPRupx22
import Derived.Test.YtonipkgekhdogaaGreatDoorPRupx23
import Derived.Test.YtonipkgekhdogaaGreatDoorPRupx30
import Derived.Test.YtonipkgekhdogaaGreatDoorPRupx31
namespace Go.Proofs.YtonipkgekhdogaaGreatDoor.PRup
open Go.RowKit Go.Proofs.YtonipkgekhdogaaGreatDoorW.PrintWords Go.Proofs.YtonipkgekhdogaaGreatDoorW.PrintLast Go.Proofs.YtonipkgekhdogaaGreatDoorW.PrintMore
attribute [local go_sem] max2_int min2_int max_two min_two max_three min_three max_four min_four   -- for this text's walks alone
set_option linter.unusedVariables false
set_option linter.unusedSimpArgs false

/-! ### footbridgeref34_SetAdmin: function 39 -/
def footbridgeref34_SetAdmin.f (k : Nat) (l0 : List (S73)) (a1 : ByteArray) : Option ((List (S73)) × Int) := (footbridgeref03_Check.f k 6 a1).bind fun t332 => (if t332 = 0 then ((footbridgeref14_Put.f k l0 (⟨#[97, 100, 109, 105, 110]⟩ : ByteArray) a1).bind fun t333 => (some (t333, 0))) else (some (l0, 7)))
theorem footbridgeref34_SetAdmin.mono : ∀ a0 a1 k, LeO (footbridgeref34_SetAdmin.f k a0 a1) (footbridgeref34_SetAdmin.f (k + 1) a0 a1) := by
  intro a0 a1 k
  unfold footbridgeref34_SetAdmin.f
  repeat' first
      | (with_reducible exact footbridgeref03_Check.mono _ _ _)
      | (with_reducible exact footbridgeref14_Put.mono _ _ _ _)
      | (with_reducible exact LeO.refl _)
      | (with_reducible exact LeO.none _)
      | (with_reducible refine LeO.ite ?_ ?_)
      | (with_reducible refine LeO.bind ?_ (fun _ => ?_))
      | exact footbridgeref03_Check.mono _ _ _
      | exact footbridgeref14_Put.mono _ _ _ _
      | exact LeO.none _
      | refine LeO.ite ?_ ?_
      | refine LeO.bind ?_ (fun _ => ?_)
set_option maxHeartbeats 8000000 in
set_option maxRecDepth 100000 in
theorem footbridgeref34_SetAdmin.calls (k : Nat) (P0_ : Nat → Prop) (A0 : Option Addr) (c0 : Nat) (l0 : List (S73)) (a1 : ByteArray) (r1 : List (S73)) (r2 : Int) (w : World) (hs0 : Kd.V k73 73 w w.heap.size (fun k_ => P0_ k_) (.slice A0 l0.length c0) l0) (h : footbridgeref34_SetAdmin.f k l0 a1 = some (r1, r2)) :
    Calls Tryz.prog 39 #[.slice A0 l0.length c0, .string a1] w fun e w' => ∃ v0_ : Value, e = .returned (.tuple #[v0_, .int .i64 r2]) ∧ Kd.V k73 73 w' w.heap.size (fun k_ => (P0_ k_ ∨ w.heap.size ≤ k_)) v0_ r1 ∧ Below w.heap.size w w' := by
  have HO0 := Aside0.mk (show Kd.V k73 73 w w.heap.size (fun k_ => (P0_ k_ ∨ w.heap.size ≤ k_)) (.slice A0 l0.length c0) l0 from Kd.V_mono hs0 (fun k_ hk => .inl hk))
  have HB := Aside0.mk (Below.refl w.heap.size w)
  have H : ((footbridgeref03_Check.f k 6 a1).bind fun t332 => (if t332 = 0 then ((footbridgeref14_Put.f k l0 (⟨#[97, 100, 109, 105, 110]⟩ : ByteArray) a1).bind fun t333 => (some (t333, 0))) else (some (l0, 7)))) = some (r1, r2) := h
  clear h
  replace H := Option.bind_eq_some_iff.mp H
  obtain ⟨t332, A30, H⟩ := H
  replace H : (if t332 = 0 then ((footbridgeref14_Put.f k l0 (⟨#[97, 100, 109, 105, 110]⟩ : ByteArray) a1).bind fun t333 => (some (t333, 0))) else (some (l0, 7))) = some (r1, r2) := H
  have A3 := Aside0.mk A30
  clear A30
  by_cases c4 : t332 = 0
  · rw [if_pos c4] at H
    have c4b0 : (t332 == 0) = true := beq_iff_eq.mpr c4
    have c4b1 : (t332 != 0) = false := bne_eq_false_iff_eq.mpr c4
    clear c4
    replace H := Option.bind_eq_some_iff.mp H
    obtain ⟨t333, A50, H⟩ := H
    replace H : (some (t333, 0)) = some (r1, r2) := H
    have A5 := Aside0.mk A50
    clear A50
    simp only [Option.some.injEq, Prod.mk.injEq] at H
    obtain ⟨rfl, rfl⟩ := H
    go_enter Tryz.func39, Tryz.ntmps39
    go_wp2_with (first | ((with_reducible refine gate_callee (f := 68) rfl ?_); refine goesL_ (some 7) rfl rfl Tryz.func68 (by kernel_rfl) rfl #[.int .i64 6, .string a1] rfl (by (try simp only [List.map_toArray, List.map_cons, List.map_nil]); first | done | rfl | (simp only [List.length_drop, List.length_take]; rfl)) ?_; (with_reducible refine (footbridgeref03_Check.calls k 6 a1 t332 _ A3.out).mono ?_); rintro e w6 ⟨rfl, hb⟩; refine ⟨_, rfl, ?_⟩; have n0_ := Aside0.mk (Kd.V_below (by (with_reducible repeat (first | apply Kd.V_alloc | apply Kd.V_drewN | apply Kd.V_drew)); exact HO0.out) hb); have n1_ := Aside0.mk (below_step (by repeat (first | (with_reducible first | exact HB.out | apply below_alloc | apply pw_below_drewN | apply below_drew1) | exact HB.out)) hb); clear HO0; clear HB; have HO0 := n0_; have HB := n1_; clear n0_ n1_; (try clear hb); (try clear hb2); (try clear hk); (try clear hi)) | ((with_reducible refine gate_callee (f := 69) rfl ?_); refine goesL_ (some 12) rfl rfl Tryz.func69 (by kernel_rfl) rfl #[.slice A0 l0.length c0, .string (⟨#[97, 100, 109, 105, 110]⟩ : ByteArray), .string a1] rfl (by (try simp only [List.map_toArray, List.map_cons, List.map_nil]); first | done | rfl | (simp only [List.length_drop, List.length_take]; rfl)) ?_; (with_reducible refine (footbridgeref14_Put.calls k _ _ l0 (⟨#[97, 100, 109, 105, 110]⟩ : ByteArray) a1 t333 _ ?side1 ?side2 A5.out).mono ?_); (case side1 => repeat (first | exact (Kd.V_reads' HO0.out).2.2 | (with_reducible refine Kd.C_alloc ?_ _) | (with_reducible refine Kd.C_drewN ?_ _) | (with_reducible refine Kd.C_drew ?_))); (case side2 => exact (Kd.V_reads' HO0.out).2.1); rintro e w7 ⟨v334, rfl, ho0, hb⟩; refine ⟨_, rfl, ?_⟩; have n0_ := Aside0.mk (Kd.V_elder' (by (with_reducible repeat (first | apply Kd.V_alloc | apply Kd.V_drewN | apply Kd.V_drew)); exact HO0.out) (Kd.R_base ho0) hb); have n1_ := Aside0.mk (Kd.R_lower (Kd.R_newM (M := fun k_ => (w.heap.size ≤ k_)) ho0 (below_size (by repeat (first | (with_reducible first | exact HB.out | apply below_alloc | apply pw_below_drewN | apply below_drew1) | exact HB.out))) (fun k_ h_ => h_)) (below_size (by repeat (first | (with_reducible first | exact HB.out | apply below_alloc | apply pw_below_drewN | apply below_drew1) | exact HB.out)))); have n2_ := Aside0.mk (below_step (by repeat (first | (with_reducible first | exact HB.out | apply below_alloc | apply pw_below_drewN | apply below_drew1) | exact HB.out)) hb); clear HO0; clear HB; have HO0 := n0_; have HO335 := n1_; have HB := n2_; clear n0_ n1_ n2_; (try clear hb); (try clear hb2); (try clear hk); (try clear hi); (try clear ho0)))
    go_ret2
    exact ⟨_, by first | rfl | (simp [errW_none, errW_some] <;> rfl) | (simp [*, errW_none, errW_some] <;> rfl), Kd.V_mono (Kd.R_V (by (with_reducible repeat (first | apply Kd.R_alloc | apply Kd.R_drewN | apply Kd.R_drew)); exact Kd.R_mono HO335.out (fun _ hk => hk.1))) (fun k_ hk => by first | exact ⟨(.inr (hk.1)), hk.2⟩ | exact (.inr (hk))), by repeat (first | (with_reducible first | exact HB.out | apply below_alloc | apply pw_below_drewN | apply below_drew1) | exact HB.out)⟩
  · rw [if_neg c4] at H
    have c4b0 : (t332 == 0) = false := beq_eq_false_iff_ne.mpr c4
    have c4b1 : (t332 != 0) = true := bne_iff_ne.mpr c4
    simp only [Option.some.injEq, Prod.mk.injEq] at H
    obtain ⟨rfl, rfl⟩ := H
    go_enter Tryz.func39, Tryz.ntmps39
    go_wp2_with (first | ((with_reducible refine gate_callee (f := 68) rfl ?_); refine goesL_ (some 7) rfl rfl Tryz.func68 (by kernel_rfl) rfl #[.int .i64 6, .string a1] rfl (by (try simp only [List.map_toArray, List.map_cons, List.map_nil]); first | done | rfl | (simp only [List.length_drop, List.length_take]; rfl)) ?_; (with_reducible refine (footbridgeref03_Check.calls k 6 a1 t332 _ A3.out).mono ?_); rintro e w8 ⟨rfl, hb⟩; refine ⟨_, rfl, ?_⟩; have n0_ := Aside0.mk (Kd.V_below (by (with_reducible repeat (first | apply Kd.V_alloc | apply Kd.V_drewN | apply Kd.V_drew)); exact HO0.out) hb); have n1_ := Aside0.mk (below_step (by repeat (first | (with_reducible first | exact HB.out | apply below_alloc | apply pw_below_drewN | apply below_drew1) | exact HB.out)) hb); clear HO0; clear HB; have HO0 := n0_; have HB := n1_; clear n0_ n1_; (try clear hb); (try clear hb2); (try clear hk); (try clear hi)))
    go_ret2
    exact ⟨_, by first | rfl | (simp [errW_none, errW_some] <;> rfl) | (simp [*, errW_none, errW_some] <;> rfl), by (with_reducible repeat (first | apply Kd.V_alloc | apply Kd.V_drewN | apply Kd.V_drew)); exact HO0.out, by repeat (first | (with_reducible first | exact HB.out | apply below_alloc | apply pw_below_drewN | apply below_drew1) | exact HB.out)⟩

/-! ### footbridgeref01_R_Done: function 78 -/
def footbridgeref01_R_Done.f (a0_0 : ByteArray) (a0_1 : Int) : Option (Int) := if a0_1 = 0 then (if a0_0.toList = ([] : List UInt8) then (some a0_1) else (some 6)) else (some a0_1)
set_option maxHeartbeats 8000000 in
set_option maxRecDepth 100000 in
theorem footbridgeref01_R_Done.calls (a0_0 : ByteArray) (a0_1 : Int) (r : Int) (w : World) (h : footbridgeref01_R_Done.f a0_0 a0_1 = some r) :
    Calls Tryz.prog 78 #[.agg #[.string a0_0, .int .i64 a0_1]] w fun e w' => e = .returned (.int .i64 r) ∧ Below w.heap.size w w' := by
  have hu84 := Tryz.underlying84
  have HB := Aside0.mk (Below.refl w.heap.size w)
  have H : (if a0_1 = 0 then (if a0_0.toList = ([] : List UInt8) then (some a0_1) else (some 6)) else (some a0_1)) = some r := h
  clear h
  by_cases c2 : a0_1 = 0
  · rw [if_pos c2] at H
    have c2b0 : (a0_1 == 0) = true := beq_iff_eq.mpr c2
    have c2b1 : (a0_1 != 0) = false := bne_eq_false_iff_eq.mpr c2
    clear c2
    by_cases c3 : a0_0.toList = ([] : List UInt8)
    · rw [if_pos c3] at H
      have c3b0 : (a0_0.toList == ([] : List UInt8)) = true := beq_iff_eq.mpr c3
      have c3b1 : (a0_0.toList != ([] : List UInt8)) = false := bne_eq_false_iff_eq.mpr c3
      clear c3
      obtain rfl := Option.some.inj H
      go_enter Tryz.func78, Tryz.ntmps78
      go_wp2_with (first | ((with_reducible refine gate_dst (N := 1) rfl ?_); refine box_event ?hg (N := 1) ?hd (cs := #[.string a0_0, .int .i64 a0_1]) (t := 84) ?hr ?_; (case hd => rfl); (case hg => rfl); (case hr => first | (go_simp; done) | (go_simp; rfl)); intro gb336 hg w4 hbox hb; have n0_ := Aside0.mk (below_step (by repeat (first | (with_reducible first | exact HB.out | apply below_alloc | apply pw_below_drewN | apply below_drew1) | exact HB.out)) hb); have n1_ := Aside0.mk (hbox); have n2_ := Aside0.mk ((by rw [hg]; exact (below_size (by repeat (first | (with_reducible first | exact HB.out | apply below_alloc | apply pw_below_drewN | apply below_drew1) | exact HB.out))) : w.heap.size ≤ gb336)); have n3_ := Aside0.mk ((by rw [hg]; exact (below_size (by repeat (first | (with_reducible first | exact HB.out | apply below_alloc | apply pw_below_drewN | apply below_drew1) | exact HB.out))) : w.heap.size ≤ gb336)); clear HB; have HB := n0_; have BK336 := n1_; have GW336 := n2_; have GE336 := n3_; clear n0_ n1_ n2_ n3_; clear hb hbox hg; have hcz5_0 : w4.cell? ⟨gb336, 0, none⟩ = some (.string a0_0) := (blk_cell BK336.out 0).trans rfl; have hcz5_1 : w4.cell? ⟨gb336, 1, none⟩ = some (.int .i64 a0_1) := (blk_cell BK336.out 1).trans rfl; have hfz5_0 := blk_frozen BK336.out 0; have hfz5_1 := blk_frozen BK336.out 1))
      go_ret
      exact ⟨by first | rfl | (simp [errW_none, errW_some] <;> rfl) | (simp [*, errW_none, errW_some] <;> rfl), by repeat (first | (with_reducible first | exact HB.out | apply below_alloc | apply pw_below_drewN | apply below_drew1 | refine below_set ?_ GE336.out) | exact HB.out)⟩
    · rw [if_neg c3] at H
      have c3b0 : (a0_0.toList == ([] : List UInt8)) = false := beq_eq_false_iff_ne.mpr c3
      have c3b1 : (a0_0.toList != ([] : List UInt8)) = true := bne_iff_ne.mpr c3
      obtain rfl := Option.some.inj H
      go_enter Tryz.func78, Tryz.ntmps78
      go_wp2_with (first | ((with_reducible refine gate_dst (N := 1) rfl ?_); refine box_event ?hg (N := 1) ?hd (cs := #[.string a0_0, .int .i64 a0_1]) (t := 84) ?hr ?_; (case hd => rfl); (case hg => rfl); (case hr => first | (go_simp; done) | (go_simp; rfl)); intro gb336 hg w6 hbox hb; have n0_ := Aside0.mk (below_step (by repeat (first | (with_reducible first | exact HB.out | apply below_alloc | apply pw_below_drewN | apply below_drew1) | exact HB.out)) hb); have n1_ := Aside0.mk (hbox); have n2_ := Aside0.mk ((by rw [hg]; exact (below_size (by repeat (first | (with_reducible first | exact HB.out | apply below_alloc | apply pw_below_drewN | apply below_drew1) | exact HB.out))) : w.heap.size ≤ gb336)); have n3_ := Aside0.mk ((by rw [hg]; exact (below_size (by repeat (first | (with_reducible first | exact HB.out | apply below_alloc | apply pw_below_drewN | apply below_drew1) | exact HB.out))) : w.heap.size ≤ gb336)); clear HB; have HB := n0_; have BK336 := n1_; have GW336 := n2_; have GE336 := n3_; clear n0_ n1_ n2_ n3_; clear hb hbox hg; have hcz7_0 : w6.cell? ⟨gb336, 0, none⟩ = some (.string a0_0) := (blk_cell BK336.out 0).trans rfl; have hcz7_1 : w6.cell? ⟨gb336, 1, none⟩ = some (.int .i64 a0_1) := (blk_cell BK336.out 1).trans rfl; have hfz7_0 := blk_frozen BK336.out 0; have hfz7_1 := blk_frozen BK336.out 1))
      go_ret
      exact ⟨by first | rfl | (simp [errW_none, errW_some] <;> rfl) | (simp [*, errW_none, errW_some] <;> rfl), by repeat (first | (with_reducible first | exact HB.out | apply below_alloc | apply pw_below_drewN | apply below_drew1 | refine below_set ?_ GE336.out) | exact HB.out)⟩
  · rw [if_neg c2] at H
    have c2b0 : (a0_1 == 0) = false := beq_eq_false_iff_ne.mpr c2
    have c2b1 : (a0_1 != 0) = true := bne_iff_ne.mpr c2
    obtain rfl := Option.some.inj H
    go_enter Tryz.func78, Tryz.ntmps78
    go_wp2_with (first | ((with_reducible refine gate_dst (N := 1) rfl ?_); refine box_event ?hg (N := 1) ?hd (cs := #[.string a0_0, .int .i64 a0_1]) (t := 84) ?hr ?_; (case hd => rfl); (case hg => rfl); (case hr => first | (go_simp; done) | (go_simp; rfl)); intro gb336 hg w8 hbox hb; have n0_ := Aside0.mk (below_step (by repeat (first | (with_reducible first | exact HB.out | apply below_alloc | apply pw_below_drewN | apply below_drew1) | exact HB.out)) hb); have n1_ := Aside0.mk (hbox); have n2_ := Aside0.mk ((by rw [hg]; exact (below_size (by repeat (first | (with_reducible first | exact HB.out | apply below_alloc | apply pw_below_drewN | apply below_drew1) | exact HB.out))) : w.heap.size ≤ gb336)); have n3_ := Aside0.mk ((by rw [hg]; exact (below_size (by repeat (first | (with_reducible first | exact HB.out | apply below_alloc | apply pw_below_drewN | apply below_drew1) | exact HB.out))) : w.heap.size ≤ gb336)); clear HB; have HB := n0_; have BK336 := n1_; have GW336 := n2_; have GE336 := n3_; clear n0_ n1_ n2_ n3_; clear hb hbox hg; have hcz9_0 : w8.cell? ⟨gb336, 0, none⟩ = some (.string a0_0) := (blk_cell BK336.out 0).trans rfl; have hcz9_1 : w8.cell? ⟨gb336, 1, none⟩ = some (.int .i64 a0_1) := (blk_cell BK336.out 1).trans rfl; have hfz9_0 := blk_frozen BK336.out 0; have hfz9_1 := blk_frozen BK336.out 1))
    go_ret
    exact ⟨by first | rfl | (simp [errW_none, errW_some] <;> rfl) | (simp [*, errW_none, errW_some] <;> rfl), by repeat (first | (with_reducible first | exact HB.out | apply below_alloc | apply pw_below_drewN | apply below_drew1 | refine below_set ?_ GE336.out) | exact HB.out)⟩

/-! ### words: kget.inc -/
/-! ### stores: what is read behind a set, a del: plain -/
theorem getK_mem {l : List S73} (hs : sortK l) {p : S73} (hp : p ∈ l) : getK l p.f0 = (p.f1, true) ∧ hasK l p.f0 = true := by
  obtain ⟨A, B, rfl⟩ := List.append_of_mem hp
  have h := List.pairwise_append.1 hs
  have hA : ∀ a ∈ A, kLt a.f0 p.f0 = true := fun a ha => h.2.2 a ha p List.mem_cons_self
  have hB : ∀ b ∈ B, kLt b.f0 p.f0 = false := fun b hb => by
    cases e : kLt b.f0 p.f0 with
    | false => rfl
    | true =>
      have h3 := kLt_trans e (List.rel_of_pairwise_cons h.2.1 hb)
      rw [kLt_irr] at h3; cases h3
  exact ⟨getK_mid hA rfl hB, hasK_mid hA rfl hB⟩
theorem getK_none {l : List S73} {key : ByteArray} (h : ¬ hasK l key = true) : getK l key = ((⟨#[]⟩ : ByteArray), false) := getK_no (Bool.eq_false_iff.2 h)
theorem setK_keep {l : List S73} (hs : sortK l) {key : ByteArray} (value : ByteArray) {p : S73} (hp : p ∈ l) (hk : p.f0 ≠ key) : p ∈ setK l key value := by
  obtain ⟨A, B, hA, hB, h⟩ := decK hs key
  rcases h with ⟨_, x, hx, rfl⟩ | ⟨hn, rfl⟩
  · rw [setK_mid value hA hx hB]
    rcases List.mem_append.1 hp with hp | hp
    · exact List.mem_append_left _ hp
    · rcases List.mem_cons.1 hp with rfl | hp
      · exact absurd hx hk
      · exact List.mem_append_right _ (List.mem_cons_of_mem _ hp)
  · rw [setK_new value hA hB hn]
    rcases List.mem_append.1 hp with hp | hp
    · exact List.mem_append_left _ hp
    · exact List.mem_append_right _ (List.mem_cons_of_mem _ hp)
theorem delK_keep {l : List S73} (hs : sortK l) {key : ByteArray} {p : S73} (hp : p ∈ l) (hk : p.f0 ≠ key) : p ∈ delK l key := by
  by_cases hh : hasK l key = true
  · obtain ⟨A, B, hA, hB, h⟩ := decK hs key
    rcases h with ⟨_, x, hx, rfl⟩ | ⟨hn, rfl⟩
    · rw [delK_mid hA hx hB]
      rcases List.mem_append.1 hp with hp | hp
      · exact List.mem_append_left _ hp
      · rcases List.mem_cons.1 hp with rfl | hp
        · exact absurd hx hk
        · exact List.mem_append_right _ hp
    · rw [hn] at hh; cases hh
  · rw [delK_no hh]; exact hp
theorem hasK_setK {l : List S73} (hs : sortK l) {key k2 : ByteArray} (value : ByteArray) (h : k2 ≠ key) : hasK (setK l key value) k2 = hasK l k2 ∧ getK (setK l key value) k2 = getK l k2 := by
  by_cases hh : hasK l k2 = true
  · obtain ⟨p, hp, rfl⟩ := hasK_in hh
    have h1 := getK_mem hs hp
    have h2 := getK_mem (sortK_set hs key value) (setK_keep hs value hp h)
    exact ⟨h2.2.trans h1.2.symm, h2.1.trans h1.1.symm⟩
  · have h3 : ¬ hasK (setK l key value) k2 = true := fun e => by
      obtain ⟨p, hp, rfl⟩ := hasK_in e
      rcases mem_setK hp with rfl | hp
      · exact h rfl
      · exact hh (getK_mem hs hp).2
    rw [getK_none hh, getK_none h3, Bool.eq_false_iff.2 hh, Bool.eq_false_iff.2 h3]
    exact ⟨rfl, rfl⟩
theorem hasK_delK {l : List S73} (hs : sortK l) {key k2 : ByteArray} (h : k2 ≠ key) : hasK (delK l key) k2 = hasK l k2 ∧ getK (delK l key) k2 = getK l k2 := by
  by_cases hh : hasK l k2 = true
  · obtain ⟨p, hp, rfl⟩ := hasK_in hh
    have h1 := getK_mem hs hp
    have h2 := getK_mem (sortK_del hs key) (delK_keep hs hp h)
    exact ⟨h2.2.trans h1.2.symm, h2.1.trans h1.1.symm⟩
  · have h3 : ¬ hasK (delK l key) k2 = true := fun e => by
      obtain ⟨p, hp, rfl⟩ := hasK_in e
      exact hh (getK_mem hs (mem_delK hp)).2
    rw [getK_none hh, getK_none h3, Bool.eq_false_iff.2 hh, Bool.eq_false_iff.2 h3]
    exact ⟨rfl, rfl⟩
theorem hasK_gone {l : List S73} (hs : sortK l) (key : ByteArray) : hasK (delK l key) key = false := by
  by_cases hh : hasK l key = true
  · obtain ⟨A, B, hA, hB, h⟩ := decK hs key
    rcases h with ⟨_, x, hx, rfl⟩ | ⟨hn, rfl⟩
    · rw [delK_mid hA hx hB]
      refine hasK_not (fun p hp e => ?_)
      have h := List.pairwise_append.1 hs
      rcases List.mem_append.1 hp with hp | hp
      · have := hA p hp; rw [e, kLt_irr] at this; cases this
      · have := List.rel_of_pairwise_cons h.2.1 hp
        rw [hx, e, kLt_irr] at this; cases this
    · rw [hn] at hh; cases hh
  · rw [delK_no hh]; exact Bool.eq_false_iff.2 hh

/-! ### words: kround.inc -/
/-! ### a number that is put is read: plain -/
theorem strOf_list (l : List Int) : (strOfNums l).toList = l.map fun n => UInt8.ofNat n.toNat := by rw [ByteArray.toList_eq, strOfNums_data]
def valD (l : List Int) : Nat := l.foldl (fun a d => a * 256 + d.toNat) 0
theorem valD_snoc (l : List Int) (d : Int) : valD (l ++ [d]) = valD l * 256 + d.toNat := by unfold valD; rw [List.foldl_append]; rfl
theorem digB_val : ∀ k n, n < 256 ^ k → valD (digB k n) = n
  | 0, n, h => by
    have : n = 0 := by simpa using h
    subst this; rfl
  | k + 1, n, h => by
    unfold digB
    split
    · rename_i h0; subst h0; rfl
    · rw [valD_snoc, digB_val k (n / 256) (by rw [Nat.pow_succ] at h; exact Nat.div_lt_of_lt_mul (by omega)), Int.toNat_natCast]; omega
theorem digB_rng : ∀ k n, ∀ d ∈ digB k n, 0 ≤ d ∧ d < 256
  | 0, _, d, h => by simp [digB] at h
  | k + 1, n, d, h => by
    unfold digB at h
    split at h
    · simp at h
    · rcases List.mem_append.1 h with h | h
      · exact digB_rng k _ d h
      · obtain rfl := List.mem_singleton.1 h
        omega
theorem digB_le : ∀ k n m, n < 256 ^ m → (digB k n).length ≤ m
  | 0, _, _, _ => Nat.zero_le _
  | k + 1, n, m, h => by
    unfold digB
    split
    · exact Nat.zero_le _
    · cases m with
      | zero => simp at h; omega
      | succ m =>
        have := digB_le k (n / 256) m (by rw [Nat.pow_succ] at h; exact Nat.div_lt_of_lt_mul (by omega))
        rw [List.length_append, List.length_singleton]; omega
theorem digB_0 : ∀ k, digB k 0 = []
  | 0 => rfl
  | k + 1 => by unfold digB; exact if_pos rfl
theorem digB_head : ∀ k n, n < 256 ^ k → n ≠ 0 → ∃ d t, digB k n = d :: t ∧ d ≠ 0
  | 0, n, h, h0 => by simp at h; omega
  | k + 1, n, h, h0 => by
    unfold digB
    rw [if_neg h0]
    by_cases h1 : n / 256 = 0
    · rw [h1, digB_0]; exact ⟨_, _, rfl, by omega⟩
    · obtain ⟨d, t, e, hd⟩ := digB_head k (n / 256) (by rw [Nat.pow_succ] at h; exact Nat.div_lt_of_lt_mul (by omega)) h1
      rw [e]; exact ⟨d, _, rfl, hd⟩
theorem nBy_val {s : ByteArray} {ds : List Int} (h : ∀ i (hi : i < ds.length), bt s ((i + 1 : Nat) : Int) = ds[i]) : ∀ i, i ≤ ds.length → nBy s i = valD (ds.take i)
  | 0, _ => by rw [List.take_zero]; rfl
  | i + 1, hi => by
    have e : nBy s (i + 1) = nBy s i * 256 + (bt s ((i + 1 : Nat) : Int)).toNat := rfl
    rw [e, nBy_val h i (by omega), h i (by omega), List.take_add_one, List.getElem?_eq_getElem (by omega)]
    exact (valD_snoc _ _).symm
theorem bt_put {a : List Int} {t : ByteArray} (hr : ∀ d ∈ a, 0 ≤ d ∧ d < 256) (i : Nat) (hi : i < a.length) : bt (strOfNums a ++ t) (i : Int) = a[i] := by
  have hl : i < (strOfNums a ++ t).toList.length := by rw [ba_append, strOf_list, List.length_append, List.length_map]; omega
  rw [bt_get _ i hl]
  have e : (strOfNums a ++ t).toList[i] = UInt8.ofNat (a[i]).toNat := by
    simp only [ba_append, strOf_list]
    rw [List.getElem_append_left (by rw [List.length_map]; exact hi), List.getElem_map]
  rw [e]
  have := hr _ (List.getElem_mem hi)
  rw [UInt8.toNat_ofNat']
  omega
theorem numB_one (n : Nat) : numB n = strOfNums (((digB 8 n).length : Int) :: digB 8 n) := by
  unfold numB
  apply ba_ext
  rw [ba_append, strOf_list, strOf_list, strOf_list]; rfl
theorem numW_numB (n : Nat) (h : n ≤ 9007199254740992) (t : ByteArray) : numW (numB n ++ t) = ((n : Int), ((digB 8 n).length : Int) + 1, 0) := by
  have h7 : (digB 8 n).length ≤ 7 := digB_le 8 n 7 (by omega)
  have hr : ∀ d ∈ (((digB 8 n).length : Int) :: digB 8 n), 0 ≤ d ∧ d < 256 := fun d hd => by
    rcases List.mem_cons.1 hd with rfl | hd
    · omega
    · exact digB_rng _ _ d hd
  have hv := digB_val 8 n (by omega)
  have hh := digB_head 8 n (by omega)
  have h0 := digB_0 8
  rw [numB_one]
  generalize hD : digB 8 n = D at h7 hr hv hh
  have b0 : bt (strOfNums ((D.length : Int) :: D) ++ t) 0 = (D.length : Int) := bt_put hr 0 (by simp)
  have hb : ∀ i (hi : i < D.length), bt (strOfNums ((D.length : Int) :: D) ++ t) ((i + 1 : Nat) : Int) = D[i] := fun i hi => bt_put hr (i + 1) (by simpa using hi)
  have hn : nBy (strOfNums ((D.length : Int) :: D) ++ t) D.length = n := by rw [nBy_val hb D.length (Nat.le_refl _), List.take_length, hv]
  have hs : (strOfNums ((D.length : Int) :: D) ++ t).size = D.length + 1 + t.size := by rw [ByteArray.size_append, strOfNums_sz, List.length_cons]
  unfold numW wire_number.f
  rw [if_neg (by omega), b0, if_neg (by
    rintro (e | ⟨e1, e2, e3⟩)
    · omega
    · by_cases hz : n = 0
      · rw [hz, h0] at hD; subst hD; simp at e1
      · obtain ⟨d, u, e, hd⟩ := hh hz
        have := hb 0 (by omega)
        subst e
        exact hd (this.symm.trans e3)), if_neg (by omega), Int.toNat_natCast, hn, if_neg (by omega)]
  rfl
theorem rNum_numB (n : Nat) (h : n ≤ 9007199254740992) (t : ByteArray) : rNum (numB n ++ t) 0 = ((n : Int), t, 0) := by
  unfold rNum
  rw [numW_numB n h t, if_pos rfl]
  dsimp only
  rw [if_pos rfl]
  congr 2
  apply ba_ext
  rw [ba_extract, ba_size (numB n ++ t), List.take_length, ba_append]
  have hl : (numB n).toList.length = (((digB 8 n).length : Int) + 1).toNat := by rw [← ba_size, numB_one, strOfNums_sz, List.length_cons]; omega
  rw [← hl, List.drop_left]
theorem rNum_numB0 (n : Nat) (h : n ≤ 9007199254740992) : rNum (numB n) 0 = ((n : Int), (⟨#[]⟩ : ByteArray), 0) := by
  have := rNum_numB n h (⟨#[]⟩ : ByteArray)
  rw [show numB n ++ (⟨#[]⟩ : ByteArray) = numB n from ba_ext (by rw [ba_append]; simp [ByteArray.toList_eq])] at this
  exact this

/-! ### words: ref09.inc -/
theorem fk_of_V {α : Type} {d : Kd α} {e e' base : Nat} {W : World} {ok : Nat → Prop} {v : Value} {xs : List α} (h : Kd.V d e W base ok v xs) : Kd.FK (Kd.slice e' d) W ok xs [v] := by
  obtain ⟨A, c, rfl, hl, hf⟩ := h
  exact Kd.FK_slice_mk hl hf
theorem fk_of_R {α : Type} {d : Kd α} {e e' base : Nat} {W : World} {ok : Nat → Prop} {v : Value} {xs : List α} (h : Kd.R d e W base ok v xs) : Kd.FK (Kd.slice e' d) W ok xs [v] := by
  obtain ⟨A, c, rfl⟩ := Kd.R_slice h
  exact Kd.FK_slice_mk (Kd.R_reads' h).2.1 (Kd.R_F h)
theorem at_l0 (l : List S73) (key : ByteArray) (hs : sortK l) (hl : l.length ≤ 1000000000) : ∀ m j k, l.length - j = m → j ≤ posK l key → m < k → footbridgeref09_at.l0 k l key (j : Int) = some ((posK l key : Nat) : Int) := by
  have hp := posK_le l key
  intro m
  induction m with
  | zero =>
    intro j k h1 h2 h3
    obtain ⟨k, rfl⟩ : ∃ k', k = k' + 1 := ⟨k - 1, by omega⟩
    obtain rfl : j = posK l key := by omega
    rw [footbridgeref09_at.l0, if_neg (by omega)]
  | succ m ih =>
    intro j k h1 h2 h3
    obtain ⟨k, rfl⟩ : ∃ k', k = k' + 1 := ⟨k - 1, by omega⟩
    have hj : j < l.length := by omega
    rw [footbridgeref09_at.l0, if_pos (by omega), if_pos (by omega), rdP l j hj]
    have hsp := posK_spec l key hs j hj
    by_cases hlt : j < posK l key
    · rw [decide_eq_true hlt] at hsp
      unfold kLt at hsp
      rw [if_pos hsp, w64p j (by omega)]
      exact ih (j + 1) k (by omega) (by omega) (by omega)
    · rw [decide_eq_false hlt] at hsp
      obtain rfl : j = posK l key := by omega
      rw [if_neg (by intro h; unfold kLt at hsp; rw [h] at hsp; exact absurd hsp (by simp))]
theorem at_f (l : List S73) (key : ByteArray) (k : Nat) (hs : sortK l) (hl : l.length ≤ 1000000000) (hk : l.length < k) : footbridgeref09_at.f k l key = some ((posK l key : Nat) : Int) := at_l0 l key hs hl l.length 0 k (by omega) (by omega) hk
theorem hasK_cases (l : List S73) (key : ByteArray) : (∃ hp : posK l key < l.length, hasK l key = (l[posK l key].f0.toList == key.toList)) ∨ (posK l key = l.length ∧ hasK l key = false) := by
  have hp := posK_le l key
  by_cases h : posK l key < l.length
  · refine .inl ⟨h, ?_⟩
    unfold hasK
    rw [List.getElem?_eq_getElem h]
  · refine .inr ⟨by omega, ?_⟩
    unfold hasK
    rw [List.getElem?_eq_none (by omega)]
theorem get_f (l : List S73) (key : ByteArray) (k : Nat) (hs : sortK l) (hl : l.length ≤ 1000000000) (hk : l.length < k) : footbridgeref09_Get.f k l key = some (getK l key) := by
  unfold footbridgeref09_Get.f getK
  rw [at_f l key k hs hl hk, Option.bind_some]
  rcases hasK_cases l key with ⟨hp, hh⟩ | ⟨hp, hh⟩
  · rw [if_pos (by omega), if_pos (by omega), hh]
    rw [rdP l _ hp]
    by_cases he : l[posK l key].f0.toList = key.toList
    · rw [if_pos he, if_pos (beq_iff_eq.2 he)]
    · rw [if_neg he, if_neg (by rw [beq_eq_false_iff_ne.2 he]; simp)]
  · rw [if_neg (by omega), hh, if_neg (by simp)]
theorem set_f (l : List S73) (key value : ByteArray) (k : Nat) (hs : sortK l) (hl : l.length ≤ 1000000000) (hk : l.length < k) : footbridgeref09_Set.f k l key value = some (setK l key value, !hasK l key) := by
  unfold footbridgeref09_Set.f setK
  rw [at_f l key k hs hl hk, Option.bind_some]
  have hd : ∀ i, (l.drop i).length ≤ 1000000000 := fun i => by rw [List.length_drop]; omega
  have ht : ∀ i, (l.take i).length ≤ 1000000000 := fun i => by rw [List.length_take]; omega
  rcases hasK_cases l key with ⟨hp, hh⟩ | ⟨hp, hh⟩
  · rw [if_neg (by omega), if_pos (by omega), if_pos (by omega), if_pos (by omega), Option.bind_some, rdP l _ hp, Int.toNat_natCast]
    have h1 := ht (posK l key)
    have h2 := hd (posK l key)
    have h3 := hd (posK l key + 1)
    by_cases he : l[posK l key].f0.toList = key.toList
    · have hk1 : l[posK l key].f0 = key := ba_ext he
      rw [if_neg (not_not_intro he), w64p _ (by omega), if_pos (by omega), if_pos (by omega), Int.toNat_natCast, Option.bind_some, Option.bind_some, List.nil_append, if_pos (by simp only [List.length_nil]; omega), Option.bind_some, if_pos (by omega), Option.bind_some, if_pos (by rw [List.length_append]; simp only [List.length_cons, List.length_nil]; omega)]
      rw [hh, if_pos (beq_iff_eq.2 he), beq_iff_eq.2 he, bne, beq_iff_eq.2 he]
      congr 2
      rw [List.set_eq_take_append_cons_drop, if_pos hp, List.append_assoc]; rfl
    · rw [if_pos he, Option.bind_some, List.nil_append, if_pos (by simp only [List.length_nil]; omega), Option.bind_some, if_pos (by omega), Option.bind_some, if_pos (by rw [List.length_append]; simp only [List.length_cons, List.length_nil]; omega)]
      rw [hh, if_neg (by rw [beq_eq_false_iff_ne.2 he]; simp), bne, beq_eq_false_iff_ne.2 he, List.append_assoc]
      rfl
  · have h1 := ht (posK l key)
    have h2 := hd (posK l key)
    rw [if_pos (by omega), if_pos (by omega), if_pos (by omega), Option.bind_some, Option.bind_some, Int.toNat_natCast, List.nil_append, if_pos (by simp only [List.length_nil]; omega), Option.bind_some, if_pos (by omega), Option.bind_some, if_pos (by rw [List.length_append]; simp only [List.length_cons, List.length_nil]; omega)]
    rw [hh, if_neg (by simp), List.append_assoc]
    rfl
theorem del_f (l : List S73) (key : ByteArray) (k : Nat) (hs : sortK l) (hl : l.length ≤ 1000000000) (hk : l.length < k) : footbridgeref09_Del.f k l key = some (delK l key, hasK l key) := by
  unfold footbridgeref09_Del.f delK
  rw [at_f l key k hs hl hk, Option.bind_some]
  have hd : ∀ i, (l.drop i).length ≤ 1000000000 := fun i => by rw [List.length_drop]; omega
  have ht : ∀ i, (l.take i).length ≤ 1000000000 := fun i => by rw [List.length_take]; omega
  rcases hasK_cases l key with ⟨hp, hh⟩ | ⟨hp, hh⟩
  · have h1 := ht (posK l key)
    have h3 := hd (posK l key + 1)
    rw [if_neg (by omega), if_pos (by omega), if_pos (by omega), rdP l _ hp]
    by_cases he : l[posK l key].f0.toList = key.toList
    · rw [if_pos he, if_pos (by omega), Option.bind_some, Int.toNat_natCast, List.nil_append, if_pos (by simp only [List.length_nil]; omega), Option.bind_some, w64p _ (by omega), if_pos (by omega), if_pos (by omega), Int.toNat_natCast, Option.bind_some, if_pos (by omega)]
      rw [hh, beq_iff_eq.2 he, if_pos rfl]
    · rw [if_neg he, hh, beq_eq_false_iff_ne.2 he, if_neg (by simp)]
  · rw [if_pos (by omega), hh, if_neg (by simp)]
theorem same_l0 (l : List S73) (hl : l.length ≤ 1000000000) : ∀ m j k, l.length - j = m → m < k → footbridgeref09_Same.l0 k l l (j : Int) = some true := by
  intro m
  induction m with
  | zero =>
    intro j k h1 h2
    obtain ⟨k, rfl⟩ : ∃ k', k = k' + 1 := ⟨k - 1, by omega⟩
    rw [footbridgeref09_Same.l0, if_neg (by omega)]
  | succ m ih =>
    intro j k h1 h2
    obtain ⟨k, rfl⟩ : ∃ k', k = k' + 1 := ⟨k - 1, by omega⟩
    rw [footbridgeref09_Same.l0, if_pos (by omega), if_pos (by omega), if_pos (by omega), if_neg (by simp), w64p j (by omega)]
    exact ih (j + 1) k (by omega) (by omega)
theorem same_f (l : List S73) (k : Nat) (hl : l.length ≤ 1000000000) (hk : l.length < k) : footbridgeref09_Same.f k l l = some true := by
  unfold footbridgeref09_Same.f
  rw [if_pos rfl]
  exact same_l0 l hl l.length 0 k (by omega) hk

end Go.Proofs.YtonipkgekhdogaaGreatDoor.PRup
