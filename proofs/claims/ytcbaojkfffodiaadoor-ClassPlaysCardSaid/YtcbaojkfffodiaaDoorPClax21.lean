-- written by wip/myprint.py over the kit's print; not a printed text of print.sh
import Derived.Test.YtcbaojkfffodiaaDoorPClax0
import Derived.Test.YtcbaojkfffodiaaDoorPClax19
import Derived.Test.YtcbaojkfffodiaaDoorPClax20
namespace Go.Proofs.YtcbaojkfffodiaaDoor.PCla
open Go.RowKit Go.Proofs.YtcbaojkfffodiaaDoorW.PrintWords Go.Proofs.YtcbaojkfffodiaaDoorW.PrintLast Go.Proofs.YtcbaojkfffodiaaDoorW.PrintMore
attribute [local go_sem] max2_int min2_int max_two min_two max_three min_three max_four min_four   -- for this text's walks alone
set_option linter.unusedVariables false
set_option linter.unusedSimpArgs false

/-! ### footbridgeref14_Key: function 97 -/
def footbridgeref14_Key.f (k : Nat) (l0 : List ByteArray) : Option (ByteArray) := if 0 < (l0.length : Int) then (if 1 ≤ (l0.length : Int) then ((footbridgeref08_Join.f k (rdOf ByteArray.empty l0 0) (l0.drop 1)).bind fun t173 => (some t173)) else (none)) else (none)
theorem footbridgeref14_Key.mono : ∀ a0 k, LeO (footbridgeref14_Key.f k a0) (footbridgeref14_Key.f (k + 1) a0) := by
  intro a0 k
  unfold footbridgeref14_Key.f
  repeat' first
      | (with_reducible exact footbridgeref08_Join.mono _ _ _)
      | (with_reducible exact LeO.refl _)
      | (with_reducible exact LeO.none _)
      | (with_reducible refine LeO.ite ?_ ?_)
      | (with_reducible refine LeO.bind ?_ (fun _ => ?_))
      | exact footbridgeref08_Join.mono _ _ _
      | exact LeO.none _
      | refine LeO.ite ?_ ?_
      | refine LeO.bind ?_ (fun _ => ?_)
set_option maxHeartbeats 8000000 in
set_option maxRecDepth 100000 in
theorem footbridgeref14_Key.calls (k : Nat) (A0 : Option Addr) (c0 : Nat) (l0 : List ByteArray) (r : ByteArray) (w : World) (hr0 : Kd.C Kd.string w A0 l0.length l0) (hc0 : l0.length ≤ c0) (h : footbridgeref14_Key.f k l0 = some r) :
    Calls Tryd.prog 97 #[.slice A0 l0.length c0] w fun e w' => e = .returned (.string r) ∧ Below w.heap.size w w' := by
  have HR0 := Aside0.mk hr0
  have HC0 := Aside0.mk hc0
  clear hr0 hc0
  have HB := Aside0.mk (Below.refl w.heap.size w)
  have H : (if 0 < (l0.length : Int) then (if 1 ≤ (l0.length : Int) then ((footbridgeref08_Join.f k (rdOf ByteArray.empty l0 0) (l0.drop 1)).bind fun t173 => (some t173)) else (none)) else (none)) = some r := h
  clear h
  by_cases c2 : 0 < (l0.length : Int)
  · rw [if_pos c2] at H
    have c2b0 : decide (0 < (l0.length : Int)) = true := decide_eq_true c2
    have c2b1 : decide (0 < l0.length) = true := decide_eq_true (by omega)
    clear c2
    by_cases c3 : 1 ≤ (l0.length : Int)
    · rw [if_pos c3] at H
      have c3b0 := eq_true c3
      have c3b1 : decide (1 ≤ (l0.length : Int)) = true := decide_eq_true c3
      clear c3
      replace H := Option.bind_eq_some_iff.mp H
      obtain ⟨t173, A40, H⟩ := H
      replace H : (some t173) = some r := H
      have A4 := Aside0.mk A40
      clear A40
      obtain rfl := Option.some.inj H
      go_enter Tryd.func97, Tryd.ntmps97
      try go_wp2
      have n0_ := Aside0.mk (below_drew1 HB.out)
      clear HB
      have HB := n0_
      clear n0_
      have p171 : 0 ≤ (0 : Int) := (by omega)
      have q171 : 0 < (l0.length : Int) := of_decide_eq_true (by first | (with_reducible assumption) | assumption)
      obtain ⟨ad171, e171, hx171_0⟩ := Kd.at_string HR0.out 0 p171 q171
      have hw171_0 := hx171_0
      (try rw [show ((0 : Int)).toNat = 0 from rfl] at hw171_0)
      (try rw [show 0 * 1 = 0 from rfl] at hw171_0)
      (try rw [Addr.add_zero'] at hw171_0)
      cases e171
      have qi171 : (0 < l0.length) = True := eq_true (by omega)
      (try rw [show ((0 : Int)).toNat = 0 from rfl] at hx171_0)
      (try rw [Addr.add_zero'] at hx171_0)
      replace hx171_0 := (HB.out.cell (World.block_lt_of_cell? w _ hx171_0)).trans hx171_0
      replace p171 := eq_true p171
      replace q171 := eq_true q171
      obtain ⟨i06, hi06, _, hsz6, _⟩ := info_parts info9
      obtain ⟨A6, hcut6, hA6, hC6⟩ := print_drop_of (P := Tryd.prog) Value.string (⟨#[]⟩ : ByteArray) 68 9 .i64 Tryd.underlying68 hi06 hsz6 (some ad171) c0 l0 1 (by omega) (of_decide_eq_true (by first | (with_reducible assumption) | assumption)) HC0.out
      have HR172 := Aside0.mk (Kd.C_of_reads (h1 := fun _ => rfl) (hA6 _ (Kd.reads_of_C HR0.out)))
      have HC172 := Aside0.mk hC6
      clear hA6 hC6 hi06 hsz6
      refine start_ (n := 7) (S := fun w' => w'.cell? ad171 = some (.string (rdOf ByteArray.empty l0 0))) (ds := []) #[false, false, false, false, false, false, false] (by kernel_rfl) rfl rfl (((HB.out.cell (World.block_lt_of_cell? w _ hw171_0)).trans hw171_0)) (fun hHeld => ?_)
      generalize w.drew = w5 at HB HR172 hx171_0 hHeld ⊢
      refine pure_ (i := 0) (N := some 3) (v := ?_) (a' := ?_) #[true, false, false, false, false, false, false] rfl rfl (by kernel_rfl) (fun _ _ _ h => h) (Or.inl ⟨by rfl, ?_⟩) ?_ ?_
      rotate_left
      · intro w'
        go_simp
        with_reducible rfl
      rotate_left
      · simp only [Act.put, List.setIfInBounds_toArray, List.set_cons_zero, List.set_cons_succ, i64_w, i32_w]
        rfl
      refine pure_ (i := 1) (N := some 4) (v := ?_) (a' := ?_) #[true, true, false, false, false, false, false] rfl rfl (by kernel_rfl) (fun _ _ _ h => h) (Or.inl ⟨by rfl, ?_⟩) ?_ ?_
      rotate_left
      · intro w'
        go_simp
        with_reducible rfl
      rotate_left
      · simp only [Act.put, List.setIfInBounds_toArray, List.set_cons_zero, List.set_cons_succ, i64_w, i32_w]
        rfl
      refine pure_ (i := 3) (N := some 6) (v := ?_) (a' := ?_) #[true, true, false, true, false, false, false] rfl rfl (by kernel_rfl) (fun _ _ _ h => h) (Or.inl ⟨by rfl, ?_⟩) ?_ ?_
      rotate_left
      · intro w'
        go_simp
        with_reducible rfl
      rotate_left
      · simp only [Act.put, List.setIfInBounds_toArray, List.set_cons_zero, List.set_cons_succ, i64_w, i32_w]
        rfl
      refine pure_ (i := 4) (N := some 7) (v := ?_) (a' := ?_) #[true, true, false, true, true, false, false] rfl rfl (by kernel_rfl) (fun _ _ _ h => h) (Or.inl ⟨by rfl, ?_⟩) ?_ ?_
      rotate_left
      · intro w'
        go_simp
        with_reducible rfl
      rotate_left
      · simp only [Act.put, List.setIfInBounds_toArray, List.set_cons_zero, List.set_cons_succ, i64_w, i32_w]
        rfl
      refine take_ (i := 2) (N := some 5) (v := ?_) (a' := ?_) #[true, true, true, true, true, false, false] rfl rfl (by kernel_rfl) (fun _ _ _ h => h) (Or.inl ⟨by rfl, ?_⟩) hHeld ?_ ?_
      rotate_left
      · intro w' s0
        go_simp
        with_reducible rfl
      rotate_left
      · simp only [Act.put, List.setIfInBounds_toArray, List.set_cons_zero, List.set_cons_succ, i64_w, i32_w]
        rfl
      refine one_ (i := 5) (N := some 8) #[true, true, true, true, true, true, false] rfl rfl (by kernel_rfl) (by decide) (fun K hK => ?_)
      refine goes_ Tryd.func119 (by kernel_rfl) rfl #[.string (rdOf ByteArray.empty l0 0), .slice A6 (l0.drop 1).length (c0 - 1)] (by rfl) rfl rfl (by (try simp only [List.map_toArray, List.map_cons, List.map_nil]); first | done | (rw [show (l0.drop 1).length = (l0.length - 1) from List.length_drop] <;> rfl) | rfl | (simp only [List.length_drop, List.length_take]; rfl)) ?_
      with_reducible refine (footbridgeref08_Join.calls k (rdOf ByteArray.empty l0 0) _ _ (l0.drop 1) t173 _ ?side1 ?side2 A4.out).mono ?_
      (case side1 => repeat (first | exact (Kd.C_below HR172.out HB.out) | (with_reducible refine Kd.C_alloc ?_ _) | (with_reducible refine Kd.C_drewN ?_ _) | (with_reducible refine Kd.C_drew ?_)))
      (case side2 => exact HC172.out)
      rintro e w7 ⟨rfl, hb⟩
      refine ⟨_, rfl, ?_⟩
      have n0_ := Aside0.mk (below_step (by repeat (first | (with_reducible first | exact HB.out | apply below_alloc | apply pw_below_drewN | apply below_drew1) | exact HB.out)) hb)
      clear HB
      have HB := n0_
      clear n0_
      (try clear hb)
      (try clear hb2)
      (try clear hk)
      (try clear hi)
      refine hK.out _ _ (((HB.out.cell (World.block_lt_of_cell? w _ hw171_0)).trans hw171_0)) (fun hHeld => ?_)
      clear hK K
      refine norm_ (a' := ?_) ?_ ?_
      rotate_left
      · show Act.put _ (some 8) _ = _
        simp only [Act.put, List.setIfInBounds_toArray, List.set_cons_zero, List.set_cons_succ, i64_w, i32_w]
        rfl
      refine pure_ (i := 6) (N := some 2) (v := ?_) (a' := ?_) #[true, true, true, true, true, true, true] rfl rfl (by kernel_rfl) (fun _ _ _ h => h) (Or.inl ⟨by rfl, ?_⟩) ?_ ?_
      rotate_left
      · intro w'
        go_simp
        with_reducible rfl
      rotate_left
      · simp only [Act.put, List.setIfInBounds_toArray, List.set_cons_zero, List.set_cons_succ, i64_w, i32_w]
        rfl
      refine done_ (by kernel_rfl) ?_
      try go_wp2
      go_ret
      exact ⟨by first | rfl | (simp [errW_none, errW_some] <;> rfl) | (simp [*, errW_none, errW_some] <;> rfl), by repeat (first | (with_reducible first | exact HB.out | apply below_alloc | apply pw_below_drewN | apply below_drew1) | exact HB.out)⟩
    · rw [if_neg c3] at H
      exact absurd H (by simp)
  · rw [if_neg c2] at H
    exact absurd H (by simp)

/-! ### footbridgeref22_key: function 56 -/
def footbridgeref22_key.f (k : Nat) (a0 : ByteArray) : Option (ByteArray) := (footbridgeref14_Key.f k (([(⟨#[99, 108, 97, 115, 115]⟩ : ByteArray), a0] : List ByteArray))).bind fun t177 => (some t177)
theorem footbridgeref22_key.mono : ∀ a0 k, LeO (footbridgeref22_key.f k a0) (footbridgeref22_key.f (k + 1) a0) := by
  intro a0 k
  unfold footbridgeref22_key.f
  repeat' first
      | (with_reducible exact footbridgeref14_Key.mono _ _)
      | (with_reducible exact LeO.refl _)
      | (with_reducible exact LeO.none _)
      | (with_reducible refine LeO.ite ?_ ?_)
      | (with_reducible refine LeO.bind ?_ (fun _ => ?_))
      | exact footbridgeref14_Key.mono _ _
      | exact LeO.none _
      | refine LeO.ite ?_ ?_
      | refine LeO.bind ?_ (fun _ => ?_)
set_option maxHeartbeats 8000000 in
set_option maxRecDepth 100000 in
theorem footbridgeref22_key.calls (k : Nat) (a0 : ByteArray) (r : ByteArray) (w : World) (h : footbridgeref22_key.f k a0 = some r) :
    Calls Tryd.prog 56 #[.string a0] w fun e w' => e = .returned (.string r) ∧ Below w.heap.size w w' := by
  have HB := Aside0.mk (Below.refl w.heap.size w)
  have H : ((footbridgeref14_Key.f k (([(⟨#[99, 108, 97, 115, 115]⟩ : ByteArray), a0] : List ByteArray))).bind fun t177 => (some t177)) = some r := h
  clear h
  obtain ⟨y174, hy174⟩ : ∃ y_ : List ByteArray, y_ = (([(⟨#[99, 108, 97, 115, 115]⟩ : ByteArray), a0] : List ByteArray)) := ⟨_, rfl⟩
  replace H : ((footbridgeref14_Key.f k y174).bind fun t177 => (some t177)) = some r := by first | (rw [hy174]; with_reducible exact H) | (have H2_ := (Option.bind_some _ _).symm.trans H; rw [hy174]; with_reducible exact H2_) | (have H2_ := (Option.bind_some _ _).symm.trans H; with_reducible exact H2_) | with_reducible exact H | (rw [hy174]; exact H) | exact H
  have Ny174 := Aside0.mk hy174
  clear hy174
  replace H := Option.bind_eq_some_iff.mp H
  obtain ⟨t177, A20, H⟩ := H
  replace H : (some t177) = some r := H
  have A2 := Aside0.mk A20
  clear A20
  obtain rfl := Option.some.inj H
  go_enter Tryd.func56, Tryd.ntmps56
  go_wp2_with (first | ((with_reducible refine gate_dst (N := 4) rfl ?_); refine Kd.R_lit Kd.string _ 9 ?hg (N := 4) ?hd (xs := ([(⟨#[99, 108, 97, 115, 115]⟩ : ByteArray), a0] : List ByteArray)) (inner := [.string (⟨#[99, 108, 97, 115, 115]⟩ : ByteArray), .string a0]) (ok := fun _ => True) (okp := fun _ => True) ?hr ?hp (fun _ hk => hk) trivial (Below.refl _ _) (Nat.le_refl _) (by simp) ?_; (case hd => rfl); (case hg => rfl); (case hr => first | (go_simp; done) | (go_simp; rfl)); (case hp => exact (Reps.one (show Kd.M Kd.string _ _ _ (⟨#[99, 108, 97, 115, 115]⟩ : ByteArray) [.string (⟨#[99, 108, 97, 115, 115]⟩ : ByteArray)] from rfl) (Reps.one (show Kd.M Kd.string _ _ _ a0 [.string a0] from rfl) (Reps.none _ _)))); intro v175 w3 ho4 hb hg_ hnew_; clear hg_ hnew_; (first | rw [← Ny174.out] at ho4 | (simp only [Int.reduceToNat] at ho4; rw [← Ny174.out] at ho4)); have n0_ := Aside0.mk (Kd.R_lower ho4 (below_size (by repeat (first | (with_reducible first | exact HB.out | apply below_alloc | apply pw_below_drewN | apply below_drew1) | exact HB.out)))); have n1_ := Aside0.mk (below_step (by repeat (first | (with_reducible first | exact HB.out | apply below_alloc | apply pw_below_drewN | apply below_drew1) | exact HB.out)) hb); clear HB; have HO176 := n0_; have HB := n1_; clear n0_ n1_; clear hb ho4; obtain ⟨Ao5, co5, eo5⟩ := Kd.R_slice HO176.out; subst eo5) | ((with_reducible refine gate_callee (f := 97) rfl ?_); refine goesL_ (some 5) rfl rfl Tryd.func97 (by kernel_rfl) rfl #[.slice Ao5 y174.length co5] rfl (by (try simp only [List.map_toArray, List.map_cons, List.map_nil]); first | done | rfl | (simp only [List.length_drop, List.length_take]; rfl)) ?_; (with_reducible refine (footbridgeref14_Key.calls k _ _ y174 t177 _ ?side1 ?side2 A2.out).mono ?_); (case side1 => repeat (first | exact (Kd.R_reads' HO176.out).2.2 | (with_reducible refine Kd.C_alloc ?_ _) | (with_reducible refine Kd.C_drewN ?_ _) | (with_reducible refine Kd.C_drew ?_))); (case side2 => exact (Kd.R_reads' HO176.out).2.1); rintro e w6 ⟨rfl, hb⟩; refine ⟨_, rfl, ?_⟩; have n0_ := Aside0.mk (Kd.R_below (by (with_reducible repeat (first | apply Kd.R_alloc | apply Kd.R_drewN | apply Kd.R_drew)); exact HO176.out) hb); have n1_ := Aside0.mk (below_step (by repeat (first | (with_reducible first | exact HB.out | apply below_alloc | apply pw_below_drewN | apply below_drew1) | exact HB.out)) hb); clear HO176; clear HB; have HO176 := n0_; have HB := n1_; clear n0_ n1_; (try clear hb); (try clear hb2); (try clear hk); (try clear hi)))
  go_ret
  exact ⟨by first | rfl | (simp [errW_none, errW_some] <;> rfl) | (simp [*, errW_none, errW_some] <;> rfl), by repeat (first | (with_reducible first | exact HB.out | apply below_alloc | apply pw_below_drewN | apply below_drew1) | exact HB.out)⟩

/-! ### footbridgeref09_Set: function 98 -/
def footbridgeref09_Set.f (k : Nat) (l0 : List (S100)) (a1 : ByteArray) (a2 : ByteArray) : Option ((List (S100)) × Bool) := (footbridgeref09_at.f k l0 a1).bind fun t178 => (if t178 = (l0.length : Int) then (if 0 ≤ t178 then (if t178 ≤ (l0.length : Int) then ((some (l0.drop (t178 : Int).toNat : List (S100))).bind fun y179 => ((some (l0.take (t178 : Int).toNat : List (S100))).bind fun y183 => (if ([] : List (S100)).length + y183.length < 4398046511104 then ((some (([] : List (S100)) ++ y183 : List (S100))).bind fun y187 => (if y187.length < 4398046511104 then ((some (y187 ++ [(⟨a1, a2⟩ : S100)] : List (S100))).bind fun y190 => (if y190.length + y179.length < 4398046511104 then (some ((y190 ++ y179), true)) else (none))) else (none))) else (none)))) else (none)) else (none)) else (if 0 ≤ t178 then (if t178 < (l0.length : Int) then (if t178 ≤ (l0.length : Int) then ((some (l0.drop (t178 : Int).toNat : List (S100))).bind fun y197 => (if (¬ ((rd_T100 l0 t178).f0).toList = a1.toList) then ((some (l0.take (t178 : Int).toNat : List (S100))).bind fun y201 => (if ([] : List (S100)).length + y201.length < 4398046511104 then ((some (([] : List (S100)) ++ y201 : List (S100))).bind fun y205 => (if y205.length < 4398046511104 then ((some (y205 ++ [(⟨a1, a2⟩ : S100)] : List (S100))).bind fun y208 => (if y208.length + y197.length < 4398046511104 then (some ((y208 ++ y197), (((rd_T100 l0 t178).f0).toList != a1.toList))) else (none))) else (none))) else (none))) else (if 0 ≤ (wrap64 (t178 + 1)) then (if (wrap64 (t178 + 1)) ≤ (l0.length : Int) then ((some (l0.drop ((wrap64 (t178 + 1)) : Int).toNat : List (S100))).bind fun y214 => ((some (l0.take (t178 : Int).toNat : List (S100))).bind fun y218 => (if ([] : List (S100)).length + y218.length < 4398046511104 then ((some (([] : List (S100)) ++ y218 : List (S100))).bind fun y222 => (if y222.length < 4398046511104 then ((some (y222 ++ [(⟨a1, a2⟩ : S100)] : List (S100))).bind fun y225 => (if y225.length + y214.length < 4398046511104 then (some ((y225 ++ y214), (((rd_T100 l0 t178).f0).toList != a1.toList))) else (none))) else (none))) else (none)))) else (none)) else (none)))) else (none)) else (none)) else (none)))
theorem footbridgeref09_Set.mono : ∀ a0 a1 a2 k, LeO (footbridgeref09_Set.f k a0 a1 a2) (footbridgeref09_Set.f (k + 1) a0 a1 a2) := by
  intro a0 a1 a2 k
  unfold footbridgeref09_Set.f
  repeat' first
      | (with_reducible exact footbridgeref09_at.mono _ _ _)
      | (with_reducible exact LeO.refl _)
      | (with_reducible exact LeO.none _)
      | (with_reducible refine LeO.ite ?_ ?_)
      | (with_reducible refine LeO.bind ?_ (fun _ => ?_))
      | exact footbridgeref09_at.mono _ _ _
      | exact LeO.none _
      | refine LeO.ite ?_ ?_
      | refine LeO.bind ?_ (fun _ => ?_)
set_option maxHeartbeats 8000000 in
set_option maxRecDepth 100000 in
theorem footbridgeref09_Set.calls (k : Nat) (A0 : Option Addr) (c0 : Nat) (l0 : List (S100)) (a1 : ByteArray) (a2 : ByteArray) (r1 : List (S100)) (r2 : Bool) (w : World) (hr0 : Kd.C k100 w A0 l0.length l0) (hc0 : l0.length ≤ c0) (h : footbridgeref09_Set.f k l0 a1 a2 = some (r1, r2)) :
    Calls Tryd.prog 98 #[.slice A0 l0.length c0, .string a1, .string a2] w fun e w' => ∃ v0_ : Value, e = .returned (.tuple #[v0_, .bool r2]) ∧ Kd.R k100 100 w' w.heap.size (fun _ => True) v0_ r1 ∧ Below w.heap.size w w' := by
  have hu100 := Tryd.underlying100
  have HR0 := Aside0.mk hr0
  have HC0 := Aside0.mk hc0
  clear hr0 hc0
  have HB := Aside0.mk (Below.refl w.heap.size w)
  have H : ((footbridgeref09_at.f k l0 a1).bind fun t178 => (if t178 = (l0.length : Int) then (if 0 ≤ t178 then (if t178 ≤ (l0.length : Int) then ((some (l0.drop (t178 : Int).toNat : List (S100))).bind fun y179 => ((some (l0.take (t178 : Int).toNat : List (S100))).bind fun y183 => (if ([] : List (S100)).length + y183.length < 4398046511104 then ((some (([] : List (S100)) ++ y183 : List (S100))).bind fun y187 => (if y187.length < 4398046511104 then ((some (y187 ++ [(⟨a1, a2⟩ : S100)] : List (S100))).bind fun y190 => (if y190.length + y179.length < 4398046511104 then (some ((y190 ++ y179), true)) else (none))) else (none))) else (none)))) else (none)) else (none)) else (if 0 ≤ t178 then (if t178 < (l0.length : Int) then (if t178 ≤ (l0.length : Int) then ((some (l0.drop (t178 : Int).toNat : List (S100))).bind fun y197 => (if (¬ ((rd_T100 l0 t178).f0).toList = a1.toList) then ((some (l0.take (t178 : Int).toNat : List (S100))).bind fun y201 => (if ([] : List (S100)).length + y201.length < 4398046511104 then ((some (([] : List (S100)) ++ y201 : List (S100))).bind fun y205 => (if y205.length < 4398046511104 then ((some (y205 ++ [(⟨a1, a2⟩ : S100)] : List (S100))).bind fun y208 => (if y208.length + y197.length < 4398046511104 then (some ((y208 ++ y197), (((rd_T100 l0 t178).f0).toList != a1.toList))) else (none))) else (none))) else (none))) else (if 0 ≤ (wrap64 (t178 + 1)) then (if (wrap64 (t178 + 1)) ≤ (l0.length : Int) then ((some (l0.drop ((wrap64 (t178 + 1)) : Int).toNat : List (S100))).bind fun y214 => ((some (l0.take (t178 : Int).toNat : List (S100))).bind fun y218 => (if ([] : List (S100)).length + y218.length < 4398046511104 then ((some (([] : List (S100)) ++ y218 : List (S100))).bind fun y222 => (if y222.length < 4398046511104 then ((some (y222 ++ [(⟨a1, a2⟩ : S100)] : List (S100))).bind fun y225 => (if y225.length + y214.length < 4398046511104 then (some ((y225 ++ y214), (((rd_T100 l0 t178).f0).toList != a1.toList))) else (none))) else (none))) else (none)))) else (none)) else (none)))) else (none)) else (none)) else (none)))) = some (r1, r2) := h
  clear h
  replace H := Option.bind_eq_some_iff.mp H
  obtain ⟨t178, A40, H⟩ := H
  replace H : (if t178 = (l0.length : Int) then (if 0 ≤ t178 then (if t178 ≤ (l0.length : Int) then ((some (l0.drop (t178 : Int).toNat : List (S100))).bind fun y179 => ((some (l0.take (t178 : Int).toNat : List (S100))).bind fun y183 => (if ([] : List (S100)).length + y183.length < 4398046511104 then ((some (([] : List (S100)) ++ y183 : List (S100))).bind fun y187 => (if y187.length < 4398046511104 then ((some (y187 ++ [(⟨a1, a2⟩ : S100)] : List (S100))).bind fun y190 => (if y190.length + y179.length < 4398046511104 then (some ((y190 ++ y179), true)) else (none))) else (none))) else (none)))) else (none)) else (none)) else (if 0 ≤ t178 then (if t178 < (l0.length : Int) then (if t178 ≤ (l0.length : Int) then ((some (l0.drop (t178 : Int).toNat : List (S100))).bind fun y197 => (if (¬ ((rd_T100 l0 t178).f0).toList = a1.toList) then ((some (l0.take (t178 : Int).toNat : List (S100))).bind fun y201 => (if ([] : List (S100)).length + y201.length < 4398046511104 then ((some (([] : List (S100)) ++ y201 : List (S100))).bind fun y205 => (if y205.length < 4398046511104 then ((some (y205 ++ [(⟨a1, a2⟩ : S100)] : List (S100))).bind fun y208 => (if y208.length + y197.length < 4398046511104 then (some ((y208 ++ y197), (((rd_T100 l0 t178).f0).toList != a1.toList))) else (none))) else (none))) else (none))) else (if 0 ≤ (wrap64 (t178 + 1)) then (if (wrap64 (t178 + 1)) ≤ (l0.length : Int) then ((some (l0.drop ((wrap64 (t178 + 1)) : Int).toNat : List (S100))).bind fun y214 => ((some (l0.take (t178 : Int).toNat : List (S100))).bind fun y218 => (if ([] : List (S100)).length + y218.length < 4398046511104 then ((some (([] : List (S100)) ++ y218 : List (S100))).bind fun y222 => (if y222.length < 4398046511104 then ((some (y222 ++ [(⟨a1, a2⟩ : S100)] : List (S100))).bind fun y225 => (if y225.length + y214.length < 4398046511104 then (some ((y225 ++ y214), (((rd_T100 l0 t178).f0).toList != a1.toList))) else (none))) else (none))) else (none)))) else (none)) else (none)))) else (none)) else (none)) else (none))) = some (r1, r2) := H
  have A4 := Aside0.mk A40
  clear A40
  by_cases c5 : t178 = (l0.length : Int)
  · rw [if_pos c5] at H
    have c5b0 : (t178 == (l0.length : Int)) = true := beq_iff_eq.mpr c5
    have c5b1 : (t178 != (l0.length : Int)) = false := bne_eq_false_iff_eq.mpr c5
    clear c5
    by_cases c6 : 0 ≤ t178
    · rw [if_pos c6] at H
      have c6b0 := eq_true c6
      have c6b1 : decide (0 ≤ t178) = true := decide_eq_true c6
      clear c6
      by_cases c7 : t178 ≤ (l0.length : Int)
      · rw [if_pos c7] at H
        have c7b0 := eq_true c7
        have c7b1 : decide (t178 ≤ (l0.length : Int)) = true := decide_eq_true c7
        clear c7
        obtain ⟨y179, hy179⟩ : ∃ y_ : List (S100), y_ = (l0.drop (t178 : Int).toNat) := ⟨_, rfl⟩
        replace H : ((some (l0.take (t178 : Int).toNat : List (S100))).bind fun y183 => (if ([] : List (S100)).length + y183.length < 4398046511104 then ((some (([] : List (S100)) ++ y183 : List (S100))).bind fun y187 => (if y187.length < 4398046511104 then ((some (y187 ++ [(⟨a1, a2⟩ : S100)] : List (S100))).bind fun y190 => (if y190.length + y179.length < 4398046511104 then (some ((y190 ++ y179), true)) else (none))) else (none))) else (none))) = some (r1, r2) := by first | (rw [hy179]; with_reducible exact H) | (have H2_ := (Option.bind_some _ _).symm.trans H; rw [hy179]; with_reducible exact H2_) | (have H2_ := (Option.bind_some _ _).symm.trans H; with_reducible exact H2_) | with_reducible exact H | (rw [hy179]; exact H) | exact H
        have Ny179 := Aside0.mk hy179
        clear hy179
        have c8b0 := eq_true (of_decide_eq_true (by first | (with_reducible assumption) | assumption) : 0 ≤ t178)
        have c9b0 := eq_true (of_decide_eq_true (by first | (with_reducible assumption) | assumption) : t178 ≤ (l0.length : Int))
        obtain ⟨y183, hy183⟩ : ∃ y_ : List (S100), y_ = (l0.take (t178 : Int).toNat) := ⟨_, rfl⟩
        replace H : (if ([] : List (S100)).length + y183.length < 4398046511104 then ((some (([] : List (S100)) ++ y183 : List (S100))).bind fun y187 => (if y187.length < 4398046511104 then ((some (y187 ++ [(⟨a1, a2⟩ : S100)] : List (S100))).bind fun y190 => (if y190.length + y179.length < 4398046511104 then (some ((y190 ++ y179), true)) else (none))) else (none))) else (none)) = some (r1, r2) := by first | (rw [hy183]; with_reducible exact H) | (have H2_ := (Option.bind_some _ _).symm.trans H; rw [hy183]; with_reducible exact H2_) | (have H2_ := (Option.bind_some _ _).symm.trans H; with_reducible exact H2_) | with_reducible exact H | (rw [hy183]; exact H) | exact H
        have Ny183 := Aside0.mk hy183
        clear hy183
        by_cases c10 : ([] : List (S100)).length + y183.length < 4398046511104
        · rw [if_pos c10] at H
          have LMc10 := Aside0.mk c10
          clear c10
          obtain ⟨y187, hy187⟩ : ∃ y_ : List (S100), y_ = (([] : List (S100)) ++ y183) := ⟨_, rfl⟩
          replace H : (if y187.length < 4398046511104 then ((some (y187 ++ [(⟨a1, a2⟩ : S100)] : List (S100))).bind fun y190 => (if y190.length + y179.length < 4398046511104 then (some ((y190 ++ y179), true)) else (none))) else (none)) = some (r1, r2) := by first | (rw [hy187]; with_reducible exact H) | (have H2_ := (Option.bind_some _ _).symm.trans H; rw [hy187]; with_reducible exact H2_) | (have H2_ := (Option.bind_some _ _).symm.trans H; with_reducible exact H2_) | with_reducible exact H | (rw [hy187]; exact H) | exact H
          have Ny187 := Aside0.mk hy187
          clear hy187
          by_cases c11 : y187.length < 4398046511104
          · rw [if_pos c11] at H
            have LMc11 := Aside0.mk c11
            clear c11
            obtain ⟨y190, hy190⟩ : ∃ y_ : List (S100), y_ = (y187 ++ [(⟨a1, a2⟩ : S100)]) := ⟨_, rfl⟩
            replace H : (if y190.length + y179.length < 4398046511104 then (some ((y190 ++ y179), true)) else (none)) = some (r1, r2) := by first | (rw [hy190]; with_reducible exact H) | (have H2_ := (Option.bind_some _ _).symm.trans H; rw [hy190]; with_reducible exact H2_) | (have H2_ := (Option.bind_some _ _).symm.trans H; with_reducible exact H2_) | with_reducible exact H | (rw [hy190]; exact H) | exact H
            have Ny190 := Aside0.mk hy190
            clear hy190
            by_cases c12 : y190.length + y179.length < 4398046511104
            · rw [if_pos c12] at H
              have LMc12 := Aside0.mk c12
              clear c12
              obtain ⟨y193, hy193⟩ : ∃ y_ : List (S100), y_ = (y190 ++ y179) := ⟨_, rfl⟩
              replace H : (some (y193, true)) = some (r1, r2) := by first | (rw [hy193]; with_reducible exact H) | (have H2_ := (Option.bind_some _ _).symm.trans H; rw [hy193]; with_reducible exact H2_) | (have H2_ := (Option.bind_some _ _).symm.trans H; with_reducible exact H2_) | with_reducible exact H | (rw [hy193]; exact H) | exact H
              have Ny193 := Aside0.mk hy193
              clear hy193
              simp only [Option.some.injEq, Prod.mk.injEq] at H
              obtain ⟨rfl, rfl⟩ := H
              go_enter Tryd.func98, Tryd.ntmps98
              go_wp2_with (first | ((with_reducible refine gate_callee (f := 96) rfl ?_); refine goesL_ (some 14) rfl rfl Tryd.func96 (by kernel_rfl) rfl #[.slice A0 l0.length c0, .string a1] rfl (by (try simp only [List.map_toArray, List.map_cons, List.map_nil]); first | done | rfl | (simp only [List.length_drop, List.length_take]; rfl)) ?_; (with_reducible refine (footbridgeref09_at.calls k _ _ l0 a1 t178 _ ?side1 ?side2 A4.out).mono ?_); (case side1 => repeat (first | exact HR0.out | (with_reducible refine Kd.C_alloc ?_ _) | (with_reducible refine Kd.C_drewN ?_ _) | (with_reducible refine Kd.C_drew ?_))); (case side2 => exact HC0.out); rintro e w' ⟨rfl, ⟨nd, rfl⟩⟩; refine ⟨_, rfl, ?_⟩; have q13 : (t178 : Int) ≤ ((l0.length : Int) : Int) := of_decide_eq_true (by first | (with_reducible assumption) | assumption); obtain ⟨i013, hi013, _, hsz13, _⟩ := info_parts info100; have hroom13 : l0.length ≤ c0 := HC0.out; have hC13 : Kd.C k100 _ A0 l0.length l0 := HR0.out; have q013 : (0 : Int) ≤ (t178 : Int) := of_decide_eq_true (by first | (with_reducible assumption) | assumption); have hcut13 := cut_from (P := Tryd.prog) 35 100 .i64 Tryd.underlying35 hi013 2 hsz13 A0 l0.length c0 t178 q013 q13; have hr13 := Kd.C_drop (m := (t178 : Int).toNat) (c := c0) hC13 (by omega) hroom13; obtain ⟨A13, hA13⟩ : ∃ A1, A1 = (if c0 = (t178 : Int).toNat then A0 else (A0 : Option Addr).map (·.add ((t178 : Int).toNat * 2))) := ⟨_, rfl⟩; obtain ⟨c13, hc13⟩ : ∃ c1, c1 = c0 - (t178 : Int).toNat := ⟨_, rfl⟩; have hy13 : y179.length = l0.length - (t178 : Int).toNat := (by rw [Ny179.out, List.length_drop] <;> omega); rw [show (l0).drop (t178 : Int).toNat = y179 from Ny179.out.symm] at hr13; replace hr13 : Kd.C k100 _ A13 y179.length y179 := (by rw [hA13]; exact hr13); rw [← hy13, ← hA13, ← hc13] at hcut13; have HR182 := Aside0.mk hr13; have HC182 := Aside0.mk (show y179.length ≤ c13 from by rw [hy13, hc13]; exact Nat.sub_le_sub_right hroom13 _); clear hr13 hC13 hroom13 hi013 hsz13 hc13; have KY13 := Aside0.mk hy13; have KA13 := Aside0.mk hA13; clear hy13 hA13; replace q13 := eq_true q13; have q14 : (t178 : Int) ≤ ((l0.length : Int) : Int) := of_decide_eq_true (by first | (with_reducible assumption) | assumption); obtain ⟨i014, hi014, _, hsz14, _⟩ := info_parts info100; have hroom14 : l0.length ≤ c0 := HC0.out; have hC14 : Kd.C k100 _ A0 l0.length l0 := HR0.out; have hcut14 := cut_to (P := Tryd.prog) 35 100 .i64 Tryd.underlying35 hi014 A0 l0.length c0 t178 (of_decide_eq_true (by first | (with_reducible assumption) | assumption)) q14 hroom14; have hr14 := Kd.C_take (m := (t178 : Int).toNat) hC14 (by omega); have hy14 : y183.length = (t178 : Int).toNat := (by rw [Ny183.out, List.length_take]; omega); rw [← Ny183.out] at hr14; rw [← hy14] at hcut14; have HR186 := Aside0.mk hr14; have HC186 := Aside0.mk (show y183.length ≤ c0 from by omega); clear hr14 hC14 hroom14 hi014 hsz14; have KY14 := Aside0.mk hy14; clear hy14; replace q14 := eq_true q14) | ((with_reducible refine gate_builtin (b := .append) (xs := #[.tmp 37, .tmp 40]) rfl ?_); at_builtin; refine Kd.R_append_rows k100 (w0 := w) w.heap.size rfl (.tmp 37) (.tmp 40) 35 100 (.agg #[(.string ⟨#[]⟩), (.string ⟨#[]⟩)]) 32 rfl Tryd.underlying35 info100 rfl (by decide) (by omega) (.slice none 0 0) ([] : List (S100)) y183 _ _ _ (fun _ => True) (fun _ => False) rfl rfl ?aO ?aR (fun _ _ h => h) (fun _ h => h.elim) ?aF ?aB ?aS ?aL ?_; (case aR => repeat (first | exact HR186.out | (with_reducible refine Kd.C_alloc ?_ _) | (with_reducible refine Kd.C_drewN ?_ _) | (with_reducible refine Kd.C_drew ?_))); (case aB => exact (by repeat (first | (with_reducible first | exact HB.out | apply below_alloc | apply pw_below_drewN | apply below_drew1) | exact HB.out))); (case aF => exact (fun _ _ => trivial)); (case aO => exact ((Kd.R_nil _ _ _ _ (fun _ => True)))); (case aS => exact (below_size (by repeat (first | (with_reducible first | exact HB.out | apply below_alloc | apply pw_below_drewN | apply below_drew1) | exact HB.out)))); (case aL => have := LMc10.out; omega); intro v188 w15 ho hb hg hat; rw [← Ny187.out] at ho; have n0_ := Aside0.mk (hb); have n1_ := Aside0.mk (ho); clear HB; have HB := n0_; have HO189 := n1_; clear n0_ n1_; clear ho hb hg hat) | ((with_reducible refine gate_builtin (b := .append) (xs := #[.tmp 42, .tmp 46]) rfl ?_); at_builtin; refine Kd.R_append k100 (w0 := w) w.heap.size rfl (.tmp 42) (.tmp 46) 35 100 (.agg #[(.string ⟨#[]⟩), (.string ⟨#[]⟩)]) 32 rfl Tryd.underlying35 info100 rfl (by decide) (by omega) v188 y187 (⟨a1, a2⟩ : S100) [.string a1, .string a2] (fun _ => True) (fun _ => False) rfl rfl ?aP (fun _ hk => hk.elim) ?aF ?aO ?aB ?aS ?aL ?_; (case aP => exact k100_mkM _ _ _ (⟨a1, a2⟩ : S100)); (case aB => exact (by repeat (first | (with_reducible first | exact HB.out | apply below_alloc | apply pw_below_drewN | apply below_drew1) | exact HB.out))); (case aF => exact (fun _ _ => trivial)); (case aO => exact (by (with_reducible repeat (first | apply Kd.R_alloc | apply Kd.R_drewN | apply Kd.R_drew)); exact HO189.out)); (case aS => exact (below_size (by repeat (first | (with_reducible first | exact HB.out | apply below_alloc | apply pw_below_drewN | apply below_drew1) | exact HB.out)))); (case aL => have := LMc11.out; omega); intro v191 w16 ho hb hg hat; rw [← Ny190.out] at ho; have n0_ := Aside0.mk (hb); have n1_ := Aside0.mk (ho); clear HB; clear HO189; have HB := n0_; have HO192 := n1_; clear n0_ n1_; clear ho hb hg hat) | ((with_reducible refine gate_builtin (b := .append) (xs := #[.tmp 48, .tmp 49]) rfl ?_); at_builtin; refine Kd.R_append_rows k100 (w0 := w) w.heap.size rfl (.tmp 48) (.tmp 49) 35 100 (.agg #[(.string ⟨#[]⟩), (.string ⟨#[]⟩)]) 32 rfl Tryd.underlying35 info100 rfl (by decide) (by omega) v191 y190 y179 _ _ _ (fun _ => True) (fun _ => False) rfl rfl ?aO ?aR (fun _ _ h => h) (fun _ h => h.elim) ?aF ?aB ?aS ?aL ?_; (case aR => repeat (first | exact (Kd.C_below HR182.out HB.out) | (with_reducible refine Kd.C_alloc ?_ _) | (with_reducible refine Kd.C_drewN ?_ _) | (with_reducible refine Kd.C_drew ?_))); (case aB => exact (by repeat (first | (with_reducible first | exact HB.out | apply below_alloc | apply pw_below_drewN | apply below_drew1) | exact HB.out))); (case aF => exact (fun _ _ => trivial)); (case aO => exact (by (with_reducible repeat (first | apply Kd.R_alloc | apply Kd.R_drewN | apply Kd.R_drew)); exact HO192.out)); (case aS => exact (below_size (by repeat (first | (with_reducible first | exact HB.out | apply below_alloc | apply pw_below_drewN | apply below_drew1) | exact HB.out)))); (case aL => have := LMc12.out; omega); intro v194 w17 ho hb hg hat; rw [← Ny193.out] at ho; have n0_ := Aside0.mk (hb); have n1_ := Aside0.mk (ho); clear HB; clear HO192; have HB := n0_; have HO195 := n1_; clear n0_ n1_; clear ho hb hg hat))
              go_ret2
              exact ⟨_, by first | rfl | (simp [errW_none, errW_some] <;> rfl) | (simp [*, errW_none, errW_some] <;> rfl), by (with_reducible repeat (first | apply Kd.R_alloc | apply Kd.R_drewN | apply Kd.R_drew)); exact HO195.out, by repeat (first | (with_reducible first | exact HB.out | apply below_alloc | apply pw_below_drewN | apply below_drew1) | exact HB.out)⟩
            · rw [if_neg c12] at H
              exact absurd H (by simp)
          · rw [if_neg c11] at H
            exact absurd H (by simp)
        · rw [if_neg c10] at H
          exact absurd H (by simp)
      · rw [if_neg c7] at H
        exact absurd H (by simp)
    · rw [if_neg c6] at H
      exact absurd H (by simp)
  · rw [if_neg c5] at H
    have c5b0 : (t178 == (l0.length : Int)) = false := beq_eq_false_iff_ne.mpr c5
    have c5b1 : (t178 != (l0.length : Int)) = true := bne_iff_ne.mpr c5
    by_cases c18 : 0 ≤ t178
    · rw [if_pos c18] at H
      have c18b0 : decide (0 ≤ t178) = true := decide_eq_true c18
      clear c18
      by_cases c19 : t178 < (l0.length : Int)
      · rw [if_pos c19] at H
        have c19b0 : decide (t178 < (l0.length : Int)) = true := decide_eq_true c19
        clear c19
        have c20b0 := eq_true (of_decide_eq_true (by first | (with_reducible assumption) | assumption) : 0 ≤ t178)
        by_cases c21 : t178 ≤ (l0.length : Int)
        · rw [if_pos c21] at H
          have c21b0 := eq_true c21
          have c21b1 : decide (t178 ≤ (l0.length : Int)) = true := decide_eq_true c21
          clear c21
          obtain ⟨y197, hy197⟩ : ∃ y_ : List (S100), y_ = (l0.drop (t178 : Int).toNat) := ⟨_, rfl⟩
          replace H : (if (¬ ((rd_T100 l0 t178).f0).toList = a1.toList) then ((some (l0.take (t178 : Int).toNat : List (S100))).bind fun y201 => (if ([] : List (S100)).length + y201.length < 4398046511104 then ((some (([] : List (S100)) ++ y201 : List (S100))).bind fun y205 => (if y205.length < 4398046511104 then ((some (y205 ++ [(⟨a1, a2⟩ : S100)] : List (S100))).bind fun y208 => (if y208.length + y197.length < 4398046511104 then (some ((y208 ++ y197), (((rd_T100 l0 t178).f0).toList != a1.toList))) else (none))) else (none))) else (none))) else (if 0 ≤ (wrap64 (t178 + 1)) then (if (wrap64 (t178 + 1)) ≤ (l0.length : Int) then ((some (l0.drop ((wrap64 (t178 + 1)) : Int).toNat : List (S100))).bind fun y214 => ((some (l0.take (t178 : Int).toNat : List (S100))).bind fun y218 => (if ([] : List (S100)).length + y218.length < 4398046511104 then ((some (([] : List (S100)) ++ y218 : List (S100))).bind fun y222 => (if y222.length < 4398046511104 then ((some (y222 ++ [(⟨a1, a2⟩ : S100)] : List (S100))).bind fun y225 => (if y225.length + y214.length < 4398046511104 then (some ((y225 ++ y214), (((rd_T100 l0 t178).f0).toList != a1.toList))) else (none))) else (none))) else (none)))) else (none)) else (none))) = some (r1, r2) := by first | (rw [hy197]; with_reducible exact H) | (have H2_ := (Option.bind_some _ _).symm.trans H; rw [hy197]; with_reducible exact H2_) | (have H2_ := (Option.bind_some _ _).symm.trans H; with_reducible exact H2_) | with_reducible exact H | (rw [hy197]; exact H) | exact H
          have Ny197 := Aside0.mk hy197
          clear hy197
          by_cases c22 : (¬ ((rd_T100 l0 t178).f0).toList = a1.toList)
          · rw [if_pos c22] at H
            have c22b0 : (((rd_T100 l0 t178).f0).toList == a1.toList) = false := beq_eq_false_iff_ne.mpr c22
            have c22b1 : (((rd_T100 l0 t178).f0).toList != a1.toList) = true := bne_iff_ne.mpr c22
            clear c22
            have c23b0 := eq_true (of_decide_eq_true (by first | (with_reducible assumption) | assumption) : 0 ≤ t178)
            have c24b0 := eq_true (of_decide_eq_true (by first | (with_reducible assumption) | assumption) : t178 ≤ (l0.length : Int))
            obtain ⟨y201, hy201⟩ : ∃ y_ : List (S100), y_ = (l0.take (t178 : Int).toNat) := ⟨_, rfl⟩
            replace H : (if ([] : List (S100)).length + y201.length < 4398046511104 then ((some (([] : List (S100)) ++ y201 : List (S100))).bind fun y205 => (if y205.length < 4398046511104 then ((some (y205 ++ [(⟨a1, a2⟩ : S100)] : List (S100))).bind fun y208 => (if y208.length + y197.length < 4398046511104 then (some ((y208 ++ y197), (((rd_T100 l0 t178).f0).toList != a1.toList))) else (none))) else (none))) else (none)) = some (r1, r2) := by first | (rw [hy201]; with_reducible exact H) | (have H2_ := (Option.bind_some _ _).symm.trans H; rw [hy201]; with_reducible exact H2_) | (have H2_ := (Option.bind_some _ _).symm.trans H; with_reducible exact H2_) | with_reducible exact H | (rw [hy201]; exact H) | exact H
            have Ny201 := Aside0.mk hy201
            clear hy201
            by_cases c25 : ([] : List (S100)).length + y201.length < 4398046511104
            · rw [if_pos c25] at H
              have LMc25 := Aside0.mk c25
              clear c25
              obtain ⟨y205, hy205⟩ : ∃ y_ : List (S100), y_ = (([] : List (S100)) ++ y201) := ⟨_, rfl⟩
              replace H : (if y205.length < 4398046511104 then ((some (y205 ++ [(⟨a1, a2⟩ : S100)] : List (S100))).bind fun y208 => (if y208.length + y197.length < 4398046511104 then (some ((y208 ++ y197), (((rd_T100 l0 t178).f0).toList != a1.toList))) else (none))) else (none)) = some (r1, r2) := by first | (rw [hy205]; with_reducible exact H) | (have H2_ := (Option.bind_some _ _).symm.trans H; rw [hy205]; with_reducible exact H2_) | (have H2_ := (Option.bind_some _ _).symm.trans H; with_reducible exact H2_) | with_reducible exact H | (rw [hy205]; exact H) | exact H
              have Ny205 := Aside0.mk hy205
              clear hy205
              by_cases c26 : y205.length < 4398046511104
              · rw [if_pos c26] at H
                have LMc26 := Aside0.mk c26
                clear c26
                obtain ⟨y208, hy208⟩ : ∃ y_ : List (S100), y_ = (y205 ++ [(⟨a1, a2⟩ : S100)]) := ⟨_, rfl⟩
                replace H : (if y208.length + y197.length < 4398046511104 then (some ((y208 ++ y197), (((rd_T100 l0 t178).f0).toList != a1.toList))) else (none)) = some (r1, r2) := by first | (rw [hy208]; with_reducible exact H) | (have H2_ := (Option.bind_some _ _).symm.trans H; rw [hy208]; with_reducible exact H2_) | (have H2_ := (Option.bind_some _ _).symm.trans H; with_reducible exact H2_) | with_reducible exact H | (rw [hy208]; exact H) | exact H
                have Ny208 := Aside0.mk hy208
                clear hy208
                by_cases c27 : y208.length + y197.length < 4398046511104
                · rw [if_pos c27] at H
                  have LMc27 := Aside0.mk c27
                  clear c27
                  obtain ⟨y211, hy211⟩ : ∃ y_ : List (S100), y_ = (y208 ++ y197) := ⟨_, rfl⟩
                  replace H : (some (y211, (((rd_T100 l0 t178).f0).toList != a1.toList))) = some (r1, r2) := by first | (rw [hy211]; with_reducible exact H) | (have H2_ := (Option.bind_some _ _).symm.trans H; rw [hy211]; with_reducible exact H2_) | (have H2_ := (Option.bind_some _ _).symm.trans H; with_reducible exact H2_) | with_reducible exact H | (rw [hy211]; exact H) | exact H
                  have Ny211 := Aside0.mk hy211
                  clear hy211
                  simp only [Option.some.injEq, Prod.mk.injEq] at H
                  obtain ⟨rfl, rfl⟩ := H
                  go_enter Tryd.func98, Tryd.ntmps98
                  go_wp2_with (first | ((with_reducible refine gate_callee (f := 96) rfl ?_); refine goesL_ (some 14) rfl rfl Tryd.func96 (by kernel_rfl) rfl #[.slice A0 l0.length c0, .string a1] rfl (by (try simp only [List.map_toArray, List.map_cons, List.map_nil]); first | done | rfl | (simp only [List.length_drop, List.length_take]; rfl)) ?_; (with_reducible refine (footbridgeref09_at.calls k _ _ l0 a1 t178 _ ?side1 ?side2 A4.out).mono ?_); (case side1 => repeat (first | exact HR0.out | (with_reducible refine Kd.C_alloc ?_ _) | (with_reducible refine Kd.C_drewN ?_ _) | (with_reducible refine Kd.C_drew ?_))); (case side2 => exact HC0.out); rintro e w' ⟨rfl, ⟨nd, rfl⟩⟩; refine ⟨_, rfl, ?_⟩; have p196 : 0 ≤ (t178 : Int) := of_decide_eq_true (by first | (with_reducible assumption) | assumption); have q196 : t178 < (l0.length : Int) := of_decide_eq_true (by first | (with_reducible assumption) | assumption); obtain ⟨ad196, e196, hx196_0, hx196_1⟩ := at_T100 HR0.out t178 p196 q196; cases e196; replace p196 := eq_true p196; replace q196 := eq_true q196; have q28 : (t178 : Int) ≤ ((l0.length : Int) : Int) := of_decide_eq_true (by first | (with_reducible assumption) | assumption); obtain ⟨i028, hi028, _, hsz28, _⟩ := info_parts info100; have hroom28 : l0.length ≤ c0 := HC0.out; have hC28 : Kd.C k100 _ (some ad196) l0.length l0 := HR0.out; have q028 : (0 : Int) ≤ (t178 : Int) := of_decide_eq_true (by first | (with_reducible assumption) | assumption); have hcut28 := cut_from (P := Tryd.prog) 35 100 .i64 Tryd.underlying35 hi028 2 hsz28 (some ad196) l0.length c0 t178 q028 q28; have hr28 := Kd.C_drop (m := (t178 : Int).toNat) (c := c0) hC28 (by omega) hroom28; obtain ⟨A28, hA28⟩ : ∃ A1, A1 = (if c0 = (t178 : Int).toNat then (some ad196) else ((some ad196) : Option Addr).map (·.add ((t178 : Int).toNat * 2))) := ⟨_, rfl⟩; obtain ⟨c28, hc28⟩ : ∃ c1, c1 = c0 - (t178 : Int).toNat := ⟨_, rfl⟩; have hy28 : y197.length = l0.length - (t178 : Int).toNat := (by rw [Ny197.out, List.length_drop] <;> omega); rw [show (l0).drop (t178 : Int).toNat = y197 from Ny197.out.symm] at hr28; replace hr28 : Kd.C k100 _ A28 y197.length y197 := (by rw [hA28]; exact hr28); rw [← hy28, ← hA28, ← hc28] at hcut28; have HR200 := Aside0.mk hr28; have HC200 := Aside0.mk (show y197.length ≤ c28 from by rw [hy28, hc28]; exact Nat.sub_le_sub_right hroom28 _); clear hr28 hC28 hroom28 hi028 hsz28 hc28; have KY28 := Aside0.mk hy28; have KA28 := Aside0.mk hA28; clear hy28 hA28; replace q28 := eq_true q28; have q29 : (t178 : Int) ≤ ((l0.length : Int) : Int) := of_decide_eq_true (by first | (with_reducible assumption) | assumption); obtain ⟨i029, hi029, _, hsz29, _⟩ := info_parts info100; have hroom29 : l0.length ≤ c0 := HC0.out; have hC29 : Kd.C k100 _ (some ad196) l0.length l0 := HR0.out; have hcut29 := cut_to (P := Tryd.prog) 35 100 .i64 Tryd.underlying35 hi029 (some ad196) l0.length c0 t178 (of_decide_eq_true (by first | (with_reducible assumption) | assumption)) q29 hroom29; have hr29 := Kd.C_take (m := (t178 : Int).toNat) hC29 (by omega); have hy29 : y201.length = (t178 : Int).toNat := (by rw [Ny201.out, List.length_take]; omega); rw [← Ny201.out] at hr29; rw [← hy29] at hcut29; have HR204 := Aside0.mk hr29; have HC204 := Aside0.mk (show y201.length ≤ c0 from by omega); clear hr29 hC29 hroom29 hi029 hsz29; have KY29 := Aside0.mk hy29; clear hy29; replace q29 := eq_true q29) | ((with_reducible refine gate_builtin (b := .append) (xs := #[.tmp 37, .tmp 40]) rfl ?_); at_builtin; refine Kd.R_append_rows k100 (w0 := w) w.heap.size rfl (.tmp 37) (.tmp 40) 35 100 (.agg #[(.string ⟨#[]⟩), (.string ⟨#[]⟩)]) 32 rfl Tryd.underlying35 info100 rfl (by decide) (by omega) (.slice none 0 0) ([] : List (S100)) y201 _ _ _ (fun _ => True) (fun _ => False) rfl rfl ?aO ?aR (fun _ _ h => h) (fun _ h => h.elim) ?aF ?aB ?aS ?aL ?_; (case aR => repeat (first | exact HR204.out | (with_reducible refine Kd.C_alloc ?_ _) | (with_reducible refine Kd.C_drewN ?_ _) | (with_reducible refine Kd.C_drew ?_))); (case aB => exact (by repeat (first | (with_reducible first | exact HB.out | apply below_alloc | apply pw_below_drewN | apply below_drew1) | exact HB.out))); (case aF => exact (fun _ _ => trivial)); (case aO => exact ((Kd.R_nil _ _ _ _ (fun _ => True)))); (case aS => exact (below_size (by repeat (first | (with_reducible first | exact HB.out | apply below_alloc | apply pw_below_drewN | apply below_drew1) | exact HB.out)))); (case aL => have := LMc25.out; omega); intro v206 w30 ho hb hg hat; rw [← Ny205.out] at ho; have n0_ := Aside0.mk (hb); have n1_ := Aside0.mk (ho); clear HB; have HB := n0_; have HO207 := n1_; clear n0_ n1_; clear ho hb hg hat) | ((with_reducible refine gate_builtin (b := .append) (xs := #[.tmp 42, .tmp 46]) rfl ?_); at_builtin; refine Kd.R_append k100 (w0 := w) w.heap.size rfl (.tmp 42) (.tmp 46) 35 100 (.agg #[(.string ⟨#[]⟩), (.string ⟨#[]⟩)]) 32 rfl Tryd.underlying35 info100 rfl (by decide) (by omega) v206 y205 (⟨a1, a2⟩ : S100) [.string a1, .string a2] (fun _ => True) (fun _ => False) rfl rfl ?aP (fun _ hk => hk.elim) ?aF ?aO ?aB ?aS ?aL ?_; (case aP => exact k100_mkM _ _ _ (⟨a1, a2⟩ : S100)); (case aB => exact (by repeat (first | (with_reducible first | exact HB.out | apply below_alloc | apply pw_below_drewN | apply below_drew1) | exact HB.out))); (case aF => exact (fun _ _ => trivial)); (case aO => exact (by (with_reducible repeat (first | apply Kd.R_alloc | apply Kd.R_drewN | apply Kd.R_drew)); exact HO207.out)); (case aS => exact (below_size (by repeat (first | (with_reducible first | exact HB.out | apply below_alloc | apply pw_below_drewN | apply below_drew1) | exact HB.out)))); (case aL => have := LMc26.out; omega); intro v209 w31 ho hb hg hat; rw [← Ny208.out] at ho; have n0_ := Aside0.mk (hb); have n1_ := Aside0.mk (ho); clear HB; clear HO207; have HB := n0_; have HO210 := n1_; clear n0_ n1_; clear ho hb hg hat) | ((with_reducible refine gate_builtin (b := .append) (xs := #[.tmp 48, .tmp 49]) rfl ?_); at_builtin; refine Kd.R_append_rows k100 (w0 := w) w.heap.size rfl (.tmp 48) (.tmp 49) 35 100 (.agg #[(.string ⟨#[]⟩), (.string ⟨#[]⟩)]) 32 rfl Tryd.underlying35 info100 rfl (by decide) (by omega) v209 y208 y197 _ _ _ (fun _ => True) (fun _ => False) rfl rfl ?aO ?aR (fun _ _ h => h) (fun _ h => h.elim) ?aF ?aB ?aS ?aL ?_; (case aR => repeat (first | exact (Kd.C_below HR200.out HB.out) | (with_reducible refine Kd.C_alloc ?_ _) | (with_reducible refine Kd.C_drewN ?_ _) | (with_reducible refine Kd.C_drew ?_))); (case aB => exact (by repeat (first | (with_reducible first | exact HB.out | apply below_alloc | apply pw_below_drewN | apply below_drew1) | exact HB.out))); (case aF => exact (fun _ _ => trivial)); (case aO => exact (by (with_reducible repeat (first | apply Kd.R_alloc | apply Kd.R_drewN | apply Kd.R_drew)); exact HO210.out)); (case aS => exact (below_size (by repeat (first | (with_reducible first | exact HB.out | apply below_alloc | apply pw_below_drewN | apply below_drew1) | exact HB.out)))); (case aL => have := LMc27.out; omega); intro v212 w32 ho hb hg hat; rw [← Ny211.out] at ho; have n0_ := Aside0.mk (hb); have n1_ := Aside0.mk (ho); clear HB; clear HO210; have HB := n0_; have HO213 := n1_; clear n0_ n1_; clear ho hb hg hat))
                  go_ret2
                  exact ⟨_, by first | rfl | (simp [errW_none, errW_some] <;> rfl) | (simp [*, errW_none, errW_some] <;> rfl), by (with_reducible repeat (first | apply Kd.R_alloc | apply Kd.R_drewN | apply Kd.R_drew)); exact HO213.out, by repeat (first | (with_reducible first | exact HB.out | apply below_alloc | apply pw_below_drewN | apply below_drew1) | exact HB.out)⟩
                · rw [if_neg c27] at H
                  exact absurd H (by simp)
              · rw [if_neg c26] at H
                exact absurd H (by simp)
            · rw [if_neg c25] at H
              exact absurd H (by simp)
          · rw [if_neg c22] at H
            have c22b0 : (((rd_T100 l0 t178).f0).toList == a1.toList) = true := beq_iff_eq.mpr (Decidable.not_not.mp c22)
            have c22b1 : (((rd_T100 l0 t178).f0).toList != a1.toList) = false := bne_eq_false_iff_eq.mpr (Decidable.not_not.mp c22)
            obtain ⟨ji33, hji33⟩ : ∃ j_ : Int, (wrap64 (t178 + 1)) = j_ := ⟨_, rfl⟩
            replace H : (if 0 ≤ (ji33) then (if (ji33) ≤ (l0.length : Int) then ((some (l0.drop ((ji33) : Int).toNat : List (S100))).bind fun y214 => ((some (l0.take (t178 : Int).toNat : List (S100))).bind fun y218 => (if ([] : List (S100)).length + y218.length < 4398046511104 then ((some (([] : List (S100)) ++ y218 : List (S100))).bind fun y222 => (if y222.length < 4398046511104 then ((some (y222 ++ [(⟨a1, a2⟩ : S100)] : List (S100))).bind fun y225 => (if y225.length + y214.length < 4398046511104 then (some ((y225 ++ y214), (((rd_T100 l0 t178).f0).toList != a1.toList))) else (none))) else (none))) else (none)))) else (none)) else (none)) = some (r1, r2) := by first | (rw [hji33] at H; exact H) | (simp only [hji33] at H ⊢; exact H)
            (try rw [hji33] at A4)
            have hji33w : (IntKind.i64.wrap (t178 + 1)) = ji33 := (i64_w _).trans hji33
            by_cases c34 : 0 ≤ (ji33)
            · rw [if_pos c34] at H
              have c34b0 := eq_true c34
              have c34b1 : decide (0 ≤ (ji33)) = true := decide_eq_true c34
              clear c34
              by_cases c35 : (ji33) ≤ (l0.length : Int)
              · rw [if_pos c35] at H
                have c35b0 := eq_true c35
                have c35b1 : decide ((ji33) ≤ (l0.length : Int)) = true := decide_eq_true c35
                clear c35
                obtain ⟨y214, hy214⟩ : ∃ y_ : List (S100), y_ = (l0.drop ((ji33) : Int).toNat) := ⟨_, rfl⟩
                replace H : ((some (l0.take (t178 : Int).toNat : List (S100))).bind fun y218 => (if ([] : List (S100)).length + y218.length < 4398046511104 then ((some (([] : List (S100)) ++ y218 : List (S100))).bind fun y222 => (if y222.length < 4398046511104 then ((some (y222 ++ [(⟨a1, a2⟩ : S100)] : List (S100))).bind fun y225 => (if y225.length + y214.length < 4398046511104 then (some ((y225 ++ y214), (((rd_T100 l0 t178).f0).toList != a1.toList))) else (none))) else (none))) else (none))) = some (r1, r2) := by first | (rw [hy214]; with_reducible exact H) | (have H2_ := (Option.bind_some _ _).symm.trans H; rw [hy214]; with_reducible exact H2_) | (have H2_ := (Option.bind_some _ _).symm.trans H; with_reducible exact H2_) | with_reducible exact H | (rw [hy214]; exact H) | exact H
                have Ny214 := Aside0.mk hy214
                clear hy214
                have c36b0 := eq_true (of_decide_eq_true (by first | (with_reducible assumption) | assumption) : 0 ≤ t178)
                have c37b0 := eq_true (of_decide_eq_true (by first | (with_reducible assumption) | assumption) : t178 ≤ (l0.length : Int))
                obtain ⟨y218, hy218⟩ : ∃ y_ : List (S100), y_ = (l0.take (t178 : Int).toNat) := ⟨_, rfl⟩
                replace H : (if ([] : List (S100)).length + y218.length < 4398046511104 then ((some (([] : List (S100)) ++ y218 : List (S100))).bind fun y222 => (if y222.length < 4398046511104 then ((some (y222 ++ [(⟨a1, a2⟩ : S100)] : List (S100))).bind fun y225 => (if y225.length + y214.length < 4398046511104 then (some ((y225 ++ y214), (((rd_T100 l0 t178).f0).toList != a1.toList))) else (none))) else (none))) else (none)) = some (r1, r2) := by first | (rw [hy218]; with_reducible exact H) | (have H2_ := (Option.bind_some _ _).symm.trans H; rw [hy218]; with_reducible exact H2_) | (have H2_ := (Option.bind_some _ _).symm.trans H; with_reducible exact H2_) | with_reducible exact H | (rw [hy218]; exact H) | exact H
                have Ny218 := Aside0.mk hy218
                clear hy218
                by_cases c38 : ([] : List (S100)).length + y218.length < 4398046511104
                · rw [if_pos c38] at H
                  have LMc38 := Aside0.mk c38
                  clear c38
                  obtain ⟨y222, hy222⟩ : ∃ y_ : List (S100), y_ = (([] : List (S100)) ++ y218) := ⟨_, rfl⟩
                  replace H : (if y222.length < 4398046511104 then ((some (y222 ++ [(⟨a1, a2⟩ : S100)] : List (S100))).bind fun y225 => (if y225.length + y214.length < 4398046511104 then (some ((y225 ++ y214), (((rd_T100 l0 t178).f0).toList != a1.toList))) else (none))) else (none)) = some (r1, r2) := by first | (rw [hy222]; with_reducible exact H) | (have H2_ := (Option.bind_some _ _).symm.trans H; rw [hy222]; with_reducible exact H2_) | (have H2_ := (Option.bind_some _ _).symm.trans H; with_reducible exact H2_) | with_reducible exact H | (rw [hy222]; exact H) | exact H
                  have Ny222 := Aside0.mk hy222
                  clear hy222
                  by_cases c39 : y222.length < 4398046511104
                  · rw [if_pos c39] at H
                    have LMc39 := Aside0.mk c39
                    clear c39
                    obtain ⟨y225, hy225⟩ : ∃ y_ : List (S100), y_ = (y222 ++ [(⟨a1, a2⟩ : S100)]) := ⟨_, rfl⟩
                    replace H : (if y225.length + y214.length < 4398046511104 then (some ((y225 ++ y214), (((rd_T100 l0 t178).f0).toList != a1.toList))) else (none)) = some (r1, r2) := by first | (rw [hy225]; with_reducible exact H) | (have H2_ := (Option.bind_some _ _).symm.trans H; rw [hy225]; with_reducible exact H2_) | (have H2_ := (Option.bind_some _ _).symm.trans H; with_reducible exact H2_) | with_reducible exact H | (rw [hy225]; exact H) | exact H
                    have Ny225 := Aside0.mk hy225
                    clear hy225
                    by_cases c40 : y225.length + y214.length < 4398046511104
                    · rw [if_pos c40] at H
                      have LMc40 := Aside0.mk c40
                      clear c40
                      obtain ⟨y228, hy228⟩ : ∃ y_ : List (S100), y_ = (y225 ++ y214) := ⟨_, rfl⟩
                      replace H : (some (y228, (((rd_T100 l0 t178).f0).toList != a1.toList))) = some (r1, r2) := by first | (rw [hy228]; with_reducible exact H) | (have H2_ := (Option.bind_some _ _).symm.trans H; rw [hy228]; with_reducible exact H2_) | (have H2_ := (Option.bind_some _ _).symm.trans H; with_reducible exact H2_) | with_reducible exact H | (rw [hy228]; exact H) | exact H
                      have Ny228 := Aside0.mk hy228
                      clear hy228
                      simp only [Option.some.injEq, Prod.mk.injEq] at H
                      obtain ⟨rfl, rfl⟩ := H
                      go_enter Tryd.func98, Tryd.ntmps98
                      go_wp2_with (first | ((with_reducible refine gate_callee (f := 96) rfl ?_); refine goesL_ (some 14) rfl rfl Tryd.func96 (by kernel_rfl) rfl #[.slice A0 l0.length c0, .string a1] rfl (by (try simp only [List.map_toArray, List.map_cons, List.map_nil]); first | done | rfl | (simp only [List.length_drop, List.length_take]; rfl)) ?_; (with_reducible refine (footbridgeref09_at.calls k _ _ l0 a1 t178 _ ?side1 ?side2 A4.out).mono ?_); (case side1 => repeat (first | exact HR0.out | (with_reducible refine Kd.C_alloc ?_ _) | (with_reducible refine Kd.C_drewN ?_ _) | (with_reducible refine Kd.C_drew ?_))); (case side2 => exact HC0.out); rintro e w' ⟨rfl, ⟨nd, rfl⟩⟩; refine ⟨_, rfl, ?_⟩; have p196 : 0 ≤ (t178 : Int) := of_decide_eq_true (by first | (with_reducible assumption) | assumption); have q196 : t178 < (l0.length : Int) := of_decide_eq_true (by first | (with_reducible assumption) | assumption); obtain ⟨ad196, e196, hx196_0, hx196_1⟩ := at_T100 HR0.out t178 p196 q196; cases e196; replace p196 := eq_true p196; replace q196 := eq_true q196; have q41 : (t178 : Int) ≤ ((l0.length : Int) : Int) := of_decide_eq_true (by first | (with_reducible assumption) | assumption); obtain ⟨i041, hi041, _, hsz41, _⟩ := info_parts info100; have hroom41 : l0.length ≤ c0 := HC0.out; have hC41 : Kd.C k100 _ (some ad196) l0.length l0 := HR0.out; have q041 : (0 : Int) ≤ (t178 : Int) := of_decide_eq_true (by first | (with_reducible assumption) | assumption); have hcut41 := cut_from (P := Tryd.prog) 35 100 .i64 Tryd.underlying35 hi041 2 hsz41 (some ad196) l0.length c0 t178 q041 q41; have hr41 := Kd.C_drop (m := (t178 : Int).toNat) (c := c0) hC41 (by omega) hroom41; obtain ⟨A41, hA41⟩ : ∃ A1, A1 = (if c0 = (t178 : Int).toNat then (some ad196) else ((some ad196) : Option Addr).map (·.add ((t178 : Int).toNat * 2))) := ⟨_, rfl⟩; obtain ⟨c41, hc41⟩ : ∃ c1, c1 = c0 - (t178 : Int).toNat := ⟨_, rfl⟩; have hy41 : y197.length = l0.length - (t178 : Int).toNat := (by rw [Ny197.out, List.length_drop] <;> omega); rw [show (l0).drop (t178 : Int).toNat = y197 from Ny197.out.symm] at hr41; replace hr41 : Kd.C k100 _ A41 y197.length y197 := (by rw [hA41]; exact hr41); rw [← hy41, ← hA41, ← hc41] at hcut41; have HR200 := Aside0.mk hr41; have HC200 := Aside0.mk (show y197.length ≤ c41 from by rw [hy41, hc41]; exact Nat.sub_le_sub_right hroom41 _); clear hr41 hC41 hroom41 hi041 hsz41 hc41; have KY41 := Aside0.mk hy41; have KA41 := Aside0.mk hA41; clear hy41 hA41; replace q41 := eq_true q41; have q42 : ((ji33) : Int) ≤ ((l0.length : Int) : Int) := of_decide_eq_true (by first | (with_reducible assumption) | assumption); obtain ⟨i042, hi042, _, hsz42, _⟩ := info_parts info100; have hroom42 : l0.length ≤ c0 := HC0.out; have hC42 : Kd.C k100 _ (some ad196) l0.length l0 := HR0.out; have q042 : (0 : Int) ≤ ((ji33) : Int) := of_decide_eq_true (by first | (with_reducible assumption) | assumption); have hcut42 := cut_from (P := Tryd.prog) 35 100 .i64 Tryd.underlying35 hi042 2 hsz42 (some ad196) l0.length c0 (ji33) q042 q42; have hr42 := Kd.C_drop (m := ((ji33) : Int).toNat) (c := c0) hC42 (by omega) hroom42; obtain ⟨A42, hA42⟩ : ∃ A1, A1 = (if c0 = ((ji33) : Int).toNat then (some ad196) else ((some ad196) : Option Addr).map (·.add (((ji33) : Int).toNat * 2))) := ⟨_, rfl⟩; obtain ⟨c42, hc42⟩ : ∃ c1, c1 = c0 - ((ji33) : Int).toNat := ⟨_, rfl⟩; have hy42 : y214.length = l0.length - ((ji33) : Int).toNat := (by rw [Ny214.out, List.length_drop] <;> omega); rw [show (l0).drop ((ji33) : Int).toNat = y214 from Ny214.out.symm] at hr42; replace hr42 : Kd.C k100 _ A42 y214.length y214 := (by rw [hA42]; exact hr42); rw [← hy42, ← hA42, ← hc42] at hcut42; have HR217 := Aside0.mk hr42; have HC217 := Aside0.mk (show y214.length ≤ c42 from by rw [hy42, hc42]; exact Nat.sub_le_sub_right hroom42 _); clear hr42 hC42 hroom42 hi042 hsz42 hc42; have KY42 := Aside0.mk hy42; have KA42 := Aside0.mk hA42; clear hy42 hA42; replace q42 := eq_true q42; have q43 : (t178 : Int) ≤ ((l0.length : Int) : Int) := of_decide_eq_true (by first | (with_reducible assumption) | assumption); obtain ⟨i043, hi043, _, hsz43, _⟩ := info_parts info100; have hroom43 : l0.length ≤ c0 := HC0.out; have hC43 : Kd.C k100 _ (some ad196) l0.length l0 := HR0.out; have hcut43 := cut_to (P := Tryd.prog) 35 100 .i64 Tryd.underlying35 hi043 (some ad196) l0.length c0 t178 (of_decide_eq_true (by first | (with_reducible assumption) | assumption)) q43 hroom43; have hr43 := Kd.C_take (m := (t178 : Int).toNat) hC43 (by omega); have hy43 : y218.length = (t178 : Int).toNat := (by rw [Ny218.out, List.length_take]; omega); rw [← Ny218.out] at hr43; rw [← hy43] at hcut43; have HR221 := Aside0.mk hr43; have HC221 := Aside0.mk (show y218.length ≤ c0 from by omega); clear hr43 hC43 hroom43 hi043 hsz43; have KY43 := Aside0.mk hy43; clear hy43; replace q43 := eq_true q43) | ((with_reducible refine gate_builtin (b := .append) (xs := #[.tmp 37, .tmp 40]) rfl ?_); at_builtin; refine Kd.R_append_rows k100 (w0 := w) w.heap.size rfl (.tmp 37) (.tmp 40) 35 100 (.agg #[(.string ⟨#[]⟩), (.string ⟨#[]⟩)]) 32 rfl Tryd.underlying35 info100 rfl (by decide) (by omega) (.slice none 0 0) ([] : List (S100)) y218 _ _ _ (fun _ => True) (fun _ => False) rfl rfl ?aO ?aR (fun _ _ h => h) (fun _ h => h.elim) ?aF ?aB ?aS ?aL ?_; (case aR => repeat (first | exact HR221.out | (with_reducible refine Kd.C_alloc ?_ _) | (with_reducible refine Kd.C_drewN ?_ _) | (with_reducible refine Kd.C_drew ?_))); (case aB => exact (by repeat (first | (with_reducible first | exact HB.out | apply below_alloc | apply pw_below_drewN | apply below_drew1) | exact HB.out))); (case aF => exact (fun _ _ => trivial)); (case aO => exact ((Kd.R_nil _ _ _ _ (fun _ => True)))); (case aS => exact (below_size (by repeat (first | (with_reducible first | exact HB.out | apply below_alloc | apply pw_below_drewN | apply below_drew1) | exact HB.out)))); (case aL => have := LMc38.out; omega); intro v223 w44 ho hb hg hat; rw [← Ny222.out] at ho; have n0_ := Aside0.mk (hb); have n1_ := Aside0.mk (ho); clear HB; have HB := n0_; have HO224 := n1_; clear n0_ n1_; clear ho hb hg hat) | ((with_reducible refine gate_builtin (b := .append) (xs := #[.tmp 42, .tmp 46]) rfl ?_); at_builtin; refine Kd.R_append k100 (w0 := w) w.heap.size rfl (.tmp 42) (.tmp 46) 35 100 (.agg #[(.string ⟨#[]⟩), (.string ⟨#[]⟩)]) 32 rfl Tryd.underlying35 info100 rfl (by decide) (by omega) v223 y222 (⟨a1, a2⟩ : S100) [.string a1, .string a2] (fun _ => True) (fun _ => False) rfl rfl ?aP (fun _ hk => hk.elim) ?aF ?aO ?aB ?aS ?aL ?_; (case aP => exact k100_mkM _ _ _ (⟨a1, a2⟩ : S100)); (case aB => exact (by repeat (first | (with_reducible first | exact HB.out | apply below_alloc | apply pw_below_drewN | apply below_drew1) | exact HB.out))); (case aF => exact (fun _ _ => trivial)); (case aO => exact (by (with_reducible repeat (first | apply Kd.R_alloc | apply Kd.R_drewN | apply Kd.R_drew)); exact HO224.out)); (case aS => exact (below_size (by repeat (first | (with_reducible first | exact HB.out | apply below_alloc | apply pw_below_drewN | apply below_drew1) | exact HB.out)))); (case aL => have := LMc39.out; omega); intro v226 w45 ho hb hg hat; rw [← Ny225.out] at ho; have n0_ := Aside0.mk (hb); have n1_ := Aside0.mk (ho); clear HB; clear HO224; have HB := n0_; have HO227 := n1_; clear n0_ n1_; clear ho hb hg hat) | ((with_reducible refine gate_builtin (b := .append) (xs := #[.tmp 48, .tmp 49]) rfl ?_); at_builtin; refine Kd.R_append_rows k100 (w0 := w) w.heap.size rfl (.tmp 48) (.tmp 49) 35 100 (.agg #[(.string ⟨#[]⟩), (.string ⟨#[]⟩)]) 32 rfl Tryd.underlying35 info100 rfl (by decide) (by omega) v226 y225 y214 _ _ _ (fun _ => True) (fun _ => False) rfl rfl ?aO ?aR (fun _ _ h => h) (fun _ h => h.elim) ?aF ?aB ?aS ?aL ?_; (case aR => repeat (first | exact (Kd.C_below HR217.out HB.out) | (with_reducible refine Kd.C_alloc ?_ _) | (with_reducible refine Kd.C_drewN ?_ _) | (with_reducible refine Kd.C_drew ?_))); (case aB => exact (by repeat (first | (with_reducible first | exact HB.out | apply below_alloc | apply pw_below_drewN | apply below_drew1) | exact HB.out))); (case aF => exact (fun _ _ => trivial)); (case aO => exact (by (with_reducible repeat (first | apply Kd.R_alloc | apply Kd.R_drewN | apply Kd.R_drew)); exact HO227.out)); (case aS => exact (below_size (by repeat (first | (with_reducible first | exact HB.out | apply below_alloc | apply pw_below_drewN | apply below_drew1) | exact HB.out)))); (case aL => have := LMc40.out; omega); intro v229 w46 ho hb hg hat; rw [← Ny228.out] at ho; have n0_ := Aside0.mk (hb); have n1_ := Aside0.mk (ho); clear HB; clear HO227; have HB := n0_; have HO230 := n1_; clear n0_ n1_; clear ho hb hg hat))
                      go_ret2
                      exact ⟨_, by first | rfl | (simp [errW_none, errW_some] <;> rfl) | (simp only [← hji33]; first | rfl | (simp [errW_none, errW_some] <;> rfl)) | (simp [*, errW_none, errW_some] <;> rfl), by (with_reducible repeat (first | apply Kd.R_alloc | apply Kd.R_drewN | apply Kd.R_drew)); exact HO230.out, by repeat (first | (with_reducible first | exact HB.out | apply below_alloc | apply pw_below_drewN | apply below_drew1) | exact HB.out)⟩
                    · rw [if_neg c40] at H
                      exact absurd H (by simp)
                  · rw [if_neg c39] at H
                    exact absurd H (by simp)
                · rw [if_neg c38] at H
                  exact absurd H (by simp)
              · rw [if_neg c35] at H
                exact absurd H (by simp)
            · rw [if_neg c34] at H
              exact absurd H (by simp)
        · rw [if_neg c21] at H
          exact absurd H (by simp)
      · rw [if_neg c19] at H
        exact absurd H (by simp)
    · rw [if_neg c18] at H
      exact absurd H (by simp)

end Go.Proofs.YtcbaojkfffodiaaDoor.PCla
