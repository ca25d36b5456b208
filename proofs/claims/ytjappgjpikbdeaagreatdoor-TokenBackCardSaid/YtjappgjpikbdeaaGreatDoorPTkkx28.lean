-- written by wip/myprint.py over the kit's print; not a printed text of print.sh
import Derived.Test.YtjappgjpikbdeaaGreatDoorPTkkx0
import Derived.Test.YtjappgjpikbdeaaGreatDoorPTkkx26
import Derived.Test.YtjappgjpikbdeaaGreatDoorPTkkx27
namespace Go.Proofs.YtjappgjpikbdeaaGreatDoor.PTkk
open Go.RowKit Go.Proofs.YtjappgjpikbdeaaGreatDoorW.PrintWords Go.Proofs.YtjappgjpikbdeaaGreatDoorW.PrintLast Go.Proofs.YtjappgjpikbdeaaGreatDoorW.PrintMore
attribute [local go_sem] max2_int min2_int max_two min_two max_three min_three max_four min_four   -- for this text's walks alone
set_option linter.unusedVariables false
set_option linter.unusedSimpArgs false

/-! ### footbridgeref14_Key: function 47 -/
def footbridgeref14_Key.f (k : Nat) (l0 : List ByteArray) : Option (ByteArray) := if 0 < (l0.length : Int) then (if 1 ≤ (l0.length : Int) then ((footbridgeref08_Join.f k (rdOf ByteArray.empty l0 0) (l0.drop 1)).bind fun t200 => (some t200)) else (none)) else (none)
theorem footbridgeref14_Key.mono : ∀ a0 k, LeO (footbridgeref14_Key.f k a0) (footbridgeref14_Key.f (k + 1) a0) := by
  intro a0 k
  unfold footbridgeref14_Key.f
  repeat' first
      | (with_reducible exact footbridgeref08_Join.mono _ _ _)
      | (with_reducible exact LeO.refl _)
      | (with_reducible exact LeO.none _)
      | (with_reducible refine LeO.ite ?_ ?_)
      | (with_reducible refine LeO.bind ?_ (fun _ => ?_))
      | exact footbridgeref08_Join.mono _ _ _
      | exact LeO.none _
      | refine LeO.ite ?_ ?_
      | refine LeO.bind ?_ (fun _ => ?_)
set_option maxHeartbeats 8000000 in
set_option maxRecDepth 100000 in
theorem footbridgeref14_Key.calls (k : Nat) (A0 : Option Addr) (c0 : Nat) (l0 : List ByteArray) (r : ByteArray) (w : World) (hr0 : Kd.C Kd.string w A0 l0.length l0) (hc0 : l0.length ≤ c0) (h : footbridgeref14_Key.f k l0 = some r) :
    Calls Tryz.prog 47 #[.slice A0 l0.length c0] w fun e w' => e = .returned (.string r) ∧ Below w.heap.size w w' := by
  have HR0 := Aside0.mk hr0
  have HC0 := Aside0.mk hc0
  clear hr0 hc0
  have HB := Aside0.mk (Below.refl w.heap.size w)
  have H : (if 0 < (l0.length : Int) then (if 1 ≤ (l0.length : Int) then ((footbridgeref08_Join.f k (rdOf ByteArray.empty l0 0) (l0.drop 1)).bind fun t200 => (some t200)) else (none)) else (none)) = some r := h
  clear h
  by_cases c2 : 0 < (l0.length : Int)
  · rw [if_pos c2] at H
    have c2b0 : decide (0 < (l0.length : Int)) = true := decide_eq_true c2
    have c2b1 : decide (0 < l0.length) = true := decide_eq_true (by omega)
    clear c2
    by_cases c3 : 1 ≤ (l0.length : Int)
    · rw [if_pos c3] at H
      have c3b0 := eq_true c3
      have c3b1 : decide (1 ≤ (l0.length : Int)) = true := decide_eq_true c3
      clear c3
      replace H := Option.bind_eq_some_iff.mp H
      obtain ⟨t200, A40, H⟩ := H
      replace H : (some t200) = some r := H
      have A4 := Aside0.mk A40
      clear A40
      obtain rfl := Option.some.inj H
      go_enter Tryz.func47, Tryz.ntmps47
      try go_wp2
      have n0_ := Aside0.mk (below_drew1 HB.out)
      clear HB
      have HB := n0_
      clear n0_
      have p198 : 0 ≤ (0 : Int) := (by omega)
      have q198 : 0 < (l0.length : Int) := of_decide_eq_true (by first | (with_reducible assumption) | assumption)
      obtain ⟨ad198, e198, hx198_0⟩ := Kd.at_string HR0.out 0 p198 q198
      have hw198_0 := hx198_0
      (try rw [show ((0 : Int)).toNat = 0 from rfl] at hw198_0)
      (try rw [show 0 * 1 = 0 from rfl] at hw198_0)
      (try rw [Addr.add_zero'] at hw198_0)
      cases e198
      have qi198 : (0 < l0.length) = True := eq_true (by omega)
      (try rw [show ((0 : Int)).toNat = 0 from rfl] at hx198_0)
      (try rw [Addr.add_zero'] at hx198_0)
      replace hx198_0 := (HB.out.cell (World.block_lt_of_cell? w _ hx198_0)).trans hx198_0
      replace p198 := eq_true p198
      replace q198 := eq_true q198
      obtain ⟨i06, hi06, _, hsz6, _⟩ := info_parts info9
      obtain ⟨A6, hcut6, hA6, hC6⟩ := print_drop_of (P := Tryz.prog) Value.string (⟨#[]⟩ : ByteArray) 32 9 .i64 Tryz.underlying32 hi06 hsz6 (some ad198) c0 l0 1 (by omega) (of_decide_eq_true (by first | (with_reducible assumption) | assumption)) HC0.out
      have HR199 := Aside0.mk (Kd.C_of_reads (h1 := fun _ => rfl) (hA6 _ (Kd.reads_of_C HR0.out)))
      have HC199 := Aside0.mk hC6
      clear hA6 hC6 hi06 hsz6
      refine start_ (n := 7) (S := fun w' => w'.cell? ad198 = some (.string (rdOf ByteArray.empty l0 0))) (ds := []) #[false, false, false, false, false, false, false] (by kernel_rfl) rfl rfl (((HB.out.cell (World.block_lt_of_cell? w _ hw198_0)).trans hw198_0)) (fun hHeld => ?_)
      generalize w.drew = w5 at HB HR199 hx198_0 hHeld ⊢
      refine pure_ (i := 0) (N := some 3) (v := ?_) (a' := ?_) #[true, false, false, false, false, false, false] rfl rfl (by kernel_rfl) (fun _ _ _ h => h) (Or.inl ⟨by rfl, ?_⟩) ?_ ?_
      rotate_left
      · intro w'
        go_simp
        with_reducible rfl
      rotate_left
      · simp only [Act.put, List.setIfInBounds_toArray, List.set_cons_zero, List.set_cons_succ, i64_w, i32_w]
        rfl
      refine pure_ (i := 1) (N := some 4) (v := ?_) (a' := ?_) #[true, true, false, false, false, false, false] rfl rfl (by kernel_rfl) (fun _ _ _ h => h) (Or.inl ⟨by rfl, ?_⟩) ?_ ?_
      rotate_left
      · intro w'
        go_simp
        with_reducible rfl
      rotate_left
      · simp only [Act.put, List.setIfInBounds_toArray, List.set_cons_zero, List.set_cons_succ, i64_w, i32_w]
        rfl
      refine pure_ (i := 3) (N := some 6) (v := ?_) (a' := ?_) #[true, true, false, true, false, false, false] rfl rfl (by kernel_rfl) (fun _ _ _ h => h) (Or.inl ⟨by rfl, ?_⟩) ?_ ?_
      rotate_left
      · intro w'
        go_simp
        with_reducible rfl
      rotate_left
      · simp only [Act.put, List.setIfInBounds_toArray, List.set_cons_zero, List.set_cons_succ, i64_w, i32_w]
        rfl
      refine pure_ (i := 4) (N := some 7) (v := ?_) (a' := ?_) #[true, true, false, true, true, false, false] rfl rfl (by kernel_rfl) (fun _ _ _ h => h) (Or.inl ⟨by rfl, ?_⟩) ?_ ?_
      rotate_left
      · intro w'
        go_simp
        with_reducible rfl
      rotate_left
      · simp only [Act.put, List.setIfInBounds_toArray, List.set_cons_zero, List.set_cons_succ, i64_w, i32_w]
        rfl
      refine take_ (i := 2) (N := some 5) (v := ?_) (a' := ?_) #[true, true, true, true, true, false, false] rfl rfl (by kernel_rfl) (fun _ _ _ h => h) (Or.inl ⟨by rfl, ?_⟩) hHeld ?_ ?_
      rotate_left
      · intro w' s0
        go_simp
        with_reducible rfl
      rotate_left
      · simp only [Act.put, List.setIfInBounds_toArray, List.set_cons_zero, List.set_cons_succ, i64_w, i32_w]
        rfl
      refine one_ (i := 5) (N := some 8) #[true, true, true, true, true, true, false] rfl rfl (by kernel_rfl) (by decide) (fun K hK => ?_)
      refine goes_ Tryz.func78 (by kernel_rfl) rfl #[.string (rdOf ByteArray.empty l0 0), .slice A6 (l0.drop 1).length (c0 - 1)] (by rfl) rfl rfl (by (try simp only [List.map_toArray, List.map_cons, List.map_nil]); first | done | (rw [show (l0.drop 1).length = (l0.length - 1) from List.length_drop] <;> rfl) | rfl | (simp only [List.length_drop, List.length_take]; rfl)) ?_
      with_reducible refine (footbridgeref08_Join.calls k (rdOf ByteArray.empty l0 0) _ _ (l0.drop 1) t200 _ ?side1 ?side2 A4.out).mono ?_
      (case side1 => repeat (first | exact (Kd.C_below HR199.out HB.out) | (with_reducible refine Kd.C_alloc ?_ _) | (with_reducible refine Kd.C_drewN ?_ _) | (with_reducible refine Kd.C_drew ?_)))
      (case side2 => exact HC199.out)
      rintro e w7 ⟨rfl, hb⟩
      refine ⟨_, rfl, ?_⟩
      have n0_ := Aside0.mk (below_step (by repeat (first | (with_reducible first | exact HB.out | apply below_alloc | apply pw_below_drewN | apply below_drew1) | exact HB.out)) hb)
      clear HB
      have HB := n0_
      clear n0_
      (try clear hb)
      (try clear hb2)
      (try clear hk)
      (try clear hi)
      refine hK.out _ _ (((HB.out.cell (World.block_lt_of_cell? w _ hw198_0)).trans hw198_0)) (fun hHeld => ?_)
      clear hK K
      refine norm_ (a' := ?_) ?_ ?_
      rotate_left
      · show Act.put _ (some 8) _ = _
        simp only [Act.put, List.setIfInBounds_toArray, List.set_cons_zero, List.set_cons_succ, i64_w, i32_w]
        rfl
      refine pure_ (i := 6) (N := some 2) (v := ?_) (a' := ?_) #[true, true, true, true, true, true, true] rfl rfl (by kernel_rfl) (fun _ _ _ h => h) (Or.inl ⟨by rfl, ?_⟩) ?_ ?_
      rotate_left
      · intro w'
        go_simp
        with_reducible rfl
      rotate_left
      · simp only [Act.put, List.setIfInBounds_toArray, List.set_cons_zero, List.set_cons_succ, i64_w, i32_w]
        rfl
      refine done_ (by kernel_rfl) ?_
      try go_wp2
      go_ret
      exact ⟨by first | rfl | (simp [errW_none, errW_some] <;> rfl) | (simp [*, errW_none, errW_some] <;> rfl), by repeat (first | (with_reducible first | exact HB.out | apply below_alloc | apply pw_below_drewN | apply below_drew1) | exact HB.out)⟩
    · rw [if_neg c3] at H
      exact absurd H (by simp)
  · rw [if_neg c2] at H
    exact absurd H (by simp)

/-! ### footbridgeref22_key: function 66 -/
def footbridgeref22_key.f (k : Nat) (a0 : ByteArray) : Option (ByteArray) := (footbridgeref14_Key.f k (([(⟨#[99, 108, 97, 115, 115]⟩ : ByteArray), a0] : List ByteArray))).bind fun t204 => (some t204)
theorem footbridgeref22_key.mono : ∀ a0 k, LeO (footbridgeref22_key.f k a0) (footbridgeref22_key.f (k + 1) a0) := by
  intro a0 k
  unfold footbridgeref22_key.f
  repeat' first
      | (with_reducible exact footbridgeref14_Key.mono _ _)
      | (with_reducible exact LeO.refl _)
      | (with_reducible exact LeO.none _)
      | (with_reducible refine LeO.ite ?_ ?_)
      | (with_reducible refine LeO.bind ?_ (fun _ => ?_))
      | exact footbridgeref14_Key.mono _ _
      | exact LeO.none _
      | refine LeO.ite ?_ ?_
      | refine LeO.bind ?_ (fun _ => ?_)
set_option maxHeartbeats 8000000 in
set_option maxRecDepth 100000 in
theorem footbridgeref22_key.calls (k : Nat) (a0 : ByteArray) (r : ByteArray) (w : World) (h : footbridgeref22_key.f k a0 = some r) :
    Calls Tryz.prog 66 #[.string a0] w fun e w' => e = .returned (.string r) ∧ Below w.heap.size w w' := by
  have HB := Aside0.mk (Below.refl w.heap.size w)
  have H : ((footbridgeref14_Key.f k (([(⟨#[99, 108, 97, 115, 115]⟩ : ByteArray), a0] : List ByteArray))).bind fun t204 => (some t204)) = some r := h
  clear h
  obtain ⟨y201, hy201⟩ : ∃ y_ : List ByteArray, y_ = (([(⟨#[99, 108, 97, 115, 115]⟩ : ByteArray), a0] : List ByteArray)) := ⟨_, rfl⟩
  replace H : ((footbridgeref14_Key.f k y201).bind fun t204 => (some t204)) = some r := by first | (rw [hy201]; with_reducible exact H) | (have H2_ := (Option.bind_some _ _).symm.trans H; rw [hy201]; with_reducible exact H2_) | (have H2_ := (Option.bind_some _ _).symm.trans H; with_reducible exact H2_) | with_reducible exact H | (rw [hy201]; exact H) | exact H
  have Ny201 := Aside0.mk hy201
  clear hy201
  replace H := Option.bind_eq_some_iff.mp H
  obtain ⟨t204, A20, H⟩ := H
  replace H : (some t204) = some r := H
  have A2 := Aside0.mk A20
  clear A20
  obtain rfl := Option.some.inj H
  go_enter Tryz.func66, Tryz.ntmps66
  go_wp2_with (first | ((with_reducible refine gate_dst (N := 4) rfl ?_); refine Kd.R_lit Kd.string _ 9 ?hg (N := 4) ?hd (xs := ([(⟨#[99, 108, 97, 115, 115]⟩ : ByteArray), a0] : List ByteArray)) (inner := [.string (⟨#[99, 108, 97, 115, 115]⟩ : ByteArray), .string a0]) (ok := fun _ => True) (okp := fun _ => True) ?hr ?hp (fun _ hk => hk) trivial (Below.refl _ _) (Nat.le_refl _) (by simp) ?_; (case hd => rfl); (case hg => rfl); (case hr => first | (go_simp; done) | (go_simp; rfl)); (case hp => exact (Reps.one (show Kd.M Kd.string _ _ _ (⟨#[99, 108, 97, 115, 115]⟩ : ByteArray) [.string (⟨#[99, 108, 97, 115, 115]⟩ : ByteArray)] from rfl) (Reps.one (show Kd.M Kd.string _ _ _ a0 [.string a0] from rfl) (Reps.none _ _)))); intro v202 w3 ho4 hb hg_ hnew_; clear hg_ hnew_; (first | rw [← Ny201.out] at ho4 | (simp only [Int.reduceToNat] at ho4; rw [← Ny201.out] at ho4)); have n0_ := Aside0.mk (Kd.R_lower ho4 (below_size (by repeat (first | (with_reducible first | exact HB.out | apply below_alloc | apply pw_below_drewN | apply below_drew1) | exact HB.out)))); have n1_ := Aside0.mk (below_step (by repeat (first | (with_reducible first | exact HB.out | apply below_alloc | apply pw_below_drewN | apply below_drew1) | exact HB.out)) hb); clear HB; have HO203 := n0_; have HB := n1_; clear n0_ n1_; clear hb ho4; obtain ⟨Ao5, co5, eo5⟩ := Kd.R_slice HO203.out; subst eo5) | ((with_reducible refine gate_callee (f := 47) rfl ?_); refine goesL_ (some 5) rfl rfl Tryz.func47 (by kernel_rfl) rfl #[.slice Ao5 y201.length co5] rfl (by (try simp only [List.map_toArray, List.map_cons, List.map_nil]); first | done | rfl | (simp only [List.length_drop, List.length_take]; rfl)) ?_; (with_reducible refine (footbridgeref14_Key.calls k _ _ y201 t204 _ ?side1 ?side2 A2.out).mono ?_); (case side1 => repeat (first | exact (Kd.R_reads' HO203.out).2.2 | (with_reducible refine Kd.C_alloc ?_ _) | (with_reducible refine Kd.C_drewN ?_ _) | (with_reducible refine Kd.C_drew ?_))); (case side2 => exact (Kd.R_reads' HO203.out).2.1); rintro e w6 ⟨rfl, hb⟩; refine ⟨_, rfl, ?_⟩; have n0_ := Aside0.mk (Kd.R_below (by (with_reducible repeat (first | apply Kd.R_alloc | apply Kd.R_drewN | apply Kd.R_drew)); exact HO203.out) hb); have n1_ := Aside0.mk (below_step (by repeat (first | (with_reducible first | exact HB.out | apply below_alloc | apply pw_below_drewN | apply below_drew1) | exact HB.out)) hb); clear HO203; clear HB; have HO203 := n0_; have HB := n1_; clear n0_ n1_; (try clear hb); (try clear hb2); (try clear hk); (try clear hi)))
  go_ret
  exact ⟨by first | rfl | (simp [errW_none, errW_some] <;> rfl) | (simp [*, errW_none, errW_some] <;> rfl), by repeat (first | (with_reducible first | exact HB.out | apply below_alloc | apply pw_below_drewN | apply below_drew1) | exact HB.out)⟩

/-! ### footbridgeref09_Set: function 88 -/
def footbridgeref09_Set.f (k : Nat) (l0 : List (S82)) (a1 : ByteArray) (a2 : ByteArray) : Option ((List (S82)) × Bool) := (footbridgeref09_at.f k l0 a1).bind fun t205 => (if t205 = (l0.length : Int) then (if 0 ≤ t205 then (if t205 ≤ (l0.length : Int) then ((some (l0.drop (t205 : Int).toNat : List (S82))).bind fun y206 => ((some (l0.take (t205 : Int).toNat : List (S82))).bind fun y210 => (if ([] : List (S82)).length + y210.length < 4398046511104 then ((some (([] : List (S82)) ++ y210 : List (S82))).bind fun y214 => (if y214.length < 4398046511104 then ((some (y214 ++ [(⟨a1, a2⟩ : S82)] : List (S82))).bind fun y217 => (if y217.length + y206.length < 4398046511104 then (some ((y217 ++ y206), true)) else (none))) else (none))) else (none)))) else (none)) else (none)) else (if 0 ≤ t205 then (if t205 < (l0.length : Int) then (if t205 ≤ (l0.length : Int) then ((some (l0.drop (t205 : Int).toNat : List (S82))).bind fun y224 => (if (¬ ((rd_T82 l0 t205).f0).toList = a1.toList) then ((some (l0.take (t205 : Int).toNat : List (S82))).bind fun y228 => (if ([] : List (S82)).length + y228.length < 4398046511104 then ((some (([] : List (S82)) ++ y228 : List (S82))).bind fun y232 => (if y232.length < 4398046511104 then ((some (y232 ++ [(⟨a1, a2⟩ : S82)] : List (S82))).bind fun y235 => (if y235.length + y224.length < 4398046511104 then (some ((y235 ++ y224), (((rd_T82 l0 t205).f0).toList != a1.toList))) else (none))) else (none))) else (none))) else (if 0 ≤ (wrap64 (t205 + 1)) then (if (wrap64 (t205 + 1)) ≤ (l0.length : Int) then ((some (l0.drop ((wrap64 (t205 + 1)) : Int).toNat : List (S82))).bind fun y241 => ((some (l0.take (t205 : Int).toNat : List (S82))).bind fun y245 => (if ([] : List (S82)).length + y245.length < 4398046511104 then ((some (([] : List (S82)) ++ y245 : List (S82))).bind fun y249 => (if y249.length < 4398046511104 then ((some (y249 ++ [(⟨a1, a2⟩ : S82)] : List (S82))).bind fun y252 => (if y252.length + y241.length < 4398046511104 then (some ((y252 ++ y241), (((rd_T82 l0 t205).f0).toList != a1.toList))) else (none))) else (none))) else (none)))) else (none)) else (none)))) else (none)) else (none)) else (none)))
theorem footbridgeref09_Set.mono : ∀ a0 a1 a2 k, LeO (footbridgeref09_Set.f k a0 a1 a2) (footbridgeref09_Set.f (k + 1) a0 a1 a2) := by
  intro a0 a1 a2 k
  unfold footbridgeref09_Set.f
  repeat' first
      | (with_reducible exact footbridgeref09_at.mono _ _ _)
      | (with_reducible exact LeO.refl _)
      | (with_reducible exact LeO.none _)
      | (with_reducible refine LeO.ite ?_ ?_)
      | (with_reducible refine LeO.bind ?_ (fun _ => ?_))
      | exact footbridgeref09_at.mono _ _ _
      | exact LeO.none _
      | refine LeO.ite ?_ ?_
      | refine LeO.bind ?_ (fun _ => ?_)
set_option maxHeartbeats 8000000 in
set_option maxRecDepth 100000 in
theorem footbridgeref09_Set.calls (k : Nat) (A0 : Option Addr) (c0 : Nat) (l0 : List (S82)) (a1 : ByteArray) (a2 : ByteArray) (r1 : List (S82)) (r2 : Bool) (w : World) (hr0 : Kd.C k82 w A0 l0.length l0) (hc0 : l0.length ≤ c0) (h : footbridgeref09_Set.f k l0 a1 a2 = some (r1, r2)) :
    Calls Tryz.prog 88 #[.slice A0 l0.length c0, .string a1, .string a2] w fun e w' => ∃ v0_ : Value, e = .returned (.tuple #[v0_, .bool r2]) ∧ Kd.R k82 82 w' w.heap.size (fun _ => True) v0_ r1 ∧ Below w.heap.size w w' := by
  have hu82 := Tryz.underlying82
  have HR0 := Aside0.mk hr0
  have HC0 := Aside0.mk hc0
  clear hr0 hc0
  have HB := Aside0.mk (Below.refl w.heap.size w)
  have H : ((footbridgeref09_at.f k l0 a1).bind fun t205 => (if t205 = (l0.length : Int) then (if 0 ≤ t205 then (if t205 ≤ (l0.length : Int) then ((some (l0.drop (t205 : Int).toNat : List (S82))).bind fun y206 => ((some (l0.take (t205 : Int).toNat : List (S82))).bind fun y210 => (if ([] : List (S82)).length + y210.length < 4398046511104 then ((some (([] : List (S82)) ++ y210 : List (S82))).bind fun y214 => (if y214.length < 4398046511104 then ((some (y214 ++ [(⟨a1, a2⟩ : S82)] : List (S82))).bind fun y217 => (if y217.length + y206.length < 4398046511104 then (some ((y217 ++ y206), true)) else (none))) else (none))) else (none)))) else (none)) else (none)) else (if 0 ≤ t205 then (if t205 < (l0.length : Int) then (if t205 ≤ (l0.length : Int) then ((some (l0.drop (t205 : Int).toNat : List (S82))).bind fun y224 => (if (¬ ((rd_T82 l0 t205).f0).toList = a1.toList) then ((some (l0.take (t205 : Int).toNat : List (S82))).bind fun y228 => (if ([] : List (S82)).length + y228.length < 4398046511104 then ((some (([] : List (S82)) ++ y228 : List (S82))).bind fun y232 => (if y232.length < 4398046511104 then ((some (y232 ++ [(⟨a1, a2⟩ : S82)] : List (S82))).bind fun y235 => (if y235.length + y224.length < 4398046511104 then (some ((y235 ++ y224), (((rd_T82 l0 t205).f0).toList != a1.toList))) else (none))) else (none))) else (none))) else (if 0 ≤ (wrap64 (t205 + 1)) then (if (wrap64 (t205 + 1)) ≤ (l0.length : Int) then ((some (l0.drop ((wrap64 (t205 + 1)) : Int).toNat : List (S82))).bind fun y241 => ((some (l0.take (t205 : Int).toNat : List (S82))).bind fun y245 => (if ([] : List (S82)).length + y245.length < 4398046511104 then ((some (([] : List (S82)) ++ y245 : List (S82))).bind fun y249 => (if y249.length < 4398046511104 then ((some (y249 ++ [(⟨a1, a2⟩ : S82)] : List (S82))).bind fun y252 => (if y252.length + y241.length < 4398046511104 then (some ((y252 ++ y241), (((rd_T82 l0 t205).f0).toList != a1.toList))) else (none))) else (none))) else (none)))) else (none)) else (none)))) else (none)) else (none)) else (none)))) = some (r1, r2) := h
  clear h
  replace H := Option.bind_eq_some_iff.mp H
  obtain ⟨t205, A40, H⟩ := H
  replace H : (if t205 = (l0.length : Int) then (if 0 ≤ t205 then (if t205 ≤ (l0.length : Int) then ((some (l0.drop (t205 : Int).toNat : List (S82))).bind fun y206 => ((some (l0.take (t205 : Int).toNat : List (S82))).bind fun y210 => (if ([] : List (S82)).length + y210.length < 4398046511104 then ((some (([] : List (S82)) ++ y210 : List (S82))).bind fun y214 => (if y214.length < 4398046511104 then ((some (y214 ++ [(⟨a1, a2⟩ : S82)] : List (S82))).bind fun y217 => (if y217.length + y206.length < 4398046511104 then (some ((y217 ++ y206), true)) else (none))) else (none))) else (none)))) else (none)) else (none)) else (if 0 ≤ t205 then (if t205 < (l0.length : Int) then (if t205 ≤ (l0.length : Int) then ((some (l0.drop (t205 : Int).toNat : List (S82))).bind fun y224 => (if (¬ ((rd_T82 l0 t205).f0).toList = a1.toList) then ((some (l0.take (t205 : Int).toNat : List (S82))).bind fun y228 => (if ([] : List (S82)).length + y228.length < 4398046511104 then ((some (([] : List (S82)) ++ y228 : List (S82))).bind fun y232 => (if y232.length < 4398046511104 then ((some (y232 ++ [(⟨a1, a2⟩ : S82)] : List (S82))).bind fun y235 => (if y235.length + y224.length < 4398046511104 then (some ((y235 ++ y224), (((rd_T82 l0 t205).f0).toList != a1.toList))) else (none))) else (none))) else (none))) else (if 0 ≤ (wrap64 (t205 + 1)) then (if (wrap64 (t205 + 1)) ≤ (l0.length : Int) then ((some (l0.drop ((wrap64 (t205 + 1)) : Int).toNat : List (S82))).bind fun y241 => ((some (l0.take (t205 : Int).toNat : List (S82))).bind fun y245 => (if ([] : List (S82)).length + y245.length < 4398046511104 then ((some (([] : List (S82)) ++ y245 : List (S82))).bind fun y249 => (if y249.length < 4398046511104 then ((some (y249 ++ [(⟨a1, a2⟩ : S82)] : List (S82))).bind fun y252 => (if y252.length + y241.length < 4398046511104 then (some ((y252 ++ y241), (((rd_T82 l0 t205).f0).toList != a1.toList))) else (none))) else (none))) else (none)))) else (none)) else (none)))) else (none)) else (none)) else (none))) = some (r1, r2) := H
  have A4 := Aside0.mk A40
  clear A40
  by_cases c5 : t205 = (l0.length : Int)
  · rw [if_pos c5] at H
    have c5b0 : (t205 == (l0.length : Int)) = true := beq_iff_eq.mpr c5
    have c5b1 : (t205 != (l0.length : Int)) = false := bne_eq_false_iff_eq.mpr c5
    clear c5
    by_cases c6 : 0 ≤ t205
    · rw [if_pos c6] at H
      have c6b0 := eq_true c6
      have c6b1 : decide (0 ≤ t205) = true := decide_eq_true c6
      clear c6
      by_cases c7 : t205 ≤ (l0.length : Int)
      · rw [if_pos c7] at H
        have c7b0 := eq_true c7
        have c7b1 : decide (t205 ≤ (l0.length : Int)) = true := decide_eq_true c7
        clear c7
        obtain ⟨y206, hy206⟩ : ∃ y_ : List (S82), y_ = (l0.drop (t205 : Int).toNat) := ⟨_, rfl⟩
        replace H : ((some (l0.take (t205 : Int).toNat : List (S82))).bind fun y210 => (if ([] : List (S82)).length + y210.length < 4398046511104 then ((some (([] : List (S82)) ++ y210 : List (S82))).bind fun y214 => (if y214.length < 4398046511104 then ((some (y214 ++ [(⟨a1, a2⟩ : S82)] : List (S82))).bind fun y217 => (if y217.length + y206.length < 4398046511104 then (some ((y217 ++ y206), true)) else (none))) else (none))) else (none))) = some (r1, r2) := by first | (rw [hy206]; with_reducible exact H) | (have H2_ := (Option.bind_some _ _).symm.trans H; rw [hy206]; with_reducible exact H2_) | (have H2_ := (Option.bind_some _ _).symm.trans H; with_reducible exact H2_) | with_reducible exact H | (rw [hy206]; exact H) | exact H
        have Ny206 := Aside0.mk hy206
        clear hy206
        have c8b0 := eq_true (of_decide_eq_true (by first | (with_reducible assumption) | assumption) : 0 ≤ t205)
        have c9b0 := eq_true (of_decide_eq_true (by first | (with_reducible assumption) | assumption) : t205 ≤ (l0.length : Int))
        obtain ⟨y210, hy210⟩ : ∃ y_ : List (S82), y_ = (l0.take (t205 : Int).toNat) := ⟨_, rfl⟩
        replace H : (if ([] : List (S82)).length + y210.length < 4398046511104 then ((some (([] : List (S82)) ++ y210 : List (S82))).bind fun y214 => (if y214.length < 4398046511104 then ((some (y214 ++ [(⟨a1, a2⟩ : S82)] : List (S82))).bind fun y217 => (if y217.length + y206.length < 4398046511104 then (some ((y217 ++ y206), true)) else (none))) else (none))) else (none)) = some (r1, r2) := by first | (rw [hy210]; with_reducible exact H) | (have H2_ := (Option.bind_some _ _).symm.trans H; rw [hy210]; with_reducible exact H2_) | (have H2_ := (Option.bind_some _ _).symm.trans H; with_reducible exact H2_) | with_reducible exact H | (rw [hy210]; exact H) | exact H
        have Ny210 := Aside0.mk hy210
        clear hy210
        by_cases c10 : ([] : List (S82)).length + y210.length < 4398046511104
        · rw [if_pos c10] at H
          have LMc10 := Aside0.mk c10
          clear c10
          obtain ⟨y214, hy214⟩ : ∃ y_ : List (S82), y_ = (([] : List (S82)) ++ y210) := ⟨_, rfl⟩
          replace H : (if y214.length < 4398046511104 then ((some (y214 ++ [(⟨a1, a2⟩ : S82)] : List (S82))).bind fun y217 => (if y217.length + y206.length < 4398046511104 then (some ((y217 ++ y206), true)) else (none))) else (none)) = some (r1, r2) := by first | (rw [hy214]; with_reducible exact H) | (have H2_ := (Option.bind_some _ _).symm.trans H; rw [hy214]; with_reducible exact H2_) | (have H2_ := (Option.bind_some _ _).symm.trans H; with_reducible exact H2_) | with_reducible exact H | (rw [hy214]; exact H) | exact H
          have Ny214 := Aside0.mk hy214
          clear hy214
          by_cases c11 : y214.length < 4398046511104
          · rw [if_pos c11] at H
            have LMc11 := Aside0.mk c11
            clear c11
            obtain ⟨y217, hy217⟩ : ∃ y_ : List (S82), y_ = (y214 ++ [(⟨a1, a2⟩ : S82)]) := ⟨_, rfl⟩
            replace H : (if y217.length + y206.length < 4398046511104 then (some ((y217 ++ y206), true)) else (none)) = some (r1, r2) := by first | (rw [hy217]; with_reducible exact H) | (have H2_ := (Option.bind_some _ _).symm.trans H; rw [hy217]; with_reducible exact H2_) | (have H2_ := (Option.bind_some _ _).symm.trans H; with_reducible exact H2_) | with_reducible exact H | (rw [hy217]; exact H) | exact H
            have Ny217 := Aside0.mk hy217
            clear hy217
            by_cases c12 : y217.length + y206.length < 4398046511104
            · rw [if_pos c12] at H
              have LMc12 := Aside0.mk c12
              clear c12
              obtain ⟨y220, hy220⟩ : ∃ y_ : List (S82), y_ = (y217 ++ y206) := ⟨_, rfl⟩
              replace H : (some (y220, true)) = some (r1, r2) := by first | (rw [hy220]; with_reducible exact H) | (have H2_ := (Option.bind_some _ _).symm.trans H; rw [hy220]; with_reducible exact H2_) | (have H2_ := (Option.bind_some _ _).symm.trans H; with_reducible exact H2_) | with_reducible exact H | (rw [hy220]; exact H) | exact H
              have Ny220 := Aside0.mk hy220
              clear hy220
              simp only [Option.some.injEq, Prod.mk.injEq] at H
              obtain ⟨rfl, rfl⟩ := H
              go_enter Tryz.func88, Tryz.ntmps88
              go_wp2_with (first | ((with_reducible refine gate_callee (f := 74) rfl ?_); refine goesL_ (some 14) rfl rfl Tryz.func74 (by kernel_rfl) rfl #[.slice A0 l0.length c0, .string a1] rfl (by (try simp only [List.map_toArray, List.map_cons, List.map_nil]); first | done | rfl | (simp only [List.length_drop, List.length_take]; rfl)) ?_; (with_reducible refine (footbridgeref09_at.calls k _ _ l0 a1 t205 _ ?side1 ?side2 A4.out).mono ?_); (case side1 => repeat (first | exact HR0.out | (with_reducible refine Kd.C_alloc ?_ _) | (with_reducible refine Kd.C_drewN ?_ _) | (with_reducible refine Kd.C_drew ?_))); (case side2 => exact HC0.out); rintro e w' ⟨rfl, ⟨nd, rfl⟩⟩; refine ⟨_, rfl, ?_⟩; have q13 : (t205 : Int) ≤ ((l0.length : Int) : Int) := of_decide_eq_true (by first | (with_reducible assumption) | assumption); obtain ⟨i013, hi013, _, hsz13, _⟩ := info_parts info82; have hroom13 : l0.length ≤ c0 := HC0.out; have hC13 : Kd.C k82 _ A0 l0.length l0 := HR0.out; have q013 : (0 : Int) ≤ (t205 : Int) := of_decide_eq_true (by first | (with_reducible assumption) | assumption); have hcut13 := cut_from (P := Tryz.prog) 36 82 .i64 Tryz.underlying36 hi013 2 hsz13 A0 l0.length c0 t205 q013 q13; have hr13 := Kd.C_drop (m := (t205 : Int).toNat) (c := c0) hC13 (by omega) hroom13; obtain ⟨A13, hA13⟩ : ∃ A1, A1 = (if c0 = (t205 : Int).toNat then A0 else (A0 : Option Addr).map (·.add ((t205 : Int).toNat * 2))) := ⟨_, rfl⟩; obtain ⟨c13, hc13⟩ : ∃ c1, c1 = c0 - (t205 : Int).toNat := ⟨_, rfl⟩; have hy13 : y206.length = l0.length - (t205 : Int).toNat := (by rw [Ny206.out, List.length_drop] <;> omega); rw [show (l0).drop (t205 : Int).toNat = y206 from Ny206.out.symm] at hr13; replace hr13 : Kd.C k82 _ A13 y206.length y206 := (by rw [hA13]; exact hr13); rw [← hy13, ← hA13, ← hc13] at hcut13; have HR209 := Aside0.mk hr13; have HC209 := Aside0.mk (show y206.length ≤ c13 from by rw [hy13, hc13]; exact Nat.sub_le_sub_right hroom13 _); clear hr13 hC13 hroom13 hi013 hsz13 hc13; have KY13 := Aside0.mk hy13; have KA13 := Aside0.mk hA13; clear hy13 hA13; replace q13 := eq_true q13; have q14 : (t205 : Int) ≤ ((l0.length : Int) : Int) := of_decide_eq_true (by first | (with_reducible assumption) | assumption); obtain ⟨i014, hi014, _, hsz14, _⟩ := info_parts info82; have hroom14 : l0.length ≤ c0 := HC0.out; have hC14 : Kd.C k82 _ A0 l0.length l0 := HR0.out; have hcut14 := cut_to (P := Tryz.prog) 36 82 .i64 Tryz.underlying36 hi014 A0 l0.length c0 t205 (of_decide_eq_true (by first | (with_reducible assumption) | assumption)) q14 hroom14; have hr14 := Kd.C_take (m := (t205 : Int).toNat) hC14 (by omega); have hy14 : y210.length = (t205 : Int).toNat := (by rw [Ny210.out, List.length_take]; omega); rw [← Ny210.out] at hr14; rw [← hy14] at hcut14; have HR213 := Aside0.mk hr14; have HC213 := Aside0.mk (show y210.length ≤ c0 from by omega); clear hr14 hC14 hroom14 hi014 hsz14; have KY14 := Aside0.mk hy14; clear hy14; replace q14 := eq_true q14) | ((with_reducible refine gate_builtin (b := .append) (xs := #[.tmp 37, .tmp 40]) rfl ?_); at_builtin; refine Kd.R_append_rows k82 (w0 := w) w.heap.size rfl (.tmp 37) (.tmp 40) 36 82 (.agg #[(.string ⟨#[]⟩), (.string ⟨#[]⟩)]) 32 rfl Tryz.underlying36 info82 rfl (by decide) (by omega) (.slice none 0 0) ([] : List (S82)) y210 _ _ _ (fun _ => True) (fun _ => False) rfl rfl ?aO ?aR (fun _ _ h => h) (fun _ h => h.elim) ?aF ?aB ?aS ?aL ?_; (case aR => repeat (first | exact HR213.out | (with_reducible refine Kd.C_alloc ?_ _) | (with_reducible refine Kd.C_drewN ?_ _) | (with_reducible refine Kd.C_drew ?_))); (case aB => exact (by repeat (first | (with_reducible first | exact HB.out | apply below_alloc | apply pw_below_drewN | apply below_drew1) | exact HB.out))); (case aF => exact (fun _ _ => trivial)); (case aO => exact ((Kd.R_nil _ _ _ _ (fun _ => True)))); (case aS => exact (below_size (by repeat (first | (with_reducible first | exact HB.out | apply below_alloc | apply pw_below_drewN | apply below_drew1) | exact HB.out)))); (case aL => have := LMc10.out; omega); intro v215 w15 ho hb hg hat; rw [← Ny214.out] at ho; have n0_ := Aside0.mk (hb); have n1_ := Aside0.mk (ho); clear HB; have HB := n0_; have HO216 := n1_; clear n0_ n1_; clear ho hb hg hat) | ((with_reducible refine gate_builtin (b := .append) (xs := #[.tmp 42, .tmp 46]) rfl ?_); at_builtin; refine Kd.R_append k82 (w0 := w) w.heap.size rfl (.tmp 42) (.tmp 46) 36 82 (.agg #[(.string ⟨#[]⟩), (.string ⟨#[]⟩)]) 32 rfl Tryz.underlying36 info82 rfl (by decide) (by omega) v215 y214 (⟨a1, a2⟩ : S82) [.string a1, .string a2] (fun _ => True) (fun _ => False) rfl rfl ?aP (fun _ hk => hk.elim) ?aF ?aO ?aB ?aS ?aL ?_; (case aP => exact k82_mkM _ _ _ (⟨a1, a2⟩ : S82)); (case aB => exact (by repeat (first | (with_reducible first | exact HB.out | apply below_alloc | apply pw_below_drewN | apply below_drew1) | exact HB.out))); (case aF => exact (fun _ _ => trivial)); (case aO => exact (by (with_reducible repeat (first | apply Kd.R_alloc | apply Kd.R_drewN | apply Kd.R_drew)); exact HO216.out)); (case aS => exact (below_size (by repeat (first | (with_reducible first | exact HB.out | apply below_alloc | apply pw_below_drewN | apply below_drew1) | exact HB.out)))); (case aL => have := LMc11.out; omega); intro v218 w16 ho hb hg hat; rw [← Ny217.out] at ho; have n0_ := Aside0.mk (hb); have n1_ := Aside0.mk (ho); clear HB; clear HO216; have HB := n0_; have HO219 := n1_; clear n0_ n1_; clear ho hb hg hat) | ((with_reducible refine gate_builtin (b := .append) (xs := #[.tmp 48, .tmp 49]) rfl ?_); at_builtin; refine Kd.R_append_rows k82 (w0 := w) w.heap.size rfl (.tmp 48) (.tmp 49) 36 82 (.agg #[(.string ⟨#[]⟩), (.string ⟨#[]⟩)]) 32 rfl Tryz.underlying36 info82 rfl (by decide) (by omega) v218 y217 y206 _ _ _ (fun _ => True) (fun _ => False) rfl rfl ?aO ?aR (fun _ _ h => h) (fun _ h => h.elim) ?aF ?aB ?aS ?aL ?_; (case aR => repeat (first | exact (Kd.C_below HR209.out HB.out) | (with_reducible refine Kd.C_alloc ?_ _) | (with_reducible refine Kd.C_drewN ?_ _) | (with_reducible refine Kd.C_drew ?_))); (case aB => exact (by repeat (first | (with_reducible first | exact HB.out | apply below_alloc | apply pw_below_drewN | apply below_drew1) | exact HB.out))); (case aF => exact (fun _ _ => trivial)); (case aO => exact (by (with_reducible repeat (first | apply Kd.R_alloc | apply Kd.R_drewN | apply Kd.R_drew)); exact HO219.out)); (case aS => exact (below_size (by repeat (first | (with_reducible first | exact HB.out | apply below_alloc | apply pw_below_drewN | apply below_drew1) | exact HB.out)))); (case aL => have := LMc12.out; omega); intro v221 w17 ho hb hg hat; rw [← Ny220.out] at ho; have n0_ := Aside0.mk (hb); have n1_ := Aside0.mk (ho); clear HB; clear HO219; have HB := n0_; have HO222 := n1_; clear n0_ n1_; clear ho hb hg hat))
              go_ret2
              exact ⟨_, by first | rfl | (simp [errW_none, errW_some] <;> rfl) | (simp [*, errW_none, errW_some] <;> rfl), by (with_reducible repeat (first | apply Kd.R_alloc | apply Kd.R_drewN | apply Kd.R_drew)); exact HO222.out, by repeat (first | (with_reducible first | exact HB.out | apply below_alloc | apply pw_below_drewN | apply below_drew1) | exact HB.out)⟩
            · rw [if_neg c12] at H
              exact absurd H (by simp)
          · rw [if_neg c11] at H
            exact absurd H (by simp)
        · rw [if_neg c10] at H
          exact absurd H (by simp)
      · rw [if_neg c7] at H
        exact absurd H (by simp)
    · rw [if_neg c6] at H
      exact absurd H (by simp)
  · rw [if_neg c5] at H
    have c5b0 : (t205 == (l0.length : Int)) = false := beq_eq_false_iff_ne.mpr c5
    have c5b1 : (t205 != (l0.length : Int)) = true := bne_iff_ne.mpr c5
    by_cases c18 : 0 ≤ t205
    · rw [if_pos c18] at H
      have c18b0 : decide (0 ≤ t205) = true := decide_eq_true c18
      clear c18
      by_cases c19 : t205 < (l0.length : Int)
      · rw [if_pos c19] at H
        have c19b0 : decide (t205 < (l0.length : Int)) = true := decide_eq_true c19
        clear c19
        have c20b0 := eq_true (of_decide_eq_true (by first | (with_reducible assumption) | assumption) : 0 ≤ t205)
        by_cases c21 : t205 ≤ (l0.length : Int)
        · rw [if_pos c21] at H
          have c21b0 := eq_true c21
          have c21b1 : decide (t205 ≤ (l0.length : Int)) = true := decide_eq_true c21
          clear c21
          obtain ⟨y224, hy224⟩ : ∃ y_ : List (S82), y_ = (l0.drop (t205 : Int).toNat) := ⟨_, rfl⟩
          replace H : (if (¬ ((rd_T82 l0 t205).f0).toList = a1.toList) then ((some (l0.take (t205 : Int).toNat : List (S82))).bind fun y228 => (if ([] : List (S82)).length + y228.length < 4398046511104 then ((some (([] : List (S82)) ++ y228 : List (S82))).bind fun y232 => (if y232.length < 4398046511104 then ((some (y232 ++ [(⟨a1, a2⟩ : S82)] : List (S82))).bind fun y235 => (if y235.length + y224.length < 4398046511104 then (some ((y235 ++ y224), (((rd_T82 l0 t205).f0).toList != a1.toList))) else (none))) else (none))) else (none))) else (if 0 ≤ (wrap64 (t205 + 1)) then (if (wrap64 (t205 + 1)) ≤ (l0.length : Int) then ((some (l0.drop ((wrap64 (t205 + 1)) : Int).toNat : List (S82))).bind fun y241 => ((some (l0.take (t205 : Int).toNat : List (S82))).bind fun y245 => (if ([] : List (S82)).length + y245.length < 4398046511104 then ((some (([] : List (S82)) ++ y245 : List (S82))).bind fun y249 => (if y249.length < 4398046511104 then ((some (y249 ++ [(⟨a1, a2⟩ : S82)] : List (S82))).bind fun y252 => (if y252.length + y241.length < 4398046511104 then (some ((y252 ++ y241), (((rd_T82 l0 t205).f0).toList != a1.toList))) else (none))) else (none))) else (none)))) else (none)) else (none))) = some (r1, r2) := by first | (rw [hy224]; with_reducible exact H) | (have H2_ := (Option.bind_some _ _).symm.trans H; rw [hy224]; with_reducible exact H2_) | (have H2_ := (Option.bind_some _ _).symm.trans H; with_reducible exact H2_) | with_reducible exact H | (rw [hy224]; exact H) | exact H
          have Ny224 := Aside0.mk hy224
          clear hy224
          by_cases c22 : (¬ ((rd_T82 l0 t205).f0).toList = a1.toList)
          · rw [if_pos c22] at H
            have c22b0 : (((rd_T82 l0 t205).f0).toList == a1.toList) = false := beq_eq_false_iff_ne.mpr c22
            have c22b1 : (((rd_T82 l0 t205).f0).toList != a1.toList) = true := bne_iff_ne.mpr c22
            clear c22
            have c23b0 := eq_true (of_decide_eq_true (by first | (with_reducible assumption) | assumption) : 0 ≤ t205)
            have c24b0 := eq_true (of_decide_eq_true (by first | (with_reducible assumption) | assumption) : t205 ≤ (l0.length : Int))
            obtain ⟨y228, hy228⟩ : ∃ y_ : List (S82), y_ = (l0.take (t205 : Int).toNat) := ⟨_, rfl⟩
            replace H : (if ([] : List (S82)).length + y228.length < 4398046511104 then ((some (([] : List (S82)) ++ y228 : List (S82))).bind fun y232 => (if y232.length < 4398046511104 then ((some (y232 ++ [(⟨a1, a2⟩ : S82)] : List (S82))).bind fun y235 => (if y235.length + y224.length < 4398046511104 then (some ((y235 ++ y224), (((rd_T82 l0 t205).f0).toList != a1.toList))) else (none))) else (none))) else (none)) = some (r1, r2) := by first | (rw [hy228]; with_reducible exact H) | (have H2_ := (Option.bind_some _ _).symm.trans H; rw [hy228]; with_reducible exact H2_) | (have H2_ := (Option.bind_some _ _).symm.trans H; with_reducible exact H2_) | with_reducible exact H | (rw [hy228]; exact H) | exact H
            have Ny228 := Aside0.mk hy228
            clear hy228
            by_cases c25 : ([] : List (S82)).length + y228.length < 4398046511104
            · rw [if_pos c25] at H
              have LMc25 := Aside0.mk c25
              clear c25
              obtain ⟨y232, hy232⟩ : ∃ y_ : List (S82), y_ = (([] : List (S82)) ++ y228) := ⟨_, rfl⟩
              replace H : (if y232.length < 4398046511104 then ((some (y232 ++ [(⟨a1, a2⟩ : S82)] : List (S82))).bind fun y235 => (if y235.length + y224.length < 4398046511104 then (some ((y235 ++ y224), (((rd_T82 l0 t205).f0).toList != a1.toList))) else (none))) else (none)) = some (r1, r2) := by first | (rw [hy232]; with_reducible exact H) | (have H2_ := (Option.bind_some _ _).symm.trans H; rw [hy232]; with_reducible exact H2_) | (have H2_ := (Option.bind_some _ _).symm.trans H; with_reducible exact H2_) | with_reducible exact H | (rw [hy232]; exact H) | exact H
              have Ny232 := Aside0.mk hy232
              clear hy232
              by_cases c26 : y232.length < 4398046511104
              · rw [if_pos c26] at H
                have LMc26 := Aside0.mk c26
                clear c26
                obtain ⟨y235, hy235⟩ : ∃ y_ : List (S82), y_ = (y232 ++ [(⟨a1, a2⟩ : S82)]) := ⟨_, rfl⟩
                replace H : (if y235.length + y224.length < 4398046511104 then (some ((y235 ++ y224), (((rd_T82 l0 t205).f0).toList != a1.toList))) else (none)) = some (r1, r2) := by first | (rw [hy235]; with_reducible exact H) | (have H2_ := (Option.bind_some _ _).symm.trans H; rw [hy235]; with_reducible exact H2_) | (have H2_ := (Option.bind_some _ _).symm.trans H; with_reducible exact H2_) | with_reducible exact H | (rw [hy235]; exact H) | exact H
                have Ny235 := Aside0.mk hy235
                clear hy235
                by_cases c27 : y235.length + y224.length < 4398046511104
                · rw [if_pos c27] at H
                  have LMc27 := Aside0.mk c27
                  clear c27
                  obtain ⟨y238, hy238⟩ : ∃ y_ : List (S82), y_ = (y235 ++ y224) := ⟨_, rfl⟩
                  replace H : (some (y238, (((rd_T82 l0 t205).f0).toList != a1.toList))) = some (r1, r2) := by first | (rw [hy238]; with_reducible exact H) | (have H2_ := (Option.bind_some _ _).symm.trans H; rw [hy238]; with_reducible exact H2_) | (have H2_ := (Option.bind_some _ _).symm.trans H; with_reducible exact H2_) | with_reducible exact H | (rw [hy238]; exact H) | exact H
                  have Ny238 := Aside0.mk hy238
                  clear hy238
                  simp only [Option.some.injEq, Prod.mk.injEq] at H
                  obtain ⟨rfl, rfl⟩ := H
                  go_enter Tryz.func88, Tryz.ntmps88
                  go_wp2_with (first | ((with_reducible refine gate_callee (f := 74) rfl ?_); refine goesL_ (some 14) rfl rfl Tryz.func74 (by kernel_rfl) rfl #[.slice A0 l0.length c0, .string a1] rfl (by (try simp only [List.map_toArray, List.map_cons, List.map_nil]); first | done | rfl | (simp only [List.length_drop, List.length_take]; rfl)) ?_; (with_reducible refine (footbridgeref09_at.calls k _ _ l0 a1 t205 _ ?side1 ?side2 A4.out).mono ?_); (case side1 => repeat (first | exact HR0.out | (with_reducible refine Kd.C_alloc ?_ _) | (with_reducible refine Kd.C_drewN ?_ _) | (with_reducible refine Kd.C_drew ?_))); (case side2 => exact HC0.out); rintro e w' ⟨rfl, ⟨nd, rfl⟩⟩; refine ⟨_, rfl, ?_⟩; have p223 : 0 ≤ (t205 : Int) := of_decide_eq_true (by first | (with_reducible assumption) | assumption); have q223 : t205 < (l0.length : Int) := of_decide_eq_true (by first | (with_reducible assumption) | assumption); obtain ⟨ad223, e223, hx223_0, hx223_1⟩ := at_T82 HR0.out t205 p223 q223; cases e223; replace p223 := eq_true p223; replace q223 := eq_true q223; have q28 : (t205 : Int) ≤ ((l0.length : Int) : Int) := of_decide_eq_true (by first | (with_reducible assumption) | assumption); obtain ⟨i028, hi028, _, hsz28, _⟩ := info_parts info82; have hroom28 : l0.length ≤ c0 := HC0.out; have hC28 : Kd.C k82 _ (some ad223) l0.length l0 := HR0.out; have q028 : (0 : Int) ≤ (t205 : Int) := of_decide_eq_true (by first | (with_reducible assumption) | assumption); have hcut28 := cut_from (P := Tryz.prog) 36 82 .i64 Tryz.underlying36 hi028 2 hsz28 (some ad223) l0.length c0 t205 q028 q28; have hr28 := Kd.C_drop (m := (t205 : Int).toNat) (c := c0) hC28 (by omega) hroom28; obtain ⟨A28, hA28⟩ : ∃ A1, A1 = (if c0 = (t205 : Int).toNat then (some ad223) else ((some ad223) : Option Addr).map (·.add ((t205 : Int).toNat * 2))) := ⟨_, rfl⟩; obtain ⟨c28, hc28⟩ : ∃ c1, c1 = c0 - (t205 : Int).toNat := ⟨_, rfl⟩; have hy28 : y224.length = l0.length - (t205 : Int).toNat := (by rw [Ny224.out, List.length_drop] <;> omega); rw [show (l0).drop (t205 : Int).toNat = y224 from Ny224.out.symm] at hr28; replace hr28 : Kd.C k82 _ A28 y224.length y224 := (by rw [hA28]; exact hr28); rw [← hy28, ← hA28, ← hc28] at hcut28; have HR227 := Aside0.mk hr28; have HC227 := Aside0.mk (show y224.length ≤ c28 from by rw [hy28, hc28]; exact Nat.sub_le_sub_right hroom28 _); clear hr28 hC28 hroom28 hi028 hsz28 hc28; have KY28 := Aside0.mk hy28; have KA28 := Aside0.mk hA28; clear hy28 hA28; replace q28 := eq_true q28; have q29 : (t205 : Int) ≤ ((l0.length : Int) : Int) := of_decide_eq_true (by first | (with_reducible assumption) | assumption); obtain ⟨i029, hi029, _, hsz29, _⟩ := info_parts info82; have hroom29 : l0.length ≤ c0 := HC0.out; have hC29 : Kd.C k82 _ (some ad223) l0.length l0 := HR0.out; have hcut29 := cut_to (P := Tryz.prog) 36 82 .i64 Tryz.underlying36 hi029 (some ad223) l0.length c0 t205 (of_decide_eq_true (by first | (with_reducible assumption) | assumption)) q29 hroom29; have hr29 := Kd.C_take (m := (t205 : Int).toNat) hC29 (by omega); have hy29 : y228.length = (t205 : Int).toNat := (by rw [Ny228.out, List.length_take]; omega); rw [← Ny228.out] at hr29; rw [← hy29] at hcut29; have HR231 := Aside0.mk hr29; have HC231 := Aside0.mk (show y228.length ≤ c0 from by omega); clear hr29 hC29 hroom29 hi029 hsz29; have KY29 := Aside0.mk hy29; clear hy29; replace q29 := eq_true q29) | ((with_reducible refine gate_builtin (b := .append) (xs := #[.tmp 37, .tmp 40]) rfl ?_); at_builtin; refine Kd.R_append_rows k82 (w0 := w) w.heap.size rfl (.tmp 37) (.tmp 40) 36 82 (.agg #[(.string ⟨#[]⟩), (.string ⟨#[]⟩)]) 32 rfl Tryz.underlying36 info82 rfl (by decide) (by omega) (.slice none 0 0) ([] : List (S82)) y228 _ _ _ (fun _ => True) (fun _ => False) rfl rfl ?aO ?aR (fun _ _ h => h) (fun _ h => h.elim) ?aF ?aB ?aS ?aL ?_; (case aR => repeat (first | exact HR231.out | (with_reducible refine Kd.C_alloc ?_ _) | (with_reducible refine Kd.C_drewN ?_ _) | (with_reducible refine Kd.C_drew ?_))); (case aB => exact (by repeat (first | (with_reducible first | exact HB.out | apply below_alloc | apply pw_below_drewN | apply below_drew1) | exact HB.out))); (case aF => exact (fun _ _ => trivial)); (case aO => exact ((Kd.R_nil _ _ _ _ (fun _ => True)))); (case aS => exact (below_size (by repeat (first | (with_reducible first | exact HB.out | apply below_alloc | apply pw_below_drewN | apply below_drew1) | exact HB.out)))); (case aL => have := LMc25.out; omega); intro v233 w30 ho hb hg hat; rw [← Ny232.out] at ho; have n0_ := Aside0.mk (hb); have n1_ := Aside0.mk (ho); clear HB; have HB := n0_; have HO234 := n1_; clear n0_ n1_; clear ho hb hg hat) | ((with_reducible refine gate_builtin (b := .append) (xs := #[.tmp 42, .tmp 46]) rfl ?_); at_builtin; refine Kd.R_append k82 (w0 := w) w.heap.size rfl (.tmp 42) (.tmp 46) 36 82 (.agg #[(.string ⟨#[]⟩), (.string ⟨#[]⟩)]) 32 rfl Tryz.underlying36 info82 rfl (by decide) (by omega) v233 y232 (⟨a1, a2⟩ : S82) [.string a1, .string a2] (fun _ => True) (fun _ => False) rfl rfl ?aP (fun _ hk => hk.elim) ?aF ?aO ?aB ?aS ?aL ?_; (case aP => exact k82_mkM _ _ _ (⟨a1, a2⟩ : S82)); (case aB => exact (by repeat (first | (with_reducible first | exact HB.out | apply below_alloc | apply pw_below_drewN | apply below_drew1) | exact HB.out))); (case aF => exact (fun _ _ => trivial)); (case aO => exact (by (with_reducible repeat (first | apply Kd.R_alloc | apply Kd.R_drewN | apply Kd.R_drew)); exact HO234.out)); (case aS => exact (below_size (by repeat (first | (with_reducible first | exact HB.out | apply below_alloc | apply pw_below_drewN | apply below_drew1) | exact HB.out)))); (case aL => have := LMc26.out; omega); intro v236 w31 ho hb hg hat; rw [← Ny235.out] at ho; have n0_ := Aside0.mk (hb); have n1_ := Aside0.mk (ho); clear HB; clear HO234; have HB := n0_; have HO237 := n1_; clear n0_ n1_; clear ho hb hg hat) | ((with_reducible refine gate_builtin (b := .append) (xs := #[.tmp 48, .tmp 49]) rfl ?_); at_builtin; refine Kd.R_append_rows k82 (w0 := w) w.heap.size rfl (.tmp 48) (.tmp 49) 36 82 (.agg #[(.string ⟨#[]⟩), (.string ⟨#[]⟩)]) 32 rfl Tryz.underlying36 info82 rfl (by decide) (by omega) v236 y235 y224 _ _ _ (fun _ => True) (fun _ => False) rfl rfl ?aO ?aR (fun _ _ h => h) (fun _ h => h.elim) ?aF ?aB ?aS ?aL ?_; (case aR => repeat (first | exact (Kd.C_below HR227.out HB.out) | (with_reducible refine Kd.C_alloc ?_ _) | (with_reducible refine Kd.C_drewN ?_ _) | (with_reducible refine Kd.C_drew ?_))); (case aB => exact (by repeat (first | (with_reducible first | exact HB.out | apply below_alloc | apply pw_below_drewN | apply below_drew1) | exact HB.out))); (case aF => exact (fun _ _ => trivial)); (case aO => exact (by (with_reducible repeat (first | apply Kd.R_alloc | apply Kd.R_drewN | apply Kd.R_drew)); exact HO237.out)); (case aS => exact (below_size (by repeat (first | (with_reducible first | exact HB.out | apply below_alloc | apply pw_below_drewN | apply below_drew1) | exact HB.out)))); (case aL => have := LMc27.out; omega); intro v239 w32 ho hb hg hat; rw [← Ny238.out] at ho; have n0_ := Aside0.mk (hb); have n1_ := Aside0.mk (ho); clear HB; clear HO237; have HB := n0_; have HO240 := n1_; clear n0_ n1_; clear ho hb hg hat))
                  go_ret2
                  exact ⟨_, by first | rfl | (simp [errW_none, errW_some] <;> rfl) | (simp [*, errW_none, errW_some] <;> rfl), by (with_reducible repeat (first | apply Kd.R_alloc | apply Kd.R_drewN | apply Kd.R_drew)); exact HO240.out, by repeat (first | (with_reducible first | exact HB.out | apply below_alloc | apply pw_below_drewN | apply below_drew1) | exact HB.out)⟩
                · rw [if_neg c27] at H
                  exact absurd H (by simp)
              · rw [if_neg c26] at H
                exact absurd H (by simp)
            · rw [if_neg c25] at H
              exact absurd H (by simp)
          · rw [if_neg c22] at H
            have c22b0 : (((rd_T82 l0 t205).f0).toList == a1.toList) = true := beq_iff_eq.mpr (Decidable.not_not.mp c22)
            have c22b1 : (((rd_T82 l0 t205).f0).toList != a1.toList) = false := bne_eq_false_iff_eq.mpr (Decidable.not_not.mp c22)
            obtain ⟨ji33, hji33⟩ : ∃ j_ : Int, (wrap64 (t205 + 1)) = j_ := ⟨_, rfl⟩
            replace H : (if 0 ≤ (ji33) then (if (ji33) ≤ (l0.length : Int) then ((some (l0.drop ((ji33) : Int).toNat : List (S82))).bind fun y241 => ((some (l0.take (t205 : Int).toNat : List (S82))).bind fun y245 => (if ([] : List (S82)).length + y245.length < 4398046511104 then ((some (([] : List (S82)) ++ y245 : List (S82))).bind fun y249 => (if y249.length < 4398046511104 then ((some (y249 ++ [(⟨a1, a2⟩ : S82)] : List (S82))).bind fun y252 => (if y252.length + y241.length < 4398046511104 then (some ((y252 ++ y241), (((rd_T82 l0 t205).f0).toList != a1.toList))) else (none))) else (none))) else (none)))) else (none)) else (none)) = some (r1, r2) := by first | (rw [hji33] at H; exact H) | (simp only [hji33] at H ⊢; exact H)
            (try rw [hji33] at A4)
            have hji33w : (IntKind.i64.wrap (t205 + 1)) = ji33 := (i64_w _).trans hji33
            by_cases c34 : 0 ≤ (ji33)
            · rw [if_pos c34] at H
              have c34b0 := eq_true c34
              have c34b1 : decide (0 ≤ (ji33)) = true := decide_eq_true c34
              clear c34
              by_cases c35 : (ji33) ≤ (l0.length : Int)
              · rw [if_pos c35] at H
                have c35b0 := eq_true c35
                have c35b1 : decide ((ji33) ≤ (l0.length : Int)) = true := decide_eq_true c35
                clear c35
                obtain ⟨y241, hy241⟩ : ∃ y_ : List (S82), y_ = (l0.drop ((ji33) : Int).toNat) := ⟨_, rfl⟩
                replace H : ((some (l0.take (t205 : Int).toNat : List (S82))).bind fun y245 => (if ([] : List (S82)).length + y245.length < 4398046511104 then ((some (([] : List (S82)) ++ y245 : List (S82))).bind fun y249 => (if y249.length < 4398046511104 then ((some (y249 ++ [(⟨a1, a2⟩ : S82)] : List (S82))).bind fun y252 => (if y252.length + y241.length < 4398046511104 then (some ((y252 ++ y241), (((rd_T82 l0 t205).f0).toList != a1.toList))) else (none))) else (none))) else (none))) = some (r1, r2) := by first | (rw [hy241]; with_reducible exact H) | (have H2_ := (Option.bind_some _ _).symm.trans H; rw [hy241]; with_reducible exact H2_) | (have H2_ := (Option.bind_some _ _).symm.trans H; with_reducible exact H2_) | with_reducible exact H | (rw [hy241]; exact H) | exact H
                have Ny241 := Aside0.mk hy241
                clear hy241
                have c36b0 := eq_true (of_decide_eq_true (by first | (with_reducible assumption) | assumption) : 0 ≤ t205)
                have c37b0 := eq_true (of_decide_eq_true (by first | (with_reducible assumption) | assumption) : t205 ≤ (l0.length : Int))
                obtain ⟨y245, hy245⟩ : ∃ y_ : List (S82), y_ = (l0.take (t205 : Int).toNat) := ⟨_, rfl⟩
                replace H : (if ([] : List (S82)).length + y245.length < 4398046511104 then ((some (([] : List (S82)) ++ y245 : List (S82))).bind fun y249 => (if y249.length < 4398046511104 then ((some (y249 ++ [(⟨a1, a2⟩ : S82)] : List (S82))).bind fun y252 => (if y252.length + y241.length < 4398046511104 then (some ((y252 ++ y241), (((rd_T82 l0 t205).f0).toList != a1.toList))) else (none))) else (none))) else (none)) = some (r1, r2) := by first | (rw [hy245]; with_reducible exact H) | (have H2_ := (Option.bind_some _ _).symm.trans H; rw [hy245]; with_reducible exact H2_) | (have H2_ := (Option.bind_some _ _).symm.trans H; with_reducible exact H2_) | with_reducible exact H | (rw [hy245]; exact H) | exact H
                have Ny245 := Aside0.mk hy245
                clear hy245
                by_cases c38 : ([] : List (S82)).length + y245.length < 4398046511104
                · rw [if_pos c38] at H
                  have LMc38 := Aside0.mk c38
                  clear c38
                  obtain ⟨y249, hy249⟩ : ∃ y_ : List (S82), y_ = (([] : List (S82)) ++ y245) := ⟨_, rfl⟩
                  replace H : (if y249.length < 4398046511104 then ((some (y249 ++ [(⟨a1, a2⟩ : S82)] : List (S82))).bind fun y252 => (if y252.length + y241.length < 4398046511104 then (some ((y252 ++ y241), (((rd_T82 l0 t205).f0).toList != a1.toList))) else (none))) else (none)) = some (r1, r2) := by first | (rw [hy249]; with_reducible exact H) | (have H2_ := (Option.bind_some _ _).symm.trans H; rw [hy249]; with_reducible exact H2_) | (have H2_ := (Option.bind_some _ _).symm.trans H; with_reducible exact H2_) | with_reducible exact H | (rw [hy249]; exact H) | exact H
                  have Ny249 := Aside0.mk hy249
                  clear hy249
                  by_cases c39 : y249.length < 4398046511104
                  · rw [if_pos c39] at H
                    have LMc39 := Aside0.mk c39
                    clear c39
                    obtain ⟨y252, hy252⟩ : ∃ y_ : List (S82), y_ = (y249 ++ [(⟨a1, a2⟩ : S82)]) := ⟨_, rfl⟩
                    replace H : (if y252.length + y241.length < 4398046511104 then (some ((y252 ++ y241), (((rd_T82 l0 t205).f0).toList != a1.toList))) else (none)) = some (r1, r2) := by first | (rw [hy252]; with_reducible exact H) | (have H2_ := (Option.bind_some _ _).symm.trans H; rw [hy252]; with_reducible exact H2_) | (have H2_ := (Option.bind_some _ _).symm.trans H; with_reducible exact H2_) | with_reducible exact H | (rw [hy252]; exact H) | exact H
                    have Ny252 := Aside0.mk hy252
                    clear hy252
                    by_cases c40 : y252.length + y241.length < 4398046511104
                    · rw [if_pos c40] at H
                      have LMc40 := Aside0.mk c40
                      clear c40
                      obtain ⟨y255, hy255⟩ : ∃ y_ : List (S82), y_ = (y252 ++ y241) := ⟨_, rfl⟩
                      replace H : (some (y255, (((rd_T82 l0 t205).f0).toList != a1.toList))) = some (r1, r2) := by first | (rw [hy255]; with_reducible exact H) | (have H2_ := (Option.bind_some _ _).symm.trans H; rw [hy255]; with_reducible exact H2_) | (have H2_ := (Option.bind_some _ _).symm.trans H; with_reducible exact H2_) | with_reducible exact H | (rw [hy255]; exact H) | exact H
                      have Ny255 := Aside0.mk hy255
                      clear hy255
                      simp only [Option.some.injEq, Prod.mk.injEq] at H
                      obtain ⟨rfl, rfl⟩ := H
                      go_enter Tryz.func88, Tryz.ntmps88
                      go_wp2_with (first | ((with_reducible refine gate_callee (f := 74) rfl ?_); refine goesL_ (some 14) rfl rfl Tryz.func74 (by kernel_rfl) rfl #[.slice A0 l0.length c0, .string a1] rfl (by (try simp only [List.map_toArray, List.map_cons, List.map_nil]); first | done | rfl | (simp only [List.length_drop, List.length_take]; rfl)) ?_; (with_reducible refine (footbridgeref09_at.calls k _ _ l0 a1 t205 _ ?side1 ?side2 A4.out).mono ?_); (case side1 => repeat (first | exact HR0.out | (with_reducible refine Kd.C_alloc ?_ _) | (with_reducible refine Kd.C_drewN ?_ _) | (with_reducible refine Kd.C_drew ?_))); (case side2 => exact HC0.out); rintro e w' ⟨rfl, ⟨nd, rfl⟩⟩; refine ⟨_, rfl, ?_⟩; have p223 : 0 ≤ (t205 : Int) := of_decide_eq_true (by first | (with_reducible assumption) | assumption); have q223 : t205 < (l0.length : Int) := of_decide_eq_true (by first | (with_reducible assumption) | assumption); obtain ⟨ad223, e223, hx223_0, hx223_1⟩ := at_T82 HR0.out t205 p223 q223; cases e223; replace p223 := eq_true p223; replace q223 := eq_true q223; have q41 : (t205 : Int) ≤ ((l0.length : Int) : Int) := of_decide_eq_true (by first | (with_reducible assumption) | assumption); obtain ⟨i041, hi041, _, hsz41, _⟩ := info_parts info82; have hroom41 : l0.length ≤ c0 := HC0.out; have hC41 : Kd.C k82 _ (some ad223) l0.length l0 := HR0.out; have q041 : (0 : Int) ≤ (t205 : Int) := of_decide_eq_true (by first | (with_reducible assumption) | assumption); have hcut41 := cut_from (P := Tryz.prog) 36 82 .i64 Tryz.underlying36 hi041 2 hsz41 (some ad223) l0.length c0 t205 q041 q41; have hr41 := Kd.C_drop (m := (t205 : Int).toNat) (c := c0) hC41 (by omega) hroom41; obtain ⟨A41, hA41⟩ : ∃ A1, A1 = (if c0 = (t205 : Int).toNat then (some ad223) else ((some ad223) : Option Addr).map (·.add ((t205 : Int).toNat * 2))) := ⟨_, rfl⟩; obtain ⟨c41, hc41⟩ : ∃ c1, c1 = c0 - (t205 : Int).toNat := ⟨_, rfl⟩; have hy41 : y224.length = l0.length - (t205 : Int).toNat := (by rw [Ny224.out, List.length_drop] <;> omega); rw [show (l0).drop (t205 : Int).toNat = y224 from Ny224.out.symm] at hr41; replace hr41 : Kd.C k82 _ A41 y224.length y224 := (by rw [hA41]; exact hr41); rw [← hy41, ← hA41, ← hc41] at hcut41; have HR227 := Aside0.mk hr41; have HC227 := Aside0.mk (show y224.length ≤ c41 from by rw [hy41, hc41]; exact Nat.sub_le_sub_right hroom41 _); clear hr41 hC41 hroom41 hi041 hsz41 hc41; have KY41 := Aside0.mk hy41; have KA41 := Aside0.mk hA41; clear hy41 hA41; replace q41 := eq_true q41; have q42 : ((ji33) : Int) ≤ ((l0.length : Int) : Int) := of_decide_eq_true (by first | (with_reducible assumption) | assumption); obtain ⟨i042, hi042, _, hsz42, _⟩ := info_parts info82; have hroom42 : l0.length ≤ c0 := HC0.out; have hC42 : Kd.C k82 _ (some ad223) l0.length l0 := HR0.out; have q042 : (0 : Int) ≤ ((ji33) : Int) := of_decide_eq_true (by first | (with_reducible assumption) | assumption); have hcut42 := cut_from (P := Tryz.prog) 36 82 .i64 Tryz.underlying36 hi042 2 hsz42 (some ad223) l0.length c0 (ji33) q042 q42; have hr42 := Kd.C_drop (m := ((ji33) : Int).toNat) (c := c0) hC42 (by omega) hroom42; obtain ⟨A42, hA42⟩ : ∃ A1, A1 = (if c0 = ((ji33) : Int).toNat then (some ad223) else ((some ad223) : Option Addr).map (·.add (((ji33) : Int).toNat * 2))) := ⟨_, rfl⟩; obtain ⟨c42, hc42⟩ : ∃ c1, c1 = c0 - ((ji33) : Int).toNat := ⟨_, rfl⟩; have hy42 : y241.length = l0.length - ((ji33) : Int).toNat := (by rw [Ny241.out, List.length_drop] <;> omega); rw [show (l0).drop ((ji33) : Int).toNat = y241 from Ny241.out.symm] at hr42; replace hr42 : Kd.C k82 _ A42 y241.length y241 := (by rw [hA42]; exact hr42); rw [← hy42, ← hA42, ← hc42] at hcut42; have HR244 := Aside0.mk hr42; have HC244 := Aside0.mk (show y241.length ≤ c42 from by rw [hy42, hc42]; exact Nat.sub_le_sub_right hroom42 _); clear hr42 hC42 hroom42 hi042 hsz42 hc42; have KY42 := Aside0.mk hy42; have KA42 := Aside0.mk hA42; clear hy42 hA42; replace q42 := eq_true q42; have q43 : (t205 : Int) ≤ ((l0.length : Int) : Int) := of_decide_eq_true (by first | (with_reducible assumption) | assumption); obtain ⟨i043, hi043, _, hsz43, _⟩ := info_parts info82; have hroom43 : l0.length ≤ c0 := HC0.out; have hC43 : Kd.C k82 _ (some ad223) l0.length l0 := HR0.out; have hcut43 := cut_to (P := Tryz.prog) 36 82 .i64 Tryz.underlying36 hi043 (some ad223) l0.length c0 t205 (of_decide_eq_true (by first | (with_reducible assumption) | assumption)) q43 hroom43; have hr43 := Kd.C_take (m := (t205 : Int).toNat) hC43 (by omega); have hy43 : y245.length = (t205 : Int).toNat := (by rw [Ny245.out, List.length_take]; omega); rw [← Ny245.out] at hr43; rw [← hy43] at hcut43; have HR248 := Aside0.mk hr43; have HC248 := Aside0.mk (show y245.length ≤ c0 from by omega); clear hr43 hC43 hroom43 hi043 hsz43; have KY43 := Aside0.mk hy43; clear hy43; replace q43 := eq_true q43) | ((with_reducible refine gate_builtin (b := .append) (xs := #[.tmp 37, .tmp 40]) rfl ?_); at_builtin; refine Kd.R_append_rows k82 (w0 := w) w.heap.size rfl (.tmp 37) (.tmp 40) 36 82 (.agg #[(.string ⟨#[]⟩), (.string ⟨#[]⟩)]) 32 rfl Tryz.underlying36 info82 rfl (by decide) (by omega) (.slice none 0 0) ([] : List (S82)) y245 _ _ _ (fun _ => True) (fun _ => False) rfl rfl ?aO ?aR (fun _ _ h => h) (fun _ h => h.elim) ?aF ?aB ?aS ?aL ?_; (case aR => repeat (first | exact HR248.out | (with_reducible refine Kd.C_alloc ?_ _) | (with_reducible refine Kd.C_drewN ?_ _) | (with_reducible refine Kd.C_drew ?_))); (case aB => exact (by repeat (first | (with_reducible first | exact HB.out | apply below_alloc | apply pw_below_drewN | apply below_drew1) | exact HB.out))); (case aF => exact (fun _ _ => trivial)); (case aO => exact ((Kd.R_nil _ _ _ _ (fun _ => True)))); (case aS => exact (below_size (by repeat (first | (with_reducible first | exact HB.out | apply below_alloc | apply pw_below_drewN | apply below_drew1) | exact HB.out)))); (case aL => have := LMc38.out; omega); intro v250 w44 ho hb hg hat; rw [← Ny249.out] at ho; have n0_ := Aside0.mk (hb); have n1_ := Aside0.mk (ho); clear HB; have HB := n0_; have HO251 := n1_; clear n0_ n1_; clear ho hb hg hat) | ((with_reducible refine gate_builtin (b := .append) (xs := #[.tmp 42, .tmp 46]) rfl ?_); at_builtin; refine Kd.R_append k82 (w0 := w) w.heap.size rfl (.tmp 42) (.tmp 46) 36 82 (.agg #[(.string ⟨#[]⟩), (.string ⟨#[]⟩)]) 32 rfl Tryz.underlying36 info82 rfl (by decide) (by omega) v250 y249 (⟨a1, a2⟩ : S82) [.string a1, .string a2] (fun _ => True) (fun _ => False) rfl rfl ?aP (fun _ hk => hk.elim) ?aF ?aO ?aB ?aS ?aL ?_; (case aP => exact k82_mkM _ _ _ (⟨a1, a2⟩ : S82)); (case aB => exact (by repeat (first | (with_reducible first | exact HB.out | apply below_alloc | apply pw_below_drewN | apply below_drew1) | exact HB.out))); (case aF => exact (fun _ _ => trivial)); (case aO => exact (by (with_reducible repeat (first | apply Kd.R_alloc | apply Kd.R_drewN | apply Kd.R_drew)); exact HO251.out)); (case aS => exact (below_size (by repeat (first | (with_reducible first | exact HB.out | apply below_alloc | apply pw_below_drewN | apply below_drew1) | exact HB.out)))); (case aL => have := LMc39.out; omega); intro v253 w45 ho hb hg hat; rw [← Ny252.out] at ho; have n0_ := Aside0.mk (hb); have n1_ := Aside0.mk (ho); clear HB; clear HO251; have HB := n0_; have HO254 := n1_; clear n0_ n1_; clear ho hb hg hat) | ((with_reducible refine gate_builtin (b := .append) (xs := #[.tmp 48, .tmp 49]) rfl ?_); at_builtin; refine Kd.R_append_rows k82 (w0 := w) w.heap.size rfl (.tmp 48) (.tmp 49) 36 82 (.agg #[(.string ⟨#[]⟩), (.string ⟨#[]⟩)]) 32 rfl Tryz.underlying36 info82 rfl (by decide) (by omega) v253 y252 y241 _ _ _ (fun _ => True) (fun _ => False) rfl rfl ?aO ?aR (fun _ _ h => h) (fun _ h => h.elim) ?aF ?aB ?aS ?aL ?_; (case aR => repeat (first | exact (Kd.C_below HR244.out HB.out) | (with_reducible refine Kd.C_alloc ?_ _) | (with_reducible refine Kd.C_drewN ?_ _) | (with_reducible refine Kd.C_drew ?_))); (case aB => exact (by repeat (first | (with_reducible first | exact HB.out | apply below_alloc | apply pw_below_drewN | apply below_drew1) | exact HB.out))); (case aF => exact (fun _ _ => trivial)); (case aO => exact (by (with_reducible repeat (first | apply Kd.R_alloc | apply Kd.R_drewN | apply Kd.R_drew)); exact HO254.out)); (case aS => exact (below_size (by repeat (first | (with_reducible first | exact HB.out | apply below_alloc | apply pw_below_drewN | apply below_drew1) | exact HB.out)))); (case aL => have := LMc40.out; omega); intro v256 w46 ho hb hg hat; rw [← Ny255.out] at ho; have n0_ := Aside0.mk (hb); have n1_ := Aside0.mk (ho); clear HB; clear HO254; have HB := n0_; have HO257 := n1_; clear n0_ n1_; clear ho hb hg hat))
                      go_ret2
                      exact ⟨_, by first | rfl | (simp [errW_none, errW_some] <;> rfl) | (simp only [← hji33]; first | rfl | (simp [errW_none, errW_some] <;> rfl)) | (simp [*, errW_none, errW_some] <;> rfl), by (with_reducible repeat (first | apply Kd.R_alloc | apply Kd.R_drewN | apply Kd.R_drew)); exact HO257.out, by repeat (first | (with_reducible first | exact HB.out | apply below_alloc | apply pw_below_drewN | apply below_drew1) | exact HB.out)⟩
                    · rw [if_neg c40] at H
                      exact absurd H (by simp)
                  · rw [if_neg c39] at H
                    exact absurd H (by simp)
                · rw [if_neg c38] at H
                  exact absurd H (by simp)
              · rw [if_neg c35] at H
                exact absurd H (by simp)
            · rw [if_neg c34] at H
              exact absurd H (by simp)
        · rw [if_neg c21] at H
          exact absurd H (by simp)
      · rw [if_neg c19] at H
        exact absurd H (by simp)
    · rw [if_neg c18] at H
      exact absurd H (by simp)

end Go.Proofs.YtjappgjpikbdeaaGreatDoor.PTkk
