-- written by wip/myprint.py over the kit's print; not a printed text of print.sh
import Derived.Test.YtcbaojkfffodiaaPJoux0
import Derived.Test.YtcbaojkfffodiaaPJoux2
namespace Go.Proofs.Ytcbaojkfffodiaa.PJou
open Go.RowKit Go.Proofs.YtcbaojkfffodiaaW.PrintWords Go.Proofs.YtcbaojkfffodiaaW.PrintLast Go.Proofs.YtcbaojkfffodiaaW.PrintMore
attribute [local go_sem] max2_int min2_int max_two min_two max_three min_three max_four min_four   -- for this text's walks alone
set_option linter.unusedVariables false
set_option linter.unusedSimpArgs false

/-! ### footbridgeref09_Set: function 24 -/
def footbridgeref09_Set.f (k : Nat) (l0 : List (S51)) (a1 : ByteArray) (a2 : ByteArray) : Option ((List (S51)) × Bool) := (footbridgeref09_at.f k l0 a1).bind fun t108 => (if t108 = (l0.length : Int) then (if 0 ≤ t108 then (if t108 ≤ (l0.length : Int) then ((some (l0.drop (t108 : Int).toNat : List (S51))).bind fun y109 => ((some (l0.take (t108 : Int).toNat : List (S51))).bind fun y113 => (if ([] : List (S51)).length + y113.length < 4398046511104 then ((some (([] : List (S51)) ++ y113 : List (S51))).bind fun y117 => (if y117.length < 4398046511104 then ((some (y117 ++ [(⟨a1, a2⟩ : S51)] : List (S51))).bind fun y120 => (if y120.length + y109.length < 4398046511104 then (some ((y120 ++ y109), true)) else (none))) else (none))) else (none)))) else (none)) else (none)) else (if 0 ≤ t108 then (if t108 < (l0.length : Int) then (if t108 ≤ (l0.length : Int) then ((some (l0.drop (t108 : Int).toNat : List (S51))).bind fun y127 => (if (¬ ((rd_T51 l0 t108).f0).toList = a1.toList) then ((some (l0.take (t108 : Int).toNat : List (S51))).bind fun y131 => (if ([] : List (S51)).length + y131.length < 4398046511104 then ((some (([] : List (S51)) ++ y131 : List (S51))).bind fun y135 => (if y135.length < 4398046511104 then ((some (y135 ++ [(⟨a1, a2⟩ : S51)] : List (S51))).bind fun y138 => (if y138.length + y127.length < 4398046511104 then (some ((y138 ++ y127), (((rd_T51 l0 t108).f0).toList != a1.toList))) else (none))) else (none))) else (none))) else (if 0 ≤ (wrap64 (t108 + 1)) then (if (wrap64 (t108 + 1)) ≤ (l0.length : Int) then ((some (l0.drop ((wrap64 (t108 + 1)) : Int).toNat : List (S51))).bind fun y144 => ((some (l0.take (t108 : Int).toNat : List (S51))).bind fun y148 => (if ([] : List (S51)).length + y148.length < 4398046511104 then ((some (([] : List (S51)) ++ y148 : List (S51))).bind fun y152 => (if y152.length < 4398046511104 then ((some (y152 ++ [(⟨a1, a2⟩ : S51)] : List (S51))).bind fun y155 => (if y155.length + y144.length < 4398046511104 then (some ((y155 ++ y144), (((rd_T51 l0 t108).f0).toList != a1.toList))) else (none))) else (none))) else (none)))) else (none)) else (none)))) else (none)) else (none)) else (none)))
theorem footbridgeref09_Set.mono : ∀ a0 a1 a2 k, LeO (footbridgeref09_Set.f k a0 a1 a2) (footbridgeref09_Set.f (k + 1) a0 a1 a2) := by
  intro a0 a1 a2 k
  unfold footbridgeref09_Set.f
  repeat' first
      | (with_reducible exact footbridgeref09_at.mono _ _ _)
      | (with_reducible exact LeO.refl _)
      | (with_reducible exact LeO.none _)
      | (with_reducible refine LeO.ite ?_ ?_)
      | (with_reducible refine LeO.bind ?_ (fun _ => ?_))
      | exact footbridgeref09_at.mono _ _ _
      | exact LeO.none _
      | refine LeO.ite ?_ ?_
      | refine LeO.bind ?_ (fun _ => ?_)
set_option maxHeartbeats 8000000 in
set_option maxRecDepth 100000 in
theorem footbridgeref09_Set.calls (k : Nat) (A0 : Option Addr) (c0 : Nat) (l0 : List (S51)) (a1 : ByteArray) (a2 : ByteArray) (r1 : List (S51)) (r2 : Bool) (w : World) (hr0 : Kd.C k51 w A0 l0.length l0) (hc0 : l0.length ≤ c0) (h : footbridgeref09_Set.f k l0 a1 a2 = some (r1, r2)) :
    Calls Try.prog 24 #[.slice A0 l0.length c0, .string a1, .string a2] w fun e w' => ∃ v0_ : Value, e = .returned (.tuple #[v0_, .bool r2]) ∧ Kd.R k51 51 w' w.heap.size (fun _ => True) v0_ r1 ∧ Below w.heap.size w w' := by
  have hu51 := Try.underlying51
  have HR0 := Aside0.mk hr0
  have HC0 := Aside0.mk hc0
  clear hr0 hc0
  have HB := Aside0.mk (Below.refl w.heap.size w)
  have H : ((footbridgeref09_at.f k l0 a1).bind fun t108 => (if t108 = (l0.length : Int) then (if 0 ≤ t108 then (if t108 ≤ (l0.length : Int) then ((some (l0.drop (t108 : Int).toNat : List (S51))).bind fun y109 => ((some (l0.take (t108 : Int).toNat : List (S51))).bind fun y113 => (if ([] : List (S51)).length + y113.length < 4398046511104 then ((some (([] : List (S51)) ++ y113 : List (S51))).bind fun y117 => (if y117.length < 4398046511104 then ((some (y117 ++ [(⟨a1, a2⟩ : S51)] : List (S51))).bind fun y120 => (if y120.length + y109.length < 4398046511104 then (some ((y120 ++ y109), true)) else (none))) else (none))) else (none)))) else (none)) else (none)) else (if 0 ≤ t108 then (if t108 < (l0.length : Int) then (if t108 ≤ (l0.length : Int) then ((some (l0.drop (t108 : Int).toNat : List (S51))).bind fun y127 => (if (¬ ((rd_T51 l0 t108).f0).toList = a1.toList) then ((some (l0.take (t108 : Int).toNat : List (S51))).bind fun y131 => (if ([] : List (S51)).length + y131.length < 4398046511104 then ((some (([] : List (S51)) ++ y131 : List (S51))).bind fun y135 => (if y135.length < 4398046511104 then ((some (y135 ++ [(⟨a1, a2⟩ : S51)] : List (S51))).bind fun y138 => (if y138.length + y127.length < 4398046511104 then (some ((y138 ++ y127), (((rd_T51 l0 t108).f0).toList != a1.toList))) else (none))) else (none))) else (none))) else (if 0 ≤ (wrap64 (t108 + 1)) then (if (wrap64 (t108 + 1)) ≤ (l0.length : Int) then ((some (l0.drop ((wrap64 (t108 + 1)) : Int).toNat : List (S51))).bind fun y144 => ((some (l0.take (t108 : Int).toNat : List (S51))).bind fun y148 => (if ([] : List (S51)).length + y148.length < 4398046511104 then ((some (([] : List (S51)) ++ y148 : List (S51))).bind fun y152 => (if y152.length < 4398046511104 then ((some (y152 ++ [(⟨a1, a2⟩ : S51)] : List (S51))).bind fun y155 => (if y155.length + y144.length < 4398046511104 then (some ((y155 ++ y144), (((rd_T51 l0 t108).f0).toList != a1.toList))) else (none))) else (none))) else (none)))) else (none)) else (none)))) else (none)) else (none)) else (none)))) = some (r1, r2) := h
  clear h
  replace H := Option.bind_eq_some_iff.mp H
  obtain ⟨t108, A40, H⟩ := H
  replace H : (if t108 = (l0.length : Int) then (if 0 ≤ t108 then (if t108 ≤ (l0.length : Int) then ((some (l0.drop (t108 : Int).toNat : List (S51))).bind fun y109 => ((some (l0.take (t108 : Int).toNat : List (S51))).bind fun y113 => (if ([] : List (S51)).length + y113.length < 4398046511104 then ((some (([] : List (S51)) ++ y113 : List (S51))).bind fun y117 => (if y117.length < 4398046511104 then ((some (y117 ++ [(⟨a1, a2⟩ : S51)] : List (S51))).bind fun y120 => (if y120.length + y109.length < 4398046511104 then (some ((y120 ++ y109), true)) else (none))) else (none))) else (none)))) else (none)) else (none)) else (if 0 ≤ t108 then (if t108 < (l0.length : Int) then (if t108 ≤ (l0.length : Int) then ((some (l0.drop (t108 : Int).toNat : List (S51))).bind fun y127 => (if (¬ ((rd_T51 l0 t108).f0).toList = a1.toList) then ((some (l0.take (t108 : Int).toNat : List (S51))).bind fun y131 => (if ([] : List (S51)).length + y131.length < 4398046511104 then ((some (([] : List (S51)) ++ y131 : List (S51))).bind fun y135 => (if y135.length < 4398046511104 then ((some (y135 ++ [(⟨a1, a2⟩ : S51)] : List (S51))).bind fun y138 => (if y138.length + y127.length < 4398046511104 then (some ((y138 ++ y127), (((rd_T51 l0 t108).f0).toList != a1.toList))) else (none))) else (none))) else (none))) else (if 0 ≤ (wrap64 (t108 + 1)) then (if (wrap64 (t108 + 1)) ≤ (l0.length : Int) then ((some (l0.drop ((wrap64 (t108 + 1)) : Int).toNat : List (S51))).bind fun y144 => ((some (l0.take (t108 : Int).toNat : List (S51))).bind fun y148 => (if ([] : List (S51)).length + y148.length < 4398046511104 then ((some (([] : List (S51)) ++ y148 : List (S51))).bind fun y152 => (if y152.length < 4398046511104 then ((some (y152 ++ [(⟨a1, a2⟩ : S51)] : List (S51))).bind fun y155 => (if y155.length + y144.length < 4398046511104 then (some ((y155 ++ y144), (((rd_T51 l0 t108).f0).toList != a1.toList))) else (none))) else (none))) else (none)))) else (none)) else (none)))) else (none)) else (none)) else (none))) = some (r1, r2) := H
  have A4 := Aside0.mk A40
  clear A40
  by_cases c5 : t108 = (l0.length : Int)
  · rw [if_pos c5] at H
    have c5b0 : (t108 == (l0.length : Int)) = true := beq_iff_eq.mpr c5
    have c5b1 : (t108 != (l0.length : Int)) = false := bne_eq_false_iff_eq.mpr c5
    clear c5
    by_cases c6 : 0 ≤ t108
    · rw [if_pos c6] at H
      have c6b0 := eq_true c6
      have c6b1 : decide (0 ≤ t108) = true := decide_eq_true c6
      clear c6
      by_cases c7 : t108 ≤ (l0.length : Int)
      · rw [if_pos c7] at H
        have c7b0 := eq_true c7
        have c7b1 : decide (t108 ≤ (l0.length : Int)) = true := decide_eq_true c7
        clear c7
        obtain ⟨y109, hy109⟩ : ∃ y_ : List (S51), y_ = (l0.drop (t108 : Int).toNat) := ⟨_, rfl⟩
        replace H : ((some (l0.take (t108 : Int).toNat : List (S51))).bind fun y113 => (if ([] : List (S51)).length + y113.length < 4398046511104 then ((some (([] : List (S51)) ++ y113 : List (S51))).bind fun y117 => (if y117.length < 4398046511104 then ((some (y117 ++ [(⟨a1, a2⟩ : S51)] : List (S51))).bind fun y120 => (if y120.length + y109.length < 4398046511104 then (some ((y120 ++ y109), true)) else (none))) else (none))) else (none))) = some (r1, r2) := by first | (rw [hy109]; with_reducible exact H) | (have H2_ := (Option.bind_some _ _).symm.trans H; rw [hy109]; with_reducible exact H2_) | (have H2_ := (Option.bind_some _ _).symm.trans H; with_reducible exact H2_) | with_reducible exact H | (rw [hy109]; exact H) | exact H
        have Ny109 := Aside0.mk hy109
        clear hy109
        have c8b0 := eq_true (of_decide_eq_true (by first | (with_reducible assumption) | assumption) : 0 ≤ t108)
        have c9b0 := eq_true (of_decide_eq_true (by first | (with_reducible assumption) | assumption) : t108 ≤ (l0.length : Int))
        obtain ⟨y113, hy113⟩ : ∃ y_ : List (S51), y_ = (l0.take (t108 : Int).toNat) := ⟨_, rfl⟩
        replace H : (if ([] : List (S51)).length + y113.length < 4398046511104 then ((some (([] : List (S51)) ++ y113 : List (S51))).bind fun y117 => (if y117.length < 4398046511104 then ((some (y117 ++ [(⟨a1, a2⟩ : S51)] : List (S51))).bind fun y120 => (if y120.length + y109.length < 4398046511104 then (some ((y120 ++ y109), true)) else (none))) else (none))) else (none)) = some (r1, r2) := by first | (rw [hy113]; with_reducible exact H) | (have H2_ := (Option.bind_some _ _).symm.trans H; rw [hy113]; with_reducible exact H2_) | (have H2_ := (Option.bind_some _ _).symm.trans H; with_reducible exact H2_) | with_reducible exact H | (rw [hy113]; exact H) | exact H
        have Ny113 := Aside0.mk hy113
        clear hy113
        by_cases c10 : ([] : List (S51)).length + y113.length < 4398046511104
        · rw [if_pos c10] at H
          have LMc10 := Aside0.mk c10
          clear c10
          obtain ⟨y117, hy117⟩ : ∃ y_ : List (S51), y_ = (([] : List (S51)) ++ y113) := ⟨_, rfl⟩
          replace H : (if y117.length < 4398046511104 then ((some (y117 ++ [(⟨a1, a2⟩ : S51)] : List (S51))).bind fun y120 => (if y120.length + y109.length < 4398046511104 then (some ((y120 ++ y109), true)) else (none))) else (none)) = some (r1, r2) := by first | (rw [hy117]; with_reducible exact H) | (have H2_ := (Option.bind_some _ _).symm.trans H; rw [hy117]; with_reducible exact H2_) | (have H2_ := (Option.bind_some _ _).symm.trans H; with_reducible exact H2_) | with_reducible exact H | (rw [hy117]; exact H) | exact H
          have Ny117 := Aside0.mk hy117
          clear hy117
          by_cases c11 : y117.length < 4398046511104
          · rw [if_pos c11] at H
            have LMc11 := Aside0.mk c11
            clear c11
            obtain ⟨y120, hy120⟩ : ∃ y_ : List (S51), y_ = (y117 ++ [(⟨a1, a2⟩ : S51)]) := ⟨_, rfl⟩
            replace H : (if y120.length + y109.length < 4398046511104 then (some ((y120 ++ y109), true)) else (none)) = some (r1, r2) := by first | (rw [hy120]; with_reducible exact H) | (have H2_ := (Option.bind_some _ _).symm.trans H; rw [hy120]; with_reducible exact H2_) | (have H2_ := (Option.bind_some _ _).symm.trans H; with_reducible exact H2_) | with_reducible exact H | (rw [hy120]; exact H) | exact H
            have Ny120 := Aside0.mk hy120
            clear hy120
            by_cases c12 : y120.length + y109.length < 4398046511104
            · rw [if_pos c12] at H
              have LMc12 := Aside0.mk c12
              clear c12
              obtain ⟨y123, hy123⟩ : ∃ y_ : List (S51), y_ = (y120 ++ y109) := ⟨_, rfl⟩
              replace H : (some (y123, true)) = some (r1, r2) := by first | (rw [hy123]; with_reducible exact H) | (have H2_ := (Option.bind_some _ _).symm.trans H; rw [hy123]; with_reducible exact H2_) | (have H2_ := (Option.bind_some _ _).symm.trans H; with_reducible exact H2_) | with_reducible exact H | (rw [hy123]; exact H) | exact H
              have Ny123 := Aside0.mk hy123
              clear hy123
              simp only [Option.some.injEq, Prod.mk.injEq] at H
              obtain ⟨rfl, rfl⟩ := H
              go_enter Try.func24, Try.ntmps24
              go_wp2_with (first | ((with_reducible refine gate_callee (f := 28) rfl ?_); refine goesL_ (some 14) rfl rfl Try.func28 (by kernel_rfl) rfl #[.slice A0 l0.length c0, .string a1] rfl (by (try simp only [List.map_toArray, List.map_cons, List.map_nil]); first | done | rfl | (simp only [List.length_drop, List.length_take]; rfl)) ?_; (with_reducible refine (footbridgeref09_at.calls k _ _ l0 a1 t108 _ ?side1 ?side2 A4.out).mono ?_); (case side1 => repeat (first | exact HR0.out | (with_reducible refine Kd.C_alloc ?_ _) | (with_reducible refine Kd.C_drewN ?_ _) | (with_reducible refine Kd.C_drew ?_))); (case side2 => exact HC0.out); rintro e w' ⟨rfl, ⟨nd, rfl⟩⟩; refine ⟨_, rfl, ?_⟩; have q13 : (t108 : Int) ≤ ((l0.length : Int) : Int) := of_decide_eq_true (by first | (with_reducible assumption) | assumption); obtain ⟨i013, hi013, _, hsz13, _⟩ := info_parts info51; have hroom13 : l0.length ≤ c0 := HC0.out; have hC13 : Kd.C k51 _ A0 l0.length l0 := HR0.out; have q013 : (0 : Int) ≤ (t108 : Int) := of_decide_eq_true (by first | (with_reducible assumption) | assumption); have hcut13 := cut_from (P := Try.prog) 26 51 .i64 Try.underlying26 hi013 2 hsz13 A0 l0.length c0 t108 q013 q13; have hr13 := Kd.C_drop (m := (t108 : Int).toNat) (c := c0) hC13 (by omega) hroom13; obtain ⟨A13, hA13⟩ : ∃ A1, A1 = (if c0 = (t108 : Int).toNat then A0 else (A0 : Option Addr).map (·.add ((t108 : Int).toNat * 2))) := ⟨_, rfl⟩; obtain ⟨c13, hc13⟩ : ∃ c1, c1 = c0 - (t108 : Int).toNat := ⟨_, rfl⟩; have hy13 : y109.length = l0.length - (t108 : Int).toNat := (by rw [Ny109.out, List.length_drop] <;> omega); rw [show (l0).drop (t108 : Int).toNat = y109 from Ny109.out.symm] at hr13; replace hr13 : Kd.C k51 _ A13 y109.length y109 := (by rw [hA13]; exact hr13); rw [← hy13, ← hA13, ← hc13] at hcut13; have HR112 := Aside0.mk hr13; have HC112 := Aside0.mk (show y109.length ≤ c13 from by rw [hy13, hc13]; exact Nat.sub_le_sub_right hroom13 _); clear hr13 hC13 hroom13 hi013 hsz13 hc13; have KY13 := Aside0.mk hy13; have KA13 := Aside0.mk hA13; clear hy13 hA13; replace q13 := eq_true q13; have q14 : (t108 : Int) ≤ ((l0.length : Int) : Int) := of_decide_eq_true (by first | (with_reducible assumption) | assumption); obtain ⟨i014, hi014, _, hsz14, _⟩ := info_parts info51; have hroom14 : l0.length ≤ c0 := HC0.out; have hC14 : Kd.C k51 _ A0 l0.length l0 := HR0.out; have hcut14 := cut_to (P := Try.prog) 26 51 .i64 Try.underlying26 hi014 A0 l0.length c0 t108 (of_decide_eq_true (by first | (with_reducible assumption) | assumption)) q14 hroom14; have hr14 := Kd.C_take (m := (t108 : Int).toNat) hC14 (by omega); have hy14 : y113.length = (t108 : Int).toNat := (by rw [Ny113.out, List.length_take]; omega); rw [← Ny113.out] at hr14; rw [← hy14] at hcut14; have HR116 := Aside0.mk hr14; have HC116 := Aside0.mk (show y113.length ≤ c0 from by omega); clear hr14 hC14 hroom14 hi014 hsz14; have KY14 := Aside0.mk hy14; clear hy14; replace q14 := eq_true q14) | ((with_reducible refine gate_builtin (b := .append) (xs := #[.tmp 37, .tmp 40]) rfl ?_); at_builtin; refine Kd.R_append_rows k51 (w0 := w) w.heap.size rfl (.tmp 37) (.tmp 40) 26 51 (.agg #[(.string ⟨#[]⟩), (.string ⟨#[]⟩)]) 32 rfl Try.underlying26 info51 rfl (by decide) (by omega) (.slice none 0 0) ([] : List (S51)) y113 _ _ _ (fun _ => True) (fun _ => False) rfl rfl ?aO ?aR (fun _ _ h => h) (fun _ h => h.elim) ?aF ?aB ?aS ?aL ?_; (case aR => repeat (first | exact HR116.out | (with_reducible refine Kd.C_alloc ?_ _) | (with_reducible refine Kd.C_drewN ?_ _) | (with_reducible refine Kd.C_drew ?_))); (case aB => exact (by repeat (first | (with_reducible first | exact HB.out | apply below_alloc | apply pw_below_drewN | apply below_drew1) | exact HB.out))); (case aF => exact (fun _ _ => trivial)); (case aO => exact ((Kd.R_nil _ _ _ _ (fun _ => True)))); (case aS => exact (below_size (by repeat (first | (with_reducible first | exact HB.out | apply below_alloc | apply pw_below_drewN | apply below_drew1) | exact HB.out)))); (case aL => have := LMc10.out; omega); intro v118 w15 ho hb hg hat; rw [← Ny117.out] at ho; have n0_ := Aside0.mk (hb); have n1_ := Aside0.mk (ho); clear HB; have HB := n0_; have HO119 := n1_; clear n0_ n1_; clear ho hb hg hat) | ((with_reducible refine gate_builtin (b := .append) (xs := #[.tmp 42, .tmp 46]) rfl ?_); at_builtin; refine Kd.R_append k51 (w0 := w) w.heap.size rfl (.tmp 42) (.tmp 46) 26 51 (.agg #[(.string ⟨#[]⟩), (.string ⟨#[]⟩)]) 32 rfl Try.underlying26 info51 rfl (by decide) (by omega) v118 y117 (⟨a1, a2⟩ : S51) [.string a1, .string a2] (fun _ => True) (fun _ => False) rfl rfl ?aP (fun _ hk => hk.elim) ?aF ?aO ?aB ?aS ?aL ?_; (case aP => exact k51_mkM _ _ _ (⟨a1, a2⟩ : S51)); (case aB => exact (by repeat (first | (with_reducible first | exact HB.out | apply below_alloc | apply pw_below_drewN | apply below_drew1) | exact HB.out))); (case aF => exact (fun _ _ => trivial)); (case aO => exact (by (with_reducible repeat (first | apply Kd.R_alloc | apply Kd.R_drewN | apply Kd.R_drew)); exact HO119.out)); (case aS => exact (below_size (by repeat (first | (with_reducible first | exact HB.out | apply below_alloc | apply pw_below_drewN | apply below_drew1) | exact HB.out)))); (case aL => have := LMc11.out; omega); intro v121 w16 ho hb hg hat; rw [← Ny120.out] at ho; have n0_ := Aside0.mk (hb); have n1_ := Aside0.mk (ho); clear HB; clear HO119; have HB := n0_; have HO122 := n1_; clear n0_ n1_; clear ho hb hg hat) | ((with_reducible refine gate_builtin (b := .append) (xs := #[.tmp 48, .tmp 49]) rfl ?_); at_builtin; refine Kd.R_append_rows k51 (w0 := w) w.heap.size rfl (.tmp 48) (.tmp 49) 26 51 (.agg #[(.string ⟨#[]⟩), (.string ⟨#[]⟩)]) 32 rfl Try.underlying26 info51 rfl (by decide) (by omega) v121 y120 y109 _ _ _ (fun _ => True) (fun _ => False) rfl rfl ?aO ?aR (fun _ _ h => h) (fun _ h => h.elim) ?aF ?aB ?aS ?aL ?_; (case aR => repeat (first | exact (Kd.C_below HR112.out HB.out) | (with_reducible refine Kd.C_alloc ?_ _) | (with_reducible refine Kd.C_drewN ?_ _) | (with_reducible refine Kd.C_drew ?_))); (case aB => exact (by repeat (first | (with_reducible first | exact HB.out | apply below_alloc | apply pw_below_drewN | apply below_drew1) | exact HB.out))); (case aF => exact (fun _ _ => trivial)); (case aO => exact (by (with_reducible repeat (first | apply Kd.R_alloc | apply Kd.R_drewN | apply Kd.R_drew)); exact HO122.out)); (case aS => exact (below_size (by repeat (first | (with_reducible first | exact HB.out | apply below_alloc | apply pw_below_drewN | apply below_drew1) | exact HB.out)))); (case aL => have := LMc12.out; omega); intro v124 w17 ho hb hg hat; rw [← Ny123.out] at ho; have n0_ := Aside0.mk (hb); have n1_ := Aside0.mk (ho); clear HB; clear HO122; have HB := n0_; have HO125 := n1_; clear n0_ n1_; clear ho hb hg hat))
              go_ret2
              exact ⟨_, by first | rfl | (simp [errW_none, errW_some] <;> rfl) | (simp [*, errW_none, errW_some] <;> rfl), by (with_reducible repeat (first | apply Kd.R_alloc | apply Kd.R_drewN | apply Kd.R_drew)); exact HO125.out, by repeat (first | (with_reducible first | exact HB.out | apply below_alloc | apply pw_below_drewN | apply below_drew1) | exact HB.out)⟩
            · rw [if_neg c12] at H
              exact absurd H (by simp)
          · rw [if_neg c11] at H
            exact absurd H (by simp)
        · rw [if_neg c10] at H
          exact absurd H (by simp)
      · rw [if_neg c7] at H
        exact absurd H (by simp)
    · rw [if_neg c6] at H
      exact absurd H (by simp)
  · rw [if_neg c5] at H
    have c5b0 : (t108 == (l0.length : Int)) = false := beq_eq_false_iff_ne.mpr c5
    have c5b1 : (t108 != (l0.length : Int)) = true := bne_iff_ne.mpr c5
    by_cases c18 : 0 ≤ t108
    · rw [if_pos c18] at H
      have c18b0 : decide (0 ≤ t108) = true := decide_eq_true c18
      clear c18
      by_cases c19 : t108 < (l0.length : Int)
      · rw [if_pos c19] at H
        have c19b0 : decide (t108 < (l0.length : Int)) = true := decide_eq_true c19
        clear c19
        have c20b0 := eq_true (of_decide_eq_true (by first | (with_reducible assumption) | assumption) : 0 ≤ t108)
        by_cases c21 : t108 ≤ (l0.length : Int)
        · rw [if_pos c21] at H
          have c21b0 := eq_true c21
          have c21b1 : decide (t108 ≤ (l0.length : Int)) = true := decide_eq_true c21
          clear c21
          obtain ⟨y127, hy127⟩ : ∃ y_ : List (S51), y_ = (l0.drop (t108 : Int).toNat) := ⟨_, rfl⟩
          replace H : (if (¬ ((rd_T51 l0 t108).f0).toList = a1.toList) then ((some (l0.take (t108 : Int).toNat : List (S51))).bind fun y131 => (if ([] : List (S51)).length + y131.length < 4398046511104 then ((some (([] : List (S51)) ++ y131 : List (S51))).bind fun y135 => (if y135.length < 4398046511104 then ((some (y135 ++ [(⟨a1, a2⟩ : S51)] : List (S51))).bind fun y138 => (if y138.length + y127.length < 4398046511104 then (some ((y138 ++ y127), (((rd_T51 l0 t108).f0).toList != a1.toList))) else (none))) else (none))) else (none))) else (if 0 ≤ (wrap64 (t108 + 1)) then (if (wrap64 (t108 + 1)) ≤ (l0.length : Int) then ((some (l0.drop ((wrap64 (t108 + 1)) : Int).toNat : List (S51))).bind fun y144 => ((some (l0.take (t108 : Int).toNat : List (S51))).bind fun y148 => (if ([] : List (S51)).length + y148.length < 4398046511104 then ((some (([] : List (S51)) ++ y148 : List (S51))).bind fun y152 => (if y152.length < 4398046511104 then ((some (y152 ++ [(⟨a1, a2⟩ : S51)] : List (S51))).bind fun y155 => (if y155.length + y144.length < 4398046511104 then (some ((y155 ++ y144), (((rd_T51 l0 t108).f0).toList != a1.toList))) else (none))) else (none))) else (none)))) else (none)) else (none))) = some (r1, r2) := by first | (rw [hy127]; with_reducible exact H) | (have H2_ := (Option.bind_some _ _).symm.trans H; rw [hy127]; with_reducible exact H2_) | (have H2_ := (Option.bind_some _ _).symm.trans H; with_reducible exact H2_) | with_reducible exact H | (rw [hy127]; exact H) | exact H
          have Ny127 := Aside0.mk hy127
          clear hy127
          by_cases c22 : (¬ ((rd_T51 l0 t108).f0).toList = a1.toList)
          · rw [if_pos c22] at H
            have c22b0 : (((rd_T51 l0 t108).f0).toList == a1.toList) = false := beq_eq_false_iff_ne.mpr c22
            have c22b1 : (((rd_T51 l0 t108).f0).toList != a1.toList) = true := bne_iff_ne.mpr c22
            clear c22
            have c23b0 := eq_true (of_decide_eq_true (by first | (with_reducible assumption) | assumption) : 0 ≤ t108)
            have c24b0 := eq_true (of_decide_eq_true (by first | (with_reducible assumption) | assumption) : t108 ≤ (l0.length : Int))
            obtain ⟨y131, hy131⟩ : ∃ y_ : List (S51), y_ = (l0.take (t108 : Int).toNat) := ⟨_, rfl⟩
            replace H : (if ([] : List (S51)).length + y131.length < 4398046511104 then ((some (([] : List (S51)) ++ y131 : List (S51))).bind fun y135 => (if y135.length < 4398046511104 then ((some (y135 ++ [(⟨a1, a2⟩ : S51)] : List (S51))).bind fun y138 => (if y138.length + y127.length < 4398046511104 then (some ((y138 ++ y127), (((rd_T51 l0 t108).f0).toList != a1.toList))) else (none))) else (none))) else (none)) = some (r1, r2) := by first | (rw [hy131]; with_reducible exact H) | (have H2_ := (Option.bind_some _ _).symm.trans H; rw [hy131]; with_reducible exact H2_) | (have H2_ := (Option.bind_some _ _).symm.trans H; with_reducible exact H2_) | with_reducible exact H | (rw [hy131]; exact H) | exact H
            have Ny131 := Aside0.mk hy131
            clear hy131
            by_cases c25 : ([] : List (S51)).length + y131.length < 4398046511104
            · rw [if_pos c25] at H
              have LMc25 := Aside0.mk c25
              clear c25
              obtain ⟨y135, hy135⟩ : ∃ y_ : List (S51), y_ = (([] : List (S51)) ++ y131) := ⟨_, rfl⟩
              replace H : (if y135.length < 4398046511104 then ((some (y135 ++ [(⟨a1, a2⟩ : S51)] : List (S51))).bind fun y138 => (if y138.length + y127.length < 4398046511104 then (some ((y138 ++ y127), (((rd_T51 l0 t108).f0).toList != a1.toList))) else (none))) else (none)) = some (r1, r2) := by first | (rw [hy135]; with_reducible exact H) | (have H2_ := (Option.bind_some _ _).symm.trans H; rw [hy135]; with_reducible exact H2_) | (have H2_ := (Option.bind_some _ _).symm.trans H; with_reducible exact H2_) | with_reducible exact H | (rw [hy135]; exact H) | exact H
              have Ny135 := Aside0.mk hy135
              clear hy135
              by_cases c26 : y135.length < 4398046511104
              · rw [if_pos c26] at H
                have LMc26 := Aside0.mk c26
                clear c26
                obtain ⟨y138, hy138⟩ : ∃ y_ : List (S51), y_ = (y135 ++ [(⟨a1, a2⟩ : S51)]) := ⟨_, rfl⟩
                replace H : (if y138.length + y127.length < 4398046511104 then (some ((y138 ++ y127), (((rd_T51 l0 t108).f0).toList != a1.toList))) else (none)) = some (r1, r2) := by first | (rw [hy138]; with_reducible exact H) | (have H2_ := (Option.bind_some _ _).symm.trans H; rw [hy138]; with_reducible exact H2_) | (have H2_ := (Option.bind_some _ _).symm.trans H; with_reducible exact H2_) | with_reducible exact H | (rw [hy138]; exact H) | exact H
                have Ny138 := Aside0.mk hy138
                clear hy138
                by_cases c27 : y138.length + y127.length < 4398046511104
                · rw [if_pos c27] at H
                  have LMc27 := Aside0.mk c27
                  clear c27
                  obtain ⟨y141, hy141⟩ : ∃ y_ : List (S51), y_ = (y138 ++ y127) := ⟨_, rfl⟩
                  replace H : (some (y141, (((rd_T51 l0 t108).f0).toList != a1.toList))) = some (r1, r2) := by first | (rw [hy141]; with_reducible exact H) | (have H2_ := (Option.bind_some _ _).symm.trans H; rw [hy141]; with_reducible exact H2_) | (have H2_ := (Option.bind_some _ _).symm.trans H; with_reducible exact H2_) | with_reducible exact H | (rw [hy141]; exact H) | exact H
                  have Ny141 := Aside0.mk hy141
                  clear hy141
                  simp only [Option.some.injEq, Prod.mk.injEq] at H
                  obtain ⟨rfl, rfl⟩ := H
                  go_enter Try.func24, Try.ntmps24
                  go_wp2_with (first | ((with_reducible refine gate_callee (f := 28) rfl ?_); refine goesL_ (some 14) rfl rfl Try.func28 (by kernel_rfl) rfl #[.slice A0 l0.length c0, .string a1] rfl (by (try simp only [List.map_toArray, List.map_cons, List.map_nil]); first | done | rfl | (simp only [List.length_drop, List.length_take]; rfl)) ?_; (with_reducible refine (footbridgeref09_at.calls k _ _ l0 a1 t108 _ ?side1 ?side2 A4.out).mono ?_); (case side1 => repeat (first | exact HR0.out | (with_reducible refine Kd.C_alloc ?_ _) | (with_reducible refine Kd.C_drewN ?_ _) | (with_reducible refine Kd.C_drew ?_))); (case side2 => exact HC0.out); rintro e w' ⟨rfl, ⟨nd, rfl⟩⟩; refine ⟨_, rfl, ?_⟩; have p126 : 0 ≤ (t108 : Int) := of_decide_eq_true (by first | (with_reducible assumption) | assumption); have q126 : t108 < (l0.length : Int) := of_decide_eq_true (by first | (with_reducible assumption) | assumption); obtain ⟨ad126, e126, hx126_0, hx126_1⟩ := at_T51 HR0.out t108 p126 q126; cases e126; replace p126 := eq_true p126; replace q126 := eq_true q126; have q28 : (t108 : Int) ≤ ((l0.length : Int) : Int) := of_decide_eq_true (by first | (with_reducible assumption) | assumption); obtain ⟨i028, hi028, _, hsz28, _⟩ := info_parts info51; have hroom28 : l0.length ≤ c0 := HC0.out; have hC28 : Kd.C k51 _ (some ad126) l0.length l0 := HR0.out; have q028 : (0 : Int) ≤ (t108 : Int) := of_decide_eq_true (by first | (with_reducible assumption) | assumption); have hcut28 := cut_from (P := Try.prog) 26 51 .i64 Try.underlying26 hi028 2 hsz28 (some ad126) l0.length c0 t108 q028 q28; have hr28 := Kd.C_drop (m := (t108 : Int).toNat) (c := c0) hC28 (by omega) hroom28; obtain ⟨A28, hA28⟩ : ∃ A1, A1 = (if c0 = (t108 : Int).toNat then (some ad126) else ((some ad126) : Option Addr).map (·.add ((t108 : Int).toNat * 2))) := ⟨_, rfl⟩; obtain ⟨c28, hc28⟩ : ∃ c1, c1 = c0 - (t108 : Int).toNat := ⟨_, rfl⟩; have hy28 : y127.length = l0.length - (t108 : Int).toNat := (by rw [Ny127.out, List.length_drop] <;> omega); rw [show (l0).drop (t108 : Int).toNat = y127 from Ny127.out.symm] at hr28; replace hr28 : Kd.C k51 _ A28 y127.length y127 := (by rw [hA28]; exact hr28); rw [← hy28, ← hA28, ← hc28] at hcut28; have HR130 := Aside0.mk hr28; have HC130 := Aside0.mk (show y127.length ≤ c28 from by rw [hy28, hc28]; exact Nat.sub_le_sub_right hroom28 _); clear hr28 hC28 hroom28 hi028 hsz28 hc28; have KY28 := Aside0.mk hy28; have KA28 := Aside0.mk hA28; clear hy28 hA28; replace q28 := eq_true q28; have q29 : (t108 : Int) ≤ ((l0.length : Int) : Int) := of_decide_eq_true (by first | (with_reducible assumption) | assumption); obtain ⟨i029, hi029, _, hsz29, _⟩ := info_parts info51; have hroom29 : l0.length ≤ c0 := HC0.out; have hC29 : Kd.C k51 _ (some ad126) l0.length l0 := HR0.out; have hcut29 := cut_to (P := Try.prog) 26 51 .i64 Try.underlying26 hi029 (some ad126) l0.length c0 t108 (of_decide_eq_true (by first | (with_reducible assumption) | assumption)) q29 hroom29; have hr29 := Kd.C_take (m := (t108 : Int).toNat) hC29 (by omega); have hy29 : y131.length = (t108 : Int).toNat := (by rw [Ny131.out, List.length_take]; omega); rw [← Ny131.out] at hr29; rw [← hy29] at hcut29; have HR134 := Aside0.mk hr29; have HC134 := Aside0.mk (show y131.length ≤ c0 from by omega); clear hr29 hC29 hroom29 hi029 hsz29; have KY29 := Aside0.mk hy29; clear hy29; replace q29 := eq_true q29) | ((with_reducible refine gate_builtin (b := .append) (xs := #[.tmp 37, .tmp 40]) rfl ?_); at_builtin; refine Kd.R_append_rows k51 (w0 := w) w.heap.size rfl (.tmp 37) (.tmp 40) 26 51 (.agg #[(.string ⟨#[]⟩), (.string ⟨#[]⟩)]) 32 rfl Try.underlying26 info51 rfl (by decide) (by omega) (.slice none 0 0) ([] : List (S51)) y131 _ _ _ (fun _ => True) (fun _ => False) rfl rfl ?aO ?aR (fun _ _ h => h) (fun _ h => h.elim) ?aF ?aB ?aS ?aL ?_; (case aR => repeat (first | exact HR134.out | (with_reducible refine Kd.C_alloc ?_ _) | (with_reducible refine Kd.C_drewN ?_ _) | (with_reducible refine Kd.C_drew ?_))); (case aB => exact (by repeat (first | (with_reducible first | exact HB.out | apply below_alloc | apply pw_below_drewN | apply below_drew1) | exact HB.out))); (case aF => exact (fun _ _ => trivial)); (case aO => exact ((Kd.R_nil _ _ _ _ (fun _ => True)))); (case aS => exact (below_size (by repeat (first | (with_reducible first | exact HB.out | apply below_alloc | apply pw_below_drewN | apply below_drew1) | exact HB.out)))); (case aL => have := LMc25.out; omega); intro v136 w30 ho hb hg hat; rw [← Ny135.out] at ho; have n0_ := Aside0.mk (hb); have n1_ := Aside0.mk (ho); clear HB; have HB := n0_; have HO137 := n1_; clear n0_ n1_; clear ho hb hg hat) | ((with_reducible refine gate_builtin (b := .append) (xs := #[.tmp 42, .tmp 46]) rfl ?_); at_builtin; refine Kd.R_append k51 (w0 := w) w.heap.size rfl (.tmp 42) (.tmp 46) 26 51 (.agg #[(.string ⟨#[]⟩), (.string ⟨#[]⟩)]) 32 rfl Try.underlying26 info51 rfl (by decide) (by omega) v136 y135 (⟨a1, a2⟩ : S51) [.string a1, .string a2] (fun _ => True) (fun _ => False) rfl rfl ?aP (fun _ hk => hk.elim) ?aF ?aO ?aB ?aS ?aL ?_; (case aP => exact k51_mkM _ _ _ (⟨a1, a2⟩ : S51)); (case aB => exact (by repeat (first | (with_reducible first | exact HB.out | apply below_alloc | apply pw_below_drewN | apply below_drew1) | exact HB.out))); (case aF => exact (fun _ _ => trivial)); (case aO => exact (by (with_reducible repeat (first | apply Kd.R_alloc | apply Kd.R_drewN | apply Kd.R_drew)); exact HO137.out)); (case aS => exact (below_size (by repeat (first | (with_reducible first | exact HB.out | apply below_alloc | apply pw_below_drewN | apply below_drew1) | exact HB.out)))); (case aL => have := LMc26.out; omega); intro v139 w31 ho hb hg hat; rw [← Ny138.out] at ho; have n0_ := Aside0.mk (hb); have n1_ := Aside0.mk (ho); clear HB; clear HO137; have HB := n0_; have HO140 := n1_; clear n0_ n1_; clear ho hb hg hat) | ((with_reducible refine gate_builtin (b := .append) (xs := #[.tmp 48, .tmp 49]) rfl ?_); at_builtin; refine Kd.R_append_rows k51 (w0 := w) w.heap.size rfl (.tmp 48) (.tmp 49) 26 51 (.agg #[(.string ⟨#[]⟩), (.string ⟨#[]⟩)]) 32 rfl Try.underlying26 info51 rfl (by decide) (by omega) v139 y138 y127 _ _ _ (fun _ => True) (fun _ => False) rfl rfl ?aO ?aR (fun _ _ h => h) (fun _ h => h.elim) ?aF ?aB ?aS ?aL ?_; (case aR => repeat (first | exact (Kd.C_below HR130.out HB.out) | (with_reducible refine Kd.C_alloc ?_ _) | (with_reducible refine Kd.C_drewN ?_ _) | (with_reducible refine Kd.C_drew ?_))); (case aB => exact (by repeat (first | (with_reducible first | exact HB.out | apply below_alloc | apply pw_below_drewN | apply below_drew1) | exact HB.out))); (case aF => exact (fun _ _ => trivial)); (case aO => exact (by (with_reducible repeat (first | apply Kd.R_alloc | apply Kd.R_drewN | apply Kd.R_drew)); exact HO140.out)); (case aS => exact (below_size (by repeat (first | (with_reducible first | exact HB.out | apply below_alloc | apply pw_below_drewN | apply below_drew1) | exact HB.out)))); (case aL => have := LMc27.out; omega); intro v142 w32 ho hb hg hat; rw [← Ny141.out] at ho; have n0_ := Aside0.mk (hb); have n1_ := Aside0.mk (ho); clear HB; clear HO140; have HB := n0_; have HO143 := n1_; clear n0_ n1_; clear ho hb hg hat))
                  go_ret2
                  exact ⟨_, by first | rfl | (simp [errW_none, errW_some] <;> rfl) | (simp [*, errW_none, errW_some] <;> rfl), by (with_reducible repeat (first | apply Kd.R_alloc | apply Kd.R_drewN | apply Kd.R_drew)); exact HO143.out, by repeat (first | (with_reducible first | exact HB.out | apply below_alloc | apply pw_below_drewN | apply below_drew1) | exact HB.out)⟩
                · rw [if_neg c27] at H
                  exact absurd H (by simp)
              · rw [if_neg c26] at H
                exact absurd H (by simp)
            · rw [if_neg c25] at H
              exact absurd H (by simp)
          · rw [if_neg c22] at H
            have c22b0 : (((rd_T51 l0 t108).f0).toList == a1.toList) = true := beq_iff_eq.mpr (Decidable.not_not.mp c22)
            have c22b1 : (((rd_T51 l0 t108).f0).toList != a1.toList) = false := bne_eq_false_iff_eq.mpr (Decidable.not_not.mp c22)
            obtain ⟨ji33, hji33⟩ : ∃ j_ : Int, (wrap64 (t108 + 1)) = j_ := ⟨_, rfl⟩
            replace H : (if 0 ≤ (ji33) then (if (ji33) ≤ (l0.length : Int) then ((some (l0.drop ((ji33) : Int).toNat : List (S51))).bind fun y144 => ((some (l0.take (t108 : Int).toNat : List (S51))).bind fun y148 => (if ([] : List (S51)).length + y148.length < 4398046511104 then ((some (([] : List (S51)) ++ y148 : List (S51))).bind fun y152 => (if y152.length < 4398046511104 then ((some (y152 ++ [(⟨a1, a2⟩ : S51)] : List (S51))).bind fun y155 => (if y155.length + y144.length < 4398046511104 then (some ((y155 ++ y144), (((rd_T51 l0 t108).f0).toList != a1.toList))) else (none))) else (none))) else (none)))) else (none)) else (none)) = some (r1, r2) := by first | (rw [hji33] at H; exact H) | (simp only [hji33] at H ⊢; exact H)
            (try rw [hji33] at A4)
            have hji33w : (IntKind.i64.wrap (t108 + 1)) = ji33 := (i64_w _).trans hji33
            by_cases c34 : 0 ≤ (ji33)
            · rw [if_pos c34] at H
              have c34b0 := eq_true c34
              have c34b1 : decide (0 ≤ (ji33)) = true := decide_eq_true c34
              clear c34
              by_cases c35 : (ji33) ≤ (l0.length : Int)
              · rw [if_pos c35] at H
                have c35b0 := eq_true c35
                have c35b1 : decide ((ji33) ≤ (l0.length : Int)) = true := decide_eq_true c35
                clear c35
                obtain ⟨y144, hy144⟩ : ∃ y_ : List (S51), y_ = (l0.drop ((ji33) : Int).toNat) := ⟨_, rfl⟩
                replace H : ((some (l0.take (t108 : Int).toNat : List (S51))).bind fun y148 => (if ([] : List (S51)).length + y148.length < 4398046511104 then ((some (([] : List (S51)) ++ y148 : List (S51))).bind fun y152 => (if y152.length < 4398046511104 then ((some (y152 ++ [(⟨a1, a2⟩ : S51)] : List (S51))).bind fun y155 => (if y155.length + y144.length < 4398046511104 then (some ((y155 ++ y144), (((rd_T51 l0 t108).f0).toList != a1.toList))) else (none))) else (none))) else (none))) = some (r1, r2) := by first | (rw [hy144]; with_reducible exact H) | (have H2_ := (Option.bind_some _ _).symm.trans H; rw [hy144]; with_reducible exact H2_) | (have H2_ := (Option.bind_some _ _).symm.trans H; with_reducible exact H2_) | with_reducible exact H | (rw [hy144]; exact H) | exact H
                have Ny144 := Aside0.mk hy144
                clear hy144
                have c36b0 := eq_true (of_decide_eq_true (by first | (with_reducible assumption) | assumption) : 0 ≤ t108)
                have c37b0 := eq_true (of_decide_eq_true (by first | (with_reducible assumption) | assumption) : t108 ≤ (l0.length : Int))
                obtain ⟨y148, hy148⟩ : ∃ y_ : List (S51), y_ = (l0.take (t108 : Int).toNat) := ⟨_, rfl⟩
                replace H : (if ([] : List (S51)).length + y148.length < 4398046511104 then ((some (([] : List (S51)) ++ y148 : List (S51))).bind fun y152 => (if y152.length < 4398046511104 then ((some (y152 ++ [(⟨a1, a2⟩ : S51)] : List (S51))).bind fun y155 => (if y155.length + y144.length < 4398046511104 then (some ((y155 ++ y144), (((rd_T51 l0 t108).f0).toList != a1.toList))) else (none))) else (none))) else (none)) = some (r1, r2) := by first | (rw [hy148]; with_reducible exact H) | (have H2_ := (Option.bind_some _ _).symm.trans H; rw [hy148]; with_reducible exact H2_) | (have H2_ := (Option.bind_some _ _).symm.trans H; with_reducible exact H2_) | with_reducible exact H | (rw [hy148]; exact H) | exact H
                have Ny148 := Aside0.mk hy148
                clear hy148
                by_cases c38 : ([] : List (S51)).length + y148.length < 4398046511104
                · rw [if_pos c38] at H
                  have LMc38 := Aside0.mk c38
                  clear c38
                  obtain ⟨y152, hy152⟩ : ∃ y_ : List (S51), y_ = (([] : List (S51)) ++ y148) := ⟨_, rfl⟩
                  replace H : (if y152.length < 4398046511104 then ((some (y152 ++ [(⟨a1, a2⟩ : S51)] : List (S51))).bind fun y155 => (if y155.length + y144.length < 4398046511104 then (some ((y155 ++ y144), (((rd_T51 l0 t108).f0).toList != a1.toList))) else (none))) else (none)) = some (r1, r2) := by first | (rw [hy152]; with_reducible exact H) | (have H2_ := (Option.bind_some _ _).symm.trans H; rw [hy152]; with_reducible exact H2_) | (have H2_ := (Option.bind_some _ _).symm.trans H; with_reducible exact H2_) | with_reducible exact H | (rw [hy152]; exact H) | exact H
                  have Ny152 := Aside0.mk hy152
                  clear hy152
                  by_cases c39 : y152.length < 4398046511104
                  · rw [if_pos c39] at H
                    have LMc39 := Aside0.mk c39
                    clear c39
                    obtain ⟨y155, hy155⟩ : ∃ y_ : List (S51), y_ = (y152 ++ [(⟨a1, a2⟩ : S51)]) := ⟨_, rfl⟩
                    replace H : (if y155.length + y144.length < 4398046511104 then (some ((y155 ++ y144), (((rd_T51 l0 t108).f0).toList != a1.toList))) else (none)) = some (r1, r2) := by first | (rw [hy155]; with_reducible exact H) | (have H2_ := (Option.bind_some _ _).symm.trans H; rw [hy155]; with_reducible exact H2_) | (have H2_ := (Option.bind_some _ _).symm.trans H; with_reducible exact H2_) | with_reducible exact H | (rw [hy155]; exact H) | exact H
                    have Ny155 := Aside0.mk hy155
                    clear hy155
                    by_cases c40 : y155.length + y144.length < 4398046511104
                    · rw [if_pos c40] at H
                      have LMc40 := Aside0.mk c40
                      clear c40
                      obtain ⟨y158, hy158⟩ : ∃ y_ : List (S51), y_ = (y155 ++ y144) := ⟨_, rfl⟩
                      replace H : (some (y158, (((rd_T51 l0 t108).f0).toList != a1.toList))) = some (r1, r2) := by first | (rw [hy158]; with_reducible exact H) | (have H2_ := (Option.bind_some _ _).symm.trans H; rw [hy158]; with_reducible exact H2_) | (have H2_ := (Option.bind_some _ _).symm.trans H; with_reducible exact H2_) | with_reducible exact H | (rw [hy158]; exact H) | exact H
                      have Ny158 := Aside0.mk hy158
                      clear hy158
                      simp only [Option.some.injEq, Prod.mk.injEq] at H
                      obtain ⟨rfl, rfl⟩ := H
                      go_enter Try.func24, Try.ntmps24
                      go_wp2_with (first | ((with_reducible refine gate_callee (f := 28) rfl ?_); refine goesL_ (some 14) rfl rfl Try.func28 (by kernel_rfl) rfl #[.slice A0 l0.length c0, .string a1] rfl (by (try simp only [List.map_toArray, List.map_cons, List.map_nil]); first | done | rfl | (simp only [List.length_drop, List.length_take]; rfl)) ?_; (with_reducible refine (footbridgeref09_at.calls k _ _ l0 a1 t108 _ ?side1 ?side2 A4.out).mono ?_); (case side1 => repeat (first | exact HR0.out | (with_reducible refine Kd.C_alloc ?_ _) | (with_reducible refine Kd.C_drewN ?_ _) | (with_reducible refine Kd.C_drew ?_))); (case side2 => exact HC0.out); rintro e w' ⟨rfl, ⟨nd, rfl⟩⟩; refine ⟨_, rfl, ?_⟩; have p126 : 0 ≤ (t108 : Int) := of_decide_eq_true (by first | (with_reducible assumption) | assumption); have q126 : t108 < (l0.length : Int) := of_decide_eq_true (by first | (with_reducible assumption) | assumption); obtain ⟨ad126, e126, hx126_0, hx126_1⟩ := at_T51 HR0.out t108 p126 q126; cases e126; replace p126 := eq_true p126; replace q126 := eq_true q126; have q41 : (t108 : Int) ≤ ((l0.length : Int) : Int) := of_decide_eq_true (by first | (with_reducible assumption) | assumption); obtain ⟨i041, hi041, _, hsz41, _⟩ := info_parts info51; have hroom41 : l0.length ≤ c0 := HC0.out; have hC41 : Kd.C k51 _ (some ad126) l0.length l0 := HR0.out; have q041 : (0 : Int) ≤ (t108 : Int) := of_decide_eq_true (by first | (with_reducible assumption) | assumption); have hcut41 := cut_from (P := Try.prog) 26 51 .i64 Try.underlying26 hi041 2 hsz41 (some ad126) l0.length c0 t108 q041 q41; have hr41 := Kd.C_drop (m := (t108 : Int).toNat) (c := c0) hC41 (by omega) hroom41; obtain ⟨A41, hA41⟩ : ∃ A1, A1 = (if c0 = (t108 : Int).toNat then (some ad126) else ((some ad126) : Option Addr).map (·.add ((t108 : Int).toNat * 2))) := ⟨_, rfl⟩; obtain ⟨c41, hc41⟩ : ∃ c1, c1 = c0 - (t108 : Int).toNat := ⟨_, rfl⟩; have hy41 : y127.length = l0.length - (t108 : Int).toNat := (by rw [Ny127.out, List.length_drop] <;> omega); rw [show (l0).drop (t108 : Int).toNat = y127 from Ny127.out.symm] at hr41; replace hr41 : Kd.C k51 _ A41 y127.length y127 := (by rw [hA41]; exact hr41); rw [← hy41, ← hA41, ← hc41] at hcut41; have HR130 := Aside0.mk hr41; have HC130 := Aside0.mk (show y127.length ≤ c41 from by rw [hy41, hc41]; exact Nat.sub_le_sub_right hroom41 _); clear hr41 hC41 hroom41 hi041 hsz41 hc41; have KY41 := Aside0.mk hy41; have KA41 := Aside0.mk hA41; clear hy41 hA41; replace q41 := eq_true q41; have q42 : ((ji33) : Int) ≤ ((l0.length : Int) : Int) := of_decide_eq_true (by first | (with_reducible assumption) | assumption); obtain ⟨i042, hi042, _, hsz42, _⟩ := info_parts info51; have hroom42 : l0.length ≤ c0 := HC0.out; have hC42 : Kd.C k51 _ (some ad126) l0.length l0 := HR0.out; have q042 : (0 : Int) ≤ ((ji33) : Int) := of_decide_eq_true (by first | (with_reducible assumption) | assumption); have hcut42 := cut_from (P := Try.prog) 26 51 .i64 Try.underlying26 hi042 2 hsz42 (some ad126) l0.length c0 (ji33) q042 q42; have hr42 := Kd.C_drop (m := ((ji33) : Int).toNat) (c := c0) hC42 (by omega) hroom42; obtain ⟨A42, hA42⟩ : ∃ A1, A1 = (if c0 = ((ji33) : Int).toNat then (some ad126) else ((some ad126) : Option Addr).map (·.add (((ji33) : Int).toNat * 2))) := ⟨_, rfl⟩; obtain ⟨c42, hc42⟩ : ∃ c1, c1 = c0 - ((ji33) : Int).toNat := ⟨_, rfl⟩; have hy42 : y144.length = l0.length - ((ji33) : Int).toNat := (by rw [Ny144.out, List.length_drop] <;> omega); rw [show (l0).drop ((ji33) : Int).toNat = y144 from Ny144.out.symm] at hr42; replace hr42 : Kd.C k51 _ A42 y144.length y144 := (by rw [hA42]; exact hr42); rw [← hy42, ← hA42, ← hc42] at hcut42; have HR147 := Aside0.mk hr42; have HC147 := Aside0.mk (show y144.length ≤ c42 from by rw [hy42, hc42]; exact Nat.sub_le_sub_right hroom42 _); clear hr42 hC42 hroom42 hi042 hsz42 hc42; have KY42 := Aside0.mk hy42; have KA42 := Aside0.mk hA42; clear hy42 hA42; replace q42 := eq_true q42; have q43 : (t108 : Int) ≤ ((l0.length : Int) : Int) := of_decide_eq_true (by first | (with_reducible assumption) | assumption); obtain ⟨i043, hi043, _, hsz43, _⟩ := info_parts info51; have hroom43 : l0.length ≤ c0 := HC0.out; have hC43 : Kd.C k51 _ (some ad126) l0.length l0 := HR0.out; have hcut43 := cut_to (P := Try.prog) 26 51 .i64 Try.underlying26 hi043 (some ad126) l0.length c0 t108 (of_decide_eq_true (by first | (with_reducible assumption) | assumption)) q43 hroom43; have hr43 := Kd.C_take (m := (t108 : Int).toNat) hC43 (by omega); have hy43 : y148.length = (t108 : Int).toNat := (by rw [Ny148.out, List.length_take]; omega); rw [← Ny148.out] at hr43; rw [← hy43] at hcut43; have HR151 := Aside0.mk hr43; have HC151 := Aside0.mk (show y148.length ≤ c0 from by omega); clear hr43 hC43 hroom43 hi043 hsz43; have KY43 := Aside0.mk hy43; clear hy43; replace q43 := eq_true q43) | ((with_reducible refine gate_builtin (b := .append) (xs := #[.tmp 37, .tmp 40]) rfl ?_); at_builtin; refine Kd.R_append_rows k51 (w0 := w) w.heap.size rfl (.tmp 37) (.tmp 40) 26 51 (.agg #[(.string ⟨#[]⟩), (.string ⟨#[]⟩)]) 32 rfl Try.underlying26 info51 rfl (by decide) (by omega) (.slice none 0 0) ([] : List (S51)) y148 _ _ _ (fun _ => True) (fun _ => False) rfl rfl ?aO ?aR (fun _ _ h => h) (fun _ h => h.elim) ?aF ?aB ?aS ?aL ?_; (case aR => repeat (first | exact HR151.out | (with_reducible refine Kd.C_alloc ?_ _) | (with_reducible refine Kd.C_drewN ?_ _) | (with_reducible refine Kd.C_drew ?_))); (case aB => exact (by repeat (first | (with_reducible first | exact HB.out | apply below_alloc | apply pw_below_drewN | apply below_drew1) | exact HB.out))); (case aF => exact (fun _ _ => trivial)); (case aO => exact ((Kd.R_nil _ _ _ _ (fun _ => True)))); (case aS => exact (below_size (by repeat (first | (with_reducible first | exact HB.out | apply below_alloc | apply pw_below_drewN | apply below_drew1) | exact HB.out)))); (case aL => have := LMc38.out; omega); intro v153 w44 ho hb hg hat; rw [← Ny152.out] at ho; have n0_ := Aside0.mk (hb); have n1_ := Aside0.mk (ho); clear HB; have HB := n0_; have HO154 := n1_; clear n0_ n1_; clear ho hb hg hat) | ((with_reducible refine gate_builtin (b := .append) (xs := #[.tmp 42, .tmp 46]) rfl ?_); at_builtin; refine Kd.R_append k51 (w0 := w) w.heap.size rfl (.tmp 42) (.tmp 46) 26 51 (.agg #[(.string ⟨#[]⟩), (.string ⟨#[]⟩)]) 32 rfl Try.underlying26 info51 rfl (by decide) (by omega) v153 y152 (⟨a1, a2⟩ : S51) [.string a1, .string a2] (fun _ => True) (fun _ => False) rfl rfl ?aP (fun _ hk => hk.elim) ?aF ?aO ?aB ?aS ?aL ?_; (case aP => exact k51_mkM _ _ _ (⟨a1, a2⟩ : S51)); (case aB => exact (by repeat (first | (with_reducible first | exact HB.out | apply below_alloc | apply pw_below_drewN | apply below_drew1) | exact HB.out))); (case aF => exact (fun _ _ => trivial)); (case aO => exact (by (with_reducible repeat (first | apply Kd.R_alloc | apply Kd.R_drewN | apply Kd.R_drew)); exact HO154.out)); (case aS => exact (below_size (by repeat (first | (with_reducible first | exact HB.out | apply below_alloc | apply pw_below_drewN | apply below_drew1) | exact HB.out)))); (case aL => have := LMc39.out; omega); intro v156 w45 ho hb hg hat; rw [← Ny155.out] at ho; have n0_ := Aside0.mk (hb); have n1_ := Aside0.mk (ho); clear HB; clear HO154; have HB := n0_; have HO157 := n1_; clear n0_ n1_; clear ho hb hg hat) | ((with_reducible refine gate_builtin (b := .append) (xs := #[.tmp 48, .tmp 49]) rfl ?_); at_builtin; refine Kd.R_append_rows k51 (w0 := w) w.heap.size rfl (.tmp 48) (.tmp 49) 26 51 (.agg #[(.string ⟨#[]⟩), (.string ⟨#[]⟩)]) 32 rfl Try.underlying26 info51 rfl (by decide) (by omega) v156 y155 y144 _ _ _ (fun _ => True) (fun _ => False) rfl rfl ?aO ?aR (fun _ _ h => h) (fun _ h => h.elim) ?aF ?aB ?aS ?aL ?_; (case aR => repeat (first | exact (Kd.C_below HR147.out HB.out) | (with_reducible refine Kd.C_alloc ?_ _) | (with_reducible refine Kd.C_drewN ?_ _) | (with_reducible refine Kd.C_drew ?_))); (case aB => exact (by repeat (first | (with_reducible first | exact HB.out | apply below_alloc | apply pw_below_drewN | apply below_drew1) | exact HB.out))); (case aF => exact (fun _ _ => trivial)); (case aO => exact (by (with_reducible repeat (first | apply Kd.R_alloc | apply Kd.R_drewN | apply Kd.R_drew)); exact HO157.out)); (case aS => exact (below_size (by repeat (first | (with_reducible first | exact HB.out | apply below_alloc | apply pw_below_drewN | apply below_drew1) | exact HB.out)))); (case aL => have := LMc40.out; omega); intro v159 w46 ho hb hg hat; rw [← Ny158.out] at ho; have n0_ := Aside0.mk (hb); have n1_ := Aside0.mk (ho); clear HB; clear HO157; have HB := n0_; have HO160 := n1_; clear n0_ n1_; clear ho hb hg hat))
                      go_ret2
                      exact ⟨_, by first | rfl | (simp [errW_none, errW_some] <;> rfl) | (simp only [← hji33]; first | rfl | (simp [errW_none, errW_some] <;> rfl)) | (simp [*, errW_none, errW_some] <;> rfl), by (with_reducible repeat (first | apply Kd.R_alloc | apply Kd.R_drewN | apply Kd.R_drew)); exact HO160.out, by repeat (first | (with_reducible first | exact HB.out | apply below_alloc | apply pw_below_drewN | apply below_drew1) | exact HB.out)⟩
                    · rw [if_neg c40] at H
                      exact absurd H (by simp)
                  · rw [if_neg c39] at H
                    exact absurd H (by simp)
                · rw [if_neg c38] at H
                  exact absurd H (by simp)
              · rw [if_neg c35] at H
                exact absurd H (by simp)
            · rw [if_neg c34] at H
              exact absurd H (by simp)
        · rw [if_neg c21] at H
          exact absurd H (by simp)
      · rw [if_neg c19] at H
        exact absurd H (by simp)
    · rw [if_neg c18] at H
      exact absurd H (by simp)

/-! ### footbridgeref09_Del: function 25 -/
def footbridgeref09_Del.f (k : Nat) (l0 : List (S51)) (a1 : ByteArray) : Option ((List (S51)) × Bool) := (footbridgeref09_at.f k l0 a1).bind fun t161 => (if t161 = (l0.length : Int) then (some (l0, false)) else (if 0 ≤ t161 then (if t161 < (l0.length : Int) then (if ((rd_T51 l0 t161).f0).toList = a1.toList then (if t161 ≤ (l0.length : Int) then ((some (l0.take (t161 : Int).toNat : List (S51))).bind fun y163 => (if ([] : List (S51)).length + y163.length < 4398046511104 then ((some (([] : List (S51)) ++ y163 : List (S51))).bind fun y168 => (if 0 ≤ (wrap64 (t161 + 1)) then (if (wrap64 (t161 + 1)) ≤ (l0.length : Int) then ((some (l0.drop ((wrap64 (t161 + 1)) : Int).toNat : List (S51))).bind fun y171 => (if y168.length + y171.length < 4398046511104 then (some ((y168 ++ y171), true)) else (none))) else (none)) else (none))) else (none))) else (none)) else (some (l0, false))) else (none)) else (none)))
theorem footbridgeref09_Del.mono : ∀ a0 a1 k, LeO (footbridgeref09_Del.f k a0 a1) (footbridgeref09_Del.f (k + 1) a0 a1) := by
  intro a0 a1 k
  unfold footbridgeref09_Del.f
  repeat' first
      | (with_reducible exact footbridgeref09_at.mono _ _ _)
      | (with_reducible exact LeO.refl _)
      | (with_reducible exact LeO.none _)
      | (with_reducible refine LeO.ite ?_ ?_)
      | (with_reducible refine LeO.bind ?_ (fun _ => ?_))
      | exact footbridgeref09_at.mono _ _ _
      | exact LeO.none _
      | refine LeO.ite ?_ ?_
      | refine LeO.bind ?_ (fun _ => ?_)
set_option maxHeartbeats 8000000 in
set_option maxRecDepth 100000 in
theorem footbridgeref09_Del.calls (k : Nat) (P0_ : Nat → Prop) (A0 : Option Addr) (c0 : Nat) (l0 : List (S51)) (a1 : ByteArray) (r1 : List (S51)) (r2 : Bool) (w : World) (hs0 : Kd.V k51 51 w w.heap.size (fun k_ => P0_ k_) (.slice A0 l0.length c0) l0) (h : footbridgeref09_Del.f k l0 a1 = some (r1, r2)) :
    Calls Try.prog 25 #[.slice A0 l0.length c0, .string a1] w fun e w' => ∃ v0_ : Value, e = .returned (.tuple #[v0_, .bool r2]) ∧ Kd.V k51 51 w' w.heap.size (fun k_ => (P0_ k_ ∨ w.heap.size ≤ k_)) v0_ r1 ∧ Below w.heap.size w w' := by
  have HO0 := Aside0.mk (show Kd.V k51 51 w w.heap.size (fun k_ => (P0_ k_ ∨ w.heap.size ≤ k_)) (.slice A0 l0.length c0) l0 from Kd.V_mono hs0 (fun k_ hk => .inl hk))
  have HB := Aside0.mk (Below.refl w.heap.size w)
  have H : ((footbridgeref09_at.f k l0 a1).bind fun t161 => (if t161 = (l0.length : Int) then (some (l0, false)) else (if 0 ≤ t161 then (if t161 < (l0.length : Int) then (if ((rd_T51 l0 t161).f0).toList = a1.toList then (if t161 ≤ (l0.length : Int) then ((some (l0.take (t161 : Int).toNat : List (S51))).bind fun y163 => (if ([] : List (S51)).length + y163.length < 4398046511104 then ((some (([] : List (S51)) ++ y163 : List (S51))).bind fun y168 => (if 0 ≤ (wrap64 (t161 + 1)) then (if (wrap64 (t161 + 1)) ≤ (l0.length : Int) then ((some (l0.drop ((wrap64 (t161 + 1)) : Int).toNat : List (S51))).bind fun y171 => (if y168.length + y171.length < 4398046511104 then (some ((y168 ++ y171), true)) else (none))) else (none)) else (none))) else (none))) else (none)) else (some (l0, false))) else (none)) else (none)))) = some (r1, r2) := h
  clear h
  replace H := Option.bind_eq_some_iff.mp H
  obtain ⟨t161, A30, H⟩ := H
  replace H : (if t161 = (l0.length : Int) then (some (l0, false)) else (if 0 ≤ t161 then (if t161 < (l0.length : Int) then (if ((rd_T51 l0 t161).f0).toList = a1.toList then (if t161 ≤ (l0.length : Int) then ((some (l0.take (t161 : Int).toNat : List (S51))).bind fun y163 => (if ([] : List (S51)).length + y163.length < 4398046511104 then ((some (([] : List (S51)) ++ y163 : List (S51))).bind fun y168 => (if 0 ≤ (wrap64 (t161 + 1)) then (if (wrap64 (t161 + 1)) ≤ (l0.length : Int) then ((some (l0.drop ((wrap64 (t161 + 1)) : Int).toNat : List (S51))).bind fun y171 => (if y168.length + y171.length < 4398046511104 then (some ((y168 ++ y171), true)) else (none))) else (none)) else (none))) else (none))) else (none)) else (some (l0, false))) else (none)) else (none))) = some (r1, r2) := H
  have A3 := Aside0.mk A30
  clear A30
  by_cases c4 : t161 = (l0.length : Int)
  · rw [if_pos c4] at H
    have c4b0 : (t161 == (l0.length : Int)) = true := beq_iff_eq.mpr c4
    have c4b1 : (t161 != (l0.length : Int)) = false := bne_eq_false_iff_eq.mpr c4
    clear c4
    simp only [Option.some.injEq, Prod.mk.injEq] at H
    obtain ⟨rfl, rfl⟩ := H
    go_enter Try.func25, Try.ntmps25
    go_wp2_with (first | ((with_reducible refine gate_callee (f := 28) rfl ?_); refine goesL_ (some 10) rfl rfl Try.func28 (by kernel_rfl) rfl #[.slice A0 l0.length c0, .string a1] rfl (by (try simp only [List.map_toArray, List.map_cons, List.map_nil]); first | done | rfl | (simp only [List.length_drop, List.length_take]; rfl)) ?_; (with_reducible refine (footbridgeref09_at.calls k _ _ l0 a1 t161 _ ?side1 ?side2 A3.out).mono ?_); (case side1 => repeat (first | exact (Kd.V_reads' HO0.out).2.2 | (with_reducible refine Kd.C_alloc ?_ _) | (with_reducible refine Kd.C_drewN ?_ _) | (with_reducible refine Kd.C_drew ?_))); (case side2 => exact (Kd.V_reads' HO0.out).2.1); rintro e w' ⟨rfl, ⟨nd, rfl⟩⟩; refine ⟨_, rfl, ?_⟩))
    go_ret2
    exact ⟨_, by first | rfl | (simp [errW_none, errW_some] <;> rfl) | (simp [*, errW_none, errW_some] <;> rfl), by (with_reducible repeat (first | apply Kd.V_alloc | apply Kd.V_drewN | apply Kd.V_drew)); exact HO0.out, by repeat (first | (with_reducible first | exact HB.out | apply below_alloc | apply pw_below_drewN | apply below_drew1) | exact HB.out)⟩
  · rw [if_neg c4] at H
    have c4b0 : (t161 == (l0.length : Int)) = false := beq_eq_false_iff_ne.mpr c4
    have c4b1 : (t161 != (l0.length : Int)) = true := bne_iff_ne.mpr c4
    by_cases c5 : 0 ≤ t161
    · rw [if_pos c5] at H
      have c5b0 : decide (0 ≤ t161) = true := decide_eq_true c5
      clear c5
      by_cases c6 : t161 < (l0.length : Int)
      · rw [if_pos c6] at H
        have c6b0 : decide (t161 < (l0.length : Int)) = true := decide_eq_true c6
        clear c6
        by_cases c7 : ((rd_T51 l0 t161).f0).toList = a1.toList
        · rw [if_pos c7] at H
          have c7b0 : (((rd_T51 l0 t161).f0).toList == a1.toList) = true := beq_iff_eq.mpr c7
          have c7b1 : (((rd_T51 l0 t161).f0).toList != a1.toList) = false := bne_eq_false_iff_eq.mpr c7
          clear c7
          have c8b0 := eq_true (of_decide_eq_true (by first | (with_reducible assumption) | assumption) : 0 ≤ t161)
          by_cases c9 : t161 ≤ (l0.length : Int)
          · rw [if_pos c9] at H
            have c9b0 := eq_true c9
            have c9b1 : decide (t161 ≤ (l0.length : Int)) = true := decide_eq_true c9
            clear c9
            obtain ⟨y163, hy163⟩ : ∃ y_ : List (S51), y_ = (l0.take (t161 : Int).toNat) := ⟨_, rfl⟩
            replace H : (if ([] : List (S51)).length + y163.length < 4398046511104 then ((some (([] : List (S51)) ++ y163 : List (S51))).bind fun y168 => (if 0 ≤ (wrap64 (t161 + 1)) then (if (wrap64 (t161 + 1)) ≤ (l0.length : Int) then ((some (l0.drop ((wrap64 (t161 + 1)) : Int).toNat : List (S51))).bind fun y171 => (if y168.length + y171.length < 4398046511104 then (some ((y168 ++ y171), true)) else (none))) else (none)) else (none))) else (none)) = some (r1, r2) := by first | (rw [hy163]; with_reducible exact H) | (have H2_ := (Option.bind_some _ _).symm.trans H; rw [hy163]; with_reducible exact H2_) | (have H2_ := (Option.bind_some _ _).symm.trans H; with_reducible exact H2_) | with_reducible exact H | (rw [hy163]; exact H) | exact H
            have Ny163 := Aside0.mk hy163
            clear hy163
            by_cases c10 : ([] : List (S51)).length + y163.length < 4398046511104
            · rw [if_pos c10] at H
              have LMc10 := Aside0.mk c10
              clear c10
              obtain ⟨y168, hy168⟩ : ∃ y_ : List (S51), y_ = (([] : List (S51)) ++ y163) := ⟨_, rfl⟩
              replace H : (if 0 ≤ (wrap64 (t161 + 1)) then (if (wrap64 (t161 + 1)) ≤ (l0.length : Int) then ((some (l0.drop ((wrap64 (t161 + 1)) : Int).toNat : List (S51))).bind fun y171 => (if y168.length + y171.length < 4398046511104 then (some ((y168 ++ y171), true)) else (none))) else (none)) else (none)) = some (r1, r2) := by first | (rw [hy168]; with_reducible exact H) | (have H2_ := (Option.bind_some _ _).symm.trans H; rw [hy168]; with_reducible exact H2_) | (have H2_ := (Option.bind_some _ _).symm.trans H; with_reducible exact H2_) | with_reducible exact H | (rw [hy168]; exact H) | exact H
              have Ny168 := Aside0.mk hy168
              clear hy168
              obtain ⟨ji11, hji11⟩ : ∃ j_ : Int, (wrap64 (t161 + 1)) = j_ := ⟨_, rfl⟩
              replace H : (if 0 ≤ (ji11) then (if (ji11) ≤ (l0.length : Int) then ((some (l0.drop ((ji11) : Int).toNat : List (S51))).bind fun y171 => (if y168.length + y171.length < 4398046511104 then (some ((y168 ++ y171), true)) else (none))) else (none)) else (none)) = some (r1, r2) := by first | (rw [hji11] at H; exact H) | (simp only [hji11] at H ⊢; exact H)
              (try rw [hji11] at A3)
              have hji11w : (IntKind.i64.wrap (t161 + 1)) = ji11 := (i64_w _).trans hji11
              by_cases c12 : 0 ≤ (ji11)
              · rw [if_pos c12] at H
                have c12b0 := eq_true c12
                have c12b1 : decide (0 ≤ (ji11)) = true := decide_eq_true c12
                clear c12
                by_cases c13 : (ji11) ≤ (l0.length : Int)
                · rw [if_pos c13] at H
                  have c13b0 := eq_true c13
                  have c13b1 : decide ((ji11) ≤ (l0.length : Int)) = true := decide_eq_true c13
                  clear c13
                  obtain ⟨y171, hy171⟩ : ∃ y_ : List (S51), y_ = (l0.drop ((ji11) : Int).toNat) := ⟨_, rfl⟩
                  replace H : (if y168.length + y171.length < 4398046511104 then (some ((y168 ++ y171), true)) else (none)) = some (r1, r2) := by first | (rw [hy171]; with_reducible exact H) | (have H2_ := (Option.bind_some _ _).symm.trans H; rw [hy171]; with_reducible exact H2_) | (have H2_ := (Option.bind_some _ _).symm.trans H; with_reducible exact H2_) | with_reducible exact H | (rw [hy171]; exact H) | exact H
                  have Ny171 := Aside0.mk hy171
                  clear hy171
                  by_cases c14 : y168.length + y171.length < 4398046511104
                  · rw [if_pos c14] at H
                    have LMc14 := Aside0.mk c14
                    clear c14
                    obtain ⟨y176, hy176⟩ : ∃ y_ : List (S51), y_ = (y168 ++ y171) := ⟨_, rfl⟩
                    replace H : (some (y176, true)) = some (r1, r2) := by first | (rw [hy176]; with_reducible exact H) | (have H2_ := (Option.bind_some _ _).symm.trans H; rw [hy176]; with_reducible exact H2_) | (have H2_ := (Option.bind_some _ _).symm.trans H; with_reducible exact H2_) | with_reducible exact H | (rw [hy176]; exact H) | exact H
                    have Ny176 := Aside0.mk hy176
                    clear hy176
                    simp only [Option.some.injEq, Prod.mk.injEq] at H
                    obtain ⟨rfl, rfl⟩ := H
                    go_enter Try.func25, Try.ntmps25
                    go_wp2_with (first | ((with_reducible refine gate_callee (f := 28) rfl ?_); refine goesL_ (some 10) rfl rfl Try.func28 (by kernel_rfl) rfl #[.slice A0 l0.length c0, .string a1] rfl (by (try simp only [List.map_toArray, List.map_cons, List.map_nil]); first | done | rfl | (simp only [List.length_drop, List.length_take]; rfl)) ?_; (with_reducible refine (footbridgeref09_at.calls k _ _ l0 a1 t161 _ ?side1 ?side2 A3.out).mono ?_); (case side1 => repeat (first | exact (Kd.V_reads' HO0.out).2.2 | (with_reducible refine Kd.C_alloc ?_ _) | (with_reducible refine Kd.C_drewN ?_ _) | (with_reducible refine Kd.C_drew ?_))); (case side2 => exact (Kd.V_reads' HO0.out).2.1); rintro e w' ⟨rfl, ⟨nd, rfl⟩⟩; refine ⟨_, rfl, ?_⟩; have p162 : 0 ≤ (t161 : Int) := of_decide_eq_true (by first | (with_reducible assumption) | assumption); have q162 : t161 < (l0.length : Int) := of_decide_eq_true (by first | (with_reducible assumption) | assumption); obtain ⟨ad162, e162, hx162_0, hx162_1⟩ := at_T51 (Kd.V_reads' HO0.out).2.2 t161 p162 q162; cases e162; replace p162 := eq_true p162; replace q162 := eq_true q162; have q15 : (t161 : Int) ≤ ((l0.length : Int) : Int) := of_decide_eq_true (by first | (with_reducible assumption) | assumption); obtain ⟨i015, hi015, _, hsz15, _⟩ := info_parts info51; have hroom15 : l0.length ≤ c0 := (Kd.V_reads' HO0.out).2.1; have hC15 : Kd.F k51 _ _ (some ad162) l0.length l0 := (Kd.V_at (base := w.heap.size) HO0.out).2.2; have hcut15 := cut_to (P := Try.prog) 26 51 .i64 Try.underlying26 hi015 (some ad162) l0.length c0 t161 (of_decide_eq_true (by first | (with_reducible assumption) | assumption)) q15 hroom15; have hr15 := Kd.F_take (m := (t161 : Int).toNat) hC15 (by omega); have hy15 : y163.length = (t161 : Int).toNat := (by rw [Ny163.out, List.length_take]; omega); rw [← Ny163.out] at hr15; rw [← hy15] at hcut15; have HO167 := Aside0.mk (show Kd.V k51 51 _ w.heap.size _ (.slice (some ad162) y163.length c0) y163 from Kd.V_mk (by omega) hr15); have HC167 := Aside0.mk (show y163.length ≤ c0 from by omega); clear hr15 hC15 hroom15 hi015 hsz15; have KY15 := Aside0.mk hy15; clear hy15; replace q15 := eq_true q15) | ((with_reducible refine gate_builtin (b := .append) (xs := #[.tmp 25, .tmp 28]) rfl ?_); at_builtin; refine Kd.R_append_rows k51 (w0 := w) w.heap.size rfl (.tmp 25) (.tmp 28) 26 51 (.agg #[(.string ⟨#[]⟩), (.string ⟨#[]⟩)]) 32 rfl Try.underlying26 info51 rfl (by decide) (by omega) (.slice none 0 0) ([] : List (S51)) y163 _ _ _ (fun k_ => (w.heap.size ≤ k_)) (fun _ => False) rfl rfl ?aO ?aR (fun _ _ h => h) (fun _ h => h.elim) ?aF ?aB ?aS ?aL ?_; (case aR => repeat (first | exact (Kd.V_reads' HO167.out).2.2 | (with_reducible refine Kd.C_alloc ?_ _) | (with_reducible refine Kd.C_drewN ?_ _) | (with_reducible refine Kd.C_drew ?_))); (case aB => exact (by repeat (first | (with_reducible first | exact HB.out | apply below_alloc | apply pw_below_drewN | apply below_drew1) | exact HB.out))); (case aF => exact (fun k_ hk => (Nat.le_trans (below_size (by repeat (first | (with_reducible first | exact HB.out | apply below_alloc | apply pw_below_drewN | apply below_drew1) | exact HB.out))) hk))); (case aO => exact ((Kd.R_nil _ _ _ _ (fun k_ => (w.heap.size ≤ k_))))); (case aS => exact (below_size (by repeat (first | (with_reducible first | exact HB.out | apply below_alloc | apply pw_below_drewN | apply below_drew1) | exact HB.out)))); (case aL => have := LMc10.out; omega); intro v169 w16 ho hb hg hat; rw [← Ny168.out] at ho; have n0_ := Aside0.mk (Kd.V_afterv (Kd.V_apart_nil (by (with_reducible repeat (first | apply Kd.V_alloc | apply Kd.V_drewN | apply Kd.V_drew)); exact HO0.out)) hg hat); have n1_ := Aside0.mk (Kd.V_afterv (Kd.V_apart_nil (by (with_reducible repeat (first | apply Kd.V_alloc | apply Kd.V_drewN | apply Kd.V_drew)); exact HO167.out)) hg hat); have n2_ := Aside0.mk (hb); have n3_ := Aside0.mk (ho); clear HO0; clear HO167; clear HB; have HO0 := n0_; have HO167 := n1_; have HB := n2_; have HO170 := n3_; clear n0_ n1_ n2_ n3_; clear ho hb hg hat; have q17 : ((ji11) : Int) ≤ ((l0.length : Int) : Int) := of_decide_eq_true (by first | (with_reducible assumption) | assumption); obtain ⟨i017, hi017, _, hsz17, _⟩ := info_parts info51; have hroom17 : l0.length ≤ c0 := (Kd.V_reads' HO0.out).2.1; have hC17 : Kd.F k51 _ _ (some ad162) l0.length l0 := (Kd.V_at (base := w.heap.size) HO0.out).2.2; have q017 : (0 : Int) ≤ ((ji11) : Int) := of_decide_eq_true (by first | (with_reducible assumption) | assumption); have hcut17 := cut_from (P := Try.prog) 26 51 .i64 Try.underlying26 hi017 2 hsz17 (some ad162) l0.length c0 (ji11) q017 q17; have hr17 := Kd.F_cut (m := ((ji11) : Int).toNat) (c := c0) hC17 (by omega) hroom17; obtain ⟨A17, hA17⟩ : ∃ A1, A1 = (if c0 = ((ji11) : Int).toNat then (some ad162) else ((some ad162) : Option Addr).map (·.add (((ji11) : Int).toNat * 2))) := ⟨_, rfl⟩; obtain ⟨c17, hc17⟩ : ∃ c1, c1 = c0 - ((ji11) : Int).toNat := ⟨_, rfl⟩; have hy17 : y171.length = l0.length - ((ji11) : Int).toNat := (by rw [Ny171.out, List.length_drop] <;> omega); rw [show (l0).drop ((ji11) : Int).toNat = y171 from Ny171.out.symm] at hr17; replace hr17 : Kd.F k51 _ _ A17 y171.length y171 := (by rw [hA17]; exact hr17); rw [← hy17, ← hA17, ← hc17] at hcut17; have HO175 := Aside0.mk (show Kd.V k51 51 _ w.heap.size _ (.slice A17 y171.length c17) y171 from Kd.V_mk (by rw [hy17, hc17]; exact Nat.sub_le_sub_right hroom17 _) hr17); have HC175 := Aside0.mk (show y171.length ≤ c17 from by rw [hy17, hc17]; exact Nat.sub_le_sub_right hroom17 _); clear hr17 hC17 hroom17 hi017 hsz17 hc17; have KY17 := Aside0.mk hy17; have KA17 := Aside0.mk hA17; clear hy17 hA17; replace q17 := eq_true q17) | ((with_reducible refine gate_builtin (b := .append) (xs := #[.tmp 30, .tmp 34]) rfl ?_); at_builtin; refine Kd.R_append_rows k51 (w0 := w) w.heap.size rfl (.tmp 30) (.tmp 34) 26 51 (.agg #[(.string ⟨#[]⟩), (.string ⟨#[]⟩)]) 32 rfl Try.underlying26 info51 rfl (by decide) (by omega) v169 y168 y171 _ _ _ (fun k_ => (w.heap.size ≤ k_)) (fun _ => False) rfl rfl ?aO ?aR (fun _ _ h => h) (fun _ h => h.elim) ?aF ?aB ?aS ?aL ?_; (case aR => repeat (first | exact (Kd.V_reads' HO175.out).2.2 | (with_reducible refine Kd.C_alloc ?_ _) | (with_reducible refine Kd.C_drewN ?_ _) | (with_reducible refine Kd.C_drew ?_))); (case aB => exact (by repeat (first | (with_reducible first | exact HB.out | apply below_alloc | apply pw_below_drewN | apply below_drew1) | exact HB.out))); (case aF => exact (fun k_ hk => (Nat.le_trans (below_size (by repeat (first | (with_reducible first | exact HB.out | apply below_alloc | apply pw_below_drewN | apply below_drew1) | exact HB.out))) hk))); (case aO => exact (by (with_reducible repeat (first | apply Kd.R_alloc | apply Kd.R_drewN | apply Kd.R_drew)); exact HO170.out)); (case aS => exact (below_size (by repeat (first | (with_reducible first | exact HB.out | apply below_alloc | apply pw_below_drewN | apply below_drew1) | exact HB.out)))); (case aL => have := LMc14.out; omega); intro v177 w18 ho hb hg hat; rw [← Ny176.out] at ho; have n0_ := Aside0.mk (Kd.V_afterv (ok := (fun k_ => (P0_ k_ ∨ w.heap.size ≤ k_))) (by (with_reducible repeat (first | apply Kd.V_alloc | apply Kd.V_drewN | apply Kd.V_drew)); exact HO0.out) hg hat); have n1_ := Aside0.mk (Kd.V_afterv (ok := (fun k_ => (P0_ k_ ∨ w.heap.size ≤ k_))) (by (with_reducible repeat (first | apply Kd.V_alloc | apply Kd.V_drewN | apply Kd.V_drew)); exact HO167.out) hg hat); have n2_ := Aside0.mk (Kd.V_afterv (ok := (fun k_ => (P0_ k_ ∨ w.heap.size ≤ k_))) (by (with_reducible repeat (first | apply Kd.V_alloc | apply Kd.V_drewN | apply Kd.V_drew)); exact HO175.out) hg hat); have n3_ := Aside0.mk (hb); have n4_ := Aside0.mk (ho); clear HO0; clear HO167; clear HO175; clear HB; clear HO170; have HO0 := n0_; have HO167 := n1_; have HO175 := n2_; have HB := n3_; have HO178 := n4_; clear n0_ n1_ n2_ n3_ n4_; clear ho hb hg hat))
                    go_ret2
                    exact ⟨_, by first | rfl | (simp [errW_none, errW_some] <;> rfl) | (simp only [← hji11]; first | rfl | (simp [errW_none, errW_some] <;> rfl)) | (simp [*, errW_none, errW_some] <;> rfl), Kd.V_mono (Kd.R_V (by (with_reducible repeat (first | apply Kd.R_alloc | apply Kd.R_drewN | apply Kd.R_drew)); exact HO178.out)) (fun k_ hk => by first | exact ⟨(.inr (hk.1)), hk.2⟩ | exact (.inr (hk))), by repeat (first | (with_reducible first | exact HB.out | apply below_alloc | apply pw_below_drewN | apply below_drew1) | exact HB.out)⟩
                  · rw [if_neg c14] at H
                    exact absurd H (by simp)
                · rw [if_neg c13] at H
                  exact absurd H (by simp)
              · rw [if_neg c12] at H
                exact absurd H (by simp)
            · rw [if_neg c10] at H
              exact absurd H (by simp)
          · rw [if_neg c9] at H
            exact absurd H (by simp)
        · rw [if_neg c7] at H
          have c7b0 : (((rd_T51 l0 t161).f0).toList == a1.toList) = false := beq_eq_false_iff_ne.mpr c7
          have c7b1 : (((rd_T51 l0 t161).f0).toList != a1.toList) = true := bne_iff_ne.mpr c7
          simp only [Option.some.injEq, Prod.mk.injEq] at H
          obtain ⟨rfl, rfl⟩ := H
          go_enter Try.func25, Try.ntmps25
          go_wp2_with (first | ((with_reducible refine gate_callee (f := 28) rfl ?_); refine goesL_ (some 10) rfl rfl Try.func28 (by kernel_rfl) rfl #[.slice A0 l0.length c0, .string a1] rfl (by (try simp only [List.map_toArray, List.map_cons, List.map_nil]); first | done | rfl | (simp only [List.length_drop, List.length_take]; rfl)) ?_; (with_reducible refine (footbridgeref09_at.calls k _ _ l0 a1 t161 _ ?side1 ?side2 A3.out).mono ?_); (case side1 => repeat (first | exact (Kd.V_reads' HO0.out).2.2 | (with_reducible refine Kd.C_alloc ?_ _) | (with_reducible refine Kd.C_drewN ?_ _) | (with_reducible refine Kd.C_drew ?_))); (case side2 => exact (Kd.V_reads' HO0.out).2.1); rintro e w' ⟨rfl, ⟨nd, rfl⟩⟩; refine ⟨_, rfl, ?_⟩; have p162 : 0 ≤ (t161 : Int) := of_decide_eq_true (by first | (with_reducible assumption) | assumption); have q162 : t161 < (l0.length : Int) := of_decide_eq_true (by first | (with_reducible assumption) | assumption); obtain ⟨ad162, e162, hx162_0, hx162_1⟩ := at_T51 (Kd.V_reads' HO0.out).2.2 t161 p162 q162; cases e162; replace p162 := eq_true p162; replace q162 := eq_true q162))
          go_ret2
          exact ⟨_, by first | rfl | (simp [errW_none, errW_some] <;> rfl) | (simp [*, errW_none, errW_some] <;> rfl), by (with_reducible repeat (first | apply Kd.V_alloc | apply Kd.V_drewN | apply Kd.V_drew)); exact HO0.out, by repeat (first | (with_reducible first | exact HB.out | apply below_alloc | apply pw_below_drewN | apply below_drew1) | exact HB.out)⟩
      · rw [if_neg c6] at H
        exact absurd H (by simp)
    · rw [if_neg c5] at H
      exact absurd H (by simp)

end Go.Proofs.Ytcbaojkfffodiaa.PJou
