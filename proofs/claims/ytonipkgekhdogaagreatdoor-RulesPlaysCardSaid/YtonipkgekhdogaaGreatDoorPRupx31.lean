-- written by wip/myprint.py over the kit's print; not a printed text of print.sh
import Derived.Test.YtonipkgekhdogaaGreatDoorPRupx0
import Derived.Test.YtonipkgekhdogaaGreatDoorPRupx23
namespace Go.Proofs.YtonipkgekhdogaaGreatDoor.PRup
open Go.RowKit Go.Proofs.YtonipkgekhdogaaGreatDoorW.PrintWords Go.Proofs.YtonipkgekhdogaaGreatDoorW.PrintLast Go.Proofs.YtonipkgekhdogaaGreatDoorW.PrintMore
attribute [local go_sem] max2_int min2_int max_two min_two max_three min_three max_four min_four   -- for this text's walks alone
set_option linter.unusedVariables false
set_option linter.unusedSimpArgs false

/-! ### footbridgeref09_Set: function 91 -/
def footbridgeref09_Set.f (k : Nat) (l0 : List (S73)) (a1 : ByteArray) (a2 : ByteArray) : Option ((List (S73)) × Bool) := (footbridgeref09_at.f k l0 a1).bind fun t210 => (if t210 = (l0.length : Int) then (if 0 ≤ t210 then (if t210 ≤ (l0.length : Int) then ((some (l0.drop (t210 : Int).toNat : List (S73))).bind fun y211 => ((some (l0.take (t210 : Int).toNat : List (S73))).bind fun y215 => (if ([] : List (S73)).length + y215.length < 4398046511104 then ((some (([] : List (S73)) ++ y215 : List (S73))).bind fun y219 => (if y219.length < 4398046511104 then ((some (y219 ++ [(⟨a1, a2⟩ : S73)] : List (S73))).bind fun y222 => (if y222.length + y211.length < 4398046511104 then (some ((y222 ++ y211), true)) else (none))) else (none))) else (none)))) else (none)) else (none)) else (if 0 ≤ t210 then (if t210 < (l0.length : Int) then (if t210 ≤ (l0.length : Int) then ((some (l0.drop (t210 : Int).toNat : List (S73))).bind fun y229 => (if (¬ ((rd_T73 l0 t210).f0).toList = a1.toList) then ((some (l0.take (t210 : Int).toNat : List (S73))).bind fun y233 => (if ([] : List (S73)).length + y233.length < 4398046511104 then ((some (([] : List (S73)) ++ y233 : List (S73))).bind fun y237 => (if y237.length < 4398046511104 then ((some (y237 ++ [(⟨a1, a2⟩ : S73)] : List (S73))).bind fun y240 => (if y240.length + y229.length < 4398046511104 then (some ((y240 ++ y229), (((rd_T73 l0 t210).f0).toList != a1.toList))) else (none))) else (none))) else (none))) else (if 0 ≤ (wrap64 (t210 + 1)) then (if (wrap64 (t210 + 1)) ≤ (l0.length : Int) then ((some (l0.drop ((wrap64 (t210 + 1)) : Int).toNat : List (S73))).bind fun y246 => ((some (l0.take (t210 : Int).toNat : List (S73))).bind fun y250 => (if ([] : List (S73)).length + y250.length < 4398046511104 then ((some (([] : List (S73)) ++ y250 : List (S73))).bind fun y254 => (if y254.length < 4398046511104 then ((some (y254 ++ [(⟨a1, a2⟩ : S73)] : List (S73))).bind fun y257 => (if y257.length + y246.length < 4398046511104 then (some ((y257 ++ y246), (((rd_T73 l0 t210).f0).toList != a1.toList))) else (none))) else (none))) else (none)))) else (none)) else (none)))) else (none)) else (none)) else (none)))
theorem footbridgeref09_Set.mono : ∀ a0 a1 a2 k, LeO (footbridgeref09_Set.f k a0 a1 a2) (footbridgeref09_Set.f (k + 1) a0 a1 a2) := by
  intro a0 a1 a2 k
  unfold footbridgeref09_Set.f
  repeat' first
      | (with_reducible exact footbridgeref09_at.mono _ _ _)
      | (with_reducible exact LeO.refl _)
      | (with_reducible exact LeO.none _)
      | (with_reducible refine LeO.ite ?_ ?_)
      | (with_reducible refine LeO.bind ?_ (fun _ => ?_))
      | exact footbridgeref09_at.mono _ _ _
      | exact LeO.none _
      | refine LeO.ite ?_ ?_
      | refine LeO.bind ?_ (fun _ => ?_)
set_option maxHeartbeats 8000000 in
set_option maxRecDepth 100000 in
theorem footbridgeref09_Set.calls (k : Nat) (A0 : Option Addr) (c0 : Nat) (l0 : List (S73)) (a1 : ByteArray) (a2 : ByteArray) (r1 : List (S73)) (r2 : Bool) (w : World) (hr0 : Kd.C k73 w A0 l0.length l0) (hc0 : l0.length ≤ c0) (h : footbridgeref09_Set.f k l0 a1 a2 = some (r1, r2)) :
    Calls Tryz.prog 91 #[.slice A0 l0.length c0, .string a1, .string a2] w fun e w' => ∃ v0_ : Value, e = .returned (.tuple #[v0_, .bool r2]) ∧ Kd.R k73 73 w' w.heap.size (fun _ => True) v0_ r1 ∧ Below w.heap.size w w' := by
  have hu73 := Tryz.underlying73
  have HR0 := Aside0.mk hr0
  have HC0 := Aside0.mk hc0
  clear hr0 hc0
  have HB := Aside0.mk (Below.refl w.heap.size w)
  have H : ((footbridgeref09_at.f k l0 a1).bind fun t210 => (if t210 = (l0.length : Int) then (if 0 ≤ t210 then (if t210 ≤ (l0.length : Int) then ((some (l0.drop (t210 : Int).toNat : List (S73))).bind fun y211 => ((some (l0.take (t210 : Int).toNat : List (S73))).bind fun y215 => (if ([] : List (S73)).length + y215.length < 4398046511104 then ((some (([] : List (S73)) ++ y215 : List (S73))).bind fun y219 => (if y219.length < 4398046511104 then ((some (y219 ++ [(⟨a1, a2⟩ : S73)] : List (S73))).bind fun y222 => (if y222.length + y211.length < 4398046511104 then (some ((y222 ++ y211), true)) else (none))) else (none))) else (none)))) else (none)) else (none)) else (if 0 ≤ t210 then (if t210 < (l0.length : Int) then (if t210 ≤ (l0.length : Int) then ((some (l0.drop (t210 : Int).toNat : List (S73))).bind fun y229 => (if (¬ ((rd_T73 l0 t210).f0).toList = a1.toList) then ((some (l0.take (t210 : Int).toNat : List (S73))).bind fun y233 => (if ([] : List (S73)).length + y233.length < 4398046511104 then ((some (([] : List (S73)) ++ y233 : List (S73))).bind fun y237 => (if y237.length < 4398046511104 then ((some (y237 ++ [(⟨a1, a2⟩ : S73)] : List (S73))).bind fun y240 => (if y240.length + y229.length < 4398046511104 then (some ((y240 ++ y229), (((rd_T73 l0 t210).f0).toList != a1.toList))) else (none))) else (none))) else (none))) else (if 0 ≤ (wrap64 (t210 + 1)) then (if (wrap64 (t210 + 1)) ≤ (l0.length : Int) then ((some (l0.drop ((wrap64 (t210 + 1)) : Int).toNat : List (S73))).bind fun y246 => ((some (l0.take (t210 : Int).toNat : List (S73))).bind fun y250 => (if ([] : List (S73)).length + y250.length < 4398046511104 then ((some (([] : List (S73)) ++ y250 : List (S73))).bind fun y254 => (if y254.length < 4398046511104 then ((some (y254 ++ [(⟨a1, a2⟩ : S73)] : List (S73))).bind fun y257 => (if y257.length + y246.length < 4398046511104 then (some ((y257 ++ y246), (((rd_T73 l0 t210).f0).toList != a1.toList))) else (none))) else (none))) else (none)))) else (none)) else (none)))) else (none)) else (none)) else (none)))) = some (r1, r2) := h
  clear h
  replace H := Option.bind_eq_some_iff.mp H
  obtain ⟨t210, A40, H⟩ := H
  replace H : (if t210 = (l0.length : Int) then (if 0 ≤ t210 then (if t210 ≤ (l0.length : Int) then ((some (l0.drop (t210 : Int).toNat : List (S73))).bind fun y211 => ((some (l0.take (t210 : Int).toNat : List (S73))).bind fun y215 => (if ([] : List (S73)).length + y215.length < 4398046511104 then ((some (([] : List (S73)) ++ y215 : List (S73))).bind fun y219 => (if y219.length < 4398046511104 then ((some (y219 ++ [(⟨a1, a2⟩ : S73)] : List (S73))).bind fun y222 => (if y222.length + y211.length < 4398046511104 then (some ((y222 ++ y211), true)) else (none))) else (none))) else (none)))) else (none)) else (none)) else (if 0 ≤ t210 then (if t210 < (l0.length : Int) then (if t210 ≤ (l0.length : Int) then ((some (l0.drop (t210 : Int).toNat : List (S73))).bind fun y229 => (if (¬ ((rd_T73 l0 t210).f0).toList = a1.toList) then ((some (l0.take (t210 : Int).toNat : List (S73))).bind fun y233 => (if ([] : List (S73)).length + y233.length < 4398046511104 then ((some (([] : List (S73)) ++ y233 : List (S73))).bind fun y237 => (if y237.length < 4398046511104 then ((some (y237 ++ [(⟨a1, a2⟩ : S73)] : List (S73))).bind fun y240 => (if y240.length + y229.length < 4398046511104 then (some ((y240 ++ y229), (((rd_T73 l0 t210).f0).toList != a1.toList))) else (none))) else (none))) else (none))) else (if 0 ≤ (wrap64 (t210 + 1)) then (if (wrap64 (t210 + 1)) ≤ (l0.length : Int) then ((some (l0.drop ((wrap64 (t210 + 1)) : Int).toNat : List (S73))).bind fun y246 => ((some (l0.take (t210 : Int).toNat : List (S73))).bind fun y250 => (if ([] : List (S73)).length + y250.length < 4398046511104 then ((some (([] : List (S73)) ++ y250 : List (S73))).bind fun y254 => (if y254.length < 4398046511104 then ((some (y254 ++ [(⟨a1, a2⟩ : S73)] : List (S73))).bind fun y257 => (if y257.length + y246.length < 4398046511104 then (some ((y257 ++ y246), (((rd_T73 l0 t210).f0).toList != a1.toList))) else (none))) else (none))) else (none)))) else (none)) else (none)))) else (none)) else (none)) else (none))) = some (r1, r2) := H
  have A4 := Aside0.mk A40
  clear A40
  by_cases c5 : t210 = (l0.length : Int)
  · rw [if_pos c5] at H
    have c5b0 : (t210 == (l0.length : Int)) = true := beq_iff_eq.mpr c5
    have c5b1 : (t210 != (l0.length : Int)) = false := bne_eq_false_iff_eq.mpr c5
    clear c5
    by_cases c6 : 0 ≤ t210
    · rw [if_pos c6] at H
      have c6b0 := eq_true c6
      have c6b1 : decide (0 ≤ t210) = true := decide_eq_true c6
      clear c6
      by_cases c7 : t210 ≤ (l0.length : Int)
      · rw [if_pos c7] at H
        have c7b0 := eq_true c7
        have c7b1 : decide (t210 ≤ (l0.length : Int)) = true := decide_eq_true c7
        clear c7
        obtain ⟨y211, hy211⟩ : ∃ y_ : List (S73), y_ = (l0.drop (t210 : Int).toNat) := ⟨_, rfl⟩
        replace H : ((some (l0.take (t210 : Int).toNat : List (S73))).bind fun y215 => (if ([] : List (S73)).length + y215.length < 4398046511104 then ((some (([] : List (S73)) ++ y215 : List (S73))).bind fun y219 => (if y219.length < 4398046511104 then ((some (y219 ++ [(⟨a1, a2⟩ : S73)] : List (S73))).bind fun y222 => (if y222.length + y211.length < 4398046511104 then (some ((y222 ++ y211), true)) else (none))) else (none))) else (none))) = some (r1, r2) := by first | (rw [hy211]; with_reducible exact H) | (have H2_ := (Option.bind_some _ _).symm.trans H; rw [hy211]; with_reducible exact H2_) | (have H2_ := (Option.bind_some _ _).symm.trans H; with_reducible exact H2_) | with_reducible exact H | (rw [hy211]; exact H) | exact H
        have Ny211 := Aside0.mk hy211
        clear hy211
        have c8b0 := eq_true (of_decide_eq_true (by first | (with_reducible assumption) | assumption) : 0 ≤ t210)
        have c9b0 := eq_true (of_decide_eq_true (by first | (with_reducible assumption) | assumption) : t210 ≤ (l0.length : Int))
        obtain ⟨y215, hy215⟩ : ∃ y_ : List (S73), y_ = (l0.take (t210 : Int).toNat) := ⟨_, rfl⟩
        replace H : (if ([] : List (S73)).length + y215.length < 4398046511104 then ((some (([] : List (S73)) ++ y215 : List (S73))).bind fun y219 => (if y219.length < 4398046511104 then ((some (y219 ++ [(⟨a1, a2⟩ : S73)] : List (S73))).bind fun y222 => (if y222.length + y211.length < 4398046511104 then (some ((y222 ++ y211), true)) else (none))) else (none))) else (none)) = some (r1, r2) := by first | (rw [hy215]; with_reducible exact H) | (have H2_ := (Option.bind_some _ _).symm.trans H; rw [hy215]; with_reducible exact H2_) | (have H2_ := (Option.bind_some _ _).symm.trans H; with_reducible exact H2_) | with_reducible exact H | (rw [hy215]; exact H) | exact H
        have Ny215 := Aside0.mk hy215
        clear hy215
        by_cases c10 : ([] : List (S73)).length + y215.length < 4398046511104
        · rw [if_pos c10] at H
          have LMc10 := Aside0.mk c10
          clear c10
          obtain ⟨y219, hy219⟩ : ∃ y_ : List (S73), y_ = (([] : List (S73)) ++ y215) := ⟨_, rfl⟩
          replace H : (if y219.length < 4398046511104 then ((some (y219 ++ [(⟨a1, a2⟩ : S73)] : List (S73))).bind fun y222 => (if y222.length + y211.length < 4398046511104 then (some ((y222 ++ y211), true)) else (none))) else (none)) = some (r1, r2) := by first | (rw [hy219]; with_reducible exact H) | (have H2_ := (Option.bind_some _ _).symm.trans H; rw [hy219]; with_reducible exact H2_) | (have H2_ := (Option.bind_some _ _).symm.trans H; with_reducible exact H2_) | with_reducible exact H | (rw [hy219]; exact H) | exact H
          have Ny219 := Aside0.mk hy219
          clear hy219
          by_cases c11 : y219.length < 4398046511104
          · rw [if_pos c11] at H
            have LMc11 := Aside0.mk c11
            clear c11
            obtain ⟨y222, hy222⟩ : ∃ y_ : List (S73), y_ = (y219 ++ [(⟨a1, a2⟩ : S73)]) := ⟨_, rfl⟩
            replace H : (if y222.length + y211.length < 4398046511104 then (some ((y222 ++ y211), true)) else (none)) = some (r1, r2) := by first | (rw [hy222]; with_reducible exact H) | (have H2_ := (Option.bind_some _ _).symm.trans H; rw [hy222]; with_reducible exact H2_) | (have H2_ := (Option.bind_some _ _).symm.trans H; with_reducible exact H2_) | with_reducible exact H | (rw [hy222]; exact H) | exact H
            have Ny222 := Aside0.mk hy222
            clear hy222
            by_cases c12 : y222.length + y211.length < 4398046511104
            · rw [if_pos c12] at H
              have LMc12 := Aside0.mk c12
              clear c12
              obtain ⟨y225, hy225⟩ : ∃ y_ : List (S73), y_ = (y222 ++ y211) := ⟨_, rfl⟩
              replace H : (some (y225, true)) = some (r1, r2) := by first | (rw [hy225]; with_reducible exact H) | (have H2_ := (Option.bind_some _ _).symm.trans H; rw [hy225]; with_reducible exact H2_) | (have H2_ := (Option.bind_some _ _).symm.trans H; with_reducible exact H2_) | with_reducible exact H | (rw [hy225]; exact H) | exact H
              have Ny225 := Aside0.mk hy225
              clear hy225
              simp only [Option.some.injEq, Prod.mk.injEq] at H
              obtain ⟨rfl, rfl⟩ := H
              go_enter Tryz.func91, Tryz.ntmps91
              go_wp2_with (first | ((with_reducible refine gate_callee (f := 73) rfl ?_); refine goesL_ (some 14) rfl rfl Tryz.func73 (by kernel_rfl) rfl #[.slice A0 l0.length c0, .string a1] rfl (by (try simp only [List.map_toArray, List.map_cons, List.map_nil]); first | done | rfl | (simp only [List.length_drop, List.length_take]; rfl)) ?_; (with_reducible refine (footbridgeref09_at.calls k _ _ l0 a1 t210 _ ?side1 ?side2 A4.out).mono ?_); (case side1 => repeat (first | exact HR0.out | (with_reducible refine Kd.C_alloc ?_ _) | (with_reducible refine Kd.C_drewN ?_ _) | (with_reducible refine Kd.C_drew ?_))); (case side2 => exact HC0.out); rintro e w' ⟨rfl, ⟨nd, rfl⟩⟩; refine ⟨_, rfl, ?_⟩; have q13 : (t210 : Int) ≤ ((l0.length : Int) : Int) := of_decide_eq_true (by first | (with_reducible assumption) | assumption); obtain ⟨i013, hi013, _, hsz13, _⟩ := info_parts info73; have hroom13 : l0.length ≤ c0 := HC0.out; have hC13 : Kd.C k73 _ A0 l0.length l0 := HR0.out; have q013 : (0 : Int) ≤ (t210 : Int) := of_decide_eq_true (by first | (with_reducible assumption) | assumption); have hcut13 := cut_from (P := Tryz.prog) 27 73 .i64 Tryz.underlying27 hi013 2 hsz13 A0 l0.length c0 t210 q013 q13; have hr13 := Kd.C_drop (m := (t210 : Int).toNat) (c := c0) hC13 (by omega) hroom13; obtain ⟨A13, hA13⟩ : ∃ A1, A1 = (if c0 = (t210 : Int).toNat then A0 else (A0 : Option Addr).map (·.add ((t210 : Int).toNat * 2))) := ⟨_, rfl⟩; obtain ⟨c13, hc13⟩ : ∃ c1, c1 = c0 - (t210 : Int).toNat := ⟨_, rfl⟩; have hy13 : y211.length = l0.length - (t210 : Int).toNat := (by rw [Ny211.out, List.length_drop] <;> omega); rw [show (l0).drop (t210 : Int).toNat = y211 from Ny211.out.symm] at hr13; replace hr13 : Kd.C k73 _ A13 y211.length y211 := (by rw [hA13]; exact hr13); rw [← hy13, ← hA13, ← hc13] at hcut13; have HR214 := Aside0.mk hr13; have HC214 := Aside0.mk (show y211.length ≤ c13 from by rw [hy13, hc13]; exact Nat.sub_le_sub_right hroom13 _); clear hr13 hC13 hroom13 hi013 hsz13 hc13; have KY13 := Aside0.mk hy13; have KA13 := Aside0.mk hA13; clear hy13 hA13; replace q13 := eq_true q13; have q14 : (t210 : Int) ≤ ((l0.length : Int) : Int) := of_decide_eq_true (by first | (with_reducible assumption) | assumption); obtain ⟨i014, hi014, _, hsz14, _⟩ := info_parts info73; have hroom14 : l0.length ≤ c0 := HC0.out; have hC14 : Kd.C k73 _ A0 l0.length l0 := HR0.out; have hcut14 := cut_to (P := Tryz.prog) 27 73 .i64 Tryz.underlying27 hi014 A0 l0.length c0 t210 (of_decide_eq_true (by first | (with_reducible assumption) | assumption)) q14 hroom14; have hr14 := Kd.C_take (m := (t210 : Int).toNat) hC14 (by omega); have hy14 : y215.length = (t210 : Int).toNat := (by rw [Ny215.out, List.length_take]; omega); rw [← Ny215.out] at hr14; rw [← hy14] at hcut14; have HR218 := Aside0.mk hr14; have HC218 := Aside0.mk (show y215.length ≤ c0 from by omega); clear hr14 hC14 hroom14 hi014 hsz14; have KY14 := Aside0.mk hy14; clear hy14; replace q14 := eq_true q14) | ((with_reducible refine gate_builtin (b := .append) (xs := #[.tmp 37, .tmp 40]) rfl ?_); at_builtin; refine Kd.R_append_rows k73 (w0 := w) w.heap.size rfl (.tmp 37) (.tmp 40) 27 73 (.agg #[(.string ⟨#[]⟩), (.string ⟨#[]⟩)]) 32 rfl Tryz.underlying27 info73 rfl (by decide) (by omega) (.slice none 0 0) ([] : List (S73)) y215 _ _ _ (fun _ => True) (fun _ => False) rfl rfl ?aO ?aR (fun _ _ h => h) (fun _ h => h.elim) ?aF ?aB ?aS ?aL ?_; (case aR => repeat (first | exact HR218.out | (with_reducible refine Kd.C_alloc ?_ _) | (with_reducible refine Kd.C_drewN ?_ _) | (with_reducible refine Kd.C_drew ?_))); (case aB => exact (by repeat (first | (with_reducible first | exact HB.out | apply below_alloc | apply pw_below_drewN | apply below_drew1) | exact HB.out))); (case aF => exact (fun _ _ => trivial)); (case aO => exact ((Kd.R_nil _ _ _ _ (fun _ => True)))); (case aS => exact (below_size (by repeat (first | (with_reducible first | exact HB.out | apply below_alloc | apply pw_below_drewN | apply below_drew1) | exact HB.out)))); (case aL => have := LMc10.out; omega); intro v220 w15 ho hb hg hat; rw [← Ny219.out] at ho; have n0_ := Aside0.mk (hb); have n1_ := Aside0.mk (ho); clear HB; have HB := n0_; have HO221 := n1_; clear n0_ n1_; clear ho hb hg hat) | ((with_reducible refine gate_builtin (b := .append) (xs := #[.tmp 42, .tmp 46]) rfl ?_); at_builtin; refine Kd.R_append k73 (w0 := w) w.heap.size rfl (.tmp 42) (.tmp 46) 27 73 (.agg #[(.string ⟨#[]⟩), (.string ⟨#[]⟩)]) 32 rfl Tryz.underlying27 info73 rfl (by decide) (by omega) v220 y219 (⟨a1, a2⟩ : S73) [.string a1, .string a2] (fun _ => True) (fun _ => False) rfl rfl ?aP (fun _ hk => hk.elim) ?aF ?aO ?aB ?aS ?aL ?_; (case aP => exact k73_mkM _ _ _ (⟨a1, a2⟩ : S73)); (case aB => exact (by repeat (first | (with_reducible first | exact HB.out | apply below_alloc | apply pw_below_drewN | apply below_drew1) | exact HB.out))); (case aF => exact (fun _ _ => trivial)); (case aO => exact (by (with_reducible repeat (first | apply Kd.R_alloc | apply Kd.R_drewN | apply Kd.R_drew)); exact HO221.out)); (case aS => exact (below_size (by repeat (first | (with_reducible first | exact HB.out | apply below_alloc | apply pw_below_drewN | apply below_drew1) | exact HB.out)))); (case aL => have := LMc11.out; omega); intro v223 w16 ho hb hg hat; rw [← Ny222.out] at ho; have n0_ := Aside0.mk (hb); have n1_ := Aside0.mk (ho); clear HB; clear HO221; have HB := n0_; have HO224 := n1_; clear n0_ n1_; clear ho hb hg hat) | ((with_reducible refine gate_builtin (b := .append) (xs := #[.tmp 48, .tmp 49]) rfl ?_); at_builtin; refine Kd.R_append_rows k73 (w0 := w) w.heap.size rfl (.tmp 48) (.tmp 49) 27 73 (.agg #[(.string ⟨#[]⟩), (.string ⟨#[]⟩)]) 32 rfl Tryz.underlying27 info73 rfl (by decide) (by omega) v223 y222 y211 _ _ _ (fun _ => True) (fun _ => False) rfl rfl ?aO ?aR (fun _ _ h => h) (fun _ h => h.elim) ?aF ?aB ?aS ?aL ?_; (case aR => repeat (first | exact (Kd.C_below HR214.out HB.out) | (with_reducible refine Kd.C_alloc ?_ _) | (with_reducible refine Kd.C_drewN ?_ _) | (with_reducible refine Kd.C_drew ?_))); (case aB => exact (by repeat (first | (with_reducible first | exact HB.out | apply below_alloc | apply pw_below_drewN | apply below_drew1) | exact HB.out))); (case aF => exact (fun _ _ => trivial)); (case aO => exact (by (with_reducible repeat (first | apply Kd.R_alloc | apply Kd.R_drewN | apply Kd.R_drew)); exact HO224.out)); (case aS => exact (below_size (by repeat (first | (with_reducible first | exact HB.out | apply below_alloc | apply pw_below_drewN | apply below_drew1) | exact HB.out)))); (case aL => have := LMc12.out; omega); intro v226 w17 ho hb hg hat; rw [← Ny225.out] at ho; have n0_ := Aside0.mk (hb); have n1_ := Aside0.mk (ho); clear HB; clear HO224; have HB := n0_; have HO227 := n1_; clear n0_ n1_; clear ho hb hg hat))
              go_ret2
              exact ⟨_, by first | rfl | (simp [errW_none, errW_some] <;> rfl) | (simp [*, errW_none, errW_some] <;> rfl), by (with_reducible repeat (first | apply Kd.R_alloc | apply Kd.R_drewN | apply Kd.R_drew)); exact HO227.out, by repeat (first | (with_reducible first | exact HB.out | apply below_alloc | apply pw_below_drewN | apply below_drew1) | exact HB.out)⟩
            · rw [if_neg c12] at H
              exact absurd H (by simp)
          · rw [if_neg c11] at H
            exact absurd H (by simp)
        · rw [if_neg c10] at H
          exact absurd H (by simp)
      · rw [if_neg c7] at H
        exact absurd H (by simp)
    · rw [if_neg c6] at H
      exact absurd H (by simp)
  · rw [if_neg c5] at H
    have c5b0 : (t210 == (l0.length : Int)) = false := beq_eq_false_iff_ne.mpr c5
    have c5b1 : (t210 != (l0.length : Int)) = true := bne_iff_ne.mpr c5
    by_cases c18 : 0 ≤ t210
    · rw [if_pos c18] at H
      have c18b0 : decide (0 ≤ t210) = true := decide_eq_true c18
      clear c18
      by_cases c19 : t210 < (l0.length : Int)
      · rw [if_pos c19] at H
        have c19b0 : decide (t210 < (l0.length : Int)) = true := decide_eq_true c19
        clear c19
        have c20b0 := eq_true (of_decide_eq_true (by first | (with_reducible assumption) | assumption) : 0 ≤ t210)
        by_cases c21 : t210 ≤ (l0.length : Int)
        · rw [if_pos c21] at H
          have c21b0 := eq_true c21
          have c21b1 : decide (t210 ≤ (l0.length : Int)) = true := decide_eq_true c21
          clear c21
          obtain ⟨y229, hy229⟩ : ∃ y_ : List (S73), y_ = (l0.drop (t210 : Int).toNat) := ⟨_, rfl⟩
          replace H : (if (¬ ((rd_T73 l0 t210).f0).toList = a1.toList) then ((some (l0.take (t210 : Int).toNat : List (S73))).bind fun y233 => (if ([] : List (S73)).length + y233.length < 4398046511104 then ((some (([] : List (S73)) ++ y233 : List (S73))).bind fun y237 => (if y237.length < 4398046511104 then ((some (y237 ++ [(⟨a1, a2⟩ : S73)] : List (S73))).bind fun y240 => (if y240.length + y229.length < 4398046511104 then (some ((y240 ++ y229), (((rd_T73 l0 t210).f0).toList != a1.toList))) else (none))) else (none))) else (none))) else (if 0 ≤ (wrap64 (t210 + 1)) then (if (wrap64 (t210 + 1)) ≤ (l0.length : Int) then ((some (l0.drop ((wrap64 (t210 + 1)) : Int).toNat : List (S73))).bind fun y246 => ((some (l0.take (t210 : Int).toNat : List (S73))).bind fun y250 => (if ([] : List (S73)).length + y250.length < 4398046511104 then ((some (([] : List (S73)) ++ y250 : List (S73))).bind fun y254 => (if y254.length < 4398046511104 then ((some (y254 ++ [(⟨a1, a2⟩ : S73)] : List (S73))).bind fun y257 => (if y257.length + y246.length < 4398046511104 then (some ((y257 ++ y246), (((rd_T73 l0 t210).f0).toList != a1.toList))) else (none))) else (none))) else (none)))) else (none)) else (none))) = some (r1, r2) := by first | (rw [hy229]; with_reducible exact H) | (have H2_ := (Option.bind_some _ _).symm.trans H; rw [hy229]; with_reducible exact H2_) | (have H2_ := (Option.bind_some _ _).symm.trans H; with_reducible exact H2_) | with_reducible exact H | (rw [hy229]; exact H) | exact H
          have Ny229 := Aside0.mk hy229
          clear hy229
          by_cases c22 : (¬ ((rd_T73 l0 t210).f0).toList = a1.toList)
          · rw [if_pos c22] at H
            have c22b0 : (((rd_T73 l0 t210).f0).toList == a1.toList) = false := beq_eq_false_iff_ne.mpr c22
            have c22b1 : (((rd_T73 l0 t210).f0).toList != a1.toList) = true := bne_iff_ne.mpr c22
            clear c22
            have c23b0 := eq_true (of_decide_eq_true (by first | (with_reducible assumption) | assumption) : 0 ≤ t210)
            have c24b0 := eq_true (of_decide_eq_true (by first | (with_reducible assumption) | assumption) : t210 ≤ (l0.length : Int))
            obtain ⟨y233, hy233⟩ : ∃ y_ : List (S73), y_ = (l0.take (t210 : Int).toNat) := ⟨_, rfl⟩
            replace H : (if ([] : List (S73)).length + y233.length < 4398046511104 then ((some (([] : List (S73)) ++ y233 : List (S73))).bind fun y237 => (if y237.length < 4398046511104 then ((some (y237 ++ [(⟨a1, a2⟩ : S73)] : List (S73))).bind fun y240 => (if y240.length + y229.length < 4398046511104 then (some ((y240 ++ y229), (((rd_T73 l0 t210).f0).toList != a1.toList))) else (none))) else (none))) else (none)) = some (r1, r2) := by first | (rw [hy233]; with_reducible exact H) | (have H2_ := (Option.bind_some _ _).symm.trans H; rw [hy233]; with_reducible exact H2_) | (have H2_ := (Option.bind_some _ _).symm.trans H; with_reducible exact H2_) | with_reducible exact H | (rw [hy233]; exact H) | exact H
            have Ny233 := Aside0.mk hy233
            clear hy233
            by_cases c25 : ([] : List (S73)).length + y233.length < 4398046511104
            · rw [if_pos c25] at H
              have LMc25 := Aside0.mk c25
              clear c25
              obtain ⟨y237, hy237⟩ : ∃ y_ : List (S73), y_ = (([] : List (S73)) ++ y233) := ⟨_, rfl⟩
              replace H : (if y237.length < 4398046511104 then ((some (y237 ++ [(⟨a1, a2⟩ : S73)] : List (S73))).bind fun y240 => (if y240.length + y229.length < 4398046511104 then (some ((y240 ++ y229), (((rd_T73 l0 t210).f0).toList != a1.toList))) else (none))) else (none)) = some (r1, r2) := by first | (rw [hy237]; with_reducible exact H) | (have H2_ := (Option.bind_some _ _).symm.trans H; rw [hy237]; with_reducible exact H2_) | (have H2_ := (Option.bind_some _ _).symm.trans H; with_reducible exact H2_) | with_reducible exact H | (rw [hy237]; exact H) | exact H
              have Ny237 := Aside0.mk hy237
              clear hy237
              by_cases c26 : y237.length < 4398046511104
              · rw [if_pos c26] at H
                have LMc26 := Aside0.mk c26
                clear c26
                obtain ⟨y240, hy240⟩ : ∃ y_ : List (S73), y_ = (y237 ++ [(⟨a1, a2⟩ : S73)]) := ⟨_, rfl⟩
                replace H : (if y240.length + y229.length < 4398046511104 then (some ((y240 ++ y229), (((rd_T73 l0 t210).f0).toList != a1.toList))) else (none)) = some (r1, r2) := by first | (rw [hy240]; with_reducible exact H) | (have H2_ := (Option.bind_some _ _).symm.trans H; rw [hy240]; with_reducible exact H2_) | (have H2_ := (Option.bind_some _ _).symm.trans H; with_reducible exact H2_) | with_reducible exact H | (rw [hy240]; exact H) | exact H
                have Ny240 := Aside0.mk hy240
                clear hy240
                by_cases c27 : y240.length + y229.length < 4398046511104
                · rw [if_pos c27] at H
                  have LMc27 := Aside0.mk c27
                  clear c27
                  obtain ⟨y243, hy243⟩ : ∃ y_ : List (S73), y_ = (y240 ++ y229) := ⟨_, rfl⟩
                  replace H : (some (y243, (((rd_T73 l0 t210).f0).toList != a1.toList))) = some (r1, r2) := by first | (rw [hy243]; with_reducible exact H) | (have H2_ := (Option.bind_some _ _).symm.trans H; rw [hy243]; with_reducible exact H2_) | (have H2_ := (Option.bind_some _ _).symm.trans H; with_reducible exact H2_) | with_reducible exact H | (rw [hy243]; exact H) | exact H
                  have Ny243 := Aside0.mk hy243
                  clear hy243
                  simp only [Option.some.injEq, Prod.mk.injEq] at H
                  obtain ⟨rfl, rfl⟩ := H
                  go_enter Tryz.func91, Tryz.ntmps91
                  go_wp2_with (first | ((with_reducible refine gate_callee (f := 73) rfl ?_); refine goesL_ (some 14) rfl rfl Tryz.func73 (by kernel_rfl) rfl #[.slice A0 l0.length c0, .string a1] rfl (by (try simp only [List.map_toArray, List.map_cons, List.map_nil]); first | done | rfl | (simp only [List.length_drop, List.length_take]; rfl)) ?_; (with_reducible refine (footbridgeref09_at.calls k _ _ l0 a1 t210 _ ?side1 ?side2 A4.out).mono ?_); (case side1 => repeat (first | exact HR0.out | (with_reducible refine Kd.C_alloc ?_ _) | (with_reducible refine Kd.C_drewN ?_ _) | (with_reducible refine Kd.C_drew ?_))); (case side2 => exact HC0.out); rintro e w' ⟨rfl, ⟨nd, rfl⟩⟩; refine ⟨_, rfl, ?_⟩; have p228 : 0 ≤ (t210 : Int) := of_decide_eq_true (by first | (with_reducible assumption) | assumption); have q228 : t210 < (l0.length : Int) := of_decide_eq_true (by first | (with_reducible assumption) | assumption); obtain ⟨ad228, e228, hx228_0, hx228_1⟩ := at_T73 HR0.out t210 p228 q228; cases e228; replace p228 := eq_true p228; replace q228 := eq_true q228; have q28 : (t210 : Int) ≤ ((l0.length : Int) : Int) := of_decide_eq_true (by first | (with_reducible assumption) | assumption); obtain ⟨i028, hi028, _, hsz28, _⟩ := info_parts info73; have hroom28 : l0.length ≤ c0 := HC0.out; have hC28 : Kd.C k73 _ (some ad228) l0.length l0 := HR0.out; have q028 : (0 : Int) ≤ (t210 : Int) := of_decide_eq_true (by first | (with_reducible assumption) | assumption); have hcut28 := cut_from (P := Tryz.prog) 27 73 .i64 Tryz.underlying27 hi028 2 hsz28 (some ad228) l0.length c0 t210 q028 q28; have hr28 := Kd.C_drop (m := (t210 : Int).toNat) (c := c0) hC28 (by omega) hroom28; obtain ⟨A28, hA28⟩ : ∃ A1, A1 = (if c0 = (t210 : Int).toNat then (some ad228) else ((some ad228) : Option Addr).map (·.add ((t210 : Int).toNat * 2))) := ⟨_, rfl⟩; obtain ⟨c28, hc28⟩ : ∃ c1, c1 = c0 - (t210 : Int).toNat := ⟨_, rfl⟩; have hy28 : y229.length = l0.length - (t210 : Int).toNat := (by rw [Ny229.out, List.length_drop] <;> omega); rw [show (l0).drop (t210 : Int).toNat = y229 from Ny229.out.symm] at hr28; replace hr28 : Kd.C k73 _ A28 y229.length y229 := (by rw [hA28]; exact hr28); rw [← hy28, ← hA28, ← hc28] at hcut28; have HR232 := Aside0.mk hr28; have HC232 := Aside0.mk (show y229.length ≤ c28 from by rw [hy28, hc28]; exact Nat.sub_le_sub_right hroom28 _); clear hr28 hC28 hroom28 hi028 hsz28 hc28; have KY28 := Aside0.mk hy28; have KA28 := Aside0.mk hA28; clear hy28 hA28; replace q28 := eq_true q28; have q29 : (t210 : Int) ≤ ((l0.length : Int) : Int) := of_decide_eq_true (by first | (with_reducible assumption) | assumption); obtain ⟨i029, hi029, _, hsz29, _⟩ := info_parts info73; have hroom29 : l0.length ≤ c0 := HC0.out; have hC29 : Kd.C k73 _ (some ad228) l0.length l0 := HR0.out; have hcut29 := cut_to (P := Tryz.prog) 27 73 .i64 Tryz.underlying27 hi029 (some ad228) l0.length c0 t210 (of_decide_eq_true (by first | (with_reducible assumption) | assumption)) q29 hroom29; have hr29 := Kd.C_take (m := (t210 : Int).toNat) hC29 (by omega); have hy29 : y233.length = (t210 : Int).toNat := (by rw [Ny233.out, List.length_take]; omega); rw [← Ny233.out] at hr29; rw [← hy29] at hcut29; have HR236 := Aside0.mk hr29; have HC236 := Aside0.mk (show y233.length ≤ c0 from by omega); clear hr29 hC29 hroom29 hi029 hsz29; have KY29 := Aside0.mk hy29; clear hy29; replace q29 := eq_true q29) | ((with_reducible refine gate_builtin (b := .append) (xs := #[.tmp 37, .tmp 40]) rfl ?_); at_builtin; refine Kd.R_append_rows k73 (w0 := w) w.heap.size rfl (.tmp 37) (.tmp 40) 27 73 (.agg #[(.string ⟨#[]⟩), (.string ⟨#[]⟩)]) 32 rfl Tryz.underlying27 info73 rfl (by decide) (by omega) (.slice none 0 0) ([] : List (S73)) y233 _ _ _ (fun _ => True) (fun _ => False) rfl rfl ?aO ?aR (fun _ _ h => h) (fun _ h => h.elim) ?aF ?aB ?aS ?aL ?_; (case aR => repeat (first | exact HR236.out | (with_reducible refine Kd.C_alloc ?_ _) | (with_reducible refine Kd.C_drewN ?_ _) | (with_reducible refine Kd.C_drew ?_))); (case aB => exact (by repeat (first | (with_reducible first | exact HB.out | apply below_alloc | apply pw_below_drewN | apply below_drew1) | exact HB.out))); (case aF => exact (fun _ _ => trivial)); (case aO => exact ((Kd.R_nil _ _ _ _ (fun _ => True)))); (case aS => exact (below_size (by repeat (first | (with_reducible first | exact HB.out | apply below_alloc | apply pw_below_drewN | apply below_drew1) | exact HB.out)))); (case aL => have := LMc25.out; omega); intro v238 w30 ho hb hg hat; rw [← Ny237.out] at ho; have n0_ := Aside0.mk (hb); have n1_ := Aside0.mk (ho); clear HB; have HB := n0_; have HO239 := n1_; clear n0_ n1_; clear ho hb hg hat) | ((with_reducible refine gate_builtin (b := .append) (xs := #[.tmp 42, .tmp 46]) rfl ?_); at_builtin; refine Kd.R_append k73 (w0 := w) w.heap.size rfl (.tmp 42) (.tmp 46) 27 73 (.agg #[(.string ⟨#[]⟩), (.string ⟨#[]⟩)]) 32 rfl Tryz.underlying27 info73 rfl (by decide) (by omega) v238 y237 (⟨a1, a2⟩ : S73) [.string a1, .string a2] (fun _ => True) (fun _ => False) rfl rfl ?aP (fun _ hk => hk.elim) ?aF ?aO ?aB ?aS ?aL ?_; (case aP => exact k73_mkM _ _ _ (⟨a1, a2⟩ : S73)); (case aB => exact (by repeat (first | (with_reducible first | exact HB.out | apply below_alloc | apply pw_below_drewN | apply below_drew1) | exact HB.out))); (case aF => exact (fun _ _ => trivial)); (case aO => exact (by (with_reducible repeat (first | apply Kd.R_alloc | apply Kd.R_drewN | apply Kd.R_drew)); exact HO239.out)); (case aS => exact (below_size (by repeat (first | (with_reducible first | exact HB.out | apply below_alloc | apply pw_below_drewN | apply below_drew1) | exact HB.out)))); (case aL => have := LMc26.out; omega); intro v241 w31 ho hb hg hat; rw [← Ny240.out] at ho; have n0_ := Aside0.mk (hb); have n1_ := Aside0.mk (ho); clear HB; clear HO239; have HB := n0_; have HO242 := n1_; clear n0_ n1_; clear ho hb hg hat) | ((with_reducible refine gate_builtin (b := .append) (xs := #[.tmp 48, .tmp 49]) rfl ?_); at_builtin; refine Kd.R_append_rows k73 (w0 := w) w.heap.size rfl (.tmp 48) (.tmp 49) 27 73 (.agg #[(.string ⟨#[]⟩), (.string ⟨#[]⟩)]) 32 rfl Tryz.underlying27 info73 rfl (by decide) (by omega) v241 y240 y229 _ _ _ (fun _ => True) (fun _ => False) rfl rfl ?aO ?aR (fun _ _ h => h) (fun _ h => h.elim) ?aF ?aB ?aS ?aL ?_; (case aR => repeat (first | exact (Kd.C_below HR232.out HB.out) | (with_reducible refine Kd.C_alloc ?_ _) | (with_reducible refine Kd.C_drewN ?_ _) | (with_reducible refine Kd.C_drew ?_))); (case aB => exact (by repeat (first | (with_reducible first | exact HB.out | apply below_alloc | apply pw_below_drewN | apply below_drew1) | exact HB.out))); (case aF => exact (fun _ _ => trivial)); (case aO => exact (by (with_reducible repeat (first | apply Kd.R_alloc | apply Kd.R_drewN | apply Kd.R_drew)); exact HO242.out)); (case aS => exact (below_size (by repeat (first | (with_reducible first | exact HB.out | apply below_alloc | apply pw_below_drewN | apply below_drew1) | exact HB.out)))); (case aL => have := LMc27.out; omega); intro v244 w32 ho hb hg hat; rw [← Ny243.out] at ho; have n0_ := Aside0.mk (hb); have n1_ := Aside0.mk (ho); clear HB; clear HO242; have HB := n0_; have HO245 := n1_; clear n0_ n1_; clear ho hb hg hat))
                  go_ret2
                  exact ⟨_, by first | rfl | (simp [errW_none, errW_some] <;> rfl) | (simp [*, errW_none, errW_some] <;> rfl), by (with_reducible repeat (first | apply Kd.R_alloc | apply Kd.R_drewN | apply Kd.R_drew)); exact HO245.out, by repeat (first | (with_reducible first | exact HB.out | apply below_alloc | apply pw_below_drewN | apply below_drew1) | exact HB.out)⟩
                · rw [if_neg c27] at H
                  exact absurd H (by simp)
              · rw [if_neg c26] at H
                exact absurd H (by simp)
            · rw [if_neg c25] at H
              exact absurd H (by simp)
          · rw [if_neg c22] at H
            have c22b0 : (((rd_T73 l0 t210).f0).toList == a1.toList) = true := beq_iff_eq.mpr (Decidable.not_not.mp c22)
            have c22b1 : (((rd_T73 l0 t210).f0).toList != a1.toList) = false := bne_eq_false_iff_eq.mpr (Decidable.not_not.mp c22)
            obtain ⟨ji33, hji33⟩ : ∃ j_ : Int, (wrap64 (t210 + 1)) = j_ := ⟨_, rfl⟩
            replace H : (if 0 ≤ (ji33) then (if (ji33) ≤ (l0.length : Int) then ((some (l0.drop ((ji33) : Int).toNat : List (S73))).bind fun y246 => ((some (l0.take (t210 : Int).toNat : List (S73))).bind fun y250 => (if ([] : List (S73)).length + y250.length < 4398046511104 then ((some (([] : List (S73)) ++ y250 : List (S73))).bind fun y254 => (if y254.length < 4398046511104 then ((some (y254 ++ [(⟨a1, a2⟩ : S73)] : List (S73))).bind fun y257 => (if y257.length + y246.length < 4398046511104 then (some ((y257 ++ y246), (((rd_T73 l0 t210).f0).toList != a1.toList))) else (none))) else (none))) else (none)))) else (none)) else (none)) = some (r1, r2) := by first | (rw [hji33] at H; exact H) | (simp only [hji33] at H ⊢; exact H)
            (try rw [hji33] at A4)
            have hji33w : (IntKind.i64.wrap (t210 + 1)) = ji33 := (i64_w _).trans hji33
            by_cases c34 : 0 ≤ (ji33)
            · rw [if_pos c34] at H
              have c34b0 := eq_true c34
              have c34b1 : decide (0 ≤ (ji33)) = true := decide_eq_true c34
              clear c34
              by_cases c35 : (ji33) ≤ (l0.length : Int)
              · rw [if_pos c35] at H
                have c35b0 := eq_true c35
                have c35b1 : decide ((ji33) ≤ (l0.length : Int)) = true := decide_eq_true c35
                clear c35
                obtain ⟨y246, hy246⟩ : ∃ y_ : List (S73), y_ = (l0.drop ((ji33) : Int).toNat) := ⟨_, rfl⟩
                replace H : ((some (l0.take (t210 : Int).toNat : List (S73))).bind fun y250 => (if ([] : List (S73)).length + y250.length < 4398046511104 then ((some (([] : List (S73)) ++ y250 : List (S73))).bind fun y254 => (if y254.length < 4398046511104 then ((some (y254 ++ [(⟨a1, a2⟩ : S73)] : List (S73))).bind fun y257 => (if y257.length + y246.length < 4398046511104 then (some ((y257 ++ y246), (((rd_T73 l0 t210).f0).toList != a1.toList))) else (none))) else (none))) else (none))) = some (r1, r2) := by first | (rw [hy246]; with_reducible exact H) | (have H2_ := (Option.bind_some _ _).symm.trans H; rw [hy246]; with_reducible exact H2_) | (have H2_ := (Option.bind_some _ _).symm.trans H; with_reducible exact H2_) | with_reducible exact H | (rw [hy246]; exact H) | exact H
                have Ny246 := Aside0.mk hy246
                clear hy246
                have c36b0 := eq_true (of_decide_eq_true (by first | (with_reducible assumption) | assumption) : 0 ≤ t210)
                have c37b0 := eq_true (of_decide_eq_true (by first | (with_reducible assumption) | assumption) : t210 ≤ (l0.length : Int))
                obtain ⟨y250, hy250⟩ : ∃ y_ : List (S73), y_ = (l0.take (t210 : Int).toNat) := ⟨_, rfl⟩
                replace H : (if ([] : List (S73)).length + y250.length < 4398046511104 then ((some (([] : List (S73)) ++ y250 : List (S73))).bind fun y254 => (if y254.length < 4398046511104 then ((some (y254 ++ [(⟨a1, a2⟩ : S73)] : List (S73))).bind fun y257 => (if y257.length + y246.length < 4398046511104 then (some ((y257 ++ y246), (((rd_T73 l0 t210).f0).toList != a1.toList))) else (none))) else (none))) else (none)) = some (r1, r2) := by first | (rw [hy250]; with_reducible exact H) | (have H2_ := (Option.bind_some _ _).symm.trans H; rw [hy250]; with_reducible exact H2_) | (have H2_ := (Option.bind_some _ _).symm.trans H; with_reducible exact H2_) | with_reducible exact H | (rw [hy250]; exact H) | exact H
                have Ny250 := Aside0.mk hy250
                clear hy250
                by_cases c38 : ([] : List (S73)).length + y250.length < 4398046511104
                · rw [if_pos c38] at H
                  have LMc38 := Aside0.mk c38
                  clear c38
                  obtain ⟨y254, hy254⟩ : ∃ y_ : List (S73), y_ = (([] : List (S73)) ++ y250) := ⟨_, rfl⟩
                  replace H : (if y254.length < 4398046511104 then ((some (y254 ++ [(⟨a1, a2⟩ : S73)] : List (S73))).bind fun y257 => (if y257.length + y246.length < 4398046511104 then (some ((y257 ++ y246), (((rd_T73 l0 t210).f0).toList != a1.toList))) else (none))) else (none)) = some (r1, r2) := by first | (rw [hy254]; with_reducible exact H) | (have H2_ := (Option.bind_some _ _).symm.trans H; rw [hy254]; with_reducible exact H2_) | (have H2_ := (Option.bind_some _ _).symm.trans H; with_reducible exact H2_) | with_reducible exact H | (rw [hy254]; exact H) | exact H
                  have Ny254 := Aside0.mk hy254
                  clear hy254
                  by_cases c39 : y254.length < 4398046511104
                  · rw [if_pos c39] at H
                    have LMc39 := Aside0.mk c39
                    clear c39
                    obtain ⟨y257, hy257⟩ : ∃ y_ : List (S73), y_ = (y254 ++ [(⟨a1, a2⟩ : S73)]) := ⟨_, rfl⟩
                    replace H : (if y257.length + y246.length < 4398046511104 then (some ((y257 ++ y246), (((rd_T73 l0 t210).f0).toList != a1.toList))) else (none)) = some (r1, r2) := by first | (rw [hy257]; with_reducible exact H) | (have H2_ := (Option.bind_some _ _).symm.trans H; rw [hy257]; with_reducible exact H2_) | (have H2_ := (Option.bind_some _ _).symm.trans H; with_reducible exact H2_) | with_reducible exact H | (rw [hy257]; exact H) | exact H
                    have Ny257 := Aside0.mk hy257
                    clear hy257
                    by_cases c40 : y257.length + y246.length < 4398046511104
                    · rw [if_pos c40] at H
                      have LMc40 := Aside0.mk c40
                      clear c40
                      obtain ⟨y260, hy260⟩ : ∃ y_ : List (S73), y_ = (y257 ++ y246) := ⟨_, rfl⟩
                      replace H : (some (y260, (((rd_T73 l0 t210).f0).toList != a1.toList))) = some (r1, r2) := by first | (rw [hy260]; with_reducible exact H) | (have H2_ := (Option.bind_some _ _).symm.trans H; rw [hy260]; with_reducible exact H2_) | (have H2_ := (Option.bind_some _ _).symm.trans H; with_reducible exact H2_) | with_reducible exact H | (rw [hy260]; exact H) | exact H
                      have Ny260 := Aside0.mk hy260
                      clear hy260
                      simp only [Option.some.injEq, Prod.mk.injEq] at H
                      obtain ⟨rfl, rfl⟩ := H
                      go_enter Tryz.func91, Tryz.ntmps91
                      go_wp2_with (first | ((with_reducible refine gate_callee (f := 73) rfl ?_); refine goesL_ (some 14) rfl rfl Tryz.func73 (by kernel_rfl) rfl #[.slice A0 l0.length c0, .string a1] rfl (by (try simp only [List.map_toArray, List.map_cons, List.map_nil]); first | done | rfl | (simp only [List.length_drop, List.length_take]; rfl)) ?_; (with_reducible refine (footbridgeref09_at.calls k _ _ l0 a1 t210 _ ?side1 ?side2 A4.out).mono ?_); (case side1 => repeat (first | exact HR0.out | (with_reducible refine Kd.C_alloc ?_ _) | (with_reducible refine Kd.C_drewN ?_ _) | (with_reducible refine Kd.C_drew ?_))); (case side2 => exact HC0.out); rintro e w' ⟨rfl, ⟨nd, rfl⟩⟩; refine ⟨_, rfl, ?_⟩; have p228 : 0 ≤ (t210 : Int) := of_decide_eq_true (by first | (with_reducible assumption) | assumption); have q228 : t210 < (l0.length : Int) := of_decide_eq_true (by first | (with_reducible assumption) | assumption); obtain ⟨ad228, e228, hx228_0, hx228_1⟩ := at_T73 HR0.out t210 p228 q228; cases e228; replace p228 := eq_true p228; replace q228 := eq_true q228; have q41 : (t210 : Int) ≤ ((l0.length : Int) : Int) := of_decide_eq_true (by first | (with_reducible assumption) | assumption); obtain ⟨i041, hi041, _, hsz41, _⟩ := info_parts info73; have hroom41 : l0.length ≤ c0 := HC0.out; have hC41 : Kd.C k73 _ (some ad228) l0.length l0 := HR0.out; have q041 : (0 : Int) ≤ (t210 : Int) := of_decide_eq_true (by first | (with_reducible assumption) | assumption); have hcut41 := cut_from (P := Tryz.prog) 27 73 .i64 Tryz.underlying27 hi041 2 hsz41 (some ad228) l0.length c0 t210 q041 q41; have hr41 := Kd.C_drop (m := (t210 : Int).toNat) (c := c0) hC41 (by omega) hroom41; obtain ⟨A41, hA41⟩ : ∃ A1, A1 = (if c0 = (t210 : Int).toNat then (some ad228) else ((some ad228) : Option Addr).map (·.add ((t210 : Int).toNat * 2))) := ⟨_, rfl⟩; obtain ⟨c41, hc41⟩ : ∃ c1, c1 = c0 - (t210 : Int).toNat := ⟨_, rfl⟩; have hy41 : y229.length = l0.length - (t210 : Int).toNat := (by rw [Ny229.out, List.length_drop] <;> omega); rw [show (l0).drop (t210 : Int).toNat = y229 from Ny229.out.symm] at hr41; replace hr41 : Kd.C k73 _ A41 y229.length y229 := (by rw [hA41]; exact hr41); rw [← hy41, ← hA41, ← hc41] at hcut41; have HR232 := Aside0.mk hr41; have HC232 := Aside0.mk (show y229.length ≤ c41 from by rw [hy41, hc41]; exact Nat.sub_le_sub_right hroom41 _); clear hr41 hC41 hroom41 hi041 hsz41 hc41; have KY41 := Aside0.mk hy41; have KA41 := Aside0.mk hA41; clear hy41 hA41; replace q41 := eq_true q41; have q42 : ((ji33) : Int) ≤ ((l0.length : Int) : Int) := of_decide_eq_true (by first | (with_reducible assumption) | assumption); obtain ⟨i042, hi042, _, hsz42, _⟩ := info_parts info73; have hroom42 : l0.length ≤ c0 := HC0.out; have hC42 : Kd.C k73 _ (some ad228) l0.length l0 := HR0.out; have q042 : (0 : Int) ≤ ((ji33) : Int) := of_decide_eq_true (by first | (with_reducible assumption) | assumption); have hcut42 := cut_from (P := Tryz.prog) 27 73 .i64 Tryz.underlying27 hi042 2 hsz42 (some ad228) l0.length c0 (ji33) q042 q42; have hr42 := Kd.C_drop (m := ((ji33) : Int).toNat) (c := c0) hC42 (by omega) hroom42; obtain ⟨A42, hA42⟩ : ∃ A1, A1 = (if c0 = ((ji33) : Int).toNat then (some ad228) else ((some ad228) : Option Addr).map (·.add (((ji33) : Int).toNat * 2))) := ⟨_, rfl⟩; obtain ⟨c42, hc42⟩ : ∃ c1, c1 = c0 - ((ji33) : Int).toNat := ⟨_, rfl⟩; have hy42 : y246.length = l0.length - ((ji33) : Int).toNat := (by rw [Ny246.out, List.length_drop] <;> omega); rw [show (l0).drop ((ji33) : Int).toNat = y246 from Ny246.out.symm] at hr42; replace hr42 : Kd.C k73 _ A42 y246.length y246 := (by rw [hA42]; exact hr42); rw [← hy42, ← hA42, ← hc42] at hcut42; have HR249 := Aside0.mk hr42; have HC249 := Aside0.mk (show y246.length ≤ c42 from by rw [hy42, hc42]; exact Nat.sub_le_sub_right hroom42 _); clear hr42 hC42 hroom42 hi042 hsz42 hc42; have KY42 := Aside0.mk hy42; have KA42 := Aside0.mk hA42; clear hy42 hA42; replace q42 := eq_true q42; have q43 : (t210 : Int) ≤ ((l0.length : Int) : Int) := of_decide_eq_true (by first | (with_reducible assumption) | assumption); obtain ⟨i043, hi043, _, hsz43, _⟩ := info_parts info73; have hroom43 : l0.length ≤ c0 := HC0.out; have hC43 : Kd.C k73 _ (some ad228) l0.length l0 := HR0.out; have hcut43 := cut_to (P := Tryz.prog) 27 73 .i64 Tryz.underlying27 hi043 (some ad228) l0.length c0 t210 (of_decide_eq_true (by first | (with_reducible assumption) | assumption)) q43 hroom43; have hr43 := Kd.C_take (m := (t210 : Int).toNat) hC43 (by omega); have hy43 : y250.length = (t210 : Int).toNat := (by rw [Ny250.out, List.length_take]; omega); rw [← Ny250.out] at hr43; rw [← hy43] at hcut43; have HR253 := Aside0.mk hr43; have HC253 := Aside0.mk (show y250.length ≤ c0 from by omega); clear hr43 hC43 hroom43 hi043 hsz43; have KY43 := Aside0.mk hy43; clear hy43; replace q43 := eq_true q43) | ((with_reducible refine gate_builtin (b := .append) (xs := #[.tmp 37, .tmp 40]) rfl ?_); at_builtin; refine Kd.R_append_rows k73 (w0 := w) w.heap.size rfl (.tmp 37) (.tmp 40) 27 73 (.agg #[(.string ⟨#[]⟩), (.string ⟨#[]⟩)]) 32 rfl Tryz.underlying27 info73 rfl (by decide) (by omega) (.slice none 0 0) ([] : List (S73)) y250 _ _ _ (fun _ => True) (fun _ => False) rfl rfl ?aO ?aR (fun _ _ h => h) (fun _ h => h.elim) ?aF ?aB ?aS ?aL ?_; (case aR => repeat (first | exact HR253.out | (with_reducible refine Kd.C_alloc ?_ _) | (with_reducible refine Kd.C_drewN ?_ _) | (with_reducible refine Kd.C_drew ?_))); (case aB => exact (by repeat (first | (with_reducible first | exact HB.out | apply below_alloc | apply pw_below_drewN | apply below_drew1) | exact HB.out))); (case aF => exact (fun _ _ => trivial)); (case aO => exact ((Kd.R_nil _ _ _ _ (fun _ => True)))); (case aS => exact (below_size (by repeat (first | (with_reducible first | exact HB.out | apply below_alloc | apply pw_below_drewN | apply below_drew1) | exact HB.out)))); (case aL => have := LMc38.out; omega); intro v255 w44 ho hb hg hat; rw [← Ny254.out] at ho; have n0_ := Aside0.mk (hb); have n1_ := Aside0.mk (ho); clear HB; have HB := n0_; have HO256 := n1_; clear n0_ n1_; clear ho hb hg hat) | ((with_reducible refine gate_builtin (b := .append) (xs := #[.tmp 42, .tmp 46]) rfl ?_); at_builtin; refine Kd.R_append k73 (w0 := w) w.heap.size rfl (.tmp 42) (.tmp 46) 27 73 (.agg #[(.string ⟨#[]⟩), (.string ⟨#[]⟩)]) 32 rfl Tryz.underlying27 info73 rfl (by decide) (by omega) v255 y254 (⟨a1, a2⟩ : S73) [.string a1, .string a2] (fun _ => True) (fun _ => False) rfl rfl ?aP (fun _ hk => hk.elim) ?aF ?aO ?aB ?aS ?aL ?_; (case aP => exact k73_mkM _ _ _ (⟨a1, a2⟩ : S73)); (case aB => exact (by repeat (first | (with_reducible first | exact HB.out | apply below_alloc | apply pw_below_drewN | apply below_drew1) | exact HB.out))); (case aF => exact (fun _ _ => trivial)); (case aO => exact (by (with_reducible repeat (first | apply Kd.R_alloc | apply Kd.R_drewN | apply Kd.R_drew)); exact HO256.out)); (case aS => exact (below_size (by repeat (first | (with_reducible first | exact HB.out | apply below_alloc | apply pw_below_drewN | apply below_drew1) | exact HB.out)))); (case aL => have := LMc39.out; omega); intro v258 w45 ho hb hg hat; rw [← Ny257.out] at ho; have n0_ := Aside0.mk (hb); have n1_ := Aside0.mk (ho); clear HB; clear HO256; have HB := n0_; have HO259 := n1_; clear n0_ n1_; clear ho hb hg hat) | ((with_reducible refine gate_builtin (b := .append) (xs := #[.tmp 48, .tmp 49]) rfl ?_); at_builtin; refine Kd.R_append_rows k73 (w0 := w) w.heap.size rfl (.tmp 48) (.tmp 49) 27 73 (.agg #[(.string ⟨#[]⟩), (.string ⟨#[]⟩)]) 32 rfl Tryz.underlying27 info73 rfl (by decide) (by omega) v258 y257 y246 _ _ _ (fun _ => True) (fun _ => False) rfl rfl ?aO ?aR (fun _ _ h => h) (fun _ h => h.elim) ?aF ?aB ?aS ?aL ?_; (case aR => repeat (first | exact (Kd.C_below HR249.out HB.out) | (with_reducible refine Kd.C_alloc ?_ _) | (with_reducible refine Kd.C_drewN ?_ _) | (with_reducible refine Kd.C_drew ?_))); (case aB => exact (by repeat (first | (with_reducible first | exact HB.out | apply below_alloc | apply pw_below_drewN | apply below_drew1) | exact HB.out))); (case aF => exact (fun _ _ => trivial)); (case aO => exact (by (with_reducible repeat (first | apply Kd.R_alloc | apply Kd.R_drewN | apply Kd.R_drew)); exact HO259.out)); (case aS => exact (below_size (by repeat (first | (with_reducible first | exact HB.out | apply below_alloc | apply pw_below_drewN | apply below_drew1) | exact HB.out)))); (case aL => have := LMc40.out; omega); intro v261 w46 ho hb hg hat; rw [← Ny260.out] at ho; have n0_ := Aside0.mk (hb); have n1_ := Aside0.mk (ho); clear HB; clear HO259; have HB := n0_; have HO262 := n1_; clear n0_ n1_; clear ho hb hg hat))
                      go_ret2
                      exact ⟨_, by first | rfl | (simp [errW_none, errW_some] <;> rfl) | (simp only [← hji33]; first | rfl | (simp [errW_none, errW_some] <;> rfl)) | (simp [*, errW_none, errW_some] <;> rfl), by (with_reducible repeat (first | apply Kd.R_alloc | apply Kd.R_drewN | apply Kd.R_drew)); exact HO262.out, by repeat (first | (with_reducible first | exact HB.out | apply below_alloc | apply pw_below_drewN | apply below_drew1) | exact HB.out)⟩
                    · rw [if_neg c40] at H
                      exact absurd H (by simp)
                  · rw [if_neg c39] at H
                    exact absurd H (by simp)
                · rw [if_neg c38] at H
                  exact absurd H (by simp)
              · rw [if_neg c35] at H
                exact absurd H (by simp)
            · rw [if_neg c34] at H
              exact absurd H (by simp)
        · rw [if_neg c21] at H
          exact absurd H (by simp)
      · rw [if_neg c19] at H
        exact absurd H (by simp)
    · rw [if_neg c18] at H
      exact absurd H (by simp)

/-! ### footbridgeref14_Put: function 69 -/
def footbridgeref14_Put.f (k : Nat) (l0 : List (S73)) (a1 : ByteArray) (a2 : ByteArray) : Option ((List (S73))) := (footbridgeref09_Set.f k l0 a1 a2).bind fun bt263 => (some bt263.1)
theorem footbridgeref14_Put.mono : ∀ a0 a1 a2 k, LeO (footbridgeref14_Put.f k a0 a1 a2) (footbridgeref14_Put.f (k + 1) a0 a1 a2) := by
  intro a0 a1 a2 k
  unfold footbridgeref14_Put.f
  repeat' first
      | (with_reducible exact footbridgeref09_Set.mono _ _ _ _)
      | (with_reducible exact LeO.refl _)
      | (with_reducible exact LeO.none _)
      | (with_reducible refine LeO.ite ?_ ?_)
      | (with_reducible refine LeO.bind ?_ (fun _ => ?_))
      | exact footbridgeref09_Set.mono _ _ _ _
      | exact LeO.none _
      | refine LeO.ite ?_ ?_
      | refine LeO.bind ?_ (fun _ => ?_)
set_option maxHeartbeats 8000000 in
set_option maxRecDepth 100000 in
theorem footbridgeref14_Put.calls (k : Nat) (A0 : Option Addr) (c0 : Nat) (l0 : List (S73)) (a1 : ByteArray) (a2 : ByteArray) (r : List (S73)) (w : World) (hr0 : Kd.C k73 w A0 l0.length l0) (hc0 : l0.length ≤ c0) (h : footbridgeref14_Put.f k l0 a1 a2 = some r) :
    Calls Tryz.prog 69 #[.slice A0 l0.length c0, .string a1, .string a2] w fun e w' => ∃ v0_ : Value, e = .returned (v0_) ∧ Kd.R k73 73 w' w.heap.size (fun _ => True) v0_ r ∧ Below w.heap.size w w' := by
  have HR0 := Aside0.mk hr0
  have HC0 := Aside0.mk hc0
  clear hr0 hc0
  have HB := Aside0.mk (Below.refl w.heap.size w)
  have H : ((footbridgeref09_Set.f k l0 a1 a2).bind fun bt263 => (some bt263.1)) = some r := h
  clear h
  replace H := Option.bind_eq_some_iff.mp H
  obtain ⟨⟨t263, t264⟩, A40, H⟩ := H
  replace H : (some t263) = some r := H
  have A4 := Aside0.mk A40
  clear A40
  obtain rfl := Option.some.inj H
  go_enter Tryz.func69, Tryz.ntmps69
  go_wp2_with (first | ((with_reducible refine gate_callee (f := 91) rfl ?_); refine goesL_ (some 13) rfl rfl Tryz.func91 (by kernel_rfl) rfl #[.slice A0 l0.length c0, .string a1, .string a2] rfl (by (try simp only [List.map_toArray, List.map_cons, List.map_nil]); first | done | rfl | (simp only [List.length_drop, List.length_take]; rfl)) ?_; (with_reducible refine (footbridgeref09_Set.calls k _ _ l0 a1 a2 t263 t264 _ ?side1 ?side2 A4.out).mono ?_); (case side1 => repeat (first | exact HR0.out | (with_reducible refine Kd.C_alloc ?_ _) | (with_reducible refine Kd.C_drewN ?_ _) | (with_reducible refine Kd.C_drew ?_))); (case side2 => exact HC0.out); rintro e w5 ⟨v265, rfl, ho0, hb⟩; refine ⟨_, rfl, ?_⟩; have n0_ := Aside0.mk (Kd.R_lower ho0 (below_size (by repeat (first | (with_reducible first | exact HB.out | apply below_alloc | apply pw_below_drewN | apply below_drew1) | exact HB.out)))); have n1_ := Aside0.mk (below_step (by repeat (first | (with_reducible first | exact HB.out | apply below_alloc | apply pw_below_drewN | apply below_drew1) | exact HB.out)) hb); clear HB; have HO266 := n0_; have HB := n1_; clear n0_ n1_; (try clear hb); (try clear hb2); (try clear hk); (try clear hi); (try clear ho0)))
  go_ret
  exact ⟨_, by first | rfl | (simp [errW_none, errW_some] <;> rfl) | (simp [*, errW_none, errW_some] <;> rfl), by (with_reducible repeat (first | apply Kd.R_alloc | apply Kd.R_drewN | apply Kd.R_drew)); exact HO266.out, by repeat (first | (with_reducible first | exact HB.out | apply below_alloc | apply pw_below_drewN | apply below_drew1) | exact HB.out)⟩

/-! ### footbridgeref09_Del: function 80 -/
def footbridgeref09_Del.f (k : Nat) (l0 : List (S73)) (a1 : ByteArray) : Option ((List (S73)) × Bool) := (footbridgeref09_at.f k l0 a1).bind fun t267 => (if t267 = (l0.length : Int) then (some (l0, false)) else (if 0 ≤ t267 then (if t267 < (l0.length : Int) then (if ((rd_T73 l0 t267).f0).toList = a1.toList then (if t267 ≤ (l0.length : Int) then ((some (l0.take (t267 : Int).toNat : List (S73))).bind fun y269 => (if ([] : List (S73)).length + y269.length < 4398046511104 then ((some (([] : List (S73)) ++ y269 : List (S73))).bind fun y274 => (if 0 ≤ (wrap64 (t267 + 1)) then (if (wrap64 (t267 + 1)) ≤ (l0.length : Int) then ((some (l0.drop ((wrap64 (t267 + 1)) : Int).toNat : List (S73))).bind fun y277 => (if y274.length + y277.length < 4398046511104 then (some ((y274 ++ y277), true)) else (none))) else (none)) else (none))) else (none))) else (none)) else (some (l0, false))) else (none)) else (none)))
theorem footbridgeref09_Del.mono : ∀ a0 a1 k, LeO (footbridgeref09_Del.f k a0 a1) (footbridgeref09_Del.f (k + 1) a0 a1) := by
  intro a0 a1 k
  unfold footbridgeref09_Del.f
  repeat' first
      | (with_reducible exact footbridgeref09_at.mono _ _ _)
      | (with_reducible exact LeO.refl _)
      | (with_reducible exact LeO.none _)
      | (with_reducible refine LeO.ite ?_ ?_)
      | (with_reducible refine LeO.bind ?_ (fun _ => ?_))
      | exact footbridgeref09_at.mono _ _ _
      | exact LeO.none _
      | refine LeO.ite ?_ ?_
      | refine LeO.bind ?_ (fun _ => ?_)
set_option maxHeartbeats 8000000 in
set_option maxRecDepth 100000 in
theorem footbridgeref09_Del.calls (k : Nat) (P0_ : Nat → Prop) (A0 : Option Addr) (c0 : Nat) (l0 : List (S73)) (a1 : ByteArray) (r1 : List (S73)) (r2 : Bool) (w : World) (hs0 : Kd.V k73 73 w w.heap.size (fun k_ => P0_ k_) (.slice A0 l0.length c0) l0) (h : footbridgeref09_Del.f k l0 a1 = some (r1, r2)) :
    Calls Tryz.prog 80 #[.slice A0 l0.length c0, .string a1] w fun e w' => ∃ v0_ : Value, e = .returned (.tuple #[v0_, .bool r2]) ∧ Kd.V k73 73 w' w.heap.size (fun k_ => (P0_ k_ ∨ w.heap.size ≤ k_)) v0_ r1 ∧ Below w.heap.size w w' := by
  have HO0 := Aside0.mk (show Kd.V k73 73 w w.heap.size (fun k_ => (P0_ k_ ∨ w.heap.size ≤ k_)) (.slice A0 l0.length c0) l0 from Kd.V_mono hs0 (fun k_ hk => .inl hk))
  have HB := Aside0.mk (Below.refl w.heap.size w)
  have H : ((footbridgeref09_at.f k l0 a1).bind fun t267 => (if t267 = (l0.length : Int) then (some (l0, false)) else (if 0 ≤ t267 then (if t267 < (l0.length : Int) then (if ((rd_T73 l0 t267).f0).toList = a1.toList then (if t267 ≤ (l0.length : Int) then ((some (l0.take (t267 : Int).toNat : List (S73))).bind fun y269 => (if ([] : List (S73)).length + y269.length < 4398046511104 then ((some (([] : List (S73)) ++ y269 : List (S73))).bind fun y274 => (if 0 ≤ (wrap64 (t267 + 1)) then (if (wrap64 (t267 + 1)) ≤ (l0.length : Int) then ((some (l0.drop ((wrap64 (t267 + 1)) : Int).toNat : List (S73))).bind fun y277 => (if y274.length + y277.length < 4398046511104 then (some ((y274 ++ y277), true)) else (none))) else (none)) else (none))) else (none))) else (none)) else (some (l0, false))) else (none)) else (none)))) = some (r1, r2) := h
  clear h
  replace H := Option.bind_eq_some_iff.mp H
  obtain ⟨t267, A30, H⟩ := H
  replace H : (if t267 = (l0.length : Int) then (some (l0, false)) else (if 0 ≤ t267 then (if t267 < (l0.length : Int) then (if ((rd_T73 l0 t267).f0).toList = a1.toList then (if t267 ≤ (l0.length : Int) then ((some (l0.take (t267 : Int).toNat : List (S73))).bind fun y269 => (if ([] : List (S73)).length + y269.length < 4398046511104 then ((some (([] : List (S73)) ++ y269 : List (S73))).bind fun y274 => (if 0 ≤ (wrap64 (t267 + 1)) then (if (wrap64 (t267 + 1)) ≤ (l0.length : Int) then ((some (l0.drop ((wrap64 (t267 + 1)) : Int).toNat : List (S73))).bind fun y277 => (if y274.length + y277.length < 4398046511104 then (some ((y274 ++ y277), true)) else (none))) else (none)) else (none))) else (none))) else (none)) else (some (l0, false))) else (none)) else (none))) = some (r1, r2) := H
  have A3 := Aside0.mk A30
  clear A30
  by_cases c4 : t267 = (l0.length : Int)
  · rw [if_pos c4] at H
    have c4b0 : (t267 == (l0.length : Int)) = true := beq_iff_eq.mpr c4
    have c4b1 : (t267 != (l0.length : Int)) = false := bne_eq_false_iff_eq.mpr c4
    clear c4
    simp only [Option.some.injEq, Prod.mk.injEq] at H
    obtain ⟨rfl, rfl⟩ := H
    go_enter Tryz.func80, Tryz.ntmps80
    go_wp2_with (first | ((with_reducible refine gate_callee (f := 73) rfl ?_); refine goesL_ (some 10) rfl rfl Tryz.func73 (by kernel_rfl) rfl #[.slice A0 l0.length c0, .string a1] rfl (by (try simp only [List.map_toArray, List.map_cons, List.map_nil]); first | done | rfl | (simp only [List.length_drop, List.length_take]; rfl)) ?_; (with_reducible refine (footbridgeref09_at.calls k _ _ l0 a1 t267 _ ?side1 ?side2 A3.out).mono ?_); (case side1 => repeat (first | exact (Kd.V_reads' HO0.out).2.2 | (with_reducible refine Kd.C_alloc ?_ _) | (with_reducible refine Kd.C_drewN ?_ _) | (with_reducible refine Kd.C_drew ?_))); (case side2 => exact (Kd.V_reads' HO0.out).2.1); rintro e w' ⟨rfl, ⟨nd, rfl⟩⟩; refine ⟨_, rfl, ?_⟩))
    go_ret2
    exact ⟨_, by first | rfl | (simp [errW_none, errW_some] <;> rfl) | (simp [*, errW_none, errW_some] <;> rfl), by (with_reducible repeat (first | apply Kd.V_alloc | apply Kd.V_drewN | apply Kd.V_drew)); exact HO0.out, by repeat (first | (with_reducible first | exact HB.out | apply below_alloc | apply pw_below_drewN | apply below_drew1) | exact HB.out)⟩
  · rw [if_neg c4] at H
    have c4b0 : (t267 == (l0.length : Int)) = false := beq_eq_false_iff_ne.mpr c4
    have c4b1 : (t267 != (l0.length : Int)) = true := bne_iff_ne.mpr c4
    by_cases c5 : 0 ≤ t267
    · rw [if_pos c5] at H
      have c5b0 : decide (0 ≤ t267) = true := decide_eq_true c5
      clear c5
      by_cases c6 : t267 < (l0.length : Int)
      · rw [if_pos c6] at H
        have c6b0 : decide (t267 < (l0.length : Int)) = true := decide_eq_true c6
        clear c6
        by_cases c7 : ((rd_T73 l0 t267).f0).toList = a1.toList
        · rw [if_pos c7] at H
          have c7b0 : (((rd_T73 l0 t267).f0).toList == a1.toList) = true := beq_iff_eq.mpr c7
          have c7b1 : (((rd_T73 l0 t267).f0).toList != a1.toList) = false := bne_eq_false_iff_eq.mpr c7
          clear c7
          have c8b0 := eq_true (of_decide_eq_true (by first | (with_reducible assumption) | assumption) : 0 ≤ t267)
          by_cases c9 : t267 ≤ (l0.length : Int)
          · rw [if_pos c9] at H
            have c9b0 := eq_true c9
            have c9b1 : decide (t267 ≤ (l0.length : Int)) = true := decide_eq_true c9
            clear c9
            obtain ⟨y269, hy269⟩ : ∃ y_ : List (S73), y_ = (l0.take (t267 : Int).toNat) := ⟨_, rfl⟩
            replace H : (if ([] : List (S73)).length + y269.length < 4398046511104 then ((some (([] : List (S73)) ++ y269 : List (S73))).bind fun y274 => (if 0 ≤ (wrap64 (t267 + 1)) then (if (wrap64 (t267 + 1)) ≤ (l0.length : Int) then ((some (l0.drop ((wrap64 (t267 + 1)) : Int).toNat : List (S73))).bind fun y277 => (if y274.length + y277.length < 4398046511104 then (some ((y274 ++ y277), true)) else (none))) else (none)) else (none))) else (none)) = some (r1, r2) := by first | (rw [hy269]; with_reducible exact H) | (have H2_ := (Option.bind_some _ _).symm.trans H; rw [hy269]; with_reducible exact H2_) | (have H2_ := (Option.bind_some _ _).symm.trans H; with_reducible exact H2_) | with_reducible exact H | (rw [hy269]; exact H) | exact H
            have Ny269 := Aside0.mk hy269
            clear hy269
            by_cases c10 : ([] : List (S73)).length + y269.length < 4398046511104
            · rw [if_pos c10] at H
              have LMc10 := Aside0.mk c10
              clear c10
              obtain ⟨y274, hy274⟩ : ∃ y_ : List (S73), y_ = (([] : List (S73)) ++ y269) := ⟨_, rfl⟩
              replace H : (if 0 ≤ (wrap64 (t267 + 1)) then (if (wrap64 (t267 + 1)) ≤ (l0.length : Int) then ((some (l0.drop ((wrap64 (t267 + 1)) : Int).toNat : List (S73))).bind fun y277 => (if y274.length + y277.length < 4398046511104 then (some ((y274 ++ y277), true)) else (none))) else (none)) else (none)) = some (r1, r2) := by first | (rw [hy274]; with_reducible exact H) | (have H2_ := (Option.bind_some _ _).symm.trans H; rw [hy274]; with_reducible exact H2_) | (have H2_ := (Option.bind_some _ _).symm.trans H; with_reducible exact H2_) | with_reducible exact H | (rw [hy274]; exact H) | exact H
              have Ny274 := Aside0.mk hy274
              clear hy274
              obtain ⟨ji11, hji11⟩ : ∃ j_ : Int, (wrap64 (t267 + 1)) = j_ := ⟨_, rfl⟩
              replace H : (if 0 ≤ (ji11) then (if (ji11) ≤ (l0.length : Int) then ((some (l0.drop ((ji11) : Int).toNat : List (S73))).bind fun y277 => (if y274.length + y277.length < 4398046511104 then (some ((y274 ++ y277), true)) else (none))) else (none)) else (none)) = some (r1, r2) := by first | (rw [hji11] at H; exact H) | (simp only [hji11] at H ⊢; exact H)
              (try rw [hji11] at A3)
              have hji11w : (IntKind.i64.wrap (t267 + 1)) = ji11 := (i64_w _).trans hji11
              by_cases c12 : 0 ≤ (ji11)
              · rw [if_pos c12] at H
                have c12b0 := eq_true c12
                have c12b1 : decide (0 ≤ (ji11)) = true := decide_eq_true c12
                clear c12
                by_cases c13 : (ji11) ≤ (l0.length : Int)
                · rw [if_pos c13] at H
                  have c13b0 := eq_true c13
                  have c13b1 : decide ((ji11) ≤ (l0.length : Int)) = true := decide_eq_true c13
                  clear c13
                  obtain ⟨y277, hy277⟩ : ∃ y_ : List (S73), y_ = (l0.drop ((ji11) : Int).toNat) := ⟨_, rfl⟩
                  replace H : (if y274.length + y277.length < 4398046511104 then (some ((y274 ++ y277), true)) else (none)) = some (r1, r2) := by first | (rw [hy277]; with_reducible exact H) | (have H2_ := (Option.bind_some _ _).symm.trans H; rw [hy277]; with_reducible exact H2_) | (have H2_ := (Option.bind_some _ _).symm.trans H; with_reducible exact H2_) | with_reducible exact H | (rw [hy277]; exact H) | exact H
                  have Ny277 := Aside0.mk hy277
                  clear hy277
                  by_cases c14 : y274.length + y277.length < 4398046511104
                  · rw [if_pos c14] at H
                    have LMc14 := Aside0.mk c14
                    clear c14
                    obtain ⟨y282, hy282⟩ : ∃ y_ : List (S73), y_ = (y274 ++ y277) := ⟨_, rfl⟩
                    replace H : (some (y282, true)) = some (r1, r2) := by first | (rw [hy282]; with_reducible exact H) | (have H2_ := (Option.bind_some _ _).symm.trans H; rw [hy282]; with_reducible exact H2_) | (have H2_ := (Option.bind_some _ _).symm.trans H; with_reducible exact H2_) | with_reducible exact H | (rw [hy282]; exact H) | exact H
                    have Ny282 := Aside0.mk hy282
                    clear hy282
                    simp only [Option.some.injEq, Prod.mk.injEq] at H
                    obtain ⟨rfl, rfl⟩ := H
                    go_enter Tryz.func80, Tryz.ntmps80
                    go_wp2_with (first | ((with_reducible refine gate_callee (f := 73) rfl ?_); refine goesL_ (some 10) rfl rfl Tryz.func73 (by kernel_rfl) rfl #[.slice A0 l0.length c0, .string a1] rfl (by (try simp only [List.map_toArray, List.map_cons, List.map_nil]); first | done | rfl | (simp only [List.length_drop, List.length_take]; rfl)) ?_; (with_reducible refine (footbridgeref09_at.calls k _ _ l0 a1 t267 _ ?side1 ?side2 A3.out).mono ?_); (case side1 => repeat (first | exact (Kd.V_reads' HO0.out).2.2 | (with_reducible refine Kd.C_alloc ?_ _) | (with_reducible refine Kd.C_drewN ?_ _) | (with_reducible refine Kd.C_drew ?_))); (case side2 => exact (Kd.V_reads' HO0.out).2.1); rintro e w' ⟨rfl, ⟨nd, rfl⟩⟩; refine ⟨_, rfl, ?_⟩; have p268 : 0 ≤ (t267 : Int) := of_decide_eq_true (by first | (with_reducible assumption) | assumption); have q268 : t267 < (l0.length : Int) := of_decide_eq_true (by first | (with_reducible assumption) | assumption); obtain ⟨ad268, e268, hx268_0, hx268_1⟩ := at_T73 (Kd.V_reads' HO0.out).2.2 t267 p268 q268; cases e268; replace p268 := eq_true p268; replace q268 := eq_true q268; have q15 : (t267 : Int) ≤ ((l0.length : Int) : Int) := of_decide_eq_true (by first | (with_reducible assumption) | assumption); obtain ⟨i015, hi015, _, hsz15, _⟩ := info_parts info73; have hroom15 : l0.length ≤ c0 := (Kd.V_reads' HO0.out).2.1; have hC15 : Kd.F k73 _ _ (some ad268) l0.length l0 := (Kd.V_at (base := w.heap.size) HO0.out).2.2; have hcut15 := cut_to (P := Tryz.prog) 27 73 .i64 Tryz.underlying27 hi015 (some ad268) l0.length c0 t267 (of_decide_eq_true (by first | (with_reducible assumption) | assumption)) q15 hroom15; have hr15 := Kd.F_take (m := (t267 : Int).toNat) hC15 (by omega); have hy15 : y269.length = (t267 : Int).toNat := (by rw [Ny269.out, List.length_take]; omega); rw [← Ny269.out] at hr15; rw [← hy15] at hcut15; have HO273 := Aside0.mk (show Kd.V k73 73 _ w.heap.size _ (.slice (some ad268) y269.length c0) y269 from Kd.V_mk (by omega) hr15); have HC273 := Aside0.mk (show y269.length ≤ c0 from by omega); clear hr15 hC15 hroom15 hi015 hsz15; have KY15 := Aside0.mk hy15; clear hy15; replace q15 := eq_true q15) | ((with_reducible refine gate_builtin (b := .append) (xs := #[.tmp 25, .tmp 28]) rfl ?_); at_builtin; refine Kd.R_append_rows k73 (w0 := w) w.heap.size rfl (.tmp 25) (.tmp 28) 27 73 (.agg #[(.string ⟨#[]⟩), (.string ⟨#[]⟩)]) 32 rfl Tryz.underlying27 info73 rfl (by decide) (by omega) (.slice none 0 0) ([] : List (S73)) y269 _ _ _ (fun k_ => (w.heap.size ≤ k_)) (fun _ => False) rfl rfl ?aO ?aR (fun _ _ h => h) (fun _ h => h.elim) ?aF ?aB ?aS ?aL ?_; (case aR => repeat (first | exact (Kd.V_reads' HO273.out).2.2 | (with_reducible refine Kd.C_alloc ?_ _) | (with_reducible refine Kd.C_drewN ?_ _) | (with_reducible refine Kd.C_drew ?_))); (case aB => exact (by repeat (first | (with_reducible first | exact HB.out | apply below_alloc | apply pw_below_drewN | apply below_drew1) | exact HB.out))); (case aF => exact (fun k_ hk => (Nat.le_trans (below_size (by repeat (first | (with_reducible first | exact HB.out | apply below_alloc | apply pw_below_drewN | apply below_drew1) | exact HB.out))) hk))); (case aO => exact ((Kd.R_nil _ _ _ _ (fun k_ => (w.heap.size ≤ k_))))); (case aS => exact (below_size (by repeat (first | (with_reducible first | exact HB.out | apply below_alloc | apply pw_below_drewN | apply below_drew1) | exact HB.out)))); (case aL => have := LMc10.out; omega); intro v275 w16 ho hb hg hat; rw [← Ny274.out] at ho; have n0_ := Aside0.mk (Kd.V_afterv (Kd.V_apart_nil (by (with_reducible repeat (first | apply Kd.V_alloc | apply Kd.V_drewN | apply Kd.V_drew)); exact HO0.out)) hg hat); have n1_ := Aside0.mk (Kd.V_afterv (Kd.V_apart_nil (by (with_reducible repeat (first | apply Kd.V_alloc | apply Kd.V_drewN | apply Kd.V_drew)); exact HO273.out)) hg hat); have n2_ := Aside0.mk (hb); have n3_ := Aside0.mk (ho); clear HO0; clear HO273; clear HB; have HO0 := n0_; have HO273 := n1_; have HB := n2_; have HO276 := n3_; clear n0_ n1_ n2_ n3_; clear ho hb hg hat; have q17 : ((ji11) : Int) ≤ ((l0.length : Int) : Int) := of_decide_eq_true (by first | (with_reducible assumption) | assumption); obtain ⟨i017, hi017, _, hsz17, _⟩ := info_parts info73; have hroom17 : l0.length ≤ c0 := (Kd.V_reads' HO0.out).2.1; have hC17 : Kd.F k73 _ _ (some ad268) l0.length l0 := (Kd.V_at (base := w.heap.size) HO0.out).2.2; have q017 : (0 : Int) ≤ ((ji11) : Int) := of_decide_eq_true (by first | (with_reducible assumption) | assumption); have hcut17 := cut_from (P := Tryz.prog) 27 73 .i64 Tryz.underlying27 hi017 2 hsz17 (some ad268) l0.length c0 (ji11) q017 q17; have hr17 := Kd.F_cut (m := ((ji11) : Int).toNat) (c := c0) hC17 (by omega) hroom17; obtain ⟨A17, hA17⟩ : ∃ A1, A1 = (if c0 = ((ji11) : Int).toNat then (some ad268) else ((some ad268) : Option Addr).map (·.add (((ji11) : Int).toNat * 2))) := ⟨_, rfl⟩; obtain ⟨c17, hc17⟩ : ∃ c1, c1 = c0 - ((ji11) : Int).toNat := ⟨_, rfl⟩; have hy17 : y277.length = l0.length - ((ji11) : Int).toNat := (by rw [Ny277.out, List.length_drop] <;> omega); rw [show (l0).drop ((ji11) : Int).toNat = y277 from Ny277.out.symm] at hr17; replace hr17 : Kd.F k73 _ _ A17 y277.length y277 := (by rw [hA17]; exact hr17); rw [← hy17, ← hA17, ← hc17] at hcut17; have HO281 := Aside0.mk (show Kd.V k73 73 _ w.heap.size _ (.slice A17 y277.length c17) y277 from Kd.V_mk (by rw [hy17, hc17]; exact Nat.sub_le_sub_right hroom17 _) hr17); have HC281 := Aside0.mk (show y277.length ≤ c17 from by rw [hy17, hc17]; exact Nat.sub_le_sub_right hroom17 _); clear hr17 hC17 hroom17 hi017 hsz17 hc17; have KY17 := Aside0.mk hy17; have KA17 := Aside0.mk hA17; clear hy17 hA17; replace q17 := eq_true q17) | ((with_reducible refine gate_builtin (b := .append) (xs := #[.tmp 30, .tmp 34]) rfl ?_); at_builtin; refine Kd.R_append_rows k73 (w0 := w) w.heap.size rfl (.tmp 30) (.tmp 34) 27 73 (.agg #[(.string ⟨#[]⟩), (.string ⟨#[]⟩)]) 32 rfl Tryz.underlying27 info73 rfl (by decide) (by omega) v275 y274 y277 _ _ _ (fun k_ => (w.heap.size ≤ k_)) (fun _ => False) rfl rfl ?aO ?aR (fun _ _ h => h) (fun _ h => h.elim) ?aF ?aB ?aS ?aL ?_; (case aR => repeat (first | exact (Kd.V_reads' HO281.out).2.2 | (with_reducible refine Kd.C_alloc ?_ _) | (with_reducible refine Kd.C_drewN ?_ _) | (with_reducible refine Kd.C_drew ?_))); (case aB => exact (by repeat (first | (with_reducible first | exact HB.out | apply below_alloc | apply pw_below_drewN | apply below_drew1) | exact HB.out))); (case aF => exact (fun k_ hk => (Nat.le_trans (below_size (by repeat (first | (with_reducible first | exact HB.out | apply below_alloc | apply pw_below_drewN | apply below_drew1) | exact HB.out))) hk))); (case aO => exact (by (with_reducible repeat (first | apply Kd.R_alloc | apply Kd.R_drewN | apply Kd.R_drew)); exact HO276.out)); (case aS => exact (below_size (by repeat (first | (with_reducible first | exact HB.out | apply below_alloc | apply pw_below_drewN | apply below_drew1) | exact HB.out)))); (case aL => have := LMc14.out; omega); intro v283 w18 ho hb hg hat; rw [← Ny282.out] at ho; have n0_ := Aside0.mk (Kd.V_afterv (ok := (fun k_ => (P0_ k_ ∨ w.heap.size ≤ k_))) (by (with_reducible repeat (first | apply Kd.V_alloc | apply Kd.V_drewN | apply Kd.V_drew)); exact HO0.out) hg hat); have n1_ := Aside0.mk (Kd.V_afterv (ok := (fun k_ => (P0_ k_ ∨ w.heap.size ≤ k_))) (by (with_reducible repeat (first | apply Kd.V_alloc | apply Kd.V_drewN | apply Kd.V_drew)); exact HO273.out) hg hat); have n2_ := Aside0.mk (Kd.V_afterv (ok := (fun k_ => (P0_ k_ ∨ w.heap.size ≤ k_))) (by (with_reducible repeat (first | apply Kd.V_alloc | apply Kd.V_drewN | apply Kd.V_drew)); exact HO281.out) hg hat); have n3_ := Aside0.mk (hb); have n4_ := Aside0.mk (ho); clear HO0; clear HO273; clear HO281; clear HB; clear HO276; have HO0 := n0_; have HO273 := n1_; have HO281 := n2_; have HB := n3_; have HO284 := n4_; clear n0_ n1_ n2_ n3_ n4_; clear ho hb hg hat))
                    go_ret2
                    exact ⟨_, by first | rfl | (simp [errW_none, errW_some] <;> rfl) | (simp only [← hji11]; first | rfl | (simp [errW_none, errW_some] <;> rfl)) | (simp [*, errW_none, errW_some] <;> rfl), Kd.V_mono (Kd.R_V (by (with_reducible repeat (first | apply Kd.R_alloc | apply Kd.R_drewN | apply Kd.R_drew)); exact HO284.out)) (fun k_ hk => by first | exact ⟨(.inr (hk.1)), hk.2⟩ | exact (.inr (hk))), by repeat (first | (with_reducible first | exact HB.out | apply below_alloc | apply pw_below_drewN | apply below_drew1) | exact HB.out)⟩
                  · rw [if_neg c14] at H
                    exact absurd H (by simp)
                · rw [if_neg c13] at H
                  exact absurd H (by simp)
              · rw [if_neg c12] at H
                exact absurd H (by simp)
            · rw [if_neg c10] at H
              exact absurd H (by simp)
          · rw [if_neg c9] at H
            exact absurd H (by simp)
        · rw [if_neg c7] at H
          have c7b0 : (((rd_T73 l0 t267).f0).toList == a1.toList) = false := beq_eq_false_iff_ne.mpr c7
          have c7b1 : (((rd_T73 l0 t267).f0).toList != a1.toList) = true := bne_iff_ne.mpr c7
          simp only [Option.some.injEq, Prod.mk.injEq] at H
          obtain ⟨rfl, rfl⟩ := H
          go_enter Tryz.func80, Tryz.ntmps80
          go_wp2_with (first | ((with_reducible refine gate_callee (f := 73) rfl ?_); refine goesL_ (some 10) rfl rfl Tryz.func73 (by kernel_rfl) rfl #[.slice A0 l0.length c0, .string a1] rfl (by (try simp only [List.map_toArray, List.map_cons, List.map_nil]); first | done | rfl | (simp only [List.length_drop, List.length_take]; rfl)) ?_; (with_reducible refine (footbridgeref09_at.calls k _ _ l0 a1 t267 _ ?side1 ?side2 A3.out).mono ?_); (case side1 => repeat (first | exact (Kd.V_reads' HO0.out).2.2 | (with_reducible refine Kd.C_alloc ?_ _) | (with_reducible refine Kd.C_drewN ?_ _) | (with_reducible refine Kd.C_drew ?_))); (case side2 => exact (Kd.V_reads' HO0.out).2.1); rintro e w' ⟨rfl, ⟨nd, rfl⟩⟩; refine ⟨_, rfl, ?_⟩; have p268 : 0 ≤ (t267 : Int) := of_decide_eq_true (by first | (with_reducible assumption) | assumption); have q268 : t267 < (l0.length : Int) := of_decide_eq_true (by first | (with_reducible assumption) | assumption); obtain ⟨ad268, e268, hx268_0, hx268_1⟩ := at_T73 (Kd.V_reads' HO0.out).2.2 t267 p268 q268; cases e268; replace p268 := eq_true p268; replace q268 := eq_true q268))
          go_ret2
          exact ⟨_, by first | rfl | (simp [errW_none, errW_some] <;> rfl) | (simp [*, errW_none, errW_some] <;> rfl), by (with_reducible repeat (first | apply Kd.V_alloc | apply Kd.V_drewN | apply Kd.V_drew)); exact HO0.out, by repeat (first | (with_reducible first | exact HB.out | apply below_alloc | apply pw_below_drewN | apply below_drew1) | exact HB.out)⟩
      · rw [if_neg c6] at H
        exact absurd H (by simp)
    · rw [if_neg c5] at H
      exact absurd H (by simp)

end Go.Proofs.YtonipkgekhdogaaGreatDoor.PRup
