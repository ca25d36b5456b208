-- written by wip/myprint.py over the kit's print; not a printed text of print.sh
import Derived.Test.YtonipkgekhdogaaGreatDoorPBasx0
import Derived.Test.YtonipkgekhdogaaGreatDoorPBasx25
namespace Go.Proofs.YtonipkgekhdogaaGreatDoor.PBas
open Go.RowKit Go.Proofs.YtonipkgekhdogaaGreatDoorW.PrintWords Go.Proofs.YtonipkgekhdogaaGreatDoorW.PrintLast Go.Proofs.YtonipkgekhdogaaGreatDoorW.PrintMore
attribute [local go_sem] max2_int min2_int max_two min_two max_three min_three max_four min_four   -- for this text's walks alone
set_option linter.unusedVariables false
set_option linter.unusedSimpArgs false

/-! ### footbridgeref09_Set: function 91 -/
def footbridgeref09_Set.f (k : Nat) (l0 : List (S73)) (a1 : ByteArray) (a2 : ByteArray) : Option ((List (S73)) × Bool) := (footbridgeref09_at.f k l0 a1).bind fun t194 => (if t194 = (l0.length : Int) then (if 0 ≤ t194 then (if t194 ≤ (l0.length : Int) then ((some (l0.drop (t194 : Int).toNat : List (S73))).bind fun y195 => ((some (l0.take (t194 : Int).toNat : List (S73))).bind fun y199 => (if ([] : List (S73)).length + y199.length < 4398046511104 then ((some (([] : List (S73)) ++ y199 : List (S73))).bind fun y203 => (if y203.length < 4398046511104 then ((some (y203 ++ [(⟨a1, a2⟩ : S73)] : List (S73))).bind fun y206 => (if y206.length + y195.length < 4398046511104 then (some ((y206 ++ y195), true)) else (none))) else (none))) else (none)))) else (none)) else (none)) else (if 0 ≤ t194 then (if t194 < (l0.length : Int) then (if t194 ≤ (l0.length : Int) then ((some (l0.drop (t194 : Int).toNat : List (S73))).bind fun y213 => (if (¬ ((rd_T73 l0 t194).f0).toList = a1.toList) then ((some (l0.take (t194 : Int).toNat : List (S73))).bind fun y217 => (if ([] : List (S73)).length + y217.length < 4398046511104 then ((some (([] : List (S73)) ++ y217 : List (S73))).bind fun y221 => (if y221.length < 4398046511104 then ((some (y221 ++ [(⟨a1, a2⟩ : S73)] : List (S73))).bind fun y224 => (if y224.length + y213.length < 4398046511104 then (some ((y224 ++ y213), (((rd_T73 l0 t194).f0).toList != a1.toList))) else (none))) else (none))) else (none))) else (if 0 ≤ (wrap64 (t194 + 1)) then (if (wrap64 (t194 + 1)) ≤ (l0.length : Int) then ((some (l0.drop ((wrap64 (t194 + 1)) : Int).toNat : List (S73))).bind fun y230 => ((some (l0.take (t194 : Int).toNat : List (S73))).bind fun y234 => (if ([] : List (S73)).length + y234.length < 4398046511104 then ((some (([] : List (S73)) ++ y234 : List (S73))).bind fun y238 => (if y238.length < 4398046511104 then ((some (y238 ++ [(⟨a1, a2⟩ : S73)] : List (S73))).bind fun y241 => (if y241.length + y230.length < 4398046511104 then (some ((y241 ++ y230), (((rd_T73 l0 t194).f0).toList != a1.toList))) else (none))) else (none))) else (none)))) else (none)) else (none)))) else (none)) else (none)) else (none)))
theorem footbridgeref09_Set.mono : ∀ a0 a1 a2 k, LeO (footbridgeref09_Set.f k a0 a1 a2) (footbridgeref09_Set.f (k + 1) a0 a1 a2) := by
  intro a0 a1 a2 k
  unfold footbridgeref09_Set.f
  repeat' first
      | (with_reducible exact footbridgeref09_at.mono _ _ _)
      | (with_reducible exact LeO.refl _)
      | (with_reducible exact LeO.none _)
      | (with_reducible refine LeO.ite ?_ ?_)
      | (with_reducible refine LeO.bind ?_ (fun _ => ?_))
      | exact footbridgeref09_at.mono _ _ _
      | exact LeO.none _
      | refine LeO.ite ?_ ?_
      | refine LeO.bind ?_ (fun _ => ?_)
set_option maxHeartbeats 8000000 in
set_option maxRecDepth 100000 in
theorem footbridgeref09_Set.calls (k : Nat) (A0 : Option Addr) (c0 : Nat) (l0 : List (S73)) (a1 : ByteArray) (a2 : ByteArray) (r1 : List (S73)) (r2 : Bool) (w : World) (hr0 : Kd.C k73 w A0 l0.length l0) (hc0 : l0.length ≤ c0) (h : footbridgeref09_Set.f k l0 a1 a2 = some (r1, r2)) :
    Calls Tryz.prog 91 #[.slice A0 l0.length c0, .string a1, .string a2] w fun e w' => ∃ v0_ : Value, e = .returned (.tuple #[v0_, .bool r2]) ∧ Kd.R k73 73 w' w.heap.size (fun _ => True) v0_ r1 ∧ Below w.heap.size w w' := by
  have hu73 := Tryz.underlying73
  have HR0 := Aside0.mk hr0
  have HC0 := Aside0.mk hc0
  clear hr0 hc0
  have HB := Aside0.mk (Below.refl w.heap.size w)
  have H : ((footbridgeref09_at.f k l0 a1).bind fun t194 => (if t194 = (l0.length : Int) then (if 0 ≤ t194 then (if t194 ≤ (l0.length : Int) then ((some (l0.drop (t194 : Int).toNat : List (S73))).bind fun y195 => ((some (l0.take (t194 : Int).toNat : List (S73))).bind fun y199 => (if ([] : List (S73)).length + y199.length < 4398046511104 then ((some (([] : List (S73)) ++ y199 : List (S73))).bind fun y203 => (if y203.length < 4398046511104 then ((some (y203 ++ [(⟨a1, a2⟩ : S73)] : List (S73))).bind fun y206 => (if y206.length + y195.length < 4398046511104 then (some ((y206 ++ y195), true)) else (none))) else (none))) else (none)))) else (none)) else (none)) else (if 0 ≤ t194 then (if t194 < (l0.length : Int) then (if t194 ≤ (l0.length : Int) then ((some (l0.drop (t194 : Int).toNat : List (S73))).bind fun y213 => (if (¬ ((rd_T73 l0 t194).f0).toList = a1.toList) then ((some (l0.take (t194 : Int).toNat : List (S73))).bind fun y217 => (if ([] : List (S73)).length + y217.length < 4398046511104 then ((some (([] : List (S73)) ++ y217 : List (S73))).bind fun y221 => (if y221.length < 4398046511104 then ((some (y221 ++ [(⟨a1, a2⟩ : S73)] : List (S73))).bind fun y224 => (if y224.length + y213.length < 4398046511104 then (some ((y224 ++ y213), (((rd_T73 l0 t194).f0).toList != a1.toList))) else (none))) else (none))) else (none))) else (if 0 ≤ (wrap64 (t194 + 1)) then (if (wrap64 (t194 + 1)) ≤ (l0.length : Int) then ((some (l0.drop ((wrap64 (t194 + 1)) : Int).toNat : List (S73))).bind fun y230 => ((some (l0.take (t194 : Int).toNat : List (S73))).bind fun y234 => (if ([] : List (S73)).length + y234.length < 4398046511104 then ((some (([] : List (S73)) ++ y234 : List (S73))).bind fun y238 => (if y238.length < 4398046511104 then ((some (y238 ++ [(⟨a1, a2⟩ : S73)] : List (S73))).bind fun y241 => (if y241.length + y230.length < 4398046511104 then (some ((y241 ++ y230), (((rd_T73 l0 t194).f0).toList != a1.toList))) else (none))) else (none))) else (none)))) else (none)) else (none)))) else (none)) else (none)) else (none)))) = some (r1, r2) := h
  clear h
  replace H := Option.bind_eq_some_iff.mp H
  obtain ⟨t194, A40, H⟩ := H
  replace H : (if t194 = (l0.length : Int) then (if 0 ≤ t194 then (if t194 ≤ (l0.length : Int) then ((some (l0.drop (t194 : Int).toNat : List (S73))).bind fun y195 => ((some (l0.take (t194 : Int).toNat : List (S73))).bind fun y199 => (if ([] : List (S73)).length + y199.length < 4398046511104 then ((some (([] : List (S73)) ++ y199 : List (S73))).bind fun y203 => (if y203.length < 4398046511104 then ((some (y203 ++ [(⟨a1, a2⟩ : S73)] : List (S73))).bind fun y206 => (if y206.length + y195.length < 4398046511104 then (some ((y206 ++ y195), true)) else (none))) else (none))) else (none)))) else (none)) else (none)) else (if 0 ≤ t194 then (if t194 < (l0.length : Int) then (if t194 ≤ (l0.length : Int) then ((some (l0.drop (t194 : Int).toNat : List (S73))).bind fun y213 => (if (¬ ((rd_T73 l0 t194).f0).toList = a1.toList) then ((some (l0.take (t194 : Int).toNat : List (S73))).bind fun y217 => (if ([] : List (S73)).length + y217.length < 4398046511104 then ((some (([] : List (S73)) ++ y217 : List (S73))).bind fun y221 => (if y221.length < 4398046511104 then ((some (y221 ++ [(⟨a1, a2⟩ : S73)] : List (S73))).bind fun y224 => (if y224.length + y213.length < 4398046511104 then (some ((y224 ++ y213), (((rd_T73 l0 t194).f0).toList != a1.toList))) else (none))) else (none))) else (none))) else (if 0 ≤ (wrap64 (t194 + 1)) then (if (wrap64 (t194 + 1)) ≤ (l0.length : Int) then ((some (l0.drop ((wrap64 (t194 + 1)) : Int).toNat : List (S73))).bind fun y230 => ((some (l0.take (t194 : Int).toNat : List (S73))).bind fun y234 => (if ([] : List (S73)).length + y234.length < 4398046511104 then ((some (([] : List (S73)) ++ y234 : List (S73))).bind fun y238 => (if y238.length < 4398046511104 then ((some (y238 ++ [(⟨a1, a2⟩ : S73)] : List (S73))).bind fun y241 => (if y241.length + y230.length < 4398046511104 then (some ((y241 ++ y230), (((rd_T73 l0 t194).f0).toList != a1.toList))) else (none))) else (none))) else (none)))) else (none)) else (none)))) else (none)) else (none)) else (none))) = some (r1, r2) := H
  have A4 := Aside0.mk A40
  clear A40
  by_cases c5 : t194 = (l0.length : Int)
  · rw [if_pos c5] at H
    have c5b0 : (t194 == (l0.length : Int)) = true := beq_iff_eq.mpr c5
    have c5b1 : (t194 != (l0.length : Int)) = false := bne_eq_false_iff_eq.mpr c5
    clear c5
    by_cases c6 : 0 ≤ t194
    · rw [if_pos c6] at H
      have c6b0 := eq_true c6
      have c6b1 : decide (0 ≤ t194) = true := decide_eq_true c6
      clear c6
      by_cases c7 : t194 ≤ (l0.length : Int)
      · rw [if_pos c7] at H
        have c7b0 := eq_true c7
        have c7b1 : decide (t194 ≤ (l0.length : Int)) = true := decide_eq_true c7
        clear c7
        obtain ⟨y195, hy195⟩ : ∃ y_ : List (S73), y_ = (l0.drop (t194 : Int).toNat) := ⟨_, rfl⟩
        replace H : ((some (l0.take (t194 : Int).toNat : List (S73))).bind fun y199 => (if ([] : List (S73)).length + y199.length < 4398046511104 then ((some (([] : List (S73)) ++ y199 : List (S73))).bind fun y203 => (if y203.length < 4398046511104 then ((some (y203 ++ [(⟨a1, a2⟩ : S73)] : List (S73))).bind fun y206 => (if y206.length + y195.length < 4398046511104 then (some ((y206 ++ y195), true)) else (none))) else (none))) else (none))) = some (r1, r2) := by first | (rw [hy195]; with_reducible exact H) | (have H2_ := (Option.bind_some _ _).symm.trans H; rw [hy195]; with_reducible exact H2_) | (have H2_ := (Option.bind_some _ _).symm.trans H; with_reducible exact H2_) | with_reducible exact H | (rw [hy195]; exact H) | exact H
        have Ny195 := Aside0.mk hy195
        clear hy195
        have c8b0 := eq_true (of_decide_eq_true (by first | (with_reducible assumption) | assumption) : 0 ≤ t194)
        have c9b0 := eq_true (of_decide_eq_true (by first | (with_reducible assumption) | assumption) : t194 ≤ (l0.length : Int))
        obtain ⟨y199, hy199⟩ : ∃ y_ : List (S73), y_ = (l0.take (t194 : Int).toNat) := ⟨_, rfl⟩
        replace H : (if ([] : List (S73)).length + y199.length < 4398046511104 then ((some (([] : List (S73)) ++ y199 : List (S73))).bind fun y203 => (if y203.length < 4398046511104 then ((some (y203 ++ [(⟨a1, a2⟩ : S73)] : List (S73))).bind fun y206 => (if y206.length + y195.length < 4398046511104 then (some ((y206 ++ y195), true)) else (none))) else (none))) else (none)) = some (r1, r2) := by first | (rw [hy199]; with_reducible exact H) | (have H2_ := (Option.bind_some _ _).symm.trans H; rw [hy199]; with_reducible exact H2_) | (have H2_ := (Option.bind_some _ _).symm.trans H; with_reducible exact H2_) | with_reducible exact H | (rw [hy199]; exact H) | exact H
        have Ny199 := Aside0.mk hy199
        clear hy199
        by_cases c10 : ([] : List (S73)).length + y199.length < 4398046511104
        · rw [if_pos c10] at H
          have LMc10 := Aside0.mk c10
          clear c10
          obtain ⟨y203, hy203⟩ : ∃ y_ : List (S73), y_ = (([] : List (S73)) ++ y199) := ⟨_, rfl⟩
          replace H : (if y203.length < 4398046511104 then ((some (y203 ++ [(⟨a1, a2⟩ : S73)] : List (S73))).bind fun y206 => (if y206.length + y195.length < 4398046511104 then (some ((y206 ++ y195), true)) else (none))) else (none)) = some (r1, r2) := by first | (rw [hy203]; with_reducible exact H) | (have H2_ := (Option.bind_some _ _).symm.trans H; rw [hy203]; with_reducible exact H2_) | (have H2_ := (Option.bind_some _ _).symm.trans H; with_reducible exact H2_) | with_reducible exact H | (rw [hy203]; exact H) | exact H
          have Ny203 := Aside0.mk hy203
          clear hy203
          by_cases c11 : y203.length < 4398046511104
          · rw [if_pos c11] at H
            have LMc11 := Aside0.mk c11
            clear c11
            obtain ⟨y206, hy206⟩ : ∃ y_ : List (S73), y_ = (y203 ++ [(⟨a1, a2⟩ : S73)]) := ⟨_, rfl⟩
            replace H : (if y206.length + y195.length < 4398046511104 then (some ((y206 ++ y195), true)) else (none)) = some (r1, r2) := by first | (rw [hy206]; with_reducible exact H) | (have H2_ := (Option.bind_some _ _).symm.trans H; rw [hy206]; with_reducible exact H2_) | (have H2_ := (Option.bind_some _ _).symm.trans H; with_reducible exact H2_) | with_reducible exact H | (rw [hy206]; exact H) | exact H
            have Ny206 := Aside0.mk hy206
            clear hy206
            by_cases c12 : y206.length + y195.length < 4398046511104
            · rw [if_pos c12] at H
              have LMc12 := Aside0.mk c12
              clear c12
              obtain ⟨y209, hy209⟩ : ∃ y_ : List (S73), y_ = (y206 ++ y195) := ⟨_, rfl⟩
              replace H : (some (y209, true)) = some (r1, r2) := by first | (rw [hy209]; with_reducible exact H) | (have H2_ := (Option.bind_some _ _).symm.trans H; rw [hy209]; with_reducible exact H2_) | (have H2_ := (Option.bind_some _ _).symm.trans H; with_reducible exact H2_) | with_reducible exact H | (rw [hy209]; exact H) | exact H
              have Ny209 := Aside0.mk hy209
              clear hy209
              simp only [Option.some.injEq, Prod.mk.injEq] at H
              obtain ⟨rfl, rfl⟩ := H
              go_enter Tryz.func91, Tryz.ntmps91
              go_wp2_with (first | ((with_reducible refine gate_callee (f := 73) rfl ?_); refine goesL_ (some 14) rfl rfl Tryz.func73 (by kernel_rfl) rfl #[.slice A0 l0.length c0, .string a1] rfl (by (try simp only [List.map_toArray, List.map_cons, List.map_nil]); first | done | rfl | (simp only [List.length_drop, List.length_take]; rfl)) ?_; (with_reducible refine (footbridgeref09_at.calls k _ _ l0 a1 t194 _ ?side1 ?side2 A4.out).mono ?_); (case side1 => repeat (first | exact HR0.out | (with_reducible refine Kd.C_alloc ?_ _) | (with_reducible refine Kd.C_drewN ?_ _) | (with_reducible refine Kd.C_drew ?_))); (case side2 => exact HC0.out); rintro e w' ⟨rfl, ⟨nd, rfl⟩⟩; refine ⟨_, rfl, ?_⟩; have q13 : (t194 : Int) ≤ ((l0.length : Int) : Int) := of_decide_eq_true (by first | (with_reducible assumption) | assumption); obtain ⟨i013, hi013, _, hsz13, _⟩ := info_parts info73; have hroom13 : l0.length ≤ c0 := HC0.out; have hC13 : Kd.C k73 _ A0 l0.length l0 := HR0.out; have q013 : (0 : Int) ≤ (t194 : Int) := of_decide_eq_true (by first | (with_reducible assumption) | assumption); have hcut13 := cut_from (P := Tryz.prog) 27 73 .i64 Tryz.underlying27 hi013 2 hsz13 A0 l0.length c0 t194 q013 q13; have hr13 := Kd.C_drop (m := (t194 : Int).toNat) (c := c0) hC13 (by omega) hroom13; obtain ⟨A13, hA13⟩ : ∃ A1, A1 = (if c0 = (t194 : Int).toNat then A0 else (A0 : Option Addr).map (·.add ((t194 : Int).toNat * 2))) := ⟨_, rfl⟩; obtain ⟨c13, hc13⟩ : ∃ c1, c1 = c0 - (t194 : Int).toNat := ⟨_, rfl⟩; have hy13 : y195.length = l0.length - (t194 : Int).toNat := (by rw [Ny195.out, List.length_drop] <;> omega); rw [show (l0).drop (t194 : Int).toNat = y195 from Ny195.out.symm] at hr13; replace hr13 : Kd.C k73 _ A13 y195.length y195 := (by rw [hA13]; exact hr13); rw [← hy13, ← hA13, ← hc13] at hcut13; have HR198 := Aside0.mk hr13; have HC198 := Aside0.mk (show y195.length ≤ c13 from by rw [hy13, hc13]; exact Nat.sub_le_sub_right hroom13 _); clear hr13 hC13 hroom13 hi013 hsz13 hc13; have KY13 := Aside0.mk hy13; have KA13 := Aside0.mk hA13; clear hy13 hA13; replace q13 := eq_true q13; have q14 : (t194 : Int) ≤ ((l0.length : Int) : Int) := of_decide_eq_true (by first | (with_reducible assumption) | assumption); obtain ⟨i014, hi014, _, hsz14, _⟩ := info_parts info73; have hroom14 : l0.length ≤ c0 := HC0.out; have hC14 : Kd.C k73 _ A0 l0.length l0 := HR0.out; have hcut14 := cut_to (P := Tryz.prog) 27 73 .i64 Tryz.underlying27 hi014 A0 l0.length c0 t194 (of_decide_eq_true (by first | (with_reducible assumption) | assumption)) q14 hroom14; have hr14 := Kd.C_take (m := (t194 : Int).toNat) hC14 (by omega); have hy14 : y199.length = (t194 : Int).toNat := (by rw [Ny199.out, List.length_take]; omega); rw [← Ny199.out] at hr14; rw [← hy14] at hcut14; have HR202 := Aside0.mk hr14; have HC202 := Aside0.mk (show y199.length ≤ c0 from by omega); clear hr14 hC14 hroom14 hi014 hsz14; have KY14 := Aside0.mk hy14; clear hy14; replace q14 := eq_true q14) | ((with_reducible refine gate_builtin (b := .append) (xs := #[.tmp 37, .tmp 40]) rfl ?_); at_builtin; refine Kd.R_append_rows k73 (w0 := w) w.heap.size rfl (.tmp 37) (.tmp 40) 27 73 (.agg #[(.string ⟨#[]⟩), (.string ⟨#[]⟩)]) 32 rfl Tryz.underlying27 info73 rfl (by decide) (by omega) (.slice none 0 0) ([] : List (S73)) y199 _ _ _ (fun _ => True) (fun _ => False) rfl rfl ?aO ?aR (fun _ _ h => h) (fun _ h => h.elim) ?aF ?aB ?aS ?aL ?_; (case aR => repeat (first | exact HR202.out | (with_reducible refine Kd.C_alloc ?_ _) | (with_reducible refine Kd.C_drewN ?_ _) | (with_reducible refine Kd.C_drew ?_))); (case aB => exact (by repeat (first | (with_reducible first | exact HB.out | apply below_alloc | apply pw_below_drewN | apply below_drew1) | exact HB.out))); (case aF => exact (fun _ _ => trivial)); (case aO => exact ((Kd.R_nil _ _ _ _ (fun _ => True)))); (case aS => exact (below_size (by repeat (first | (with_reducible first | exact HB.out | apply below_alloc | apply pw_below_drewN | apply below_drew1) | exact HB.out)))); (case aL => have := LMc10.out; omega); intro v204 w15 ho hb hg hat; rw [← Ny203.out] at ho; have n0_ := Aside0.mk (hb); have n1_ := Aside0.mk (ho); clear HB; have HB := n0_; have HO205 := n1_; clear n0_ n1_; clear ho hb hg hat) | ((with_reducible refine gate_builtin (b := .append) (xs := #[.tmp 42, .tmp 46]) rfl ?_); at_builtin; refine Kd.R_append k73 (w0 := w) w.heap.size rfl (.tmp 42) (.tmp 46) 27 73 (.agg #[(.string ⟨#[]⟩), (.string ⟨#[]⟩)]) 32 rfl Tryz.underlying27 info73 rfl (by decide) (by omega) v204 y203 (⟨a1, a2⟩ : S73) [.string a1, .string a2] (fun _ => True) (fun _ => False) rfl rfl ?aP (fun _ hk => hk.elim) ?aF ?aO ?aB ?aS ?aL ?_; (case aP => exact k73_mkM _ _ _ (⟨a1, a2⟩ : S73)); (case aB => exact (by repeat (first | (with_reducible first | exact HB.out | apply below_alloc | apply pw_below_drewN | apply below_drew1) | exact HB.out))); (case aF => exact (fun _ _ => trivial)); (case aO => exact (by (with_reducible repeat (first | apply Kd.R_alloc | apply Kd.R_drewN | apply Kd.R_drew)); exact HO205.out)); (case aS => exact (below_size (by repeat (first | (with_reducible first | exact HB.out | apply below_alloc | apply pw_below_drewN | apply below_drew1) | exact HB.out)))); (case aL => have := LMc11.out; omega); intro v207 w16 ho hb hg hat; rw [← Ny206.out] at ho; have n0_ := Aside0.mk (hb); have n1_ := Aside0.mk (ho); clear HB; clear HO205; have HB := n0_; have HO208 := n1_; clear n0_ n1_; clear ho hb hg hat) | ((with_reducible refine gate_builtin (b := .append) (xs := #[.tmp 48, .tmp 49]) rfl ?_); at_builtin; refine Kd.R_append_rows k73 (w0 := w) w.heap.size rfl (.tmp 48) (.tmp 49) 27 73 (.agg #[(.string ⟨#[]⟩), (.string ⟨#[]⟩)]) 32 rfl Tryz.underlying27 info73 rfl (by decide) (by omega) v207 y206 y195 _ _ _ (fun _ => True) (fun _ => False) rfl rfl ?aO ?aR (fun _ _ h => h) (fun _ h => h.elim) ?aF ?aB ?aS ?aL ?_; (case aR => repeat (first | exact (Kd.C_below HR198.out HB.out) | (with_reducible refine Kd.C_alloc ?_ _) | (with_reducible refine Kd.C_drewN ?_ _) | (with_reducible refine Kd.C_drew ?_))); (case aB => exact (by repeat (first | (with_reducible first | exact HB.out | apply below_alloc | apply pw_below_drewN | apply below_drew1) | exact HB.out))); (case aF => exact (fun _ _ => trivial)); (case aO => exact (by (with_reducible repeat (first | apply Kd.R_alloc | apply Kd.R_drewN | apply Kd.R_drew)); exact HO208.out)); (case aS => exact (below_size (by repeat (first | (with_reducible first | exact HB.out | apply below_alloc | apply pw_below_drewN | apply below_drew1) | exact HB.out)))); (case aL => have := LMc12.out; omega); intro v210 w17 ho hb hg hat; rw [← Ny209.out] at ho; have n0_ := Aside0.mk (hb); have n1_ := Aside0.mk (ho); clear HB; clear HO208; have HB := n0_; have HO211 := n1_; clear n0_ n1_; clear ho hb hg hat))
              go_ret2
              exact ⟨_, by first | rfl | (simp [errW_none, errW_some] <;> rfl) | (simp [*, errW_none, errW_some] <;> rfl), by (with_reducible repeat (first | apply Kd.R_alloc | apply Kd.R_drewN | apply Kd.R_drew)); exact HO211.out, by repeat (first | (with_reducible first | exact HB.out | apply below_alloc | apply pw_below_drewN | apply below_drew1) | exact HB.out)⟩
            · rw [if_neg c12] at H
              exact absurd H (by simp)
          · rw [if_neg c11] at H
            exact absurd H (by simp)
        · rw [if_neg c10] at H
          exact absurd H (by simp)
      · rw [if_neg c7] at H
        exact absurd H (by simp)
    · rw [if_neg c6] at H
      exact absurd H (by simp)
  · rw [if_neg c5] at H
    have c5b0 : (t194 == (l0.length : Int)) = false := beq_eq_false_iff_ne.mpr c5
    have c5b1 : (t194 != (l0.length : Int)) = true := bne_iff_ne.mpr c5
    by_cases c18 : 0 ≤ t194
    · rw [if_pos c18] at H
      have c18b0 : decide (0 ≤ t194) = true := decide_eq_true c18
      clear c18
      by_cases c19 : t194 < (l0.length : Int)
      · rw [if_pos c19] at H
        have c19b0 : decide (t194 < (l0.length : Int)) = true := decide_eq_true c19
        clear c19
        have c20b0 := eq_true (of_decide_eq_true (by first | (with_reducible assumption) | assumption) : 0 ≤ t194)
        by_cases c21 : t194 ≤ (l0.length : Int)
        · rw [if_pos c21] at H
          have c21b0 := eq_true c21
          have c21b1 : decide (t194 ≤ (l0.length : Int)) = true := decide_eq_true c21
          clear c21
          obtain ⟨y213, hy213⟩ : ∃ y_ : List (S73), y_ = (l0.drop (t194 : Int).toNat) := ⟨_, rfl⟩
          replace H : (if (¬ ((rd_T73 l0 t194).f0).toList = a1.toList) then ((some (l0.take (t194 : Int).toNat : List (S73))).bind fun y217 => (if ([] : List (S73)).length + y217.length < 4398046511104 then ((some (([] : List (S73)) ++ y217 : List (S73))).bind fun y221 => (if y221.length < 4398046511104 then ((some (y221 ++ [(⟨a1, a2⟩ : S73)] : List (S73))).bind fun y224 => (if y224.length + y213.length < 4398046511104 then (some ((y224 ++ y213), (((rd_T73 l0 t194).f0).toList != a1.toList))) else (none))) else (none))) else (none))) else (if 0 ≤ (wrap64 (t194 + 1)) then (if (wrap64 (t194 + 1)) ≤ (l0.length : Int) then ((some (l0.drop ((wrap64 (t194 + 1)) : Int).toNat : List (S73))).bind fun y230 => ((some (l0.take (t194 : Int).toNat : List (S73))).bind fun y234 => (if ([] : List (S73)).length + y234.length < 4398046511104 then ((some (([] : List (S73)) ++ y234 : List (S73))).bind fun y238 => (if y238.length < 4398046511104 then ((some (y238 ++ [(⟨a1, a2⟩ : S73)] : List (S73))).bind fun y241 => (if y241.length + y230.length < 4398046511104 then (some ((y241 ++ y230), (((rd_T73 l0 t194).f0).toList != a1.toList))) else (none))) else (none))) else (none)))) else (none)) else (none))) = some (r1, r2) := by first | (rw [hy213]; with_reducible exact H) | (have H2_ := (Option.bind_some _ _).symm.trans H; rw [hy213]; with_reducible exact H2_) | (have H2_ := (Option.bind_some _ _).symm.trans H; with_reducible exact H2_) | with_reducible exact H | (rw [hy213]; exact H) | exact H
          have Ny213 := Aside0.mk hy213
          clear hy213
          by_cases c22 : (¬ ((rd_T73 l0 t194).f0).toList = a1.toList)
          · rw [if_pos c22] at H
            have c22b0 : (((rd_T73 l0 t194).f0).toList == a1.toList) = false := beq_eq_false_iff_ne.mpr c22
            have c22b1 : (((rd_T73 l0 t194).f0).toList != a1.toList) = true := bne_iff_ne.mpr c22
            clear c22
            have c23b0 := eq_true (of_decide_eq_true (by first | (with_reducible assumption) | assumption) : 0 ≤ t194)
            have c24b0 := eq_true (of_decide_eq_true (by first | (with_reducible assumption) | assumption) : t194 ≤ (l0.length : Int))
            obtain ⟨y217, hy217⟩ : ∃ y_ : List (S73), y_ = (l0.take (t194 : Int).toNat) := ⟨_, rfl⟩
            replace H : (if ([] : List (S73)).length + y217.length < 4398046511104 then ((some (([] : List (S73)) ++ y217 : List (S73))).bind fun y221 => (if y221.length < 4398046511104 then ((some (y221 ++ [(⟨a1, a2⟩ : S73)] : List (S73))).bind fun y224 => (if y224.length + y213.length < 4398046511104 then (some ((y224 ++ y213), (((rd_T73 l0 t194).f0).toList != a1.toList))) else (none))) else (none))) else (none)) = some (r1, r2) := by first | (rw [hy217]; with_reducible exact H) | (have H2_ := (Option.bind_some _ _).symm.trans H; rw [hy217]; with_reducible exact H2_) | (have H2_ := (Option.bind_some _ _).symm.trans H; with_reducible exact H2_) | with_reducible exact H | (rw [hy217]; exact H) | exact H
            have Ny217 := Aside0.mk hy217
            clear hy217
            by_cases c25 : ([] : List (S73)).length + y217.length < 4398046511104
            · rw [if_pos c25] at H
              have LMc25 := Aside0.mk c25
              clear c25
              obtain ⟨y221, hy221⟩ : ∃ y_ : List (S73), y_ = (([] : List (S73)) ++ y217) := ⟨_, rfl⟩
              replace H : (if y221.length < 4398046511104 then ((some (y221 ++ [(⟨a1, a2⟩ : S73)] : List (S73))).bind fun y224 => (if y224.length + y213.length < 4398046511104 then (some ((y224 ++ y213), (((rd_T73 l0 t194).f0).toList != a1.toList))) else (none))) else (none)) = some (r1, r2) := by first | (rw [hy221]; with_reducible exact H) | (have H2_ := (Option.bind_some _ _).symm.trans H; rw [hy221]; with_reducible exact H2_) | (have H2_ := (Option.bind_some _ _).symm.trans H; with_reducible exact H2_) | with_reducible exact H | (rw [hy221]; exact H) | exact H
              have Ny221 := Aside0.mk hy221
              clear hy221
              by_cases c26 : y221.length < 4398046511104
              · rw [if_pos c26] at H
                have LMc26 := Aside0.mk c26
                clear c26
                obtain ⟨y224, hy224⟩ : ∃ y_ : List (S73), y_ = (y221 ++ [(⟨a1, a2⟩ : S73)]) := ⟨_, rfl⟩
                replace H : (if y224.length + y213.length < 4398046511104 then (some ((y224 ++ y213), (((rd_T73 l0 t194).f0).toList != a1.toList))) else (none)) = some (r1, r2) := by first | (rw [hy224]; with_reducible exact H) | (have H2_ := (Option.bind_some _ _).symm.trans H; rw [hy224]; with_reducible exact H2_) | (have H2_ := (Option.bind_some _ _).symm.trans H; with_reducible exact H2_) | with_reducible exact H | (rw [hy224]; exact H) | exact H
                have Ny224 := Aside0.mk hy224
                clear hy224
                by_cases c27 : y224.length + y213.length < 4398046511104
                · rw [if_pos c27] at H
                  have LMc27 := Aside0.mk c27
                  clear c27
                  obtain ⟨y227, hy227⟩ : ∃ y_ : List (S73), y_ = (y224 ++ y213) := ⟨_, rfl⟩
                  replace H : (some (y227, (((rd_T73 l0 t194).f0).toList != a1.toList))) = some (r1, r2) := by first | (rw [hy227]; with_reducible exact H) | (have H2_ := (Option.bind_some _ _).symm.trans H; rw [hy227]; with_reducible exact H2_) | (have H2_ := (Option.bind_some _ _).symm.trans H; with_reducible exact H2_) | with_reducible exact H | (rw [hy227]; exact H) | exact H
                  have Ny227 := Aside0.mk hy227
                  clear hy227
                  simp only [Option.some.injEq, Prod.mk.injEq] at H
                  obtain ⟨rfl, rfl⟩ := H
                  go_enter Tryz.func91, Tryz.ntmps91
                  go_wp2_with (first | ((with_reducible refine gate_callee (f := 73) rfl ?_); refine goesL_ (some 14) rfl rfl Tryz.func73 (by kernel_rfl) rfl #[.slice A0 l0.length c0, .string a1] rfl (by (try simp only [List.map_toArray, List.map_cons, List.map_nil]); first | done | rfl | (simp only [List.length_drop, List.length_take]; rfl)) ?_; (with_reducible refine (footbridgeref09_at.calls k _ _ l0 a1 t194 _ ?side1 ?side2 A4.out).mono ?_); (case side1 => repeat (first | exact HR0.out | (with_reducible refine Kd.C_alloc ?_ _) | (with_reducible refine Kd.C_drewN ?_ _) | (with_reducible refine Kd.C_drew ?_))); (case side2 => exact HC0.out); rintro e w' ⟨rfl, ⟨nd, rfl⟩⟩; refine ⟨_, rfl, ?_⟩; have p212 : 0 ≤ (t194 : Int) := of_decide_eq_true (by first | (with_reducible assumption) | assumption); have q212 : t194 < (l0.length : Int) := of_decide_eq_true (by first | (with_reducible assumption) | assumption); obtain ⟨ad212, e212, hx212_0, hx212_1⟩ := at_T73 HR0.out t194 p212 q212; cases e212; replace p212 := eq_true p212; replace q212 := eq_true q212; have q28 : (t194 : Int) ≤ ((l0.length : Int) : Int) := of_decide_eq_true (by first | (with_reducible assumption) | assumption); obtain ⟨i028, hi028, _, hsz28, _⟩ := info_parts info73; have hroom28 : l0.length ≤ c0 := HC0.out; have hC28 : Kd.C k73 _ (some ad212) l0.length l0 := HR0.out; have q028 : (0 : Int) ≤ (t194 : Int) := of_decide_eq_true (by first | (with_reducible assumption) | assumption); have hcut28 := cut_from (P := Tryz.prog) 27 73 .i64 Tryz.underlying27 hi028 2 hsz28 (some ad212) l0.length c0 t194 q028 q28; have hr28 := Kd.C_drop (m := (t194 : Int).toNat) (c := c0) hC28 (by omega) hroom28; obtain ⟨A28, hA28⟩ : ∃ A1, A1 = (if c0 = (t194 : Int).toNat then (some ad212) else ((some ad212) : Option Addr).map (·.add ((t194 : Int).toNat * 2))) := ⟨_, rfl⟩; obtain ⟨c28, hc28⟩ : ∃ c1, c1 = c0 - (t194 : Int).toNat := ⟨_, rfl⟩; have hy28 : y213.length = l0.length - (t194 : Int).toNat := (by rw [Ny213.out, List.length_drop] <;> omega); rw [show (l0).drop (t194 : Int).toNat = y213 from Ny213.out.symm] at hr28; replace hr28 : Kd.C k73 _ A28 y213.length y213 := (by rw [hA28]; exact hr28); rw [← hy28, ← hA28, ← hc28] at hcut28; have HR216 := Aside0.mk hr28; have HC216 := Aside0.mk (show y213.length ≤ c28 from by rw [hy28, hc28]; exact Nat.sub_le_sub_right hroom28 _); clear hr28 hC28 hroom28 hi028 hsz28 hc28; have KY28 := Aside0.mk hy28; have KA28 := Aside0.mk hA28; clear hy28 hA28; replace q28 := eq_true q28; have q29 : (t194 : Int) ≤ ((l0.length : Int) : Int) := of_decide_eq_true (by first | (with_reducible assumption) | assumption); obtain ⟨i029, hi029, _, hsz29, _⟩ := info_parts info73; have hroom29 : l0.length ≤ c0 := HC0.out; have hC29 : Kd.C k73 _ (some ad212) l0.length l0 := HR0.out; have hcut29 := cut_to (P := Tryz.prog) 27 73 .i64 Tryz.underlying27 hi029 (some ad212) l0.length c0 t194 (of_decide_eq_true (by first | (with_reducible assumption) | assumption)) q29 hroom29; have hr29 := Kd.C_take (m := (t194 : Int).toNat) hC29 (by omega); have hy29 : y217.length = (t194 : Int).toNat := (by rw [Ny217.out, List.length_take]; omega); rw [← Ny217.out] at hr29; rw [← hy29] at hcut29; have HR220 := Aside0.mk hr29; have HC220 := Aside0.mk (show y217.length ≤ c0 from by omega); clear hr29 hC29 hroom29 hi029 hsz29; have KY29 := Aside0.mk hy29; clear hy29; replace q29 := eq_true q29) | ((with_reducible refine gate_builtin (b := .append) (xs := #[.tmp 37, .tmp 40]) rfl ?_); at_builtin; refine Kd.R_append_rows k73 (w0 := w) w.heap.size rfl (.tmp 37) (.tmp 40) 27 73 (.agg #[(.string ⟨#[]⟩), (.string ⟨#[]⟩)]) 32 rfl Tryz.underlying27 info73 rfl (by decide) (by omega) (.slice none 0 0) ([] : List (S73)) y217 _ _ _ (fun _ => True) (fun _ => False) rfl rfl ?aO ?aR (fun _ _ h => h) (fun _ h => h.elim) ?aF ?aB ?aS ?aL ?_; (case aR => repeat (first | exact HR220.out | (with_reducible refine Kd.C_alloc ?_ _) | (with_reducible refine Kd.C_drewN ?_ _) | (with_reducible refine Kd.C_drew ?_))); (case aB => exact (by repeat (first | (with_reducible first | exact HB.out | apply below_alloc | apply pw_below_drewN | apply below_drew1) | exact HB.out))); (case aF => exact (fun _ _ => trivial)); (case aO => exact ((Kd.R_nil _ _ _ _ (fun _ => True)))); (case aS => exact (below_size (by repeat (first | (with_reducible first | exact HB.out | apply below_alloc | apply pw_below_drewN | apply below_drew1) | exact HB.out)))); (case aL => have := LMc25.out; omega); intro v222 w30 ho hb hg hat; rw [← Ny221.out] at ho; have n0_ := Aside0.mk (hb); have n1_ := Aside0.mk (ho); clear HB; have HB := n0_; have HO223 := n1_; clear n0_ n1_; clear ho hb hg hat) | ((with_reducible refine gate_builtin (b := .append) (xs := #[.tmp 42, .tmp 46]) rfl ?_); at_builtin; refine Kd.R_append k73 (w0 := w) w.heap.size rfl (.tmp 42) (.tmp 46) 27 73 (.agg #[(.string ⟨#[]⟩), (.string ⟨#[]⟩)]) 32 rfl Tryz.underlying27 info73 rfl (by decide) (by omega) v222 y221 (⟨a1, a2⟩ : S73) [.string a1, .string a2] (fun _ => True) (fun _ => False) rfl rfl ?aP (fun _ hk => hk.elim) ?aF ?aO ?aB ?aS ?aL ?_; (case aP => exact k73_mkM _ _ _ (⟨a1, a2⟩ : S73)); (case aB => exact (by repeat (first | (with_reducible first | exact HB.out | apply below_alloc | apply pw_below_drewN | apply below_drew1) | exact HB.out))); (case aF => exact (fun _ _ => trivial)); (case aO => exact (by (with_reducible repeat (first | apply Kd.R_alloc | apply Kd.R_drewN | apply Kd.R_drew)); exact HO223.out)); (case aS => exact (below_size (by repeat (first | (with_reducible first | exact HB.out | apply below_alloc | apply pw_below_drewN | apply below_drew1) | exact HB.out)))); (case aL => have := LMc26.out; omega); intro v225 w31 ho hb hg hat; rw [← Ny224.out] at ho; have n0_ := Aside0.mk (hb); have n1_ := Aside0.mk (ho); clear HB; clear HO223; have HB := n0_; have HO226 := n1_; clear n0_ n1_; clear ho hb hg hat) | ((with_reducible refine gate_builtin (b := .append) (xs := #[.tmp 48, .tmp 49]) rfl ?_); at_builtin; refine Kd.R_append_rows k73 (w0 := w) w.heap.size rfl (.tmp 48) (.tmp 49) 27 73 (.agg #[(.string ⟨#[]⟩), (.string ⟨#[]⟩)]) 32 rfl Tryz.underlying27 info73 rfl (by decide) (by omega) v225 y224 y213 _ _ _ (fun _ => True) (fun _ => False) rfl rfl ?aO ?aR (fun _ _ h => h) (fun _ h => h.elim) ?aF ?aB ?aS ?aL ?_; (case aR => repeat (first | exact (Kd.C_below HR216.out HB.out) | (with_reducible refine Kd.C_alloc ?_ _) | (with_reducible refine Kd.C_drewN ?_ _) | (with_reducible refine Kd.C_drew ?_))); (case aB => exact (by repeat (first | (with_reducible first | exact HB.out | apply below_alloc | apply pw_below_drewN | apply below_drew1) | exact HB.out))); (case aF => exact (fun _ _ => trivial)); (case aO => exact (by (with_reducible repeat (first | apply Kd.R_alloc | apply Kd.R_drewN | apply Kd.R_drew)); exact HO226.out)); (case aS => exact (below_size (by repeat (first | (with_reducible first | exact HB.out | apply below_alloc | apply pw_below_drewN | apply below_drew1) | exact HB.out)))); (case aL => have := LMc27.out; omega); intro v228 w32 ho hb hg hat; rw [← Ny227.out] at ho; have n0_ := Aside0.mk (hb); have n1_ := Aside0.mk (ho); clear HB; clear HO226; have HB := n0_; have HO229 := n1_; clear n0_ n1_; clear ho hb hg hat))
                  go_ret2
                  exact ⟨_, by first | rfl | (simp [errW_none, errW_some] <;> rfl) | (simp [*, errW_none, errW_some] <;> rfl), by (with_reducible repeat (first | apply Kd.R_alloc | apply Kd.R_drewN | apply Kd.R_drew)); exact HO229.out, by repeat (first | (with_reducible first | exact HB.out | apply below_alloc | apply pw_below_drewN | apply below_drew1) | exact HB.out)⟩
                · rw [if_neg c27] at H
                  exact absurd H (by simp)
              · rw [if_neg c26] at H
                exact absurd H (by simp)
            · rw [if_neg c25] at H
              exact absurd H (by simp)
          · rw [if_neg c22] at H
            have c22b0 : (((rd_T73 l0 t194).f0).toList == a1.toList) = true := beq_iff_eq.mpr (Decidable.not_not.mp c22)
            have c22b1 : (((rd_T73 l0 t194).f0).toList != a1.toList) = false := bne_eq_false_iff_eq.mpr (Decidable.not_not.mp c22)
            obtain ⟨ji33, hji33⟩ : ∃ j_ : Int, (wrap64 (t194 + 1)) = j_ := ⟨_, rfl⟩
            replace H : (if 0 ≤ (ji33) then (if (ji33) ≤ (l0.length : Int) then ((some (l0.drop ((ji33) : Int).toNat : List (S73))).bind fun y230 => ((some (l0.take (t194 : Int).toNat : List (S73))).bind fun y234 => (if ([] : List (S73)).length + y234.length < 4398046511104 then ((some (([] : List (S73)) ++ y234 : List (S73))).bind fun y238 => (if y238.length < 4398046511104 then ((some (y238 ++ [(⟨a1, a2⟩ : S73)] : List (S73))).bind fun y241 => (if y241.length + y230.length < 4398046511104 then (some ((y241 ++ y230), (((rd_T73 l0 t194).f0).toList != a1.toList))) else (none))) else (none))) else (none)))) else (none)) else (none)) = some (r1, r2) := by first | (rw [hji33] at H; exact H) | (simp only [hji33] at H ⊢; exact H)
            (try rw [hji33] at A4)
            have hji33w : (IntKind.i64.wrap (t194 + 1)) = ji33 := (i64_w _).trans hji33
            by_cases c34 : 0 ≤ (ji33)
            · rw [if_pos c34] at H
              have c34b0 := eq_true c34
              have c34b1 : decide (0 ≤ (ji33)) = true := decide_eq_true c34
              clear c34
              by_cases c35 : (ji33) ≤ (l0.length : Int)
              · rw [if_pos c35] at H
                have c35b0 := eq_true c35
                have c35b1 : decide ((ji33) ≤ (l0.length : Int)) = true := decide_eq_true c35
                clear c35
                obtain ⟨y230, hy230⟩ : ∃ y_ : List (S73), y_ = (l0.drop ((ji33) : Int).toNat) := ⟨_, rfl⟩
                replace H : ((some (l0.take (t194 : Int).toNat : List (S73))).bind fun y234 => (if ([] : List (S73)).length + y234.length < 4398046511104 then ((some (([] : List (S73)) ++ y234 : List (S73))).bind fun y238 => (if y238.length < 4398046511104 then ((some (y238 ++ [(⟨a1, a2⟩ : S73)] : List (S73))).bind fun y241 => (if y241.length + y230.length < 4398046511104 then (some ((y241 ++ y230), (((rd_T73 l0 t194).f0).toList != a1.toList))) else (none))) else (none))) else (none))) = some (r1, r2) := by first | (rw [hy230]; with_reducible exact H) | (have H2_ := (Option.bind_some _ _).symm.trans H; rw [hy230]; with_reducible exact H2_) | (have H2_ := (Option.bind_some _ _).symm.trans H; with_reducible exact H2_) | with_reducible exact H | (rw [hy230]; exact H) | exact H
                have Ny230 := Aside0.mk hy230
                clear hy230
                have c36b0 := eq_true (of_decide_eq_true (by first | (with_reducible assumption) | assumption) : 0 ≤ t194)
                have c37b0 := eq_true (of_decide_eq_true (by first | (with_reducible assumption) | assumption) : t194 ≤ (l0.length : Int))
                obtain ⟨y234, hy234⟩ : ∃ y_ : List (S73), y_ = (l0.take (t194 : Int).toNat) := ⟨_, rfl⟩
                replace H : (if ([] : List (S73)).length + y234.length < 4398046511104 then ((some (([] : List (S73)) ++ y234 : List (S73))).bind fun y238 => (if y238.length < 4398046511104 then ((some (y238 ++ [(⟨a1, a2⟩ : S73)] : List (S73))).bind fun y241 => (if y241.length + y230.length < 4398046511104 then (some ((y241 ++ y230), (((rd_T73 l0 t194).f0).toList != a1.toList))) else (none))) else (none))) else (none)) = some (r1, r2) := by first | (rw [hy234]; with_reducible exact H) | (have H2_ := (Option.bind_some _ _).symm.trans H; rw [hy234]; with_reducible exact H2_) | (have H2_ := (Option.bind_some _ _).symm.trans H; with_reducible exact H2_) | with_reducible exact H | (rw [hy234]; exact H) | exact H
                have Ny234 := Aside0.mk hy234
                clear hy234
                by_cases c38 : ([] : List (S73)).length + y234.length < 4398046511104
                · rw [if_pos c38] at H
                  have LMc38 := Aside0.mk c38
                  clear c38
                  obtain ⟨y238, hy238⟩ : ∃ y_ : List (S73), y_ = (([] : List (S73)) ++ y234) := ⟨_, rfl⟩
                  replace H : (if y238.length < 4398046511104 then ((some (y238 ++ [(⟨a1, a2⟩ : S73)] : List (S73))).bind fun y241 => (if y241.length + y230.length < 4398046511104 then (some ((y241 ++ y230), (((rd_T73 l0 t194).f0).toList != a1.toList))) else (none))) else (none)) = some (r1, r2) := by first | (rw [hy238]; with_reducible exact H) | (have H2_ := (Option.bind_some _ _).symm.trans H; rw [hy238]; with_reducible exact H2_) | (have H2_ := (Option.bind_some _ _).symm.trans H; with_reducible exact H2_) | with_reducible exact H | (rw [hy238]; exact H) | exact H
                  have Ny238 := Aside0.mk hy238
                  clear hy238
                  by_cases c39 : y238.length < 4398046511104
                  · rw [if_pos c39] at H
                    have LMc39 := Aside0.mk c39
                    clear c39
                    obtain ⟨y241, hy241⟩ : ∃ y_ : List (S73), y_ = (y238 ++ [(⟨a1, a2⟩ : S73)]) := ⟨_, rfl⟩
                    replace H : (if y241.length + y230.length < 4398046511104 then (some ((y241 ++ y230), (((rd_T73 l0 t194).f0).toList != a1.toList))) else (none)) = some (r1, r2) := by first | (rw [hy241]; with_reducible exact H) | (have H2_ := (Option.bind_some _ _).symm.trans H; rw [hy241]; with_reducible exact H2_) | (have H2_ := (Option.bind_some _ _).symm.trans H; with_reducible exact H2_) | with_reducible exact H | (rw [hy241]; exact H) | exact H
                    have Ny241 := Aside0.mk hy241
                    clear hy241
                    by_cases c40 : y241.length + y230.length < 4398046511104
                    · rw [if_pos c40] at H
                      have LMc40 := Aside0.mk c40
                      clear c40
                      obtain ⟨y244, hy244⟩ : ∃ y_ : List (S73), y_ = (y241 ++ y230) := ⟨_, rfl⟩
                      replace H : (some (y244, (((rd_T73 l0 t194).f0).toList != a1.toList))) = some (r1, r2) := by first | (rw [hy244]; with_reducible exact H) | (have H2_ := (Option.bind_some _ _).symm.trans H; rw [hy244]; with_reducible exact H2_) | (have H2_ := (Option.bind_some _ _).symm.trans H; with_reducible exact H2_) | with_reducible exact H | (rw [hy244]; exact H) | exact H
                      have Ny244 := Aside0.mk hy244
                      clear hy244
                      simp only [Option.some.injEq, Prod.mk.injEq] at H
                      obtain ⟨rfl, rfl⟩ := H
                      go_enter Tryz.func91, Tryz.ntmps91
                      go_wp2_with (first | ((with_reducible refine gate_callee (f := 73) rfl ?_); refine goesL_ (some 14) rfl rfl Tryz.func73 (by kernel_rfl) rfl #[.slice A0 l0.length c0, .string a1] rfl (by (try simp only [List.map_toArray, List.map_cons, List.map_nil]); first | done | rfl | (simp only [List.length_drop, List.length_take]; rfl)) ?_; (with_reducible refine (footbridgeref09_at.calls k _ _ l0 a1 t194 _ ?side1 ?side2 A4.out).mono ?_); (case side1 => repeat (first | exact HR0.out | (with_reducible refine Kd.C_alloc ?_ _) | (with_reducible refine Kd.C_drewN ?_ _) | (with_reducible refine Kd.C_drew ?_))); (case side2 => exact HC0.out); rintro e w' ⟨rfl, ⟨nd, rfl⟩⟩; refine ⟨_, rfl, ?_⟩; have p212 : 0 ≤ (t194 : Int) := of_decide_eq_true (by first | (with_reducible assumption) | assumption); have q212 : t194 < (l0.length : Int) := of_decide_eq_true (by first | (with_reducible assumption) | assumption); obtain ⟨ad212, e212, hx212_0, hx212_1⟩ := at_T73 HR0.out t194 p212 q212; cases e212; replace p212 := eq_true p212; replace q212 := eq_true q212; have q41 : (t194 : Int) ≤ ((l0.length : Int) : Int) := of_decide_eq_true (by first | (with_reducible assumption) | assumption); obtain ⟨i041, hi041, _, hsz41, _⟩ := info_parts info73; have hroom41 : l0.length ≤ c0 := HC0.out; have hC41 : Kd.C k73 _ (some ad212) l0.length l0 := HR0.out; have q041 : (0 : Int) ≤ (t194 : Int) := of_decide_eq_true (by first | (with_reducible assumption) | assumption); have hcut41 := cut_from (P := Tryz.prog) 27 73 .i64 Tryz.underlying27 hi041 2 hsz41 (some ad212) l0.length c0 t194 q041 q41; have hr41 := Kd.C_drop (m := (t194 : Int).toNat) (c := c0) hC41 (by omega) hroom41; obtain ⟨A41, hA41⟩ : ∃ A1, A1 = (if c0 = (t194 : Int).toNat then (some ad212) else ((some ad212) : Option Addr).map (·.add ((t194 : Int).toNat * 2))) := ⟨_, rfl⟩; obtain ⟨c41, hc41⟩ : ∃ c1, c1 = c0 - (t194 : Int).toNat := ⟨_, rfl⟩; have hy41 : y213.length = l0.length - (t194 : Int).toNat := (by rw [Ny213.out, List.length_drop] <;> omega); rw [show (l0).drop (t194 : Int).toNat = y213 from Ny213.out.symm] at hr41; replace hr41 : Kd.C k73 _ A41 y213.length y213 := (by rw [hA41]; exact hr41); rw [← hy41, ← hA41, ← hc41] at hcut41; have HR216 := Aside0.mk hr41; have HC216 := Aside0.mk (show y213.length ≤ c41 from by rw [hy41, hc41]; exact Nat.sub_le_sub_right hroom41 _); clear hr41 hC41 hroom41 hi041 hsz41 hc41; have KY41 := Aside0.mk hy41; have KA41 := Aside0.mk hA41; clear hy41 hA41; replace q41 := eq_true q41; have q42 : ((ji33) : Int) ≤ ((l0.length : Int) : Int) := of_decide_eq_true (by first | (with_reducible assumption) | assumption); obtain ⟨i042, hi042, _, hsz42, _⟩ := info_parts info73; have hroom42 : l0.length ≤ c0 := HC0.out; have hC42 : Kd.C k73 _ (some ad212) l0.length l0 := HR0.out; have q042 : (0 : Int) ≤ ((ji33) : Int) := of_decide_eq_true (by first | (with_reducible assumption) | assumption); have hcut42 := cut_from (P := Tryz.prog) 27 73 .i64 Tryz.underlying27 hi042 2 hsz42 (some ad212) l0.length c0 (ji33) q042 q42; have hr42 := Kd.C_drop (m := ((ji33) : Int).toNat) (c := c0) hC42 (by omega) hroom42; obtain ⟨A42, hA42⟩ : ∃ A1, A1 = (if c0 = ((ji33) : Int).toNat then (some ad212) else ((some ad212) : Option Addr).map (·.add (((ji33) : Int).toNat * 2))) := ⟨_, rfl⟩; obtain ⟨c42, hc42⟩ : ∃ c1, c1 = c0 - ((ji33) : Int).toNat := ⟨_, rfl⟩; have hy42 : y230.length = l0.length - ((ji33) : Int).toNat := (by rw [Ny230.out, List.length_drop] <;> omega); rw [show (l0).drop ((ji33) : Int).toNat = y230 from Ny230.out.symm] at hr42; replace hr42 : Kd.C k73 _ A42 y230.length y230 := (by rw [hA42]; exact hr42); rw [← hy42, ← hA42, ← hc42] at hcut42; have HR233 := Aside0.mk hr42; have HC233 := Aside0.mk (show y230.length ≤ c42 from by rw [hy42, hc42]; exact Nat.sub_le_sub_right hroom42 _); clear hr42 hC42 hroom42 hi042 hsz42 hc42; have KY42 := Aside0.mk hy42; have KA42 := Aside0.mk hA42; clear hy42 hA42; replace q42 := eq_true q42; have q43 : (t194 : Int) ≤ ((l0.length : Int) : Int) := of_decide_eq_true (by first | (with_reducible assumption) | assumption); obtain ⟨i043, hi043, _, hsz43, _⟩ := info_parts info73; have hroom43 : l0.length ≤ c0 := HC0.out; have hC43 : Kd.C k73 _ (some ad212) l0.length l0 := HR0.out; have hcut43 := cut_to (P := Tryz.prog) 27 73 .i64 Tryz.underlying27 hi043 (some ad212) l0.length c0 t194 (of_decide_eq_true (by first | (with_reducible assumption) | assumption)) q43 hroom43; have hr43 := Kd.C_take (m := (t194 : Int).toNat) hC43 (by omega); have hy43 : y234.length = (t194 : Int).toNat := (by rw [Ny234.out, List.length_take]; omega); rw [← Ny234.out] at hr43; rw [← hy43] at hcut43; have HR237 := Aside0.mk hr43; have HC237 := Aside0.mk (show y234.length ≤ c0 from by omega); clear hr43 hC43 hroom43 hi043 hsz43; have KY43 := Aside0.mk hy43; clear hy43; replace q43 := eq_true q43) | ((with_reducible refine gate_builtin (b := .append) (xs := #[.tmp 37, .tmp 40]) rfl ?_); at_builtin; refine Kd.R_append_rows k73 (w0 := w) w.heap.size rfl (.tmp 37) (.tmp 40) 27 73 (.agg #[(.string ⟨#[]⟩), (.string ⟨#[]⟩)]) 32 rfl Tryz.underlying27 info73 rfl (by decide) (by omega) (.slice none 0 0) ([] : List (S73)) y234 _ _ _ (fun _ => True) (fun _ => False) rfl rfl ?aO ?aR (fun _ _ h => h) (fun _ h => h.elim) ?aF ?aB ?aS ?aL ?_; (case aR => repeat (first | exact HR237.out | (with_reducible refine Kd.C_alloc ?_ _) | (with_reducible refine Kd.C_drewN ?_ _) | (with_reducible refine Kd.C_drew ?_))); (case aB => exact (by repeat (first | (with_reducible first | exact HB.out | apply below_alloc | apply pw_below_drewN | apply below_drew1) | exact HB.out))); (case aF => exact (fun _ _ => trivial)); (case aO => exact ((Kd.R_nil _ _ _ _ (fun _ => True)))); (case aS => exact (below_size (by repeat (first | (with_reducible first | exact HB.out | apply below_alloc | apply pw_below_drewN | apply below_drew1) | exact HB.out)))); (case aL => have := LMc38.out; omega); intro v239 w44 ho hb hg hat; rw [← Ny238.out] at ho; have n0_ := Aside0.mk (hb); have n1_ := Aside0.mk (ho); clear HB; have HB := n0_; have HO240 := n1_; clear n0_ n1_; clear ho hb hg hat) | ((with_reducible refine gate_builtin (b := .append) (xs := #[.tmp 42, .tmp 46]) rfl ?_); at_builtin; refine Kd.R_append k73 (w0 := w) w.heap.size rfl (.tmp 42) (.tmp 46) 27 73 (.agg #[(.string ⟨#[]⟩), (.string ⟨#[]⟩)]) 32 rfl Tryz.underlying27 info73 rfl (by decide) (by omega) v239 y238 (⟨a1, a2⟩ : S73) [.string a1, .string a2] (fun _ => True) (fun _ => False) rfl rfl ?aP (fun _ hk => hk.elim) ?aF ?aO ?aB ?aS ?aL ?_; (case aP => exact k73_mkM _ _ _ (⟨a1, a2⟩ : S73)); (case aB => exact (by repeat (first | (with_reducible first | exact HB.out | apply below_alloc | apply pw_below_drewN | apply below_drew1) | exact HB.out))); (case aF => exact (fun _ _ => trivial)); (case aO => exact (by (with_reducible repeat (first | apply Kd.R_alloc | apply Kd.R_drewN | apply Kd.R_drew)); exact HO240.out)); (case aS => exact (below_size (by repeat (first | (with_reducible first | exact HB.out | apply below_alloc | apply pw_below_drewN | apply below_drew1) | exact HB.out)))); (case aL => have := LMc39.out; omega); intro v242 w45 ho hb hg hat; rw [← Ny241.out] at ho; have n0_ := Aside0.mk (hb); have n1_ := Aside0.mk (ho); clear HB; clear HO240; have HB := n0_; have HO243 := n1_; clear n0_ n1_; clear ho hb hg hat) | ((with_reducible refine gate_builtin (b := .append) (xs := #[.tmp 48, .tmp 49]) rfl ?_); at_builtin; refine Kd.R_append_rows k73 (w0 := w) w.heap.size rfl (.tmp 48) (.tmp 49) 27 73 (.agg #[(.string ⟨#[]⟩), (.string ⟨#[]⟩)]) 32 rfl Tryz.underlying27 info73 rfl (by decide) (by omega) v242 y241 y230 _ _ _ (fun _ => True) (fun _ => False) rfl rfl ?aO ?aR (fun _ _ h => h) (fun _ h => h.elim) ?aF ?aB ?aS ?aL ?_; (case aR => repeat (first | exact (Kd.C_below HR233.out HB.out) | (with_reducible refine Kd.C_alloc ?_ _) | (with_reducible refine Kd.C_drewN ?_ _) | (with_reducible refine Kd.C_drew ?_))); (case aB => exact (by repeat (first | (with_reducible first | exact HB.out | apply below_alloc | apply pw_below_drewN | apply below_drew1) | exact HB.out))); (case aF => exact (fun _ _ => trivial)); (case aO => exact (by (with_reducible repeat (first | apply Kd.R_alloc | apply Kd.R_drewN | apply Kd.R_drew)); exact HO243.out)); (case aS => exact (below_size (by repeat (first | (with_reducible first | exact HB.out | apply below_alloc | apply pw_below_drewN | apply below_drew1) | exact HB.out)))); (case aL => have := LMc40.out; omega); intro v245 w46 ho hb hg hat; rw [← Ny244.out] at ho; have n0_ := Aside0.mk (hb); have n1_ := Aside0.mk (ho); clear HB; clear HO243; have HB := n0_; have HO246 := n1_; clear n0_ n1_; clear ho hb hg hat))
                      go_ret2
                      exact ⟨_, by first | rfl | (simp [errW_none, errW_some] <;> rfl) | (simp only [← hji33]; first | rfl | (simp [errW_none, errW_some] <;> rfl)) | (simp [*, errW_none, errW_some] <;> rfl), by (with_reducible repeat (first | apply Kd.R_alloc | apply Kd.R_drewN | apply Kd.R_drew)); exact HO246.out, by repeat (first | (with_reducible first | exact HB.out | apply below_alloc | apply pw_below_drewN | apply below_drew1) | exact HB.out)⟩
                    · rw [if_neg c40] at H
                      exact absurd H (by simp)
                  · rw [if_neg c39] at H
                    exact absurd H (by simp)
                · rw [if_neg c38] at H
                  exact absurd H (by simp)
              · rw [if_neg c35] at H
                exact absurd H (by simp)
            · rw [if_neg c34] at H
              exact absurd H (by simp)
        · rw [if_neg c21] at H
          exact absurd H (by simp)
      · rw [if_neg c19] at H
        exact absurd H (by simp)
    · rw [if_neg c18] at H
      exact absurd H (by simp)

/-! ### footbridgeref14_Put: function 69 -/
def footbridgeref14_Put.f (k : Nat) (l0 : List (S73)) (a1 : ByteArray) (a2 : ByteArray) : Option ((List (S73))) := (footbridgeref09_Set.f k l0 a1 a2).bind fun bt247 => (some bt247.1)
theorem footbridgeref14_Put.mono : ∀ a0 a1 a2 k, LeO (footbridgeref14_Put.f k a0 a1 a2) (footbridgeref14_Put.f (k + 1) a0 a1 a2) := by
  intro a0 a1 a2 k
  unfold footbridgeref14_Put.f
  repeat' first
      | (with_reducible exact footbridgeref09_Set.mono _ _ _ _)
      | (with_reducible exact LeO.refl _)
      | (with_reducible exact LeO.none _)
      | (with_reducible refine LeO.ite ?_ ?_)
      | (with_reducible refine LeO.bind ?_ (fun _ => ?_))
      | exact footbridgeref09_Set.mono _ _ _ _
      | exact LeO.none _
      | refine LeO.ite ?_ ?_
      | refine LeO.bind ?_ (fun _ => ?_)
set_option maxHeartbeats 8000000 in
set_option maxRecDepth 100000 in
theorem footbridgeref14_Put.calls (k : Nat) (A0 : Option Addr) (c0 : Nat) (l0 : List (S73)) (a1 : ByteArray) (a2 : ByteArray) (r : List (S73)) (w : World) (hr0 : Kd.C k73 w A0 l0.length l0) (hc0 : l0.length ≤ c0) (h : footbridgeref14_Put.f k l0 a1 a2 = some r) :
    Calls Tryz.prog 69 #[.slice A0 l0.length c0, .string a1, .string a2] w fun e w' => ∃ v0_ : Value, e = .returned (v0_) ∧ Kd.R k73 73 w' w.heap.size (fun _ => True) v0_ r ∧ Below w.heap.size w w' := by
  have HR0 := Aside0.mk hr0
  have HC0 := Aside0.mk hc0
  clear hr0 hc0
  have HB := Aside0.mk (Below.refl w.heap.size w)
  have H : ((footbridgeref09_Set.f k l0 a1 a2).bind fun bt247 => (some bt247.1)) = some r := h
  clear h
  replace H := Option.bind_eq_some_iff.mp H
  obtain ⟨⟨t247, t248⟩, A40, H⟩ := H
  replace H : (some t247) = some r := H
  have A4 := Aside0.mk A40
  clear A40
  obtain rfl := Option.some.inj H
  go_enter Tryz.func69, Tryz.ntmps69
  go_wp2_with (first | ((with_reducible refine gate_callee (f := 91) rfl ?_); refine goesL_ (some 13) rfl rfl Tryz.func91 (by kernel_rfl) rfl #[.slice A0 l0.length c0, .string a1, .string a2] rfl (by (try simp only [List.map_toArray, List.map_cons, List.map_nil]); first | done | rfl | (simp only [List.length_drop, List.length_take]; rfl)) ?_; (with_reducible refine (footbridgeref09_Set.calls k _ _ l0 a1 a2 t247 t248 _ ?side1 ?side2 A4.out).mono ?_); (case side1 => repeat (first | exact HR0.out | (with_reducible refine Kd.C_alloc ?_ _) | (with_reducible refine Kd.C_drewN ?_ _) | (with_reducible refine Kd.C_drew ?_))); (case side2 => exact HC0.out); rintro e w5 ⟨v249, rfl, ho0, hb⟩; refine ⟨_, rfl, ?_⟩; have n0_ := Aside0.mk (Kd.R_lower ho0 (below_size (by repeat (first | (with_reducible first | exact HB.out | apply below_alloc | apply pw_below_drewN | apply below_drew1) | exact HB.out)))); have n1_ := Aside0.mk (below_step (by repeat (first | (with_reducible first | exact HB.out | apply below_alloc | apply pw_below_drewN | apply below_drew1) | exact HB.out)) hb); clear HB; have HO250 := n0_; have HB := n1_; clear n0_ n1_; (try clear hb); (try clear hb2); (try clear hk); (try clear hi); (try clear ho0)))
  go_ret
  exact ⟨_, by first | rfl | (simp [errW_none, errW_some] <;> rfl) | (simp [*, errW_none, errW_some] <;> rfl), by (with_reducible repeat (first | apply Kd.R_alloc | apply Kd.R_drewN | apply Kd.R_drew)); exact HO250.out, by repeat (first | (with_reducible first | exact HB.out | apply below_alloc | apply pw_below_drewN | apply below_drew1) | exact HB.out)⟩

end Go.Proofs.YtonipkgekhdogaaGreatDoor.PBas
