/- A part of the walk of QuotaPlays. No condition. -/
import Derived.Test.YtgapkicplhbidaaGreatDoorPQupx0
import Derived.Test.YtgapkicplhbidaaGreatDoorPQupx1
import Derived.Test.YtgapkicplhbidaaGreatDoorPQupx4
import Derived.Test.YtgapkicplhbidaaGreatDoorPQupx5
namespace Go.Proofs.YtgapkicplhbidaaGreatDoor.PQup
set_option maxRecDepth 100000
set_option maxHeartbeats 8000000
open Go.RowKit Go.Proofs.YtgapkicplhbidaaGreatDoorW.PrintWords Go.Proofs.YtgapkicplhbidaaGreatDoorW.PrintLast Go.Proofs.YtgapkicplhbidaaGreatDoorW.PrintMore
attribute [local go_sem] max2_int min2_int max_two min_two max_three min_three max_four min_four   -- for this text's walks alone
set_option linter.unusedVariables false
set_option linter.unusedSimpArgs false
def footbridgeref09_Set.f (k : Nat) (l0 : List (S55)) (a1 : ByteArray) (a2 : ByteArray) : Option ((List (S55)) × Bool) := (footbridgeref09_at.f k l0 a1).bind fun t213 => (if t213 = (l0.length : Int) then (if 0 ≤ t213 then (if t213 ≤ (l0.length : Int) then ((some (l0.drop (t213 : Int).toNat : List (S55))).bind fun y214 => ((some (l0.take (t213 : Int).toNat : List (S55))).bind fun y218 => (if ([] : List (S55)).length + y218.length < 4398046511104 then ((some (([] : List (S55)) ++ y218 : List (S55))).bind fun y222 => (if y222.length < 4398046511104 then ((some (y222 ++ [(⟨a1, a2⟩ : S55)] : List (S55))).bind fun y225 => (if y225.length + y214.length < 4398046511104 then (some ((y225 ++ y214), true)) else (none))) else (none))) else (none)))) else (none)) else (none)) else (if 0 ≤ t213 then (if t213 < (l0.length : Int) then (if t213 ≤ (l0.length : Int) then ((some (l0.drop (t213 : Int).toNat : List (S55))).bind fun y232 => (if (¬ ((rd_T55 l0 t213).f0).toList = a1.toList) then ((some (l0.take (t213 : Int).toNat : List (S55))).bind fun y236 => (if ([] : List (S55)).length + y236.length < 4398046511104 then ((some (([] : List (S55)) ++ y236 : List (S55))).bind fun y240 => (if y240.length < 4398046511104 then ((some (y240 ++ [(⟨a1, a2⟩ : S55)] : List (S55))).bind fun y243 => (if y243.length + y232.length < 4398046511104 then (some ((y243 ++ y232), (((rd_T55 l0 t213).f0).toList != a1.toList))) else (none))) else (none))) else (none))) else (if 0 ≤ (wrap64 (t213 + 1)) then (if (wrap64 (t213 + 1)) ≤ (l0.length : Int) then ((some (l0.drop ((wrap64 (t213 + 1)) : Int).toNat : List (S55))).bind fun y249 => ((some (l0.take (t213 : Int).toNat : List (S55))).bind fun y253 => (if ([] : List (S55)).length + y253.length < 4398046511104 then ((some (([] : List (S55)) ++ y253 : List (S55))).bind fun y257 => (if y257.length < 4398046511104 then ((some (y257 ++ [(⟨a1, a2⟩ : S55)] : List (S55))).bind fun y260 => (if y260.length + y249.length < 4398046511104 then (some ((y260 ++ y249), (((rd_T55 l0 t213).f0).toList != a1.toList))) else (none))) else (none))) else (none)))) else (none)) else (none)))) else (none)) else (none)) else (none)))
theorem footbridgeref09_Set.mono : ∀ a0 a1 a2 k, LeO (footbridgeref09_Set.f k a0 a1 a2) (footbridgeref09_Set.f (k + 1) a0 a1 a2) := by
 intro a0 a1 a2 k
 unfold footbridgeref09_Set.f
 repeat' first
   | (with_reducible exact footbridgeref09_at.mono _ _ _)
   | (with_reducible exact LeO.refl _)
   | (with_reducible exact LeO.none _)
   | (with_reducible refine LeO.ite ?_ ?_)
   | (with_reducible refine LeO.bind ?_ (fun _ => ?_))
   | exact footbridgeref09_at.mono _ _ _
   | exact LeO.none _
   | refine LeO.ite ?_ ?_
   | refine LeO.bind ?_ (fun _ => ?_)
theorem footbridgeref09_Set.calls (k : Nat) (A0 : Option Addr) (c0 : Nat) (l0 : List (S55)) (a1 : ByteArray) (a2 : ByteArray) (r1 : List (S55)) (r2 : Bool) (w : World) (hr0 : Kd.C k55 w A0 l0.length l0) (hc0 : l0.length ≤ c0) (h : footbridgeref09_Set.f k l0 a1 a2 = some (r1, r2)) :
  Calls Tryz.prog 69 #[.slice A0 l0.length c0, .string a1, .string a2] w fun e w' => ∃ v0_ : Value, e = .returned (.tuple #[v0_, .bool r2]) ∧ Kd.R k55 55 w' w.heap.size (fun _ => True) v0_ r1 ∧ Below w.heap.size w w' := by
 have hu55 := Tryz.underlying55
 have HR0 := As_ hr0
 have HC0 := As_ hc0
 clear hr0 hc0
 have HB := As_ (Below.refl w.heap.size w)
 have H : ((footbridgeref09_at.f k l0 a1).bind fun t213 => (if t213 = (l0.length : Int) then (if 0 ≤ t213 then (if t213 ≤ (l0.length : Int) then ((some (l0.drop (t213 : Int).toNat : List (S55))).bind fun y214 => ((some (l0.take (t213 : Int).toNat : List (S55))).bind fun y218 => (if ([] : List (S55)).length + y218.length < 4398046511104 then ((some (([] : List (S55)) ++ y218 : List (S55))).bind fun y222 => (if y222.length < 4398046511104 then ((some (y222 ++ [(⟨a1, a2⟩ : S55)] : List (S55))).bind fun y225 => (if y225.length + y214.length < 4398046511104 then (some ((y225 ++ y214), true)) else (none))) else (none))) else (none)))) else (none)) else (none)) else (if 0 ≤ t213 then (if t213 < (l0.length : Int) then (if t213 ≤ (l0.length : Int) then ((some (l0.drop (t213 : Int).toNat : List (S55))).bind fun y232 => (if (¬ ((rd_T55 l0 t213).f0).toList = a1.toList) then ((some (l0.take (t213 : Int).toNat : List (S55))).bind fun y236 => (if ([] : List (S55)).length + y236.length < 4398046511104 then ((some (([] : List (S55)) ++ y236 : List (S55))).bind fun y240 => (if y240.length < 4398046511104 then ((some (y240 ++ [(⟨a1, a2⟩ : S55)] : List (S55))).bind fun y243 => (if y243.length + y232.length < 4398046511104 then (some ((y243 ++ y232), (((rd_T55 l0 t213).f0).toList != a1.toList))) else (none))) else (none))) else (none))) else (if 0 ≤ (wrap64 (t213 + 1)) then (if (wrap64 (t213 + 1)) ≤ (l0.length : Int) then ((some (l0.drop ((wrap64 (t213 + 1)) : Int).toNat : List (S55))).bind fun y249 => ((some (l0.take (t213 : Int).toNat : List (S55))).bind fun y253 => (if ([] : List (S55)).length + y253.length < 4398046511104 then ((some (([] : List (S55)) ++ y253 : List (S55))).bind fun y257 => (if y257.length < 4398046511104 then ((some (y257 ++ [(⟨a1, a2⟩ : S55)] : List (S55))).bind fun y260 => (if y260.length + y249.length < 4398046511104 then (some ((y260 ++ y249), (((rd_T55 l0 t213).f0).toList != a1.toList))) else (none))) else (none))) else (none)))) else (none)) else (none)))) else (none)) else (none)) else (none)))) = some (r1, r2) := h
 clear h
 replace H := Option.bind_eq_some_iff.mp H
 obtain ⟨t213, A40, H⟩ := H
 try dsimp only at H
 have A4 := As_ A40
 clear A40
 by_cases c5 : t213 = (l0.length : Int)
 ·rw [if_pos c5] at H
  have c5b0 : (t213 == (l0.length : Int)) = true := beq_iff_eq.mpr c5
  have c5b1 : (t213 != (l0.length : Int)) = false := bne_eq_false_iff_eq.mpr c5
  clear c5
  by_cases c6 : 0 ≤ t213
  ·rw [if_pos c6] at H
   have c6b0 := eq_true c6
   have c6b1 : decide (0 ≤ t213) = true := decide_eq_true c6
   clear c6
   by_cases c7 : t213 ≤ (l0.length : Int)
   ·rw [if_pos c7] at H
    have c7b0 := eq_true c7
    have c7b1 : decide (t213 ≤ (l0.length : Int)) = true := decide_eq_true c7
    clear c7
    obtain ⟨y214, hy214⟩ : ∃ y_ : List (S55), y_ = (l0.drop (t213 : Int).toNat) := ⟨_, rfl⟩
    replace H : ((some (l0.take (t213 : Int).toNat : List (S55))).bind fun y218 => (if ([] : List (S55)).length + y218.length < 4398046511104 then ((some (([] : List (S55)) ++ y218 : List (S55))).bind fun y222 => (if y222.length < 4398046511104 then ((some (y222 ++ [(⟨a1, a2⟩ : S55)] : List (S55))).bind fun y225 => (if y225.length + y214.length < 4398046511104 then (some ((y225 ++ y214), true)) else (none))) else (none))) else (none))) = some (r1, r2) := by first | (rw [hy214]; with_reducible exact H) | (have H2_ := (Option.bind_some _ _).symm.trans H; rw [hy214]; with_reducible exact H2_) | (have H2_ := (Option.bind_some _ _).symm.trans H; with_reducible exact H2_) | with_reducible exact H | (rw [hy214]; exact H) | exact H
    have Ny214 := As_ hy214
    clear hy214
    have c8b0 := eq_true (of_decide_eq_true ap5_ : 0 ≤ t213)
    have c9b0 := eq_true (of_decide_eq_true ap5_ : t213 ≤ (l0.length : Int))
    obtain ⟨y218, hy218⟩ : ∃ y_ : List (S55), y_ = (l0.take (t213 : Int).toNat) := ⟨_, rfl⟩
    replace H : (if ([] : List (S55)).length + y218.length < 4398046511104 then ((some (([] : List (S55)) ++ y218 : List (S55))).bind fun y222 => (if y222.length < 4398046511104 then ((some (y222 ++ [(⟨a1, a2⟩ : S55)] : List (S55))).bind fun y225 => (if y225.length + y214.length < 4398046511104 then (some ((y225 ++ y214), true)) else (none))) else (none))) else (none)) = some (r1, r2) := by first | (rw [hy218]; with_reducible exact H) | (have H2_ := (Option.bind_some _ _).symm.trans H; rw [hy218]; with_reducible exact H2_) | (have H2_ := (Option.bind_some _ _).symm.trans H; with_reducible exact H2_) | with_reducible exact H | (rw [hy218]; exact H) | exact H
    have Ny218 := As_ hy218
    clear hy218
    by_cases c10 : ([] : List (S55)).length + y218.length < 4398046511104
    ·rw [if_pos c10] at H
     have LMc10 := As_ c10
     clear c10
     obtain ⟨y222, hy222⟩ : ∃ y_ : List (S55), y_ = (([] : List (S55)) ++ y218) := ⟨_, rfl⟩
     replace H : (if y222.length < 4398046511104 then ((some (y222 ++ [(⟨a1, a2⟩ : S55)] : List (S55))).bind fun y225 => (if y225.length + y214.length < 4398046511104 then (some ((y225 ++ y214), true)) else (none))) else (none)) = some (r1, r2) := by first | (rw [hy222]; with_reducible exact H) | (have H2_ := (Option.bind_some _ _).symm.trans H; rw [hy222]; with_reducible exact H2_) | (have H2_ := (Option.bind_some _ _).symm.trans H; with_reducible exact H2_) | with_reducible exact H | (rw [hy222]; exact H) | exact H
     have Ny222 := As_ hy222
     clear hy222
     by_cases c11 : y222.length < 4398046511104
     ·rw [if_pos c11] at H
      have LMc11 := As_ c11
      clear c11
      obtain ⟨y225, hy225⟩ : ∃ y_ : List (S55), y_ = (y222 ++ [(⟨a1, a2⟩ : S55)]) := ⟨_, rfl⟩
      replace H : (if y225.length + y214.length < 4398046511104 then (some ((y225 ++ y214), true)) else (none)) = some (r1, r2) := by first | (rw [hy225]; with_reducible exact H) | (have H2_ := (Option.bind_some _ _).symm.trans H; rw [hy225]; with_reducible exact H2_) | (have H2_ := (Option.bind_some _ _).symm.trans H; with_reducible exact H2_) | with_reducible exact H | (rw [hy225]; exact H) | exact H
      have Ny225 := As_ hy225
      clear hy225
      by_cases c12 : y225.length + y214.length < 4398046511104
      ·rw [if_pos c12] at H
       have LMc12 := As_ c12
       clear c12
       obtain ⟨y228, hy228⟩ : ∃ y_ : List (S55), y_ = (y225 ++ y214) := ⟨_, rfl⟩
       replace H : (some (y228, true)) = some (r1, r2) := by first | (rw [hy228]; with_reducible exact H) | (have H2_ := (Option.bind_some _ _).symm.trans H; rw [hy228]; with_reducible exact H2_) | (have H2_ := (Option.bind_some _ _).symm.trans H; with_reducible exact H2_) | with_reducible exact H | (rw [hy228]; exact H) | exact H
       have Ny228 := As_ hy228
       clear hy228
       simp only [Option.some.injEq, Prod.mk.injEq] at H
       obtain ⟨rfl, rfl⟩ := H
       go_enter Tryz.func69, Tryz.ntmps69
       go_wp2_with (first | ((with_reducible refine gate_callee (f := 51) rfl ?_); refine gk_ (some 14) Tryz.func51 #[.slice A0 l0.length c0, .string a1] ?_; (with_reducible refine (footbridgeref09_at.calls k _ _ l0 a1 t213 _ ?side1 ?side2 A4.out).mono ?_); (case side1 => repeat (first | exact HR0.out | (with_reducible refine Kd.C_alloc ?_ _) | (with_reducible refine Kd.C_drewN ?_ _) | (with_reducible refine Kd.C_drew ?_))); (case side2 => exact HC0.out); rintro e w' ⟨rfl, ⟨nd, rfl⟩⟩; refine ⟨_, rfl, ?_⟩; have q13 : (t213 : Int) ≤ ((l0.length : Int) : Int) := of_decide_eq_true ap5_; obtain ⟨i013, hi013, _, hsz13, _⟩ := info_parts info55; have hroom13 : l0.length ≤ c0 := HC0.out; have hC13 : Kd.C k55 _ A0 l0.length l0 := HR0.out; have q013 : (0 : Int) ≤ (t213 : Int) := of_decide_eq_true ap5_; have hcut13 := cut_from (P := Tryz.prog) 27 55 .i64 Tryz.underlying27 hi013 2 hsz13 A0 l0.length c0 t213 q013 q13; have hr13 := Kd.C_drop (m := (t213 : Int).toNat) (c := c0) hC13 (by omega) hroom13; obtain ⟨A13, hA13⟩ : ∃ A1, A1 = (if c0 = (t213 : Int).toNat then A0 else (A0 : Option Addr).map (·.add ((t213 : Int).toNat * 2))) := ⟨_, rfl⟩; obtain ⟨c13, hc13⟩ : ∃ c1, c1 = c0 - (t213 : Int).toNat := ⟨_, rfl⟩; have hy13 : y214.length = l0.length - (t213 : Int).toNat := (by rw [Ny214.out, List.length_drop] <;> omega); rw [show (l0).drop (t213 : Int).toNat = y214 from Ny214.out.symm] at hr13; replace hr13 : Kd.C k55 _ A13 y214.length y214 := (by rw [hA13]; exact hr13); rw [← hy13, ← hA13, ← hc13] at hcut13; have HR217 := As_ hr13; have HC217 := As_ (show y214.length ≤ c13 from by rw [hy13, hc13]; exact Nat.sub_le_sub_right hroom13 _); clear hr13 hC13 hroom13 hi013 hsz13 hc13; have KY13 := As_ hy13; have KA13 := As_ hA13; clear hy13 hA13; replace q13 := eq_true q13; have q14 : (t213 : Int) ≤ ((l0.length : Int) : Int) := of_decide_eq_true ap5_; obtain ⟨i014, hi014, _, hsz14, _⟩ := info_parts info55; have hroom14 : l0.length ≤ c0 := HC0.out; have hC14 : Kd.C k55 _ A0 l0.length l0 := HR0.out; have hcut14 := cut_to (P := Tryz.prog) 27 55 .i64 Tryz.underlying27 hi014 A0 l0.length c0 t213 (of_decide_eq_true ap5_) q14 hroom14; have hr14 := Kd.C_take (m := (t213 : Int).toNat) hC14 (by omega); have hy14 : y218.length = (t213 : Int).toNat := (by rw [Ny218.out, List.length_take]; omega); rw [← Ny218.out] at hr14; rw [← hy14] at hcut14; have HR221 := As_ hr14; have HC221 := As_ (show y218.length ≤ c0 from by omega); clear hr14 hC14 hroom14 hi014 hsz14; have KY14 := As_ hy14; clear hy14; replace q14 := eq_true q14) | ((with_reducible refine gate_builtin (b := .append) (xs := #[.tmp 37, .tmp 40]) rfl ?_); at_builtin; refine Kd.R_append_rows k55 (w0 := w) w.heap.size rfl (.tmp 37) (.tmp 40) 27 55 (.agg #[(.string ⟨#[]⟩), (.string ⟨#[]⟩)]) 32 rfl Tryz.underlying27 info55 rfl (by decide) (by omega) (.slice none 0 0) ([] : List (S55)) y218 _ _ _ (fun _ => True) (fun _ => False) rfl rfl ?aO ?aR (fun _ _ h => h) (fun _ h => h.elim) ?aF ?aB ?aS ?aL ?_; (case aR => repeat (first | exact HR221.out | (with_reducible refine Kd.C_alloc ?_ _) | (with_reducible refine Kd.C_drewN ?_ _) | (with_reducible refine Kd.C_drew ?_))); (case aB => exact ap28_); (case aF => exact (fun _ _ => trivial)); (case aO => exact ((Kd.R_nil _ _ _ _ (fun _ => True)))); (case aS => exact (below_size ap28_)); (case aL => have := LMc10.out; omega); intro v223 w15 ho hb hg hat; rw [← Ny222.out] at ho; replace HB := As_ (hb); have HO224 := As_ (ho); clear ho hb hg hat) | ((with_reducible refine gate_builtin (b := .append) (xs := #[.tmp 42, .tmp 46]) rfl ?_); at_builtin; refine Kd.R_append k55 (w0 := w) w.heap.size rfl (.tmp 42) (.tmp 46) 27 55 (.agg #[(.string ⟨#[]⟩), (.string ⟨#[]⟩)]) 32 rfl Tryz.underlying27 info55 rfl (by decide) (by omega) v223 y222 (⟨a1, a2⟩ : S55) [.string a1, .string a2] (fun _ => True) (fun _ => False) rfl rfl ?aP (fun _ hk => hk.elim) ?aF ?aO ?aB ?aS ?aL ?_; (case aP => exact k55_mkM _ _ _ (⟨a1, a2⟩ : S55)); (case aB => exact ap28_); (case aF => exact (fun _ _ => trivial)); (case aO => exact (by (with_reducible repeat (first | apply Kd.R_alloc | apply Kd.R_drewN | apply Kd.R_drew)); exact HO224.out)); (case aS => exact (below_size ap28_)); (case aL => have := LMc11.out; omega); intro v226 w16 ho hb hg hat; rw [← Ny225.out] at ho; have n0_ := As_ (hb); have n1_ := As_ (ho); clear HB; clear HO224; have HB := n0_; have HO227 := n1_; clear n0_ n1_; clear ho hb hg hat) | ((with_reducible refine gate_builtin (b := .append) (xs := #[.tmp 48, .tmp 49]) rfl ?_); at_builtin; refine Kd.R_append_rows k55 (w0 := w) w.heap.size rfl (.tmp 48) (.tmp 49) 27 55 (.agg #[(.string ⟨#[]⟩), (.string ⟨#[]⟩)]) 32 rfl Tryz.underlying27 info55 rfl (by decide) (by omega) v226 y225 y214 _ _ _ (fun _ => True) (fun _ => False) rfl rfl ?aO ?aR (fun _ _ h => h) (fun _ h => h.elim) ?aF ?aB ?aS ?aL ?_; (case aR => repeat (first | exact (Kd.C_below HR217.out HB.out) | (with_reducible refine Kd.C_alloc ?_ _) | (with_reducible refine Kd.C_drewN ?_ _) | (with_reducible refine Kd.C_drew ?_))); (case aB => exact ap28_); (case aF => exact (fun _ _ => trivial)); (case aO => exact (by (with_reducible repeat (first | apply Kd.R_alloc | apply Kd.R_drewN | apply Kd.R_drew)); exact HO227.out)); (case aS => exact (below_size ap28_)); (case aL => have := LMc12.out; omega); intro v229 w17 ho hb hg hat; rw [← Ny228.out] at ho; have n0_ := As_ (hb); have n1_ := As_ (ho); clear HB; clear HO227; have HB := n0_; have HO230 := n1_; clear n0_ n1_; clear ho hb hg hat))
       go_ret2
       exact ⟨_, ap14_, by (with_reducible repeat (first | apply Kd.R_alloc | apply Kd.R_drewN | apply Kd.R_drew)); exact HO230.out, ap28_⟩
      ·rw [if_neg c12] at H
       exact absurd H (by simp)
     ·rw [if_neg c11] at H
      exact absurd H (by simp)
    ·rw [if_neg c10] at H
     exact absurd H (by simp)
   ·rw [if_neg c7] at H
    exact absurd H (by simp)
  ·rw [if_neg c6] at H
   exact absurd H (by simp)
 ·rw [if_neg c5] at H
  have c5b0 : (t213 == (l0.length : Int)) = false := beq_eq_false_iff_ne.mpr c5
  have c5b1 : (t213 != (l0.length : Int)) = true := bne_iff_ne.mpr c5
  by_cases c18 : 0 ≤ t213
  ·rw [if_pos c18] at H
   have c18b0 : decide (0 ≤ t213) = true := decide_eq_true c18
   clear c18
   by_cases c19 : t213 < (l0.length : Int)
   ·rw [if_pos c19] at H
    have c19b0 : decide (t213 < (l0.length : Int)) = true := decide_eq_true c19
    clear c19
    have c20b0 := eq_true (of_decide_eq_true ap5_ : 0 ≤ t213)
    by_cases c21 : t213 ≤ (l0.length : Int)
    ·rw [if_pos c21] at H
     have c21b0 := eq_true c21
     have c21b1 : decide (t213 ≤ (l0.length : Int)) = true := decide_eq_true c21
     clear c21
     obtain ⟨y232, hy232⟩ : ∃ y_ : List (S55), y_ = (l0.drop (t213 : Int).toNat) := ⟨_, rfl⟩
     replace H : (if (¬ ((rd_T55 l0 t213).f0).toList = a1.toList) then ((some (l0.take (t213 : Int).toNat : List (S55))).bind fun y236 => (if ([] : List (S55)).length + y236.length < 4398046511104 then ((some (([] : List (S55)) ++ y236 : List (S55))).bind fun y240 => (if y240.length < 4398046511104 then ((some (y240 ++ [(⟨a1, a2⟩ : S55)] : List (S55))).bind fun y243 => (if y243.length + y232.length < 4398046511104 then (some ((y243 ++ y232), (((rd_T55 l0 t213).f0).toList != a1.toList))) else (none))) else (none))) else (none))) else (if 0 ≤ (wrap64 (t213 + 1)) then (if (wrap64 (t213 + 1)) ≤ (l0.length : Int) then ((some (l0.drop ((wrap64 (t213 + 1)) : Int).toNat : List (S55))).bind fun y249 => ((some (l0.take (t213 : Int).toNat : List (S55))).bind fun y253 => (if ([] : List (S55)).length + y253.length < 4398046511104 then ((some (([] : List (S55)) ++ y253 : List (S55))).bind fun y257 => (if y257.length < 4398046511104 then ((some (y257 ++ [(⟨a1, a2⟩ : S55)] : List (S55))).bind fun y260 => (if y260.length + y249.length < 4398046511104 then (some ((y260 ++ y249), (((rd_T55 l0 t213).f0).toList != a1.toList))) else (none))) else (none))) else (none)))) else (none)) else (none))) = some (r1, r2) := by first | (rw [hy232]; with_reducible exact H) | (have H2_ := (Option.bind_some _ _).symm.trans H; rw [hy232]; with_reducible exact H2_) | (have H2_ := (Option.bind_some _ _).symm.trans H; with_reducible exact H2_) | with_reducible exact H | (rw [hy232]; exact H) | exact H
     have Ny232 := As_ hy232
     clear hy232
     by_cases c22 : (¬ ((rd_T55 l0 t213).f0).toList = a1.toList)
     ·rw [if_pos c22] at H
      have c22b0 : (((rd_T55 l0 t213).f0).toList == a1.toList) = false := beq_eq_false_iff_ne.mpr c22
      have c22b1 : (((rd_T55 l0 t213).f0).toList != a1.toList) = true := bne_iff_ne.mpr c22
      clear c22
      have c23b0 := eq_true (of_decide_eq_true ap5_ : 0 ≤ t213)
      have c24b0 := eq_true (of_decide_eq_true ap5_ : t213 ≤ (l0.length : Int))
      obtain ⟨y236, hy236⟩ : ∃ y_ : List (S55), y_ = (l0.take (t213 : Int).toNat) := ⟨_, rfl⟩
      replace H : (if ([] : List (S55)).length + y236.length < 4398046511104 then ((some (([] : List (S55)) ++ y236 : List (S55))).bind fun y240 => (if y240.length < 4398046511104 then ((some (y240 ++ [(⟨a1, a2⟩ : S55)] : List (S55))).bind fun y243 => (if y243.length + y232.length < 4398046511104 then (some ((y243 ++ y232), (((rd_T55 l0 t213).f0).toList != a1.toList))) else (none))) else (none))) else (none)) = some (r1, r2) := by first | (rw [hy236]; with_reducible exact H) | (have H2_ := (Option.bind_some _ _).symm.trans H; rw [hy236]; with_reducible exact H2_) | (have H2_ := (Option.bind_some _ _).symm.trans H; with_reducible exact H2_) | with_reducible exact H | (rw [hy236]; exact H) | exact H
      have Ny236 := As_ hy236
      clear hy236
      by_cases c25 : ([] : List (S55)).length + y236.length < 4398046511104
      ·rw [if_pos c25] at H
       have LMc25 := As_ c25
       clear c25
       obtain ⟨y240, hy240⟩ : ∃ y_ : List (S55), y_ = (([] : List (S55)) ++ y236) := ⟨_, rfl⟩
       replace H : (if y240.length < 4398046511104 then ((some (y240 ++ [(⟨a1, a2⟩ : S55)] : List (S55))).bind fun y243 => (if y243.length + y232.length < 4398046511104 then (some ((y243 ++ y232), (((rd_T55 l0 t213).f0).toList != a1.toList))) else (none))) else (none)) = some (r1, r2) := by first | (rw [hy240]; with_reducible exact H) | (have H2_ := (Option.bind_some _ _).symm.trans H; rw [hy240]; with_reducible exact H2_) | (have H2_ := (Option.bind_some _ _).symm.trans H; with_reducible exact H2_) | with_reducible exact H | (rw [hy240]; exact H) | exact H
       have Ny240 := As_ hy240
       clear hy240
       by_cases c26 : y240.length < 4398046511104
       ·rw [if_pos c26] at H
        have LMc26 := As_ c26
        clear c26
        obtain ⟨y243, hy243⟩ : ∃ y_ : List (S55), y_ = (y240 ++ [(⟨a1, a2⟩ : S55)]) := ⟨_, rfl⟩
        replace H : (if y243.length + y232.length < 4398046511104 then (some ((y243 ++ y232), (((rd_T55 l0 t213).f0).toList != a1.toList))) else (none)) = some (r1, r2) := by first | (rw [hy243]; with_reducible exact H) | (have H2_ := (Option.bind_some _ _).symm.trans H; rw [hy243]; with_reducible exact H2_) | (have H2_ := (Option.bind_some _ _).symm.trans H; with_reducible exact H2_) | with_reducible exact H | (rw [hy243]; exact H) | exact H
        have Ny243 := As_ hy243
        clear hy243
        by_cases c27 : y243.length + y232.length < 4398046511104
        ·rw [if_pos c27] at H
         have LMc27 := As_ c27
         clear c27
         obtain ⟨y246, hy246⟩ : ∃ y_ : List (S55), y_ = (y243 ++ y232) := ⟨_, rfl⟩
         replace H : (some (y246, (((rd_T55 l0 t213).f0).toList != a1.toList))) = some (r1, r2) := by first | (rw [hy246]; with_reducible exact H) | (have H2_ := (Option.bind_some _ _).symm.trans H; rw [hy246]; with_reducible exact H2_) | (have H2_ := (Option.bind_some _ _).symm.trans H; with_reducible exact H2_) | with_reducible exact H | (rw [hy246]; exact H) | exact H
         have Ny246 := As_ hy246
         clear hy246
         simp only [Option.some.injEq, Prod.mk.injEq] at H
         obtain ⟨rfl, rfl⟩ := H
         go_enter Tryz.func69, Tryz.ntmps69
         go_wp2_with (first | ((with_reducible refine gate_callee (f := 51) rfl ?_); refine gk_ (some 14) Tryz.func51 #[.slice A0 l0.length c0, .string a1] ?_; (with_reducible refine (footbridgeref09_at.calls k _ _ l0 a1 t213 _ ?side1 ?side2 A4.out).mono ?_); (case side1 => repeat (first | exact HR0.out | (with_reducible refine Kd.C_alloc ?_ _) | (with_reducible refine Kd.C_drewN ?_ _) | (with_reducible refine Kd.C_drew ?_))); (case side2 => exact HC0.out); rintro e w' ⟨rfl, ⟨nd, rfl⟩⟩; refine ⟨_, rfl, ?_⟩; have p231 : 0 ≤ (t213 : Int) := of_decide_eq_true ap5_; have q231 : t213 < (l0.length : Int) := of_decide_eq_true ap5_; obtain ⟨ad231, e231, hx231_0, hx231_1⟩ := at_T55 HR0.out t213 p231 q231; cases e231; replace p231 := eq_true p231; replace q231 := eq_true q231; have q28 : (t213 : Int) ≤ ((l0.length : Int) : Int) := of_decide_eq_true ap5_; obtain ⟨i028, hi028, _, hsz28, _⟩ := info_parts info55; have hroom28 : l0.length ≤ c0 := HC0.out; have hC28 : Kd.C k55 _ (some ad231) l0.length l0 := HR0.out; have q028 : (0 : Int) ≤ (t213 : Int) := of_decide_eq_true ap5_; have hcut28 := cut_from (P := Tryz.prog) 27 55 .i64 Tryz.underlying27 hi028 2 hsz28 (some ad231) l0.length c0 t213 q028 q28; have hr28 := Kd.C_drop (m := (t213 : Int).toNat) (c := c0) hC28 (by omega) hroom28; obtain ⟨A28, hA28⟩ : ∃ A1, A1 = (if c0 = (t213 : Int).toNat then (some ad231) else ((some ad231) : Option Addr).map (·.add ((t213 : Int).toNat * 2))) := ⟨_, rfl⟩; obtain ⟨c28, hc28⟩ : ∃ c1, c1 = c0 - (t213 : Int).toNat := ⟨_, rfl⟩; have hy28 : y232.length = l0.length - (t213 : Int).toNat := (by rw [Ny232.out, List.length_drop] <;> omega); rw [show (l0).drop (t213 : Int).toNat = y232 from Ny232.out.symm] at hr28; replace hr28 : Kd.C k55 _ A28 y232.length y232 := (by rw [hA28]; exact hr28); rw [← hy28, ← hA28, ← hc28] at hcut28; have HR235 := As_ hr28; have HC235 := As_ (show y232.length ≤ c28 from by rw [hy28, hc28]; exact Nat.sub_le_sub_right hroom28 _); clear hr28 hC28 hroom28 hi028 hsz28 hc28; have KY28 := As_ hy28; have KA28 := As_ hA28; clear hy28 hA28; replace q28 := eq_true q28; have q29 : (t213 : Int) ≤ ((l0.length : Int) : Int) := of_decide_eq_true ap5_; obtain ⟨i029, hi029, _, hsz29, _⟩ := info_parts info55; have hroom29 : l0.length ≤ c0 := HC0.out; have hC29 : Kd.C k55 _ (some ad231) l0.length l0 := HR0.out; have hcut29 := cut_to (P := Tryz.prog) 27 55 .i64 Tryz.underlying27 hi029 (some ad231) l0.length c0 t213 (of_decide_eq_true ap5_) q29 hroom29; have hr29 := Kd.C_take (m := (t213 : Int).toNat) hC29 (by omega); have hy29 : y236.length = (t213 : Int).toNat := (by rw [Ny236.out, List.length_take]; omega); rw [← Ny236.out] at hr29; rw [← hy29] at hcut29; have HR239 := As_ hr29; have HC239 := As_ (show y236.length ≤ c0 from by omega); clear hr29 hC29 hroom29 hi029 hsz29; have KY29 := As_ hy29; clear hy29; replace q29 := eq_true q29) | ((with_reducible refine gate_builtin (b := .append) (xs := #[.tmp 37, .tmp 40]) rfl ?_); at_builtin; refine Kd.R_append_rows k55 (w0 := w) w.heap.size rfl (.tmp 37) (.tmp 40) 27 55 (.agg #[(.string ⟨#[]⟩), (.string ⟨#[]⟩)]) 32 rfl Tryz.underlying27 info55 rfl (by decide) (by omega) (.slice none 0 0) ([] : List (S55)) y236 _ _ _ (fun _ => True) (fun _ => False) rfl rfl ?aO ?aR (fun _ _ h => h) (fun _ h => h.elim) ?aF ?aB ?aS ?aL ?_; (case aR => repeat (first | exact HR239.out | (with_reducible refine Kd.C_alloc ?_ _) | (with_reducible refine Kd.C_drewN ?_ _) | (with_reducible refine Kd.C_drew ?_))); (case aB => exact ap28_); (case aF => exact (fun _ _ => trivial)); (case aO => exact ((Kd.R_nil _ _ _ _ (fun _ => True)))); (case aS => exact (below_size ap28_)); (case aL => have := LMc25.out; omega); intro v241 w30 ho hb hg hat; rw [← Ny240.out] at ho; replace HB := As_ (hb); have HO242 := As_ (ho); clear ho hb hg hat) | ((with_reducible refine gate_builtin (b := .append) (xs := #[.tmp 42, .tmp 46]) rfl ?_); at_builtin; refine Kd.R_append k55 (w0 := w) w.heap.size rfl (.tmp 42) (.tmp 46) 27 55 (.agg #[(.string ⟨#[]⟩), (.string ⟨#[]⟩)]) 32 rfl Tryz.underlying27 info55 rfl (by decide) (by omega) v241 y240 (⟨a1, a2⟩ : S55) [.string a1, .string a2] (fun _ => True) (fun _ => False) rfl rfl ?aP (fun _ hk => hk.elim) ?aF ?aO ?aB ?aS ?aL ?_; (case aP => exact k55_mkM _ _ _ (⟨a1, a2⟩ : S55)); (case aB => exact ap28_); (case aF => exact (fun _ _ => trivial)); (case aO => exact (by (with_reducible repeat (first | apply Kd.R_alloc | apply Kd.R_drewN | apply Kd.R_drew)); exact HO242.out)); (case aS => exact (below_size ap28_)); (case aL => have := LMc26.out; omega); intro v244 w31 ho hb hg hat; rw [← Ny243.out] at ho; have n0_ := As_ (hb); have n1_ := As_ (ho); clear HB; clear HO242; have HB := n0_; have HO245 := n1_; clear n0_ n1_; clear ho hb hg hat) | ((with_reducible refine gate_builtin (b := .append) (xs := #[.tmp 48, .tmp 49]) rfl ?_); at_builtin; refine Kd.R_append_rows k55 (w0 := w) w.heap.size rfl (.tmp 48) (.tmp 49) 27 55 (.agg #[(.string ⟨#[]⟩), (.string ⟨#[]⟩)]) 32 rfl Tryz.underlying27 info55 rfl (by decide) (by omega) v244 y243 y232 _ _ _ (fun _ => True) (fun _ => False) rfl rfl ?aO ?aR (fun _ _ h => h) (fun _ h => h.elim) ?aF ?aB ?aS ?aL ?_; (case aR => repeat (first | exact (Kd.C_below HR235.out HB.out) | (with_reducible refine Kd.C_alloc ?_ _) | (with_reducible refine Kd.C_drewN ?_ _) | (with_reducible refine Kd.C_drew ?_))); (case aB => exact ap28_); (case aF => exact (fun _ _ => trivial)); (case aO => exact (by (with_reducible repeat (first | apply Kd.R_alloc | apply Kd.R_drewN | apply Kd.R_drew)); exact HO245.out)); (case aS => exact (below_size ap28_)); (case aL => have := LMc27.out; omega); intro v247 w32 ho hb hg hat; rw [← Ny246.out] at ho; have n0_ := As_ (hb); have n1_ := As_ (ho); clear HB; clear HO245; have HB := n0_; have HO248 := n1_; clear n0_ n1_; clear ho hb hg hat))
         go_ret2
         exact ⟨_, ap14_, by (with_reducible repeat (first | apply Kd.R_alloc | apply Kd.R_drewN | apply Kd.R_drew)); exact HO248.out, ap28_⟩
        ·rw [if_neg c27] at H
         exact absurd H (by simp)
       ·rw [if_neg c26] at H
        exact absurd H (by simp)
      ·rw [if_neg c25] at H
       exact absurd H (by simp)
     ·rw [if_neg c22] at H
      have c22b0 : (((rd_T55 l0 t213).f0).toList == a1.toList) = true := beq_iff_eq.mpr (Decidable.not_not.mp c22)
      have c22b1 : (((rd_T55 l0 t213).f0).toList != a1.toList) = false := bne_eq_false_iff_eq.mpr (Decidable.not_not.mp c22)
      obtain ⟨ji33, hji33⟩ : ∃ j_ : Int, (wrap64 (t213 + 1)) = j_ := ⟨_, rfl⟩
      replace H : (if 0 ≤ (ji33) then (if (ji33) ≤ (l0.length : Int) then ((some (l0.drop ((ji33) : Int).toNat : List (S55))).bind fun y249 => ((some (l0.take (t213 : Int).toNat : List (S55))).bind fun y253 => (if ([] : List (S55)).length + y253.length < 4398046511104 then ((some (([] : List (S55)) ++ y253 : List (S55))).bind fun y257 => (if y257.length < 4398046511104 then ((some (y257 ++ [(⟨a1, a2⟩ : S55)] : List (S55))).bind fun y260 => (if y260.length + y249.length < 4398046511104 then (some ((y260 ++ y249), (((rd_T55 l0 t213).f0).toList != a1.toList))) else (none))) else (none))) else (none)))) else (none)) else (none)) = some (r1, r2) := by first | (rw [hji33] at H; exact H) | (simp only [hji33] at H ⊢; exact H)
      (try rw [hji33] at A4)
      have hji33w : (IntKind.i64.wrap (t213 + 1)) = ji33 := (i64_w _).trans hji33
      by_cases c34 : 0 ≤ (ji33)
      ·rw [if_pos c34] at H
       have c34b0 := eq_true c34
       have c34b1 : decide (0 ≤ (ji33)) = true := decide_eq_true c34
       clear c34
       by_cases c35 : (ji33) ≤ (l0.length : Int)
       ·rw [if_pos c35] at H
        have c35b0 := eq_true c35
        have c35b1 : decide ((ji33) ≤ (l0.length : Int)) = true := decide_eq_true c35
        clear c35
        obtain ⟨y249, hy249⟩ : ∃ y_ : List (S55), y_ = (l0.drop ((ji33) : Int).toNat) := ⟨_, rfl⟩
        replace H : ((some (l0.take (t213 : Int).toNat : List (S55))).bind fun y253 => (if ([] : List (S55)).length + y253.length < 4398046511104 then ((some (([] : List (S55)) ++ y253 : List (S55))).bind fun y257 => (if y257.length < 4398046511104 then ((some (y257 ++ [(⟨a1, a2⟩ : S55)] : List (S55))).bind fun y260 => (if y260.length + y249.length < 4398046511104 then (some ((y260 ++ y249), (((rd_T55 l0 t213).f0).toList != a1.toList))) else (none))) else (none))) else (none))) = some (r1, r2) := by first | (rw [hy249]; with_reducible exact H) | (have H2_ := (Option.bind_some _ _).symm.trans H; rw [hy249]; with_reducible exact H2_) | (have H2_ := (Option.bind_some _ _).symm.trans H; with_reducible exact H2_) | with_reducible exact H | (rw [hy249]; exact H) | exact H
        have Ny249 := As_ hy249
        clear hy249
        have c36b0 := eq_true (of_decide_eq_true ap5_ : 0 ≤ t213)
        have c37b0 := eq_true (of_decide_eq_true ap5_ : t213 ≤ (l0.length : Int))
        obtain ⟨y253, hy253⟩ : ∃ y_ : List (S55), y_ = (l0.take (t213 : Int).toNat) := ⟨_, rfl⟩
        replace H : (if ([] : List (S55)).length + y253.length < 4398046511104 then ((some (([] : List (S55)) ++ y253 : List (S55))).bind fun y257 => (if y257.length < 4398046511104 then ((some (y257 ++ [(⟨a1, a2⟩ : S55)] : List (S55))).bind fun y260 => (if y260.length + y249.length < 4398046511104 then (some ((y260 ++ y249), (((rd_T55 l0 t213).f0).toList != a1.toList))) else (none))) else (none))) else (none)) = some (r1, r2) := by first | (rw [hy253]; with_reducible exact H) | (have H2_ := (Option.bind_some _ _).symm.trans H; rw [hy253]; with_reducible exact H2_) | (have H2_ := (Option.bind_some _ _).symm.trans H; with_reducible exact H2_) | with_reducible exact H | (rw [hy253]; exact H) | exact H
        have Ny253 := As_ hy253
        clear hy253
        by_cases c38 : ([] : List (S55)).length + y253.length < 4398046511104
        ·rw [if_pos c38] at H
         have LMc38 := As_ c38
         clear c38
         obtain ⟨y257, hy257⟩ : ∃ y_ : List (S55), y_ = (([] : List (S55)) ++ y253) := ⟨_, rfl⟩
         replace H : (if y257.length < 4398046511104 then ((some (y257 ++ [(⟨a1, a2⟩ : S55)] : List (S55))).bind fun y260 => (if y260.length + y249.length < 4398046511104 then (some ((y260 ++ y249), (((rd_T55 l0 t213).f0).toList != a1.toList))) else (none))) else (none)) = some (r1, r2) := by first | (rw [hy257]; with_reducible exact H) | (have H2_ := (Option.bind_some _ _).symm.trans H; rw [hy257]; with_reducible exact H2_) | (have H2_ := (Option.bind_some _ _).symm.trans H; with_reducible exact H2_) | with_reducible exact H | (rw [hy257]; exact H) | exact H
         have Ny257 := As_ hy257
         clear hy257
         by_cases c39 : y257.length < 4398046511104
         ·rw [if_pos c39] at H
          have LMc39 := As_ c39
          clear c39
          obtain ⟨y260, hy260⟩ : ∃ y_ : List (S55), y_ = (y257 ++ [(⟨a1, a2⟩ : S55)]) := ⟨_, rfl⟩
          replace H : (if y260.length + y249.length < 4398046511104 then (some ((y260 ++ y249), (((rd_T55 l0 t213).f0).toList != a1.toList))) else (none)) = some (r1, r2) := by first | (rw [hy260]; with_reducible exact H) | (have H2_ := (Option.bind_some _ _).symm.trans H; rw [hy260]; with_reducible exact H2_) | (have H2_ := (Option.bind_some _ _).symm.trans H; with_reducible exact H2_) | with_reducible exact H | (rw [hy260]; exact H) | exact H
          have Ny260 := As_ hy260
          clear hy260
          by_cases c40 : y260.length + y249.length < 4398046511104
          ·rw [if_pos c40] at H
           have LMc40 := As_ c40
           clear c40
           obtain ⟨y263, hy263⟩ : ∃ y_ : List (S55), y_ = (y260 ++ y249) := ⟨_, rfl⟩
           replace H : (some (y263, (((rd_T55 l0 t213).f0).toList != a1.toList))) = some (r1, r2) := by first | (rw [hy263]; with_reducible exact H) | (have H2_ := (Option.bind_some _ _).symm.trans H; rw [hy263]; with_reducible exact H2_) | (have H2_ := (Option.bind_some _ _).symm.trans H; with_reducible exact H2_) | with_reducible exact H | (rw [hy263]; exact H) | exact H
           have Ny263 := As_ hy263
           clear hy263
           simp only [Option.some.injEq, Prod.mk.injEq] at H
           obtain ⟨rfl, rfl⟩ := H
           go_enter Tryz.func69, Tryz.ntmps69
           go_wp2_with (first | ((with_reducible refine gate_callee (f := 51) rfl ?_); refine gk_ (some 14) Tryz.func51 #[.slice A0 l0.length c0, .string a1] ?_; (with_reducible refine (footbridgeref09_at.calls k _ _ l0 a1 t213 _ ?side1 ?side2 A4.out).mono ?_); (case side1 => repeat (first | exact HR0.out | (with_reducible refine Kd.C_alloc ?_ _) | (with_reducible refine Kd.C_drewN ?_ _) | (with_reducible refine Kd.C_drew ?_))); (case side2 => exact HC0.out); rintro e w' ⟨rfl, ⟨nd, rfl⟩⟩; refine ⟨_, rfl, ?_⟩; have p231 : 0 ≤ (t213 : Int) := of_decide_eq_true ap5_; have q231 : t213 < (l0.length : Int) := of_decide_eq_true ap5_; obtain ⟨ad231, e231, hx231_0, hx231_1⟩ := at_T55 HR0.out t213 p231 q231; cases e231; replace p231 := eq_true p231; replace q231 := eq_true q231; have q41 : (t213 : Int) ≤ ((l0.length : Int) : Int) := of_decide_eq_true ap5_; obtain ⟨i041, hi041, _, hsz41, _⟩ := info_parts info55; have hroom41 : l0.length ≤ c0 := HC0.out; have hC41 : Kd.C k55 _ (some ad231) l0.length l0 := HR0.out; have q041 : (0 : Int) ≤ (t213 : Int) := of_decide_eq_true ap5_; have hcut41 := cut_from (P := Tryz.prog) 27 55 .i64 Tryz.underlying27 hi041 2 hsz41 (some ad231) l0.length c0 t213 q041 q41; have hr41 := Kd.C_drop (m := (t213 : Int).toNat) (c := c0) hC41 (by omega) hroom41; obtain ⟨A41, hA41⟩ : ∃ A1, A1 = (if c0 = (t213 : Int).toNat then (some ad231) else ((some ad231) : Option Addr).map (·.add ((t213 : Int).toNat * 2))) := ⟨_, rfl⟩; obtain ⟨c41, hc41⟩ : ∃ c1, c1 = c0 - (t213 : Int).toNat := ⟨_, rfl⟩; have hy41 : y232.length = l0.length - (t213 : Int).toNat := (by rw [Ny232.out, List.length_drop] <;> omega); rw [show (l0).drop (t213 : Int).toNat = y232 from Ny232.out.symm] at hr41; replace hr41 : Kd.C k55 _ A41 y232.length y232 := (by rw [hA41]; exact hr41); rw [← hy41, ← hA41, ← hc41] at hcut41; have HR235 := As_ hr41; have HC235 := As_ (show y232.length ≤ c41 from by rw [hy41, hc41]; exact Nat.sub_le_sub_right hroom41 _); clear hr41 hC41 hroom41 hi041 hsz41 hc41; have KY41 := As_ hy41; have KA41 := As_ hA41; clear hy41 hA41; replace q41 := eq_true q41; have q42 : ((ji33) : Int) ≤ ((l0.length : Int) : Int) := of_decide_eq_true ap5_; obtain ⟨i042, hi042, _, hsz42, _⟩ := info_parts info55; have hroom42 : l0.length ≤ c0 := HC0.out; have hC42 : Kd.C k55 _ (some ad231) l0.length l0 := HR0.out; have q042 : (0 : Int) ≤ ((ji33) : Int) := of_decide_eq_true ap5_; have hcut42 := cut_from (P := Tryz.prog) 27 55 .i64 Tryz.underlying27 hi042 2 hsz42 (some ad231) l0.length c0 (ji33) q042 q42; have hr42 := Kd.C_drop (m := ((ji33) : Int).toNat) (c := c0) hC42 (by omega) hroom42; obtain ⟨A42, hA42⟩ : ∃ A1, A1 = (if c0 = ((ji33) : Int).toNat then (some ad231) else ((some ad231) : Option Addr).map (·.add (((ji33) : Int).toNat * 2))) := ⟨_, rfl⟩; obtain ⟨c42, hc42⟩ : ∃ c1, c1 = c0 - ((ji33) : Int).toNat := ⟨_, rfl⟩; have hy42 : y249.length = l0.length - ((ji33) : Int).toNat := (by rw [Ny249.out, List.length_drop] <;> omega); rw [show (l0).drop ((ji33) : Int).toNat = y249 from Ny249.out.symm] at hr42; replace hr42 : Kd.C k55 _ A42 y249.length y249 := (by rw [hA42]; exact hr42); rw [← hy42, ← hA42, ← hc42] at hcut42; have HR252 := As_ hr42; have HC252 := As_ (show y249.length ≤ c42 from by rw [hy42, hc42]; exact Nat.sub_le_sub_right hroom42 _); clear hr42 hC42 hroom42 hi042 hsz42 hc42; have KY42 := As_ hy42; have KA42 := As_ hA42; clear hy42 hA42; replace q42 := eq_true q42; have q43 : (t213 : Int) ≤ ((l0.length : Int) : Int) := of_decide_eq_true ap5_; obtain ⟨i043, hi043, _, hsz43, _⟩ := info_parts info55; have hroom43 : l0.length ≤ c0 := HC0.out; have hC43 : Kd.C k55 _ (some ad231) l0.length l0 := HR0.out; have hcut43 := cut_to (P := Tryz.prog) 27 55 .i64 Tryz.underlying27 hi043 (some ad231) l0.length c0 t213 (of_decide_eq_true ap5_) q43 hroom43; have hr43 := Kd.C_take (m := (t213 : Int).toNat) hC43 (by omega); have hy43 : y253.length = (t213 : Int).toNat := (by rw [Ny253.out, List.length_take]; omega); rw [← Ny253.out] at hr43; rw [← hy43] at hcut43; have HR256 := As_ hr43; have HC256 := As_ (show y253.length ≤ c0 from by omega); clear hr43 hC43 hroom43 hi043 hsz43; have KY43 := As_ hy43; clear hy43; replace q43 := eq_true q43) | ((with_reducible refine gate_builtin (b := .append) (xs := #[.tmp 37, .tmp 40]) rfl ?_); at_builtin; refine Kd.R_append_rows k55 (w0 := w) w.heap.size rfl (.tmp 37) (.tmp 40) 27 55 (.agg #[(.string ⟨#[]⟩), (.string ⟨#[]⟩)]) 32 rfl Tryz.underlying27 info55 rfl (by decide) (by omega) (.slice none 0 0) ([] : List (S55)) y253 _ _ _ (fun _ => True) (fun _ => False) rfl rfl ?aO ?aR (fun _ _ h => h) (fun _ h => h.elim) ?aF ?aB ?aS ?aL ?_; (case aR => repeat (first | exact HR256.out | (with_reducible refine Kd.C_alloc ?_ _) | (with_reducible refine Kd.C_drewN ?_ _) | (with_reducible refine Kd.C_drew ?_))); (case aB => exact ap28_); (case aF => exact (fun _ _ => trivial)); (case aO => exact ((Kd.R_nil _ _ _ _ (fun _ => True)))); (case aS => exact (below_size ap28_)); (case aL => have := LMc38.out; omega); intro v258 w44 ho hb hg hat; rw [← Ny257.out] at ho; replace HB := As_ (hb); have HO259 := As_ (ho); clear ho hb hg hat) | ((with_reducible refine gate_builtin (b := .append) (xs := #[.tmp 42, .tmp 46]) rfl ?_); at_builtin; refine Kd.R_append k55 (w0 := w) w.heap.size rfl (.tmp 42) (.tmp 46) 27 55 (.agg #[(.string ⟨#[]⟩), (.string ⟨#[]⟩)]) 32 rfl Tryz.underlying27 info55 rfl (by decide) (by omega) v258 y257 (⟨a1, a2⟩ : S55) [.string a1, .string a2] (fun _ => True) (fun _ => False) rfl rfl ?aP (fun _ hk => hk.elim) ?aF ?aO ?aB ?aS ?aL ?_; (case aP => exact k55_mkM _ _ _ (⟨a1, a2⟩ : S55)); (case aB => exact ap28_); (case aF => exact (fun _ _ => trivial)); (case aO => exact (by (with_reducible repeat (first | apply Kd.R_alloc | apply Kd.R_drewN | apply Kd.R_drew)); exact HO259.out)); (case aS => exact (below_size ap28_)); (case aL => have := LMc39.out; omega); intro v261 w45 ho hb hg hat; rw [← Ny260.out] at ho; have n0_ := As_ (hb); have n1_ := As_ (ho); clear HB; clear HO259; have HB := n0_; have HO262 := n1_; clear n0_ n1_; clear ho hb hg hat) | ((with_reducible refine gate_builtin (b := .append) (xs := #[.tmp 48, .tmp 49]) rfl ?_); at_builtin; refine Kd.R_append_rows k55 (w0 := w) w.heap.size rfl (.tmp 48) (.tmp 49) 27 55 (.agg #[(.string ⟨#[]⟩), (.string ⟨#[]⟩)]) 32 rfl Tryz.underlying27 info55 rfl (by decide) (by omega) v261 y260 y249 _ _ _ (fun _ => True) (fun _ => False) rfl rfl ?aO ?aR (fun _ _ h => h) (fun _ h => h.elim) ?aF ?aB ?aS ?aL ?_; (case aR => repeat (first | exact (Kd.C_below HR252.out HB.out) | (with_reducible refine Kd.C_alloc ?_ _) | (with_reducible refine Kd.C_drewN ?_ _) | (with_reducible refine Kd.C_drew ?_))); (case aB => exact ap28_); (case aF => exact (fun _ _ => trivial)); (case aO => exact (by (with_reducible repeat (first | apply Kd.R_alloc | apply Kd.R_drewN | apply Kd.R_drew)); exact HO262.out)); (case aS => exact (below_size ap28_)); (case aL => have := LMc40.out; omega); intro v264 w46 ho hb hg hat; rw [← Ny263.out] at ho; have n0_ := As_ (hb); have n1_ := As_ (ho); clear HB; clear HO262; have HB := n0_; have HO265 := n1_; clear n0_ n1_; clear ho hb hg hat))
           go_ret2
           exact ⟨_, by first | rfl | (simp [errW_none, errW_some] <;> rfl) | (simp only [← hji33]; first | rfl | (simp [errW_none, errW_some] <;> rfl)) | (simp [*, errW_none, errW_some] <;> rfl), by (with_reducible repeat (first | apply Kd.R_alloc | apply Kd.R_drewN | apply Kd.R_drew)); exact HO265.out, ap28_⟩
          ·rw [if_neg c40] at H
           exact absurd H (by simp)
         ·rw [if_neg c39] at H
          exact absurd H (by simp)
        ·rw [if_neg c38] at H
         exact absurd H (by simp)
       ·rw [if_neg c35] at H
        exact absurd H (by simp)
      ·rw [if_neg c34] at H
       exact absurd H (by simp)
    ·rw [if_neg c21] at H
     exact absurd H (by simp)
   ·rw [if_neg c19] at H
    exact absurd H (by simp)
  ·rw [if_neg c18] at H
   exact absurd H (by simp)
def footbridgeref14_Put.f (k : Nat) (l0 : List (S55)) (a1 : ByteArray) (a2 : ByteArray) : Option ((List (S55))) := (footbridgeref09_Set.f k l0 a1 a2).bind fun bt266 => (some bt266.1)
theorem footbridgeref14_Put.mono : ∀ a0 a1 a2 k, LeO (footbridgeref14_Put.f k a0 a1 a2) (footbridgeref14_Put.f (k + 1) a0 a1 a2) := by
 intro a0 a1 a2 k
 unfold footbridgeref14_Put.f
 repeat' first
   | (with_reducible exact footbridgeref09_Set.mono _ _ _ _)
   | (with_reducible exact LeO.refl _)
   | (with_reducible exact LeO.none _)
   | (with_reducible refine LeO.ite ?_ ?_)
   | (with_reducible refine LeO.bind ?_ (fun _ => ?_))
   | exact footbridgeref09_Set.mono _ _ _ _
   | exact LeO.none _
   | refine LeO.ite ?_ ?_
   | refine LeO.bind ?_ (fun _ => ?_)
theorem footbridgeref14_Put.calls (k : Nat) (A0 : Option Addr) (c0 : Nat) (l0 : List (S55)) (a1 : ByteArray) (a2 : ByteArray) (r : List (S55)) (w : World) (hr0 : Kd.C k55 w A0 l0.length l0) (hc0 : l0.length ≤ c0) (h : footbridgeref14_Put.f k l0 a1 a2 = some r) :
  Calls Tryz.prog 52 #[.slice A0 l0.length c0, .string a1, .string a2] w fun e w' => ∃ v0_ : Value, e = .returned (v0_) ∧ Kd.R k55 55 w' w.heap.size (fun _ => True) v0_ r ∧ Below w.heap.size w w' := by
 have HR0 := As_ hr0
 have HC0 := As_ hc0
 clear hr0 hc0
 have HB := As_ (Below.refl w.heap.size w)
 have H : ((footbridgeref09_Set.f k l0 a1 a2).bind fun bt266 => (some bt266.1)) = some r := h
 clear h
 replace H := Option.bind_eq_some_iff.mp H
 obtain ⟨⟨t266, t267⟩, A40, H⟩ := H
 try dsimp only at H
 have A4 := As_ A40
 clear A40
 obtain rfl := Option.some.inj H
 go_enter Tryz.func52, Tryz.ntmps52
 go_wp2_with (first | ((with_reducible refine gate_callee (f := 69) rfl ?_); refine gk_ (some 13) Tryz.func69 #[.slice A0 l0.length c0, .string a1, .string a2] ?_; (with_reducible refine (footbridgeref09_Set.calls k _ _ l0 a1 a2 t266 t267 _ ?side1 ?side2 A4.out).mono ?_); (case side1 => repeat (first | exact HR0.out | (with_reducible refine Kd.C_alloc ?_ _) | (with_reducible refine Kd.C_drewN ?_ _) | (with_reducible refine Kd.C_drew ?_))); (case side2 => exact HC0.out); rintro e w5 ⟨v268, rfl, ho0, hb⟩; refine ⟨_, rfl, ?_⟩; have HO269 := As_ (Kd.R_lower ho0 (below_size ap28_)); replace HB := As_ (below_step ap28_ hb); (try clear hb); (try clear hb2); (try clear hk); (try clear hi); (try clear ho0)))
 go_ret
 exact ⟨_, ap14_, by (with_reducible repeat (first | apply Kd.R_alloc | apply Kd.R_drewN | apply Kd.R_drew)); exact HO269.out, ap28_⟩
mutual
def footbridgeref01_Num.j0 : Nat → Int → Bool → Option (ByteArray × Int)
 | 0, _, _ => none
 | k + 1, x0, x10 => if x10 = true then (some ((⟨#[]⟩ : ByteArray), 3)) else (footbridgeref01_Num.l0 k x0 (⟨#[]⟩ : ByteArray))
def footbridgeref01_Num.l0 : Nat → Int → ByteArray → Option (ByteArray × Int)
 | 0, _, _ => none
 | k + 1, x0, x4 => if x0 > 0 then ((some (([(Int.tmod x0 256) % 256] : List Int) : List Int)).bind fun y270 => (if (strOfNums y270).size + x4.size ≤ 9223372036854775807 then (footbridgeref01_Num.l0 k (wrap64 (Int.tdiv x0 256)) ((strOfNums y270) ++ x4)) else (none))) else ((some (([((x4.size : Int)) % 256] : List Int) : List Int)).bind fun y273 => (if (strOfNums y273).size + x4.size ≤ 9223372036854775807 then (some ((strOfNums y273) ++ x4, 0)) else (none)))
end
def footbridgeref01_Num.f (k : Nat) (a0 : Int) : Option (ByteArray × Int) := if a0 < 0 then (footbridgeref01_Num.j0 k a0 true) else (footbridgeref01_Num.j0 k a0 (decide (a0 > 9007199254740992)))
theorem footbridgeref01_Num.mono_l : ∀ k, (∀ y0 y1, LeO (footbridgeref01_Num.j0 k y0 y1) (footbridgeref01_Num.j0 (k + 1) y0 y1)) ∧ (∀ y0 y1, LeO (footbridgeref01_Num.l0 k y0 y1) (footbridgeref01_Num.l0 (k + 1) y0 y1))
 | 0 => ⟨fun _ _ r h => by simp [footbridgeref01_Num.j0] at h, fun _ _ r h => by simp [footbridgeref01_Num.l0] at h⟩
 | k + 1 => by
  obtain ⟨ih0, ih1⟩ := footbridgeref01_Num.mono_l k
  refine ⟨?_, ?_⟩
  ·intro y0 y1
   unfold footbridgeref01_Num.j0
   repeat' first
   | (with_reducible exact ih0 _ _)
   | (with_reducible exact ih1 _ _)
   | (with_reducible exact LeO.refl _)
   | (with_reducible exact LeO.none _)
   | (with_reducible refine LeO.ite ?_ ?_)
   | (with_reducible refine LeO.bind ?_ (fun _ => ?_))
   | exact ih0 _ _
   | exact ih1 _ _
   | exact LeO.none _
   | refine LeO.ite ?_ ?_
   | refine LeO.bind ?_ (fun _ => ?_)
  ·intro y0 y1
   unfold footbridgeref01_Num.l0
   repeat' first
   | (with_reducible exact ih0 _ _)
   | (with_reducible exact ih1 _ _)
   | (with_reducible exact LeO.refl _)
   | (with_reducible exact LeO.none _)
   | (with_reducible refine LeO.ite ?_ ?_)
   | (with_reducible refine LeO.bind ?_ (fun _ => ?_))
   | exact ih0 _ _
   | exact ih1 _ _
   | exact LeO.none _
   | refine LeO.ite ?_ ?_
   | refine LeO.bind ?_ (fun _ => ?_)
theorem footbridgeref01_Num.mono : ∀ a0 k, LeO (footbridgeref01_Num.f k a0) (footbridgeref01_Num.f (k + 1) a0) := by
 intro a0 k
 obtain ⟨ih0, ih1⟩ := footbridgeref01_Num.mono_l k
 unfold footbridgeref01_Num.f
 repeat' first
   | (with_reducible exact ih0 _ _)
   | (with_reducible exact ih1 _ _)
   | (with_reducible exact LeO.refl _)
   | (with_reducible exact LeO.none _)
   | (with_reducible refine LeO.ite ?_ ?_)
   | (with_reducible refine LeO.bind ?_ (fun _ => ?_))
   | exact ih0 _ _
   | exact ih1 _ _
   | exact LeO.none _
   | refine LeO.ite ?_ ?_
   | refine LeO.bind ?_ (fun _ => ?_)
theorem footbridgeref01_Num.calls (k : Nat) (a0 : Int) (r1 : ByteArray) (r2 : Int) (w : World) (h : footbridgeref01_Num.f k a0 = some (r1, r2)) :
  Calls Tryz.prog 70 #[.int .i64 a0] w fun e w' => e = .returned (.tuple #[.string r1, .int .i64 r2]) ∧ Below w.heap.size w w' := by
 have HB := As_ (Below.refl w.heap.size w)
 have H : (if a0 < 0 then (footbridgeref01_Num.j0 k a0 true) else (footbridgeref01_Num.j0 k a0 (decide (a0 > 9007199254740992)))) = some (r1, r2) := h
 clear h
 have HC2 := As_ H
 clear H
 go_enter Tryz.func70, Tryz.ntmps70
 go_upto_region 1 with (fail)
 go_cut [10] (fun v10 wc => ∃ (kq : Nat) (x10_1 : Bool), v10 = .bool x10_1 ∧ Aside0 (footbridgeref01_Num.j0 kq a0 x10_1 = some (r1, r2)) ∧ Aside0 (kq ≤ k) ∧ Aside0 (Below w.heap.size w wc))
 case first =>
  have H := HC2.out
  clear HC2
  by_cases c3 : a0 < 0
  ·rw [if_pos c3] at H
   have c3b0 : decide (a0 < 0) = true := decide_eq_true c3
   clear c3
   (first | rw [c3b0] | (simp only [i64_w, i32_w]; rw [c3b0]) | skip)
   have H' := As_ H
   clear H
   go_wp2
   go_meet
   case rel => exact ⟨_, (true), ap4_, H', ⟨ap1_⟩, ⟨ap28_⟩⟩
  ·rw [if_neg c3] at H
   have c3b0 : decide (a0 < 0) = false := decide_eq_false c3
   clear c3
   (first | rw [c3b0] | (simp only [i64_w, i32_w]; rw [c3b0]) | skip)
   have H' := As_ H
   clear H
   go_wp2
   go_meet
   case rel => exact ⟨_, (decide (a0 > 9007199254740992)), ap4_, H', ⟨ap1_⟩, ⟨ap28_⟩⟩
 case rest =>
  clear HC2
  obtain ⟨kq, x10_1, rfl, HA, HJ1, HB⟩ := hcut
  cases kq with
  | zero => exact absurd HA.out (by simp [footbridgeref01_Num.j0])
  | succ kj1 =>
   have H := HA.out
   clear HA
   simp only [footbridgeref01_Num.j0] at H
   by_cases c4 : x10_1 = true
   ·subst c4
    have H1 : (some ((⟨#[]⟩ : ByteArray), 3)) = some (r1, r2) := by rw [if_pos rfl] at H; exact H
    clear H
    have H := H1
    clear H1
    simp only [Option.some.injEq, Prod.mk.injEq] at H
    obtain ⟨rfl, rfl⟩ := H
    go_wp2
    go_ret2
    exact ⟨ap14_, ap28_⟩
   ·replace c4 := Bool.eq_false_iff.mpr c4
    subst c4
    have H1 : (footbridgeref01_Num.l0 kj1 a0 (⟨#[]⟩ : ByteArray)) = some (r1, r2) := by rw [if_neg (show ¬ (false = true) by decide)] at H; exact H
    clear H
    have H := H1
    clear H1
    have H' := As_ H
    clear H
    go_wp2
    go_loopg [0, 4] kj1 (fun kq v0 v4 w' => ∃ (x0_2 : Int) (x4_2 : ByteArray), v0 = .int .i64 x0_2 ∧ v4 = .string x4_2 ∧ Aside0 (footbridgeref01_Num.l0 kq x0_2 x4_2 = some (r1, r2)) ∧ Aside0 (kq ≤ kj1) ∧ Aside0 (Below w.heap.size w w'))
    case atStart => exact ⟨(a0), ((⟨#[]⟩ : ByteArray)), ap4_, ap4_, H', ⟨Nat.le_refl _⟩, ⟨ap28_⟩⟩
    case round =>
     clear H'
     try clear c4
     obtain ⟨x0_2, x4_2, rfl, rfl, HA, HK2, HB⟩ := hrel
     cases gk with
     | zero => exact absurd HA.out (by simp [footbridgeref01_Num.l0])
     | succ k2 =>
      have H := HA.out
      clear HA
      simp only [footbridgeref01_Num.l0] at H
      by_cases c5 : x0_2 > 0
      ·rw [if_pos c5] at H
       have c5b0 : decide (0 < x0_2) = true := decide_eq_true c5
       clear c5
       obtain ⟨y270, hy270⟩ : ∃ y_ : List Int, y_ = (([(Int.tmod x0_2 256) % 256] : List Int)) := ⟨_, rfl⟩
       replace H : (if (strOfNums y270).size + x4_2.size ≤ 9223372036854775807 then (footbridgeref01_Num.l0 k2 (wrap64 (Int.tdiv x0_2 256)) ((strOfNums y270) ++ x4_2)) else (none)) = some (r1, r2) := by first | (rw [hy270]; with_reducible exact H) | (have H2_ := (Option.bind_some _ _).symm.trans H; rw [hy270]; with_reducible exact H2_) | (have H2_ := (Option.bind_some _ _).symm.trans H; with_reducible exact H2_) | with_reducible exact H | (rw [hy270]; exact H) | exact H
       have Ny270 := As_ hy270
       clear hy270
       by_cases c6 : (strOfNums y270).size + x4_2.size ≤ 9223372036854775807
       ·rw [if_pos c6] at H
        have c6b0 := eq_true c6
        have c6b1 : decide ((strOfNums y270).size + x4_2.size ≤ 9223372036854775807) = true := decide_eq_true c6
        try have c6b2 : (9223372036854775807 < (strOfNums y270).size + x4_2.size) = False := eq_false (Nat.not_lt.2 c6)
        have H' := As_ H
        clear H
        go_wp2_with (first | ((with_reducible refine gate_dst (N := 16) rfl ?_); refine Kd.R_lit (Kd.int .u8) _ 5 ?hg (N := 16) ?hd (xs := ([(Int.tmod x0_2 256) % 256] : List Int)) (inner := [.int .u8 ((Int.tmod x0_2 256) % 256)]) (ok := fun _ => True) (okp := fun _ => True) ?hr ?hp (fun _ hk => hk) trivial (Below.refl _ _) (Nat.le_refl _) (by simp) ?_; (case hd => rfl); (case hg => rfl); (case hr => first | (go_simp; done) | (go_simp; rfl)); (case hp => exact (Reps.one (show Kd.M (Kd.int .u8) _ _ _ ((Int.tmod x0_2 256) % 256) [.int .u8 ((Int.tmod x0_2 256) % 256)] from rfl) (Reps.none _ _))); intro v271 w7 ho8 hb hg_ hnew_; clear hg_ hnew_; (first | rw [← Ny270.out] at ho8 | (simp only [Int.reduceToNat] at ho8; rw [← Ny270.out] at ho8)); have HO272 := As_ (Kd.R_lower ho8 (below_size ap28_)); replace HB := As_ (below_step ap28_ hb); clear hb ho8; have hcv9 := own_string (P := Tryz.prog) Tryz.underlying108 Tryz.underlying5 Tryz.underlying9 (Kd.own_of_R HO272.out)))
        go_roundg k2
        case measure => have := HJ1.out; have := HK2.out; omega
        case rel => exact ⟨(wrap64 (Int.tdiv x0_2 256)), ((strOfNums y270) ++ x4_2), ap4_, ap4_, H', ⟨by have := HJ1.out; have := HK2.out; omega⟩, ⟨ap28_⟩⟩
       ·rw [if_neg c6] at H
        exact absurd H (by simp)
      ·rw [if_neg c5] at H
       have c5b0 : decide (0 < x0_2) = false := decide_eq_false c5
       clear c5
       obtain ⟨y273, hy273⟩ : ∃ y_ : List Int, y_ = (([((x4_2.size : Int)) % 256] : List Int)) := ⟨_, rfl⟩
       replace H : (if (strOfNums y273).size + x4_2.size ≤ 9223372036854775807 then (some ((strOfNums y273) ++ x4_2, 0)) else (none)) = some (r1, r2) := by first | (rw [hy273]; with_reducible exact H) | (have H2_ := (Option.bind_some _ _).symm.trans H; rw [hy273]; with_reducible exact H2_) | (have H2_ := (Option.bind_some _ _).symm.trans H; with_reducible exact H2_) | with_reducible exact H | (rw [hy273]; exact H) | exact H
       have Ny273 := As_ hy273
       clear hy273
       by_cases c10 : (strOfNums y273).size + x4_2.size ≤ 9223372036854775807
       ·rw [if_pos c10] at H
        have c10b0 := eq_true c10
        have c10b1 : decide ((strOfNums y273).size + x4_2.size ≤ 9223372036854775807) = true := decide_eq_true c10
        try have c10b2 : (9223372036854775807 < (strOfNums y273).size + x4_2.size) = False := eq_false (Nat.not_lt.2 c10)
        simp only [Option.some.injEq, Prod.mk.injEq] at H
        obtain ⟨rfl, rfl⟩ := H
        go_wp2_with (first | ((with_reducible refine gate_dst (N := 25) rfl ?_); refine Kd.R_lit (Kd.int .u8) _ 5 ?hg (N := 25) ?hd (xs := ([((x4_2.size : Int)) % 256] : List Int)) (inner := [.int .u8 (((x4_2.size : Int)) % 256)]) (ok := fun _ => True) (okp := fun _ => True) ?hr ?hp (fun _ hk => hk) trivial (Below.refl _ _) (Nat.le_refl _) (by simp) ?_; (case hd => rfl); (case hg => rfl); (case hr => first | (go_simp; done) | (go_simp; rfl)); (case hp => exact (Reps.one (show Kd.M (Kd.int .u8) _ _ _ (((x4_2.size : Int)) % 256) [.int .u8 (((x4_2.size : Int)) % 256)] from rfl) (Reps.none _ _))); intro v274 w11 ho12 hb hg_ hnew_; clear hg_ hnew_; (first | rw [← Ny273.out] at ho12 | (simp only [Int.reduceToNat] at ho12; rw [← Ny273.out] at ho12)); have HO275 := As_ (Kd.R_lower ho12 (below_size ap28_)); replace HB := As_ (below_step ap28_ hb); clear hb ho12; have hcv13 := own_string (P := Tryz.prog) Tryz.underlying108 Tryz.underlying5 Tryz.underlying9 (Kd.own_of_R HO275.out)))
        go_ret2
        exact ⟨ap14_, ap28_⟩
       ·rw [if_neg c10] at H
        exact absurd H (by simp)
def footbridgeref14_Num.f (k : Nat) (a0 : Int) : Option (ByteArray) := (footbridgeref01_Num.f k a0).bind fun bt276 => (some bt276.1)
theorem footbridgeref14_Num.mono : ∀ a0 k, LeO (footbridgeref14_Num.f k a0) (footbridgeref14_Num.f (k + 1) a0) := by
 intro a0 k
 unfold footbridgeref14_Num.f
 repeat' first
   | (with_reducible exact footbridgeref01_Num.mono _ _)
   | (with_reducible exact LeO.refl _)
   | (with_reducible exact LeO.none _)
   | (with_reducible refine LeO.ite ?_ ?_)
   | (with_reducible refine LeO.bind ?_ (fun _ => ?_))
   | exact footbridgeref01_Num.mono _ _
   | exact LeO.none _
   | refine LeO.ite ?_ ?_
   | refine LeO.bind ?_ (fun _ => ?_)
theorem footbridgeref14_Num.calls (k : Nat) (a0 : Int) (r : ByteArray) (w : World) (h : footbridgeref14_Num.f k a0 = some r) :
  Calls Tryz.prog 53 #[.int .i64 a0] w fun e w' => e = .returned (.string r) ∧ Below w.heap.size w w' := by
 have HB := As_ (Below.refl w.heap.size w)
 have H : ((footbridgeref01_Num.f k a0).bind fun bt276 => (some bt276.1)) = some r := h
 clear h
 replace H := Option.bind_eq_some_iff.mp H
 obtain ⟨⟨t276, t277⟩, A20, H⟩ := H
 try dsimp only at H
 have A2 := As_ A20
 clear A20
 obtain rfl := Option.some.inj H
 go_enter Tryz.func53, Tryz.ntmps53
 go_wp2_with (first | ((with_reducible refine gate_callee (f := 70) rfl ?_); refine gk_ (some 7) Tryz.func70 #[.int .i64 a0] ?_; (with_reducible refine (footbridgeref01_Num.calls k a0 t276 t277 _ A2.out).mono ?_); rintro e w3 ⟨rfl, hb⟩; refine ⟨_, rfl, ?_⟩; replace HB := As_ (below_step ap28_ hb); (try clear hb); (try clear hb2); (try clear hk); (try clear hi)))
 go_ret
 exact ⟨ap14_, ap28_⟩
def footbridgeref49_put.f (k : Nat) (l0 : List (S55)) (a1 : ByteArray) (a2 : ByteArray) (a3 : Int) (a4 : Int) : Option ((List (S55))) := (footbridgeref14_Key.f k (([a1, a2] : List ByteArray))).bind fun t281 => ((footbridgeref14_Num.f k a3).bind fun t282 => ((footbridgeref14_Num.f k a4).bind fun t283 => (if t282.size + t283.size ≤ 9223372036854775807 then ((footbridgeref14_Put.f k l0 t281 (t282 ++ t283)).bind fun t284 => (some t284)) else (none))))
theorem footbridgeref49_put.mono : ∀ a0 a1 a2 a3 a4 k, LeO (footbridgeref49_put.f k a0 a1 a2 a3 a4) (footbridgeref49_put.f (k + 1) a0 a1 a2 a3 a4) := by
 intro a0 a1 a2 a3 a4 k
 unfold footbridgeref49_put.f
 repeat' first
   | (with_reducible exact footbridgeref14_Key.mono _ _)
   | (with_reducible exact footbridgeref14_Num.mono _ _)
   | (with_reducible exact footbridgeref14_Put.mono _ _ _ _)
   | (with_reducible exact LeO.refl _)
   | (with_reducible exact LeO.none _)
   | (with_reducible refine LeO.ite ?_ ?_)
   | (with_reducible refine LeO.bind ?_ (fun _ => ?_))
   | exact footbridgeref14_Key.mono _ _
   | exact footbridgeref14_Num.mono _ _
   | exact footbridgeref14_Put.mono _ _ _ _
   | exact LeO.none _
   | refine LeO.ite ?_ ?_
   | refine LeO.bind ?_ (fun _ => ?_)
theorem footbridgeref49_put.calls (k : Nat) (A0 : Option Addr) (c0 : Nat) (l0 : List (S55)) (a1 : ByteArray) (a2 : ByteArray) (a3 : Int) (a4 : Int) (r : List (S55)) (w : World) (hr0 : Kd.C k55 w A0 l0.length l0) (hc0 : l0.length ≤ c0) (h : footbridgeref49_put.f k l0 a1 a2 a3 a4 = some r) :
  Calls Tryz.prog 29 #[.slice A0 l0.length c0, .string a1, .string a2, .int .i64 a3, .int .i64 a4] w fun e w' => ∃ v0_ : Value, e = .returned (v0_) ∧ Kd.R k55 55 w' w.heap.size (fun _ => True) v0_ r ∧ Below w.heap.size w w' := by
 have HR0 := As_ hr0
 have HC0 := As_ hc0
 clear hr0 hc0
 have HB := As_ (Below.refl w.heap.size w)
 have H : ((footbridgeref14_Key.f k (([a1, a2] : List ByteArray))).bind fun t281 => ((footbridgeref14_Num.f k a3).bind fun t282 => ((footbridgeref14_Num.f k a4).bind fun t283 => (if t282.size + t283.size ≤ 9223372036854775807 then ((footbridgeref14_Put.f k l0 t281 (t282 ++ t283)).bind fun t284 => (some t284)) else (none))))) = some r := h
 clear h
 obtain ⟨y278, hy278⟩ : ∃ y_ : List ByteArray, y_ = (([a1, a2] : List ByteArray)) := ⟨_, rfl⟩
 replace H : ((footbridgeref14_Key.f k y278).bind fun t281 => ((footbridgeref14_Num.f k a3).bind fun t282 => ((footbridgeref14_Num.f k a4).bind fun t283 => (if t282.size + t283.size ≤ 9223372036854775807 then ((footbridgeref14_Put.f k l0 t281 (t282 ++ t283)).bind fun t284 => (some t284)) else (none))))) = some r := by first | (rw [hy278]; with_reducible exact H) | (have H2_ := (Option.bind_some _ _).symm.trans H; rw [hy278]; with_reducible exact H2_) | (have H2_ := (Option.bind_some _ _).symm.trans H; with_reducible exact H2_) | with_reducible exact H | (rw [hy278]; exact H) | exact H
 have Ny278 := As_ hy278
 clear hy278
 replace H := Option.bind_eq_some_iff.mp H
 obtain ⟨t281, A60, H⟩ := H
 try dsimp only at H
 have A6 := As_ A60
 clear A60
 replace H := Option.bind_eq_some_iff.mp H
 obtain ⟨t282, A70, H⟩ := H
 try dsimp only at H
 have A7 := As_ A70
 clear A70
 replace H := Option.bind_eq_some_iff.mp H
 obtain ⟨t283, A80, H⟩ := H
 try dsimp only at H
 have A8 := As_ A80
 clear A80
 by_cases c9 : t282.size + t283.size ≤ 9223372036854775807
 ·rw [if_pos c9] at H
  have c9b0 := eq_true c9
  have c9b1 : decide (t282.size + t283.size ≤ 9223372036854775807) = true := decide_eq_true c9
  try have c9b2 : (9223372036854775807 < t282.size + t283.size) = False := eq_false (Nat.not_lt.2 c9)
  replace H := Option.bind_eq_some_iff.mp H
  obtain ⟨t284, A100, H⟩ := H
  try dsimp only at H
  have A10 := As_ A100
  clear A100
  obtain rfl := Option.some.inj H
  go_enter Tryz.func29, Tryz.ntmps29
  go_wp2_with (first | ((with_reducible refine gate_dst (N := 14) rfl ?_); refine Kd.R_lit Kd.string _ 9 ?hg (N := 14) ?hd (xs := ([a1, a2] : List ByteArray)) (inner := [.string a1, .string a2]) (ok := fun _ => True) (okp := fun _ => True) ?hr ?hp (fun _ hk => hk) trivial (Below.refl _ _) (Nat.le_refl _) (by simp) ?_; (case hd => rfl); (case hg => rfl); (case hr => first | (go_simp; done) | (go_simp; rfl)); (case hp => exact (Reps.one (show Kd.M Kd.string _ _ _ a1 [.string a1] from rfl) (Reps.one (show Kd.M Kd.string _ _ _ a2 [.string a2] from rfl) (Reps.none _ _)))); intro v279 w11 ho12 hb hg_ hnew_; clear hg_ hnew_; (first | rw [← Ny278.out] at ho12 | (simp only [Int.reduceToNat] at ho12; rw [← Ny278.out] at ho12)); have HO280 := As_ (Kd.R_lower ho12 (below_size ap28_)); replace HB := As_ (below_step ap28_ hb); clear hb ho12; obtain ⟨Ao13, co13, eo13⟩ := Kd.R_slice HO280.out; subst eo13) | ((with_reducible refine gate_callee (f := 30) rfl ?_); refine gk_ (some 15) Tryz.func30 #[.slice Ao13 y278.length co13] ?_; (with_reducible refine (footbridgeref14_Key.calls k _ _ y278 t281 _ ?side1 ?side2 A6.out).mono ?_); (case side1 => repeat (first | exact (Kd.R_reads' HO280.out).2.2 | (with_reducible refine Kd.C_alloc ?_ _) | (with_reducible refine Kd.C_drewN ?_ _) | (with_reducible refine Kd.C_drew ?_))); (case side2 => exact (Kd.R_reads' HO280.out).2.1); rintro e w14 ⟨rfl, hb⟩; refine ⟨_, rfl, ?_⟩; replace HO280 := As_ (Kd.R_below ap19_ hb); replace HB := As_ (below_step ap28_ hb); (try clear hb); (try clear hb2); (try clear hk); (try clear hi)) | ((with_reducible refine gate_callee (f := 53) rfl ?_); refine gk_ (some 17) Tryz.func53 #[.int .i64 a3] ?_; (with_reducible refine (footbridgeref14_Num.calls k a3 t282 _ A7.out).mono ?_); rintro e w15 ⟨rfl, hb⟩; refine ⟨_, rfl, ?_⟩; replace HO280 := As_ (Kd.R_below ap19_ hb); replace HB := As_ (below_step ap28_ hb); (try clear hb); (try clear hb2); (try clear hk); (try clear hi)) | ((with_reducible refine gate_callee (f := 53) rfl ?_); refine gk_ (some 19) Tryz.func53 #[.int .i64 a4] ?_; (with_reducible refine (footbridgeref14_Num.calls k a4 t283 _ A8.out).mono ?_); rintro e w16 ⟨rfl, hb⟩; refine ⟨_, rfl, ?_⟩; replace HO280 := As_ (Kd.R_below ap19_ hb); replace HB := As_ (below_step ap28_ hb); (try clear hb); (try clear hb2); (try clear hk); (try clear hi)) | ((with_reducible refine gate_callee (f := 52) rfl ?_); refine gk_ (some 21) Tryz.func52 #[.slice A0 l0.length c0, .string t281, .string (t282 ++ t283)] ?_; (with_reducible refine (footbridgeref14_Put.calls k _ _ l0 t281 (t282 ++ t283) t284 _ ?side1 ?side2 A10.out).mono ?_); (case side1 => repeat (first | exact (Kd.C_below HR0.out HB.out) | (with_reducible refine Kd.C_alloc ?_ _) | (with_reducible refine Kd.C_drewN ?_ _) | (with_reducible refine Kd.C_drew ?_))); (case side2 => exact HC0.out); rintro e w17 ⟨v285, rfl, ho0, hb⟩; refine ⟨_, rfl, ?_⟩; replace HO280 := As_ (Kd.R_below ap19_ hb); have HO286 := As_ (Kd.R_lower ho0 (below_size ap28_)); replace HB := As_ (below_step ap28_ hb); (try clear hb); (try clear hb2); (try clear hk); (try clear hi); (try clear ho0)))
  go_ret
  exact ⟨_, ap14_, by (with_reducible repeat (first | apply Kd.R_alloc | apply Kd.R_drewN | apply Kd.R_drew)); exact HO286.out, ap28_⟩
 ·rw [if_neg c9] at H
  exact absurd H (by simp)
def footbridgeref49_Set.j0 : Nat → List (S55) → ByteArray → Int → Int → Bool → Option ((List (S55)) × Int)
 | 0, _, _, _, _, _ => none
 | k + 1, x0, x1, x2, x3, x17 => if x17 = true then (some (x0, 3)) else ((footbridgeref49_put.f k x0 (⟨#[113, 117, 111, 116, 97]⟩ : ByteArray) x1 x2 x3).bind fun t288 => ((footbridgeref14_Key.f k (([(⟨#[115, 112, 101, 110, 116]⟩ : ByteArray), x1] : List ByteArray))).bind fun t294 => ((footbridgeref09_Del.f k t288 t294).bind fun bt295 => (some (bt295.1, 0)))))
def footbridgeref49_Set.f (k : Nat) (l0 : List (S55)) (a1 : ByteArray) (a2 : Int) (a3 : Int) : Option ((List (S55)) × Int) := (footbridgeref03_Check.f k 6 a1).bind fun t287 => (if t287 = 0 then (if a2 < 0 then (footbridgeref49_Set.j0 k l0 a1 a2 a3 true) else (if a2 > 1099511627776 then (footbridgeref49_Set.j0 k l0 a1 a2 a3 true) else (if a3 < 1 then (footbridgeref49_Set.j0 k l0 a1 a2 a3 true) else (footbridgeref49_Set.j0 k l0 a1 a2 a3 (decide (a3 > 1099511627776)))))) else (some (l0, 7)))
theorem footbridgeref49_Set.mono_l : ∀ k, (∀ y0 y1 y2 y3 y4, LeO (footbridgeref49_Set.j0 k y0 y1 y2 y3 y4) (footbridgeref49_Set.j0 (k + 1) y0 y1 y2 y3 y4))
 | 0 => fun _ _ _ _ _ r h => by simp [footbridgeref49_Set.j0] at h
 | k + 1 => by
  have ih0 := footbridgeref49_Set.mono_l k
  ·intro y0 y1 y2 y3 y4
   unfold footbridgeref49_Set.j0
   repeat' first
   | (with_reducible exact ih0 _ _ _ _ _)
   | (with_reducible exact footbridgeref03_Check.mono _ _ _)
   | (with_reducible exact footbridgeref09_Del.mono _ _ _)
   | (with_reducible exact footbridgeref14_Key.mono _ _)
   | (with_reducible exact footbridgeref49_put.mono _ _ _ _ _ _)
   | (with_reducible exact LeO.refl _)
   | (with_reducible exact LeO.none _)
   | (with_reducible refine LeO.ite ?_ ?_)
   | (with_reducible refine LeO.bind ?_ (fun _ => ?_))
   | exact ih0 _ _ _ _ _
   | exact footbridgeref03_Check.mono _ _ _
   | exact footbridgeref09_Del.mono _ _ _
   | exact footbridgeref14_Key.mono _ _
   | exact footbridgeref49_put.mono _ _ _ _ _ _
   | exact LeO.none _
   | refine LeO.ite ?_ ?_
   | refine LeO.bind ?_ (fun _ => ?_)
theorem footbridgeref49_Set.mono : ∀ a0 a1 a2 a3 k, LeO (footbridgeref49_Set.f k a0 a1 a2 a3) (footbridgeref49_Set.f (k + 1) a0 a1 a2 a3) := by
 intro a0 a1 a2 a3 k
 have ih0 := footbridgeref49_Set.mono_l k
 unfold footbridgeref49_Set.f
 repeat' first
   | (with_reducible exact ih0 _ _ _ _ _)
   | (with_reducible exact footbridgeref03_Check.mono _ _ _)
   | (with_reducible exact footbridgeref09_Del.mono _ _ _)
   | (with_reducible exact footbridgeref14_Key.mono _ _)
   | (with_reducible exact footbridgeref49_put.mono _ _ _ _ _ _)
   | (with_reducible exact LeO.refl _)
   | (with_reducible exact LeO.none _)
   | (with_reducible refine LeO.ite ?_ ?_)
   | (with_reducible refine LeO.bind ?_ (fun _ => ?_))
   | exact ih0 _ _ _ _ _
   | exact footbridgeref03_Check.mono _ _ _
   | exact footbridgeref09_Del.mono _ _ _
   | exact footbridgeref14_Key.mono _ _
   | exact footbridgeref49_put.mono _ _ _ _ _ _
   | exact LeO.none _
   | refine LeO.ite ?_ ?_
   | refine LeO.bind ?_ (fun _ => ?_)
theorem footbridgeref49_Set.calls (k : Nat) (P0_ : Nat → Prop) (A0 : Option Addr) (c0 : Nat) (l0 : List (S55)) (a1 : ByteArray) (a2 : Int) (a3 : Int) (r1 : List (S55)) (r2 : Int) (w : World) (hs0 : Kd.V k55 55 w w.heap.size (fun k_ => P0_ k_) (.slice A0 l0.length c0) l0) (h : footbridgeref49_Set.f k l0 a1 a2 a3 = some (r1, r2)) :
  Calls Tryz.prog 15 #[.slice A0 l0.length c0, .string a1, .int .i64 a2, .int .i64 a3] w fun e w' => ∃ v0_ : Value, e = .returned (.tuple #[v0_, .int .i64 r2]) ∧ Kd.V k55 55 w' w.heap.size (fun k_ => (P0_ k_ ∨ w.heap.size ≤ k_)) v0_ r1 ∧ Below w.heap.size w w' := by
 have HO0 := As_ (show Kd.V k55 55 w w.heap.size (fun k_ => (P0_ k_ ∨ w.heap.size ≤ k_)) (.slice A0 l0.length c0) l0 from Kd.V_mono hs0 (fun k_ hk => .inl hk))
 have HB := As_ (Below.refl w.heap.size w)
 have H : ((footbridgeref03_Check.f k 6 a1).bind fun t287 => (if t287 = 0 then (if a2 < 0 then (footbridgeref49_Set.j0 k l0 a1 a2 a3 true) else (if a2 > 1099511627776 then (footbridgeref49_Set.j0 k l0 a1 a2 a3 true) else (if a3 < 1 then (footbridgeref49_Set.j0 k l0 a1 a2 a3 true) else (footbridgeref49_Set.j0 k l0 a1 a2 a3 (decide (a3 > 1099511627776)))))) else (some (l0, 7)))) = some (r1, r2) := h
 clear h
 replace H := Option.bind_eq_some_iff.mp H
 obtain ⟨t287, A50, H⟩ := H
 try dsimp only at H
 have A5 := As_ A50
 clear A50
 by_cases c6 : t287 = 0
 ·rw [if_pos c6] at H
  have c6b0 : (t287 == 0) = true := beq_iff_eq.mpr c6
  have c6b1 : (t287 != 0) = false := bne_eq_false_iff_eq.mpr c6
  clear c6
  have HC7 := As_ H
  clear H
  go_enter Tryz.func15, Tryz.ntmps15
  go_upto_region 3 with (first | ((with_reducible refine gate_callee (f := 27) rfl ?_); refine gk_ (some 14) Tryz.func27 #[.int .i64 6, .string a1] ?_; (with_reducible refine (footbridgeref03_Check.calls k 6 a1 t287 _ A5.out).mono ?_); rintro e w8 ⟨rfl, hb⟩; refine ⟨_, rfl, ?_⟩; replace HO0 := As_ (Kd.V_below ap15_ hb); replace HB := As_ (below_step ap28_ hb); (try clear hb); (try clear hb2); (try clear hk); (try clear hi)))
  (try simp only [Act.put, List.setIfInBounds_toArray, List.set_cons_zero, List.set_cons_succ])
  go_cut [17] (fun v17 wc => ∃ (kq : Nat) (x17_6 : Bool), v17 = .bool x17_6 ∧ Aside0 (footbridgeref49_Set.j0 kq l0 a1 a2 a3 x17_6 = some (r1, r2)) ∧ Aside0 (kq ≤ k) ∧ Aside0 (Kd.V k55 55 wc w.heap.size (fun k_ => (P0_ k_ ∨ w.heap.size ≤ k_)) (.slice A0 l0.length c0) l0) ∧ Aside0 (Below w.heap.size w wc))
  case first =>
   have H := HC7.out
   clear HC7
   by_cases c9 : a2 < 0
   ·rw [if_pos c9] at H
    have c9b0 : decide (a2 < 0) = true := decide_eq_true c9
    clear c9
    (first | rw [c9b0] | (simp only [i64_w, i32_w]; rw [c9b0]) | skip)
    have H' := As_ H
    clear H
    go_wp2
    go_meet
    case rel => exact ⟨_, (true), ap4_, H', ⟨ap1_⟩, ⟨ap15_⟩, ⟨ap28_⟩⟩
   ·rw [if_neg c9] at H
    have c9b0 : decide (a2 < 0) = false := decide_eq_false c9
    clear c9
    (first | rw [c9b0] | (simp only [i64_w, i32_w]; rw [c9b0]) | skip)
    by_cases c10 : a2 > 1099511627776
    ·rw [if_pos c10] at H
     have c10b0 : decide (1099511627776 < a2) = true := decide_eq_true c10
     clear c10
     have H' := As_ H
     clear H
     go_wp2
     go_meet
     case rel => exact ⟨_, (true), ap4_, H', ⟨ap1_⟩, ⟨ap15_⟩, ⟨ap28_⟩⟩
    ·rw [if_neg c10] at H
     have c10b0 : decide (1099511627776 < a2) = false := decide_eq_false c10
     clear c10
     by_cases c11 : a3 < 1
     ·rw [if_pos c11] at H
      have c11b0 : decide (a3 < 1) = true := decide_eq_true c11
      clear c11
      have H' := As_ H
      clear H
      go_wp2
      go_meet
      case rel => exact ⟨_, (true), ap4_, H', ⟨ap1_⟩, ⟨ap15_⟩, ⟨ap28_⟩⟩
     ·rw [if_neg c11] at H
      have c11b0 : decide (a3 < 1) = false := decide_eq_false c11
      clear c11
      have H' := As_ H
      clear H
      go_wp2
      go_meet
      case rel => exact ⟨_, (decide (a3 > 1099511627776)), ap4_, H', ⟨ap1_⟩, ⟨ap15_⟩, ⟨ap28_⟩⟩
  case rest =>
   clear HC7
   try clear c6
   try clear c6b0
   try clear c6b1
   obtain ⟨kq, x17_6, rfl, HA, HJ6, HO_0, HB⟩ := hcut
   cases kq with
   | zero => exact absurd HA.out (by simp [footbridgeref49_Set.j0])
   | succ kj6 =>
    have H := HA.out
    clear HA
    simp only [footbridgeref49_Set.j0] at H
    by_cases c12 : x17_6 = true
    ·subst c12
     have H1 : (some (l0, 3)) = some (r1, r2) := by rw [if_pos rfl] at H; exact H
     clear H
     have H := H1
     clear H1
     simp only [Option.some.injEq, Prod.mk.injEq] at H
     obtain ⟨rfl, rfl⟩ := H
     go_wp2
     go_ret2
     exact ⟨_, ap14_, ap16_, ap28_⟩
    ·replace c12 := Bool.eq_false_iff.mpr c12
     subst c12
     have H1 : ((footbridgeref49_put.f kj6 l0 (⟨#[113, 117, 111, 116, 97]⟩ : ByteArray) a1 a2 a3).bind fun t288 => ((footbridgeref14_Key.f kj6 (([(⟨#[115, 112, 101, 110, 116]⟩ : ByteArray), a1] : List ByteArray))).bind fun t294 => ((footbridgeref09_Del.f kj6 t288 t294).bind fun bt295 => (some (bt295.1, 0))))) = some (r1, r2) := by rw [if_neg (show ¬ (false = true) by decide)] at H; exact H
     clear H
     have H := H1
     clear H1
     replace H := Option.bind_eq_some_iff.mp H
     obtain ⟨t288, A130, H⟩ := H
     try dsimp only at H
     have A13 := As_ A130
     clear A130
     obtain ⟨y291, hy291⟩ : ∃ y_ : List ByteArray, y_ = (([(⟨#[115, 112, 101, 110, 116]⟩ : ByteArray), a1] : List ByteArray)) := ⟨_, rfl⟩
     replace H : ((footbridgeref14_Key.f kj6 y291).bind fun t294 => ((footbridgeref09_Del.f kj6 t288 t294).bind fun bt295 => (some (bt295.1, 0)))) = some (r1, r2) := by first | (rw [hy291]; with_reducible exact H) | (have H2_ := (Option.bind_some _ _).symm.trans H; rw [hy291]; with_reducible exact H2_) | (have H2_ := (Option.bind_some _ _).symm.trans H; with_reducible exact H2_) | with_reducible exact H | (rw [hy291]; exact H) | exact H
     have Ny291 := As_ hy291
     clear hy291
     replace H := Option.bind_eq_some_iff.mp H
     obtain ⟨t294, A140, H⟩ := H
     try dsimp only at H
     have A14 := As_ A140
     clear A140
     replace H := Option.bind_eq_some_iff.mp H
     obtain ⟨⟨t295, t298⟩, A150, H⟩ := H
     try dsimp only at H
     have A15 := As_ A150
     clear A150
     simp only [Option.some.injEq, Prod.mk.injEq] at H
     obtain ⟨rfl, rfl⟩ := H
     go_wp2_with (first | ((with_reducible refine gate_callee (f := 29) rfl ?_); refine gk_ (some 38) Tryz.func29 #[.slice A0 l0.length c0, .string ⟨#[113, 117, 111, 116, 97]⟩, .string a1, .int .i64 a2, .int .i64 a3] ?_; (with_reducible refine (footbridgeref49_put.calls kj6 _ _ l0 (⟨#[113, 117, 111, 116, 97]⟩ : ByteArray) a1 a2 a3 t288 _ ?side1 ?side2 A13.out).mono ?_); (case side1 => repeat (first | exact (Kd.V_reads' HO_0.out).2.2 | (with_reducible refine Kd.C_alloc ?_ _) | (with_reducible refine Kd.C_drewN ?_ _) | (with_reducible refine Kd.C_drew ?_))); (case side2 => exact (Kd.V_reads' HO_0.out).2.1); rintro e w16 ⟨v289, rfl, ho0, hb⟩; refine ⟨_, rfl, ?_⟩; replace HO_0 := As_ (Kd.V_elder' ap16_ (Kd.R_base ho0) hb); have HO290 := As_ (Kd.R_lower (Kd.R_newM (M := fun k_ => (w.heap.size ≤ k_)) ho0 (below_size ap28_) (fun k_ h_ => h_)) (below_size ap28_)); replace HB := As_ (below_step ap28_ hb); (try clear hb); (try clear hb2); (try clear hk); (try clear hi); (try clear ho0)) | ((with_reducible refine gate_dst (N := 40) rfl ?_); refine Kd.R_lit Kd.string _ 9 ?hg (N := 40) ?hd (xs := ([(⟨#[115, 112, 101, 110, 116]⟩ : ByteArray), a1] : List ByteArray)) (inner := [.string ⟨#[115, 112, 101, 110, 116]⟩, .string a1]) (ok := fun _ => True) (okp := fun _ => True) ?hr ?hp (fun _ hk => hk) trivial (Below.refl _ _) (Nat.le_refl _) (by simp) ?_; (case hd => rfl); (case hg => rfl); (case hr => first | (go_simp; done) | (go_simp; rfl)); (case hp => exact (Reps.one (show Kd.M Kd.string _ _ _ (⟨#[115, 112, 101, 110, 116]⟩ : ByteArray) [.string ⟨#[115, 112, 101, 110, 116]⟩] from rfl) (Reps.one (show Kd.M Kd.string _ _ _ a1 [.string a1] from rfl) (Reps.none _ _)))); intro v292 w17 ho18 hb hg_ hnew_; clear hg_ hnew_; (first | rw [← Ny291.out] at ho18 | (simp only [Int.reduceToNat] at ho18; rw [← Ny291.out] at ho18)); replace HO_0 := As_ (Kd.V_elder' ap16_ (Kd.R_base ho18) hb); replace HO290 := As_ (Kd.R_below ap21_ hb); have HO293 := As_ (Kd.R_lower (Kd.R_newM (M := fun k_ => (w.heap.size ≤ k_)) ho18 (below_size ap28_) (fun k_ h_ => h_)) (below_size ap28_)); replace HB := As_ (below_step ap28_ hb); clear hb ho18; obtain ⟨Ao19, co19, eo19⟩ := Kd.R_slice HO293.out; subst eo19) | ((with_reducible refine gate_callee (f := 30) rfl ?_); refine gk_ (some 41) Tryz.func30 #[.slice Ao19 y291.length co19] ?_; (with_reducible refine (footbridgeref14_Key.calls kj6 _ _ y291 t294 _ ?side1 ?side2 A14.out).mono ?_); (case side1 => repeat (first | exact (Kd.R_reads' HO293.out).2.2 | (with_reducible refine Kd.C_alloc ?_ _) | (with_reducible refine Kd.C_drewN ?_ _) | (with_reducible refine Kd.C_drew ?_))); (case side2 => exact (Kd.R_reads' HO293.out).2.1); rintro e w20 ⟨rfl, hb⟩; refine ⟨_, rfl, ?_⟩; replace HO_0 := As_ (Kd.V_below ap16_ hb); replace HO290 := As_ (Kd.R_below ap21_ hb); replace HO293 := As_ (Kd.R_below ap20_ hb); replace HB := As_ (below_step ap28_ hb); (try clear hb); (try clear hb2); (try clear hk); (try clear hi); obtain ⟨Ao21, co21, eo21⟩ := Kd.R_slice HO290.out; subst eo21) | ((with_reducible refine gate_callee (f := 28) rfl ?_); refine gk_ (some 42) Tryz.func28 #[.slice Ao21 t288.length co21, .string t294] ?_; (with_reducible refine (footbridgeref09_Del.calls kj6 (fun k_ => some k_ = (.slice Ao21 t288.length co21 : Value).ownBlock) _ _ t288 t294 t295 t298 _ ?side1 A15.out).mono ?_); (case side1 => exact Kd.R_V (Kd.R_tight rfl (Kd.R_apart' (HO290.out) (Kd.R_typed HO293.out) (by decide)))); rintro e w22 ⟨v296, rfl, ho0, hb⟩; refine ⟨_, rfl, ?_⟩; replace HO_0 := As_ (Kd.V_below ap16_ hb); have HO297 := As_ (Kd.V_lower (Kd.V_mono (ok' := fun k_ => (P0_ k_ ∨ w.heap.size ≤ k_) ∧ some k_ ≠ (.slice Ao19 y291.length co19 : Value).ownBlock) ho0 (fun k_ hk_ => ⟨Or.elim hk_ (fun hs_ => (.inr (((Kd.R_apart' (HO290.out) (Kd.R_typed HO293.out) (by decide)).1 k_ hs_.symm).1.1))) (fun hn_ => (.inr (Nat.le_trans (below_size ap28_) hn_))), Or.elim hk_ (fun hs_ => ((Kd.R_apart' (HO290.out) (Kd.R_typed HO293.out) (by decide)).1 k_ hs_.symm).2) (fun hn_ => (Kd.fresh' (Kd.R_lt ap20_) k_ hn_))⟩)) (below_size ap28_)); replace HO290 := As_ (Kd.R_below ap21_ hb); replace HO293 := As_ (Kd.R_below ap20_ hb); replace HB := As_ (below_step ap28_ hb); (try clear hb); (try clear hb2); (try clear hk); (try clear hi); (try clear ho0)))
     go_ret2
     exact ⟨_, ap14_, by (with_reducible repeat (first | apply Kd.V_alloc | apply Kd.V_drewN | apply Kd.V_drew)); exact Kd.V_mono HO297.out (fun _ hk => hk.1), ap28_⟩
 ·rw [if_neg c6] at H
  have c6b0 : (t287 == 0) = false := beq_eq_false_iff_ne.mpr c6
  have c6b1 : (t287 != 0) = true := bne_iff_ne.mpr c6
  simp only [Option.some.injEq, Prod.mk.injEq] at H
  obtain ⟨rfl, rfl⟩ := H
  go_enter Tryz.func15, Tryz.ntmps15
  go_wp2_with (first | ((with_reducible refine gate_callee (f := 27) rfl ?_); refine gk_ (some 14) Tryz.func27 #[.int .i64 6, .string a1] ?_; (with_reducible refine (footbridgeref03_Check.calls k 6 a1 t287 _ A5.out).mono ?_); rintro e w23 ⟨rfl, hb⟩; refine ⟨_, rfl, ?_⟩; replace HO0 := As_ (Kd.V_below ap15_ hb); replace HB := As_ (below_step ap28_ hb); (try clear hb); (try clear hb2); (try clear hk); (try clear hi)))
  go_ret2
  exact ⟨_, ap14_, ap15_, ap28_⟩
mutual
def footbridgeref49_Spend.j0 : Nat → List (S55) → ByteArray → Int → Int → Int → Int → Bool → Option ((List (S55)) × Int)
 | 0, _, _, _, _, _, _, _ => none
 | k + 1, x0, x1, x2, x3, x10, x11, x40 => if x40 = true then (some (x0, 3)) else ((footbridgeref49_two.f k x0 (⟨#[115, 112, 101, 110, 116]⟩ : ByteArray) x1).bind fun bt302 => ((footbridgeref49_Left.f k x0 x1 x2).bind fun t305 => (if bt302.2.2 = true then (if x11 = 0 then (none) else (footbridgeref49_Spend.j1 k x0 x1 x2 x3 x10 x11 t305 (decide (bt302.1 > (wrap64 (Int.tdiv x2 x11)))))) else (footbridgeref49_Spend.j1 k x0 x1 x2 x3 x10 x11 t305 false))))
def footbridgeref49_Spend.j1 : Nat → List (S55) → ByteArray → Int → Int → Int → Int → Int → Bool → Option ((List (S55)) × Int)
 | 0, _, _, _, _, _, _, _, _ => none
 | k + 1, x0, x1, x2, x3, x10, x11, x16, x53 => if x53 = true then (some (x0, 14)) else (if x3 > x16 then (some (x0, 21)) else (if x11 = 0 then (none) else ((footbridgeref49_put.f k x0 (⟨#[115, 112, 101, 110, 116]⟩ : ByteArray) x1 (wrap64 (Int.tdiv x2 x11)) (wrap64 ((wrap64 (x10 - x16)) + x3))).bind fun t306 => (some (t306, 0)))))
end
def footbridgeref49_Spend.f (k : Nat) (l0 : List (S55)) (a1 : ByteArray) (a2 : Int) (a3 : Int) : Option ((List (S55)) × Int) := (footbridgeref49_two.f k l0 (⟨#[113, 117, 111, 116, 97]⟩ : ByteArray) a1).bind fun bt299 => (if bt299.2.2 = true then (if a2 < 0 then (footbridgeref49_Spend.j0 k l0 a1 a2 a3 bt299.1 bt299.2.1 true) else (if a2 > 1099511627776 then (footbridgeref49_Spend.j0 k l0 a1 a2 a3 bt299.1 bt299.2.1 true) else (if a3 < 1 then (footbridgeref49_Spend.j0 k l0 a1 a2 a3 bt299.1 bt299.2.1 true) else (footbridgeref49_Spend.j0 k l0 a1 a2 a3 bt299.1 bt299.2.1 (decide (a3 > 1099511627776)))))) else (some (l0, 8)))
theorem footbridgeref49_Spend.mono_l : ∀ k, (∀ y0 y1 y2 y3 y4 y5 y6, LeO (footbridgeref49_Spend.j0 k y0 y1 y2 y3 y4 y5 y6) (footbridgeref49_Spend.j0 (k + 1) y0 y1 y2 y3 y4 y5 y6)) ∧ (∀ y0 y1 y2 y3 y4 y5 y6 y7, LeO (footbridgeref49_Spend.j1 k y0 y1 y2 y3 y4 y5 y6 y7) (footbridgeref49_Spend.j1 (k + 1) y0 y1 y2 y3 y4 y5 y6 y7))
 | 0 => ⟨fun _ _ _ _ _ _ _ r h => by simp [footbridgeref49_Spend.j0] at h, fun _ _ _ _ _ _ _ _ r h => by simp [footbridgeref49_Spend.j1] at h⟩
 | k + 1 => by
  obtain ⟨ih0, ih1⟩ := footbridgeref49_Spend.mono_l k
  refine ⟨?_, ?_⟩
  ·intro y0 y1 y2 y3 y4 y5 y6
   unfold footbridgeref49_Spend.j0
   repeat' first
   | (with_reducible exact ih0 _ _ _ _ _ _ _)
   | (with_reducible exact ih1 _ _ _ _ _ _ _ _)
   | (with_reducible exact footbridgeref49_Left.mono _ _ _ _)
   | (with_reducible exact footbridgeref49_put.mono _ _ _ _ _ _)
   | (with_reducible exact footbridgeref49_two.mono _ _ _ _)
   | (with_reducible exact LeO.refl _)
   | (with_reducible exact LeO.none _)
   | (with_reducible refine LeO.ite ?_ ?_)
   | (with_reducible refine LeO.bind ?_ (fun _ => ?_))
   | exact ih0 _ _ _ _ _ _ _
   | exact ih1 _ _ _ _ _ _ _ _
   | exact footbridgeref49_Left.mono _ _ _ _
   | exact footbridgeref49_put.mono _ _ _ _ _ _
   | exact footbridgeref49_two.mono _ _ _ _
   | exact LeO.none _
   | refine LeO.ite ?_ ?_
   | refine LeO.bind ?_ (fun _ => ?_)
  ·intro y0 y1 y2 y3 y4 y5 y6 y7
   unfold footbridgeref49_Spend.j1
   repeat' first
   | (with_reducible exact ih0 _ _ _ _ _ _ _)
   | (with_reducible exact ih1 _ _ _ _ _ _ _ _)
   | (with_reducible exact footbridgeref49_Left.mono _ _ _ _)
   | (with_reducible exact footbridgeref49_put.mono _ _ _ _ _ _)
   | (with_reducible exact footbridgeref49_two.mono _ _ _ _)
   | (with_reducible exact LeO.refl _)
   | (with_reducible exact LeO.none _)
   | (with_reducible refine LeO.ite ?_ ?_)
   | (with_reducible refine LeO.bind ?_ (fun _ => ?_))
   | exact ih0 _ _ _ _ _ _ _
   | exact ih1 _ _ _ _ _ _ _ _
   | exact footbridgeref49_Left.mono _ _ _ _
   | exact footbridgeref49_put.mono _ _ _ _ _ _
   | exact footbridgeref49_two.mono _ _ _ _
   | exact LeO.none _
   | refine LeO.ite ?_ ?_
   | refine LeO.bind ?_ (fun _ => ?_)
theorem footbridgeref49_Spend.mono : ∀ a0 a1 a2 a3 k, LeO (footbridgeref49_Spend.f k a0 a1 a2 a3) (footbridgeref49_Spend.f (k + 1) a0 a1 a2 a3) := by
 intro a0 a1 a2 a3 k
 obtain ⟨ih0, ih1⟩ := footbridgeref49_Spend.mono_l k
 unfold footbridgeref49_Spend.f
 repeat' first
   | (with_reducible exact ih0 _ _ _ _ _ _ _)
   | (with_reducible exact ih1 _ _ _ _ _ _ _ _)
   | (with_reducible exact footbridgeref49_Left.mono _ _ _ _)
   | (with_reducible exact footbridgeref49_put.mono _ _ _ _ _ _)
   | (with_reducible exact footbridgeref49_two.mono _ _ _ _)
   | (with_reducible exact LeO.refl _)
   | (with_reducible exact LeO.none _)
   | (with_reducible refine LeO.ite ?_ ?_)
   | (with_reducible refine LeO.bind ?_ (fun _ => ?_))
   | exact ih0 _ _ _ _ _ _ _
   | exact ih1 _ _ _ _ _ _ _ _
   | exact footbridgeref49_Left.mono _ _ _ _
   | exact footbridgeref49_put.mono _ _ _ _ _ _
   | exact footbridgeref49_two.mono _ _ _ _
   | exact LeO.none _
   | refine LeO.ite ?_ ?_
   | refine LeO.bind ?_ (fun _ => ?_)
theorem footbridgeref49_Spend.calls (k : Nat) (P0_ : Nat → Prop) (A0 : Option Addr) (c0 : Nat) (l0 : List (S55)) (a1 : ByteArray) (a2 : Int) (a3 : Int) (r1 : List (S55)) (r2 : Int) (w : World) (hs0 : Kd.V k55 55 w w.heap.size (fun k_ => P0_ k_) (.slice A0 l0.length c0) l0) (h : footbridgeref49_Spend.f k l0 a1 a2 a3 = some (r1, r2)) :
  Calls Tryz.prog 16 #[.slice A0 l0.length c0, .string a1, .int .i64 a2, .int .i64 a3] w fun e w' => ∃ v0_ : Value, e = .returned (.tuple #[v0_, .int .i64 r2]) ∧ Kd.V k55 55 w' w.heap.size (fun k_ => (P0_ k_ ∨ w.heap.size ≤ k_)) v0_ r1 ∧ Below w.heap.size w w' := by
 have HO0 := As_ (show Kd.V k55 55 w w.heap.size (fun k_ => (P0_ k_ ∨ w.heap.size ≤ k_)) (.slice A0 l0.length c0) l0 from Kd.V_mono hs0 (fun k_ hk => .inl hk))
 have HB := As_ (Below.refl w.heap.size w)
 have H : ((footbridgeref49_two.f k l0 (⟨#[113, 117, 111, 116, 97]⟩ : ByteArray) a1).bind fun bt299 => (if bt299.2.2 = true then (if a2 < 0 then (footbridgeref49_Spend.j0 k l0 a1 a2 a3 bt299.1 bt299.2.1 true) else (if a2 > 1099511627776 then (footbridgeref49_Spend.j0 k l0 a1 a2 a3 bt299.1 bt299.2.1 true) else (if a3 < 1 then (footbridgeref49_Spend.j0 k l0 a1 a2 a3 bt299.1 bt299.2.1 true) else (footbridgeref49_Spend.j0 k l0 a1 a2 a3 bt299.1 bt299.2.1 (decide (a3 > 1099511627776)))))) else (some (l0, 8)))) = some (r1, r2) := h
 clear h
 replace H := Option.bind_eq_some_iff.mp H
 obtain ⟨⟨t299, t300, t301⟩, A50, H⟩ := H
 try dsimp only at H
 have A5 := As_ A50
 clear A50
 by_cases c6 : t301 = true
 ·subst c6
  have H1 : (if a2 < 0 then (footbridgeref49_Spend.j0 k l0 a1 a2 a3 t299 t300 true) else (if a2 > 1099511627776 then (footbridgeref49_Spend.j0 k l0 a1 a2 a3 t299 t300 true) else (if a3 < 1 then (footbridgeref49_Spend.j0 k l0 a1 a2 a3 t299 t300 true) else (footbridgeref49_Spend.j0 k l0 a1 a2 a3 t299 t300 (decide (a3 > 1099511627776)))))) = some (r1, r2) := by rw [if_pos rfl] at H; exact H
  clear H
  have H := H1
  clear H1
  have HC7 := As_ H
  clear H
  go_enter Tryz.func16, Tryz.ntmps16
  go_upto_region 4 with (first | ((with_reducible refine gate_callee (f := 20) rfl ?_); refine gk_ (some 20) Tryz.func20 #[.slice A0 l0.length c0, .string ⟨#[113, 117, 111, 116, 97]⟩, .string a1] ?_; (with_reducible refine (footbridgeref49_two.calls k _ _ l0 (⟨#[113, 117, 111, 116, 97]⟩ : ByteArray) a1 t299 t300 true _ ?side1 ?side2 A5.out).mono ?_); (case side1 => repeat (first | exact (Kd.V_reads' HO0.out).2.2 | (with_reducible refine Kd.C_alloc ?_ _) | (with_reducible refine Kd.C_drewN ?_ _) | (with_reducible refine Kd.C_drew ?_))); (case side2 => exact (Kd.V_reads' HO0.out).2.1); rintro e w8 ⟨rfl, hb⟩; refine ⟨_, rfl, ?_⟩; replace HO0 := As_ (Kd.V_below ap15_ hb); replace HB := As_ (below_step ap28_ hb); (try clear hb); (try clear hb2); (try clear hk); (try clear hi)))
  (try simp only [Act.put, List.setIfInBounds_toArray, List.set_cons_zero, List.set_cons_succ])
  go_cut [40] (fun v40 wc => ∃ (kq : Nat) (x40_6 : Bool), v40 = .bool x40_6 ∧ Aside0 (footbridgeref49_Spend.j0 kq l0 a1 a2 a3 t299 t300 x40_6 = some (r1, r2)) ∧ Aside0 (kq ≤ k) ∧ Aside0 (Kd.V k55 55 wc w.heap.size (fun k_ => (P0_ k_ ∨ w.heap.size ≤ k_)) (.slice A0 l0.length c0) l0) ∧ Aside0 (Below w.heap.size w wc))
  case first =>
   have H := HC7.out
   clear HC7
   by_cases c9 : a2 < 0
   ·rw [if_pos c9] at H
    have c9b0 : decide (a2 < 0) = true := decide_eq_true c9
    clear c9
    (first | rw [c9b0] | (simp only [i64_w, i32_w]; rw [c9b0]) | skip)
    have H' := As_ H
    clear H
    go_wp2
    go_meet
    case rel => exact ⟨_, (true), ap4_, H', ⟨ap1_⟩, ⟨ap15_⟩, ⟨ap28_⟩⟩
   ·rw [if_neg c9] at H
    have c9b0 : decide (a2 < 0) = false := decide_eq_false c9
    clear c9
    (first | rw [c9b0] | (simp only [i64_w, i32_w]; rw [c9b0]) | skip)
    by_cases c10 : a2 > 1099511627776
    ·rw [if_pos c10] at H
     have c10b0 : decide (1099511627776 < a2) = true := decide_eq_true c10
     clear c10
     have H' := As_ H
     clear H
     go_wp2
     go_meet
     case rel => exact ⟨_, (true), ap4_, H', ⟨ap1_⟩, ⟨ap15_⟩, ⟨ap28_⟩⟩
    ·rw [if_neg c10] at H
     have c10b0 : decide (1099511627776 < a2) = false := decide_eq_false c10
     clear c10
     by_cases c11 : a3 < 1
     ·rw [if_pos c11] at H
      have c11b0 : decide (a3 < 1) = true := decide_eq_true c11
      clear c11
      have H' := As_ H
      clear H
      go_wp2
      go_meet
      case rel => exact ⟨_, (true), ap4_, H', ⟨ap1_⟩, ⟨ap15_⟩, ⟨ap28_⟩⟩
     ·rw [if_neg c11] at H
      have c11b0 : decide (a3 < 1) = false := decide_eq_false c11
      clear c11
      have H' := As_ H
      clear H
      go_wp2
      go_meet
      case rel => exact ⟨_, (decide (a3 > 1099511627776)), ap4_, H', ⟨ap1_⟩, ⟨ap15_⟩, ⟨ap28_⟩⟩
  case rest =>
   clear HC7
   try clear c6
   obtain ⟨kq, x40_6, rfl, HA, HJ6, HO_0, HB⟩ := hcut
   cases kq with
   | zero => exact absurd HA.out (by simp [footbridgeref49_Spend.j0])
   | succ kj6 =>
    have H := HA.out
    clear HA
    simp only [footbridgeref49_Spend.j0] at H
    by_cases c12 : x40_6 = true
    ·subst c12
     have H1 : (some (l0, 3)) = some (r1, r2) := by rw [if_pos rfl] at H; exact H
     clear H
     have H := H1
     clear H1
     simp only [Option.some.injEq, Prod.mk.injEq] at H
     obtain ⟨rfl, rfl⟩ := H
     go_wp2
     go_ret2
     exact ⟨_, ap14_, ap16_, ap28_⟩
    ·replace c12 := Bool.eq_false_iff.mpr c12
     subst c12
     have H1 : ((footbridgeref49_two.f kj6 l0 (⟨#[115, 112, 101, 110, 116]⟩ : ByteArray) a1).bind fun bt302 => ((footbridgeref49_Left.f kj6 l0 a1 a2).bind fun t305 => (if bt302.2.2 = true then (if t300 = 0 then (none) else (footbridgeref49_Spend.j1 kj6 l0 a1 a2 a3 t299 t300 t305 (decide (bt302.1 > (wrap64 (Int.tdiv a2 t300)))))) else (footbridgeref49_Spend.j1 kj6 l0 a1 a2 a3 t299 t300 t305 false)))) = some (r1, r2) := by rw [if_neg (show ¬ (false = true) by decide)] at H; exact H
     clear H
     have H := H1
     clear H1
     replace H := Option.bind_eq_some_iff.mp H
     obtain ⟨⟨t302, t303, t304⟩, A130, H⟩ := H
     try dsimp only at H
     have A13 := As_ A130
     clear A130
     replace H := Option.bind_eq_some_iff.mp H
     obtain ⟨t305, A140, H⟩ := H
     try dsimp only at H
     have A14 := As_ A140
     clear A140
     have HC15 := As_ H
     clear H
     go_upto_region 8 with (first | ((with_reducible refine gate_callee (f := 20) rfl ?_); refine gk_ (some 45) Tryz.func20 #[.slice A0 l0.length c0, .string ⟨#[115, 112, 101, 110, 116]⟩, .string a1] ?_; (with_reducible refine (footbridgeref49_two.calls kj6 _ _ l0 (⟨#[115, 112, 101, 110, 116]⟩ : ByteArray) a1 t302 t303 t304 _ ?side1 ?side2 A13.out).mono ?_); (case side1 => repeat (first | exact (Kd.V_reads' HO_0.out).2.2 | (with_reducible refine Kd.C_alloc ?_ _) | (with_reducible refine Kd.C_drewN ?_ _) | (with_reducible refine Kd.C_drew ?_))); (case side2 => exact (Kd.V_reads' HO_0.out).2.1); rintro e w16 ⟨rfl, hb⟩; refine ⟨_, rfl, ?_⟩; replace HO_0 := As_ (Kd.V_below ap16_ hb); replace HB := As_ (below_step ap28_ hb); (try clear hb); (try clear hb2); (try clear hk); (try clear hi)) | ((with_reducible refine gate_callee (f := 8) rfl ?_); refine gk_ (some 52) Tryz.func8 #[.slice A0 l0.length c0, .string a1, .int .i64 a2] ?_; (with_reducible refine (footbridgeref49_Left.calls kj6 _ _ l0 a1 a2 t305 _ ?side1 ?side2 A14.out).mono ?_); (case side1 => repeat (first | exact (Kd.V_reads' HO_0.out).2.2 | (with_reducible refine Kd.C_alloc ?_ _) | (with_reducible refine Kd.C_drewN ?_ _) | (with_reducible refine Kd.C_drew ?_))); (case side2 => exact (Kd.V_reads' HO_0.out).2.1); rintro e w17 ⟨rfl, hb⟩; refine ⟨_, rfl, ?_⟩; replace HO_0 := As_ (Kd.V_below ap16_ hb); replace HB := As_ (below_step ap28_ hb); (try clear hb); (try clear hb2); (try clear hk); (try clear hi)))
     (try simp only [Act.put, List.setIfInBounds_toArray, List.set_cons_zero, List.set_cons_succ])
     go_cut [53] (fun v53 wc => ∃ (kq : Nat) (x53_14 : Bool), v53 = .bool x53_14 ∧ Aside0 (footbridgeref49_Spend.j1 kq l0 a1 a2 a3 t299 t300 t305 x53_14 = some (r1, r2)) ∧ Aside0 (kq ≤ kj6) ∧ Aside0 (Kd.V k55 55 wc w.heap.size (fun k_ => (P0_ k_ ∨ w.heap.size ≤ k_)) (.slice A0 l0.length c0) l0) ∧ Aside0 (Below w.heap.size w wc))
     case first =>
      have H := HC15.out
      clear HC15
      by_cases c18 : t304 = true
      ·subst c18
       have H1 : (if t300 = 0 then (none) else (footbridgeref49_Spend.j1 kj6 l0 a1 a2 a3 t299 t300 t305 (decide (t302 > (wrap64 (Int.tdiv a2 t300)))))) = some (r1, r2) := by rw [if_pos rfl] at H; exact H
       clear H
       have H := H1
       clear H1
       by_cases c19 : t300 = 0
       ·rw [if_pos c19] at H
        exact absurd H (by simp)
       ·rw [if_neg c19] at H
        have c19b0 : (t300 == 0) = false := beq_eq_false_iff_ne.mpr c19
        have c19b1 : (t300 != 0) = true := bne_iff_ne.mpr c19
        (first | rw [c19b0] | (simp only [i64_w, i32_w]; rw [c19b0]) | skip)
        have H' := As_ H
        clear H
        go_wp2
        go_meet
        case rel => exact ⟨_, (decide (t302 > (wrap64 (Int.tdiv a2 t300)))), ap4_, H', ⟨by have := HJ6.out; first | omega | exact Nat.le_refl _⟩, ⟨ap16_⟩, ⟨ap28_⟩⟩
      ·replace c18 := Bool.eq_false_iff.mpr c18
       subst c18
       have H1 : (footbridgeref49_Spend.j1 kj6 l0 a1 a2 a3 t299 t300 t305 false) = some (r1, r2) := by rw [if_neg (show ¬ (false = true) by decide)] at H; exact H
       clear H
       have H := H1
       clear H1
       have H' := As_ H
       clear H
       go_wp2
       go_meet
       case rel => exact ⟨_, (false), ap4_, H', ⟨by have := HJ6.out; first | omega | exact Nat.le_refl _⟩, ⟨ap16_⟩, ⟨ap28_⟩⟩
     case rest =>
      clear HC15
      try clear c6
      try clear c12
      obtain ⟨kq, x53_14, rfl, HA, HJ14, HO_0, HB⟩ := hcut
      cases kq with
      | zero => exact absurd HA.out (by simp [footbridgeref49_Spend.j1])
      | succ kj14 =>
       have H := HA.out
       clear HA
       simp only [footbridgeref49_Spend.j1] at H
       by_cases c20 : x53_14 = true
       ·subst c20
        have H1 : (some (l0, 14)) = some (r1, r2) := by rw [if_pos rfl] at H; exact H
        clear H
        have H := H1
        clear H1
        simp only [Option.some.injEq, Prod.mk.injEq] at H
        obtain ⟨rfl, rfl⟩ := H
        go_wp2
        go_ret2
        exact ⟨_, ap14_, ap16_, ap28_⟩
       ·replace c20 := Bool.eq_false_iff.mpr c20
        subst c20
        have H1 : (if a3 > t305 then (some (l0, 21)) else (if t300 = 0 then (none) else ((footbridgeref49_put.f kj14 l0 (⟨#[115, 112, 101, 110, 116]⟩ : ByteArray) a1 (wrap64 (Int.tdiv a2 t300)) (wrap64 ((wrap64 (t299 - t305)) + a3))).bind fun t306 => (some (t306, 0))))) = some (r1, r2) := by rw [if_neg (show ¬ (false = true) by decide)] at H; exact H
        clear H
        have H := H1
        clear H1
        by_cases c21 : a3 > t305
        ·rw [if_pos c21] at H
         have c21b0 : decide (t305 < a3) = true := decide_eq_true c21
         clear c21
         simp only [Option.some.injEq, Prod.mk.injEq] at H
         obtain ⟨rfl, rfl⟩ := H
         go_wp2
         go_ret2
         exact ⟨_, ap14_, ap16_, ap28_⟩
        ·rw [if_neg c21] at H
         have c21b0 : decide (t305 < a3) = false := decide_eq_false c21
         clear c21
         by_cases c22 : t300 = 0
         ·rw [if_pos c22] at H
          exact absurd H (by simp)
         ·rw [if_neg c22] at H
          have c22b0 : (t300 == 0) = false := beq_eq_false_iff_ne.mpr c22
          have c22b1 : (t300 != 0) = true := bne_iff_ne.mpr c22
          replace H := Option.bind_eq_some_iff.mp H
          obtain ⟨t306, A230, H⟩ := H
          try dsimp only at H
          have A23 := As_ A230
          clear A230
          simp only [Option.some.injEq, Prod.mk.injEq] at H
          obtain ⟨rfl, rfl⟩ := H
          go_wp2_with (first | ((with_reducible refine gate_callee (f := 29) rfl ?_); refine gk_ (some 78) Tryz.func29 #[.slice A0 l0.length c0, .string ⟨#[115, 112, 101, 110, 116]⟩, .string a1, .int .i64 (wrap64 (Int.tdiv a2 t300)), .int .i64 (wrap64 ((wrap64 (t299 - t305)) + a3))] ?_; (with_reducible refine (footbridgeref49_put.calls kj14 _ _ l0 (⟨#[115, 112, 101, 110, 116]⟩ : ByteArray) a1 (wrap64 (Int.tdiv a2 t300)) (wrap64 ((wrap64 (t299 - t305)) + a3)) t306 _ ?side1 ?side2 A23.out).mono ?_); (case side1 => repeat (first | exact (Kd.V_reads' HO_0.out).2.2 | (with_reducible refine Kd.C_alloc ?_ _) | (with_reducible refine Kd.C_drewN ?_ _) | (with_reducible refine Kd.C_drew ?_))); (case side2 => exact (Kd.V_reads' HO_0.out).2.1); rintro e w24 ⟨v307, rfl, ho0, hb⟩; refine ⟨_, rfl, ?_⟩; replace HO_0 := As_ (Kd.V_elder' ap16_ (Kd.R_base ho0) hb); have HO308 := As_ (Kd.R_lower (Kd.R_newM (M := fun k_ => (w.heap.size ≤ k_)) ho0 (below_size ap28_) (fun k_ h_ => h_)) (below_size ap28_)); replace HB := As_ (below_step ap28_ hb); (try clear hb); (try clear hb2); (try clear hk); (try clear hi); (try clear ho0)))
          go_ret2
          exact ⟨_, ap14_, Kd.V_mono (Kd.R_V (by (with_reducible repeat (first | apply Kd.R_alloc | apply Kd.R_drewN | apply Kd.R_drew)); exact Kd.R_mono HO308.out (fun _ hk => hk.1))) (fun k_ hk => by first | exact ⟨(.inr (hk.1)), hk.2⟩ | exact (.inr (hk))), ap28_⟩
 ·replace c6 := Bool.eq_false_iff.mpr c6
  subst c6
  have H1 : (some (l0, 8)) = some (r1, r2) := by rw [if_neg (show ¬ (false = true) by decide)] at H; exact H
  clear H
  have H := H1
  clear H1
  simp only [Option.some.injEq, Prod.mk.injEq] at H
  obtain ⟨rfl, rfl⟩ := H
  go_enter Tryz.func16, Tryz.ntmps16
  go_wp2_with (first | ((with_reducible refine gate_callee (f := 20) rfl ?_); refine gk_ (some 20) Tryz.func20 #[.slice A0 l0.length c0, .string ⟨#[113, 117, 111, 116, 97]⟩, .string a1] ?_; (with_reducible refine (footbridgeref49_two.calls k _ _ l0 (⟨#[113, 117, 111, 116, 97]⟩ : ByteArray) a1 t299 t300 false _ ?side1 ?side2 A5.out).mono ?_); (case side1 => repeat (first | exact (Kd.V_reads' HO0.out).2.2 | (with_reducible refine Kd.C_alloc ?_ _) | (with_reducible refine Kd.C_drewN ?_ _) | (with_reducible refine Kd.C_drew ?_))); (case side2 => exact (Kd.V_reads' HO0.out).2.1); rintro e w25 ⟨rfl, hb⟩; refine ⟨_, rfl, ?_⟩; replace HO0 := As_ (Kd.V_below ap15_ hb); replace HB := As_ (below_step ap28_ hb); (try clear hb); (try clear hb2); (try clear hk); (try clear hi)))
  go_ret2
  exact ⟨_, ap14_, ap15_, ap28_⟩
theorem at_l0 (l : List S55) (key : ByteArray) (hs : sortK l) (hl : l.length ≤ 1000000000) : ∀ m j k, l.length - j = m → j ≤ posK l key → m < k → footbridgeref09_at.l0 k l key (j : Int) = some ((posK l key : Nat) : Int) := by
 have hp := posK_le l key
 intro m
 induction m with
 | zero =>
  intro j k h1 h2 h3
  obtain ⟨k, rfl⟩ : ∃ k', k = k' + 1 := ⟨k - 1, by omega⟩
  obtain rfl : j = posK l key := by omega
  rw [footbridgeref09_at.l0, if_neg (by omega)]
 | succ m ih =>
  intro j k h1 h2 h3
  obtain ⟨k, rfl⟩ : ∃ k', k = k' + 1 := ⟨k - 1, by omega⟩
  have hj : j < l.length := by omega
  rw [footbridgeref09_at.l0, if_pos (by omega), if_pos (by omega), rdP l j hj]
  have hsp := posK_spec l key hs j hj
  by_cases hlt : j < posK l key
  ·rw [decide_eq_true hlt] at hsp
   unfold kLt at hsp
   rw [if_pos hsp, w64p j (by omega)]
   exact ih (j + 1) k (by omega) (by omega) (by omega)
  ·rw [decide_eq_false hlt] at hsp
   obtain rfl : j = posK l key := by omega
   rw [if_neg (by intro h; unfold kLt at hsp; rw [h] at hsp; exact absurd hsp (by simp))]
theorem at_f (l : List S55) (key : ByteArray) (k : Nat) (hs : sortK l) (hl : l.length ≤ 1000000000) (hk : l.length < k) : footbridgeref09_at.f k l key = some ((posK l key : Nat) : Int) := at_l0 l key hs hl l.length 0 k (by omega) (by omega) hk
theorem hasK_cases (l : List S55) (key : ByteArray) : (∃ hp : posK l key < l.length, hasK l key = (l[posK l key].f0.toList == key.toList)) ∨ (posK l key = l.length ∧ hasK l key = false) := by
 have hp := posK_le l key
 by_cases h : posK l key < l.length
 ·refine .inl ⟨h, ?_⟩
  unfold hasK
  rw [List.getElem?_eq_getElem h]
 ·refine .inr ⟨by omega, ?_⟩
  unfold hasK
  rw [List.getElem?_eq_none (by omega)]
theorem get_f (l : List S55) (key : ByteArray) (k : Nat) (hs : sortK l) (hl : l.length ≤ 1000000000) (hk : l.length < k) : footbridgeref09_Get.f k l key = some (getK l key) := by
 unfold footbridgeref09_Get.f getK
 rw [at_f l key k hs hl hk, Option.bind_some]
 rcases hasK_cases l key with ⟨hp, hh⟩ | ⟨hp, hh⟩
 ·rw [if_pos (by omega), if_pos (by omega), hh]
  rw [rdP l _ hp]
  by_cases he : l[posK l key].f0.toList = key.toList
  ·rw [if_pos he, if_pos (beq_iff_eq.2 he)]
  ·rw [if_neg he, if_neg (by rw [beq_eq_false_iff_ne.2 he]; simp)]
 ·rw [if_neg (by omega), hh, if_neg (by simp)]
theorem set_f (l : List S55) (key value : ByteArray) (k : Nat) (hs : sortK l) (hl : l.length ≤ 1000000000) (hk : l.length < k) : footbridgeref09_Set.f k l key value = some (setK l key value, !hasK l key) := by
 unfold footbridgeref09_Set.f setK
 rw [at_f l key k hs hl hk, Option.bind_some]
 have hd : ∀ i, (l.drop i).length ≤ 1000000000 := fun i => by rw [List.length_drop]; omega
 have ht : ∀ i, (l.take i).length ≤ 1000000000 := fun i => by rw [List.length_take]; omega
 rcases hasK_cases l key with ⟨hp, hh⟩ | ⟨hp, hh⟩
 ·rw [if_neg (by omega), if_pos (by omega), if_pos (by omega), if_pos (by omega), Option.bind_some, rdP l _ hp, Int.toNat_natCast]
  have h1 := ht (posK l key)
  have h2 := hd (posK l key)
  have h3 := hd (posK l key + 1)
  by_cases he : l[posK l key].f0.toList = key.toList
  ·have hk1 : l[posK l key].f0 = key := ba_ext he
   rw [if_neg (not_not_intro he), w64p _ (by omega), if_pos (by omega), if_pos (by omega), Int.toNat_natCast, Option.bind_some, Option.bind_some, List.nil_append, if_pos ap0_, Option.bind_some, if_pos (by omega), Option.bind_some, if_pos ap12_]
   rw [hh, if_pos (beq_iff_eq.2 he), beq_iff_eq.2 he, bne, beq_iff_eq.2 he]
   congr 2
   rw [List.set_eq_take_append_cons_drop, if_pos hp, List.append_assoc]; rfl
  ·rw [if_pos he, Option.bind_some, List.nil_append, if_pos ap0_, Option.bind_some, if_pos (by omega), Option.bind_some, if_pos ap12_]
   rw [hh, if_neg (by rw [beq_eq_false_iff_ne.2 he]; simp), bne, beq_eq_false_iff_ne.2 he, List.append_assoc]
   rfl
 ·have h1 := ht (posK l key)
  have h2 := hd (posK l key)
  rw [if_pos (by omega), if_pos (by omega), if_pos (by omega), Option.bind_some, Option.bind_some, Int.toNat_natCast, List.nil_append, if_pos ap0_, Option.bind_some, if_pos (by omega), Option.bind_some, if_pos ap12_]
  rw [hh, if_neg (by simp), List.append_assoc]
  rfl
theorem del_f (l : List S55) (key : ByteArray) (k : Nat) (hs : sortK l) (hl : l.length ≤ 1000000000) (hk : l.length < k) : footbridgeref09_Del.f k l key = some (delK l key, hasK l key) := by
 unfold footbridgeref09_Del.f delK
 rw [at_f l key k hs hl hk, Option.bind_some]
 have hd : ∀ i, (l.drop i).length ≤ 1000000000 := fun i => by rw [List.length_drop]; omega
 have ht : ∀ i, (l.take i).length ≤ 1000000000 := fun i => by rw [List.length_take]; omega
 rcases hasK_cases l key with ⟨hp, hh⟩ | ⟨hp, hh⟩
 ·have h1 := ht (posK l key)
  have h3 := hd (posK l key + 1)
  rw [if_neg (by omega), if_pos (by omega), if_pos (by omega), rdP l _ hp]
  by_cases he : l[posK l key].f0.toList = key.toList
  ·rw [if_pos he, if_pos (by omega), Option.bind_some, Int.toNat_natCast, List.nil_append, if_pos ap0_, Option.bind_some, w64p _ (by omega), if_pos (by omega), if_pos (by omega), Int.toNat_natCast, Option.bind_some, if_pos (by omega)]
   rw [hh, beq_iff_eq.2 he, if_pos rfl]
  ·rw [if_neg he, hh, beq_eq_false_iff_ne.2 he, if_neg (by simp)]
 ·rw [if_pos (by omega), hh, if_neg (by simp)]
end Go.Proofs.YtgapkicplhbidaaGreatDoor.PQup
