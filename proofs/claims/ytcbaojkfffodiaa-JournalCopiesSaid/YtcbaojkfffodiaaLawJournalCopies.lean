/- Written by wip/myrow.py: the row of JournalCopies, out of its plain law and its printed contract. No condition. -/
import Derived.Test.YtcbaojkfffodiaaRows
import Derived.Test.YtcbaojkfffodiaaPJoux22
import Derived.Test.YtcbaojkfffodiaaPJouo
import Derived.Test.YtcbaojkfffodiaaPureJournalCopies
import Derived.WalkKit
import Derived.ProofKit
import Derived.OpenShut
import Derived.ShutString
import Derived.ChangeOld
import Derived.Below
import Derived.SizedLaws
import Derived.Lib.SmallJoins
import Derived.Test.YtcbaojkfffodiaaWSized
namespace Go.Proofs.Ytcbaojkfffodiaa.journalCopies
open Go.ChangeShapes Go.WideShapes Go.ChangeAt Go.RowKit Go.Joins
open Go.ChangeMaps (open_string shut_string)
open Go.Proofs.Ytcbaojkfffodiaa.PJou Go.Proofs.YtcbaojkfffodiaaW.PrintWords Go.Proofs.YtcbaojkfffodiaaW.PrintLast
set_option linter.unusedVariables false
theorem own : ownKnob Try.prog.godebug = none := by kernel_rfl
theorem laidOut : laidOutB Try.prog = true := by kernel_rfl
set_option maxRecDepth 100000 in
theorem lifted (os : Os) (started : os.Started) (H : Type) (enc : TypeId × Value → H) :
    ReturnsInHanded {} Try.checked os 4 .any (Rows.journalCopiesSpec.pre6 enc Try.prog Try.f4 Rows.journalCopiesRow.domain false) (Rows.journalCopiesSpec.post enc Try.prog Try.f4 false true false false) := by
  refine returnsInHanded_of_change_sized (C := Try.checked) own started (by kernel_rfl) Try.func4
    (ChangeSpec.witness6 (enc := enc) (C := Try.checked) false ⟨#[], #[.slice none 0 0, .slice none 0 0, .slice none 0 0], []⟩ 8 (by kernel_rfl) (by kernel_rfl) (by kernel_rfl) (by kernel_rfl)) ?_
  intro W base args ds gs before hval0 hW hcnd hsz0 _
  have hsz : (DataW.weightsEach Try.prog (Try.f4.params.toList ++ Rows.journalCopiesSpec.plain.varTypes Try.prog) (ds ++ gs)).all (· ≤ reachBytes) = true := hsz0
  have hval : ∀ (j : Nat) t v, Try.f4.params[j]? = some t → args[j]? = some v → Value.okWide Try.prog W .any base t v := hval0
  have hW' := hW
  obtain ⟨p, q, hA0, hV, rfl, hfz, hnd⟩ := hW
  have hA : DataW.TrodAll enc Try.prog W 0 (fun _ => true) true Try.f4.params.toList args.toList ds p := hA0
  rw [Try.params4] at hA hval hsz
  obtain ⟨v0, vs0, d0, ds0, p0, q0, hargs, rfl, rfl, h0, r0⟩ := trodAll_cons hA
  obtain ⟨v1, vs1, d1, ds1, p1, q1, rfl, rfl, rfl, h1, r1⟩ := trodAll_cons r0
  obtain ⟨v2, vs2, d2, ds2, p2, q2, rfl, rfl, rfl, h2, r2⟩ := trodAll_cons r1
  obtain ⟨rfl, rfl, rfl⟩ := trodAll_nil r2
  obtain rfl : args = #[v0, v1, v2] := by cases args; simp_all
  obtain ⟨rfl, rfl⟩ := trodVars_none hV
  obtain ⟨a0, len0, cap0, rfl⟩ := okWide_slice Try.underlying22 (hval 0 22 v0 rfl rfl)
  have k0 := h0
  have lt0 : ∀ x ∈ p0, x.block < W.heap.size := by obtain ⟨m, hm⟩ := k0; exact DataW.trod_lt m _ _ _ hm
  obtain ⟨fu0, hf0⟩ := h0
  obtain ⟨x0, ⟨A0, c0, e0, hc0, hr0⟩, o0⟩ := (opens_slice (ok := fun (y_ : S51) => ok51 y_) Try.underlying22 (by kernel_rfl) opens51) hf0
  replace e0 : [Value.slice a0 len0 cap0] = [Value.slice A0 x0.length c0] := e0
  injection e0 with e0 _
  injection e0 with ea0 eb0 ec0
  subst ea0 eb0 ec0
  clear hf0
  obtain ⟨a1, len1, cap1, rfl⟩ := okWide_slice Try.underlying23 (hval 1 23 v1 rfl rfl)
  have k1 := h1
  have lt1 : ∀ x ∈ p1, x.block < W.heap.size := by obtain ⟨m, hm⟩ := k1; exact DataW.trod_lt m _ _ _ hm
  obtain ⟨fu1, hf1⟩ := h1
  obtain ⟨x1, ⟨A1, c1, e1, hc1, hr1⟩, o1⟩ := (opens_slice (ok := fun (y_ : S33) => ok33 y_) Try.underlying23 (by kernel_rfl) opens33) hf1
  replace e1 : [Value.slice a1 len1 cap1] = [Value.slice A1 x1.length c1] := e1
  injection e1 with e1 _
  injection e1 with ea1 eb1 ec1
  subst ea1 eb1 ec1
  clear hf1
  obtain ⟨a2, len2, cap2, rfl⟩ := okWide_slice Try.underlying23 (hval 2 23 v2 rfl rfl)
  have k2 := h2
  have lt2 : ∀ x ∈ p2, x.block < W.heap.size := by obtain ⟨m, hm⟩ := k2; exact DataW.trod_lt m _ _ _ hm
  obtain ⟨fu2, hf2⟩ := h2
  obtain ⟨x2, ⟨A2, c2, e2, hc2, hr2⟩, o2⟩ := (opens_slice (ok := fun (y_ : S33) => ok33 y_) Try.underlying23 (by kernel_rfl) opens33) hf2
  replace e2 : [Value.slice a2 len2 cap2] = [Value.slice A2 x2.length c2] := e2
  injection e2 with e2 _
  injection e2 with ea2 eb2 ec2
  subst ea2 eb2 ec2
  clear hf2
  clear hA0 hval0 hsz0 hsz
  have hk_ := Go.Proofs.Ytcbaojkfffodiaa.Pure.JournalCopies x0 x1 x2 o0 o1 o2
  refine (footbridgelaw10_JournalCopies.calls (l0 := x0) (hr0 := hr0) (hc0 := hc0) (l1 := x1) (hr1 := hr1) (hc1 := hc1) (l2 := x2) (hr2 := hr2) (hc2 := hc2) (r := true) (w := W) (h := hk_)).mono fun e W' ⟨he, bel0⟩ => ?_
  have bel : Below W.heap.size W W' := bel0
  subst he
  exact ⟨_, rfl, _, _, _, [], _, [], hW', trodAll_mk1 (shut_bool Try.underlying4 _), (trodAll_cons_mk (Below.trod laidOut (by kernel_rfl) (of_decide_eq_true (by kernel_rfl)) k0 bel lt0) (trodAll_cons_mk (Below.trod laidOut (by kernel_rfl) (of_decide_eq_true (by kernel_rfl)) k1 bel lt1) (trodAll_cons_mk (Below.trod laidOut (by kernel_rfl) (of_decide_eq_true (by kernel_rfl)) k2 bel lt2) trodAll_mk0))), rfl, bel.frame _, fun h => by cases h⟩
theorem over : Rows.journalCopiesRow.holds Try.pinned (OpenSpec.ofChange Rows.journalCopiesSpec) :=
  OpenClaim.holds_of_wide 4 Try.f4 rfl rfl rfl rfl rfl rfl rfl ⟨rfl, rfl, rfl, rfl, rfl⟩ rfl rfl rfl rfl rfl (by kernel_rfl) Try.func4 (by kernel_rfl)
    (of_decide_eq_true (by kernel_rfl)) (by unfold Func.isWrapper; first | (rw [if_pos (by decide +kernel)]; kernel_rfl) | (rw [if_neg (by decide +kernel)]; exact ⟨rfl, rfl⟩))
    (fun os started H enc _ => lifted os started H enc)
theorem proved : Rows.JournalCopiesSaid := over
#print axioms proved
end Go.Proofs.Ytcbaojkfffodiaa.journalCopies
namespace Go.Proofs.Ytcbaojkfffodiaa
/-- The row, under a short name, for the claim. -/
theorem journalCopies_holds : Rows.JournalCopiesSaid := journalCopies.proved
end Go.Proofs.Ytcbaojkfffodiaa
