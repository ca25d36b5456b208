/- A part of the walk of TokenPlays. No condition. -/
import Derived.Test.YtjappgjpikbdeaaGreatDoorProg
import Derived.Test.YtjappgjpikbdeaaGreatDoorShelfB
import Derived.Below
import Derived.Deep.Draws
import Derived.Deep.AppendLies
import Derived.Maps.AppendAt
import Derived.OwnWalk
import Derived.Laws.BytesArg
import Derived.Laws.MakeOwn
import Derived.Laws.OwnMore
import Derived.Deep.OwnRows
import Derived.Tactics
import Derived.Lib.ConvBytes
import Derived.Laws.Slices
import Derived.WalkKit
import Derived.KernelRfl
import Derived.RowKit3
import Derived.Deep.LoopGhost
import Derived.Deep.QuietTactic
import Derived.BigQuiet
import Derived.WideLaws
import Derived.Deep.DeepCutAuto
import Derived.Deep.CutBlock
import Derived.Deep.RegionHeld3
import Derived.Laws.Rows
import Derived.Lib.AppendStr
import Derived.ArgAppend
import Derived.Laws.IdiomCopy
import Derived.OrdersHeld
import Derived.Laws.BitsLemmas
import Derived.RowKit
import Derived.Lib.Strings
import Derived.Lib.Slices
import Derived.Lib.Walk
import Derived.Lib.Bytealg
import Derived.StillTailTactics
import Derived.WalkSpells
import Derived.Lib.Builder
import Derived.Lib.UnsafeStr
import Derived.Laws.Externs
import Derived.Shelf.RegionOpenPlain
import Derived.RegionTactic
import Derived.ChangeAlike
import Derived.Laws.BitsAllLaws
import Derived.Lib.ReplaceLaws
import Derived.ScopeJumps
import Derived.Scope
import Derived.Shelf.Spec.SlicesInsertGrow
import Derived.Laws.CopyOwn
import Derived.Deep.AppendSrc
import Derived.Lib.SliceRun
import Derived.Lib.Overlaps
import Derived.Lib.AppendZerosOnto
import Derived.RangeFuncNested
import Derived.RangeFuncBound
import Derived.RangeFuncCalls
import Derived.RangeFuncLeaves
import Derived.RangeFuncBox
import Derived.Shelf.Abstract
import Derived.Shelf.RegionOpen
import Derived.OwnWalkIn
import Derived.TacticsInMore
import Derived.LoopNIn
import Derived.LoopIn
import Derived.WalkMore
import Derived.Test.YtjappgjpikbdeaaGreatDoorVMoreTkp
namespace Go.Proofs.YtjappgjpikbdeaaGreatDoor.PTkp
set_option maxRecDepth 100000
set_option maxHeartbeats 8000000
open Go.RowKit Go.Proofs.YtjappgjpikbdeaaGreatDoorW.PrintWords Go.Proofs.YtjappgjpikbdeaaGreatDoorW.PrintLast Go.Proofs.YtjappgjpikbdeaaGreatDoorW.PrintMore
attribute [local go_sem] max2_int min2_int max_two min_two max_three min_three max_four min_four   -- for this text's walks alone
set_option linter.unusedVariables false
set_option linter.unusedSimpArgs false
theorem As_ {p : Prop} (h : p) : Aside0 p := ⟨h⟩
theorem bxE {P : Program} {ops : Array Oper} {rest : List Oper} {o : Oper} {a : Act} {Q : Exit → Act → World → Prop} {W : World} {N : Tmp} {cs : Array Value} {t : TypeId}
    (h : ∀ g, g = W.heap.size → ∀ w1, w1.heap[g]? = some (.cells cs t (0, 0)) → Below W.heap.size W w1 → wpList P ops Q rest (a.put o.dst (.pointer (some ⟨g, 0, none⟩))) w1)
    (hd : o.dst = some N := by rfl) (hg : o.guard = none := by rfl)
    (hr : (execOp a.eval o).run P W = .ok (.value (.pointer (some ⟨W.heap.size, 0, none⟩))) (W.alloc (.cells cs t (0, 0))) := by first | (go_simp; done) | (go_simp; rfl)) : wpList P ops Q (o :: rest) a W := box_event hg hd hr h
theorem gk_ {P : Program} {ops : Array Oper} {Q : Exit → Act → World → Prop} {rest : List Oper} {oi : Oper} {a : Act} {w : World} (N : Option Tmp) {f : FuncId} {fn : Func} {asx : Array Operand} {ts : Array TypeId} (hf : P.funcs[f]? = some fn) (args : Array Value)
    (h : Calls P f args w fun e w' => ∃ v, e = .returned v ∧ wpList P ops Q rest (a.put N v) w')
    (hd : oi.dst = N := by rfl) (hg : oi.guard = none := by rfl) (hname : (fn.name == "runtime.NumGoroutine") = false := by kernel_rfl) (hb : fn.body.isSome = true := by rfl)
    (hop : oi.op = .call { callee := .value (.func f), args := asx, argTypes := ts } := by rfl) (hargs : asx.map a.eval = args := by (try simp only [List.map_toArray, List.map_cons, List.map_nil]); first | done | rfl | (simp only [List.length_drop, List.length_take]; rfl)) : wpList P ops Q (oi :: rest) a w := goesL_ N hd hg hf hname hb args hop hargs h
theorem clN2 {w : World} {g : Nat} {a0 a1 : Value} {t : TypeId} (h : w.heap[g]? = some (.cells #[a0, a1] t (0, 0))) : w.cell? ⟨g, 0, none⟩ = some a0 ∧ w.frozen? ⟨g, 0, none⟩ = false ∧ w.cell? ⟨g, 1, none⟩ = some a1 ∧ w.frozen? ⟨g, 1, none⟩ = false :=
  ⟨(blk_cell h 0).trans rfl, blk_frozen h 0, (blk_cell h 1).trans rfl, blk_frozen h 1⟩
theorem clN4 {w : World} {g : Nat} {a0 a1 a2 a3 : Value} {t : TypeId} (h : w.heap[g]? = some (.cells #[a0, a1, a2, a3] t (0, 0))) : w.cell? ⟨g, 0, none⟩ = some a0 ∧ w.frozen? ⟨g, 0, none⟩ = false ∧ w.cell? ⟨g, 1, none⟩ = some a1 ∧ w.frozen? ⟨g, 1, none⟩ = false ∧ w.cell? ⟨g, 2, none⟩ = some a2 ∧ w.frozen? ⟨g, 2, none⟩ = false ∧ w.cell? ⟨g, 3, none⟩ = some a3 ∧ w.frozen? ⟨g, 3, none⟩ = false :=
  ⟨(blk_cell h 0).trans rfl, blk_frozen h 0, (blk_cell h 1).trans rfl, blk_frozen h 1, (blk_cell h 2).trans rfl, blk_frozen h 2, (blk_cell h 3).trans rfl, blk_frozen h 3⟩
theorem clN5 {w : World} {g : Nat} {a0 a1 a2 a3 a4 : Value} {t : TypeId} (h : w.heap[g]? = some (.cells #[a0, a1, a2, a3, a4] t (0, 0))) : w.cell? ⟨g, 0, none⟩ = some a0 ∧ w.frozen? ⟨g, 0, none⟩ = false ∧ w.cell? ⟨g, 1, none⟩ = some a1 ∧ w.frozen? ⟨g, 1, none⟩ = false ∧ w.cell? ⟨g, 2, none⟩ = some a2 ∧ w.frozen? ⟨g, 2, none⟩ = false ∧ w.cell? ⟨g, 3, none⟩ = some a3 ∧ w.frozen? ⟨g, 3, none⟩ = false ∧ w.cell? ⟨g, 4, none⟩ = some a4 ∧ w.frozen? ⟨g, 4, none⟩ = false :=
  ⟨(blk_cell h 0).trans rfl, blk_frozen h 0, (blk_cell h 1).trans rfl, blk_frozen h 1, (blk_cell h 2).trans rfl, blk_frozen h 2, (blk_cell h 3).trans rfl, blk_frozen h 3, (blk_cell h 4).trans rfl, blk_frozen h 4⟩
theorem clN7 {w : World} {g : Nat} {a0 a1 a2 a3 a4 a5 a6 : Value} {t : TypeId} (h : w.heap[g]? = some (.cells #[a0, a1, a2, a3, a4, a5, a6] t (0, 0))) : w.cell? ⟨g, 0, none⟩ = some a0 ∧ w.frozen? ⟨g, 0, none⟩ = false ∧ w.cell? ⟨g, 1, none⟩ = some a1 ∧ w.frozen? ⟨g, 1, none⟩ = false ∧ w.cell? ⟨g, 2, none⟩ = some a2 ∧ w.frozen? ⟨g, 2, none⟩ = false ∧ w.cell? ⟨g, 3, none⟩ = some a3 ∧ w.frozen? ⟨g, 3, none⟩ = false ∧ w.cell? ⟨g, 4, none⟩ = some a4 ∧ w.frozen? ⟨g, 4, none⟩ = false ∧ w.cell? ⟨g, 5, none⟩ = some a5 ∧ w.frozen? ⟨g, 5, none⟩ = false ∧ w.cell? ⟨g, 6, none⟩ = some a6 ∧ w.frozen? ⟨g, 6, none⟩ = false :=
  ⟨(blk_cell h 0).trans rfl, blk_frozen h 0, (blk_cell h 1).trans rfl, blk_frozen h 1, (blk_cell h 2).trans rfl, blk_frozen h 2, (blk_cell h 3).trans rfl, blk_frozen h 3, (blk_cell h 4).trans rfl, blk_frozen h 4, (blk_cell h 5).trans rfl, blk_frozen h 5, (blk_cell h 6).trans rfl, blk_frozen h 6⟩
theorem ap0_ {p : Prop} (h : p := by simp only [List.length_nil]; omega) : p := h
theorem ap1_ {p : Prop} (h : p := by first | omega | exact Nat.le_refl _) : p := h
theorem ap2_ {p : Prop} (h : p := by intro w'; go_simp; with_reducible rfl) : p := h
theorem ap3_ {p : Prop} (h : p := by rw [ba_append]; simp [ByteArray.toList_eq]) : p := h
theorem ap4_ {p : Prop} (h : p := by first | rfl | (rw [AW.out]) | (simp; done)) : p := h
theorem ap5_ {p : Prop} (h : p := by first | rfl | (simp; done) | (simp [*]; done)) : p := h
theorem ap6_ {p : Prop} (h : p := by rintro w' ⟨s0, s1⟩; go_simp; with_reducible rfl) : p := h
theorem ap7_ {p : Prop} (h : p := by first | (with_reducible assumption) | assumption) : p := h
theorem ap8_ {p : Prop} (h : p := by repeat (first | exact hbd.out | apply pw_below_drewN)) : p := h
theorem ap9_ {p : Prop} (h : p := by rintro w' ⟨s0, s1, s2, s3⟩; go_simp; with_reducible rfl) : p := h
theorem ap10_ {p : Prop} (h : p := by repeat (first | exact Drawn0.refl _ | apply Drawn0.step)) : p := h
theorem ap11_ {p : Prop} (h : p := by intro u hu; simp at hu; rcases hu with rfl | rfl <;> rfl) : p := h
theorem ap12_ {p : Prop} (h : p := by rintro w' ⟨s0, s1, s2, s3, s4⟩; go_simp; with_reducible rfl) : p := h
theorem ap13_ {p : Prop} (h : p := by rw [Nat.pow_succ] at h; exact Nat.div_lt_of_lt_mul (by omega)) : p := h
theorem ap14_ {p : Prop} (h : p := by rw [strOfNums_sz]; simp only [List.length_cons, List.length_nil]; omega) : p := h
theorem ap15_ {p : Prop} (h : p := by rw [List.length_append]; simp only [List.length_cons, List.length_nil]; omega) : p := h
theorem ap16_ {p : Prop} (h : p := by (try simp only [List.map_toArray, List.map_cons, List.map_nil]); first | done | rfl) : p := h
theorem ap17_ {p : Prop} (h : p := by first | rfl | (simp [errW_none, errW_some] <;> rfl) | (simp [*, errW_none, errW_some] <;> rfl)) : p := h
theorem ap18_ {p : Prop} (h : p := by (with_reducible repeat (first | apply Kd.V_alloc | apply Kd.V_drewN | apply Kd.V_drew)); exact HO0.out) : p := h
theorem ap19_ {p : Prop} (h : p := by (with_reducible repeat (first | apply Kd.V_alloc | apply Kd.V_drewN | apply Kd.V_drew)); exact HO_0.out) : p := h
theorem ap20_ {p : Prop} (h : p := by (with_reducible repeat (first | apply Kd.R_alloc | apply Kd.R_drewN | apply Kd.R_drew)); exact HO_3.out) : p := h
theorem ap21_ {p : Prop} (h : p := by (with_reducible repeat (first | apply Kd.V_alloc | apply Kd.V_drewN | apply Kd.V_drew)); exact HO454.out) : p := h
theorem ap22_ {p : Prop} (h : p := by (with_reducible repeat (first | apply Kd.R_alloc | apply Kd.R_drewN | apply Kd.R_drew)); exact HO457.out) : p := h
theorem ap23_ {p : Prop} (h : p := by (with_reducible repeat (first | apply Kd.V_alloc | apply Kd.V_drewN | apply Kd.V_drew)); exact HO428.out) : p := h
theorem ap24_ {p : Prop} (h : p := by (with_reducible repeat (first | apply Kd.R_alloc | apply Kd.R_drewN | apply Kd.R_drew)); exact HO385.out) : p := h
theorem ap25_ {p : Prop} (h : p := by (with_reducible repeat (first | apply Kd.V_alloc | apply Kd.V_drewN | apply Kd.V_drew)); exact HO461.out) : p := h
theorem ap26_ {p : Prop} (h : p := by (with_reducible repeat (first | apply Kd.R_alloc | apply Kd.R_drewN | apply Kd.R_drew)); exact HO435.out) : p := h
theorem ap27_ {p : Prop} (h : p := by (with_reducible repeat (first | apply Kd.R_alloc | apply Kd.R_drewN | apply Kd.R_drew)); exact HO410.out) : p := h
theorem ap28_ {p : Prop} (h : p := by (with_reducible repeat (first | apply Kd.V_alloc | apply Kd.V_drewN | apply Kd.V_drew)); exact HO432.out) : p := h
theorem ap29_ {p : Prop} (h : p := by (with_reducible repeat (first | apply Kd.R_alloc | apply Kd.R_drewN | apply Kd.R_drew)); exact HO466.out) : p := h
theorem ap30_ {p : Prop} (h : p := by (with_reducible repeat (first | apply Kd.V_alloc | apply Kd.V_drewN | apply Kd.V_drew)); exact HO364.out) : p := h
theorem ap31_ {p : Prop} (h : p := by (with_reducible repeat (first | apply Kd.R_alloc | apply Kd.R_drewN | apply Kd.R_drew)); exact HO_14.out) : p := h
theorem ap32_ {p : Prop} (h : p := by (with_reducible repeat (first | apply Kd.R_alloc | apply Kd.R_drewN | apply Kd.R_drew)); exact HO312.out) : p := h
theorem ap33_ {p : Prop} (h : p := by (with_reducible repeat (first | apply Kd.R_alloc | apply Kd.R_drewN | apply Kd.R_drew)); exact HO189.out) : p := h
theorem ap34_ {p : Prop} (h : p := by (with_reducible repeat (first | apply Kd.R_alloc | apply Kd.R_drewN | apply Kd.R_drew)); exact HO183.out) : p := h
theorem ap35_ {p : Prop} (h : p := by simp only [Act.put, List.setIfInBounds_toArray, List.set_cons_zero, List.set_cons_succ, i64_w, i32_w]; rfl) : p := h
theorem ap36_ {p : Prop} (h : p := by (with_reducible repeat (first | refine blk_drewN ?_ _ | refine blk_drew ?_ | refine blk_alloc ?_ _)); exact BK280.out) : p := h
theorem ap37_ {p : Prop} (h : p := by (with_reducible repeat (first | refine blk_drewN ?_ _ | refine blk_drew ?_ | refine blk_alloc ?_ _)); exact BK394.out) : p := h
theorem ap38_ {p : Prop} (h : p := by (with_reducible repeat (first | refine blk_drewN ?_ _ | refine blk_drew ?_ | refine blk_alloc ?_ _)); exact BK278.out) : p := h
theorem ap39_ {p : Prop} (h : p := by (with_reducible repeat (first | refine blk_drewN ?_ _ | refine blk_drew ?_ | refine blk_alloc ?_ _)); exact BK281.out) : p := h
theorem ap40_ {p : Prop} (h : p := by (with_reducible repeat (first | refine blk_drewN ?_ _ | refine blk_drew ?_ | refine blk_alloc ?_ _)); exact BK317.out) : p := h
theorem ap41_ {p : Prop} (h : p := by (with_reducible repeat (first | refine blk_drewN ?_ _ | refine blk_drew ?_ | refine blk_alloc ?_ _)); exact BK287.out) : p := h
theorem ap42_ {p : Prop} (h : p := by (with_reducible repeat (first | refine blk_drewN ?_ _ | refine blk_drew ?_ | refine blk_alloc ?_ _)); exact BK400.out) : p := h
theorem ap43_ {p : Prop} (h : p := by (with_reducible repeat (first | refine blk_drewN ?_ _ | refine blk_drew ?_ | refine blk_alloc ?_ _)); exact BK449.out) : p := h
theorem ap44_ {p : Prop} (h : p := by (with_reducible repeat (first | refine blk_drewN ?_ _ | refine blk_drew ?_ | refine blk_alloc ?_ _)); exact BK424.out) : p := h
theorem ap45_ {p : Prop} (h : p := by (with_reducible repeat (first | refine blk_drewN ?_ _ | refine blk_drew ?_ | refine blk_alloc ?_ _)); exact BK263.out) : p := h
theorem ap46_ {p : Prop} (h : p := by (with_reducible repeat (first | refine blk_drewN ?_ _ | refine blk_drew ?_ | refine blk_alloc ?_ _)); exact BK279.out) : p := h
theorem ap47_ {p : Prop} (h : p := by (with_reducible repeat (first | refine blk_drewN ?_ _ | refine blk_drew ?_ | refine blk_alloc ?_ _)); exact BK160.out) : p := h
theorem ap48_ {p : Prop} (h : p := by (with_reducible repeat (first | refine blk_drewN ?_ _ | refine blk_drew ?_ | refine blk_alloc ?_ _)); exact BK350.out) : p := h
theorem ap49_ {p : Prop} (h : p := by (with_reducible repeat (first | refine blk_drewN ?_ _ | refine blk_drew ?_ | refine blk_alloc ?_ _)); exact BK111.out) : p := h
theorem ap50_ {p : Prop} (h : p := by repeat (first | (with_reducible first | exact HB.out | apply below_alloc | apply pw_below_drewN | apply below_drew1) | exact HB.out)) : p := h
theorem ap51_ {p : Prop} (h : p := by (with_reducible repeat (first | apply Kd.V_alloc | apply Kd.V_drewN | apply Kd.V_drew)); exact Kd.V_mono HO_0.out (fun _ hk => hk.1)) : p := h
theorem ap52_ {p : Prop} (h : p := by (with_reducible repeat (first | apply Kd.R_alloc | apply Kd.R_drewN | apply Kd.R_drew)); exact Kd.R_mono HO_3.out (fun _ hk => hk.2)) : p := h
theorem ap53_ {p : Prop} (h : p := by repeat (first | (with_reducible first | exact HBW.out | apply below_alloc | apply pw_below_drewN | apply below_drew1) | exact HBW.out)) : p := h
theorem ap54_ {p : Prop} (h : p := by (try simp only [List.map_toArray, List.map_cons, List.map_nil]); first | done | rfl | (simp only [List.length_drop, List.length_take]; rfl)) : p := h
theorem ap55_ {p : Prop} (h : p := by repeat (first | (with_reducible first | exact HK.out | apply KeepBut.set_ | apply keep_drewN | apply keep_drew | apply keep_alloc) | exact HK.out)) : p := h
theorem ap56_ {p : Prop} (h : p := by (with_reducible repeat (first | apply Kd.V_alloc | apply Kd.V_drewN | apply Kd.V_drew)); exact Kd.V_mono HO0.out (fun _ hk => ⟨hk.1.1, ⟨hk.1.2, hk.2⟩⟩)) : p := h
theorem ap57_ {p : Prop} (h : p := by repeat (first | (with_reducible first | exact HB.out | apply below_alloc | apply pw_below_drewN | apply below_drew1 | refine below_set ?_ GE449.out) | exact HB.out)) : p := h
theorem ap58_ {p : Prop} (h : p := by repeat (first | (with_reducible first | exact HB.out | apply below_alloc | apply pw_below_drewN | apply below_drew1 | refine below_set ?_ GE424.out) | exact HB.out)) : p := h
theorem ap59_ {p : Prop} (h : p := by repeat (first | (with_reducible first | exact HB.out | apply below_alloc | apply pw_below_drewN | apply below_drew1 | refine below_set ?_ GE263.out) | exact HB.out)) : p := h
theorem ap60_ {p : Prop} (h : p := by repeat (first | (with_reducible first | exact HB.out | apply below_alloc | apply pw_below_drewN | apply below_drew1 | refine below_set ?_ GE317.out) | exact HB.out)) : p := h
theorem ap61_ {p : Prop} (h : p := by repeat (first | (with_reducible first | exact HB.out | apply below_alloc | apply pw_below_drewN | apply below_drew1 | refine below_set ?_ GE287.out) | exact HB.out)) : p := h
theorem ap62_ {p : Prop} (h : p := by repeat (first | (with_reducible first | exact HB.out | apply below_alloc | apply pw_below_drewN | apply below_drew1 | refine below_set ?_ GE280.out) | exact HB.out)) : p := h
theorem ap63_ {p : Prop} (h : p := by repeat (first | (with_reducible first | exact HB.out | apply below_alloc | apply pw_below_drewN | apply below_drew1 | refine below_set ?_ GE278.out) | exact HB.out)) : p := h
theorem ap64_ {p : Prop} (h : p := by repeat (first | (with_reducible first | exact HB.out | apply below_alloc | apply pw_below_drewN | apply below_drew1 | refine below_set ?_ GE394.out) | exact HB.out)) : p := h
theorem ap65_ {p : Prop} (h : p := by repeat (first | (with_reducible first | exact HB.out | apply below_alloc | apply pw_below_drewN | apply below_drew1 | refine below_set ?_ GE305.out) | exact HB.out)) : p := h
theorem ap66_ {p : Prop} (h : p := by repeat (first | (with_reducible first | exact HB.out | apply below_alloc | apply pw_below_drewN | apply below_drew1 | refine below_set ?_ GE160.out) | exact HB.out)) : p := h
theorem ap67_ {p : Prop} (h : p := by repeat (first | (with_reducible first | exact HB.out | apply below_alloc | apply pw_below_drewN | apply below_drew1 | refine below_set ?_ GE101.out) | exact HB.out)) : p := h
theorem ap68_ {p : Prop} (h : p := by repeat (first | (with_reducible first | exact HB.out | apply below_alloc | apply pw_below_drewN | apply below_drew1 | refine below_set ?_ GE350.out) | exact HB.out)) : p := h
theorem ap69_ {p : Prop} (h : p := by repeat (first | (with_reducible first | exact HB.out | apply below_alloc | apply pw_below_drewN | apply below_drew1 | refine below_set ?_ GE111.out) | exact HB.out)) : p := h
theorem ap70_ {p : Prop} (h : p := by repeat (first | (with_reducible first | exact HB.out | apply below_alloc | apply pw_below_drewN | apply below_drew1 | refine below_set ?_ GE286.out) | exact HB.out)) : p := h
theorem ap71_ {p : Prop} (h : p := by repeat (first | (with_reducible first | exact HI0.out | apply IsS88.alloc | apply IsS88.drewN | apply IsS88.drew | apply IsS88.set_0 | apply IsS88.set_1) | exact HI0.out)) : p := h
theorem ap72_ {p : Prop} (h : p := by repeat (first | (with_reducible first | exact HB.out | apply below_alloc | apply pw_below_drewN | apply below_drew1 | refine below_set ?_ (IsS88.ge HI0.out)) | exact HB.out)) : p := h
theorem ap73_ {p : Prop} (h : p := by repeat (first | (with_reducible first | exact HB.out | apply below_alloc | apply pw_below_drewN | apply below_drew1 | refine below_set ?_ GE394.out | refine below_set ?_ GE400.out) | exact HB.out)) : p := h
theorem ap74_ {p : Prop} (h : p := by repeat (first | (with_reducible first | exact HB.out | apply below_alloc | apply pw_below_drewN | apply below_drew1 | refine below_set ?_ GE280.out | refine below_set ?_ GE281.out) | exact HB.out)) : p := h
theorem ap75_ {p : Prop} (h : p := by repeat (first | (with_reducible first | exact HB.out | apply below_alloc | apply pw_below_drewN | apply below_drew1 | refine below_set ?_ GE278.out | refine below_set ?_ GE279.out) | exact HB.out)) : p := h
theorem ap76_ {p : Prop} (h : p := by repeat (first | (with_reducible first | exact HB.out | apply below_alloc | apply pw_below_drewN | apply below_drew1 | refine below_set ?_ GE317.out | refine below_set ?_ GE321.out) | exact HB.out)) : p := h
theorem ap77_ {p : Prop} (h : p := by repeat (first | (with_reducible first | exact HB.out | apply below_alloc | apply pw_below_drewN | apply below_drew1 | refine below_set ?_ GE287.out | refine below_set ?_ GE291.out) | exact HB.out)) : p := h
theorem ap78_ {p : Prop} (h : p := by first | (simp only [putAll, Act.put, List.setIfInBounds_toArray, List.set_cons_zero, List.set_cons_succ]; done) | (simp only [putAll, Act.put, List.setIfInBounds_toArray, List.set_cons_zero, List.set_cons_succ]; rfl)) : p := h
theorem ap79_ {p : Prop} (h : p := by repeat (first | (with_reducible first | exact HB.out | apply below_alloc | apply pw_below_drewN | apply below_drew1 | refine below_set ?_ GE317.out | refine below_set ?_ GE321.out | refine below_set ?_ GE322.out) | exact HB.out)) : p := h
theorem ap80_ {p : Prop} (h : p := by repeat (first | (with_reducible first | exact HB.out | apply below_alloc | apply pw_below_drewN | apply below_drew1 | refine below_set ?_ GE287.out | refine below_set ?_ GE291.out | refine below_set ?_ GE292.out) | exact HB.out)) : p := h
theorem ap81_ {p : Prop} (h : p := by repeat (first | (with_reducible first | exact HB.out | apply below_alloc | apply pw_below_drewN | apply below_drew1 | refine below_set ?_ GE280.out | refine below_set ?_ GE281.out | refine below_set ?_ GE285.out) | exact HB.out)) : p := h
theorem ap82_ {p : Prop} (h : p := by (with_reducible repeat (first | refine blk_drewN ?_ _ | refine blk_drew ?_ | refine blk_alloc ?_ _)); refine blk_far ?_ NB321_322.out _; (with_reducible repeat (first | refine blk_drewN ?_ _ | refine blk_drew ?_ | refine blk_alloc ?_ _)); refine blk_far ?_ NB321_322.out _; (with_reducible repeat (first | refine blk_drewN ?_ _ | refine blk_drew ?_ | refine blk_alloc ?_ _)); exact BK321.out) : p := h
theorem ap83_ {p : Prop} (h : p := by (with_reducible repeat (first | refine blk_drewN ?_ _ | refine blk_drew ?_ | refine blk_alloc ?_ _)); refine blk_far ?_ NB317_322.out _; (with_reducible repeat (first | refine blk_drewN ?_ _ | refine blk_drew ?_ | refine blk_alloc ?_ _)); refine blk_far ?_ NB317_322.out _; (with_reducible repeat (first | refine blk_drewN ?_ _ | refine blk_drew ?_ | refine blk_alloc ?_ _)); exact BK317.out) : p := h
theorem ap84_ {p : Prop} (h : p := by (with_reducible repeat (first | refine blk_drewN ?_ _ | refine blk_drew ?_ | refine blk_alloc ?_ _)); refine blk_far ?_ NB291_292.out _; (with_reducible repeat (first | refine blk_drewN ?_ _ | refine blk_drew ?_ | refine blk_alloc ?_ _)); refine blk_far ?_ NB291_292.out _; (with_reducible repeat (first | refine blk_drewN ?_ _ | refine blk_drew ?_ | refine blk_alloc ?_ _)); exact BK291.out) : p := h
theorem ap85_ {p : Prop} (h : p := by (with_reducible repeat (first | refine blk_drewN ?_ _ | refine blk_drew ?_ | refine blk_alloc ?_ _)); refine blk_far ?_ NB287_292.out _; (with_reducible repeat (first | refine blk_drewN ?_ _ | refine blk_drew ?_ | refine blk_alloc ?_ _)); refine blk_far ?_ NB287_292.out _; (with_reducible repeat (first | refine blk_drewN ?_ _ | refine blk_drew ?_ | refine blk_alloc ?_ _)); exact BK287.out) : p := h
theorem ap86_ {p : Prop} (h : p := by (with_reducible repeat (first | refine blk_drewN ?_ _ | refine blk_drew ?_ | refine blk_alloc ?_ _)); refine blk_put (cs := #[.string t306, .int .i64 0]) ?_ 1 _ rfl; (with_reducible repeat (first | refine blk_drewN ?_ _ | refine blk_drew ?_ | refine blk_alloc ?_ _)); refine blk_put (cs := #[.string t303, .int .i64 0]) ?_ 0 _ rfl; (with_reducible repeat (first | refine blk_drewN ?_ _ | refine blk_drew ?_ | refine blk_alloc ?_ _)); exact BK305.out) : p := h
theorem ap87_ {p : Prop} (h : p := by (with_reducible repeat (first | refine blk_drewN ?_ _ | refine blk_drew ?_ | refine blk_alloc ?_ _)); refine blk_put (cs := #[.string a0_0, .int .i64 0]) ?_ 1 _ rfl; (with_reducible repeat (first | refine blk_drewN ?_ _ | refine blk_drew ?_ | refine blk_alloc ?_ _)); refine blk_put (cs := #[.string ⟨#[]⟩, .int .i64 0]) ?_ 0 _ rfl; (with_reducible repeat (first | refine blk_drewN ?_ _ | refine blk_drew ?_ | refine blk_alloc ?_ _)); exact BK279.out) : p := h
theorem ap88_ {p : Prop} (h : p := by (with_reducible repeat (first | refine blk_drewN ?_ _ | refine blk_drew ?_ | refine blk_alloc ?_ _)); refine blk_put (cs := #[.string t319, .int .i64 0]) ?_ 1 _ rfl; (with_reducible repeat (first | refine blk_drewN ?_ _ | refine blk_drew ?_ | refine blk_alloc ?_ _)); refine blk_put (cs := #[.string ⟨#[]⟩, .int .i64 0]) ?_ 0 _ rfl; (with_reducible repeat (first | refine blk_drewN ?_ _ | refine blk_drew ?_ | refine blk_alloc ?_ _)); exact BK322.out) : p := h
theorem ap89_ {p : Prop} (h : p := by (with_reducible repeat (first | refine blk_drewN ?_ _ | refine blk_drew ?_ | refine blk_alloc ?_ _)); refine blk_put (cs := #[.string t289, .int .i64 0]) ?_ 1 _ rfl; (with_reducible repeat (first | refine blk_drewN ?_ _ | refine blk_drew ?_ | refine blk_alloc ?_ _)); refine blk_put (cs := #[.string ⟨#[]⟩, .int .i64 0]) ?_ 0 _ rfl; (with_reducible repeat (first | refine blk_drewN ?_ _ | refine blk_drew ?_ | refine blk_alloc ?_ _)); exact BK292.out) : p := h
theorem ap90_ {p : Prop} (h : p := by (with_reducible repeat (first | refine blk_drewN ?_ _ | refine blk_drew ?_ | refine blk_alloc ?_ _)); refine blk_put (cs := #[.string t303, .int .i64 0]) ?_ 1 _ rfl; (with_reducible repeat (first | refine blk_drewN ?_ _ | refine blk_drew ?_ | refine blk_alloc ?_ _)); refine blk_put (cs := #[.string ⟨#[]⟩, .int .i64 0]) ?_ 0 _ rfl; (with_reducible repeat (first | refine blk_drewN ?_ _ | refine blk_drew ?_ | refine blk_alloc ?_ _)); exact BK305.out) : p := h
theorem ap91_ {p : Prop} (h : p := by (with_reducible repeat (first | refine blk_drewN ?_ _ | refine blk_drew ?_ | refine blk_alloc ?_ _)); refine blk_far ?_ NB317_321.out _; (with_reducible repeat (first | refine blk_drewN ?_ _ | refine blk_drew ?_ | refine blk_alloc ?_ _)); refine blk_far ?_ NB317_322.out _; (with_reducible repeat (first | refine blk_drewN ?_ _ | refine blk_drew ?_ | refine blk_alloc ?_ _)); refine blk_far ?_ NB317_322.out _; (with_reducible repeat (first | refine blk_drewN ?_ _ | refine blk_drew ?_ | refine blk_alloc ?_ _)); exact BK317.out) : p := h
theorem ap92_ {p : Prop} (h : p := by (with_reducible repeat (first | refine blk_drewN ?_ _ | refine blk_drew ?_ | refine blk_alloc ?_ _)); refine blk_far ?_ NB287_291.out _; (with_reducible repeat (first | refine blk_drewN ?_ _ | refine blk_drew ?_ | refine blk_alloc ?_ _)); refine blk_far ?_ NB287_292.out _; (with_reducible repeat (first | refine blk_drewN ?_ _ | refine blk_drew ?_ | refine blk_alloc ?_ _)); refine blk_far ?_ NB287_292.out _; (with_reducible repeat (first | refine blk_drewN ?_ _ | refine blk_drew ?_ | refine blk_alloc ?_ _)); exact BK287.out) : p := h
theorem ap93_ {p : Prop} (h : p := by (with_reducible repeat (first | apply Kd.V_alloc | apply Kd.V_drewN | apply Kd.V_drew)); exact Kd.V_mono (Kd.V_far (p := ⟨gb449, 4, none⟩) (Kd.V_far (p := ⟨gb449, 3, none⟩) (Kd.V_far (p := ⟨gb449, 2, none⟩) (Kd.V_far (p := ⟨gb449, 1, none⟩) (Kd.V_far (p := ⟨gb449, 0, none⟩) (Kd.V_mono HO0.out (fun k_ hk => (⟨hk, hk.2⟩ : _ ∧ k_ ≠ gb449))) (fun _ hk => hk.2) (.string t443)) (fun _ hk => hk.2) (.string t444)) (fun _ hk => hk.2) (.string t445)) (fun _ hk => hk.2) (.string t446)) (fun _ hk => hk.2) (.string t447)) (fun _ hk => hk.1.1)) : p := h
theorem ap94_ {p : Prop} (h : p := by (with_reducible repeat (first | refine blk_drewN ?_ _ | refine blk_drew ?_ | refine blk_alloc ?_ _)); refine blk_put (cs := #[.string a1, .string t325, .string t328, .string ⟨#[]⟩]) ?_ 3 _ rfl; (with_reducible repeat (first | refine blk_drewN ?_ _ | refine blk_drew ?_ | refine blk_alloc ?_ _)); refine blk_far ?_ NB321_322.out _; (with_reducible repeat (first | refine blk_drewN ?_ _ | refine blk_drew ?_ | refine blk_alloc ?_ _)); refine blk_far ?_ NB321_322.out _; (with_reducible repeat (first | refine blk_drewN ?_ _ | refine blk_drew ?_ | refine blk_alloc ?_ _)); exact BK321.out) : p := h
theorem ap95_ {p : Prop} (h : p := by (with_reducible repeat (first | refine blk_drewN ?_ _ | refine blk_drew ?_ | refine blk_alloc ?_ _)); refine blk_put (cs := #[.string a1, .string t325, .string ⟨#[]⟩, .string ⟨#[]⟩]) ?_ 2 _ rfl; (with_reducible repeat (first | refine blk_drewN ?_ _ | refine blk_drew ?_ | refine blk_alloc ?_ _)); refine blk_far ?_ NB321_322.out _; (with_reducible repeat (first | refine blk_drewN ?_ _ | refine blk_drew ?_ | refine blk_alloc ?_ _)); refine blk_far ?_ NB321_322.out _; (with_reducible repeat (first | refine blk_drewN ?_ _ | refine blk_drew ?_ | refine blk_alloc ?_ _)); exact BK321.out) : p := h
theorem ap96_ {p : Prop} (h : p := by (with_reducible repeat (first | refine blk_drewN ?_ _ | refine blk_drew ?_ | refine blk_alloc ?_ _)); refine blk_far ?_ NB322_321.out _; (with_reducible repeat (first | refine blk_drewN ?_ _ | refine blk_drew ?_ | refine blk_alloc ?_ _)); refine blk_put (cs := #[.string t323, .int .i64 0]) ?_ 1 _ rfl; (with_reducible repeat (first | refine blk_drewN ?_ _ | refine blk_drew ?_ | refine blk_alloc ?_ _)); refine blk_put (cs := #[.string t319, .int .i64 0]) ?_ 0 _ rfl; (with_reducible repeat (first | refine blk_drewN ?_ _ | refine blk_drew ?_ | refine blk_alloc ?_ _)); exact BK322.out) : p := h
theorem ap97_ {p : Prop} (h : p := by (with_reducible repeat (first | refine blk_drewN ?_ _ | refine blk_drew ?_ | refine blk_alloc ?_ _)); refine blk_far ?_ NB292_291.out _; (with_reducible repeat (first | refine blk_drewN ?_ _ | refine blk_drew ?_ | refine blk_alloc ?_ _)); refine blk_put (cs := #[.string t293, .int .i64 0]) ?_ 1 _ rfl; (with_reducible repeat (first | refine blk_drewN ?_ _ | refine blk_drew ?_ | refine blk_alloc ?_ _)); refine blk_put (cs := #[.string t289, .int .i64 0]) ?_ 0 _ rfl; (with_reducible repeat (first | refine blk_drewN ?_ _ | refine blk_drew ?_ | refine blk_alloc ?_ _)); exact BK292.out) : p := h
theorem ap98_ {p : Prop} (h : p := by (with_reducible repeat (first | refine blk_drewN ?_ _ | refine blk_drew ?_ | refine blk_alloc ?_ _)); refine blk_put (cs := #[.string a1, .string ⟨#[]⟩, .string ⟨#[]⟩, .string ⟨#[]⟩]) ?_ 1 _ rfl; (with_reducible repeat (first | refine blk_drewN ?_ _ | refine blk_drew ?_ | refine blk_alloc ?_ _)); refine blk_far ?_ NB321_322.out _; (with_reducible repeat (first | refine blk_drewN ?_ _ | refine blk_drew ?_ | refine blk_alloc ?_ _)); refine blk_far ?_ NB321_322.out _; (with_reducible repeat (first | refine blk_drewN ?_ _ | refine blk_drew ?_ | refine blk_alloc ?_ _)); exact BK321.out) : p := h
theorem ap99_ {p : Prop} (h : p := by (with_reducible repeat (first | refine blk_drewN ?_ _ | refine blk_drew ?_ | refine blk_alloc ?_ _)); refine blk_far ?_ NB322_321.out _; (with_reducible repeat (first | refine blk_drewN ?_ _ | refine blk_drew ?_ | refine blk_alloc ?_ _)); refine blk_put (cs := #[.string t326, .int .i64 t324]) ?_ 1 _ rfl; (with_reducible repeat (first | refine blk_drewN ?_ _ | refine blk_drew ?_ | refine blk_alloc ?_ _)); refine blk_put (cs := #[.string t323, .int .i64 t324]) ?_ 0 _ rfl; (with_reducible repeat (first | refine blk_drewN ?_ _ | refine blk_drew ?_ | refine blk_alloc ?_ _)); exact BK322.out) : p := h
theorem ap100_ {p : Prop} (h : p := by (with_reducible repeat (first | refine blk_drewN ?_ _ | refine blk_drew ?_ | refine blk_alloc ?_ _)); refine blk_far ?_ NB292_291.out _; (with_reducible repeat (first | refine blk_drewN ?_ _ | refine blk_drew ?_ | refine blk_alloc ?_ _)); refine blk_put (cs := #[.string t296, .int .i64 t294]) ?_ 1 _ rfl; (with_reducible repeat (first | refine blk_drewN ?_ _ | refine blk_drew ?_ | refine blk_alloc ?_ _)); refine blk_put (cs := #[.string t293, .int .i64 t294]) ?_ 0 _ rfl; (with_reducible repeat (first | refine blk_drewN ?_ _ | refine blk_drew ?_ | refine blk_alloc ?_ _)); exact BK292.out) : p := h
theorem ap101_ {p : Prop} (h : p := by (with_reducible repeat (first | refine blk_drewN ?_ _ | refine blk_drew ?_ | refine blk_alloc ?_ _)); refine blk_far ?_ NB322_321.out _; (with_reducible repeat (first | refine blk_drewN ?_ _ | refine blk_drew ?_ | refine blk_alloc ?_ _)); refine blk_put (cs := #[.string t329, .int .i64 t327]) ?_ 1 _ rfl; (with_reducible repeat (first | refine blk_drewN ?_ _ | refine blk_drew ?_ | refine blk_alloc ?_ _)); refine blk_put (cs := #[.string t326, .int .i64 t327]) ?_ 0 _ rfl; (with_reducible repeat (first | refine blk_drewN ?_ _ | refine blk_drew ?_ | refine blk_alloc ?_ _)); exact BK322.out) : p := h
theorem ap102_ {p : Prop} (h : p := by (with_reducible repeat (first | refine blk_drewN ?_ _ | refine blk_drew ?_ | refine blk_alloc ?_ _)); refine blk_far ?_ NB292_291.out _; (with_reducible repeat (first | refine blk_drewN ?_ _ | refine blk_drew ?_ | refine blk_alloc ?_ _)); refine blk_put (cs := #[.string t299, .int .i64 t297]) ?_ 1 _ rfl; (with_reducible repeat (first | refine blk_drewN ?_ _ | refine blk_drew ?_ | refine blk_alloc ?_ _)); refine blk_put (cs := #[.string t296, .int .i64 t297]) ?_ 0 _ rfl; (with_reducible repeat (first | refine blk_drewN ?_ _ | refine blk_drew ?_ | refine blk_alloc ?_ _)); exact BK292.out) : p := h
theorem ap103_ {p : Prop} (h : p := by (with_reducible repeat (first | refine blk_drewN ?_ _ | refine blk_drew ?_ | refine blk_alloc ?_ _)); refine blk_put (cs := #[.string a1, .string a2, .string t295, .string t298, .string ⟨#[]⟩]) ?_ 4 _ rfl; (with_reducible repeat (first | refine blk_drewN ?_ _ | refine blk_drew ?_ | refine blk_alloc ?_ _)); refine blk_far ?_ NB291_292.out _; (with_reducible repeat (first | refine blk_drewN ?_ _ | refine blk_drew ?_ | refine blk_alloc ?_ _)); refine blk_far ?_ NB291_292.out _; (with_reducible repeat (first | refine blk_drewN ?_ _ | refine blk_drew ?_ | refine blk_alloc ?_ _)); exact BK291.out) : p := h
theorem ap104_ {p : Prop} (h : p := by (with_reducible repeat (first | refine blk_drewN ?_ _ | refine blk_drew ?_ | refine blk_alloc ?_ _)); refine blk_put (cs := #[.string a1, .string a2, .string t295, .string ⟨#[]⟩, .string ⟨#[]⟩]) ?_ 3 _ rfl; (with_reducible repeat (first | refine blk_drewN ?_ _ | refine blk_drew ?_ | refine blk_alloc ?_ _)); refine blk_far ?_ NB291_292.out _; (with_reducible repeat (first | refine blk_drewN ?_ _ | refine blk_drew ?_ | refine blk_alloc ?_ _)); refine blk_far ?_ NB291_292.out _; (with_reducible repeat (first | refine blk_drewN ?_ _ | refine blk_drew ?_ | refine blk_alloc ?_ _)); exact BK291.out) : p := h
theorem ap105_ {p : Prop} (h : p := by (with_reducible repeat (first | refine blk_drewN ?_ _ | refine blk_drew ?_ | refine blk_alloc ?_ _)); refine blk_put (cs := #[.string a1, .string a2, .string ⟨#[]⟩, .string ⟨#[]⟩, .string ⟨#[]⟩]) ?_ 2 _ rfl; (with_reducible repeat (first | refine blk_drewN ?_ _ | refine blk_drew ?_ | refine blk_alloc ?_ _)); refine blk_far ?_ NB291_292.out _; (with_reducible repeat (first | refine blk_drewN ?_ _ | refine blk_drew ?_ | refine blk_alloc ?_ _)); refine blk_far ?_ NB291_292.out _; (with_reducible repeat (first | refine blk_drewN ?_ _ | refine blk_drew ?_ | refine blk_alloc ?_ _)); exact BK291.out) : p := h
theorem ap106_ {p : Prop} (h : p := by (with_reducible repeat (first | refine blk_drewN ?_ _ | refine blk_drew ?_ | refine blk_alloc ?_ _)); refine blk_far ?_ NB317_321.out _; (with_reducible repeat (first | refine blk_drewN ?_ _ | refine blk_drew ?_ | refine blk_alloc ?_ _)); refine blk_far ?_ NB317_321.out _; (with_reducible repeat (first | refine blk_drewN ?_ _ | refine blk_drew ?_ | refine blk_alloc ?_ _)); refine blk_far ?_ NB317_321.out _; (with_reducible repeat (first | refine blk_drewN ?_ _ | refine blk_drew ?_ | refine blk_alloc ?_ _)); refine blk_far ?_ NB317_321.out _; (with_reducible repeat (first | refine blk_drewN ?_ _ | refine blk_drew ?_ | refine blk_alloc ?_ _)); exact BK317.out) : p := h
theorem ap107_ {p : Prop} (h : p := by (with_reducible repeat (first | refine blk_drewN ?_ _ | refine blk_drew ?_ | refine blk_alloc ?_ _)); refine blk_put (cs := #[.string a0_0, .int .i64 0]) ?_ 1 _ rfl; (with_reducible repeat (first | refine blk_drewN ?_ _ | refine blk_drew ?_ | refine blk_alloc ?_ _)); refine blk_put (cs := #[.string ⟨#[]⟩, .int .i64 0]) ?_ 0 _ rfl; (with_reducible repeat (first | refine blk_drewN ?_ _ | refine blk_drew ?_ | refine blk_alloc ?_ _)); refine blk_far ?_ NB281_285.out _; (with_reducible repeat (first | refine blk_drewN ?_ _ | refine blk_drew ?_ | refine blk_alloc ?_ _)); refine blk_far ?_ NB281_285.out _; (with_reducible repeat (first | refine blk_drewN ?_ _ | refine blk_drew ?_ | refine blk_alloc ?_ _)); exact BK281.out) : p := h
theorem ap108_ {p : Prop} (h : p := by (with_reducible repeat (first | refine blk_drewN ?_ _ | refine blk_drew ?_ | refine blk_alloc ?_ _)); refine blk_far ?_ NB287_291.out _; (with_reducible repeat (first | refine blk_drewN ?_ _ | refine blk_drew ?_ | refine blk_alloc ?_ _)); refine blk_far ?_ NB287_291.out _; (with_reducible repeat (first | refine blk_drewN ?_ _ | refine blk_drew ?_ | refine blk_alloc ?_ _)); refine blk_far ?_ NB287_291.out _; (with_reducible repeat (first | refine blk_drewN ?_ _ | refine blk_drew ?_ | refine blk_alloc ?_ _)); refine blk_far ?_ NB287_291.out _; (with_reducible repeat (first | refine blk_drewN ?_ _ | refine blk_drew ?_ | refine blk_alloc ?_ _)); refine blk_far ?_ NB287_291.out _; (with_reducible repeat (first | refine blk_drewN ?_ _ | refine blk_drew ?_ | refine blk_alloc ?_ _)); exact BK287.out) : p := h
theorem ap109_ {p : Prop} (h : p := by (with_reducible repeat (first | refine blk_drewN ?_ _ | refine blk_drew ?_ | refine blk_alloc ?_ _)); refine blk_put (cs := #[.string a1, .string ⟨#[]⟩, .string ⟨#[]⟩, .string ⟨#[]⟩]) ?_ 3 _ rfl; (with_reducible repeat (first | refine blk_drewN ?_ _ | refine blk_drew ?_ | refine blk_alloc ?_ _)); refine blk_put (cs := #[.string a1, .string ⟨#[]⟩, .string ⟨#[]⟩, .string ⟨#[]⟩]) ?_ 2 _ rfl; (with_reducible repeat (first | refine blk_drewN ?_ _ | refine blk_drew ?_ | refine blk_alloc ?_ _)); refine blk_put (cs := #[.string a1, .string ⟨#[]⟩, .string ⟨#[]⟩, .string ⟨#[]⟩]) ?_ 1 _ rfl; (with_reducible repeat (first | refine blk_drewN ?_ _ | refine blk_drew ?_ | refine blk_alloc ?_ _)); refine blk_put (cs := #[.string ⟨#[]⟩, .string ⟨#[]⟩, .string ⟨#[]⟩, .string ⟨#[]⟩]) ?_ 0 _ rfl; (with_reducible repeat (first | refine blk_drewN ?_ _ | refine blk_drew ?_ | refine blk_alloc ?_ _)); exact BK321.out) : p := h
theorem ap110_ {p : Prop} (h : p := by (with_reducible repeat (first | refine blk_drewN ?_ _ | refine blk_drew ?_ | refine blk_alloc ?_ _)); refine blk_put (cs := #[.string a1, .string a2, .string ⟨#[]⟩, .string ⟨#[]⟩, .string ⟨#[]⟩]) ?_ 4 _ rfl; (with_reducible repeat (first | refine blk_drewN ?_ _ | refine blk_drew ?_ | refine blk_alloc ?_ _)); refine blk_put (cs := #[.string a1, .string a2, .string ⟨#[]⟩, .string ⟨#[]⟩, .string ⟨#[]⟩]) ?_ 3 _ rfl; (with_reducible repeat (first | refine blk_drewN ?_ _ | refine blk_drew ?_ | refine blk_alloc ?_ _)); refine blk_put (cs := #[.string a1, .string a2, .string ⟨#[]⟩, .string ⟨#[]⟩, .string ⟨#[]⟩]) ?_ 2 _ rfl; (with_reducible repeat (first | refine blk_drewN ?_ _ | refine blk_drew ?_ | refine blk_alloc ?_ _)); refine blk_put (cs := #[.string a1, .string ⟨#[]⟩, .string ⟨#[]⟩, .string ⟨#[]⟩, .string ⟨#[]⟩]) ?_ 1 _ rfl; (with_reducible repeat (first | refine blk_drewN ?_ _ | refine blk_drew ?_ | refine blk_alloc ?_ _)); refine blk_put (cs := #[.string ⟨#[]⟩, .string ⟨#[]⟩, .string ⟨#[]⟩, .string ⟨#[]⟩, .string ⟨#[]⟩]) ?_ 0 _ rfl; (with_reducible repeat (first | refine blk_drewN ?_ _ | refine blk_drew ?_ | refine blk_alloc ?_ _)); exact BK291.out) : p := h
def errW : Option Int → Value
 | none => .nilIface
 | some c => .iface 0 (.int .i64 c)
theorem errW_none : errW none = .nilIface := rfl
theorem errW_some (c : Int) : errW (some c) = .iface 0 (.int .i64 c) := rfl
theorem my_bytes_cell (W : World) (e : TypeId) (s : ByteArray) (k g : Nat) (hg : g = W.heap.size) (hk : k < s.size) : (Lib.bytesWorld W e s).cell? ⟨g, k, none⟩ = some (.int .u8 (bt s k)) := by
 subst hg
 rw [Lib.bytesWorld_cell W e s k hk]
 have := bt_at s k hk
 rw [← this]
 have h' : k < s.data.toList.length := by rw [data_length]; exact hk
 simp [List.getD_eq_getElem?_getD, List.getElem?_eq_getElem h']
 rfl
def ofL (l : List UInt8) : ByteArray := ⟨l.toArray⟩
theorem ofL_toList (l : List UInt8) : (ofL l).toList = l := by rw [ByteArray.toList_eq]; simp [ofL]
theorem ofL_of (s : ByteArray) : ofL s.toList = s := by
 rw [ByteArray.toList_eq]; simp [ofL]
theorem ba_ext {s t : ByteArray} (h : s.toList = t.toList) : s = t := by rw [← ofL_of s, ← ofL_of t, h]
theorem ba_size (s : ByteArray) : s.size = s.toList.length := by rw [ByteArray.toList_eq, data_length]
theorem ofL_size (l : List UInt8) : (ofL l).size = l.length := by rw [ba_size, ofL_toList]
theorem ba_append (s t : ByteArray) : (s ++ t).toList = s.toList ++ t.toList := by
 simp [ByteArray.toList_eq]
theorem ba_extract (s : ByteArray) (a b : Nat) : (s.extract a b).toList = (s.toList.take b).drop a := by
 simp only [ByteArray.toList_eq, ByteArray.data_extract, Array.toList_extract, List.extract_eq_take_drop]
 rw [List.drop_take]
theorem bt_toList (s : ByteArray) (i : Int) (h : 0 ≤ i) : bt s i = ((s.toList.getD i.toNat 0).toNat : Int) := by
 unfold bt
 split
 ·rename_i h'
  have h2 : i.toNat < s.data.toList.length := by rw [data_length]; exact h'
  rw [ByteArray.toList_eq]
  simp [List.getD_eq_getElem?_getD, List.getElem?_eq_getElem h2]
  rfl
 ·rename_i h'
  have h2 : s.data.toList.length ≤ i.toNat := by rw [data_length]; omega
  rw [ByteArray.toList_eq]
  simp [List.getD_eq_getElem?_getD, List.getElem?_eq_none h2]
theorem bt_get (s : ByteArray) (k : Nat) (h : k < s.toList.length) : bt s k = ((s.toList[k]).toNat : Int) := by
 rw [bt_toList s k (by omega)]
 simp [List.getD_eq_getElem?_getD, List.getElem?_eq_getElem h]
def dec (n : Nat) : List UInt8 := if h : n < 10 then [UInt8.ofNat (48 + n)] else dec (n / 10) ++ [UInt8.ofNat (48 + n % 10)]
termination_by n
decreasing_by omega
def isDig (c : UInt8) : Prop := 48 ≤ c.toNat ∧ c.toNat ≤ 57
instance (c : UInt8) : Decidable (isDig c) := by unfold isDig; infer_instance
def dstep (n : Nat) (c : UInt8) : Nat := n * 10 + (c.toNat - 48)
def dval (l : List UInt8) : Nat := l.foldl dstep 0
theorem dec_lt {n : Nat} (h : n < 10) : dec n = [UInt8.ofNat (48 + n)] := by rw [dec, dif_pos h]
theorem dec_ge {n : Nat} (h : ¬ n < 10) : dec n = dec (n / 10) ++ [UInt8.ofNat (48 + n % 10)] := by rw [dec, dif_neg h]
theorem dig_toNat {n : Nat} (h : n < 10) : (UInt8.ofNat (48 + n)).toNat = 48 + n := by simp [UInt8.toNat_ofNat']; omega
theorem dval_append (l m : List UInt8) : dval (l ++ m) = m.foldl dstep (dval l) := by unfold dval; rw [List.foldl_append]
theorem dval_snoc (l : List UInt8) (c : UInt8) : dval (l ++ [c]) = dval l * 10 + (c.toNat - 48) := by rw [dval_append]; rfl
theorem dec_ne (n : Nat) : dec n ≠ [] := by
 by_cases h : n < 10
 ·rw [dec_lt h]; simp
 ·rw [dec_ge h]; simp
theorem dec_len_pos (n : Nat) : 0 < (dec n).length := List.length_pos_iff.2 (dec_ne n)
theorem dec_len_le (k : Nat) : ∀ n, n < 10 ^ (k + 1) → (dec n).length ≤ k + 1 := by
 induction k with
 | zero => intro n h; rw [dec_lt (by simpa using h)]; simp
 | succ k ih =>
  intro n h
  by_cases h1 : n < 10
  ·rw [dec_lt h1]; simp
  ·rw [dec_ge h1, List.length_append]
   have h2 : n / 10 < 10 ^ (k + 1) := by rw [Nat.pow_succ] at h; omega
   have := ih _ h2
   simp; omega
theorem head_app (l m : List UInt8) (h : l ≠ []) : (l ++ m).head? = l.head? := by
 cases l with
 | nil => exact absurd rfl h
 | cons c l => rfl
theorem snocInd {P : List UInt8 → Prop} (h0 : P []) (h1 : ∀ l c, P l → P (l ++ [c])) : ∀ l, P l := by
 intro l
 rw [← List.reverse_reverse l]
 induction l.reverse with
 | nil => exact h0
 | cons c t ih => rw [List.reverse_cons]; exact h1 _ _ ih
def plainDec (l : List UInt8) : Prop := l.length = 1 ∨ l.head? ≠ some 48
theorem dec_head (n : Nat) : plainDec (dec n) := by
 induction n using Nat.strongRecOn with
 | _ n ih =>
  by_cases h : n < 10
  ·rw [dec_lt h]; exact .inl rfl
  ·right
   rw [dec_ge h]
   have hd := ih (n / 10) (by omega)
   rcases hd with hd | hd
   ·by_cases h2 : n / 10 < 10
    ·rw [dec_lt h2]
     simp only [List.cons_append, List.head?_cons, ne_eq, Option.some.injEq]
     intro he
     have := congrArg UInt8.toNat he
     rw [dig_toNat h2] at this
     simp at this
     omega
    ·exfalso
     rw [dec_ge h2, List.length_append] at hd
     have := dec_len_pos (n / 10 / 10)
     simp only [List.length_cons, List.length_nil] at hd
     omega
   ·rw [head_app _ _ (dec_ne _)]; exact hd
theorem uint8_dig {c : UInt8} (h : isDig c) : UInt8.ofNat (48 + (c.toNat - 48)) = c := by
 unfold isDig at h
 rw [show 48 + (c.toNat - 48) = c.toNat by omega]
 exact UInt8.ofNat_toNat
theorem foldl_dstep_ge (l : List UInt8) : ∀ n, n ≤ l.foldl dstep n := by
 induction l with
 | nil => intro n; exact Nat.le_refl _
 | cons c l ih =>
  intro n
  refine Nat.le_trans ?_ (ih _)
  unfold dstep; omega
theorem foldl_dstep_pow (l : List UInt8) : ∀ n, n * 10 ^ l.length ≤ l.foldl dstep n := by
 induction l with
 | nil => intro n; simp
 | cons c l ih =>
  intro n
  refine Nat.le_trans ?_ (ih (dstep n c))
  rw [List.length_cons, Nat.pow_succ, ← Nat.mul_assoc, Nat.mul_right_comm]
  refine Nat.mul_le_mul_right _ ?_
  unfold dstep; omega
theorem dec_dval : ∀ (l : List UInt8) (hl : ∀ c ∈ l, isDig c) (hn : l ≠ []) (hp : plainDec l), dec (dval l) = l := by
 refine snocInd (fun _ hn => absurd rfl hn) ?_
 ·intro l c ih hl hn hp
  rw [dval_snoc]
  have hc : isDig c := hl c (by simp)
  have hc' := hc
  unfold isDig at hc'
  by_cases h0 : l = []
  ·subst h0
   show dec (0 * 10 + _) = _
   rw [dec_lt (by omega), show 48 + (0 * 10 + (c.toNat - 48)) = 48 + (c.toNat - 48) by omega, uint8_dig hc]; rfl
  ·have hpl : plainDec l := by
    rcases hp with hp | hp
    ·exfalso
     rw [List.length_append] at hp
     have := List.length_pos_iff.2 h0
     simp only [List.length_cons, List.length_nil] at hp
     omega
    ·right
     rwa [head_app _ _ h0] at hp
   have hdl : ∀ d ∈ l, isDig d := fun d hd => hl d (by simp [hd])
   have ih' := ih hdl h0 hpl
   have hpos : 0 < dval l := by
    obtain ⟨d, t, rfl⟩ := List.exists_cons_of_ne_nil h0
    have hd : isDig d := hdl d (by simp)
    unfold isDig at hd
    have hd0 : d.toNat ≠ 48 := by
     intro he
     rcases hp with hp | hp
     ·rw [List.length_append] at hp; simp at hp
     ·apply hp
      simp only [List.cons_append, List.head?_cons, Option.some.injEq]
      exact UInt8.toNat_inj.1 he
    have := foldl_dstep_ge t (dstep 0 d)
    show 0 < List.foldl dstep (dstep 0 d) t
    unfold dstep at this ⊢
    omega
   rw [dec_ge (by omega), show (dval l * 10 + (c.toNat - 48)) / 10 = dval l by omega, show (dval l * 10 + (c.toNat - 48)) % 10 = c.toNat - 48 by omega, ih', uint8_dig hc]
theorem w64 {x : Int} (h0 : -9223372036854775808 ≤ x) (h1 : x ≤ 9223372036854775807) : wrap64 x = x := by unfold wrap64; omega
theorem my_alloc_new (w : World) (o : Obj) : (w.alloc o).heap[w.heap.size]? = some o := by simp [World.alloc, -World.alloc_eq]
theorem my_alloc_old (w : World) (o : Obj) (i : Nat) (h : i < w.heap.size) : (w.alloc o).heap[i]? = w.heap[i]? := by
 simp [World.alloc, -World.alloc_eq, Array.getElem?_push, Nat.ne_of_lt h]
theorem my_alloc_size (w : World) (o : Obj) : (w.alloc o).heap.size = w.heap.size + 1 := by simp
theorem my_lit_size (l : List UInt8) : (⟨⟨l⟩⟩ : ByteArray).size = l.length := rfl
theorem info5 : (Tryz.prog.info? 5).map (fun i => (i.zero, i.size, i.bytes)) = some (some (.int .u8 0), 1, 1) := by kernel_rfl
theorem info9 : (Tryz.prog.info? 9).map (fun i => (i.zero, i.size, i.bytes)) = some (some (.string ⟨#[]⟩), 1, 16) := by kernel_rfl
theorem info82 : (Tryz.prog.info? 82).map (fun i => (i.zero, i.size, i.bytes)) = some (some (.agg #[(.string ⟨#[]⟩), (.string ⟨#[]⟩)]), 2, 32) := by kernel_rfl
theorem info128 : (Tryz.prog.info? 128).map (fun i => (i.zero, i.size, i.bytes)) = some (some (.agg #[(.string ⟨#[]⟩), (.string ⟨#[]⟩), (.bool false)]), 3, 40) := by kernel_rfl
structure S82 where
 f0 : ByteArray
 f1 : ByteArray
def z82 : S82 := ⟨(⟨#[]⟩ : ByteArray), (⟨#[]⟩ : ByteArray)⟩
def k82 : Kd S82 := Kd.iso (Kd.pair Kd.string Kd.string) (fun x : S82 => (x.f0, x.f1))
theorem k82_open {w : World} {x : S82} {cs : List Value} (h : k82.K w x cs) : cs = [.string x.f0, .string x.f1] := by
 obtain ⟨_, _, rfl, rfl, rfl⟩ := h
 exact rfl
theorem k82_mkM (w : World) (base : Nat) (ok : Nat → Prop) (x : S82)  : k82.M w base ok x [.string x.f0, .string x.f1] := ⟨[.string x.f0], [.string x.f1], rfl, rfl, rfl⟩
def rd_T82 (xs : List S82) (i : Int) : S82 := xs.getD i.toNat z82
theorem at_T82 {w : World} {A : Option Addr} {n : Nat} {xs : List S82} (h : Kd.C k82 w A n xs) (i : Int) (h0 : 0 ≤ i) (h1 : i < n) : ∃ ad , A = some ad ∧ w.cell? (ad.add (i.toNat * 2)) = some (.string (rd_T82 xs i).f0) ∧ w.cell? ⟨(ad.add (i.toNat * 2)).block, (ad.add (i.toNat * 2)).off + 1, none⟩ = some (.string (rd_T82 xs i).f1) := by
 obtain ⟨ad, c, e, _, hK, hc0⟩ := Kd.C_get h z82 i h0 h1
 have hc : ∀ j u, c[j]? = some u → w.cell? (ad.add (i.toNat * 2 + j)) = some u := hc0
 obtain rfl := k82_open hK
 exact ⟨ad, e, hc 0 _ rfl, by rw [← add_field _ _ 1 (by omega)]; exact hc 1 _ rfl⟩
structure S128 where
 f0 : ByteArray
 f1 : ByteArray
 f2 : Bool
structure S66 where
 f0 : ByteArray
 f1 : ByteArray
 f2 : ByteArray
 f3 : ByteArray
structure S23 where
 f0 : ByteArray
 f1 : ByteArray
 f2 : ByteArray
 f3 : ByteArray
 f4 : ByteArray
def z23 : S23 := ⟨(⟨#[]⟩ : ByteArray), (⟨#[]⟩ : ByteArray), (⟨#[]⟩ : ByteArray), (⟨#[]⟩ : ByteArray), (⟨#[]⟩ : ByteArray)⟩
def k23 : Kd S23 := Kd.iso (Kd.pair Kd.string (Kd.pair Kd.string (Kd.pair Kd.string (Kd.pair Kd.string Kd.string)))) (fun x : S23 => (x.f0, x.f1, x.f2, x.f3, x.f4))
theorem k23_open {w : World} {x : S23} {cs : List Value} (h : k23.K w x cs) : cs = [.string x.f0, .string x.f1, .string x.f2, .string x.f3, .string x.f4] := by
 obtain ⟨_, _, rfl, rfl, ⟨_, _, rfl, rfl, ⟨_, _, rfl, rfl, ⟨_, _, rfl, rfl, rfl⟩⟩⟩⟩ := h
 exact rfl
theorem k23_mk (w : World) (x : S23)  : k23.K w x [.string x.f0, .string x.f1, .string x.f2, .string x.f3, .string x.f4] := ⟨[.string x.f0], [.string x.f1, .string x.f2, .string x.f3, .string x.f4], rfl, rfl, ⟨[.string x.f1], [.string x.f2, .string x.f3, .string x.f4], rfl, rfl, ⟨[.string x.f2], [.string x.f3, .string x.f4], rfl, rfl, ⟨[.string x.f3], [.string x.f4], rfl, rfl, rfl⟩⟩⟩⟩
structure S41 where
 f0 : Int
 f1 : S23
 f2 : ByteArray
def z41 : S41 := ⟨(0 : Int), z23, (⟨#[]⟩ : ByteArray)⟩
def k41 : Kd S41 := Kd.iso (Kd.pair (Kd.int .i64) (Kd.pair k23 Kd.string)) (fun x : S41 => (x.f0, x.f1, x.f2))
theorem k41_open {w : World} {x : S41} {cs : List Value} (h : k41.K w x cs) : cs = [.int .i64 x.f0, .string x.f1.f0, .string x.f1.f1, .string x.f1.f2, .string x.f1.f3, .string x.f1.f4, .string x.f2] := by
 obtain ⟨_, _, rfl, rfl, ⟨_, _, rfl, s1, rfl⟩⟩ := h
 obtain rfl := k23_open s1
 exact rfl
theorem k41_mk (w : World) (x : S41)  : k41.K w x [.int .i64 x.f0, .string x.f1.f0, .string x.f1.f1, .string x.f1.f2, .string x.f1.f3, .string x.f1.f4, .string x.f2] := ⟨[.int .i64 x.f0], [.string x.f1.f0, .string x.f1.f1, .string x.f1.f2, .string x.f1.f3, .string x.f1.f4, .string x.f2], rfl, rfl, ⟨[.string x.f1.f0, .string x.f1.f1, .string x.f1.f2, .string x.f1.f3, .string x.f1.f4], [.string x.f2], rfl, (k23_mk w x.f1 ), rfl⟩⟩
def rd_T41 (xs : List S41) (i : Int) : S41 := xs.getD i.toNat z41
theorem at_T41 {w : World} {A : Option Addr} {n : Nat} {xs : List S41} (h : Kd.C k41 w A n xs) (i : Int) (h0 : 0 ≤ i) (h1 : i < n) : ∃ ad , A = some ad ∧ w.cell? (ad.add (i.toNat * 7)) = some (.int .i64 (rd_T41 xs i).f0) ∧ w.cell? ⟨(ad.add (i.toNat * 7)).block, (ad.add (i.toNat * 7)).off + 1, none⟩ = some (.string (rd_T41 xs i).f1.f0) ∧ w.cell? ⟨(ad.add (i.toNat * 7)).block, (ad.add (i.toNat * 7)).off + 2, none⟩ = some (.string (rd_T41 xs i).f1.f1) ∧ w.cell? ⟨(ad.add (i.toNat * 7)).block, (ad.add (i.toNat * 7)).off + 3, none⟩ = some (.string (rd_T41 xs i).f1.f2) ∧ w.cell? ⟨(ad.add (i.toNat * 7)).block, (ad.add (i.toNat * 7)).off + 4, none⟩ = some (.string (rd_T41 xs i).f1.f3) ∧ w.cell? ⟨(ad.add (i.toNat * 7)).block, (ad.add (i.toNat * 7)).off + 5, none⟩ = some (.string (rd_T41 xs i).f1.f4) ∧ w.cell? ⟨(ad.add (i.toNat * 7)).block, (ad.add (i.toNat * 7)).off + 6, none⟩ = some (.string (rd_T41 xs i).f2) := by
 obtain ⟨ad, c, e, _, hK, hc0⟩ := Kd.C_get h z41 i h0 h1
 have hc : ∀ j u, c[j]? = some u → w.cell? (ad.add (i.toNat * 7 + j)) = some u := hc0
 obtain rfl := k41_open hK
 exact ⟨ad, e, hc 0 _ rfl, by rw [← add_field _ _ 1 (by omega)]; exact hc 1 _ rfl, by rw [← add_field _ _ 2 (by omega)]; exact hc 2 _ rfl, by rw [← add_field _ _ 3 (by omega)]; exact hc 3 _ rfl, by rw [← add_field _ _ 4 (by omega)]; exact hc 4 _ rfl, by rw [← add_field _ _ 5 (by omega)]; exact hc 5 _ rfl, by rw [← add_field _ _ 6 (by omega)]; exact hc 6 _ rfl⟩
theorem eqA82 (d : Nat) (w : World) (x0 y0 : ByteArray) (x1 y1 : ByteArray) :
  (Op.equalIn (d + 2) 82 (.agg #[.string x0, .string x1]) (.agg #[.string y0, .string y1])).run Tryz.prog w = .ok (x0.toList == y0.toList && (x1.toList == y1.toList)) w := by
 refine eqA_of Tryz.underlying82 (by kernel_rfl) ?_
 refine eqf_cons (by rfl) (by go_simp; rfl) (by go_simp; rfl) (by go_simp) ?_
 exact eqf_last (by rfl) (by go_simp; rfl) (by go_simp; rfl) (by go_simp)
def footbridgelaw23_few.f (a0_0 : Int) (a0_1 : ByteArray) (a0_2 : ByteArray) (a0_3 : ByteArray) (a0_4 : ByteArray) (a0_5 : ByteArray) (a0_6 : ByteArray) : Option (Bool) := if (a0_1.size : Int) ≤ 300 then (if (a0_2.size : Int) ≤ 300 then (if (a0_5.size : Int) ≤ 1000 then (if (a0_6.size : Int) ≤ 1000 then (if (a0_3.size : Int) ≤ 40000 then (some (decide ((a0_4.size : Int) ≤ 40000))) else (some false)) else (some false)) else (some false)) else (some false)) else (some false)
theorem footbridgelaw23_few.calls (a0_0 : Int) (a0_1 : ByteArray) (a0_2 : ByteArray) (a0_3 : ByteArray) (a0_4 : ByteArray) (a0_5 : ByteArray) (a0_6 : ByteArray) (r : Bool) (w : World) (h : footbridgelaw23_few.f a0_0 a0_1 a0_2 a0_3 a0_4 a0_5 a0_6 = some r) :
  Calls Tryz.prog 12 #[.agg #[.int .i64 a0_0, .string a0_1, .string a0_2, .string a0_3, .string a0_4, .string a0_5, .string a0_6]] w fun e w' => e = .returned (.bool r) ∧ Below w.heap.size w w' := by
 have hu41 := Tryz.underlying41
 have HB := As_ (Below.refl w.heap.size w)
 have H : (if (a0_1.size : Int) ≤ 300 then (if (a0_2.size : Int) ≤ 300 then (if (a0_5.size : Int) ≤ 1000 then (if (a0_6.size : Int) ≤ 1000 then (if (a0_3.size : Int) ≤ 40000 then (some (decide ((a0_4.size : Int) ≤ 40000))) else (some false)) else (some false)) else (some false)) else (some false)) else (some false)) = some r := h
 clear h
 by_cases c2 : (a0_1.size : Int) ≤ 300
 ·rw [if_pos c2] at H
  have c2b0 : decide ((a0_1.size : Int) ≤ 300) = true := decide_eq_true c2
  have c2b1 : decide (a0_1.size ≤ 300) = true := decide_eq_true (by omega)
  clear c2
  by_cases c3 : (a0_2.size : Int) ≤ 300
  ·rw [if_pos c3] at H
   have c3b0 : decide ((a0_2.size : Int) ≤ 300) = true := decide_eq_true c3
   have c3b1 : decide (a0_2.size ≤ 300) = true := decide_eq_true (by omega)
   clear c3
   by_cases c4 : (a0_5.size : Int) ≤ 1000
   ·rw [if_pos c4] at H
    have c4b0 : decide ((a0_5.size : Int) ≤ 1000) = true := decide_eq_true c4
    have c4b1 : decide (a0_5.size ≤ 1000) = true := decide_eq_true (by omega)
    clear c4
    by_cases c5 : (a0_6.size : Int) ≤ 1000
    ·rw [if_pos c5] at H
     have c5b0 : decide ((a0_6.size : Int) ≤ 1000) = true := decide_eq_true c5
     have c5b1 : decide (a0_6.size ≤ 1000) = true := decide_eq_true (by omega)
     clear c5
     by_cases c6 : (a0_3.size : Int) ≤ 40000
     ·rw [if_pos c6] at H
      have c6b0 : decide ((a0_3.size : Int) ≤ 40000) = true := decide_eq_true c6
      have c6b1 : decide (a0_3.size ≤ 40000) = true := decide_eq_true (by omega)
      clear c6
      obtain rfl := Option.some.inj H
      go_enter Tryz.func12, Tryz.ntmps12
      go_wp2_with (first | ((with_reducible refine gate_dst (N := 1) rfl ?_); (try (refine gate_guard (by rfl) ?_; dsimp only)); refine bxE (N := 1) (cs := #[.int .i64 a0_0, .string a0_1, .string a0_2, .string a0_3, .string a0_4, .string a0_5, .string a0_6]) (t := 41) ?_; intro gb101 hg w7 hbox hb; have BK101 := As_ (hbox); have GW101 := As_ ((by rw [hg]; exact (below_size ap50_) : w.heap.size ≤ gb101)); have GE101 := As_ ((by rw [hg]; exact (below_size ap50_) : w.heap.size ≤ gb101)); replace HB := As_ (below_step ap50_ hb); clear hb hbox hg; obtain ⟨hcz8_0, hfz8_0, hcz8_1, hfz8_1, hcz8_2, hfz8_2, hcz8_3, hfz8_3, hcz8_4, hfz8_4, hcz8_5, hfz8_5, hcz8_6, hfz8_6⟩ := clN7 BK101.out))
      go_ret
      exact ⟨ap17_, ap67_⟩
     ·rw [if_neg c6] at H
      have c6b0 : decide ((a0_3.size : Int) ≤ 40000) = false := decide_eq_false c6
      have c6b1 : decide (a0_3.size ≤ 40000) = false := decide_eq_false (by omega)
      clear c6
      obtain rfl := Option.some.inj H
      go_enter Tryz.func12, Tryz.ntmps12
      go_wp2_with (first | ((with_reducible refine gate_dst (N := 1) rfl ?_); (try (refine gate_guard (by rfl) ?_; dsimp only)); refine bxE (N := 1) (cs := #[.int .i64 a0_0, .string a0_1, .string a0_2, .string a0_3, .string a0_4, .string a0_5, .string a0_6]) (t := 41) ?_; intro gb101 hg w9 hbox hb; have BK101 := As_ (hbox); have GW101 := As_ ((by rw [hg]; exact (below_size ap50_) : w.heap.size ≤ gb101)); have GE101 := As_ ((by rw [hg]; exact (below_size ap50_) : w.heap.size ≤ gb101)); replace HB := As_ (below_step ap50_ hb); clear hb hbox hg; obtain ⟨hcz10_0, hfz10_0, hcz10_1, hfz10_1, hcz10_2, hfz10_2, hcz10_3, hfz10_3, hcz10_4, hfz10_4, hcz10_5, hfz10_5, hcz10_6, hfz10_6⟩ := clN7 BK101.out))
      go_ret
      exact ⟨ap17_, ap67_⟩
    ·rw [if_neg c5] at H
     have c5b0 : decide ((a0_6.size : Int) ≤ 1000) = false := decide_eq_false c5
     have c5b1 : decide (a0_6.size ≤ 1000) = false := decide_eq_false (by omega)
     clear c5
     obtain rfl := Option.some.inj H
     go_enter Tryz.func12, Tryz.ntmps12
     go_wp2_with (first | ((with_reducible refine gate_dst (N := 1) rfl ?_); (try (refine gate_guard (by rfl) ?_; dsimp only)); refine bxE (N := 1) (cs := #[.int .i64 a0_0, .string a0_1, .string a0_2, .string a0_3, .string a0_4, .string a0_5, .string a0_6]) (t := 41) ?_; intro gb101 hg w11 hbox hb; have BK101 := As_ (hbox); have GW101 := As_ ((by rw [hg]; exact (below_size ap50_) : w.heap.size ≤ gb101)); have GE101 := As_ ((by rw [hg]; exact (below_size ap50_) : w.heap.size ≤ gb101)); replace HB := As_ (below_step ap50_ hb); clear hb hbox hg; obtain ⟨hcz12_0, hfz12_0, hcz12_1, hfz12_1, hcz12_2, hfz12_2, hcz12_3, hfz12_3, hcz12_4, hfz12_4, hcz12_5, hfz12_5, hcz12_6, hfz12_6⟩ := clN7 BK101.out))
     go_ret
     exact ⟨ap17_, ap67_⟩
   ·rw [if_neg c4] at H
    have c4b0 : decide ((a0_5.size : Int) ≤ 1000) = false := decide_eq_false c4
    have c4b1 : decide (a0_5.size ≤ 1000) = false := decide_eq_false (by omega)
    clear c4
    obtain rfl := Option.some.inj H
    go_enter Tryz.func12, Tryz.ntmps12
    go_wp2_with (first | ((with_reducible refine gate_dst (N := 1) rfl ?_); (try (refine gate_guard (by rfl) ?_; dsimp only)); refine bxE (N := 1) (cs := #[.int .i64 a0_0, .string a0_1, .string a0_2, .string a0_3, .string a0_4, .string a0_5, .string a0_6]) (t := 41) ?_; intro gb101 hg w13 hbox hb; have BK101 := As_ (hbox); have GW101 := As_ ((by rw [hg]; exact (below_size ap50_) : w.heap.size ≤ gb101)); have GE101 := As_ ((by rw [hg]; exact (below_size ap50_) : w.heap.size ≤ gb101)); replace HB := As_ (below_step ap50_ hb); clear hb hbox hg; obtain ⟨hcz14_0, hfz14_0, hcz14_1, hfz14_1, hcz14_2, hfz14_2, hcz14_3, hfz14_3, hcz14_4, hfz14_4, hcz14_5, hfz14_5, hcz14_6, hfz14_6⟩ := clN7 BK101.out))
    go_ret
    exact ⟨ap17_, ap67_⟩
  ·rw [if_neg c3] at H
   have c3b0 : decide ((a0_2.size : Int) ≤ 300) = false := decide_eq_false c3
   have c3b1 : decide (a0_2.size ≤ 300) = false := decide_eq_false (by omega)
   clear c3
   obtain rfl := Option.some.inj H
   go_enter Tryz.func12, Tryz.ntmps12
   go_wp2_with (first | ((with_reducible refine gate_dst (N := 1) rfl ?_); (try (refine gate_guard (by rfl) ?_; dsimp only)); refine bxE (N := 1) (cs := #[.int .i64 a0_0, .string a0_1, .string a0_2, .string a0_3, .string a0_4, .string a0_5, .string a0_6]) (t := 41) ?_; intro gb101 hg w15 hbox hb; have BK101 := As_ (hbox); have GW101 := As_ ((by rw [hg]; exact (below_size ap50_) : w.heap.size ≤ gb101)); have GE101 := As_ ((by rw [hg]; exact (below_size ap50_) : w.heap.size ≤ gb101)); replace HB := As_ (below_step ap50_ hb); clear hb hbox hg; obtain ⟨hcz16_0, hfz16_0, hcz16_1, hfz16_1, hcz16_2, hfz16_2, hcz16_3, hfz16_3, hcz16_4, hfz16_4, hcz16_5, hfz16_5, hcz16_6, hfz16_6⟩ := clN7 BK101.out))
   go_ret
   exact ⟨ap17_, ap67_⟩
 ·rw [if_neg c2] at H
  have c2b0 : decide ((a0_1.size : Int) ≤ 300) = false := decide_eq_false c2
  have c2b1 : decide (a0_1.size ≤ 300) = false := decide_eq_false (by omega)
  clear c2
  obtain rfl := Option.some.inj H
  go_enter Tryz.func12, Tryz.ntmps12
  go_wp2_with (first | ((with_reducible refine gate_dst (N := 1) rfl ?_); (try (refine gate_guard (by rfl) ?_; dsimp only)); refine bxE (N := 1) (cs := #[.int .i64 a0_0, .string a0_1, .string a0_2, .string a0_3, .string a0_4, .string a0_5, .string a0_6]) (t := 41) ?_; intro gb101 hg w17 hbox hb; have BK101 := As_ (hbox); have GW101 := As_ ((by rw [hg]; exact (below_size ap50_) : w.heap.size ≤ gb101)); have GE101 := As_ ((by rw [hg]; exact (below_size ap50_) : w.heap.size ≤ gb101)); replace HB := As_ (below_step ap50_ hb); clear hb hbox hg; obtain ⟨hcz18_0, hfz18_0, hcz18_1, hfz18_1, hcz18_2, hfz18_2, hcz18_3, hfz18_3, hcz18_4, hfz18_4, hcz18_5, hfz18_5, hcz18_6, hfz18_6⟩ := clN7 BK101.out))
  go_ret
  exact ⟨ap17_, ap67_⟩
def BKept (e : TypeId) (g : Nat) (w w' : World) : Prop := ∀ i, i < w.heap.size → i ≠ g → (∀ cs, w.heap[i]? ≠ some (.cells cs e (0, 0))) → w'.heap[i]? = w.heap[i]?
theorem BKept.refl (e : TypeId) (g : Nat) (w : World) : BKept e g w w := fun _ _ _ _ => rfl
theorem BKept.trans {e : TypeId} {g : Nat} {w w1 w2 : World} (h : BKept e g w w1) (k : BKept e g w1 w2) (hs : w.heap.size ≤ w1.heap.size) : BKept e g w w2 := fun i hi hg hc => by
 have h1 := h i hi hg hc
 rw [k i (Nat.lt_of_lt_of_le hi hs) hg (fun cs hcs => hc cs (by rw [← h1]; exact hcs)), h1]
theorem BKept.setCell {e : TypeId} {g : Nat} {w w1 : World} (h : BKept e g w w1) (k : Nat) (v : Value) : BKept e g w (w1.setCell ⟨g, k, none⟩ v) := fun i hi hg hc => by
 rw [← h i hi hg hc]
 unfold World.setCell
 simp [Array.getElem?_modify, Ne.symm hg]
theorem BKept.grown {e : TypeId} {g : Nat} {w w1 : World} {base n : Nat} {v : Value} {xs : List Value} (ho : w.ownsRow base e 1 v n xs) (hg : w.grownBy w1 v.ownBlock) : BKept e g w w1 := fun i hi _ hc => by
 refine hg.block i hi (fun he => ?_)
 obtain ⟨cells, hcs⟩ := own_typed ho i he.symm
 exact hc cells hcs
theorem BKept.alloc {e : TypeId} {g : Nat} (w : World) (o : Obj) : BKept e g w (w.alloc o) := fun i hi _ _ => my_alloc_old w o i hi
theorem bi_size : (Tryz.prog.info? 153).map (·.size) = some 2 := by kernel_rfl
theorem bi_lies : liesAt Tryz.prog Tryz.prog.depth 153 (2 / Tryz.prog.cellsOf 153) 0 153 1 = true := by kernel_rfl
theorem bi_info : (Tryz.prog.info? 5).map (fun i => (i.zero, i.size, i.bytes)) = some (some (.int .u8 0), 1, 1) := by kernel_rfl
theorem bi_check_used (b : Nat) (w : World) (h0 : w.cell? ⟨b, 0, none⟩ = some (.pointer (some ⟨b, 0, none⟩))) :
  Calls Tryz.prog 125 #[.pointer (some ⟨b, 0, none⟩)] w fun e w' => e = .returned (.tuple #[]) ∧ w' = w := by
 obtain ⟨j, hj, _⟩ := Option.map_eq_some_iff.1 bi_size
 go_enter Tryz.func125, Tryz.ntmps125
 go_wp2
 rw [Lib.run_neq_ptr_same w _ Tryz.underlying151 hj]
 go_wp2
 go_end0
 exact ⟨rfl, rfl⟩
theorem bi_check_fresh (b : Nat) (w : World) (h0 : w.cell? ⟨b, 0, none⟩ = some (.pointer none)) (hsh : w.shape? b = some (153, 2)) (hfz : w.frozen? ⟨b, 0, none⟩ = false) :
  Calls Tryz.prog 125 #[.pointer (some ⟨b, 0, none⟩)] w fun e w' => e = .returned (.tuple #[]) ∧ w' = w.setCell ⟨b, 0, none⟩ (.pointer (some ⟨b, 0, none⟩)) := by
 obtain ⟨j, hj, hjs⟩ := Option.map_eq_some_iff.1 bi_size
 go_enter Tryz.func125, Tryz.ntmps125
 go_wp2
 rw [Lib.run_to_unsafe w ⟨b, 0, none⟩ Tryz.underlying151 Tryz.underlying165 hj (by rw [hjs]; decide) hsh (Nat.zero_lt_succ 1)]
 simp only [Result.andThen]
 rw [Oper.upon_value]
 go_wp2
 rw [run_callFunc_extern Tryz.func130 (by kernel_rfl) (by kernel_rfl) (by kernel_rfl) (e := Extern.AbiNoEscape.same) (by kernel_rfl)]
 rw [Lib.run_noEscape]
 simp only [Result.andThen]
 rw [Oper.upon_value]
 go_wp2
 rw [Lib.run_from_unsafe w ⟨b, 0, none⟩ Tryz.underlying165 Tryz.underlying151 hj hsh bi_lies]
 simp only [Result.andThen]
 rw [Oper.upon_value]
 go_wp2
 go_end0
 exact ⟨rfl, rfl⟩
theorem bi_check (B b : Nat) (bs : List Value) (w : World) (h : Lib.IsBuilder 153 5 B b bs w) :
  Calls Tryz.prog 125 #[.pointer (some ⟨b, 0, none⟩)] w fun e w' => e = .returned (.tuple #[]) ∧ Lib.BuilderAt 153 5 B b (.pointer (some ⟨b, 0, none⟩)) bs w' ∧ Below B w w' ∧ BKept 5 b w w' := by
 rcases h with h | h
 ·refine (bi_check_fresh b w h.cell0 h.shape h.frozen0).mono ?_
  rintro e w' ⟨rfl, rfl⟩
  exact ⟨rfl, h.used _, (Below.refl B w).setCell (p := ⟨b, 0, none⟩) h.1 _, (BKept.refl _ _ _).setCell _ _⟩
 ·refine (bi_check_used b w h.cell0).mono ?_
  rintro e w' ⟨rfl, rfl⟩
  exact ⟨rfl, h, Below.refl B _, BKept.refl _ _ _⟩
theorem bi_str (B b : Nat) (bs : List Value) (s : ByteArray) (w : World) (h : Lib.IsBuilder 153 5 B b bs w) (hlen : bs.length + s.size ≤ 140737488355328) (hBw : B ≤ w.heap.size) :
  Calls Tryz.prog 118 #[.pointer (some ⟨b, 0, none⟩), .string s] w fun e w' => e = .returned (.tuple #[.int .i64 s.size, .nilIface]) ∧ Lib.IsBuilder 153 5 B b (bs ++ Lib.strCells s) w' ∧ Below B w w' ∧ BKept 5 b w w' := by
 obtain ⟨i0, hi, hz0, hz1, hz2⟩ := info_parts bi_info
 have e240 : ∀ args w, (callFunc 125 args).run Tryz.prog w = .ok (.enter 125 args) w := enters_of Tryz.func125 (by kernel_rfl) rfl
 go_enter Tryz.func118, Tryz.ntmps118
 go_wp2_with (go_at_call 125; refine (bi_check B b bs _ h).mono ?_)
 rintro e w1 ⟨rfl, h1, hb1, hk1⟩
 obtain ⟨hB, v, hbk, hown, hne⟩ := h1
 have c0 : w1.cell? ⟨b, 0, none⟩ = some (.pointer (some ⟨b, 0, none⟩)) := by rw [Lib.cell_of_heap hbk]; rfl
 have c1 : w1.cell? ⟨b, 1, none⟩ = some v := by rw [Lib.cell_of_heap hbk]; rfl
 replace hk1 := As_ hk1
 go_wp2_with (at_builtin; refine Lib.wpList_append_own_string _ rfl _ _ 124 9 rfl B 5 i0 Tryz.underlying124 Tryz.underlying9 hi hz0 hz1 hz2 _ _ _ rfl hown s rfl ?c3 ?c4 ?c5 ?_)
 case c3 => unfold maxLen; omega
 case c4 => omega
 case c5 => have := hb1.size; omega
 intro v' w2 hown' hgrow _
 have hlt : b < w1.heap.size := (Array.getElem?_eq_some_iff.1 hbk).1
 have hb2 : w2.heap[b]? = some (.cells #[.pointer (some ⟨b, 0, none⟩), v] 153 (0, 0)) := by
  rw [hgrow.block b hlt (fun e => hne e.symm)]
  exact hbk
 have d0 : w2.cell? ⟨b, 0, none⟩ = some (.pointer (some ⟨b, 0, none⟩)) := by rw [Lib.cell_of_heap hb2]; rfl
 have d1 : w2.cell? ⟨b, 1, none⟩ = some v := by rw [Lib.cell_of_heap hb2]; rfl
 have f1 : w2.frozen? ⟨b, 1, none⟩ = false := Lib.frozen_of_heap hb2 1
 have hkk := As_ ((hk1.out.trans (BKept.grown (g := b) hown hgrow) hb1.size).setCell 1 v')
 obtain ⟨ao, n', cap, rfl⟩ : ∃ ao n' cap, v' = .slice ao n' cap := by
  rcases hown'.2 with ⟨hv, _⟩ | ⟨g, cap, cur, hv, _⟩
  ·exact ⟨_, _, _, hv⟩
  ·exact ⟨_, _, _, hv⟩
 go_wp2
 go_ret2
 refine ⟨rfl, .inr ?_, ?_, hkk.out⟩
 ·exact Lib.BuilderAt.put (T := 153) (e := 5) hB hb2 (bs' := bs ++ Lib.strCells s) (by simpa [Lib.strCells_length] using hown') (by decide)
 ·exact (hb1.grown hgrow (by have := hb1.size; omega) (fun k hk => (hown.lt k hk).1)).setCell (p := ⟨b, 1, none⟩) hB _
theorem byteCells_app (l m : List UInt8) : Lib.byteCells (l ++ m) = Lib.byteCells l ++ Lib.byteCells m := by simp [Lib.byteCells]
theorem strCells_app (l : List UInt8) (s : ByteArray) : Lib.byteCells l ++ Lib.strCells s = Lib.byteCells (l ++ s.toList) := by rw [Lib.strCells_eq, byteCells_app, ByteArray.toList_eq]
theorem bi_strU (B b : Nat) (l : List UInt8) (s : ByteArray) (w : World) (h : Lib.IsBuilder 153 5 B b (Lib.byteCells l) w) (hlen : l.length + s.size ≤ 140737488355328) (hBw : B ≤ w.heap.size) :
  Calls Tryz.prog 118 #[.pointer (some ⟨b, 0, none⟩), .string s] w fun e w' => e = .returned (.tuple #[.int .i64 s.size, .nilIface]) ∧ Lib.IsBuilder 153 5 B b (Lib.byteCells (l ++ s.toList)) w' ∧ Below B w w' ∧ BKept 5 b w w' := by
 rw [← strCells_app]
 exact bi_str B b _ s w h (by rw [Lib.byteCells_length]; exact hlen) hBw
def repl1 (c : UInt8) (new : List UInt8) (l : List UInt8) : List UInt8 := l.flatMap fun x => if x = c then new else [x]
theorem repl1_no {c : UInt8} {new : List UInt8} : ∀ {l : List UInt8}, c ∉ l → repl1 c new l = l
 | [], _ => rfl
 | x :: t, h => by
  simp only [List.mem_cons, not_or] at h
  have ih := repl1_no (new := new) h.2
  unfold repl1 at ih ⊢
  rw [List.flatMap_cons, if_neg (fun e => h.1 e.symm), ih]; rfl
theorem repl1_at {c : UInt8} {new : List UInt8} (a b : List UInt8) (h : c ∉ a) : repl1 c new (a ++ c :: b) = a ++ (new ++ repl1 c new b) := by
 have h1 := repl1_no (new := new) h
 unfold repl1 at h1 ⊢
 rw [List.flatMap_append, h1, List.flatMap_cons, if_pos rfl]
theorem first_at (c : UInt8) : ∀ (l : List UInt8), 0 < l.count c → ∃ a b, l = a ++ c :: b ∧ c ∉ a ∧ Lib.indexByte l c = (a.length : Int)
 | [], h => by simp at h
 | x :: t, h => by
  by_cases hx : x = c
  ·exact ⟨[], t, by rw [hx]; rfl, by simp, by unfold Lib.indexByte; rw [if_pos (by simp [hx])]; rfl⟩
  ·rw [List.count_cons_of_ne (fun e => hx e)] at h
   obtain ⟨a, b, h1, h2, h3⟩ := first_at c t h
   refine ⟨x :: a, b, by rw [h1]; rfl, by simp only [List.mem_cons, not_or]; exact ⟨fun e => hx e.symm, h2⟩, ?_⟩
   unfold Lib.indexByte
   rw [if_neg (by simpa using hx), h3, if_neg (by simp), List.length_cons]
   omega
theorem strings_Replace1 (s old new : ByteArray) (c : UInt8) (w : World) (hs : s.size ≤ 100000000) (hold : old = (⟨#[c]⟩ : ByteArray)) (hnew : new.size = 2) :
  Calls Tryz.prog 107 #[.string s, .string old, .string new, .int .i64 (-1)] w fun e w' => e = .returned (.string (ofL (repl1 c new.toList s.toList))) ∧ Below w.heap.size w w' := by
 have hC : Calls Tryz.prog 115 #[.string s, .string old] w fun e w' => e = .returned (.int .i64 ((s.toList.count c : Nat) : Int)) ∧ w' = w := by
  rw [hold, ByteArray.toList_eq]
  exact Tryz.strings_Count_one s c w
 have hI : ∀ (x : ByteArray) (W : World), Calls Tryz.prog 117 #[.string x, .string old] W fun e w' => e = .returned (.int .i64 (Lib.indexByte x.toList c)) ∧ w' = W := by
  intro x W
  rw [hold, ByteArray.toList_eq]
  exact Tryz.strings_Index_one x c W
 have ho1 : old.size = 1 := by rw [hold]; rfl
 have hbeq : (old.toList == new.toList) = false := by
  apply beq_eq_false_iff_ne.2
  intro e
  have h1 := congrArg List.length e
  rw [← ba_size, ← ba_size] at h1
  omega
 have hcs : s.toList.count c ≤ s.size := by rw [ba_size]; exact List.count_le_length
 have ho0 : (0 : Int) < (old.size : Int) := by omega
 have hod : decide (0 < old.size) = true := decide_eq_true (by omega)
 by_cases hz : s.toList.count c = 0
 ·have hr : repl1 c new.toList s.toList = s.toList := repl1_no (List.count_eq_zero.1 hz)
  rw [hr, ofL_of]
  rw [hz] at hC
  replace hC := As_ hC
  clear hI hr hnew hz hcs hold ho1
  go_enter Tryz.func107, Tryz.ntmps107
  go_wp2_with fail
  refine hC.out.mono ?_
  rintro e w' ⟨rfl, rfl⟩
  go_wp2
  go_ret
  exact ⟨rfl, by repeat (first | exact Below.refl _ _ | apply pw_below_drewN)⟩
 ·obtain ⟨K, hK⟩ : ∃ K : Nat, s.toList.count c = K := ⟨_, rfl⟩
  rw [hK] at hC hz hcs
  have hcz : ((K : Int) == 0) = false := beq_eq_false_iff_ne.2 (by omega)
  have hga := Lib.grow_arg s.size K new.size old.size (by omega) (by rw [ho1]; omega) (by rw [hnew]; omega)
  have hgn : s.size + K * new.size - K * old.size ≤ 281474976710656 := by rw [hnew, ho1]; omega
  replace hC := As_ hC
  replace hI := As_ hI
  replace ho1 := As_ ho1
  replace hnew := As_ hnew
  replace hgn := As_ hgn
  replace hK := As_ hK
  replace hold := As_ hold
  go_enter Tryz.func107, Tryz.ntmps107
  go_wp2_with fail
  refine hC.out.mono ?_
  rintro e w' ⟨rfl, rfl⟩
  go_wp2_with fail
  try rw [hga]
  refine (Tryz.Builder_Grow_fresh w'.heap.size w'.heap.size _ _ (Nat.le_refl _) (my_alloc_new w' _) (by simp) hgn.out).mono ?_
  rintro e w1 ⟨rfl, hb0, hb1⟩
  have H1 := As_ (Or.inr hb0 : Lib.IsBuilder 153 5 w'.heap.size w'.heap.size (Lib.byteCells []) w1)
  have Hb1 := As_ (((Below.refl w'.heap.size w').alloc (Nat.le_refl _) _).trans hb1)
  clear hb0 hb1 hga hC
  go_wp2_with fail
  go_loopg [11, 53] K (fun g s11 s53 wx => ∃ (i start : Nat) (acc : List UInt8), s53 = .int .i64 i ∧ s11 = .int .i64 start ∧ i + g = K ∧ start ≤ s.size ∧ Aside0 (Lib.IsBuilder 153 5 w'.heap.size w'.heap.size (Lib.byteCells acc) wx) ∧ Aside0 (Below w'.heap.size w' wx) ∧ Aside0 (acc ++ repl1 c new.toList (s.toList.drop start) = repl1 c new.toList s.toList) ∧ Aside0 (g = (s.toList.drop start).count c) ∧ Aside0 (acc.length ≤ 2 * start))
  case atStart => exact ⟨0, 0, [], rfl, rfl, by omega, Nat.zero_le _, H1, Hb1, ⟨by simp⟩, ⟨by rw [List.drop_zero, hK.out]⟩, ⟨by simp⟩⟩
  case round =>
   clear H1 Hb1
   obtain ⟨i, start, acc, rfl, rfl, hig, hst, HB, HW, HR, hgc, hbd⟩ := hrel
   have hBw := As_ HW.out.size
   have c1 : (0 : Int) ≤ (start : Int) := by omega
   have c2 : (start : Int) ≤ (s.size : Int) := by omega
   have hsl : s.toList.length = s.size := (ba_size s).symm
   cases gk with
   | zero =>
    have hiK : ¬ ((i : Int) < (K : Int)) := by omega
    have hno : repl1 c new.toList (s.toList.drop start) = s.toList.drop start := repl1_no (List.count_eq_zero.1 hgc.out.symm)
    have hfin := As_ (HR.out.symm.trans (by rw [hno]))
    have hex : (s.extract start s.size).toList = s.toList.drop start := by rw [ba_extract, ← hsl, List.take_length]
    replace hex := As_ hex
    clear hno
    go_wp2_with fail
    refine (bi_strU w'.heap.size w'.heap.size _ (s.extract start s.size) wr HB.out (by have := hbd.out; rw [ByteArray.size_extract]; omega) hBw.out).mono ?_
    rintro e w3 ⟨rfl, h3, hb3, hk3⟩
    rw [hex.out, ← hfin.out] at h3
    have H3 := As_ h3
    have Hb3 := As_ (HW.out.trans hb3)
    clear h3 hb3 hk3
    go_wp2_with fail
    refine (Tryz.Builder_String_any w'.heap.size w'.heap.size _ w3 H3.out Hb3.out.size).mono ?_
    rintro e w5 ⟨rfl, hb5⟩
    have Hb5 := As_ (Hb3.out.trans hb5)
    clear hb5
    go_wp2
    go_ret
    exact ⟨rfl, Hb5.out⟩
   | succ g =>
    have hiK : (i : Int) < (K : Int) := by omega
    obtain ⟨a, b, hd, ha, hj⟩ := first_at c (s.toList.drop start) (by rw [← hgc.out]; omega)
    have hdl : (s.toList.drop start).length = a.length + (b.length + 1) := by rw [hd, List.length_append, List.length_cons]
    rw [List.length_drop, hsl] at hdl
    have c3 : (start : Int) ≤ (start : Int) + (a.length : Int) := by omega
    have c4 : (start : Int) + (a.length : Int) ≤ (s.size : Int) := by omega
    have hext : (s.extract start (start + a.length)).toList = a := by
     rw [ba_extract, List.drop_take, hd, Nat.add_sub_cancel_left]
     exact List.take_left
    have hb' : b = s.toList.drop (start + a.length + 1) := by
     rw [show start + a.length + 1 = start + (a.length + 1) by omega, ← List.drop_drop, hd]
     simp
    have hjx : Lib.indexByte (s.extract start s.size).toList c = (a.length : Int) := by rw [ba_extract, ← hsl, List.take_length]; exact hj
    have hrep : Aside0 ((acc ++ a ++ new.toList) ++ repl1 c new.toList (s.toList.drop (start + a.length + 1)) = repl1 c new.toList s.toList) := ⟨by rw [← HR.out, hd, repl1_at a b ha, ← hb']; simp only [List.append_assoc]⟩
    have hcnt : Aside0 (g = (s.toList.drop (start + a.length + 1)).count c) := ⟨by
     have h := hgc.out
     rw [hd, List.count_append, List.count_eq_zero.2 ha, List.count_cons_self, ← hb'] at *
     omega⟩
    replace hext := As_ hext
    replace hjx := As_ hjx
    clear hd ha hj hb' HR hgc
    go_wp2_with fail
    refine (hI.out (s.extract start s.size) _).mono ?_
    rintro e w6 ⟨rfl, rfl⟩
    rw [hjx.out]
    go_wp2_with fail
    refine (bi_strU w'.heap.size w'.heap.size _ (s.extract start (start + a.length)) _ HB.out (by have := hbd.out; rw [ByteArray.size_extract]; omega) hBw.out).mono ?_
    rintro e w3 ⟨rfl, h3, hb3, hk3⟩
    rw [hext.out] at h3
    have H3 := As_ h3
    have Hb3 := As_ (HW.out.trans hb3)
    clear h3 hb3 hk3
    go_wp2_with fail
    refine (bi_strU w'.heap.size w'.heap.size _ new w3 H3.out (by have := hbd.out; have := hnew.out; rw [List.length_append]; omega) Hb3.out.size).mono ?_
    rintro e w4 ⟨rfl, h4, hb4, hk4⟩
    have H4 := As_ h4
    have Hb4 := As_ (Hb3.out.trans hb4)
    clear h4 hb4 hk4
    go_wp2
    go_roundg g
    case measure => omega
    case rel => exact ⟨i + 1, start + a.length + 1, acc ++ a ++ new.toList, by first | rfl | (simp; unfold wrap64; omega), by have := ho1.out; first | rfl | (simp; done) | (simp; rw [w64 (by omega) (by omega)]; omega), by omega, by omega, H4, Hb4, hrep, hcnt, ⟨by have h1 := hbd.out; have h2 := hnew.out; rw [ba_size] at h2; rw [List.length_append, List.length_append]; omega⟩⟩
def strings_ReplaceAll.f (a0 a1 a2 : ByteArray) : Option ByteArray := match a1.toList with
 | [c] => if a0.size ≤ 100000000 ∧ a2.size = 2 then some (ofL (repl1 c a2.toList a0.toList)) else none
 | _ => none
theorem strings_ReplaceAll.calls (a0 a1 a2 : ByteArray) (r : ByteArray) (w : World) (h : strings_ReplaceAll.f a0 a1 a2 = some r) :
  Calls Tryz.prog 94 #[.string a0, .string a1, .string a2] w fun e w' => e = .returned (.string r) ∧ Below w.heap.size w w' := by
 unfold strings_ReplaceAll.f at h
 split at h
 case h_2 => exact absurd h (by simp)
 case h_1 c hc =>
  by_cases hh : a0.size ≤ 100000000 ∧ a2.size = 2
  case neg => rw [if_neg hh] at h; exact absurd h (by simp)
  rw [if_pos hh] at h
  obtain rfl := Option.some.inj h
  have hold : a1 = (⟨#[c]⟩ : ByteArray) := ba_ext (by rw [hc, ByteArray.toList_eq])
  have R := As_ (fun W => strings_Replace1 a0 a1 a2 c W hh.1 hold hh.2)
  clear h hh hold hc
  go_enter Tryz.func94, Tryz.ntmps94
  go_wp2_with fail
  refine (R.out _).mono ?_
  rintro e w' ⟨rfl, hb⟩
  go_wp2
  go_ret
  exact ⟨rfl, hb⟩
def path_hidden.f (a0 : ByteArray) : Option (ByteArray) := (strings_ReplaceAll.f a0 (⟨#[37]⟩ : ByteArray) (⟨#[37, 112]⟩ : ByteArray)).bind fun t102 => ((strings_ReplaceAll.f t102 (⟨#[47]⟩ : ByteArray) (⟨#[37, 115]⟩ : ByteArray)).bind fun t103 => (some t103))
theorem path_hidden.calls (a0 : ByteArray) (r : ByteArray) (w : World) (h : path_hidden.f a0 = some r) :
  Calls Tryz.prog 76 #[.string a0] w fun e w' => e = .returned (.string r) ∧ Below w.heap.size w w' := by
 have HB := As_ (Below.refl w.heap.size w)
 have H : ((strings_ReplaceAll.f a0 (⟨#[37]⟩ : ByteArray) (⟨#[37, 112]⟩ : ByteArray)).bind fun t102 => ((strings_ReplaceAll.f t102 (⟨#[47]⟩ : ByteArray) (⟨#[37, 115]⟩ : ByteArray)).bind fun t103 => (some t103))) = some r := h
 clear h
 replace H := Option.bind_eq_some_iff.mp H
 obtain ⟨t102, A20, H⟩ := H
 try dsimp only at H
 have A2 := As_ A20
 clear A20
 replace H := Option.bind_eq_some_iff.mp H
 obtain ⟨t103, A30, H⟩ := H
 try dsimp only at H
 have A3 := As_ A30
 clear A30
 obtain rfl := Option.some.inj H
 go_enter Tryz.func76, Tryz.ntmps76
 go_wp2_with (first | ((with_reducible refine gate_callee (f := 94) rfl ?_); refine gk_ (some 4) Tryz.func94 #[.string a0, .string ⟨#[37]⟩, .string ⟨#[37, 112]⟩] ?_; (with_reducible refine (strings_ReplaceAll.calls a0 (⟨#[37]⟩ : ByteArray) (⟨#[37, 112]⟩ : ByteArray) t102 _ A2.out).mono ?_); rintro e w4 ⟨rfl, hb⟩; refine ⟨_, rfl, ?_⟩; replace HB := As_ (below_step ap50_ hb); (try clear hb); (try clear hb2); (try clear hk); (try clear hi)) | ((with_reducible refine gate_callee (f := 94) rfl ?_); refine gk_ (some 5) Tryz.func94 #[.string t102, .string ⟨#[47]⟩, .string ⟨#[37, 115]⟩] ?_; (with_reducible refine (strings_ReplaceAll.calls t102 (⟨#[47]⟩ : ByteArray) (⟨#[37, 115]⟩ : ByteArray) t103 _ A3.out).mono ?_); rintro e w5 ⟨rfl, hb⟩; refine ⟨_, rfl, ?_⟩; replace HB := As_ (below_step ap50_ hb); (try clear hb); (try clear hb2); (try clear hk); (try clear hi)))
 go_ret
 exact ⟨ap17_, ap50_⟩
def path_Join.l0 : Nat → ByteArray → List ByteArray → Int → Int → Option (ByteArray)
 | 0, _, _, _, _ => none
 | k + 1, x5, x10, x11, x12 => if x12 < x11 then (if 0 ≤ x12 then (if x12 < (x10.length : Int) then ((path_hidden.f (rdOf ByteArray.empty x10 x12)).bind fun t106 => (if 1 + t106.size ≤ 9223372036854775807 then (if x5.size + ((⟨#[47]⟩ : ByteArray) ++ t106).size ≤ 9223372036854775807 then (path_Join.l0 k (x5 ++ ((⟨#[47]⟩ : ByteArray) ++ t106)) x10 x11 (wrap64 (x12 + 1))) else (none)) else (none))) else (none)) else (none)) else (some x5)
def path_Join.f (k : Nat) (a0 : ByteArray) (l1 : List ByteArray) : Option (ByteArray) := (path_hidden.f a0).bind fun t104 => (path_Join.l0 k t104 l1 (l1.length : Int) 0)
theorem path_Join.mono_l : ∀ k, (∀ y0 y1 y2 y3, LeO (path_Join.l0 k y0 y1 y2 y3) (path_Join.l0 (k + 1) y0 y1 y2 y3))
 | 0 => fun _ _ _ _ r h => by simp [path_Join.l0] at h
 | k + 1 => by
  have ih0 := path_Join.mono_l k
  ·intro y0 y1 y2 y3
   unfold path_Join.l0
   repeat' first
   | (with_reducible exact ih0 _ _ _ _)
   | (with_reducible exact LeO.refl _)
   | (with_reducible exact LeO.none _)
   | (with_reducible refine LeO.ite ?_ ?_)
   | (with_reducible refine LeO.bind ?_ (fun _ => ?_))
   | exact ih0 _ _ _ _
   | exact LeO.none _
   | refine LeO.ite ?_ ?_
   | refine LeO.bind ?_ (fun _ => ?_)
theorem path_Join.mono : ∀ a0 a1 k, LeO (path_Join.f k a0 a1) (path_Join.f (k + 1) a0 a1) := by
 intro a0 a1 k
 have ih0 := path_Join.mono_l k
 unfold path_Join.f
 repeat' first
   | (with_reducible exact ih0 _ _ _ _)
   | (with_reducible exact LeO.refl _)
   | (with_reducible exact LeO.none _)
   | (with_reducible refine LeO.ite ?_ ?_)
   | (with_reducible refine LeO.bind ?_ (fun _ => ?_))
   | exact ih0 _ _ _ _
   | exact LeO.none _
   | refine LeO.ite ?_ ?_
   | refine LeO.bind ?_ (fun _ => ?_)
theorem path_Join.calls (k : Nat) (a0 : ByteArray) (A1 : Option Addr) (c1 : Nat) (l1 : List ByteArray) (r : ByteArray) (w : World) (hr1 : Kd.C Kd.string w A1 l1.length l1) (hc1 : l1.length ≤ c1) (h : path_Join.f k a0 l1 = some r) :
  Calls Tryz.prog 44 #[.string a0, .slice A1 l1.length c1] w fun e w' => e = .returned (.string r) ∧ Below w.heap.size w w' := by
 have HR1 := As_ hr1
 have HC1 := As_ hc1
 clear hr1 hc1
 have HB := As_ (Below.refl w.heap.size w)
 have H : ((path_hidden.f a0).bind fun t104 => (path_Join.l0 k t104 l1 (l1.length : Int) 0)) = some r := h
 clear h
 replace H := Option.bind_eq_some_iff.mp H
 obtain ⟨t104, A30, H⟩ := H
 try dsimp only at H
 have A3 := As_ A30
 clear A30
 have H' := As_ H
 clear H
 go_enter Tryz.func44, Tryz.ntmps44
 go_wp2_with (first | ((with_reducible refine gate_callee (f := 76) rfl ?_); refine gk_ (some 9) Tryz.func76 #[.string a0] ?_; (with_reducible refine (path_hidden.calls a0 t104 _ A3.out).mono ?_); rintro e w4 ⟨rfl, hb⟩; refine ⟨_, rfl, ?_⟩; replace HB := As_ (below_step ap50_ hb); (try clear hb); (try clear hb2); (try clear hk); (try clear hi)))
 go_loopg [5, 12] k (fun kq v5 v12 w' => ∃ (x5_1 : ByteArray) (x12_1 : Int), v5 = .string x5_1 ∧ v12 = .int .i64 x12_1 ∧ Aside0 (path_Join.l0 kq x5_1 l1 (l1.length : Int) x12_1 = some r) ∧ Aside0 (kq ≤ k) ∧ Aside0 (Below w.heap.size w w'))
 case atStart => exact ⟨(t104), (0), ap5_, ap5_, H', ⟨Nat.le_refl _⟩, ⟨ap50_⟩⟩
 case round =>
  clear H'
  try clear c1
  obtain ⟨x5_1, x12_1, rfl, rfl, HA, HK1, HB⟩ := hrel
  cases gk with
  | zero => exact absurd HA.out (by simp [path_Join.l0])
  | succ k1 =>
   have H := HA.out
   clear HA
   simp only [path_Join.l0] at H
   by_cases c5 : x12_1 < (l1.length : Int)
   ·rw [if_pos c5] at H
    have c5b0 : decide (x12_1 < (l1.length : Int)) = true := decide_eq_true c5
    clear c5
    by_cases c6 : 0 ≤ x12_1
    ·rw [if_pos c6] at H
     have c6b0 : decide (0 ≤ x12_1) = true := decide_eq_true c6
     clear c6
     by_cases c7 : x12_1 < (l1.length : Int)
     ·rw [if_pos c7] at H
      have c7b0 : decide (x12_1 < (l1.length : Int)) = true := decide_eq_true c7
      clear c7
      replace H := Option.bind_eq_some_iff.mp H
      obtain ⟨t106, A80, H⟩ := H
      try dsimp only at H
      have A8 := As_ A80
      clear A80
      by_cases c9 : 1 + t106.size ≤ 9223372036854775807
      ·rw [if_pos c9] at H
       have c9b0 := eq_true c9
       have c9b1 : decide (1 + t106.size ≤ 9223372036854775807) = true := decide_eq_true c9
       try have c9b2 : (9223372036854775807 < 1 + t106.size) = False := eq_false (Nat.not_lt.2 c9)
       by_cases c10 : x5_1.size + ((⟨#[47]⟩ : ByteArray) ++ t106).size ≤ 9223372036854775807
       ·rw [if_pos c10] at H
        have c10b0 := eq_true c10
        have c10b1 : decide (x5_1.size + ((⟨#[47]⟩ : ByteArray) ++ t106).size ≤ 9223372036854775807) = true := decide_eq_true c10
        try have c10b2 : (9223372036854775807 < x5_1.size + ((⟨#[47]⟩ : ByteArray) ++ t106).size) = False := eq_false (Nat.not_lt.2 c10)
        try (have c10b2_ := c10b2; simp only [ByteArray.size_append, my_lit_size, List.length_cons, List.length_nil, Nat.reduceAdd] at c10b2_)
        have H' := As_ H
        clear H
        have p105 : 0 ≤ (x12_1 : Int) := of_decide_eq_true ap7_
        have q105 : x12_1 < (l1.length : Int) := of_decide_eq_true ap7_
        obtain ⟨ad105, e105, hx105_0⟩ := Kd.at_string HR1.out x12_1 p105 q105
        cases e105
        replace hx105_0 := (HB.out.cell (World.block_lt_of_cell? w _ hx105_0)).trans hx105_0
        replace p105 := eq_true p105
        replace q105 := eq_true q105
        go_wp2_with (first | ((with_reducible refine gate_callee (f := 76) rfl ?_); refine gk_ (some 18) Tryz.func76 #[.string (rdOf ByteArray.empty l1 x12_1)] ?_; (with_reducible refine (path_hidden.calls (rdOf ByteArray.empty l1 x12_1) t106 _ A8.out).mono ?_); rintro e w11 ⟨rfl, hb⟩; refine ⟨_, rfl, ?_⟩; replace HB := As_ (below_step ap50_ hb); (try clear hb); (try clear hb2); (try clear hk); (try clear hi)))
        go_roundg k1
        case measure => have := HK1.out; omega
        case rel => exact ⟨(x5_1 ++ ((⟨#[47]⟩ : ByteArray) ++ t106)), (wrap64 (x12_1 + 1)), ap5_, ap5_, H', ⟨by have := HK1.out; omega⟩, ⟨ap50_⟩⟩
       ·rw [if_neg c10] at H
        exact absurd H (by simp)
      ·rw [if_neg c9] at H
       exact absurd H (by simp)
     ·rw [if_neg c7] at H
      exact absurd H (by simp)
    ·rw [if_neg c6] at H
     exact absurd H (by simp)
   ·rw [if_neg c5] at H
    have c5b0 : decide (x12_1 < (l1.length : Int)) = false := decide_eq_false c5
    clear c5
    obtain rfl := Option.some.inj H
    go_wp2
    go_ret
    exact ⟨ap17_, ap50_⟩
def token_key.f (k : Nat) (a0 : ByteArray) (a1 : ByteArray) : Option (ByteArray) := (path_Join.f k (⟨#[116, 111, 107, 101, 110]⟩ : ByteArray) (([a0, a1] : List ByteArray))).bind fun t110 => (some t110)
theorem token_key.mono : ∀ a0 a1 k, LeO (token_key.f k a0 a1) (token_key.f (k + 1) a0 a1) := by
 intro a0 a1 k
 unfold token_key.f
 repeat' first
   | (with_reducible exact path_Join.mono _ _ _)
   | (with_reducible exact LeO.refl _)
   | (with_reducible exact LeO.none _)
   | (with_reducible refine LeO.ite ?_ ?_)
   | (with_reducible refine LeO.bind ?_ (fun _ => ?_))
   | exact path_Join.mono _ _ _
   | exact LeO.none _
   | refine LeO.ite ?_ ?_
   | refine LeO.bind ?_ (fun _ => ?_)
theorem token_key.calls (k : Nat) (a0 : ByteArray) (a1 : ByteArray) (r : ByteArray) (w : World) (h : token_key.f k a0 a1 = some r) :
  Calls Tryz.prog 21 #[.string a0, .string a1] w fun e w' => e = .returned (.string r) ∧ Below w.heap.size w w' := by
 have HB := As_ (Below.refl w.heap.size w)
 have H : ((path_Join.f k (⟨#[116, 111, 107, 101, 110]⟩ : ByteArray) (([a0, a1] : List ByteArray))).bind fun t110 => (some t110)) = some r := h
 clear h
 obtain ⟨y107, hy107⟩ : ∃ y_ : List ByteArray, y_ = (([a0, a1] : List ByteArray)) := ⟨_, rfl⟩
 replace H : ((path_Join.f k (⟨#[116, 111, 107, 101, 110]⟩ : ByteArray) y107).bind fun t110 => (some t110)) = some r := by first | (rw [hy107]; with_reducible exact H) | (have H2_ := (Option.bind_some _ _).symm.trans H; rw [hy107]; with_reducible exact H2_) | (have H2_ := (Option.bind_some _ _).symm.trans H; with_reducible exact H2_) | with_reducible exact H | (rw [hy107]; exact H) | exact H
 have Ny107 := As_ hy107
 clear hy107
 replace H := Option.bind_eq_some_iff.mp H
 obtain ⟨t110, A30, H⟩ := H
 try dsimp only at H
 have A3 := As_ A30
 clear A30
 obtain rfl := Option.some.inj H
 go_enter Tryz.func21, Tryz.ntmps21
 go_wp2_with (first | ((with_reducible refine gate_dst (N := 7) rfl ?_); refine Kd.R_lit Kd.string _ 9 ?hg (N := 7) ?hd (xs := ([a0, a1] : List ByteArray)) (inner := [.string a0, .string a1]) (ok := fun _ => True) (okp := fun _ => True) ?hr ?hp (fun _ hk => hk) trivial (Below.refl _ _) (Nat.le_refl _) (by simp) ?_; (case hd => rfl); (case hg => rfl); (case hr => first | (go_simp; done) | (go_simp; rfl)); (case hp => exact (Reps.one (show Kd.M Kd.string _ _ _ a0 [.string a0] from rfl) (Reps.one (show Kd.M Kd.string _ _ _ a1 [.string a1] from rfl) (Reps.none _ _)))); intro v108 w4 ho5 hb hg_ hnew_; clear hg_ hnew_; (first | rw [← Ny107.out] at ho5 | (simp only [Int.reduceToNat] at ho5; rw [← Ny107.out] at ho5)); have HO109 := As_ (Kd.R_lower ho5 (below_size ap50_)); replace HB := As_ (below_step ap50_ hb); clear hb ho5; obtain ⟨Ao6, co6, eo6⟩ := Kd.R_slice HO109.out; subst eo6) | ((with_reducible refine gate_callee (f := 44) rfl ?_); refine gk_ (some 8) Tryz.func44 #[.string ⟨#[116, 111, 107, 101, 110]⟩, .slice Ao6 y107.length co6] ?_; (with_reducible refine (path_Join.calls k (⟨#[116, 111, 107, 101, 110]⟩ : ByteArray) _ _ y107 t110 _ ?side1 ?side2 A3.out).mono ?_); (case side1 => repeat (first | exact (Kd.R_reads' HO109.out).2.2 | (with_reducible refine Kd.C_alloc ?_ _) | (with_reducible refine Kd.C_drewN ?_ _) | (with_reducible refine Kd.C_drew ?_))); (case side2 => exact (Kd.R_reads' HO109.out).2.1); rintro e w7 ⟨rfl, hb⟩; refine ⟨_, rfl, ?_⟩; replace HO109 := As_ (Kd.R_below (by (with_reducible repeat (first | apply Kd.R_alloc | apply Kd.R_drewN | apply Kd.R_drew)); exact HO109.out) hb); replace HB := As_ (below_step ap50_ hb); (try clear hb); (try clear hb2); (try clear hk); (try clear hi)))
 go_ret
 exact ⟨ap17_, ap50_⟩
def token_own.f (k : Nat) (a0_0 : ByteArray) (a0_1 : ByteArray) (a0_2 : ByteArray) (a0_3 : ByteArray) (a0_4 : ByteArray) : Option (ByteArray) := (path_Join.f k (⟨#[111, 119, 110]⟩ : ByteArray) (([a0_4, a0_0, a0_1] : List ByteArray))).bind fun t115 => (some t115)
theorem token_own.mono : ∀ a0 a1 a2 a3 a4 k, LeO (token_own.f k a0 a1 a2 a3 a4) (token_own.f (k + 1) a0 a1 a2 a3 a4) := by
 intro a0 a1 a2 a3 a4 k
 unfold token_own.f
 repeat' first
   | (with_reducible exact path_Join.mono _ _ _)
   | (with_reducible exact LeO.refl _)
   | (with_reducible exact LeO.none _)
   | (with_reducible refine LeO.ite ?_ ?_)
   | (with_reducible refine LeO.bind ?_ (fun _ => ?_))
   | exact path_Join.mono _ _ _
   | exact LeO.none _
   | refine LeO.ite ?_ ?_
   | refine LeO.bind ?_ (fun _ => ?_)
theorem token_own.calls (k : Nat) (a0_0 : ByteArray) (a0_1 : ByteArray) (a0_2 : ByteArray) (a0_3 : ByteArray) (a0_4 : ByteArray) (r : ByteArray) (w : World) (h : token_own.f k a0_0 a0_1 a0_2 a0_3 a0_4 = some r) :
  Calls Tryz.prog 31 #[.agg #[.string a0_0, .string a0_1, .string a0_2, .string a0_3, .string a0_4]] w fun e w' => e = .returned (.string r) ∧ Below w.heap.size w w' := by
 have hu23 := Tryz.underlying23
 have HB := As_ (Below.refl w.heap.size w)
 have H : ((path_Join.f k (⟨#[111, 119, 110]⟩ : ByteArray) (([a0_4, a0_0, a0_1] : List ByteArray))).bind fun t115 => (some t115)) = some r := h
 clear h
 obtain ⟨y112, hy112⟩ : ∃ y_ : List ByteArray, y_ = (([a0_4, a0_0, a0_1] : List ByteArray)) := ⟨_, rfl⟩
 replace H : ((path_Join.f k (⟨#[111, 119, 110]⟩ : ByteArray) y112).bind fun t115 => (some t115)) = some r := by first | (rw [hy112]; with_reducible exact H) | (have H2_ := (Option.bind_some _ _).symm.trans H; rw [hy112]; with_reducible exact H2_) | (have H2_ := (Option.bind_some _ _).symm.trans H; with_reducible exact H2_) | with_reducible exact H | (rw [hy112]; exact H) | exact H
 have Ny112 := As_ hy112
 clear hy112
 replace H := Option.bind_eq_some_iff.mp H
 obtain ⟨t115, A20, H⟩ := H
 try dsimp only at H
 have A2 := As_ A20
 clear A20
 obtain rfl := Option.some.inj H
 go_enter Tryz.func31, Tryz.ntmps31
 go_wp2_with (first | ((with_reducible refine gate_dst (N := 1) rfl ?_); refine bxE (N := 1) (cs := #[.string a0_0, .string a0_1, .string a0_2, .string a0_3, .string a0_4]) (t := 23) ?_; intro gb111 hg w3 hbox hb; have BK111 := As_ (hbox); have GW111 := As_ ((by rw [hg]; exact (below_size ap50_) : w.heap.size ≤ gb111)); have GE111 := As_ ((by rw [hg]; exact (below_size ap50_) : w.heap.size ≤ gb111)); replace HB := As_ (below_step ap50_ hb); clear hb hbox hg; obtain ⟨hcz4_0, hfz4_0, hcz4_1, hfz4_1, hcz4_2, hfz4_2, hcz4_3, hfz4_3, hcz4_4, hfz4_4⟩ := clN5 BK111.out) | ((with_reducible refine gate_dst (N := 9) rfl ?_); refine Kd.R_lit Kd.string _ 9 ?hg (N := 9) ?hd (xs := ([a0_4, a0_0, a0_1] : List ByteArray)) (inner := [.string a0_4, .string a0_0, .string a0_1]) (ok := fun _ => True) (okp := fun _ => True) ?hr ?hp (fun _ hk => hk) trivial (Below.refl _ _) (Nat.le_refl _) (by simp) ?_; (case hd => rfl); (case hg => rfl); (case hr => first | (go_simp; done) | (go_simp; rfl)); (case hp => exact (Reps.one (show Kd.M Kd.string _ _ _ a0_4 [.string a0_4] from rfl) (Reps.one (show Kd.M Kd.string _ _ _ a0_0 [.string a0_0] from rfl) (Reps.one (show Kd.M Kd.string _ _ _ a0_1 [.string a0_1] from rfl) (Reps.none _ _))))); intro v113 w5 ho6 hb hg_ hnew_; clear hg_ hnew_; (first | rw [← Ny112.out] at ho6 | (simp only [Int.reduceToNat] at ho6; rw [← Ny112.out] at ho6)); have HO114 := As_ (Kd.R_lower ho6 (below_size ap69_)); replace BK111 := As_ (blk_below (g := gb111) (o := .cells #[.string a0_0, .string a0_1, .string a0_2, .string a0_3, .string a0_4] 23 (0, 0)) ap49_ hb); replace HB := As_ (below_step ap69_ hb); clear hb ho6; obtain ⟨Ao7, co7, eo7⟩ := Kd.R_slice HO114.out; subst eo7) | ((with_reducible refine gate_callee (f := 44) rfl ?_); refine gk_ (some 10) Tryz.func44 #[.string ⟨#[111, 119, 110]⟩, .slice Ao7 y112.length co7] ?_; (with_reducible refine (path_Join.calls k (⟨#[111, 119, 110]⟩ : ByteArray) _ _ y112 t115 _ ?side1 ?side2 A2.out).mono ?_); (case side1 => repeat (first | exact (Kd.R_reads' HO114.out).2.2 | (with_reducible refine Kd.C_alloc ?_ _) | (with_reducible refine Kd.C_drewN ?_ _) | (with_reducible refine Kd.C_drew ?_))); (case side2 => exact (Kd.R_reads' HO114.out).2.1); rintro e w8 ⟨rfl, hb⟩; refine ⟨_, rfl, ?_⟩; replace HO114 := As_ (Kd.R_below (by (with_reducible repeat (first | apply Kd.R_alloc | apply Kd.R_drewN | apply Kd.R_drew)); exact HO114.out) hb); replace BK111 := As_ (blk_below (g := gb111) (o := .cells #[.string a0_0, .string a0_1, .string a0_2, .string a0_3, .string a0_4] 23 (0, 0)) ap49_ hb); replace HB := As_ (below_step ap69_ hb); (try clear hb); (try clear hb2); (try clear hk); (try clear hi)))
 go_ret
 exact ⟨ap17_, ap69_⟩
def token_may.f (k : Nat) (a0 : ByteArray) (a1 : ByteArray) : Option (ByteArray) := (path_Join.f k (⟨#[109, 97, 121]⟩ : ByteArray) (([a0, a1] : List ByteArray))).bind fun t119 => (some t119)
theorem token_may.mono : ∀ a0 a1 k, LeO (token_may.f k a0 a1) (token_may.f (k + 1) a0 a1) := by
 intro a0 a1 k
 unfold token_may.f
 repeat' first
   | (with_reducible exact path_Join.mono _ _ _)
   | (with_reducible exact LeO.refl _)
   | (with_reducible exact LeO.none _)
   | (with_reducible refine LeO.ite ?_ ?_)
   | (with_reducible refine LeO.bind ?_ (fun _ => ?_))
   | exact path_Join.mono _ _ _
   | exact LeO.none _
   | refine LeO.ite ?_ ?_
   | refine LeO.bind ?_ (fun _ => ?_)
theorem token_may.calls (k : Nat) (a0 : ByteArray) (a1 : ByteArray) (r : ByteArray) (w : World) (h : token_may.f k a0 a1 = some r) :
  Calls Tryz.prog 32 #[.string a0, .string a1] w fun e w' => e = .returned (.string r) ∧ Below w.heap.size w w' := by
 have HB := As_ (Below.refl w.heap.size w)
 have H : ((path_Join.f k (⟨#[109, 97, 121]⟩ : ByteArray) (([a0, a1] : List ByteArray))).bind fun t119 => (some t119)) = some r := h
 clear h
 obtain ⟨y116, hy116⟩ : ∃ y_ : List ByteArray, y_ = (([a0, a1] : List ByteArray)) := ⟨_, rfl⟩
 replace H : ((path_Join.f k (⟨#[109, 97, 121]⟩ : ByteArray) y116).bind fun t119 => (some t119)) = some r := by first | (rw [hy116]; with_reducible exact H) | (have H2_ := (Option.bind_some _ _).symm.trans H; rw [hy116]; with_reducible exact H2_) | (have H2_ := (Option.bind_some _ _).symm.trans H; with_reducible exact H2_) | with_reducible exact H | (rw [hy116]; exact H) | exact H
 have Ny116 := As_ hy116
 clear hy116
 replace H := Option.bind_eq_some_iff.mp H
 obtain ⟨t119, A30, H⟩ := H
 try dsimp only at H
 have A3 := As_ A30
 clear A30
 obtain rfl := Option.some.inj H
 go_enter Tryz.func32, Tryz.ntmps32
 go_wp2_with (first | ((with_reducible refine gate_dst (N := 7) rfl ?_); refine Kd.R_lit Kd.string _ 9 ?hg (N := 7) ?hd (xs := ([a0, a1] : List ByteArray)) (inner := [.string a0, .string a1]) (ok := fun _ => True) (okp := fun _ => True) ?hr ?hp (fun _ hk => hk) trivial (Below.refl _ _) (Nat.le_refl _) (by simp) ?_; (case hd => rfl); (case hg => rfl); (case hr => first | (go_simp; done) | (go_simp; rfl)); (case hp => exact (Reps.one (show Kd.M Kd.string _ _ _ a0 [.string a0] from rfl) (Reps.one (show Kd.M Kd.string _ _ _ a1 [.string a1] from rfl) (Reps.none _ _)))); intro v117 w4 ho5 hb hg_ hnew_; clear hg_ hnew_; (first | rw [← Ny116.out] at ho5 | (simp only [Int.reduceToNat] at ho5; rw [← Ny116.out] at ho5)); have HO118 := As_ (Kd.R_lower ho5 (below_size ap50_)); replace HB := As_ (below_step ap50_ hb); clear hb ho5; obtain ⟨Ao6, co6, eo6⟩ := Kd.R_slice HO118.out; subst eo6) | ((with_reducible refine gate_callee (f := 44) rfl ?_); refine gk_ (some 8) Tryz.func44 #[.string ⟨#[109, 97, 121]⟩, .slice Ao6 y116.length co6] ?_; (with_reducible refine (path_Join.calls k (⟨#[109, 97, 121]⟩ : ByteArray) _ _ y116 t119 _ ?side1 ?side2 A3.out).mono ?_); (case side1 => repeat (first | exact (Kd.R_reads' HO118.out).2.2 | (with_reducible refine Kd.C_alloc ?_ _) | (with_reducible refine Kd.C_drewN ?_ _) | (with_reducible refine Kd.C_drew ?_))); (case side2 => exact (Kd.R_reads' HO118.out).2.1); rintro e w7 ⟨rfl, hb⟩; refine ⟨_, rfl, ?_⟩; replace HO118 := As_ (Kd.R_below (by (with_reducible repeat (first | apply Kd.R_alloc | apply Kd.R_drewN | apply Kd.R_drew)); exact HO118.out) hb); replace HB := As_ (below_step ap50_ hb); (try clear hb); (try clear hb2); (try clear hk); (try clear hi)))
 go_ret
 exact ⟨ap17_, ap50_⟩
def token_named.f (a0 : ByteArray) : Option (Bool) := if a0.toList = ([] : List UInt8) then (some false) else (some (decide ((a0.size : Int) ≤ 512)))
theorem token_named.calls (a0 : ByteArray) (r : Bool) (w : World) (h : token_named.f a0 = some r) :
  Calls Tryz.prog 33 #[.string a0] w fun e w' => e = .returned (.bool r) ∧ Drawn0 w w' := by
 have H : (if a0.toList = ([] : List UInt8) then (some false) else (some (decide ((a0.size : Int) ≤ 512)))) = some r := h
 clear h
 by_cases c2 : a0.toList = ([] : List UInt8)
 ·rw [if_pos c2] at H
  have c2b0 : (a0.toList == ([] : List UInt8)) = true := beq_iff_eq.mpr c2
  have c2b1 : (a0.toList != ([] : List UInt8)) = false := bne_eq_false_iff_eq.mpr c2
  clear c2
  obtain rfl := Option.some.inj H
  go_enter Tryz.func33, Tryz.ntmps33
  go_wp2
  go_ret
  exact ⟨ap5_, ap10_⟩
 ·rw [if_neg c2] at H
  have c2b0 : (a0.toList == ([] : List UInt8)) = false := beq_eq_false_iff_ne.mpr c2
  have c2b1 : (a0.toList != ([] : List UInt8)) = true := bne_iff_ne.mpr c2
  obtain rfl := Option.some.inj H
  go_enter Tryz.func33, Tryz.ntmps33
  go_wp2
  go_ret
  exact ⟨ap5_, ap10_⟩
theorem bl_irr : ∀ x : List UInt8, Op.bytesLess x x = false
 | [] => rfl
 | a :: x => by
  have h : ¬ a < a := fun h => absurd (UInt8.lt_iff_toNat_lt.1 h) (Nat.lt_irrefl _)
  simp [Op.bytesLess, bl_irr x, h]
theorem bl_trans : ∀ x y z : List UInt8, Op.bytesLess x y = true → Op.bytesLess y z = true → Op.bytesLess x z = true
 | _, [], _, h, _ => by cases ‹List UInt8› <;> simp [Op.bytesLess] at h
 | _, _ :: _, [], _, h => by simp [Op.bytesLess] at h
 | [], _ :: _, _ :: _, _, _ => rfl
 | a :: x, b :: y, c :: z, h1, h2 => by
  simp only [Op.bytesLess, Bool.or_eq_true, decide_eq_true_eq, Bool.and_eq_true, beq_iff_eq] at h1 h2 ⊢
  rcases h1 with h1 | ⟨rfl, h1⟩
  ·rcases h2 with h2 | ⟨rfl, h2⟩
   ·exact .inl (UInt8.lt_iff_toNat_lt.2 (Nat.lt_trans (UInt8.lt_iff_toNat_lt.1 h1) (UInt8.lt_iff_toNat_lt.1 h2)))
   ·exact .inl h1
  ·rcases h2 with h2 | ⟨rfl, h2⟩
   ·exact .inl h2
   ·exact .inr ⟨rfl, bl_trans x y z h1 h2⟩
theorem bl_total : ∀ x y : List UInt8, Op.bytesLess x y = false → Op.bytesLess y x = false → x = y
 | [], [], _, _ => rfl
 | [], _ :: _, h, _ => by simp [Op.bytesLess] at h
 | _ :: _, [], _, h => by simp [Op.bytesLess] at h
 | a :: x, b :: y, h1, h2 => by
  simp only [Op.bytesLess, Bool.or_eq_false_iff, decide_eq_false_iff_not, Bool.and_eq_false_iff] at h1 h2
  have hab : a = b := UInt8.toNat_inj.1 (by
   have g1 : ¬ a.toNat < b.toNat := fun h => h1.1 (UInt8.lt_iff_toNat_lt.2 h)
   have g2 : ¬ b.toNat < a.toNat := fun h => h2.1 (UInt8.lt_iff_toNat_lt.2 h)
   omega)
  subst hab
  have e1 : Op.bytesLess x y = false := h1.2.elim (fun h => absurd h (by simp)) id
  have e2 : Op.bytesLess y x = false := h2.2.elim (fun h => absurd h (by simp)) id
  rw [bl_total x y e1 e2]
def kLt (a b : ByteArray) : Bool := Op.bytesLess a.toList b.toList
theorem kLt_irr (a : ByteArray) : kLt a a = false := bl_irr _
theorem kLt_trans {a b c : ByteArray} (h : kLt a b = true) (k : kLt b c = true) : kLt a c = true := bl_trans _ _ _ h k
theorem kLt_total {a b : ByteArray} (h : kLt a b = false) (k : kLt b a = false) : a = b := ba_ext (bl_total _ _ h k)
def sortK (l : List S82) : Prop := l.Pairwise (fun a b => kLt a.f0 b.f0 = true)
def posK (l : List S82) (key : ByteArray) : Nat := l.countP (fun p => kLt p.f0 key)
theorem posK_le (l : List S82) (key : ByteArray) : posK l key ≤ l.length := List.countP_le_length
theorem posK_none (l : List S82) (key : ByteArray) (h : ∀ p ∈ l, kLt p.f0 key = false) : posK l key = 0 := by
 unfold posK
 rw [List.countP_eq_zero]
 intro p hp e
 rw [h p hp] at e
 exact absurd e (by simp)
theorem posK_spec : ∀ (l : List S82) (key : ByteArray), sortK l → ∀ (i : Nat) (hi : i < l.length), kLt l[i].f0 key = decide (i < posK l key)
 | [], _, _, i, hi => absurd hi (Nat.not_lt_zero _)
 | a :: t, key, hs, i, hi => by
  obtain ⟨h1, h2⟩ := List.pairwise_cons.1 hs
  cases ha : kLt a.f0 key with
  | true =>
   have e : posK (a :: t) key = posK t key + 1 := by unfold posK; rw [List.countP_cons_of_pos (by exact ha)]
   cases i with
   | zero => rw [e, decide_eq_true (by omega)]; exact ha
   | succ i =>
    have ih := posK_spec t key h2 i (by simpa using hi)
    rw [List.getElem_cons_succ, ih, e]
    by_cases hlt : i < posK t key
    ·rw [decide_eq_true hlt, decide_eq_true (by omega)]
    ·rw [decide_eq_false hlt, decide_eq_false (by omega)]
  | false =>
   have hall : ∀ p ∈ a :: t, kLt p.f0 key = false := by
    intro p hp
    rcases List.mem_cons.1 hp with hp | hp
    ·rw [hp]; exact ha
    ·cases hk : kLt p.f0 key with
     | false => rfl
     | true => rw [kLt_trans (h1 p hp) hk] at ha; exact absurd ha (by simp)
   rw [posK_none _ key hall, decide_eq_false (Nat.not_lt_zero _)]
   exact hall _ (List.getElem_mem hi)
def hasK (l : List S82) (key : ByteArray) : Bool := match l[posK l key]? with
 | some p => p.f0.toList == key.toList
 | none => false
theorem hasK_lt {l : List S82} {key : ByteArray} (h : hasK l key = true) : ∃ hp : posK l key < l.length, l[posK l key].f0 = key := by
 unfold hasK at h
 by_cases hp : posK l key < l.length
 ·rw [List.getElem?_eq_getElem hp] at h
  exact ⟨hp, ba_ext (beq_iff_eq.1 h)⟩
 ·rw [List.getElem?_eq_none (by omega)] at h; exact absurd h (by simp)
theorem hasK_no {l : List S82} {key : ByteArray} (h : hasK l key = false) (hp : posK l key < l.length) : l[posK l key].f0.toList ≠ key.toList := by
 unfold hasK at h
 rw [List.getElem?_eq_getElem hp] at h
 exact beq_eq_false_iff_ne.1 h
def getK (l : List S82) (key : ByteArray) : ByteArray × Bool := if hasK l key = true then ((rd_T82 l (posK l key : Int)).f1, true) else (⟨#[]⟩, false)
def setK (l : List S82) (key value : ByteArray) : List S82 := if hasK l key = true then l.set (posK l key) ⟨key, value⟩ else l.take (posK l key) ++ ⟨key, value⟩ :: l.drop (posK l key)
def delK (l : List S82) (key : ByteArray) : List S82 := if hasK l key = true then l.take (posK l key) ++ l.drop (posK l key + 1) else l
def allK (l : List S82) (p : ByteArray) : List S82 := (l.drop (posK l p)).takeWhile (fun x => p.toList.isPrefixOf x.f0.toList)
theorem sortK_del {l : List S82} (h : sortK l) (key : ByteArray) : sortK (delK l key) := by
 unfold delK
 split
 ·refine List.Pairwise.sublist ?_ h
  have e : l.take (posK l key) ++ l.drop (posK l key) = l := List.take_append_drop _ _
  conv => rhs; rw [← e]
  refine List.Sublist.append (List.Sublist.refl _) ?_
  rw [← List.drop_drop]
  exact List.drop_sublist _ _
 ·exact h
theorem sortK_set {l : List S82} (h : sortK l) (key value : ByteArray) : sortK (setK l key value) := by
 unfold setK
 cases hh : hasK l key with
 | true =>
  obtain ⟨hp, hk⟩ := hasK_lt hh
  rw [if_pos rfl]
  have hm : (l.set (posK l key) ⟨key, value⟩).map (·.f0) = l.map (·.f0) := by
   rw [List.map_set]
   apply List.ext_getElem?
   intro i
   rw [List.getElem?_set]
   split
   ·rename_i e
    subst e
    rw [List.length_map, if_pos hp, List.getElem?_map, List.getElem?_eq_getElem hp, Option.map_some, hk]
   ·rfl
  have h1 : (l.map (·.f0)).Pairwise (fun a b => kLt a b = true) := List.pairwise_map.2 h
  rw [← hm] at h1
  exact List.pairwise_map.1 h1
 | false =>
  rw [if_neg (by simp)]
  have hlt : ∀ p ∈ l.take (posK l key), kLt p.f0 key = true := by
   intro p hp
   obtain ⟨i, hi, rfl⟩ := List.mem_iff_getElem.1 hp
   rw [List.length_take] at hi
   rw [List.getElem_take, posK_spec l key h i (by omega)]
   exact decide_eq_true (by omega)
  have hge : ∀ p ∈ l.drop (posK l key), kLt key p.f0 = true := by
   intro p hp
   obtain ⟨i, hi, rfl⟩ := List.mem_iff_getElem.1 hp
   rw [List.length_drop] at hi
   rw [List.getElem_drop]
   have h1 := posK_spec l key h (posK l key + i) (by omega)
   rw [decide_eq_false (by omega)] at h1
   cases hk : kLt key l[posK l key + i].f0 with
   | true => rfl
   | false =>
    have he := kLt_total hk h1
    exfalso
    by_cases h0 : i = 0
    ·subst h0
     exact hasK_no hh (by omega) (by simp only [Nat.add_zero] at he; rw [← he])
    ·have h2 := List.pairwise_iff_getElem.1 h (posK l key) (posK l key + i) (by omega) (by omega) (by omega)
     rw [← he] at h2
     have h3 := posK_spec l key h (posK l key) (by omega)
     rw [decide_eq_false (Nat.lt_irrefl _), h2] at h3
     exact absurd h3 (by simp)
  refine List.pairwise_append.2 ⟨List.Pairwise.sublist (List.take_sublist _ _) h, List.pairwise_cons.2 ⟨fun p hp => hge p hp, List.Pairwise.sublist (List.drop_sublist _ _) h⟩, ?_⟩
  intro a ha b hb
  rcases List.mem_cons.1 hb with hb | hb
  ·rw [hb]; exact hlt a ha
  ·exact kLt_trans (hlt a ha) (hge b hb)
theorem gb_set (w : World) (g k : Nat) (v : Value) : w.grownBy (w.setCell ⟨g, k, none⟩ v) (some g) := ⟨rfl, rfl, rfl, by simp [World.setCell], fun i _ hi => Below.heap_setCell w ⟨g, k, none⟩ v i (fun e => hi (by rw [e]))⟩
theorem gb_below {w w' : World} {g : Nat} (h : Below w.heap.size w w') : w.grownBy w' (some g) := ⟨h.os, h.tape, h.output, h.size, fun i hi _ => h.block i hi⟩
theorem splice_nil {α : Type} (L : List α) (o : Nat) : splice L o [] = L := by simp [splice]
theorem setRow_as {g : Nat} {t : TypeId} : ∀ (vs : List Value) (o : Nat) (w : World) (cur : Array Value), w.heap[g]? = some (.cells cur t (0, 0)) → o + vs.length ≤ cur.size → w.setCells g o vs = w.setRow g (splice cur.toList o vs).toArray
 | [], o, w, cur, hg, _ => by rw [splice_nil, Array.toArray_toList, setRow_self w g cur t (0, 0) hg]; rfl
 | v :: r, o, w, cur, hg, hl => by
  rw [List.length_cons] at hl
  have h1 := setCell_eq_setRow w g o cur t (0, 0) v hg
  have h2 := setRow_heap w g cur (cur.setIfInBounds o v) t _ hg
  have ih := setRow_as r (o + 1) (w.setRow g (cur.setIfInBounds o v)) (cur.setIfInBounds o v) h2 (by simp; omega)
  show (w.setCell ⟨g, o, none⟩ v).setCells g (o + 1) r = _
  rw [h1, ih, setRow_setRow]
  congr 2
  have e := list_seg_step cur.toList o v r (by simp; omega)
  simpa [splice, Array.toList_setIfInBounds] using e
theorem run_copy_k {P : Program} (w : World) (dT sT ty elem : TypeId) (g o dLen dCap k : Nat) (a : Addr) (sLen sCap : Nat) (cur : Array Value) (t : TypeId) (cs : List Value)
  (hu : P.underlying dT = some (.slice elem)) (hs : (P.info? elem).map (·.size) = some k)
  (hg : w.heap[g]? = some (.cells cur t (0, 0))) (hn : cs.length = Nat.min sLen dLen * k)
  (hsrc : ∀ j v, cs[j]? = some v → w.cell? (a.add j) = some v) (hfit : o + cs.length ≤ cur.size) (h1 : ∀ v ∈ cs, v.oneCell' = true) :
  (Builtin.copy_ #[dT, sT] ty #[.slice (some ⟨g, o, none⟩) dLen dCap, .slice (some a) sLen sCap]).run P w =
   .ok (goInt (Nat.min sLen dLen)) (w.setRow g (splice cur.toList o cs).toArray) := by
 have hl := run_loadCells_list (P := P) w a cs hsrc
 have hst := run_storeCells_at P g o t cs 0 cur w hg (by simpa using hfit) h1
 obtain ⟨i, hq, hi⟩ := Option.map_eq_some_iff.1 hs
 have e : (cur.toList.take (o + 0) ++ cs ++ cur.toList.drop (o + 0 + cs.length)).toArray = (splice cur.toList o cs).toArray := by simp [splice]
 rw [e] at hst
 simp [Builtin.copy_, run_underlying hu, Builtin.lenOf, Builtin.firstCells, sizeOf, typeInfo, hq, hi, ← hn, hl, hst]
theorem cell_isSome {w : World} {g : Nat} {cur : Array Value} {t : TypeId} (hg : w.heap[g]? = some (.cells cur t (0, 0))) {j : Nat} (hj : j < cur.size) : (w.cell? ⟨g, j, none⟩).isSome = true := by
 rw [(blk_cell hg j).trans (Array.getElem?_eq_getElem hj)]; rfl
theorem run_append_k {P : Program} (w : World) (t tx ty e : TypeId) (i : TypeInfo) (ht : P.underlying t = some (.slice e)) (hi : P.info? e = some i) (g sLen sCap : Nat) (cur : Array Value) (te : TypeId) (hg : w.heap[g]? = some (.cells cur te (0, 0))) (x : Value) (n : Nat) (news : List Value) (hs : Src P i.size tx x n news w)
  (hroom : sLen + n ≤ sCap) (hfit : sLen * i.size + news.length ≤ cur.size) :
  (Builtin.append_ #[t, tx] ty #[.slice (some ⟨g, 0, none⟩) sLen sCap, x]).run P w = .ok (.slice (some ⟨g, 0, none⟩) (sLen + n) sCap) (w.setRow g (splice cur.toList (sLen * i.size) news).toArray) := by
 have h := run_append_room_src (P := P) (w := w) t tx ty e i ht hi g 0 sLen sCap x n news hs hroom (fun j hj => cell_isSome hg (by omega)) (fun j hj => blk_frozen hg _)
 rw [Nat.zero_add, setRow_as news _ w cur hg hfit] at h
 exact h
theorem zeroCells_len (z : Array Value) (n : Nat) : (Builtin.zeroCells z n).size = n * z.size := by simp [Builtin.zeroCells]
theorem zeroCells_one (z : Array Value) (n : Nat) (h1 : ∀ v ∈ z.toList, v.oneCell' = true) : ∀ v ∈ (Builtin.zeroCells z n).toList, v.oneCell' = true := by
 intro v hv
 simp only [Builtin.zeroCells, Array.toList_map, List.mem_map] at hv
 obtain ⟨i, hi, rfl⟩ := hv
 have hi2 : i < n * z.size := by simpa using hi
 have hz : 0 < z.size := Nat.pos_of_ne_zero (fun e => by rw [e] at hi2; simp at hi2)
 have hlt : i % z.size < z.size := Nat.mod_lt _ hz
 rw [getElem!_pos z _ hlt]
 exact h1 _ (by simp)
theorem run_clear_k {P : Program} (w : World) (t e ty : TypeId) (z : Value) (ht : P.underlying t = some (.slice e)) (hv : ∀ w, (zeroValue e).run P w = .ok z w) (h1 : ∀ v ∈ z.cells.toList, v.oneCell' = true) (g o n c : Nat) (hn : 0 < n) (cur : Array Value) (te : TypeId) (hg : w.heap[g]? = some (.cells cur te (0, 0)))
  (hfit : o + n * z.cells.size ≤ cur.size) :
  (Builtin.clear_ #[t] ty #[.slice (some ⟨g, o, none⟩) n c]).run P w = .ok (.tuple #[]) (w.setRow g (splice cur.toList o (Builtin.zeroCells z.cells n).toList).toArray) := by
 have hst := run_storeCells_at P g o te (Builtin.zeroCells z.cells n).toList 0 cur w hg (by simp [zeroCells_len]; omega) (zeroCells_one _ _ h1)
 have e2 : (cur.toList.take (o + 0) ++ (Builtin.zeroCells z.cells n).toList ++ cur.toList.drop (o + 0 + (Builtin.zeroCells z.cells n).toList.length)).toArray = (splice cur.toList o (Builtin.zeroCells z.cells n).toList).toArray := by simp [splice]
 rw [e2] at hst
 obtain ⟨m, rfl⟩ : ∃ m, n = m + 1 := ⟨n - 1, by omega⟩
 simp [Builtin.clear_, run_underlying ht, hv, hst]
theorem gb_setRow (w : World) (g : Nat) (cs : Array Value) : w.grownBy (w.setRow g cs) (some g) := ⟨rfl, rfl, rfl, by simp [World.setRow], fun i _ hi => setRow_other w g i cs (fun e => hi (by rw [e]))⟩
theorem step_append_k {P : Program} {ops : Array Oper} {o : Oper} {a : Act} {w : World} {K : Act → World → Prop} {Q : Exit → Act → World → Prop} {E : Prop}
  (hg : o.guard = none) (d x : Operand) (dT sT : TypeId) (hop : o.op = Op.call { callee := Callee.builtin Builtin.append, args := #[d, x], argTypes := #[dT, sT] })
  (v u : Value) (hd : a.eval d = v) (hx : a.eval x = u) {v' : Value} {w' : World} (hr : (Builtin.append_ #[dT, sT] o.type #[v, u]).run P w = .ok v' w') (hK : K (a.put o.dst v') w') :
  if Region.wanted o (yielded ops a.tmps) = true then Oper.wp P o a w K Q else E := by
 have hw : Region.wanted o (yielded ops a.tmps) = true := by simp [Region.wanted, hg]
 rw [if_pos hw]
 unfold Oper.wp execOp
 simp only [hop, resolve, invoke, builtin, Sem.run_bind, Sem.run_pure, Result.andThen_ok, List.map_toArray, List.map_cons, List.map_nil, hd, hx, hr]
 exact hK
theorem cmp_cases : ∀ x y : List UInt8, Lib.compareBytes x y = if Op.bytesLess x y = true then -1 else if x = y then 0 else 1
 | [], [] => rfl
 | [], _ :: _ => rfl
 | _ :: _, [] => rfl
 | a :: x, b :: y => by
  have e : Op.bytesLess (a :: x) (b :: y) = (decide (a < b) || (a == b && Op.bytesLess x y)) := rfl
  have e2 : Lib.compareBytes (a :: x) (b :: y) = if a < b then -1 else if b < a then 1 else Lib.compareBytes x y := rfl
  rw [e, e2]
  by_cases h1 : a < b
  ·rw [if_pos h1, decide_eq_true h1, Bool.true_or, if_pos rfl]
  ·rw [if_neg h1, decide_eq_false h1, Bool.false_or]
   by_cases h2 : b < a
   ·have hne : ¬ a = b := fun e => by subst e; exact h1 h2
    rw [if_pos h2, beq_eq_false_iff_ne.2 hne, Bool.false_and, if_neg (by simp), if_neg (fun e => hne (List.cons.inj e).1)]
   ·have hab : a = b := UInt8.toNat_inj.1 (by
     have g1 : ¬ a.toNat < b.toNat := fun h => h1 (UInt8.lt_iff_toNat_lt.2 h)
     have g2 : ¬ b.toNat < a.toNat := fun h => h2 (UInt8.lt_iff_toNat_lt.2 h)
     omega)
    subst hab
    rw [if_neg h2, cmp_cases x y, beq_self_eq_true, Bool.true_and]
    by_cases h3 : Op.bytesLess x y = true
    ·rw [if_pos h3, if_pos h3]
    ·rw [if_neg h3, if_neg h3]
     by_cases h4 : x = y
     ·rw [if_pos h4, if_pos (by rw [h4])]
     ·rw [if_neg h4, if_neg (fun e => h4 (List.cons.inj e).2)]
def cmpK (a b : ByteArray) : Int := if kLt a b = true then -1 else if a.toList = b.toList then 0 else 1
theorem cmpK_of (a b : ByteArray) : Lib.compareBytes a.data.toList b.data.toList = cmpK a b := by
 rw [cmp_cases, ← ByteArray.toList_eq, ← ByteArray.toList_eq]; rfl
theorem cmpK_lt (a b : ByteArray) : decide (cmpK a b < 0) = kLt a b := by
 unfold cmpK
 cases h : kLt a b with
 | true => rfl
 | false => rw [if_neg (by simp)]; split <;> rfl
theorem cmpK_eq (a b : ByteArray) : (cmpK a b == 0) = (a.toList == b.toList) := by
 unfold cmpK
 cases h : kLt a b with
 | true =>
  rw [if_pos rfl]
  have hne : ¬ a.toList = b.toList := fun e => by unfold kLt at h; rw [e, bl_irr] at h; exact absurd h (by simp)
  rw [beq_eq_false_iff_ne.2 hne]; rfl
 | false =>
  rw [if_neg (by simp)]
  by_cases e : a.toList = b.toList
  ·rw [if_pos e, beq_iff_eq.2 e]; rfl
  ·rw [if_neg e, beq_eq_false_iff_ne.2 e]; rfl
theorem at1_calls (k1 v1 key : ByteArray) (w : World) : Calls Tryz.prog 99 #[.agg #[.string k1, .string v1], .string key] w fun e w' => e = .returned (.int .i64 (cmpK k1 key)) ∧ Below w.heap.size w w' := by
 have hbx := my_alloc_new w (.cells #[.string k1, .string v1] 82)
 have hc0 : (w.alloc (.cells #[.string k1, .string v1] 82)).cell? ⟨w.heap.size, 0, none⟩ = some (.string k1) := (blk_cell hbx 0).trans rfl
 have hb := As_ ((Below.refl w.heap.size w).alloc (Nat.le_refl _) (.cells #[.string k1, .string v1] 82))
 clear hbx
 go_enter Tryz.func99, Tryz.ntmps99
 go_wp2_with (go_at_call 100; refine (Tryz.strings_Compare _ _ _).mono ?_; rintro e w' ⟨rfl, rfl⟩)
 rw [cmpK_of]
 go_wp2
 go_ret
 exact ⟨rfl, hb.out⟩
theorem at_mono {l : List S82} {key : ByteArray} (h : sortK l) (i : Nat) (hi : i < l.length) : decide (cmpK l[i].f0 key < 0) = decide (i < posK l key) := by rw [cmpK_lt]; exact posK_spec l key h i hi
theorem bs_calls (A : Option Addr) (c : Nat) (l : List S82) (key : ByteArray) (w : World) (hs : sortK l) (hr : Kd.C k82 w A l.length l) (hl : l.length ≤ 1000000000) :
  Calls Tryz.prog 98 #[.slice A l.length c, .string key, .func (.func 99) #[] #[]] w fun e w' => e = .returned (.tuple #[.int .i64 (posK l key), .bool (hasK l key)]) ∧ Below w.heap.size w w' := by
 have HR := As_ hr
 have HS := As_ hs
 have hple := posK_le l key
 generalize hq : hasK l key = q
 generalize hp : posK l key = p
 rw [hp] at hple
 have HP := As_ hp
 have HQ := As_ hq
 clear hr hs hp hq
 have HB := As_ (Below.refl w.heap.size w)
 go_enter Tryz.func98, Tryz.ntmps98
 go_wp2_with fail
 go_loopg [9, 10] l.length (fun gg s9 s10 wx => ∃ lo hi : Nat, s9 = .int .i64 lo ∧ s10 = .int .i64 hi ∧ lo ≤ hi ∧ hi ≤ l.length ∧ hi - lo ≤ gg ∧ lo ≤ p ∧ p ≤ hi ∧ Aside0 (Below w.heap.size w wx))
 case atStart => exact ⟨0, l.length, rfl, rfl, Nat.zero_le _, Nat.le_refl _, by omega, Nat.zero_le _, hple, HB⟩
 case round =>
  clear HB
  obtain ⟨lo, hi, rfl, rfl, hlh, hin, hg, hp1, hp2, HB⟩ := hrel
  by_cases hlt : lo < hi
  ·have hil : (lo + hi) / 2 < l.length := by omega
   have hx0 : (0 : Int) ≤ (((lo + hi) / 2 : Nat) : Int) := by omega
   have hkl : (((lo + hi) / 2 : Nat) : Int) < (l.length : Int) := by omega
   obtain ⟨ad, e1, hv0, hv1⟩ := at_T82 HR.out (((lo + hi) / 2 : Nat) : Int) hx0 hkl
   cases e1
   have hrd : rd_T82 l (((lo + hi) / 2 : Nat) : Int) = l[(lo + hi) / 2] := by
    unfold rd_T82
    rw [Int.toNat_natCast, List.getD_eq_getElem?_getD, List.getElem?_eq_getElem hil]; rfl
   rw [hrd, Int.toNat_natCast] at hv0 hv1
   have hmo := at_mono (key := key) HS.out ((lo + hi) / 2) hil
   rw [HP.out] at hmo
   clear hrd
   generalize l[(lo + hi) / 2] = y at hv0 hv1 hmo
   replace hv0 := (HB.out.cell (World.block_lt_of_cell? w _ hv0)).trans hv0
   replace hv1 := (HB.out.cell (World.block_lt_of_cell? w _ hv1)).trans hv1
   go_wp2_with fail
   refine (at1_calls y.f0 y.f1 key _).mono ?_
   rintro e w2 ⟨rfl, hb⟩
   have HB2 := As_ (below_step HB.out hb)
   clear hb HB hv0 hv1
   by_cases hlo : (lo + hi) / 2 < p
   ·rw [decide_eq_true hlo] at hmo
    go_wp2
    go_roundg (hi - ((lo + hi) / 2 + 1))
    case measure => omega
    case rel => exact ⟨(lo + hi) / 2 + 1, hi, by first | rfl | (rw [show ((lo : Int) + (hi : Int)) / 2 + 1 = (((lo + hi) / 2 + 1 : Nat) : Int) by omega]) | (simp; done), rfl, by omega, hin, by omega, by omega, hp2, HB2⟩
   ·rw [decide_eq_false hlo] at hmo
    go_wp2
    go_roundg ((lo + hi) / 2 - lo)
    case measure => omega
    case rel => exact ⟨lo, (lo + hi) / 2, rfl, by first | rfl | (rw [show ((lo : Int) + (hi : Int)) / 2 = (((lo + hi) / 2 : Nat) : Int) by omega]) | (simp; done), by omega, by omega, by omega, hp1, by omega, HB2⟩
  ·obtain rfl : hi = lo := by omega
   obtain rfl : p = hi := by omega
   clear hg hp1 hp2 hlh
   by_cases hn : p < l.length
   ·have hx0 : (0 : Int) ≤ ((p : Nat) : Int) := by omega
    have hkl : ((p : Nat) : Int) < (l.length : Int) := by omega
    obtain ⟨ad, e1, hv0, hv1⟩ := at_T82 HR.out ((p : Nat) : Int) hx0 hkl
    cases e1
    have hrd : rd_T82 l ((p : Nat) : Int) = l[p] := by
     unfold rd_T82
     rw [Int.toNat_natCast, List.getD_eq_getElem?_getD, List.getElem?_eq_getElem hn]; rfl
    rw [hrd, Int.toNat_natCast] at hv0 hv1
    have hhk : (cmpK l[p].f0 key == 0) = q := by
     rw [← HQ.out, cmpK_eq]; unfold hasK; rw [HP.out, List.getElem?_eq_getElem hn]
    clear hrd HQ
    generalize l[p] = y at hv0 hv1 hhk
    subst hhk
    replace hv0 := (HB.out.cell (World.block_lt_of_cell? w _ hv0)).trans hv0
    replace hv1 := (HB.out.cell (World.block_lt_of_cell? w _ hv1)).trans hv1
    go_wp2_with fail
    refine (at1_calls y.f0 y.f1 key _).mono ?_
    rintro e w2 ⟨rfl, hb⟩
    have HB2 := As_ (below_step HB.out hb)
    clear hb HB hv0 hv1
    go_wp2
    go_ret2
    exact ⟨rfl, HB2.out⟩
   ·obtain rfl : false = q := by
     rw [← HQ.out]; unfold hasK
     rw [HP.out, List.getElem?_eq_none (by omega)]
    go_wp2
    go_ret2
    exact ⟨rfl, HB.out⟩
def StoreAt (base g : Nat) (l : List S82) (w : World) : Prop :=
 base ≤ g ∧ sortK l ∧ ∃ v, w.heap[g]? = some (.cells #[v] 118 (0, 0)) ∧ Kd.R k82 82 w base (fun k => base ≤ k) v l
theorem StoreAt.lt {base g : Nat} {l : List S82} {w : World} (h : StoreAt base g l w) : g < w.heap.size := by
 obtain ⟨_, _, v, h1, _⟩ := h
 exact blk_lt h1
theorem StoreAt.below {base g : Nat} {l : List S82} {w w1 : World} (h : StoreAt base g l w) (hb : Below w.heap.size w w1) : StoreAt base g l w1 := by
 obtain ⟨h0, h1, v, h2, h3⟩ := h
 exact ⟨h0, h1, v, blk_below h2 hb, Kd.R_below h3 hb⟩
theorem st_at (base g : Nat) (l : List S82) (key : ByteArray) (w : World) (h : StoreAt base g l w) (hl : l.length ≤ 1000000000) :
  Calls Tryz.prog 80 #[.pointer (some ⟨g, 0, none⟩), .string key] w fun e w' => e = .returned (.tuple #[.int .i64 (posK l key), .bool (hasK l key)]) ∧ Below w.heap.size w w' := by
 obtain ⟨h0, h1, v, h2, h3⟩ := h
 obtain ⟨A, c, e, _, hC⟩ := Kd.R_reads h3
 subst e
 have y0 : w.cell? ⟨g, 0, none⟩ = some (.slice A l.length c) := (blk_cell h2 0).trans rfl
 go_enter Tryz.func80, Tryz.ntmps80
 go_wp2_with fail
 refine (bs_calls A c l key _ h1 hC hl).mono ?_
 rintro e w2 ⟨rfl, hb⟩
 go_wp2
 go_ret2
 exact ⟨rfl, hb⟩
theorem st_get (base g : Nat) (l : List S82) (key : ByteArray) (w : World) (h : StoreAt base g l w) (hl : l.length ≤ 1000000000) :
  Calls Tryz.prog 49 #[.pointer (some ⟨g, 0, none⟩), .string key] w fun e w' => e = .returned (.tuple #[.string (getK l key).1, .bool (getK l key).2]) ∧ Below w.heap.size w w' := by
 cases hh : hasK l key with
 | false =>
  have hg : getK l key = (⟨#[]⟩, false) := by unfold getK; rw [hh]; rfl
  rw [hg]
  go_enter Tryz.func49, Tryz.ntmps49
  go_wp2_with fail
  refine (st_at base g l key _ h hl).mono ?_
  rintro e w2 ⟨rfl, hb⟩
  rw [hh]
  go_wp2
  go_ret2
  exact ⟨rfl, hb⟩
 | true =>
  have hg : getK l key = ((rd_T82 l (posK l key : Int)).f1, true) := by unfold getK; rw [hh]; rfl
  obtain ⟨hp, _⟩ := hasK_lt hh
  rw [hg]
  have h' := h
  obtain ⟨h0, h1, v, h2, h3⟩ := h'
  obtain ⟨A, c, e, _, hC⟩ := Kd.R_reads h3
  subst e
  have hx0 : (0 : Int) ≤ ((posK l key : Nat) : Int) := by omega
  have hkl : ((posK l key : Nat) : Int) < (l.length : Int) := by omega
  obtain ⟨ad, e1, hv0, hv1⟩ := at_T82 hC ((posK l key : Nat) : Int) hx0 hkl
  cases e1
  rw [Int.toNat_natCast] at hv0 hv1
  generalize (rd_T82 l (posK l key : Int)) = y at hv0 hv1 ⊢
  have HV1 := As_ hv1
  have HR := As_ h2
  clear hv0 hv1 h2 h3 hC h0 h1 hg
  go_enter Tryz.func49, Tryz.ntmps49
  go_wp2_with fail
  refine (st_at base g l key _ h hl).mono ?_
  rintro e w2 ⟨rfl, hb⟩
  rw [hh]
  have y0 : w2.cell? ⟨g, 0, none⟩ = some (.slice (some ad) l.length c) := (blk_cell (blk_below HR.out hb) 0).trans rfl
  have y1 := (hb.cell (World.block_lt_of_cell? w _ HV1.out)).trans HV1.out
  have hb' := As_ hb
  clear hb HV1 HR h
  generalize posK l key = p at *
  go_wp2
  go_ret2
  exact ⟨rfl, hb'.out⟩
def encP (l : List S82) : List Value := l.flatMap (fun p => [.string p.f0, .string p.f1])
theorem encP_len (l : List S82) : (encP l).length = l.length * 2 := by
 unfold encP
 induction l with
 | nil => rfl
 | cons a l ih => simp only [List.flatMap_cons, List.length_append, ih, List.length_cons, List.length_nil]; omega
theorem encP_append (l m : List S82) : encP (l ++ m) = encP l ++ encP m := by unfold encP; rw [List.flatMap_append]
theorem encP_one (l : List S82) : ∀ v ∈ encP l, v.oneCell' = true := by
 intro v hv
 unfold encP at hv
 obtain ⟨p, _, hp⟩ := List.mem_flatMap.1 hv
 rcases List.mem_cons.1 hp with rfl | hp
 ·rfl
 ·rw [List.mem_singleton.1 hp]; rfl
theorem encP_split (l : List S82) (i : Nat) (hi : i ≤ l.length) : (encP l).take (i * 2) = encP (l.take i) ∧ (encP l).drop (i * 2) = encP (l.drop i) := by
 have e : encP l = encP (l.take i) ++ encP (l.drop i) := by rw [← encP_append, List.take_append_drop]
 have hl : (encP (l.take i)).length = i * 2 := by rw [encP_len, List.length_take, Nat.min_eq_left hi]
 rw [e]
 exact ⟨List.take_left' hl, List.drop_left' hl⟩
theorem row_slice {w : World} {base : Nat} {e : TypeId} {size n : Nat} {v : Value} {xs : List Value} (h : w.ownsRow base e size v n xs) : ∃ A c, v = .slice A n c ∧ n ≤ c ∧ c ≤ 9223372036854775807 := by
 rcases h.2 with ⟨rfl, rfl⟩ | ⟨g, cap, cur, rfl, _, _, h1, h2, _⟩
 ·exact ⟨none, 0, rfl, Nat.le_refl _, by omega⟩
 ·exact ⟨_, cap, rfl, h1, by unfold maxLen at h2; omega⟩
def InsPost (base : Nat) (v : Value) (l : List S82) (w : World) (e : Ending) (w' : World) : Prop := ∃ v', e = .returned v' ∧ w'.ownsRow base 82 2 v' l.length (encP l) ∧ w.grownBy w' v.ownBlock ∧ (v'.ownBlock = v.ownBlock ∨ ∃ b, v'.ownBlock = some b ∧ w.heap.size ≤ b)
theorem ins_end (base : Nat) (v : Value) (l : List S82) (vb : Nat) (x : S82) (w : World) (hl : l.length ≤ 1000000000) (ho : w.ownsRow base 82 2 v l.length (encP l)) (hbase : base ≤ w.heap.size)
  (hv : w.heap[vb]? = some (.cells #[.string x.f0, .string x.f1] 82 (0, 0))) :
  Calls Tryz.prog 103 #[v, .int .i64 l.length, .slice (some ⟨vb, 0, none⟩) 1 1] w (InsPost base v (l ++ [x]) w) := by
 obtain ⟨i0, hi0, hz⟩ := Option.map_eq_some_iff.1 info82
 simp only [Prod.mk.injEq] at hz
 obtain ⟨hz0, hz1, hz2⟩ := hz
 have hc0 : w.cell? ⟨vb, 0, none⟩ = some (.string x.f0) := (blk_cell hv 0).trans rfl
 have hc1 : w.cell? ⟨vb, 1, none⟩ = some (.string x.f1) := (blk_cell hv 1).trans rfl
 obtain ⟨v1, w1, hrun, h1, h2, _, h3⟩ := run_append_own_at (P := Tryz.prog) (w := w) base 35 35 82 i0 _ 2 32 Tryz.underlying35 hi0 hz0 hz1 hz2 rfl (by decide) v l.length (encP l) ho ⟨vb, 0, none⟩ 1 1 [.string x.f0, .string x.f1] rfl
  (fun j u hj => by
   match j with
   | 0 => obtain rfl := Option.some.inj hj; exact hc0
   | 1 => obtain rfl := Option.some.inj hj; exact hc1
   | j + 2 => exact absurd hj (by simp)) ap11_ (by unfold maxLen; omega) (by omega) hbase
 obtain ⟨A, c, rfl, hnc, hc63⟩ := row_slice ho
 have hpost : InsPost base (.slice A l.length c) (l ++ [x]) w (.returned v1) w1 := ⟨v1, rfl, by
  rw [List.length_append, List.length_singleton, encP_append]; exact h1, h2, h3.imp_right (fun h => ⟨_, h, Nat.le_refl _⟩)⟩
 replace hpost := As_ hpost
 obtain ⟨A1, c1, rfl, _, _⟩ := row_slice h1
 clear ho h1 h2 h3 hv hc0 hc1 hz0 hz1 hz2 hi0
 go_enter Tryz.func103, Tryz.ntmps103
 go_wp2_with (at_builtin; refine Lib.wpList_append_run _ rfl _ _ _ _ rfl _ _ rfl rfl _ _ hrun ?_)
 all_goals (go_ret; first | exact hpost.out | (obtain rfl : c = l.length := (by first | assumption | (symm; assumption) | omega); exact hpost.out))
theorem row_of {w : World} {base : Nat} {g cap n : Nat} {cur : Array Value} {xs : List Value} (hb : base ≤ g) (hg : w.heap[g]? = some (.cells cur 82 (0, 0))) (hn : n ≤ cap) (hm : cap ≤ maxLen) (hs : cur.size = cap * 2) (hx : cur.toList.take (n * 2) = xs) : w.ownsRow base 82 2 (.slice (some ⟨g, 0, none⟩) n cap) n xs :=
 ⟨by rw [← hx, List.length_take, Array.length_toList, hs]; have : n * 2 ≤ cap * 2 := Nat.mul_le_mul_right 2 hn; omega, .inr ⟨g, cap, cur, rfl, hb, hg, hn, hm, hs, hx⟩⟩
theorem splice_len {α : Type} (L : List α) (o : Nat) (c : List α) (h : o + c.length ≤ L.length) : (splice L o c).length = L.length := length_splice L o c h
theorem splice_ins {α : Type} (E1 E2 R : List α) (a b : α) (i2 m2 : Nat) (h1 : E1.length = i2) (h2 : E2.length = m2) (hR : 2 ≤ R.length) : (splice (splice (E1 ++ E2 ++ R) (i2 + 2) E2) i2 [a, b]).take (i2 + 2 + m2) = E1 ++ a :: b :: E2 := by
 subst h1
 subst h2
 have e1 : splice (E1 ++ E2 ++ R) (E1.length + 2) E2 = (E1 ++ E2 ++ R).take (E1.length + 2) ++ (E2 ++ R.drop 2) := by
  unfold splice
  congr 2
  have h3 : (E1 ++ E2).length ≤ E1.length + 2 + E2.length := by rw [List.length_append]; omega
  rw [List.drop_append, List.drop_eq_nil_of_le h3, List.nil_append, List.length_append]
  congr 1
  omega
 have e2 : ∀ T X : List α, T.length = E1.length + 2 → T.take E1.length = E1 → splice (T ++ X) E1.length [a, b] = E1 ++ a :: b :: X := by
  intro T X h3 h4
  unfold splice
  rw [List.take_append_of_le_length (by omega), h4, show E1.length + [a, b].length = T.length by rw [h3]; rfl, List.drop_left]
  rfl
 have hlt : ((E1 ++ E2 ++ R).take (E1.length + 2)).length = E1.length + 2 := by rw [List.length_take, List.length_append, List.length_append]; omega
 rw [e1, e2 _ _ hlt (by rw [List.take_take, Nat.min_eq_left (by omega), List.append_assoc, List.take_left]), List.take_append, List.take_of_length_le (by omega)]
 congr 1
 rw [show E1.length + 2 + E2.length - E1.length = E2.length + 1 + 1 by omega, List.take_succ_cons, List.take_succ_cons, List.take_left]
theorem src_cells {w : World} {g : Nat} {cur : Array Value} {t : TypeId} (hg : w.heap[g]? = some (.cells cur t (0, 0))) (o : Nat) (cs : List Value) (h : ∀ j v, cs[j]? = some v → cur.toList[o + j]? = some v) : ∀ j v, cs[j]? = some v → w.cell? ((⟨g, o, none⟩ : Addr).add j) = some v := fun j v hj => by
 have e : (⟨g, o, none⟩ : Addr).add j = ⟨g, o + j, none⟩ := by unfold Addr.add; split <;> simp_all
 rw [e, blk_cell hg]
 have := h j v hj
 rwa [Array.getElem?_toList] at this
theorem ins_shift (base g cap : Nat) (cur : Array Value) (l : List S82) (i vb : Nat) (x : S82) (w : World) (hl : l.length ≤ 1000000000) (hi : i < l.length) (hroom : l.length + 1 ≤ cap) (hcm : cap ≤ maxLen) (hb : base ≤ g)
  (hg : w.heap[g]? = some (.cells cur 82 (0, 0))) (hs : cur.size = cap * 2) (hx : cur.toList.take (l.length * 2) = encP l)
  (hv : w.heap[vb]? = some (.cells #[.string x.f0, .string x.f1] 82 (0, 0))) (hvb : vb ≠ g) :
  Calls Tryz.prog 103 #[.slice (some ⟨g, 0, none⟩) l.length cap, .int .i64 i, .slice (some ⟨vb, 0, none⟩) 1 1] w (InsPost base (.slice (some ⟨g, 0, none⟩) l.length cap) (l.take i ++ x :: l.drop i) w) := by
 have hsz : (Tryz.prog.info? 82).map (·.size) = some 2 := by kernel_rfl
 have hzz : ∀ w, (Go.sizeOf 82).run Tryz.prog w = .ok 2 w := fun w => by simp [sizeOf, typeInfo]; kernel_rfl
 have hcm2 : cap ≤ 9223372036854775807 := by unfold maxLen at hcm; omega
 obtain ⟨hsp1, hsp2⟩ := encP_split l i (by omega)
 have hE2 : (encP (l.drop i)).length = (l.length - i) * 2 := by rw [encP_len, List.length_drop]
 have hcL : cur.toList.length = cap * 2 := by rw [Array.length_toList, hs]
 have hcur : cur.toList = encP (l.take i) ++ encP (l.drop i) ++ cur.toList.drop (l.length * 2) := by rw [← encP_append, List.take_append_drop, ← hx, List.take_append_drop]
 have hE1 : (encP (l.take i)).length = i * 2 := by rw [encP_len, List.length_take, Nat.min_eq_left (by omega)]
 have hz1 : ¬ ((1 : Int) = 0) := by omega
 have hz2 : ¬ ((i : Int) = (l.length : Int)) := by omega
 have hov : ∀ lb cb, (callFunc 112 #[.slice (some ⟨vb, 0, none⟩) 1 1, .slice (some ⟨g, (i + 1) * 2, none⟩) lb cb]).run Tryz.prog w = .ok (.value (.bool false)) w := fun lb cb => by
  have hsa : w.shape? vb = some (82, 2) := by unfold World.shape?; rw [hv]; rfl
  have hsb : w.shape? g = some (82, cur.size) := by unfold World.shape?; rw [hg]
  rw [run_callFunc_extern Tryz.func112 (by kernel_rfl) (by kernel_rfl) (by kernel_rfl) (e := Extern.SlicesOverlaps.overlaps #[35, 35] #[4]) (by kernel_rfl),
   Lib.run_overlaps_apart w 35 4 82 Tryz.underlying35 2 hzz ⟨vb, 0, none⟩ ⟨g, (i + 1) * 2, none⟩ 1 1 lb cb hvb 82 82 2 cur.size hsa hsb (by omega) (blk_frozen hv 0) (blk_frozen hv 2)]
  rfl
 have hgd : w.drew.heap[g]? = some (.cells cur 82 (0, 0)) := hg
 obtain ⟨C1, hC1⟩ : ∃ C1 : Array Value, C1 = (splice cur.toList ((i + 1) * 2) (encP (l.drop i))).toArray := ⟨_, rfl⟩
 have hC1s : C1.size = cap * 2 := by rw [hC1, List.size_toArray, splice_len _ _ _ (by rw [hcL, hE2]; omega), hcL]
 have hcp1 : ∀ ty dc sc, (Builtin.copy_ #[35, 35] ty #[.slice (some ⟨g, (i + 1) * 2, none⟩) (l.length + 1 - (i + 1)) dc, .slice (some ⟨g, i * 2, none⟩) (l.length + 1 - i) sc]).run Tryz.prog w.drew = .ok (goInt (Nat.min (l.length + 1 - i) (l.length + 1 - (i + 1)))) (w.drew.setRow g C1) := fun ty dc sc => by
  have h := run_copy_k (P := Tryz.prog) w.drew 35 35 ty 82 g ((i + 1) * 2) (l.length + 1 - (i + 1)) dc 2 ⟨g, i * 2, none⟩ (l.length + 1 - i) sc cur 82 (encP (l.drop i)) Tryz.underlying35 hsz hgd
   (by rw [hE2]; simp only [Nat.min_def]; split <;> omega)
   (src_cells hgd _ _ (fun j v hj => by rw [hcur, List.getElem?_append_left (by have := (List.getElem?_eq_some_iff.1 hj).1; rw [List.length_append, hE1]; omega), List.getElem?_append_right (by rw [hE1]; omega), hE1, Nat.add_sub_cancel_left]; exact hj))
   (by rw [hE2, hs]; omega) (encP_one _)
  rw [h, hC1]
 have hW1g : (w.drew.setRow g C1).heap[g]? = some (.cells C1 82 (0, 0)) := setRow_heap _ g cur C1 _ _ hgd
 have hW1v : (w.drew.setRow g C1).heap[vb]? = some (.cells #[.string x.f0, .string x.f1] 82 (0, 0)) := (setRow_other _ g vb C1 hvb).trans hv
 obtain ⟨C2, hC2⟩ : ∃ C2 : Array Value, C2 = (splice C1.toList (i * 2) [.string x.f0, .string x.f1]).toArray := ⟨_, rfl⟩
 have hcp2 : ∀ ty dc, (Builtin.copy_ #[35, 35] ty #[.slice (some ⟨g, i * 2, none⟩) (l.length + 1 - i) dc, .slice (some ⟨vb, 0, none⟩) 1 1]).run Tryz.prog (w.drew.setRow g C1) = .ok (goInt (Nat.min 1 (l.length + 1 - i))) ((w.drew.setRow g C1).setRow g C2) := fun ty dc => by
  have h := run_copy_k (P := Tryz.prog) (w.drew.setRow g C1) 35 35 ty 82 g (i * 2) (l.length + 1 - i) dc 2 ⟨vb, 0, none⟩ 1 1 C1 82 [.string x.f0, .string x.f1] Tryz.underlying35 hsz hW1g
   (by show 2 = _; simp only [Nat.min_def]; split <;> omega)
   (src_cells hW1v _ _ (fun j v hj => by rw [Nat.zero_add]; exact hj)) (by rw [hC1s]; show i * 2 + 2 ≤ _; omega) ap11_
  rw [h, hC2]
 have hfin : InsPost base (.slice (some ⟨g, 0, none⟩) l.length cap) (l.take i ++ x :: l.drop i) w (.returned (.slice (some ⟨g, 0, none⟩) (l.length + 1) cap)) ((w.drew.setRow g C1).setRow g C2) := by
  have hn : (l.take i ++ x :: l.drop i).length = l.length + 1 := by rw [List.length_append, List.length_take, List.length_cons, List.length_drop]; omega
  refine ⟨_, rfl, ?_, ?_, .inl rfl⟩
  ·rw [hn]
   refine row_of hb (setRow_heap _ g C1 C2 _ _ hW1g) hroom hcm (by rw [hC2, List.size_toArray, splice_len _ _ _ (by show i * 2 + 2 ≤ C1.toList.length; rw [Array.length_toList, hC1s]; omega), Array.length_toList, hC1s]) ?_
   rw [hC2, hC1, List.toList_toArray, List.toList_toArray, hcur]
   have hR : 2 ≤ (cur.toList.drop (l.length * 2)).length := by rw [List.length_drop, hcL]; omega
   have h := splice_ins (encP (l.take i)) (encP (l.drop i)) (cur.toList.drop (l.length * 2)) (.string x.f0) (.string x.f1) (i * 2) ((l.length - i) * 2) hE1 hE2 hR
   rw [show (i + 1) * 2 = i * 2 + 2 by omega, show (l.length + 1) * 2 = i * 2 + 2 + (l.length - i) * 2 by omega, h, encP_append]
   rfl
  ·exact ((gb_below (below_drew (Below.refl _ _))).trans (gb_setRow w.drew g C1)).trans (gb_setRow _ g C2)
 replace hfin := As_ hfin
 replace hcur := As_ hcur
 have hw1 : IntKind.i64.wrap ((l.length : Int) + 1) = ((l.length + 1 : Nat) : Int) := by rw [IntKind.wrap_i64]; omega
 have hw2 : IntKind.i64.wrap ((i : Int) + 1) = ((i + 1 : Nat) : Int) := by rw [IntKind.wrap_i64]; omega
 have hb1 : (0 : Int) ≤ (i : Int) + 1 := by omega
 have hin : i ≤ l.length := by omega
 have hb2 : ¬ (cap = i + 1) := by omega
 have hb3 : (i : Int) ≤ (l.length : Int) + 1 := by omega
 have hb4 : ¬ (cap = i) := by omega
 have htn : ((i : Int) + 1).toNat = i + 1 := by omega
 rw [show l.length + 1 - (i + 1) = l.length - i by omega] at hcp1
 clear hx hg hv hgd hW1g hW1v hC1 hC2 hC1s hE1 hE2 hcL hsp1 hsp2 hsz hzz hs hcm hcur
 go_enter Tryz.func103, Tryz.ntmps103
 go_wp2_with (simp only [hov])
 go_region_law (refine step_copy_runI rfl _ _ 35 35 rfl _ _ (by simp [Act.eval, Act.put]) (by simp [Act.eval, Act.put]) (hcp1 _ _ _) ?_)
 go_wp2_with (at_builtin; refine wpList_copy_runI _ rfl _ _ 35 35 rfl _ _ rfl rfl (hcp2 _ _) ?_)
 go_ret
 exact hfin.out
theorem splice_new {α : Type} (E1 E2 Z : List α) (a b : α) (i2 m2 : Nat) (h1 : E1.length = i2) (h2 : E2.length = m2) (hZ : 2 + m2 ≤ Z.length) : (splice (splice (E1 ++ Z) i2 [a, b]) (i2 + 2) E2).take (i2 + 2 + m2) = E1 ++ a :: b :: E2 := by
 subst h1
 subst h2
 have e1 : splice (E1 ++ Z) E1.length [a, b] = (E1 ++ [a, b]) ++ Z.drop 2 := by
  unfold splice
  rw [List.take_left, List.append_assoc]
  congr 2
  rw [List.drop_append, List.drop_eq_nil_of_le (by simp), List.nil_append]
  congr 1
  simp
 have e2 : splice ((E1 ++ [a, b]) ++ Z.drop 2) (E1.length + 2) E2 = (E1 ++ [a, b] ++ E2) ++ Z.drop (2 + E2.length) := by
  have h3 : (E1 ++ [a, b]).length = E1.length + 2 := by simp
  unfold splice
  rw [← h3, List.take_left, ← List.append_assoc]
  congr 1
  rw [List.drop_append, List.drop_eq_nil_of_le (by omega), List.nil_append, List.drop_drop]
  congr 1
  omega
 rw [e1, e2, List.take_append_of_le_length (by simp; omega), List.take_of_length_le (by simp; omega), List.append_assoc]
 rfl
theorem ins_grow (base g cap : Nat) (cur : Array Value) (l : List S82) (i vb : Nat) (x : S82) (w : World) (hl : l.length ≤ 1000000000) (hi : i < l.length) (hn : l.length ≤ cap) (hroom : cap < l.length + 1) (hcm : cap ≤ maxLen) (hb : base ≤ w.heap.size)
  (hg : w.heap[g]? = some (.cells cur 82 (0, 0))) (hs : cur.size = cap * 2) (hx : cur.toList.take (l.length * 2) = encP l)
  (hv : w.heap[vb]? = some (.cells #[.string x.f0, .string x.f1] 82 (0, 0))) (hvb : vb ≠ g) :
  Calls Tryz.prog 103 #[.slice (some ⟨g, 0, none⟩) l.length cap, .int .i64 i, .slice (some ⟨vb, 0, none⟩) 1 1] w (InsPost base (.slice (some ⟨g, 0, none⟩) l.length cap) (l.take i ++ x :: l.drop i) w) := by
 obtain ⟨i0, hi0, hz⟩ := Option.map_eq_some_iff.1 info82
 simp only [Prod.mk.injEq] at hz
 obtain ⟨hz0, hzs, hzb⟩ := hz
 have hsz : (Tryz.prog.info? 82).map (·.size) = some 2 := by kernel_rfl
 have hcm2 : cap ≤ 9223372036854775807 := by unfold maxLen at hcm; omega
 obtain ⟨hsp1, hsp2⟩ := encP_split l i (by omega)
 have hE2 : (encP (l.drop i)).length = (l.length - i) * 2 := by rw [encP_len, List.length_drop]
 have hcL : cur.toList.length = cap * 2 := by rw [Array.length_toList, hs]
 have hcur : cur.toList = encP (l.take i) ++ encP (l.drop i) ++ cur.toList.drop (l.length * 2) := by rw [← encP_append, List.take_append_drop, ← hx, List.take_append_drop]
 have hE1 : (encP (l.take i)).length = i * 2 := by rw [encP_len, List.length_take, Nat.min_eq_left (by omega)]
 have hz1 : ¬ ((1 : Int) = 0) := by omega
 have hz2 : ¬ ((i : Int) = (l.length : Int)) := by omega
 have hz3 : (cap : Int) < (l.length : Int) + 1 := by omega
 have hgw : g < w.heap.size := blk_lt hg
 have hvw : vb < w.heap.size := blk_lt hv
 have hkk : (l.length : Int) + 1 - (i : Int) = ((l.length + 1 - i : Nat) : Int) := by omega
 have hik : i + (l.length + 1 - i) = l.length + 1 := by omega
 have hold : (Builtin.firstCells i0.size i (.slice (some ⟨g, 0, none⟩) i cap)).run Tryz.prog w.drew = .ok (encP (l.take i)).toArray w.drew := by
  rw [hzs]
  exact run_firstCells_some w.drew 2 i ⟨g, 0, none⟩ i cap (encP (l.take i)) hE1 (src_cells (show w.drew.heap[g]? = _ from hg) _ _ (fun j v hj => by rw [Nat.zero_add, hcur, List.append_assoc, List.getElem?_append_left (List.getElem?_eq_some_iff.1 hj).1]; exact hj))
 obtain ⟨G, hG⟩ : ∃ G, G = grownCap w (l.length + 1) cap 82 := ⟨_, rfl⟩
 obtain ⟨ROW, hROW⟩ : ∃ ROW : Array Value, ROW = (encP (l.take i)).toArray ++ Builtin.zeroCells (Value.agg #[.string ⟨#[]⟩, .string ⟨#[]⟩]).cells (l.length + 1 - i) ++ Builtin.zeroCells (Value.agg #[.string ⟨#[]⟩, .string ⟨#[]⟩]).cells (G - (l.length + 1)) := ⟨_, rfl⟩
 have hrz : ∀ ty, (Builtin.append_ #[35, 3] ty #[.slice (some ⟨g, 0, none⟩) i cap, .int .i64 ((l.length : Int) + 1 - (i : Int))]).run Tryz.prog w = .ok (.slice (some ⟨w.heap.size, 0, none⟩) (l.length + 1) G) (w.drew.alloc (.cells ROW 82)) := fun ty => by
  have h := Lib.run_append_grow_zeros (P := Tryz.prog) w 35 3 ty 82 i0 _ .i64 .i64 Tryz.underlying35 Tryz.underlying3 hi0 hz0 (some ⟨g, 0, none⟩) i cap (encP (l.take i)) hold (l.length + 1 - i) (by omega) (by omega) (by omega) (by omega) (by rw [hzb]; omega) (by rw [hzb, hik]; exact growslice_fits hroom (by omega))
  rw [hik, ← hG] at h
  rw [hkk, hROW]
  exact h
 have hGn : l.length + 1 ≤ G := by rw [hG]; exact grownCap_ge w _ _ _
 have hGm : G ≤ maxLen := by rw [hG]; exact grownCap_le_maxLen w _ _ _ (by unfold maxLen; omega)
 have hG63 : G ≤ 9223372036854775807 := by unfold maxLen at hGm; omega
 have hRs : ROW.size = G * 2 := by
  rw [hROW, Array.size_append, Array.size_append, List.size_toArray, hE1, zeroCells_len, zeroCells_len]
  show i * 2 + (l.length + 1 - i) * 2 + (G - (l.length + 1)) * 2 = G * 2
  omega
 have hRL : ROW.toList = encP (l.take i) ++ ROW.toList.drop (i * 2) := by
  have h := List.take_append_drop (i * 2) ROW.toList
  conv => lhs; rw [← h]
  congr 1
  rw [hROW, Array.toList_append, Array.toList_append, List.append_assoc, List.toList_toArray]
  exact List.take_left' hE1
 obtain ⟨C1, hC1⟩ : ∃ C1 : Array Value, C1 = (splice ROW.toList (i * 2) [.string x.f0, .string x.f1]).toArray := ⟨_, rfl⟩
 have hC1s : C1.size = G * 2 := by rw [hC1, List.size_toArray, splice_len _ _ _ (by show i * 2 + 2 ≤ ROW.toList.length; rw [Array.length_toList, hRs]; omega), Array.length_toList, hRs]
 have hC1L : C1.toList.length = G * 2 := hC1s
 have hROL : ROW.toList.length = G * 2 := hRs
 obtain ⟨C2, hC2⟩ : ∃ C2 : Array Value, C2 = (splice C1.toList ((i + 1) * 2) (encP (l.drop i))).toArray := ⟨_, rfl⟩
 have hC2s : C2.size = G * 2 := by rw [hC2, List.size_toArray, splice_len _ _ _ (by rw [hC1L, hE2]; omega), hC1L]
 have hN : (w.drew.alloc (.cells ROW 82)).heap[w.heap.size]? = some (.cells ROW 82 (0, 0)) := my_alloc_new w.drew _
 have hNv : (w.drew.alloc (.cells ROW 82)).heap[vb]? = some (.cells #[.string x.f0, .string x.f1] 82 (0, 0)) := blk_alloc (w := w.drew) hv _
 have hNg : (w.drew.alloc (.cells ROW 82)).heap[g]? = some (.cells cur 82 (0, 0)) := blk_alloc (w := w.drew) hg _
 have hcpA : ∀ W : World, W.heap[w.heap.size]? = some (.cells ROW 82 (0, 0)) → W.heap[vb]? = some (.cells #[.string x.f0, .string x.f1] 82 (0, 0)) → ∀ ty dc, (Builtin.copy_ #[35, 35] ty #[.slice (some ⟨w.heap.size, i * 2, none⟩) (l.length + 1 - i) dc, .slice (some ⟨vb, 0, none⟩) 1 1]).run Tryz.prog W = .ok (goInt (Nat.min 1 (l.length + 1 - i))) (W.setRow w.heap.size C1) := fun W h1 h2 ty dc => by
  have h := run_copy_k (P := Tryz.prog) W 35 35 ty 82 w.heap.size (i * 2) (l.length + 1 - i) dc 2 ⟨vb, 0, none⟩ 1 1 ROW 82 [.string x.f0, .string x.f1] Tryz.underlying35 hsz h1
   (by show 2 = _; simp only [Nat.min_def]; split <;> omega)
   (src_cells h2 _ _ (fun j v hj => by rw [Nat.zero_add]; exact hj)) (by rw [hRs]; show i * 2 + 2 ≤ _; omega) ap11_
  rw [h, hC1]
 have hcpB : ∀ W : World, W.heap[w.heap.size]? = some (.cells C1 82 (0, 0)) → W.heap[g]? = some (.cells cur 82 (0, 0)) → ∀ ty dc sc, (Builtin.copy_ #[35, 35] ty #[.slice (some ⟨w.heap.size, (i + 1) * 2, none⟩) (l.length - i) dc, .slice (some ⟨g, i * 2, none⟩) (l.length - i) sc]).run Tryz.prog W = .ok (goInt (Nat.min (l.length - i) (l.length - i))) (W.setRow w.heap.size C2) := fun W h1 h2 ty dc sc => by
  have h := run_copy_k (P := Tryz.prog) W 35 35 ty 82 w.heap.size ((i + 1) * 2) (l.length - i) dc 2 ⟨g, i * 2, none⟩ (l.length - i) sc C1 82 (encP (l.drop i)) Tryz.underlying35 hsz h1
   (by rw [hE2]; simp)
   (src_cells h2 _ _ (fun j v hj => by rw [hcur, List.getElem?_append_left (by have := (List.getElem?_eq_some_iff.1 hj).1; rw [List.length_append, hE1]; omega), List.getElem?_append_right (by rw [hE1]; omega), hE1, Nat.add_sub_cancel_left]; exact hj))
   (by rw [hE2, hC1s]; omega) (encP_one _)
  rw [h, hC2]
 have hW1 := setRow_heap _ w.heap.size ROW C1 _ _ hN
 have hW1g : ((w.drew.alloc (.cells ROW 82)).setRow w.heap.size C1).heap[g]? = some (.cells cur 82 (0, 0)) := (setRow_other _ w.heap.size g C1 (by omega)).trans hNg
 have hfin : InsPost base (.slice (some ⟨g, 0, none⟩) l.length cap) (l.take i ++ x :: l.drop i) w (.returned (.slice (some ⟨w.heap.size, 0, none⟩) (l.length + 1) G)) ((((w.drew.alloc (.cells ROW 82)).setRow w.heap.size C1).drew).setRow w.heap.size C2) := by
  have hn : (l.take i ++ x :: l.drop i).length = l.length + 1 := by rw [List.length_append, List.length_take, List.length_cons, List.length_drop]; omega
  refine ⟨_, rfl, ?_, ?_, .inr ⟨_, rfl, Nat.le_refl _⟩⟩
  ·rw [hn]
   refine row_of hb (setRow_heap _ w.heap.size C1 C2 _ _ hW1) hGn hGm hC2s ?_
   rw [hC2, hC1, List.toList_toArray, List.toList_toArray, hRL]
   have hR : 2 + (l.length - i) * 2 ≤ (ROW.toList.drop (i * 2)).length := by rw [List.length_drop, hROL]; omega
   have h := splice_new (encP (l.take i)) (encP (l.drop i)) (ROW.toList.drop (i * 2)) (.string x.f0) (.string x.f1) (i * 2) ((l.length - i) * 2) hE1 hE2 hR
   rw [show (i + 1) * 2 = i * 2 + 2 by omega, show (l.length + 1) * 2 = i * 2 + 2 + (l.length - i) * 2 by omega, h, encP_append]
   rfl
  ·have z1 : w.grownBy ((w.drew.alloc (.cells ROW 82)).setRow w.heap.size C1) (some g) := ⟨rfl, rfl, rfl, by simp [World.setRow], fun k hk _ => (setRow_other _ w.heap.size k C1 (by omega)).trans (Below.heap_alloc w.drew _ k hk)⟩
   exact ⟨z1.os, z1.tape, z1.output, by simp [World.setRow], fun k hk hne => (setRow_other _ w.heap.size k C2 (by omega)).trans (z1.block k hk hne)⟩
 replace hfin := As_ hfin
 have hw2 : IntKind.i64.wrap ((i : Int) + 1) = ((i + 1 : Nat) : Int) := by rw [IntKind.wrap_i64]; omega
 have hb1 : (0 : Int) ≤ (i : Int) + 1 := by omega
 have hin : i ≤ l.length := by omega
 have hb2 : ¬ (G = i + 1) := by omega
 have hb3 : (i : Int) ≤ (l.length : Int) + 1 := by omega
 have hb4 : ¬ (G = i) := by omega
 have hb5 : ¬ (cap = i) := by omega
 have htn : ((i : Int) + 1).toNat = i + 1 := by omega
 have hA := fun (W : World) (e : W.heap = (w.drew.alloc (.cells ROW 82)).heap) => hcpA W (by rw [e]; exact hN) (by rw [e]; exact hNv)
 have hB := fun (W : World) (e : W.heap = ((w.drew.alloc (.cells ROW 82)).setRow w.heap.size C1).heap) => hcpB W (by rw [e]; exact hW1) (by rw [e]; exact hW1g)
 clear hcur hx hg hv hN hNv hNg hW1 hW1g hC1L hROL hC1 hC2 hC1s hC2s hE1 hE2 hcL hsp1 hsp2 hsz hs hcm hRs hRL hROW hold hkk hik hcpA hcpB hG hGm hi0 hz0 hzs hzb
 go_enter Tryz.func103, Tryz.ntmps103
 go_wp2_with (first
  | (at_builtin; refine Lib.wpList_append_run _ rfl _ _ _ _ rfl _ _ rfl rfl _ _ (hrz _) ?_)
  | (refine wpList_copy_runI (o := ⟨some 45, _, _, _, _, _⟩) _ rfl _ _ 35 35 rfl _ _ rfl rfl (hA _ ?eA _ _) ?_; (case eA => rfl)))
 go_region_law (refine step_copy_runI rfl _ _ 35 35 rfl (.slice (some ⟨w.heap.size, (i + 1) * 2, none⟩) (l.length - i) (G - (i + 1))) (.slice (some ⟨g, i * 2, none⟩) (l.length - i) (cap - i)) (by simp [Act.eval, Act.put]) (by simp [Act.eval, Act.put]) (hB (((w.alloc (.cells ROW 82)).drew.setRow w.heap.size C1).drew) rfl 3 (G - (i + 1)) (cap - i)) ?_)
 go_wp2
 go_ret
 exact hfin.out
theorem ins_calls (base : Nat) (v : Value) (l : List S82) (i vb : Nat) (x : S82) (w : World) (hl : l.length ≤ 1000000000) (hi : i ≤ l.length) (ho : w.ownsRow base 82 2 v l.length (encP l)) (hbase : base ≤ w.heap.size)
  (hv : w.heap[vb]? = some (.cells #[.string x.f0, .string x.f1] 82 (0, 0))) (hvb : some vb ≠ v.ownBlock) :
  Calls Tryz.prog 103 #[v, .int .i64 i, .slice (some ⟨vb, 0, none⟩) 1 1] w (InsPost base v (l.take i ++ x :: l.drop i) w) := by
 by_cases he : i = l.length
 ·subst he
  rw [List.take_length, List.drop_length]
  exact ins_end base v l vb x w hl ho hbase hv
 ·rcases ho.2 with ⟨rfl, h0⟩ | ⟨g, cap, cur, rfl, hb, hg, hn, hm, hs, hx⟩
  ·omega
  ·have hne : vb ≠ g := fun e => hvb (by rw [e]; rfl)
   by_cases hr : l.length + 1 ≤ cap
   ·exact ins_shift base g cap cur l i vb x w hl (by omega) hr hm hb hg hs hx hv hne
   ·exact ins_grow base g cap cur l i vb x w hl (by omega) hn (by omega) hm hbase hg hs hx hv hne
theorem rows_R {base : Nat} {ok : Nat → Prop} {v : Value} {l : List S82} {w : World} (h : w.ownsRow base 82 2 v l.length (encP l)) (hok : ∀ k, v.ownBlock = some k → ok k) : Kd.R k82 82 w base ok v l := by
 refine ⟨hok, encP l, h, encP_len l, fun j p hj => ?_⟩
 have hjl : j < l.length := (List.getElem?_eq_some_iff.1 hj).1
 have e : ((encP l).drop (j * 2)).take 2 = [.string p.f0, .string p.f1] := by
  rw [(encP_split l j (by omega)).2, List.drop_eq_getElem_cons hjl]
  have : l[j] = p := (List.getElem?_eq_some_iff.1 hj).2
  rw [this]; rfl
 show Kd.M k82 w base _ p (((encP l).drop (j * 2)).take 2)
 rw [e]
 exact k82_mkM w base _ p
end Go.Proofs.YtjappgjpikbdeaaGreatDoor.PTkp
