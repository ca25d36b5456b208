/- A part of the walk of QuotaHolds. No condition. -/
import Derived.Test.YtgapkicplhbidaaDoorProg
import Derived.Test.YtgapkicplhbidaaDoorShelfB
import Derived.Below
import Derived.Deep.Draws
import Derived.Deep.AppendLies
import Derived.Maps.AppendAt
import Derived.OwnWalk
import Derived.Laws.BytesArg
import Derived.Laws.MakeOwn
import Derived.Laws.OwnMore
import Derived.Deep.OwnRows
import Derived.Tactics
import Derived.Lib.ConvBytes
import Derived.Laws.Slices
import Derived.WalkKit
import Derived.KernelRfl
import Derived.RowKit3
import Derived.Deep.LoopGhost
import Derived.Deep.QuietTactic
import Derived.BigQuiet
import Derived.WideLaws
import Derived.Deep.DeepCutAuto
import Derived.Deep.CutBlock
import Derived.Deep.RegionHeld3
import Derived.Laws.Rows
import Derived.Lib.AppendStr
import Derived.ArgAppend
import Derived.Laws.IdiomCopy
import Derived.OrdersHeld
import Derived.Laws.BitsLemmas
import Derived.RowKit
import Derived.Lib.Strings
import Derived.Lib.Slices
import Derived.Lib.Walk
import Derived.Lib.Bytealg
import Derived.StillTailTactics
import Derived.WalkSpells
import Derived.Lib.Builder
import Derived.Lib.UnsafeStr
import Derived.Laws.Externs
import Derived.Shelf.RegionOpenPlain
import Derived.RegionTactic
import Derived.ChangeAlike
import Derived.Laws.BitsAllLaws
import Derived.Lib.ReplaceLaws
import Derived.ScopeJumps
import Derived.Scope
import Derived.Shelf.Spec.SlicesInsertGrow
import Derived.Laws.CopyOwn
import Derived.Deep.AppendSrc
import Derived.Lib.SliceRun
import Derived.Lib.Overlaps
import Derived.Lib.AppendZerosOnto
import Derived.RangeFuncNested
import Derived.RangeFuncBound
import Derived.RangeFuncCalls
import Derived.RangeFuncLeaves
import Derived.RangeFuncBox
import Derived.Shelf.Abstract
import Derived.Shelf.RegionOpen
import Derived.OwnWalkIn
import Derived.TacticsInMore
import Derived.LoopNIn
import Derived.LoopIn
import Derived.WalkMore
import Derived.Test.YtgapkicplhbidaaDoorVMoreQuh
namespace Go.Proofs.YtgapkicplhbidaaDoor.PQuh
set_option maxRecDepth 100000
set_option maxHeartbeats 8000000
open Go.RowKit Go.Proofs.YtgapkicplhbidaaDoorW.PrintWords Go.Proofs.YtgapkicplhbidaaDoorW.PrintLast Go.Proofs.YtgapkicplhbidaaDoorW.PrintMore
attribute [local go_sem] max2_int min2_int max_two min_two max_three min_three max_four min_four   -- for this text's walks alone
set_option linter.unusedVariables false
set_option linter.unusedSimpArgs false
theorem As_ {p : Prop} (h : p) : Aside0 p := ⟨h⟩
theorem bxE {P : Program} {ops : Array Oper} {rest : List Oper} {o : Oper} {a : Act} {Q : Exit → Act → World → Prop} {W : World} {N : Tmp} {cs : Array Value} {t : TypeId}
    (h : ∀ g, g = W.heap.size → ∀ w1, w1.heap[g]? = some (.cells cs t (0, 0)) → Below W.heap.size W w1 → wpList P ops Q rest (a.put o.dst (.pointer (some ⟨g, 0, none⟩))) w1)
    (hd : o.dst = some N := by rfl) (hg : o.guard = none := by rfl)
    (hr : (execOp a.eval o).run P W = .ok (.value (.pointer (some ⟨W.heap.size, 0, none⟩))) (W.alloc (.cells cs t (0, 0))) := by first | (go_simp; done) | (go_simp; rfl)) : wpList P ops Q (o :: rest) a W := box_event hg hd hr h
theorem gk_ {P : Program} {ops : Array Oper} {Q : Exit → Act → World → Prop} {rest : List Oper} {oi : Oper} {a : Act} {w : World} (N : Option Tmp) {f : FuncId} {fn : Func} {asx : Array Operand} {ts : Array TypeId} (hf : P.funcs[f]? = some fn) (args : Array Value)
    (h : Calls P f args w fun e w' => ∃ v, e = .returned v ∧ wpList P ops Q rest (a.put N v) w')
    (hd : oi.dst = N := by rfl) (hg : oi.guard = none := by rfl) (hname : (fn.name == "runtime.NumGoroutine") = false := by kernel_rfl) (hb : fn.body.isSome = true := by rfl)
    (hop : oi.op = .call { callee := .value (.func f), args := asx, argTypes := ts } := by rfl) (hargs : asx.map a.eval = args := by (try simp only [List.map_toArray, List.map_cons, List.map_nil]); first | done | rfl | (simp only [List.length_drop, List.length_take]; rfl)) : wpList P ops Q (oi :: rest) a w := goesL_ N hd hg hf hname hb args hop hargs h
theorem ap0_ {p : Prop} (h : p := by first | omega | exact Nat.le_refl _) : p := h
theorem ap1_ {p : Prop} (h : p := by intro w'; go_simp; with_reducible rfl) : p := h
theorem ap2_ {p : Prop} (h : p := by rw [AD.out, ANO.out hE0]; exact AH.out) : p := h
theorem ap3_ {p : Prop} (h : p := by have := ASM.out; have := ANB.out; omega) : p := h
theorem ap4_ {p : Prop} (h : p := by have := AHI.out; have := AHR.out; omega) : p := h
theorem ap5_ {p : Prop} (h : p := by first | rfl | (rw [AW.out]) | (simp; done)) : p := h
theorem ap6_ {p : Prop} (h : p := by first | rfl | (simp; done) | (simp [*]; done)) : p := h
theorem ap7_ {p : Prop} (h : p := by first | (with_reducible assumption) | assumption) : p := h
theorem ap8_ {p : Prop} (h : p := by repeat (first | exact hbd.out | apply pw_below_drewN)) : p := h
theorem ap9_ {p : Prop} (h : p := by repeat (first | exact Drawn0.refl _ | apply Drawn0.step)) : p := h
theorem ap10_ {p : Prop} (h : p := by have := AHI.out; have := AHR.out; have := ANB.out; omega) : p := h
theorem ap11_ {p : Prop} (h : p := by intro u hu; simp at hu; rcases hu with rfl | rfl <;> rfl) : p := h
theorem ap12_ {p : Prop} (h : p := by rw [Nat.pow_succ] at h; exact Nat.div_lt_of_lt_mul (by omega)) : p := h
theorem ap13_ {p : Prop} (h : p := by first | rfl | (rw [hws]; done) | (simp [hw1]; done) | (simp; done)) : p := h
theorem ap14_ {p : Prop} (h : p := by (try simp only [List.map_toArray, List.map_cons, List.map_nil]); first | done | rfl) : p := h
theorem ap15_ {p : Prop} (h : p := by first | rfl | (simp [errW_none, errW_some] <;> rfl) | (simp [*, errW_none, errW_some] <;> rfl)) : p := h
theorem ap16_ {p : Prop} (h : p := by simp only [Act.put, List.setIfInBounds_toArray, List.set_cons_zero, List.set_cons_succ, i64_w, i32_w]; rfl) : p := h
theorem ap17_ {p : Prop} (h : p := by repeat (first | (with_reducible first | exact HB.out | apply below_alloc | apply pw_below_drewN | apply below_drew1) | exact HB.out)) : p := h
theorem ap18_ {p : Prop} (h : p := by repeat (first | (with_reducible first | exact HBW.out | apply below_alloc | apply pw_below_drewN | apply below_drew1) | exact HBW.out)) : p := h
theorem ap19_ {p : Prop} (h : p := by intro w'; go_simp; have a0 := HQ0.out; have hW := HWD.out; have hD := AD.out; rw [if_neg a0, i64_w, hD, hW]; first | done | with_reducible rfl) : p := h
theorem ap20_ {p : Prop} (h : p := by intro w'; go_simp; have hW := HWS.out; first | (rw [hW]; first | done | with_reducible rfl) | (rw [i64_w, hW]; first | done | with_reducible rfl)) : p := h
theorem ap21_ {p : Prop} (h : p := by intro w'; go_simp; have hW := HWN.out; first | (rw [hW]; first | done | with_reducible rfl) | (rw [i64_w, hW]; first | done | with_reducible rfl)) : p := h
theorem ap22_ {p : Prop} (h : p := by repeat (first | (with_reducible first | exact HK.out | apply KeepBut.set_ | apply keep_drewN | apply keep_drew | apply keep_alloc) | exact HK.out)) : p := h
theorem ap23_ {p : Prop} (h : p := by repeat (first | (with_reducible first | exact HI0.out | apply IsS83.alloc | apply IsS83.drewN | apply IsS83.drew | apply IsS83.set_0 | apply IsS83.set_1) | exact HI0.out)) : p := h
theorem ap24_ {p : Prop} (h : p := by repeat (first | (with_reducible first | exact HB.out | apply below_alloc | apply pw_below_drewN | apply below_drew1 | refine below_set ?_ (IsS83.ge HI0.out)) | exact HB.out)) : p := h
def errW : Option Int → Value
 | none => .nilIface
 | some c => .iface 0 (.int .i64 c)
theorem errW_none : errW none = .nilIface := rfl
theorem errW_some (c : Int) : errW (some c) = .iface 0 (.int .i64 c) := rfl
theorem my_bytes_cell (W : World) (e : TypeId) (s : ByteArray) (k g : Nat) (hg : g = W.heap.size) (hk : k < s.size) : (Lib.bytesWorld W e s).cell? ⟨g, k, none⟩ = some (.int .u8 (bt s k)) := by
 subst hg
 rw [Lib.bytesWorld_cell W e s k hk]
 have := bt_at s k hk
 rw [← this]
 have h' : k < s.data.toList.length := by rw [data_length]; exact hk
 simp [List.getD_eq_getElem?_getD, List.getElem?_eq_getElem h']
 rfl
def ofL (l : List UInt8) : ByteArray := ⟨l.toArray⟩
theorem ofL_toList (l : List UInt8) : (ofL l).toList = l := by rw [ByteArray.toList_eq]; simp [ofL]
theorem ofL_of (s : ByteArray) : ofL s.toList = s := by
 rw [ByteArray.toList_eq]; simp [ofL]
theorem ba_ext {s t : ByteArray} (h : s.toList = t.toList) : s = t := by rw [← ofL_of s, ← ofL_of t, h]
theorem ba_size (s : ByteArray) : s.size = s.toList.length := by rw [ByteArray.toList_eq, data_length]
theorem ofL_size (l : List UInt8) : (ofL l).size = l.length := by rw [ba_size, ofL_toList]
theorem ba_append (s t : ByteArray) : (s ++ t).toList = s.toList ++ t.toList := by
 simp [ByteArray.toList_eq]
theorem ba_extract (s : ByteArray) (a b : Nat) : (s.extract a b).toList = (s.toList.take b).drop a := by
 simp only [ByteArray.toList_eq, ByteArray.data_extract, Array.toList_extract, List.extract_eq_take_drop]
 rw [List.drop_take]
theorem bt_toList (s : ByteArray) (i : Int) (h : 0 ≤ i) : bt s i = ((s.toList.getD i.toNat 0).toNat : Int) := by
 unfold bt
 split
 ·rename_i h'
  have h2 : i.toNat < s.data.toList.length := by rw [data_length]; exact h'
  rw [ByteArray.toList_eq]
  simp [List.getD_eq_getElem?_getD, List.getElem?_eq_getElem h2]
  rfl
 ·rename_i h'
  have h2 : s.data.toList.length ≤ i.toNat := by rw [data_length]; omega
  rw [ByteArray.toList_eq]
  simp [List.getD_eq_getElem?_getD, List.getElem?_eq_none h2]
theorem bt_get (s : ByteArray) (k : Nat) (h : k < s.toList.length) : bt s k = ((s.toList[k]).toNat : Int) := by
 rw [bt_toList s k (by omega)]
 simp [List.getD_eq_getElem?_getD, List.getElem?_eq_getElem h]
def isDig (c : UInt8) : Prop := 48 ≤ c.toNat ∧ c.toNat ≤ 57
instance (c : UInt8) : Decidable (isDig c) := by unfold isDig; infer_instance
def dstep (n : Nat) (c : UInt8) : Nat := n * 10 + (c.toNat - 48)
def dval (l : List UInt8) : Nat := l.foldl dstep 0
def plainDec (l : List UInt8) : Prop := l.length = 1 ∨ l.head? ≠ some 48
theorem foldl_dstep_ge (l : List UInt8) : ∀ n, n ≤ l.foldl dstep n := by
 induction l with
 | nil => intro n; exact Nat.le_refl _
 | cons c l ih =>
  intro n
  refine Nat.le_trans ?_ (ih _)
  unfold dstep; omega
theorem w64 {x : Int} (h0 : -9223372036854775808 ≤ x) (h1 : x ≤ 9223372036854775807) : wrap64 x = x := by unfold wrap64; omega
theorem my_alloc_new (w : World) (o : Obj) : (w.alloc o).heap[w.heap.size]? = some o := by simp [World.alloc, -World.alloc_eq]
theorem my_alloc_old (w : World) (o : Obj) (i : Nat) (h : i < w.heap.size) : (w.alloc o).heap[i]? = w.heap[i]? := by
 simp [World.alloc, -World.alloc_eq, Array.getElem?_push, Nat.ne_of_lt h]
theorem my_alloc_size (w : World) (o : Obj) : (w.alloc o).heap.size = w.heap.size + 1 := by simp
theorem my_lit_size (l : List UInt8) : (⟨⟨l⟩⟩ : ByteArray).size = l.length := rfl
theorem info5 : (Tryd.prog.info? 5).map (fun i => (i.zero, i.size, i.bytes)) = some (some (.int .u8 0), 1, 1) := by kernel_rfl
theorem info50 : (Tryd.prog.info? 50).map (fun i => (i.zero, i.size, i.bytes)) = some (some (.agg #[(.string ⟨#[]⟩), (.string ⟨#[]⟩)]), 2, 32) := by kernel_rfl
theorem info76 : (Tryd.prog.info? 76).map (fun i => (i.zero, i.size, i.bytes)) = some (some (.agg #[(.string ⟨#[]⟩), (.string ⟨#[]⟩), (.bool false)]), 3, 40) := by kernel_rfl
structure S76 where
 f0 : ByteArray
 f1 : ByteArray
 f2 : Bool
structure S43 where
 f0 : Int
 f1 : Int
structure S29 where
 f0 : Int
 f1 : Int
def z29 : S29 := ⟨(0 : Int), (0 : Int)⟩
def k29 : Kd S29 := Kd.iso (Kd.pair (Kd.int .u16) (Kd.int .u16)) (fun x : S29 => (x.f0, x.f1))
theorem k29_open {w : World} {x : S29} {cs : List Value} (h : k29.K w x cs) : cs = [.int .u16 x.f0, .int .u16 x.f1] := by
 obtain ⟨_, _, rfl, rfl, rfl⟩ := h
 exact rfl
theorem k29_mk (w : World) (x : S29)  : k29.K w x [.int .u16 x.f0, .int .u16 x.f1] := ⟨[.int .u16 x.f0], [.int .u16 x.f1], rfl, rfl, rfl⟩
def rd_T29 (xs : List S29) (i : Int) : S29 := xs.getD i.toNat z29
theorem at_T29 {w : World} {A : Option Addr} {n : Nat} {xs : List S29} (h : Kd.C k29 w A n xs) (i : Int) (h0 : 0 ≤ i) (h1 : i < n) : ∃ ad , A = some ad ∧ w.cell? (ad.add (i.toNat * 2)) = some (.int .u16 (rd_T29 xs i).f0) ∧ w.cell? ⟨(ad.add (i.toNat * 2)).block, (ad.add (i.toNat * 2)).off + 1, none⟩ = some (.int .u16 (rd_T29 xs i).f1) := by
 obtain ⟨ad, c, e, _, hK, hc0⟩ := Kd.C_get h z29 i h0 h1
 have hc : ∀ j u, c[j]? = some u → w.cell? (ad.add (i.toNat * 2 + j)) = some u := hc0
 obtain rfl := k29_open hK
 exact ⟨ad, e, hc 0 _ rfl, by rw [← add_field _ _ 1 (by omega)]; exact hc 1 _ rfl⟩
structure S50 where
 f0 : ByteArray
 f1 : ByteArray
def z50 : S50 := ⟨(⟨#[]⟩ : ByteArray), (⟨#[]⟩ : ByteArray)⟩
def k50 : Kd S50 := Kd.iso (Kd.pair Kd.string Kd.string) (fun x : S50 => (x.f0, x.f1))
theorem k50_open {w : World} {x : S50} {cs : List Value} (h : k50.K w x cs) : cs = [.string x.f0, .string x.f1] := by
 obtain ⟨_, _, rfl, rfl, rfl⟩ := h
 exact rfl
theorem k50_mkM (w : World) (base : Nat) (ok : Nat → Prop) (x : S50)  : k50.M w base ok x [.string x.f0, .string x.f1] := ⟨[.string x.f0], [.string x.f1], rfl, rfl, rfl⟩
def rd_T50 (xs : List S50) (i : Int) : S50 := xs.getD i.toNat z50
theorem at_T50 {w : World} {A : Option Addr} {n : Nat} {xs : List S50} (h : Kd.C k50 w A n xs) (i : Int) (h0 : 0 ≤ i) (h1 : i < n) : ∃ ad , A = some ad ∧ w.cell? (ad.add (i.toNat * 2)) = some (.string (rd_T50 xs i).f0) ∧ w.cell? ⟨(ad.add (i.toNat * 2)).block, (ad.add (i.toNat * 2)).off + 1, none⟩ = some (.string (rd_T50 xs i).f1) := by
 obtain ⟨ad, c, e, _, hK, hc0⟩ := Kd.C_get h z50 i h0 h1
 have hc : ∀ j u, c[j]? = some u → w.cell? (ad.add (i.toNat * 2 + j)) = some u := hc0
 obtain rfl := k50_open hK
 exact ⟨ad, e, hc 0 _ rfl, by rw [← add_field _ _ 1 (by omega)]; exact hc 1 _ rfl⟩
theorem bl_irr : ∀ x : List UInt8, Op.bytesLess x x = false
 | [] => rfl
 | a :: x => by
  have h : ¬ a < a := fun h => absurd (UInt8.lt_iff_toNat_lt.1 h) (Nat.lt_irrefl _)
  simp [Op.bytesLess, bl_irr x, h]
theorem bl_trans : ∀ x y z : List UInt8, Op.bytesLess x y = true → Op.bytesLess y z = true → Op.bytesLess x z = true
 | _, [], _, h, _ => by cases ‹List UInt8› <;> simp [Op.bytesLess] at h
 | _, _ :: _, [], _, h => by simp [Op.bytesLess] at h
 | [], _ :: _, _ :: _, _, _ => rfl
 | a :: x, b :: y, c :: z, h1, h2 => by
  simp only [Op.bytesLess, Bool.or_eq_true, decide_eq_true_eq, Bool.and_eq_true, beq_iff_eq] at h1 h2 ⊢
  rcases h1 with h1 | ⟨rfl, h1⟩
  ·rcases h2 with h2 | ⟨rfl, h2⟩
   ·exact .inl (UInt8.lt_iff_toNat_lt.2 (Nat.lt_trans (UInt8.lt_iff_toNat_lt.1 h1) (UInt8.lt_iff_toNat_lt.1 h2)))
   ·exact .inl h1
  ·rcases h2 with h2 | ⟨rfl, h2⟩
   ·exact .inl h2
   ·exact .inr ⟨rfl, bl_trans x y z h1 h2⟩
theorem bl_total : ∀ x y : List UInt8, Op.bytesLess x y = false → Op.bytesLess y x = false → x = y
 | [], [], _, _ => rfl
 | [], _ :: _, h, _ => by simp [Op.bytesLess] at h
 | _ :: _, [], _, h => by simp [Op.bytesLess] at h
 | a :: x, b :: y, h1, h2 => by
  simp only [Op.bytesLess, Bool.or_eq_false_iff, decide_eq_false_iff_not, Bool.and_eq_false_iff] at h1 h2
  have hab : a = b := UInt8.toNat_inj.1 (by
   have g1 : ¬ a.toNat < b.toNat := fun h => h1.1 (UInt8.lt_iff_toNat_lt.2 h)
   have g2 : ¬ b.toNat < a.toNat := fun h => h2.1 (UInt8.lt_iff_toNat_lt.2 h)
   omega)
  subst hab
  have e1 : Op.bytesLess x y = false := h1.2.elim (fun h => absurd h (by simp)) id
  have e2 : Op.bytesLess y x = false := h2.2.elim (fun h => absurd h (by simp)) id
  rw [bl_total x y e1 e2]
def kLt (a b : ByteArray) : Bool := Op.bytesLess a.toList b.toList
theorem kLt_irr (a : ByteArray) : kLt a a = false := bl_irr _
theorem kLt_trans {a b c : ByteArray} (h : kLt a b = true) (k : kLt b c = true) : kLt a c = true := bl_trans _ _ _ h k
theorem kLt_total {a b : ByteArray} (h : kLt a b = false) (k : kLt b a = false) : a = b := ba_ext (bl_total _ _ h k)
def sortK (l : List S50) : Prop := l.Pairwise (fun a b => kLt a.f0 b.f0 = true)
def posK (l : List S50) (key : ByteArray) : Nat := l.countP (fun p => kLt p.f0 key)
theorem posK_le (l : List S50) (key : ByteArray) : posK l key ≤ l.length := List.countP_le_length
theorem posK_none (l : List S50) (key : ByteArray) (h : ∀ p ∈ l, kLt p.f0 key = false) : posK l key = 0 := by
 unfold posK
 rw [List.countP_eq_zero]
 intro p hp e
 rw [h p hp] at e
 exact absurd e (by simp)
theorem posK_spec : ∀ (l : List S50) (key : ByteArray), sortK l → ∀ (i : Nat) (hi : i < l.length), kLt l[i].f0 key = decide (i < posK l key)
 | [], _, _, i, hi => absurd hi (Nat.not_lt_zero _)
 | a :: t, key, hs, i, hi => by
  obtain ⟨h1, h2⟩ := List.pairwise_cons.1 hs
  cases ha : kLt a.f0 key with
  | true =>
   have e : posK (a :: t) key = posK t key + 1 := by unfold posK; rw [List.countP_cons_of_pos (by exact ha)]
   cases i with
   | zero => rw [e, decide_eq_true (by omega)]; exact ha
   | succ i =>
    have ih := posK_spec t key h2 i (by simpa using hi)
    rw [List.getElem_cons_succ, ih, e]
    by_cases hlt : i < posK t key
    ·rw [decide_eq_true hlt, decide_eq_true (by omega)]
    ·rw [decide_eq_false hlt, decide_eq_false (by omega)]
  | false =>
   have hall : ∀ p ∈ a :: t, kLt p.f0 key = false := by
    intro p hp
    rcases List.mem_cons.1 hp with hp | hp
    ·rw [hp]; exact ha
    ·cases hk : kLt p.f0 key with
     | false => rfl
     | true => rw [kLt_trans (h1 p hp) hk] at ha; exact absurd ha (by simp)
   rw [posK_none _ key hall, decide_eq_false (Nat.not_lt_zero _)]
   exact hall _ (List.getElem_mem hi)
def hasK (l : List S50) (key : ByteArray) : Bool := match l[posK l key]? with
 | some p => p.f0.toList == key.toList
 | none => false
theorem hasK_lt {l : List S50} {key : ByteArray} (h : hasK l key = true) : ∃ hp : posK l key < l.length, l[posK l key].f0 = key := by
 unfold hasK at h
 by_cases hp : posK l key < l.length
 ·rw [List.getElem?_eq_getElem hp] at h
  exact ⟨hp, ba_ext (beq_iff_eq.1 h)⟩
 ·rw [List.getElem?_eq_none (by omega)] at h; exact absurd h (by simp)
theorem hasK_no {l : List S50} {key : ByteArray} (h : hasK l key = false) (hp : posK l key < l.length) : l[posK l key].f0.toList ≠ key.toList := by
 unfold hasK at h
 rw [List.getElem?_eq_getElem hp] at h
 exact beq_eq_false_iff_ne.1 h
def getK (l : List S50) (key : ByteArray) : ByteArray × Bool := if hasK l key = true then ((rd_T50 l (posK l key : Int)).f1, true) else (⟨#[]⟩, false)
def setK (l : List S50) (key value : ByteArray) : List S50 := if hasK l key = true then l.set (posK l key) ⟨key, value⟩ else l.take (posK l key) ++ ⟨key, value⟩ :: l.drop (posK l key)
def delK (l : List S50) (key : ByteArray) : List S50 := if hasK l key = true then l.take (posK l key) ++ l.drop (posK l key + 1) else l
theorem sortK_del {l : List S50} (h : sortK l) (key : ByteArray) : sortK (delK l key) := by
 unfold delK
 split
 ·refine List.Pairwise.sublist ?_ h
  have e : l.take (posK l key) ++ l.drop (posK l key) = l := List.take_append_drop _ _
  conv => rhs; rw [← e]
  refine List.Sublist.append (List.Sublist.refl _) ?_
  rw [← List.drop_drop]
  exact List.drop_sublist _ _
 ·exact h
theorem sortK_set {l : List S50} (h : sortK l) (key value : ByteArray) : sortK (setK l key value) := by
 unfold setK
 cases hh : hasK l key with
 | true =>
  obtain ⟨hp, hk⟩ := hasK_lt hh
  rw [if_pos rfl]
  have hm : (l.set (posK l key) ⟨key, value⟩).map (·.f0) = l.map (·.f0) := by
   rw [List.map_set]
   apply List.ext_getElem?
   intro i
   rw [List.getElem?_set]
   split
   ·rename_i e
    subst e
    rw [List.length_map, if_pos hp, List.getElem?_map, List.getElem?_eq_getElem hp, Option.map_some, hk]
   ·rfl
  have h1 : (l.map (·.f0)).Pairwise (fun a b => kLt a b = true) := List.pairwise_map.2 h
  rw [← hm] at h1
  exact List.pairwise_map.1 h1
 | false =>
  rw [if_neg (by simp)]
  have hlt : ∀ p ∈ l.take (posK l key), kLt p.f0 key = true := by
   intro p hp
   obtain ⟨i, hi, rfl⟩ := List.mem_iff_getElem.1 hp
   rw [List.length_take] at hi
   rw [List.getElem_take, posK_spec l key h i (by omega)]
   exact decide_eq_true (by omega)
  have hge : ∀ p ∈ l.drop (posK l key), kLt key p.f0 = true := by
   intro p hp
   obtain ⟨i, hi, rfl⟩ := List.mem_iff_getElem.1 hp
   rw [List.length_drop] at hi
   rw [List.getElem_drop]
   have h1 := posK_spec l key h (posK l key + i) (by omega)
   rw [decide_eq_false (by omega)] at h1
   cases hk : kLt key l[posK l key + i].f0 with
   | true => rfl
   | false =>
    have he := kLt_total hk h1
    exfalso
    by_cases h0 : i = 0
    ·subst h0
     exact hasK_no hh (by omega) (by simp only [Nat.add_zero] at he; rw [← he])
    ·have h2 := List.pairwise_iff_getElem.1 h (posK l key) (posK l key + i) (by omega) (by omega) (by omega)
     rw [← he] at h2
     have h3 := posK_spec l key h (posK l key) (by omega)
     rw [decide_eq_false (Nat.lt_irrefl _), h2] at h3
     exact absurd h3 (by simp)
  refine List.pairwise_append.2 ⟨List.Pairwise.sublist (List.take_sublist _ _) h, List.pairwise_cons.2 ⟨fun p hp => hge p hp, List.Pairwise.sublist (List.drop_sublist _ _) h⟩, ?_⟩
  intro a ha b hb
  rcases List.mem_cons.1 hb with hb | hb
  ·rw [hb]; exact hlt a ha
  ·exact kLt_trans (hlt a ha) (hge b hb)
theorem gb_set (w : World) (g k : Nat) (v : Value) : w.grownBy (w.setCell ⟨g, k, none⟩ v) (some g) := ⟨rfl, rfl, rfl, by simp [World.setCell], fun i _ hi => Below.heap_setCell w ⟨g, k, none⟩ v i (fun e => hi (by rw [e]))⟩
theorem gb_below {w w' : World} {g : Nat} (h : Below w.heap.size w w') : w.grownBy w' (some g) := ⟨h.os, h.tape, h.output, h.size, fun i hi _ => h.block i hi⟩
theorem splice_nil {α : Type} (L : List α) (o : Nat) : splice L o [] = L := by simp [splice]
theorem setRow_as {g : Nat} {t : TypeId} : ∀ (vs : List Value) (o : Nat) (w : World) (cur : Array Value), w.heap[g]? = some (.cells cur t (0, 0)) → o + vs.length ≤ cur.size → w.setCells g o vs = w.setRow g (splice cur.toList o vs).toArray
 | [], o, w, cur, hg, _ => by rw [splice_nil, Array.toArray_toList, setRow_self w g cur t (0, 0) hg]; rfl
 | v :: r, o, w, cur, hg, hl => by
  rw [List.length_cons] at hl
  have h1 := setCell_eq_setRow w g o cur t (0, 0) v hg
  have h2 := setRow_heap w g cur (cur.setIfInBounds o v) t _ hg
  have ih := setRow_as r (o + 1) (w.setRow g (cur.setIfInBounds o v)) (cur.setIfInBounds o v) h2 (by simp; omega)
  show (w.setCell ⟨g, o, none⟩ v).setCells g (o + 1) r = _
  rw [h1, ih, setRow_setRow]
  congr 2
  have e := list_seg_step cur.toList o v r (by simp; omega)
  simpa [splice, Array.toList_setIfInBounds] using e
theorem run_copy_k {P : Program} (w : World) (dT sT ty elem : TypeId) (g o dLen dCap k : Nat) (a : Addr) (sLen sCap : Nat) (cur : Array Value) (t : TypeId) (cs : List Value)
  (hu : P.underlying dT = some (.slice elem)) (hs : (P.info? elem).map (·.size) = some k)
  (hg : w.heap[g]? = some (.cells cur t (0, 0))) (hn : cs.length = Nat.min sLen dLen * k)
  (hsrc : ∀ j v, cs[j]? = some v → w.cell? (a.add j) = some v) (hfit : o + cs.length ≤ cur.size) (h1 : ∀ v ∈ cs, v.oneCell' = true) :
  (Builtin.copy_ #[dT, sT] ty #[.slice (some ⟨g, o, none⟩) dLen dCap, .slice (some a) sLen sCap]).run P w =
   .ok (goInt (Nat.min sLen dLen)) (w.setRow g (splice cur.toList o cs).toArray) := by
 have hl := run_loadCells_list (P := P) w a cs hsrc
 have hst := run_storeCells_at P g o t cs 0 cur w hg (by simpa using hfit) h1
 obtain ⟨i, hq, hi⟩ := Option.map_eq_some_iff.1 hs
 have e : (cur.toList.take (o + 0) ++ cs ++ cur.toList.drop (o + 0 + cs.length)).toArray = (splice cur.toList o cs).toArray := by simp [splice]
 rw [e] at hst
 simp [Builtin.copy_, run_underlying hu, Builtin.lenOf, Builtin.firstCells, sizeOf, typeInfo, hq, hi, ← hn, hl, hst]
theorem cell_isSome {w : World} {g : Nat} {cur : Array Value} {t : TypeId} (hg : w.heap[g]? = some (.cells cur t (0, 0))) {j : Nat} (hj : j < cur.size) : (w.cell? ⟨g, j, none⟩).isSome = true := by
 rw [(blk_cell hg j).trans (Array.getElem?_eq_getElem hj)]; rfl
theorem run_append_k {P : Program} (w : World) (t tx ty e : TypeId) (i : TypeInfo) (ht : P.underlying t = some (.slice e)) (hi : P.info? e = some i) (g sLen sCap : Nat) (cur : Array Value) (te : TypeId) (hg : w.heap[g]? = some (.cells cur te (0, 0))) (x : Value) (n : Nat) (news : List Value) (hs : Src P i.size tx x n news w)
  (hroom : sLen + n ≤ sCap) (hfit : sLen * i.size + news.length ≤ cur.size) :
  (Builtin.append_ #[t, tx] ty #[.slice (some ⟨g, 0, none⟩) sLen sCap, x]).run P w = .ok (.slice (some ⟨g, 0, none⟩) (sLen + n) sCap) (w.setRow g (splice cur.toList (sLen * i.size) news).toArray) := by
 have h := run_append_room_src (P := P) (w := w) t tx ty e i ht hi g 0 sLen sCap x n news hs hroom (fun j hj => cell_isSome hg (by omega)) (fun j hj => blk_frozen hg _)
 rw [Nat.zero_add, setRow_as news _ w cur hg hfit] at h
 exact h
theorem zeroCells_len (z : Array Value) (n : Nat) : (Builtin.zeroCells z n).size = n * z.size := by simp [Builtin.zeroCells]
theorem zeroCells_one (z : Array Value) (n : Nat) (h1 : ∀ v ∈ z.toList, v.oneCell' = true) : ∀ v ∈ (Builtin.zeroCells z n).toList, v.oneCell' = true := by
 intro v hv
 simp only [Builtin.zeroCells, Array.toList_map, List.mem_map] at hv
 obtain ⟨i, hi, rfl⟩ := hv
 have hi2 : i < n * z.size := by simpa using hi
 have hz : 0 < z.size := Nat.pos_of_ne_zero (fun e => by rw [e] at hi2; simp at hi2)
 have hlt : i % z.size < z.size := Nat.mod_lt _ hz
 rw [getElem!_pos z _ hlt]
 exact h1 _ (by simp)
theorem run_clear_k {P : Program} (w : World) (t e ty : TypeId) (z : Value) (ht : P.underlying t = some (.slice e)) (hv : ∀ w, (zeroValue e).run P w = .ok z w) (h1 : ∀ v ∈ z.cells.toList, v.oneCell' = true) (g o n c : Nat) (hn : 0 < n) (cur : Array Value) (te : TypeId) (hg : w.heap[g]? = some (.cells cur te (0, 0)))
  (hfit : o + n * z.cells.size ≤ cur.size) :
  (Builtin.clear_ #[t] ty #[.slice (some ⟨g, o, none⟩) n c]).run P w = .ok (.tuple #[]) (w.setRow g (splice cur.toList o (Builtin.zeroCells z.cells n).toList).toArray) := by
 have hst := run_storeCells_at P g o te (Builtin.zeroCells z.cells n).toList 0 cur w hg (by simp [zeroCells_len]; omega) (zeroCells_one _ _ h1)
 have e2 : (cur.toList.take (o + 0) ++ (Builtin.zeroCells z.cells n).toList ++ cur.toList.drop (o + 0 + (Builtin.zeroCells z.cells n).toList.length)).toArray = (splice cur.toList o (Builtin.zeroCells z.cells n).toList).toArray := by simp [splice]
 rw [e2] at hst
 obtain ⟨m, rfl⟩ : ∃ m, n = m + 1 := ⟨n - 1, by omega⟩
 simp [Builtin.clear_, run_underlying ht, hv, hst]
theorem gb_setRow (w : World) (g : Nat) (cs : Array Value) : w.grownBy (w.setRow g cs) (some g) := ⟨rfl, rfl, rfl, by simp [World.setRow], fun i _ hi => setRow_other w g i cs (fun e => hi (by rw [e]))⟩
theorem step_append_k {P : Program} {ops : Array Oper} {o : Oper} {a : Act} {w : World} {K : Act → World → Prop} {Q : Exit → Act → World → Prop} {E : Prop}
  (hg : o.guard = none) (d x : Operand) (dT sT : TypeId) (hop : o.op = Op.call { callee := Callee.builtin Builtin.append, args := #[d, x], argTypes := #[dT, sT] })
  (v u : Value) (hd : a.eval d = v) (hx : a.eval x = u) {v' : Value} {w' : World} (hr : (Builtin.append_ #[dT, sT] o.type #[v, u]).run P w = .ok v' w') (hK : K (a.put o.dst v') w') :
  if Region.wanted o (yielded ops a.tmps) = true then Oper.wp P o a w K Q else E := by
 have hw : Region.wanted o (yielded ops a.tmps) = true := by simp [Region.wanted, hg]
 rw [if_pos hw]
 unfold Oper.wp execOp
 simp only [hop, resolve, invoke, builtin, Sem.run_bind, Sem.run_pure, Result.andThen_ok, List.map_toArray, List.map_cons, List.map_nil, hd, hx, hr]
 exact hK
theorem cmp_cases : ∀ x y : List UInt8, Lib.compareBytes x y = if Op.bytesLess x y = true then -1 else if x = y then 0 else 1
 | [], [] => rfl
 | [], _ :: _ => rfl
 | _ :: _, [] => rfl
 | a :: x, b :: y => by
  have e : Op.bytesLess (a :: x) (b :: y) = (decide (a < b) || (a == b && Op.bytesLess x y)) := rfl
  have e2 : Lib.compareBytes (a :: x) (b :: y) = if a < b then -1 else if b < a then 1 else Lib.compareBytes x y := rfl
  rw [e, e2]
  by_cases h1 : a < b
  ·rw [if_pos h1, decide_eq_true h1, Bool.true_or, if_pos rfl]
  ·rw [if_neg h1, decide_eq_false h1, Bool.false_or]
   by_cases h2 : b < a
   ·have hne : ¬ a = b := fun e => by subst e; exact h1 h2
    rw [if_pos h2, beq_eq_false_iff_ne.2 hne, Bool.false_and, if_neg (by simp), if_neg (fun e => hne (List.cons.inj e).1)]
   ·have hab : a = b := UInt8.toNat_inj.1 (by
     have g1 : ¬ a.toNat < b.toNat := fun h => h1 (UInt8.lt_iff_toNat_lt.2 h)
     have g2 : ¬ b.toNat < a.toNat := fun h => h2 (UInt8.lt_iff_toNat_lt.2 h)
     omega)
    subst hab
    rw [if_neg h2, cmp_cases x y, beq_self_eq_true, Bool.true_and]
    by_cases h3 : Op.bytesLess x y = true
    ·rw [if_pos h3, if_pos h3]
    ·rw [if_neg h3, if_neg h3]
     by_cases h4 : x = y
     ·rw [if_pos h4, if_pos (by rw [h4])]
     ·rw [if_neg h4, if_neg (fun e => h4 (List.cons.inj e).2)]
def cmpK (a b : ByteArray) : Int := if kLt a b = true then -1 else if a.toList = b.toList then 0 else 1
theorem cmpK_of (a b : ByteArray) : Lib.compareBytes a.data.toList b.data.toList = cmpK a b := by
 rw [cmp_cases, ← ByteArray.toList_eq, ← ByteArray.toList_eq]; rfl
theorem cmpK_lt (a b : ByteArray) : decide (cmpK a b < 0) = kLt a b := by
 unfold cmpK
 cases h : kLt a b with
 | true => rfl
 | false => rw [if_neg (by simp)]; split <;> rfl
theorem cmpK_eq (a b : ByteArray) : (cmpK a b == 0) = (a.toList == b.toList) := by
 unfold cmpK
 cases h : kLt a b with
 | true =>
  rw [if_pos rfl]
  have hne : ¬ a.toList = b.toList := fun e => by unfold kLt at h; rw [e, bl_irr] at h; exact absurd h (by simp)
  rw [beq_eq_false_iff_ne.2 hne]; rfl
 | false =>
  rw [if_neg (by simp)]
  by_cases e : a.toList = b.toList
  ·rw [if_pos e, beq_iff_eq.2 e]; rfl
  ·rw [if_neg e, beq_eq_false_iff_ne.2 e]; rfl
theorem at1_calls (k1 v1 key : ByteArray) (w : World) : Calls Tryd.prog 44 #[.agg #[.string k1, .string v1], .string key] w fun e w' => e = .returned (.int .i64 (cmpK k1 key)) ∧ Below w.heap.size w w' := by
 have hbx := my_alloc_new w (.cells #[.string k1, .string v1] 50)
 have hc0 : (w.alloc (.cells #[.string k1, .string v1] 50)).cell? ⟨w.heap.size, 0, none⟩ = some (.string k1) := (blk_cell hbx 0).trans rfl
 have hb := As_ ((Below.refl w.heap.size w).alloc (Nat.le_refl _) (.cells #[.string k1, .string v1] 50))
 clear hbx
 go_enter Tryd.func44, Tryd.ntmps44
 go_wp2_with (go_at_call 45; refine (Tryd.strings_Compare _ _ _).mono ?_; rintro e w' ⟨rfl, rfl⟩)
 rw [cmpK_of]
 go_wp2
 go_ret
 exact ⟨rfl, hb.out⟩
theorem at_mono {l : List S50} {key : ByteArray} (h : sortK l) (i : Nat) (hi : i < l.length) : decide (cmpK l[i].f0 key < 0) = decide (i < posK l key) := by rw [cmpK_lt]; exact posK_spec l key h i hi
theorem bs_calls (A : Option Addr) (c : Nat) (l : List S50) (key : ByteArray) (w : World) (hs : sortK l) (hr : Kd.C k50 w A l.length l) (hl : l.length ≤ 1000000000) :
  Calls Tryd.prog 43 #[.slice A l.length c, .string key, .func (.func 44) #[] #[]] w fun e w' => e = .returned (.tuple #[.int .i64 (posK l key), .bool (hasK l key)]) ∧ Below w.heap.size w w' := by
 have HR := As_ hr
 have HS := As_ hs
 have hple := posK_le l key
 generalize hq : hasK l key = q
 generalize hp : posK l key = p
 rw [hp] at hple
 have HP := As_ hp
 have HQ := As_ hq
 clear hr hs hp hq
 have HB := As_ (Below.refl w.heap.size w)
 go_enter Tryd.func43, Tryd.ntmps43
 go_wp2_with fail
 go_loopg [9, 10] l.length (fun gg s9 s10 wx => ∃ lo hi : Nat, s9 = .int .i64 lo ∧ s10 = .int .i64 hi ∧ lo ≤ hi ∧ hi ≤ l.length ∧ hi - lo ≤ gg ∧ lo ≤ p ∧ p ≤ hi ∧ Aside0 (Below w.heap.size w wx))
 case atStart => exact ⟨0, l.length, rfl, rfl, Nat.zero_le _, Nat.le_refl _, by omega, Nat.zero_le _, hple, HB⟩
 case round =>
  clear HB
  obtain ⟨lo, hi, rfl, rfl, hlh, hin, hg, hp1, hp2, HB⟩ := hrel
  by_cases hlt : lo < hi
  ·have hil : (lo + hi) / 2 < l.length := by omega
   have hx0 : (0 : Int) ≤ (((lo + hi) / 2 : Nat) : Int) := by omega
   have hkl : (((lo + hi) / 2 : Nat) : Int) < (l.length : Int) := by omega
   obtain ⟨ad, e1, hv0, hv1⟩ := at_T50 HR.out (((lo + hi) / 2 : Nat) : Int) hx0 hkl
   cases e1
   have hrd : rd_T50 l (((lo + hi) / 2 : Nat) : Int) = l[(lo + hi) / 2] := by
    unfold rd_T50
    rw [Int.toNat_natCast, List.getD_eq_getElem?_getD, List.getElem?_eq_getElem hil]; rfl
   rw [hrd, Int.toNat_natCast] at hv0 hv1
   have hmo := at_mono (key := key) HS.out ((lo + hi) / 2) hil
   rw [HP.out] at hmo
   clear hrd
   generalize l[(lo + hi) / 2] = y at hv0 hv1 hmo
   replace hv0 := (HB.out.cell (World.block_lt_of_cell? w _ hv0)).trans hv0
   replace hv1 := (HB.out.cell (World.block_lt_of_cell? w _ hv1)).trans hv1
   go_wp2_with fail
   refine (at1_calls y.f0 y.f1 key _).mono ?_
   rintro e w2 ⟨rfl, hb⟩
   have HB2 := As_ (below_step HB.out hb)
   clear hb HB hv0 hv1
   by_cases hlo : (lo + hi) / 2 < p
   ·rw [decide_eq_true hlo] at hmo
    go_wp2
    go_roundg (hi - ((lo + hi) / 2 + 1))
    case measure => omega
    case rel => exact ⟨(lo + hi) / 2 + 1, hi, by first | rfl | (rw [show ((lo : Int) + (hi : Int)) / 2 + 1 = (((lo + hi) / 2 + 1 : Nat) : Int) by omega]) | (simp; done), rfl, by omega, hin, by omega, by omega, hp2, HB2⟩
   ·rw [decide_eq_false hlo] at hmo
    go_wp2
    go_roundg ((lo + hi) / 2 - lo)
    case measure => omega
    case rel => exact ⟨lo, (lo + hi) / 2, rfl, by first | rfl | (rw [show ((lo : Int) + (hi : Int)) / 2 = (((lo + hi) / 2 : Nat) : Int) by omega]) | (simp; done), by omega, by omega, by omega, hp1, by omega, HB2⟩
  ·obtain rfl : hi = lo := by omega
   obtain rfl : p = hi := by omega
   clear hg hp1 hp2 hlh
   by_cases hn : p < l.length
   ·have hx0 : (0 : Int) ≤ ((p : Nat) : Int) := by omega
    have hkl : ((p : Nat) : Int) < (l.length : Int) := by omega
    obtain ⟨ad, e1, hv0, hv1⟩ := at_T50 HR.out ((p : Nat) : Int) hx0 hkl
    cases e1
    have hrd : rd_T50 l ((p : Nat) : Int) = l[p] := by
     unfold rd_T50
     rw [Int.toNat_natCast, List.getD_eq_getElem?_getD, List.getElem?_eq_getElem hn]; rfl
    rw [hrd, Int.toNat_natCast] at hv0 hv1
    have hhk : (cmpK l[p].f0 key == 0) = q := by
     rw [← HQ.out, cmpK_eq]; unfold hasK; rw [HP.out, List.getElem?_eq_getElem hn]
    clear hrd HQ
    generalize l[p] = y at hv0 hv1 hhk
    subst hhk
    replace hv0 := (HB.out.cell (World.block_lt_of_cell? w _ hv0)).trans hv0
    replace hv1 := (HB.out.cell (World.block_lt_of_cell? w _ hv1)).trans hv1
    go_wp2_with fail
    refine (at1_calls y.f0 y.f1 key _).mono ?_
    rintro e w2 ⟨rfl, hb⟩
    have HB2 := As_ (below_step HB.out hb)
    clear hb HB hv0 hv1
    go_wp2
    go_ret2
    exact ⟨rfl, HB2.out⟩
   ·obtain rfl : false = q := by
     rw [← HQ.out]; unfold hasK
     rw [HP.out, List.getElem?_eq_none (by omega)]
    go_wp2
    go_ret2
    exact ⟨rfl, HB.out⟩
def StoreAt (base g : Nat) (l : List S50) (w : World) : Prop :=
 base ≤ g ∧ sortK l ∧ ∃ v, w.heap[g]? = some (.cells #[v] 52 (0, 0)) ∧ Kd.R k50 50 w base (fun k => base ≤ k) v l
theorem StoreAt.lt {base g : Nat} {l : List S50} {w : World} (h : StoreAt base g l w) : g < w.heap.size := by
 obtain ⟨_, _, v, h1, _⟩ := h
 exact blk_lt h1
theorem StoreAt.below {base g : Nat} {l : List S50} {w w1 : World} (h : StoreAt base g l w) (hb : Below w.heap.size w w1) : StoreAt base g l w1 := by
 obtain ⟨h0, h1, v, h2, h3⟩ := h
 exact ⟨h0, h1, v, blk_below h2 hb, Kd.R_below h3 hb⟩
theorem st_at (base g : Nat) (l : List S50) (key : ByteArray) (w : World) (h : StoreAt base g l w) (hl : l.length ≤ 1000000000) :
  Calls Tryd.prog 34 #[.pointer (some ⟨g, 0, none⟩), .string key] w fun e w' => e = .returned (.tuple #[.int .i64 (posK l key), .bool (hasK l key)]) ∧ Below w.heap.size w w' := by
 obtain ⟨h0, h1, v, h2, h3⟩ := h
 obtain ⟨A, c, e, _, hC⟩ := Kd.R_reads h3
 subst e
 have y0 : w.cell? ⟨g, 0, none⟩ = some (.slice A l.length c) := (blk_cell h2 0).trans rfl
 go_enter Tryd.func34, Tryd.ntmps34
 go_wp2_with fail
 refine (bs_calls A c l key _ h1 hC hl).mono ?_
 rintro e w2 ⟨rfl, hb⟩
 go_wp2
 go_ret2
 exact ⟨rfl, hb⟩
theorem st_get (base g : Nat) (l : List S50) (key : ByteArray) (w : World) (h : StoreAt base g l w) (hl : l.length ≤ 1000000000) :
  Calls Tryd.prog 22 #[.pointer (some ⟨g, 0, none⟩), .string key] w fun e w' => e = .returned (.tuple #[.string (getK l key).1, .bool (getK l key).2]) ∧ Below w.heap.size w w' := by
 cases hh : hasK l key with
 | false =>
  have hg : getK l key = (⟨#[]⟩, false) := by unfold getK; rw [hh]; rfl
  rw [hg]
  go_enter Tryd.func22, Tryd.ntmps22
  go_wp2_with fail
  refine (st_at base g l key _ h hl).mono ?_
  rintro e w2 ⟨rfl, hb⟩
  rw [hh]
  go_wp2
  go_ret2
  exact ⟨rfl, hb⟩
 | true =>
  have hg : getK l key = ((rd_T50 l (posK l key : Int)).f1, true) := by unfold getK; rw [hh]; rfl
  obtain ⟨hp, _⟩ := hasK_lt hh
  rw [hg]
  have h' := h
  obtain ⟨h0, h1, v, h2, h3⟩ := h'
  obtain ⟨A, c, e, _, hC⟩ := Kd.R_reads h3
  subst e
  have hx0 : (0 : Int) ≤ ((posK l key : Nat) : Int) := by omega
  have hkl : ((posK l key : Nat) : Int) < (l.length : Int) := by omega
  obtain ⟨ad, e1, hv0, hv1⟩ := at_T50 hC ((posK l key : Nat) : Int) hx0 hkl
  cases e1
  rw [Int.toNat_natCast] at hv0 hv1
  generalize (rd_T50 l (posK l key : Int)) = y at hv0 hv1 ⊢
  have HV1 := As_ hv1
  have HR := As_ h2
  clear hv0 hv1 h2 h3 hC h0 h1 hg
  go_enter Tryd.func22, Tryd.ntmps22
  go_wp2_with fail
  refine (st_at base g l key _ h hl).mono ?_
  rintro e w2 ⟨rfl, hb⟩
  rw [hh]
  have y0 : w2.cell? ⟨g, 0, none⟩ = some (.slice (some ad) l.length c) := (blk_cell (blk_below HR.out hb) 0).trans rfl
  have y1 := (hb.cell (World.block_lt_of_cell? w _ HV1.out)).trans HV1.out
  have hb' := As_ hb
  clear hb HV1 HR h
  generalize posK l key = p at *
  go_wp2
  go_ret2
  exact ⟨rfl, hb'.out⟩
def encP (l : List S50) : List Value := l.flatMap (fun p => [.string p.f0, .string p.f1])
theorem encP_len (l : List S50) : (encP l).length = l.length * 2 := by
 unfold encP
 induction l with
 | nil => rfl
 | cons a l ih => simp only [List.flatMap_cons, List.length_append, ih, List.length_cons, List.length_nil]; omega
theorem encP_append (l m : List S50) : encP (l ++ m) = encP l ++ encP m := by unfold encP; rw [List.flatMap_append]
theorem encP_one (l : List S50) : ∀ v ∈ encP l, v.oneCell' = true := by
 intro v hv
 unfold encP at hv
 obtain ⟨p, _, hp⟩ := List.mem_flatMap.1 hv
 rcases List.mem_cons.1 hp with rfl | hp
 ·rfl
 ·rw [List.mem_singleton.1 hp]; rfl
theorem encP_split (l : List S50) (i : Nat) (hi : i ≤ l.length) : (encP l).take (i * 2) = encP (l.take i) ∧ (encP l).drop (i * 2) = encP (l.drop i) := by
 have e : encP l = encP (l.take i) ++ encP (l.drop i) := by rw [← encP_append, List.take_append_drop]
 have hl : (encP (l.take i)).length = i * 2 := by rw [encP_len, List.length_take, Nat.min_eq_left hi]
 rw [e]
 exact ⟨List.take_left' hl, List.drop_left' hl⟩
theorem row_slice {w : World} {base : Nat} {e : TypeId} {size n : Nat} {v : Value} {xs : List Value} (h : w.ownsRow base e size v n xs) : ∃ A c, v = .slice A n c ∧ n ≤ c ∧ c ≤ 9223372036854775807 := by
 rcases h.2 with ⟨rfl, rfl⟩ | ⟨g, cap, cur, rfl, _, _, h1, h2, _⟩
 ·exact ⟨none, 0, rfl, Nat.le_refl _, by omega⟩
 ·exact ⟨_, cap, rfl, h1, by unfold maxLen at h2; omega⟩
def InsPost (base : Nat) (v : Value) (l : List S50) (w : World) (e : Ending) (w' : World) : Prop := ∃ v', e = .returned v' ∧ w'.ownsRow base 50 2 v' l.length (encP l) ∧ w.grownBy w' v.ownBlock ∧ (v'.ownBlock = v.ownBlock ∨ ∃ b, v'.ownBlock = some b ∧ w.heap.size ≤ b)
theorem ins_end (base : Nat) (v : Value) (l : List S50) (vb : Nat) (x : S50) (w : World) (hl : l.length ≤ 1000000000) (ho : w.ownsRow base 50 2 v l.length (encP l)) (hbase : base ≤ w.heap.size)
  (hv : w.heap[vb]? = some (.cells #[.string x.f0, .string x.f1] 50 (0, 0))) :
  Calls Tryd.prog 47 #[v, .int .i64 l.length, .slice (some ⟨vb, 0, none⟩) 1 1] w (InsPost base v (l ++ [x]) w) := by
 obtain ⟨i0, hi0, hz⟩ := Option.map_eq_some_iff.1 info50
 simp only [Prod.mk.injEq] at hz
 obtain ⟨hz0, hz1, hz2⟩ := hz
 have hc0 : w.cell? ⟨vb, 0, none⟩ = some (.string x.f0) := (blk_cell hv 0).trans rfl
 have hc1 : w.cell? ⟨vb, 1, none⟩ = some (.string x.f1) := (blk_cell hv 1).trans rfl
 obtain ⟨v1, w1, hrun, h1, h2, _, h3⟩ := run_append_own_at (P := Tryd.prog) (w := w) base 47 47 50 i0 _ 2 32 Tryd.underlying47 hi0 hz0 hz1 hz2 rfl (by decide) v l.length (encP l) ho ⟨vb, 0, none⟩ 1 1 [.string x.f0, .string x.f1] rfl
  (fun j u hj => by
   match j with
   | 0 => obtain rfl := Option.some.inj hj; exact hc0
   | 1 => obtain rfl := Option.some.inj hj; exact hc1
   | j + 2 => exact absurd hj (by simp)) ap11_ (by unfold maxLen; omega) (by omega) hbase
 obtain ⟨A, c, rfl, hnc, hc63⟩ := row_slice ho
 have hpost : InsPost base (.slice A l.length c) (l ++ [x]) w (.returned v1) w1 := ⟨v1, rfl, by
  rw [List.length_append, List.length_singleton, encP_append]; exact h1, h2, h3.imp_right (fun h => ⟨_, h, Nat.le_refl _⟩)⟩
 replace hpost := As_ hpost
 obtain ⟨A1, c1, rfl, _, _⟩ := row_slice h1
 clear ho h1 h2 h3 hv hc0 hc1 hz0 hz1 hz2 hi0
 go_enter Tryd.func47, Tryd.ntmps47
 go_wp2_with (at_builtin; refine Lib.wpList_append_run _ rfl _ _ _ _ rfl _ _ rfl rfl _ _ hrun ?_)
 all_goals (go_ret; first | exact hpost.out | (obtain rfl : c = l.length := (by first | assumption | (symm; assumption) | omega); exact hpost.out))
theorem row_of {w : World} {base : Nat} {g cap n : Nat} {cur : Array Value} {xs : List Value} (hb : base ≤ g) (hg : w.heap[g]? = some (.cells cur 50 (0, 0))) (hn : n ≤ cap) (hm : cap ≤ maxLen) (hs : cur.size = cap * 2) (hx : cur.toList.take (n * 2) = xs) : w.ownsRow base 50 2 (.slice (some ⟨g, 0, none⟩) n cap) n xs :=
 ⟨by rw [← hx, List.length_take, Array.length_toList, hs]; have : n * 2 ≤ cap * 2 := Nat.mul_le_mul_right 2 hn; omega, .inr ⟨g, cap, cur, rfl, hb, hg, hn, hm, hs, hx⟩⟩
theorem splice_len {α : Type} (L : List α) (o : Nat) (c : List α) (h : o + c.length ≤ L.length) : (splice L o c).length = L.length := length_splice L o c h
theorem splice_ins {α : Type} (E1 E2 R : List α) (a b : α) (i2 m2 : Nat) (h1 : E1.length = i2) (h2 : E2.length = m2) (hR : 2 ≤ R.length) : (splice (splice (E1 ++ E2 ++ R) (i2 + 2) E2) i2 [a, b]).take (i2 + 2 + m2) = E1 ++ a :: b :: E2 := by
 subst h1
 subst h2
 have e1 : splice (E1 ++ E2 ++ R) (E1.length + 2) E2 = (E1 ++ E2 ++ R).take (E1.length + 2) ++ (E2 ++ R.drop 2) := by
  unfold splice
  congr 2
  have h3 : (E1 ++ E2).length ≤ E1.length + 2 + E2.length := by rw [List.length_append]; omega
  rw [List.drop_append, List.drop_eq_nil_of_le h3, List.nil_append, List.length_append]
  congr 1
  omega
 have e2 : ∀ T X : List α, T.length = E1.length + 2 → T.take E1.length = E1 → splice (T ++ X) E1.length [a, b] = E1 ++ a :: b :: X := by
  intro T X h3 h4
  unfold splice
  rw [List.take_append_of_le_length (by omega), h4, show E1.length + [a, b].length = T.length by rw [h3]; rfl, List.drop_left]
  rfl
 have hlt : ((E1 ++ E2 ++ R).take (E1.length + 2)).length = E1.length + 2 := by rw [List.length_take, List.length_append, List.length_append]; omega
 rw [e1, e2 _ _ hlt (by rw [List.take_take, Nat.min_eq_left (by omega), List.append_assoc, List.take_left]), List.take_append, List.take_of_length_le (by omega)]
 congr 1
 rw [show E1.length + 2 + E2.length - E1.length = E2.length + 1 + 1 by omega, List.take_succ_cons, List.take_succ_cons, List.take_left]
theorem src_cells {w : World} {g : Nat} {cur : Array Value} {t : TypeId} (hg : w.heap[g]? = some (.cells cur t (0, 0))) (o : Nat) (cs : List Value) (h : ∀ j v, cs[j]? = some v → cur.toList[o + j]? = some v) : ∀ j v, cs[j]? = some v → w.cell? ((⟨g, o, none⟩ : Addr).add j) = some v := fun j v hj => by
 have e : (⟨g, o, none⟩ : Addr).add j = ⟨g, o + j, none⟩ := by unfold Addr.add; split <;> simp_all
 rw [e, blk_cell hg]
 have := h j v hj
 rwa [Array.getElem?_toList] at this
theorem ins_shift (base g cap : Nat) (cur : Array Value) (l : List S50) (i vb : Nat) (x : S50) (w : World) (hl : l.length ≤ 1000000000) (hi : i < l.length) (hroom : l.length + 1 ≤ cap) (hcm : cap ≤ maxLen) (hb : base ≤ g)
  (hg : w.heap[g]? = some (.cells cur 50 (0, 0))) (hs : cur.size = cap * 2) (hx : cur.toList.take (l.length * 2) = encP l)
  (hv : w.heap[vb]? = some (.cells #[.string x.f0, .string x.f1] 50 (0, 0))) (hvb : vb ≠ g) :
  Calls Tryd.prog 47 #[.slice (some ⟨g, 0, none⟩) l.length cap, .int .i64 i, .slice (some ⟨vb, 0, none⟩) 1 1] w (InsPost base (.slice (some ⟨g, 0, none⟩) l.length cap) (l.take i ++ x :: l.drop i) w) := by
 have hsz : (Tryd.prog.info? 50).map (·.size) = some 2 := by kernel_rfl
 have hzz : ∀ w, (Go.sizeOf 50).run Tryd.prog w = .ok 2 w := fun w => by simp [sizeOf, typeInfo]; kernel_rfl
 have hcm2 : cap ≤ 9223372036854775807 := by unfold maxLen at hcm; omega
 obtain ⟨hsp1, hsp2⟩ := encP_split l i (by omega)
 have hE2 : (encP (l.drop i)).length = (l.length - i) * 2 := by rw [encP_len, List.length_drop]
 have hcL : cur.toList.length = cap * 2 := by rw [Array.length_toList, hs]
 have hcur : cur.toList = encP (l.take i) ++ encP (l.drop i) ++ cur.toList.drop (l.length * 2) := by rw [← encP_append, List.take_append_drop, ← hx, List.take_append_drop]
 have hE1 : (encP (l.take i)).length = i * 2 := by rw [encP_len, List.length_take, Nat.min_eq_left (by omega)]
 have hz1 : ¬ ((1 : Int) = 0) := by omega
 have hz2 : ¬ ((i : Int) = (l.length : Int)) := by omega
 have hov : ∀ lb cb, (callFunc 56 #[.slice (some ⟨vb, 0, none⟩) 1 1, .slice (some ⟨g, (i + 1) * 2, none⟩) lb cb]).run Tryd.prog w = .ok (.value (.bool false)) w := fun lb cb => by
  have hsa : w.shape? vb = some (50, 2) := by unfold World.shape?; rw [hv]; rfl
  have hsb : w.shape? g = some (50, cur.size) := by unfold World.shape?; rw [hg]
  rw [run_callFunc_extern Tryd.func56 (by kernel_rfl) (by kernel_rfl) (by kernel_rfl) (e := Extern.SlicesOverlaps.overlaps #[47, 47] #[4]) (by kernel_rfl),
   Lib.run_overlaps_apart w 47 4 50 Tryd.underlying47 2 hzz ⟨vb, 0, none⟩ ⟨g, (i + 1) * 2, none⟩ 1 1 lb cb hvb 50 50 2 cur.size hsa hsb (by omega) (blk_frozen hv 0) (blk_frozen hv 2)]
  rfl
 have hgd : w.drew.heap[g]? = some (.cells cur 50 (0, 0)) := hg
 obtain ⟨C1, hC1⟩ : ∃ C1 : Array Value, C1 = (splice cur.toList ((i + 1) * 2) (encP (l.drop i))).toArray := ⟨_, rfl⟩
 have hC1s : C1.size = cap * 2 := by rw [hC1, List.size_toArray, splice_len _ _ _ (by rw [hcL, hE2]; omega), hcL]
 have hcp1 : ∀ ty dc sc, (Builtin.copy_ #[47, 47] ty #[.slice (some ⟨g, (i + 1) * 2, none⟩) (l.length + 1 - (i + 1)) dc, .slice (some ⟨g, i * 2, none⟩) (l.length + 1 - i) sc]).run Tryd.prog w.drew = .ok (goInt (Nat.min (l.length + 1 - i) (l.length + 1 - (i + 1)))) (w.drew.setRow g C1) := fun ty dc sc => by
  have h := run_copy_k (P := Tryd.prog) w.drew 47 47 ty 50 g ((i + 1) * 2) (l.length + 1 - (i + 1)) dc 2 ⟨g, i * 2, none⟩ (l.length + 1 - i) sc cur 50 (encP (l.drop i)) Tryd.underlying47 hsz hgd
   (by rw [hE2]; simp only [Nat.min_def]; split <;> omega)
   (src_cells hgd _ _ (fun j v hj => by rw [hcur, List.getElem?_append_left (by have := (List.getElem?_eq_some_iff.1 hj).1; rw [List.length_append, hE1]; omega), List.getElem?_append_right (by rw [hE1]; omega), hE1, Nat.add_sub_cancel_left]; exact hj))
   (by rw [hE2, hs]; omega) (encP_one _)
  rw [h, hC1]
 have hW1g : (w.drew.setRow g C1).heap[g]? = some (.cells C1 50 (0, 0)) := setRow_heap _ g cur C1 _ _ hgd
 have hW1v : (w.drew.setRow g C1).heap[vb]? = some (.cells #[.string x.f0, .string x.f1] 50 (0, 0)) := (setRow_other _ g vb C1 hvb).trans hv
 obtain ⟨C2, hC2⟩ : ∃ C2 : Array Value, C2 = (splice C1.toList (i * 2) [.string x.f0, .string x.f1]).toArray := ⟨_, rfl⟩
 have hcp2 : ∀ ty dc, (Builtin.copy_ #[47, 47] ty #[.slice (some ⟨g, i * 2, none⟩) (l.length + 1 - i) dc, .slice (some ⟨vb, 0, none⟩) 1 1]).run Tryd.prog (w.drew.setRow g C1) = .ok (goInt (Nat.min 1 (l.length + 1 - i))) ((w.drew.setRow g C1).setRow g C2) := fun ty dc => by
  have h := run_copy_k (P := Tryd.prog) (w.drew.setRow g C1) 47 47 ty 50 g (i * 2) (l.length + 1 - i) dc 2 ⟨vb, 0, none⟩ 1 1 C1 50 [.string x.f0, .string x.f1] Tryd.underlying47 hsz hW1g
   (by show 2 = _; simp only [Nat.min_def]; split <;> omega)
   (src_cells hW1v _ _ (fun j v hj => by rw [Nat.zero_add]; exact hj)) (by rw [hC1s]; show i * 2 + 2 ≤ _; omega) ap11_
  rw [h, hC2]
 have hfin : InsPost base (.slice (some ⟨g, 0, none⟩) l.length cap) (l.take i ++ x :: l.drop i) w (.returned (.slice (some ⟨g, 0, none⟩) (l.length + 1) cap)) ((w.drew.setRow g C1).setRow g C2) := by
  have hn : (l.take i ++ x :: l.drop i).length = l.length + 1 := by rw [List.length_append, List.length_take, List.length_cons, List.length_drop]; omega
  refine ⟨_, rfl, ?_, ?_, .inl rfl⟩
  ·rw [hn]
   refine row_of hb (setRow_heap _ g C1 C2 _ _ hW1g) hroom hcm (by rw [hC2, List.size_toArray, splice_len _ _ _ (by show i * 2 + 2 ≤ C1.toList.length; rw [Array.length_toList, hC1s]; omega), Array.length_toList, hC1s]) ?_
   rw [hC2, hC1, List.toList_toArray, List.toList_toArray, hcur]
   have hR : 2 ≤ (cur.toList.drop (l.length * 2)).length := by rw [List.length_drop, hcL]; omega
   have h := splice_ins (encP (l.take i)) (encP (l.drop i)) (cur.toList.drop (l.length * 2)) (.string x.f0) (.string x.f1) (i * 2) ((l.length - i) * 2) hE1 hE2 hR
   rw [show (i + 1) * 2 = i * 2 + 2 by omega, show (l.length + 1) * 2 = i * 2 + 2 + (l.length - i) * 2 by omega, h, encP_append]
   rfl
  ·exact ((gb_below (below_drew (Below.refl _ _))).trans (gb_setRow w.drew g C1)).trans (gb_setRow _ g C2)
 replace hfin := As_ hfin
 replace hcur := As_ hcur
 have hw1 : IntKind.i64.wrap ((l.length : Int) + 1) = ((l.length + 1 : Nat) : Int) := by rw [IntKind.wrap_i64]; omega
 have hw2 : IntKind.i64.wrap ((i : Int) + 1) = ((i + 1 : Nat) : Int) := by rw [IntKind.wrap_i64]; omega
 have hb1 : (0 : Int) ≤ (i : Int) + 1 := by omega
 have hin : i ≤ l.length := by omega
 have hb2 : ¬ (cap = i + 1) := by omega
 have hb3 : (i : Int) ≤ (l.length : Int) + 1 := by omega
 have hb4 : ¬ (cap = i) := by omega
 have htn : ((i : Int) + 1).toNat = i + 1 := by omega
 rw [show l.length + 1 - (i + 1) = l.length - i by omega] at hcp1
 clear hx hg hv hgd hW1g hW1v hC1 hC2 hC1s hE1 hE2 hcL hsp1 hsp2 hsz hzz hs hcm hcur
 go_enter Tryd.func47, Tryd.ntmps47
 go_wp2_with (simp only [hov])
 go_region_law (refine step_copy_runI rfl _ _ 47 47 rfl _ _ (by simp [Act.eval, Act.put]) (by simp [Act.eval, Act.put]) (hcp1 _ _ _) ?_)
 go_wp2_with (at_builtin; refine wpList_copy_runI _ rfl _ _ 47 47 rfl _ _ rfl rfl (hcp2 _ _) ?_)
 go_ret
 exact hfin.out
theorem splice_new {α : Type} (E1 E2 Z : List α) (a b : α) (i2 m2 : Nat) (h1 : E1.length = i2) (h2 : E2.length = m2) (hZ : 2 + m2 ≤ Z.length) : (splice (splice (E1 ++ Z) i2 [a, b]) (i2 + 2) E2).take (i2 + 2 + m2) = E1 ++ a :: b :: E2 := by
 subst h1
 subst h2
 have e1 : splice (E1 ++ Z) E1.length [a, b] = (E1 ++ [a, b]) ++ Z.drop 2 := by
  unfold splice
  rw [List.take_left, List.append_assoc]
  congr 2
  rw [List.drop_append, List.drop_eq_nil_of_le (by simp), List.nil_append]
  congr 1
  simp
 have e2 : splice ((E1 ++ [a, b]) ++ Z.drop 2) (E1.length + 2) E2 = (E1 ++ [a, b] ++ E2) ++ Z.drop (2 + E2.length) := by
  have h3 : (E1 ++ [a, b]).length = E1.length + 2 := by simp
  unfold splice
  rw [← h3, List.take_left, ← List.append_assoc]
  congr 1
  rw [List.drop_append, List.drop_eq_nil_of_le (by omega), List.nil_append, List.drop_drop]
  congr 1
  omega
 rw [e1, e2, List.take_append_of_le_length (by simp; omega), List.take_of_length_le (by simp; omega), List.append_assoc]
 rfl
theorem ins_grow (base g cap : Nat) (cur : Array Value) (l : List S50) (i vb : Nat) (x : S50) (w : World) (hl : l.length ≤ 1000000000) (hi : i < l.length) (hn : l.length ≤ cap) (hroom : cap < l.length + 1) (hcm : cap ≤ maxLen) (hb : base ≤ w.heap.size)
  (hg : w.heap[g]? = some (.cells cur 50 (0, 0))) (hs : cur.size = cap * 2) (hx : cur.toList.take (l.length * 2) = encP l)
  (hv : w.heap[vb]? = some (.cells #[.string x.f0, .string x.f1] 50 (0, 0))) (hvb : vb ≠ g) :
  Calls Tryd.prog 47 #[.slice (some ⟨g, 0, none⟩) l.length cap, .int .i64 i, .slice (some ⟨vb, 0, none⟩) 1 1] w (InsPost base (.slice (some ⟨g, 0, none⟩) l.length cap) (l.take i ++ x :: l.drop i) w) := by
 obtain ⟨i0, hi0, hz⟩ := Option.map_eq_some_iff.1 info50
 simp only [Prod.mk.injEq] at hz
 obtain ⟨hz0, hzs, hzb⟩ := hz
 have hsz : (Tryd.prog.info? 50).map (·.size) = some 2 := by kernel_rfl
 have hcm2 : cap ≤ 9223372036854775807 := by unfold maxLen at hcm; omega
 obtain ⟨hsp1, hsp2⟩ := encP_split l i (by omega)
 have hE2 : (encP (l.drop i)).length = (l.length - i) * 2 := by rw [encP_len, List.length_drop]
 have hcL : cur.toList.length = cap * 2 := by rw [Array.length_toList, hs]
 have hcur : cur.toList = encP (l.take i) ++ encP (l.drop i) ++ cur.toList.drop (l.length * 2) := by rw [← encP_append, List.take_append_drop, ← hx, List.take_append_drop]
 have hE1 : (encP (l.take i)).length = i * 2 := by rw [encP_len, List.length_take, Nat.min_eq_left (by omega)]
 have hz1 : ¬ ((1 : Int) = 0) := by omega
 have hz2 : ¬ ((i : Int) = (l.length : Int)) := by omega
 have hz3 : (cap : Int) < (l.length : Int) + 1 := by omega
 have hgw : g < w.heap.size := blk_lt hg
 have hvw : vb < w.heap.size := blk_lt hv
 have hkk : (l.length : Int) + 1 - (i : Int) = ((l.length + 1 - i : Nat) : Int) := by omega
 have hik : i + (l.length + 1 - i) = l.length + 1 := by omega
 have hold : (Builtin.firstCells i0.size i (.slice (some ⟨g, 0, none⟩) i cap)).run Tryd.prog w.drew = .ok (encP (l.take i)).toArray w.drew := by
  rw [hzs]
  exact run_firstCells_some w.drew 2 i ⟨g, 0, none⟩ i cap (encP (l.take i)) hE1 (src_cells (show w.drew.heap[g]? = _ from hg) _ _ (fun j v hj => by rw [Nat.zero_add, hcur, List.append_assoc, List.getElem?_append_left (List.getElem?_eq_some_iff.1 hj).1]; exact hj))
 obtain ⟨G, hG⟩ : ∃ G, G = grownCap w (l.length + 1) cap 50 := ⟨_, rfl⟩
 obtain ⟨ROW, hROW⟩ : ∃ ROW : Array Value, ROW = (encP (l.take i)).toArray ++ Builtin.zeroCells (Value.agg #[.string ⟨#[]⟩, .string ⟨#[]⟩]).cells (l.length + 1 - i) ++ Builtin.zeroCells (Value.agg #[.string ⟨#[]⟩, .string ⟨#[]⟩]).cells (G - (l.length + 1)) := ⟨_, rfl⟩
 have hrz : ∀ ty, (Builtin.append_ #[47, 3] ty #[.slice (some ⟨g, 0, none⟩) i cap, .int .i64 ((l.length : Int) + 1 - (i : Int))]).run Tryd.prog w = .ok (.slice (some ⟨w.heap.size, 0, none⟩) (l.length + 1) G) (w.drew.alloc (.cells ROW 50)) := fun ty => by
  have h := Lib.run_append_grow_zeros (P := Tryd.prog) w 47 3 ty 50 i0 _ .i64 .i64 Tryd.underlying47 Tryd.underlying3 hi0 hz0 (some ⟨g, 0, none⟩) i cap (encP (l.take i)) hold (l.length + 1 - i) (by omega) (by omega) (by omega) (by omega) (by rw [hzb]; omega) (by rw [hzb, hik]; exact growslice_fits hroom (by omega))
  rw [hik, ← hG] at h
  rw [hkk, hROW]
  exact h
 have hGn : l.length + 1 ≤ G := by rw [hG]; exact grownCap_ge w _ _ _
 have hGm : G ≤ maxLen := by rw [hG]; exact grownCap_le_maxLen w _ _ _ (by unfold maxLen; omega)
 have hG63 : G ≤ 9223372036854775807 := by unfold maxLen at hGm; omega
 have hRs : ROW.size = G * 2 := by
  rw [hROW, Array.size_append, Array.size_append, List.size_toArray, hE1, zeroCells_len, zeroCells_len]
  show i * 2 + (l.length + 1 - i) * 2 + (G - (l.length + 1)) * 2 = G * 2
  omega
 have hRL : ROW.toList = encP (l.take i) ++ ROW.toList.drop (i * 2) := by
  have h := List.take_append_drop (i * 2) ROW.toList
  conv => lhs; rw [← h]
  congr 1
  rw [hROW, Array.toList_append, Array.toList_append, List.append_assoc, List.toList_toArray]
  exact List.take_left' hE1
 obtain ⟨C1, hC1⟩ : ∃ C1 : Array Value, C1 = (splice ROW.toList (i * 2) [.string x.f0, .string x.f1]).toArray := ⟨_, rfl⟩
 have hC1s : C1.size = G * 2 := by rw [hC1, List.size_toArray, splice_len _ _ _ (by show i * 2 + 2 ≤ ROW.toList.length; rw [Array.length_toList, hRs]; omega), Array.length_toList, hRs]
 have hC1L : C1.toList.length = G * 2 := hC1s
 have hROL : ROW.toList.length = G * 2 := hRs
 obtain ⟨C2, hC2⟩ : ∃ C2 : Array Value, C2 = (splice C1.toList ((i + 1) * 2) (encP (l.drop i))).toArray := ⟨_, rfl⟩
 have hC2s : C2.size = G * 2 := by rw [hC2, List.size_toArray, splice_len _ _ _ (by rw [hC1L, hE2]; omega), hC1L]
 have hN : (w.drew.alloc (.cells ROW 50)).heap[w.heap.size]? = some (.cells ROW 50 (0, 0)) := my_alloc_new w.drew _
 have hNv : (w.drew.alloc (.cells ROW 50)).heap[vb]? = some (.cells #[.string x.f0, .string x.f1] 50 (0, 0)) := blk_alloc (w := w.drew) hv _
 have hNg : (w.drew.alloc (.cells ROW 50)).heap[g]? = some (.cells cur 50 (0, 0)) := blk_alloc (w := w.drew) hg _
 have hcpA : ∀ W : World, W.heap[w.heap.size]? = some (.cells ROW 50 (0, 0)) → W.heap[vb]? = some (.cells #[.string x.f0, .string x.f1] 50 (0, 0)) → ∀ ty dc, (Builtin.copy_ #[47, 47] ty #[.slice (some ⟨w.heap.size, i * 2, none⟩) (l.length + 1 - i) dc, .slice (some ⟨vb, 0, none⟩) 1 1]).run Tryd.prog W = .ok (goInt (Nat.min 1 (l.length + 1 - i))) (W.setRow w.heap.size C1) := fun W h1 h2 ty dc => by
  have h := run_copy_k (P := Tryd.prog) W 47 47 ty 50 w.heap.size (i * 2) (l.length + 1 - i) dc 2 ⟨vb, 0, none⟩ 1 1 ROW 50 [.string x.f0, .string x.f1] Tryd.underlying47 hsz h1
   (by show 2 = _; simp only [Nat.min_def]; split <;> omega)
   (src_cells h2 _ _ (fun j v hj => by rw [Nat.zero_add]; exact hj)) (by rw [hRs]; show i * 2 + 2 ≤ _; omega) ap11_
  rw [h, hC1]
 have hcpB : ∀ W : World, W.heap[w.heap.size]? = some (.cells C1 50 (0, 0)) → W.heap[g]? = some (.cells cur 50 (0, 0)) → ∀ ty dc sc, (Builtin.copy_ #[47, 47] ty #[.slice (some ⟨w.heap.size, (i + 1) * 2, none⟩) (l.length - i) dc, .slice (some ⟨g, i * 2, none⟩) (l.length - i) sc]).run Tryd.prog W = .ok (goInt (Nat.min (l.length - i) (l.length - i))) (W.setRow w.heap.size C2) := fun W h1 h2 ty dc sc => by
  have h := run_copy_k (P := Tryd.prog) W 47 47 ty 50 w.heap.size ((i + 1) * 2) (l.length - i) dc 2 ⟨g, i * 2, none⟩ (l.length - i) sc C1 50 (encP (l.drop i)) Tryd.underlying47 hsz h1
   (by rw [hE2]; simp)
   (src_cells h2 _ _ (fun j v hj => by rw [hcur, List.getElem?_append_left (by have := (List.getElem?_eq_some_iff.1 hj).1; rw [List.length_append, hE1]; omega), List.getElem?_append_right (by rw [hE1]; omega), hE1, Nat.add_sub_cancel_left]; exact hj))
   (by rw [hE2, hC1s]; omega) (encP_one _)
  rw [h, hC2]
 have hW1 := setRow_heap _ w.heap.size ROW C1 _ _ hN
 have hW1g : ((w.drew.alloc (.cells ROW 50)).setRow w.heap.size C1).heap[g]? = some (.cells cur 50 (0, 0)) := (setRow_other _ w.heap.size g C1 (by omega)).trans hNg
 have hfin : InsPost base (.slice (some ⟨g, 0, none⟩) l.length cap) (l.take i ++ x :: l.drop i) w (.returned (.slice (some ⟨w.heap.size, 0, none⟩) (l.length + 1) G)) ((((w.drew.alloc (.cells ROW 50)).setRow w.heap.size C1).drew).setRow w.heap.size C2) := by
  have hn : (l.take i ++ x :: l.drop i).length = l.length + 1 := by rw [List.length_append, List.length_take, List.length_cons, List.length_drop]; omega
  refine ⟨_, rfl, ?_, ?_, .inr ⟨_, rfl, Nat.le_refl _⟩⟩
  ·rw [hn]
   refine row_of hb (setRow_heap _ w.heap.size C1 C2 _ _ hW1) hGn hGm hC2s ?_
   rw [hC2, hC1, List.toList_toArray, List.toList_toArray, hRL]
   have hR : 2 + (l.length - i) * 2 ≤ (ROW.toList.drop (i * 2)).length := by rw [List.length_drop, hROL]; omega
   have h := splice_new (encP (l.take i)) (encP (l.drop i)) (ROW.toList.drop (i * 2)) (.string x.f0) (.string x.f1) (i * 2) ((l.length - i) * 2) hE1 hE2 hR
   rw [show (i + 1) * 2 = i * 2 + 2 by omega, show (l.length + 1) * 2 = i * 2 + 2 + (l.length - i) * 2 by omega, h, encP_append]
   rfl
  ·have z1 : w.grownBy ((w.drew.alloc (.cells ROW 50)).setRow w.heap.size C1) (some g) := ⟨rfl, rfl, rfl, by simp [World.setRow], fun k hk _ => (setRow_other _ w.heap.size k C1 (by omega)).trans (Below.heap_alloc w.drew _ k hk)⟩
   exact ⟨z1.os, z1.tape, z1.output, by simp [World.setRow], fun k hk hne => (setRow_other _ w.heap.size k C2 (by omega)).trans (z1.block k hk hne)⟩
 replace hfin := As_ hfin
 have hw2 : IntKind.i64.wrap ((i : Int) + 1) = ((i + 1 : Nat) : Int) := by rw [IntKind.wrap_i64]; omega
 have hb1 : (0 : Int) ≤ (i : Int) + 1 := by omega
 have hin : i ≤ l.length := by omega
 have hb2 : ¬ (G = i + 1) := by omega
 have hb3 : (i : Int) ≤ (l.length : Int) + 1 := by omega
 have hb4 : ¬ (G = i) := by omega
 have hb5 : ¬ (cap = i) := by omega
 have htn : ((i : Int) + 1).toNat = i + 1 := by omega
 have hA := fun (W : World) (e : W.heap = (w.drew.alloc (.cells ROW 50)).heap) => hcpA W (by rw [e]; exact hN) (by rw [e]; exact hNv)
 have hB := fun (W : World) (e : W.heap = ((w.drew.alloc (.cells ROW 50)).setRow w.heap.size C1).heap) => hcpB W (by rw [e]; exact hW1) (by rw [e]; exact hW1g)
 clear hcur hx hg hv hN hNv hNg hW1 hW1g hC1L hROL hC1 hC2 hC1s hC2s hE1 hE2 hcL hsp1 hsp2 hsz hs hcm hRs hRL hROW hold hkk hik hcpA hcpB hG hGm hi0 hz0 hzs hzb
 go_enter Tryd.func47, Tryd.ntmps47
 go_wp2_with (first
  | (at_builtin; refine Lib.wpList_append_run _ rfl _ _ _ _ rfl _ _ rfl rfl _ _ (hrz _) ?_)
  | (refine wpList_copy_runI (o := ⟨some 45, _, _, _, _, _⟩) _ rfl _ _ 47 47 rfl _ _ rfl rfl (hA _ ?eA _ _) ?_; (case eA => rfl)))
 go_region_law (refine step_copy_runI rfl _ _ 47 47 rfl (.slice (some ⟨w.heap.size, (i + 1) * 2, none⟩) (l.length - i) (G - (i + 1))) (.slice (some ⟨g, i * 2, none⟩) (l.length - i) (cap - i)) (by simp [Act.eval, Act.put]) (by simp [Act.eval, Act.put]) (hB (((w.alloc (.cells ROW 50)).drew.setRow w.heap.size C1).drew) rfl 3 (G - (i + 1)) (cap - i)) ?_)
 go_wp2
 go_ret
 exact hfin.out
theorem ins_calls (base : Nat) (v : Value) (l : List S50) (i vb : Nat) (x : S50) (w : World) (hl : l.length ≤ 1000000000) (hi : i ≤ l.length) (ho : w.ownsRow base 50 2 v l.length (encP l)) (hbase : base ≤ w.heap.size)
  (hv : w.heap[vb]? = some (.cells #[.string x.f0, .string x.f1] 50 (0, 0))) (hvb : some vb ≠ v.ownBlock) :
  Calls Tryd.prog 47 #[v, .int .i64 i, .slice (some ⟨vb, 0, none⟩) 1 1] w (InsPost base v (l.take i ++ x :: l.drop i) w) := by
 by_cases he : i = l.length
 ·subst he
  rw [List.take_length, List.drop_length]
  exact ins_end base v l vb x w hl ho hbase hv
 ·rcases ho.2 with ⟨rfl, h0⟩ | ⟨g, cap, cur, rfl, hb, hg, hn, hm, hs, hx⟩
  ·omega
  ·have hne : vb ≠ g := fun e => hvb (by rw [e]; rfl)
   by_cases hr : l.length + 1 ≤ cap
   ·exact ins_shift base g cap cur l i vb x w hl (by omega) hr hm hb hg hs hx hv hne
   ·exact ins_grow base g cap cur l i vb x w hl (by omega) hn (by omega) hm hbase hg hs hx hv hne
theorem rows_R {base : Nat} {ok : Nat → Prop} {v : Value} {l : List S50} {w : World} (h : w.ownsRow base 50 2 v l.length (encP l)) (hok : ∀ k, v.ownBlock = some k → ok k) : Kd.R k50 50 w base ok v l := by
 refine ⟨hok, encP l, h, encP_len l, fun j p hj => ?_⟩
 have hjl : j < l.length := (List.getElem?_eq_some_iff.1 hj).1
 have e : ((encP l).drop (j * 2)).take 2 = [.string p.f0, .string p.f1] := by
  rw [(encP_split l j (by omega)).2, List.drop_eq_getElem_cons hjl]
  have : l[j] = p := (List.getElem?_eq_some_iff.1 hj).2
  rw [this]; rfl
 show Kd.M k50 w base _ p (((encP l).drop (j * 2)).take 2)
 rw [e]
 exact k50_mkM w base _ p
theorem encP_set : ∀ (l : List S50) (p : Nat) (x : S50), p < l.length → encP (l.set p x) = ((encP l).set (p * 2) (.string x.f0)).set (p * 2 + 1) (.string x.f1)
 | [], p, x, h => absurd h (Nat.not_lt_zero _)
 | a :: t, 0, x, _ => rfl
 | a :: t, p + 1, x, h => by
  have ih := encP_set t p x (by simpa using h)
  rw [show (p + 1) * 2 = p * 2 + 1 + 1 by omega]
  show (Value.string a.f0 :: Value.string a.f1 :: encP (t.set p x)) = _
  rw [ih]; rfl
def StoreIs (base g : Nat) (v : Value) (l : List S50) (w : World) : Prop :=
 base ≤ g ∧ sortK l ∧ w.heap[g]? = some (.cells #[v] 52 (0, 0)) ∧ w.ownsRow base 50 2 v l.length (encP l)
theorem StoreIs.at_ {base g : Nat} {v : Value} {l : List S50} {w : World} (h : StoreIs base g v l w) : StoreAt base g l w := ⟨h.1, h.2.1, v, h.2.2.1, rows_R h.2.2.2 (fun k hk => (h.2.2.2.lt k hk).1)⟩
structure StoreW (g : Nat) (v : Value) (w w' : World) : Prop where
 os : w'.os = w.os
 tape : w'.tape = w.tape
 output : w'.output = w.output
 size : w.heap.size ≤ w'.heap.size
 block : ∀ i, i < w.heap.size → i ≠ g → some i ≠ v.ownBlock → w'.heap[i]? = w.heap[i]?
theorem StoreW.of_below {g : Nat} {v : Value} {w w' : World} (h : Below w.heap.size w w') : StoreW g v w w' := ⟨h.os, h.tape, h.output, h.size, fun i hi _ _ => h.block i hi⟩
theorem StoreW.of_grown {g : Nat} {v : Value} {w w' : World} (h : w.grownBy w' v.ownBlock) : StoreW g v w w' := ⟨h.os, h.tape, h.output, h.size, fun i hi _ h2 => h.block i hi h2⟩
theorem StoreW.trans {g : Nat} {v v1 : Value} {w w1 w2 : World} (h : StoreW g v w w1) (k : StoreW g v1 w1 w2) (hv : v1.ownBlock = v.ownBlock ∨ ∃ b, v1.ownBlock = some b ∧ w.heap.size ≤ b) : StoreW g v w w2 :=
 ⟨k.os.trans h.os, k.tape.trans h.tape, k.output.trans h.output, Nat.le_trans h.size k.size, fun i hi h1 h2 => (k.block i (Nat.lt_of_lt_of_le hi h.size) h1 (by
  rcases hv with hv | ⟨b, hb, hle⟩
  ·rw [hv]; exact h2
  ·rw [hb]; intro e; injection e with e; omega)).trans (h.block i hi h1 h2)⟩
theorem StoreW.set (g : Nat) (v : Value) (w : World) (j : Nat) (u : Value) : StoreW g v w (w.setCell ⟨g, j, none⟩ u) := ⟨rfl, rfl, rfl, by simp [World.setCell], fun i _ h1 _ => Below.heap_setCell w ⟨g, j, none⟩ u i h1⟩
def StPost (base g : Nat) (v : Value) (l' : List S50) (r : Value) (w : World) (e : Ending) (w' : World) : Prop := e = .returned r ∧ ∃ v', StoreIs base g v' l' w' ∧ StoreW g v w w' ∧ (v'.ownBlock = v.ownBlock ∨ ∃ b, v'.ownBlock = some b ∧ w.heap.size ≤ b)
theorem st_set_has (base g : Nat) (v : Value) (l : List S50) (key value : ByteArray) (w : World) (h : StoreIs base g v l w) (hl : l.length ≤ 1000000000) (hb : base ≤ w.heap.size) (hh : hasK l key = true) :
  Calls Tryd.prog 37 #[.pointer (some ⟨g, 0, none⟩), .string key, .string value] w (StPost base g v (setK l key value) (.bool false) w) := by
 obtain ⟨hp, hk⟩ := hasK_lt hh
 obtain ⟨h0, h1, h2, h3⟩ := id h
 rcases h3.2 with ⟨rfl, hn0⟩ | ⟨gr, cap, cur, rfl, hbr, hg, hn, hm, hs, hx⟩
 ·omega
 have hgr : g ≠ gr := blk_ne h2 hg (by decide)
 have hset : setK l key value = l.set (posK l key) ⟨key, value⟩ := by unfold setK; rw [hh, if_pos rfl]
 have hsort := sortK_set h1 key value
 rw [hset] at hsort ⊢
 go_enter Tryd.func37, Tryd.ntmps37
 go_wp2_with fail
 refine (st_at base g l key _ h.at_ hl).mono ?_
 rintro e w2 ⟨rfl, hb2⟩
 rw [hh]
 have g2 := blk_below h2 hb2
 have r2 := blk_below hg hb2
 have hp0 : (0 : Int) ≤ (posK l key : Int) := by omega
 have hpl : (posK l key : Int) < (l.length : Int) := by omega
 have hcs : cap * 2 ≤ cur.size := by omega
 have g3 := blk_alloc g2 (.cells #[.string key, .string value] 50)
 have r3 := blk_alloc r2 (.cells #[.string key, .string value] 50)
 have n3 := my_alloc_new w2 (.cells #[.string key, .string value] 50)
 have y0 : (w2.alloc (.cells #[.string key, .string value] 50)).cell? ⟨g, 0, none⟩ = some (.slice (some ⟨gr, 0, none⟩) l.length cap) := (blk_cell g3 0).trans rfl
 have y1 : (w2.alloc (.cells #[.string key, .string value] 50)).cell? ⟨w2.heap.size, 0, none⟩ = some (.string key) := (blk_cell n3 0).trans rfl
 have y2 : (w2.alloc (.cells #[.string key, .string value] 50)).cell? ⟨w2.heap.size, 1, none⟩ = some (.string value) := (blk_cell n3 1).trans rfl
 obtain ⟨o0, z0⟩ : ∃ o0, (w2.alloc (.cells #[.string key, .string value] 50)).cell? ⟨gr, posK l key * 2, none⟩ = some o0 := ⟨_, (blk_cell r3 _).trans (Array.getElem?_eq_getElem (by omega))⟩
 obtain ⟨o1, z1⟩ : ∃ o1, (w2.alloc (.cells #[.string key, .string value] 50)).cell? ⟨gr, posK l key * 2 + 1, none⟩ = some o1 := ⟨_, (blk_cell r3 _).trans (Array.getElem?_eq_getElem (by omega))⟩
 have u0 := blk_frozen r3 (posK l key * 2)
 have u1 := blk_frozen r3 (posK l key * 2 + 1)
 have hfin : ∀ n, StPost base g (.slice (some ⟨gr, 0, none⟩) l.length cap) (l.set (posK l key) ⟨key, value⟩) (.bool false) w (.returned (.bool false)) ((((w2.alloc (.cells #[.string key, .string value] 50)).drewN n).setCell ⟨gr, posK l key * 2, none⟩ (.string key)).setCell ⟨gr, posK l key * 2 + 1, none⟩ (.string value)) := by
  intro n
  have s2 : Below w2.heap.size w2 ((w2.alloc (.cells #[.string key, .string value] 50)).drewN n) := pw_below_drewN ((Below.refl _ _).alloc (Nat.le_refl _) _) n
  generalize ((w2.alloc (.cells #[.string key, .string value] 50)).drewN n) = w3 at s2 ⊢
  have g4 := blk_below g2 s2
  have r4 := blk_below r2 s2
  have e1 := setCell_eq_setRow w3 gr (posK l key * 2) cur _ _ (.string key) r4
  have r5 := setRow_heap w3 gr cur (cur.setIfInBounds (posK l key * 2) (.string key)) _ _ r4
  have e2 := setCell_eq_setRow (w3.setRow gr (cur.setIfInBounds (posK l key * 2) (.string key))) gr (posK l key * 2 + 1) _ _ _ (.string value) r5
  have r6 := setRow_heap _ gr _ ((cur.setIfInBounds (posK l key * 2) (.string key)).setIfInBounds (posK l key * 2 + 1) (.string value)) _ _ r5
  refine ⟨rfl, _, ⟨h0, hsort, ?_, ?_⟩, ?_, .inl rfl⟩
  ·exact blk_far (blk_far g4 (p := ⟨gr, posK l key * 2, none⟩) hgr _) (p := ⟨gr, posK l key * 2 + 1, none⟩) hgr _
  ·rw [List.length_set, e1, e2]
   refine row_of hbr r6 hn hm (by rw [Array.size_setIfInBounds, Array.size_setIfInBounds, hs]) ?_
   rw [Array.toList_setIfInBounds, Array.toList_setIfInBounds, List.take_set, List.take_set, hx, encP_set l _ ⟨key, value⟩ hp]
  ·exact ((StoreW.of_below hb2).trans (StoreW.of_below s2) (.inl rfl)).trans (StoreW.of_grown ((gb_set w3 gr _ _).trans (gb_set _ gr _ _))) (.inl rfl)
 replace hfin := As_ hfin
 clear hx hs hcs hg h2 h3 h hsort g2 r2 g3 r3 n3 hset
 go_upto_region 6 with (fail)
 go_region
 go_wp2
 go_ret
 exact hfin.out 1
theorem own_below {w w' : World} {base : Nat} {e : TypeId} {size n : Nat} {v : Value} {xs : List Value} (h : w.ownsRow base e size v n xs) (hb : Below w.heap.size w w') : w'.ownsRow base e size v n xs := h.kept (grown_of_below hb none) (by cases v.ownBlock <;> simp)
theorem st_set_new (base g : Nat) (v : Value) (l : List S50) (key value : ByteArray) (w : World) (h : StoreIs base g v l w) (hl : l.length ≤ 1000000000) (hb : base ≤ w.heap.size) (hh : hasK l key = false) :
  Calls Tryd.prog 37 #[.pointer (some ⟨g, 0, none⟩), .string key, .string value] w (StPost base g v (setK l key value) (.bool true) w) := by
 obtain ⟨h0, h1, h2, h3⟩ := id h
 have hpl := posK_le l key
 have hset : setK l key value = l.take (posK l key) ++ ⟨key, value⟩ :: l.drop (posK l key) := by unfold setK; rw [hh, if_neg (by simp)]
 have hsort := sortK_set h1 key value
 rw [hset] at hsort ⊢
 obtain ⟨A, c, rfl, hnc, hc63⟩ := row_slice h3
 go_enter Tryd.func37, Tryd.ntmps37
 go_wp2_with fail
 refine (st_at base g l key _ h.at_ hl).mono ?_
 rintro e w2 ⟨rfl, hb2⟩
 rw [hh]
 have g3 := blk_alloc (blk_below h2 hb2) (.cells #[.string key, .string value] 50)
 have n3 := my_alloc_new w2 (.cells #[.string key, .string value] 50)
 have o3 : (w2.alloc (.cells #[.string key, .string value] 50)).ownsRow base 50 2 (.slice A l.length c) l.length (encP l) := (own_below h3 hb2).alloc _
 have hsz2 := hb2.size
 have W2 := As_ ((StoreW.of_below hb2 : StoreW g (.slice A l.length c) w w2).trans (StoreW.of_below ((Below.refl w2.heap.size w2).alloc (Nat.le_refl _) (.cells #[.string key, .string value] 50))) (.inl rfl))
 have hA : ∀ k, (Value.slice A l.length c).ownBlock = some k → k < w2.heap.size := fun k hk => Nat.lt_of_lt_of_le (h3.lt k hk).2 hsz2
 go_upto_region 8 with (fail)
 skip
 have y0 := (blk_cell g3 0).trans (rfl : _ = some (Value.slice A l.length c))
 have y1 := (blk_cell n3 0).trans (rfl : _ = some (Value.string key))
 have y2 := (blk_cell n3 1).trans (rfl : _ = some (Value.string value))
 have hvb : w2.heap.size < (w2.alloc (.cells #[.string key, .string value] 50)).heap.size := by rw [my_alloc_size]; omega
 have hgs := blk_lt g3
 refine start_ (n := 12) (S := fun w' => w'.cell? ⟨g, 0, none⟩ = some (.slice A l.length c) ∧ w'.cell? ⟨w2.heap.size, 0, none⟩ = some (.string key) ∧ w'.cell? ⟨w2.heap.size, 1, none⟩ = some (.string value)) (ds := [11]) #[false, false, false, false, false, false, false, false, false, false, false, false] (by kernel_rfl) rfl rfl ⟨y0, y1, y2⟩ (fun hHeld => ?_)
 have g4 : (w2.alloc (.cells #[.string key, .string value] 50)).drew.heap[g]? = _ := g3
 have n4 : (w2.alloc (.cells #[.string key, .string value] 50)).drew.heap[w2.heap.size]? = _ := n3
 have o4 : (w2.alloc (.cells #[.string key, .string value] 50)).drew.ownsRow base 50 2 (.slice A l.length c) l.length (encP l) := own_below o3 (below_drew (Below.refl _ _))
 have W4 := As_ (W2.out.trans (StoreW.of_below (below_drew (Below.refl _ _)) : StoreW g (.slice A l.length c) _ (w2.alloc (.cells #[.string key, .string value] 50)).drew) (.inl rfl))
 clear g3 n3 o3 W2 y0 y1 y2 h2 h3 h
 have hvb4 : w2.heap.size < (w2.alloc (.cells #[.string key, .string value] 50)).drew.heap.size := hvb
 have hgs4 : g < (w2.alloc (.cells #[.string key, .string value] 50)).drew.heap.size := hgs
 have hsw4 : w.heap.size ≤ (w2.alloc (.cells #[.string key, .string value] 50)).drew.heap.size := by omega
 clear hvb hgs
 generalize (w2.alloc (.cells #[.string key, .string value] 50)).drew = w4 at hHeld g4 n4 o4 W4 hvb4 hgs4 hsw4 ⊢
 have G4 := As_ g4
 have N4 := As_ n4
 have O4 := As_ o4
 clear g4 n4 o4
 refine pure_ (i := 0) (N := some 29) #[true, false, false, false, false, false, false, false, false, false, false, false] rfl rfl (by kernel_rfl) (fun _ _ _ h => h) (Or.inl ⟨by rfl, ap1_⟩) ap16_ ?_
 refine pure_ (i := 1) (N := some 30) #[true, true, false, false, false, false, false, false, false, false, false, false] rfl rfl (by kernel_rfl) (fun _ _ _ h => h) (Or.inl ⟨by rfl, ap1_⟩) ap16_ ?_
 refine pure_ (i := 2) (N := some 31) #[true, true, true, false, false, false, false, false, false, false, false, false] rfl rfl (by kernel_rfl) (fun _ _ _ h => h) (Or.inl ⟨by rfl, ap1_⟩) ap16_ ?_
 refine pure_ (i := 3) (N := some 32) #[true, true, true, true, false, false, false, false, false, false, false, false] rfl rfl (by kernel_rfl) (fun _ _ _ h => h) (Or.inl ⟨by rfl, ap1_⟩) ap16_ ?_
 refine take_ (i := 4) (N := some 33) #[true, true, true, true, true, false, false, false, false, false, false, false] rfl rfl (by kernel_rfl) (fun _ _ _ h => h) (Or.inl ⟨by rfl, (by rintro w' ⟨s0, s1, s2⟩; go_simp; with_reducible rfl)⟩) hHeld ap16_ ?_
 refine pure_ (i := 5) (N := some 34) #[true, true, true, true, true, true, false, false, false, false, false, false] rfl rfl (by kernel_rfl) (fun _ _ _ h => h) (Or.inl ⟨by rfl, ap1_⟩) ap16_ ?_
 refine take_ (i := 6) (N := some 35) #[true, true, true, true, true, true, true, false, false, false, false, false] rfl rfl (by kernel_rfl) (fun _ _ _ h => h) (Or.inl ⟨by rfl, (by rintro w' ⟨s0, s1, s2⟩; go_simp; with_reducible rfl)⟩) hHeld ap16_ ?_
 refine one_ (i := 7) (N := some 36) #[true, true, true, true, true, true, true, true, false, false, false, false] rfl rfl (by kernel_rfl) (by decide) (fun K hK => ?_)
 refine value_ (w1 := ?_) (v := ?_) (by rfl) rfl ?_ ?_
 rotate_left 2
 ·go_simp
  constructor
  ·rfl
  ·rfl
 refine hK.out _ _ ⟨(blk_cell (blk_alloc G4.out _) 0).trans rfl, (blk_cell (blk_alloc N4.out _) 0).trans rfl, (blk_cell (blk_alloc N4.out _) 1).trans rfl⟩ (fun hHeld => ?_)
 clear hK K
 refine norm_ (a' := ?_) ?_ ?_
 rotate_left
 ·show Act.put _ (some 36) _ = _
  simp only [Act.put, List.setIfInBounds_toArray, List.set_cons_zero, List.set_cons_succ, i64_w, i32_w]
  rfl
 refine one_ (i := 8) (N := some 37) #[true, true, true, true, true, true, true, true, true, false, false, false] rfl rfl (by kernel_rfl) (by decide) (fun K hK => ?_)
 refine goes_ Tryd.func47 (by kernel_rfl) rfl #[.slice A l.length c, .int .i64 (posK l key : Int), .slice (some ⟨w4.heap.size, 0, none⟩) 1 1] (by rfl) rfl rfl ap14_ ?_
 refine (ins_calls base (.slice A l.length c) l (posK l key) w4.heap.size ⟨key, value⟩ _ hl hpl (own_alloc O4.out _) (by rw [my_alloc_size]; omega) (my_alloc_new w4 _) (fun e => by have := hA _ e.symm; omega)).mono ?_
 rintro e w5 ⟨v5, rfl, o5, gr5, at5⟩
 refine ⟨_, rfl, ?_⟩
 have ng : some g ≠ (Value.slice A l.length c).ownBlock := own_ne O4.out G4.out (by decide)
 have nb : some w2.heap.size ≠ (Value.slice A l.length c).ownBlock := fun e => by have := hA _ e.symm; omega
 have g5 := blk_grown (blk_alloc G4.out _) gr5 ng
 have n5 := blk_grown (blk_alloc N4.out _) gr5 nb
 obtain ⟨A5, c5, e5, _, _⟩ := row_slice o5
 subst e5
 have W5 := As_ ((W4.out.trans (StoreW.of_below ((Below.refl w4.heap.size w4).alloc (Nat.le_refl _) (.cells #[.string key, .string value] 50))) (.inl rfl)).trans (StoreW.of_grown gr5) (.inl rfl))
 have AT5 := As_ (show (Value.slice A5 _ c5).ownBlock = (Value.slice A l.length c).ownBlock ∨ ∃ b, (Value.slice A5 _ c5).ownBlock = some b ∧ w.heap.size ≤ b from at5.imp_right (fun ⟨b, h1, h2⟩ => ⟨b, h1, by rw [my_alloc_size] at h2; omega⟩))
 have G5 := As_ g5
 have O5 := As_ o5
 clear G4 N4 O4 W4 gr5 at5 hHeld o5
 refine hK.out _ _ ⟨(blk_cell g5 0).trans rfl, (blk_cell n5 0).trans rfl, (blk_cell n5 1).trans rfl⟩ (fun hHeld => ?_)
 clear g5 n5
 clear hK K
 refine norm_ (a' := ?_) ?_ ?_
 rotate_left
 ·show Act.put _ (some 37) _ = _
  simp only [Act.put, List.setIfInBounds_toArray, List.set_cons_zero, List.set_cons_succ, i64_w, i32_w]
  rfl
 refine pure_ (i := 9) (N := some 38) #[true, true, true, true, true, true, true, true, true, true, false, false] rfl rfl (by kernel_rfl) (fun _ _ _ h => h) (Or.inl ⟨by rfl, ap1_⟩) ap16_ ?_
 refine pure_ (i := 10) (N := some 39) #[true, true, true, true, true, true, true, true, true, true, true, false] rfl rfl (by kernel_rfl) (fun _ _ _ h => h) (Or.inl ⟨by rfl, ap1_⟩) ap16_ ?_
 refine last_ (i := 11) (N := none) #[true, true, true, true, true, true, true, true, true, true, true, true] rfl rfl (by kernel_rfl) (by decide) (fun K hK => ?_)
 have u0 : w5.cell? ⟨g, 0, none⟩ = some (.slice A l.length c) := hHeld.1
 have z0 := blk_frozen G5.out 0
 refine skip_ (w1 := w5.setCell ⟨g, 0, none⟩ (.slice A5 (l.take (posK l key) ++ ⟨key, value⟩ :: l.drop (posK l key)).length c5)) (by rfl) rfl ?_ ?_
 ·go_simp
  try rfl
 refine hK.out _ _ ?_
 refine done_ (by kernel_rfl) ?_
 have g6 := blk_put G5.out 0 (.slice A5 (l.take (posK l key) ++ ⟨key, value⟩ :: l.drop (posK l key)).length c5) rfl
 have hfin : StPost base g (.slice A l.length c) (l.take (posK l key) ++ ⟨key, value⟩ :: l.drop (posK l key)) (.bool true) w (.returned (.bool true)) (w5.setCell ⟨g, 0, none⟩ (.slice A5 (l.take (posK l key) ++ ⟨key, value⟩ :: l.drop (posK l key)).length c5)) :=
  ⟨rfl, _, ⟨h0, hsort, g6, own_setCell O5.out (p := ⟨g, 0, none⟩) (own_ne O5.out G5.out (by decide)) _⟩, W5.out.trans (StoreW.set g _ w5 0 _) AT5.out, AT5.out⟩
 replace hfin := As_ hfin
 clear g6 hHeld W5 AT5 G5 O5 hset hsort
 try go_wp2
 go_ret
 exact hfin.out
theorem take_splice {α : Type} (L : List α) (o : Nat) (c : List α) (h : o ≤ L.length) : (splice L o c).take o = L.take o := by
 unfold splice
 rw [List.take_append_of_le_length (by rw [List.length_take]; omega), List.take_take, Nat.min_self]
theorem take_splice2 {α : Type} (L : List α) (o : Nat) (c : List α) (h : o ≤ L.length) : (splice L o c).take (o + c.length) = L.take o ++ c := by
 unfold splice
 have h1 : (L.take o).length = o := by rw [List.length_take]; omega
 rw [← List.append_assoc, List.take_append_of_le_length (by rw [List.length_append, h1]; omega), List.take_of_length_le (by rw [List.length_append, h1]; omega)]
theorem del_calls (base : Nat) (v : Value) (l : List S50) (i : Nat) (w : World) (hl : l.length ≤ 1000000000) (hi : i < l.length) (ho : w.ownsRow base 50 2 v l.length (encP l)) :
  Calls Tryd.prog 35 #[v, .int .i64 i, .int .i64 ((i : Int) + 1)] w (InsPost base v (l.take i ++ l.drop (i + 1)) w) := by
 rcases ho.2 with ⟨rfl, h0⟩ | ⟨g, cap, cur, rfl, hb, hg, hn, hm, hs, hx⟩
 ·omega
 obtain ⟨i0, hi0, hz⟩ := Option.map_eq_some_iff.1 info50
 simp only [Prod.mk.injEq] at hz
 obtain ⟨hz0, hzs, hzb⟩ := hz
 have hc63 : cap ≤ 9223372036854775807 := by unfold maxLen at hm; omega
 obtain ⟨hsp1, hsp2⟩ := encP_split l i (by omega)
 obtain ⟨_, hsp3⟩ := encP_split l (i + 1) (by omega)
 have hE3 : (encP (l.drop (i + 1))).length = (l.length - (i + 1)) * 2 := by rw [encP_len, List.length_drop]
 have hcL : cur.toList.length = cap * 2 := hs
 have hcur : cur.toList = encP l ++ cur.toList.drop (l.length * 2) := by rw [← hx, List.take_append_drop]
 have hcur1 : cur.toList.take (i * 2) = encP (l.take i) := by
  rw [← hsp1, ← hx, List.take_take, Nat.min_eq_left (by omega)]
 have hcells : ∀ j u, (encP (l.drop (i + 1)))[j]? = some u → cur.toList[(i + 1) * 2 + j]? = some u := fun j u hj => by
  rw [← hsp3, List.getElem?_drop] at hj
  rw [hcur, List.getElem?_append_left (List.getElem?_eq_some_iff.1 hj).1]
  exact hj
 have hgd : w.drew.heap[g]? = some (.cells cur 50 (0, 0)) := hg
 obtain ⟨C1, hC1⟩ : ∃ C1 : Array Value, C1 = (splice cur.toList (i * 2) (encP (l.drop (i + 1)))).toArray := ⟨_, rfl⟩
 have hC1s : C1.size = cap * 2 := by rw [hC1, List.size_toArray, splice_len _ _ _ (by rw [hcL, hE3]; omega), hcL]
 have hC1L : C1.toList.length = cap * 2 := hC1s
 obtain ⟨A2, hA2, hsrc⟩ : ∃ A2 : Addr, (if cap = i + 1 then some (⟨g, 0, none⟩ : Addr) else some ⟨g, (i + 1) * 2, none⟩) = some A2 ∧ ∀ j u, (encP (l.drop (i + 1)))[j]? = some u → w.drew.cell? (A2.add j) = some u := by
  by_cases hci : cap = i + 1
  ·refine ⟨⟨g, 0, none⟩, if_pos hci, fun j u hj => ?_⟩
   have := (List.getElem?_eq_some_iff.1 hj).1
   rw [hE3] at this
   omega
  ·exact ⟨⟨g, (i + 1) * 2, none⟩, if_neg hci, src_cells hgd _ _ hcells⟩
 have hap : ∀ ty cc, (Builtin.append_ #[47, 47] ty #[.slice (some ⟨g, 0, none⟩) i cap, .slice (some A2) (l.length - (i + 1)) cc]).run Tryd.prog w.drew = .ok (.slice (some ⟨g, 0, none⟩) (l.length - 1) cap) (w.drew.setRow g C1) := fun ty cc => by
  have hsrc2 : Src Tryd.prog i0.size 47 (.slice (some A2) (l.length - (i + 1)) cc) (l.length - (i + 1)) (encP (l.drop (i + 1))) w.drew := by
   rw [hzs]
   exact Src.ofSlice w.drew Tryd.underlying47 A2 (l.length - (i + 1)) cc _ hE3 hsrc (encP_one _)
  have h := run_append_k (P := Tryd.prog) w.drew 47 47 ty 50 i0 Tryd.underlying47 hi0 g i cap cur 50 hgd _ _ _ hsrc2 (by omega) (by rw [hzs, hE3, hs]; omega)
  rw [hzs, ← hC1, show i + (l.length - (i + 1)) = l.length - 1 by omega] at h
  exact h
 have hW1 := setRow_heap _ g cur C1 _ _ hgd
 obtain ⟨C2, hC2⟩ : ∃ C2 : Array Value, C2 = (splice C1.toList ((l.length - 1) * 2) (Builtin.zeroCells (Value.agg #[.string ⟨#[]⟩, .string ⟨#[]⟩]).cells 1).toList).toArray := ⟨_, rfl⟩
 have hZ : (Builtin.zeroCells (Value.agg #[.string ⟨#[]⟩, .string ⟨#[]⟩]).cells 1).toList.length = 2 := by rw [Array.length_toList, zeroCells_len]; rfl
 have hC2s : C2.size = cap * 2 := by rw [hC2, List.size_toArray, splice_len _ _ _ (by rw [hC1L, hZ]; omega), hC1L]
 have hcl : ∀ ty cc, (Builtin.clear_ #[47] ty #[.slice (some ⟨g, (l.length - 1) * 2, none⟩) (l.length - (l.length - 1)) cc]).run Tryd.prog (w.drew.setRow g C1) = .ok (.tuple #[]) ((w.drew.setRow g C1).setRow g C2) := fun ty cc => by
  rw [show l.length - (l.length - 1) = 1 by omega, hC2]
  exact run_clear_k (P := Tryd.prog) (w.drew.setRow g C1) 47 50 ty (.agg #[.string ⟨#[]⟩, .string ⟨#[]⟩]) Tryd.underlying47 (fun w' => by kernel_rfl) (by intro u hu; simp [Value.cells] at hu; subst hu; rfl) g ((l.length - 1) * 2) 1 cc (by omega) C1 50 hW1 (by rw [hC1s]; show _ + 1 * 2 ≤ _; omega)
 have hfin : InsPost base (.slice (some ⟨g, 0, none⟩) l.length cap) (l.take i ++ l.drop (i + 1)) w (.returned (.slice (some ⟨g, 0, none⟩) (l.length - 1) cap)) ((w.drew.setRow g C1).setRow g C2) := by
  have hlen : (l.take i ++ l.drop (i + 1)).length = l.length - 1 := by rw [List.length_append, List.length_take, List.length_drop]; omega
  refine ⟨_, rfl, ?_, ((gb_below (below_drew (Below.refl _ _))).trans (gb_setRow w.drew g C1)).trans (gb_setRow _ g C2), .inl rfl⟩
  rw [hlen]
  refine row_of hb (setRow_heap _ g C1 C2 _ _ hW1) (by omega) hm hC2s ?_
  have e := take_splice2 cur.toList (i * 2) (encP (l.drop (i + 1))) (by rw [hcL]; omega)
  rw [hE3, hcur1, show i * 2 + (l.length - (i + 1)) * 2 = (l.length - 1) * 2 by omega] at e
  rw [hC2, List.toList_toArray, take_splice _ _ _ (by rw [hC1L]; omega), hC1, List.toList_toArray, e, encP_append]
 replace hfin := As_ hfin
 have hw2 : IntKind.i64.wrap ((i : Int) + 1) = ((i + 1 : Nat) : Int) := by rw [IntKind.wrap_i64]; omega
 have hb1 : (0 : Int) ≤ (i : Int) + 1 := by omega
 have hin : i ≤ l.length := by omega
 have hin1 : i + 1 ≤ l.length := by omega
 have hin2 : (i : Int) + 1 ≤ (l.length : Int) := by omega
 have hin3 : (i : Int) ≤ (i : Int) + 1 := by omega
 have hne : ¬ ((i : Int) = (i : Int) + 1) := by omega
 have hneb : ((i : Int) == (i : Int) + 1) = false := beq_eq_false_iff_ne.2 hne
 have htn : ((i : Int) + 1).toNat = i + 1 := by omega
 have hic : i ≤ cap := by omega
 have hic1 : l.length - 1 ≤ l.length := by omega
 have hic2 : ¬ (cap = l.length - 1) := by omega
 clear hx hg hgd hW1 hC1 hC2 hC1s hC1L hC2s hE3 hcL hsp1 hsp2 hsp3 hs hm hcur hcur1 hcells hsrc hZ ho hz0 hzb hzs hi0
 go_enter Tryd.func35, Tryd.ntmps35
 go_wp2_with fail
 go_region_law (refine step_append_k rfl _ _ 47 47 rfl (.slice (some ⟨g, 0, none⟩) i cap) (.slice (some A2) (l.length - (i + 1)) (cap - (i + 1))) (by simp [Act.eval, Act.put]) (by simp [Act.eval, Act.put]) (hap _ _) ?_)
 go_wp2
 go_ret
 exact hfin.out
theorem st_del_no (base g : Nat) (v : Value) (l : List S50) (key : ByteArray) (w : World) (h : StoreIs base g v l w) (hl : l.length ≤ 1000000000) (hh : hasK l key = false) :
  Calls Tryd.prog 24 #[.pointer (some ⟨g, 0, none⟩), .string key] w (StPost base g v (delK l key) (.bool false) w) := by
 have hdel : delK l key = l := by unfold delK; rw [hh, if_neg (by simp)]
 rw [hdel]
 go_enter Tryd.func24, Tryd.ntmps24
 go_wp2_with fail
 refine (st_at base g l key _ h.at_ hl).mono ?_
 rintro e w2 ⟨rfl, hb2⟩
 rw [hh]
 have hfin : StPost base g v l (.bool false) w (.returned (.bool false)) w2 := ⟨rfl, v, ⟨h.1, h.2.1, blk_below h.2.2.1 hb2, own_below h.2.2.2 hb2⟩, StoreW.of_below hb2, .inl rfl⟩
 replace hfin := As_ hfin
 clear h hb2 hdel
 go_wp2
 go_ret
 exact hfin.out
theorem st_del_has (base g : Nat) (v : Value) (l : List S50) (key : ByteArray) (w : World) (h : StoreIs base g v l w) (hl : l.length ≤ 1000000000) (hh : hasK l key = true) :
  Calls Tryd.prog 24 #[.pointer (some ⟨g, 0, none⟩), .string key] w (StPost base g v (delK l key) (.bool true) w) := by
 obtain ⟨hp, _⟩ := hasK_lt hh
 obtain ⟨h0, h1, h2, h3⟩ := id h
 have hdel : delK l key = l.take (posK l key) ++ l.drop (posK l key + 1) := by unfold delK; rw [hh, if_pos rfl]
 have hsort := sortK_del h1 key
 rw [hdel] at hsort ⊢
 obtain ⟨A, c, rfl, hnc, hc63⟩ := row_slice h3
 go_enter Tryd.func24, Tryd.ntmps24
 go_wp2_with fail
 refine (st_at base g l key _ h.at_ hl).mono ?_
 rintro e w2 ⟨rfl, hb2⟩
 rw [hh]
 have g2 := blk_below h2 hb2
 have o2 := own_below h3 hb2
 have y0 : w2.cell? ⟨g, 0, none⟩ = some (.slice A l.length c) := (blk_cell g2 0).trans rfl
 have W2 := As_ (StoreW.of_below hb2 : StoreW g (.slice A l.length c) w w2)
 have hsz := hb2.size
 have G2 := As_ g2
 have O2 := As_ o2
 clear h h2 h3 hb2 hdel g2 o2
 go_wp2_with fail
 refine (del_calls base (.slice A l.length c) l (posK l key) _ hl hp O2.out).mono ?_
 rintro e w3 ⟨v3, rfl, o3, gr3, at3⟩
 obtain ⟨A3, c3, e3, _, _⟩ := row_slice o3
 subst e3
 have ng : some g ≠ (Value.slice A l.length c).ownBlock := own_ne O2.out G2.out (by decide)
 have g3 := blk_grown G2.out gr3 ng
 have y3 : w3.cell? ⟨g, 0, none⟩ = some (.slice A l.length c) := (blk_cell g3 0).trans rfl
 have z3 := blk_frozen g3 0
 have at4 : (Value.slice A3 (l.take (posK l key) ++ l.drop (posK l key + 1)).length c3).ownBlock = (Value.slice A l.length c).ownBlock ∨ ∃ b, (Value.slice A3 (l.take (posK l key) ++ l.drop (posK l key + 1)).length c3).ownBlock = some b ∧ w.heap.size ≤ b := at3.imp_right (fun ⟨b, h1, h2⟩ => ⟨b, h1, by omega⟩)
 have hfin : StPost base g (.slice A l.length c) (l.take (posK l key) ++ l.drop (posK l key + 1)) (.bool true) w (.returned (.bool true)) (w3.setCell ⟨g, 0, none⟩ (.slice A3 (l.take (posK l key) ++ l.drop (posK l key + 1)).length c3)) :=
  ⟨rfl, _, ⟨h0, hsort, blk_put g3 0 _ rfl, own_setCell o3 (p := ⟨g, 0, none⟩) (own_ne o3 g3 (by decide)) _⟩, (W2.out.trans (StoreW.of_grown gr3) (.inl rfl)).trans (StoreW.set g _ w3 0 _) at4, at4⟩
 replace hfin := As_ hfin
 clear g3 o3 gr3 at3 at4 hsort W2 G2 O2 y0 ng
 go_wp2
 go_ret
 have h2 := hfin.out
 simp only [List.length_append, List.length_take, List.length_drop] at h2
 exact h2
theorem st_set (base g : Nat) (v : Value) (l : List S50) (key value : ByteArray) (w : World) (h : StoreIs base g v l w) (hl : l.length ≤ 1000000000) (hb : base ≤ w.heap.size) :
  Calls Tryd.prog 37 #[.pointer (some ⟨g, 0, none⟩), .string key, .string value] w (StPost base g v (setK l key value) (.bool (!hasK l key)) w) := by
 cases hh : hasK l key with
 | true => exact st_set_has base g v l key value w h hl hb hh
 | false => exact st_set_new base g v l key value w h hl hb hh
theorem st_del (base g : Nat) (v : Value) (l : List S50) (key : ByteArray) (w : World) (h : StoreIs base g v l w) (hl : l.length ≤ 1000000000) :
  Calls Tryd.prog 24 #[.pointer (some ⟨g, 0, none⟩), .string key] w (StPost base g v (delK l key) (.bool (hasK l key)) w) := by
 cases hh : hasK l key with
 | true => exact st_del_has base g v l key w h hl hh
 | false => exact st_del_no base g v l key w h hl hh
def BKept (e : TypeId) (g : Nat) (w w' : World) : Prop := ∀ i, i < w.heap.size → i ≠ g → (∀ cs, w.heap[i]? ≠ some (.cells cs e (0, 0))) → w'.heap[i]? = w.heap[i]?
theorem BKept.refl (e : TypeId) (g : Nat) (w : World) : BKept e g w w := fun _ _ _ _ => rfl
theorem BKept.trans {e : TypeId} {g : Nat} {w w1 w2 : World} (h : BKept e g w w1) (k : BKept e g w1 w2) (hs : w.heap.size ≤ w1.heap.size) : BKept e g w w2 := fun i hi hg hc => by
 have h1 := h i hi hg hc
 rw [k i (Nat.lt_of_lt_of_le hi hs) hg (fun cs hcs => hc cs (by rw [← h1]; exact hcs)), h1]
theorem BKept.setCell {e : TypeId} {g : Nat} {w w1 : World} (h : BKept e g w w1) (k : Nat) (v : Value) : BKept e g w (w1.setCell ⟨g, k, none⟩ v) := fun i hi hg hc => by
 rw [← h i hi hg hc]
 unfold World.setCell
 simp [Array.getElem?_modify, Ne.symm hg]
theorem BKept.grown {e : TypeId} {g : Nat} {w w1 : World} {base n : Nat} {v : Value} {xs : List Value} (ho : w.ownsRow base e 1 v n xs) (hg : w.grownBy w1 v.ownBlock) : BKept e g w w1 := fun i hi _ hc => by
 refine hg.block i hi (fun he => ?_)
 obtain ⟨cells, hcs⟩ := own_typed ho i he.symm
 exact hc cells hcs
theorem BKept.alloc {e : TypeId} {g : Nat} (w : World) (o : Obj) : BKept e g w (w.alloc o) := fun i hi _ _ => my_alloc_old w o i hi
theorem bi_size : (Tryd.prog.info? 94).map (·.size) = some 2 := by kernel_rfl
theorem bi_lies : liesAt Tryd.prog Tryd.prog.depth 94 (2 / Tryd.prog.cellsOf 94) 0 94 1 = true := by kernel_rfl
theorem bi_info : (Tryd.prog.info? 5).map (fun i => (i.zero, i.size, i.bytes)) = some (some (.int .u8 0), 1, 1) := by kernel_rfl
theorem bi_check_used (b : Nat) (w : World) (h0 : w.cell? ⟨b, 0, none⟩ = some (.pointer (some ⟨b, 0, none⟩))) :
  Calls Tryd.prog 61 #[.pointer (some ⟨b, 0, none⟩)] w fun e w' => e = .returned (.tuple #[]) ∧ w' = w := by
 obtain ⟨j, hj, _⟩ := Option.map_eq_some_iff.1 bi_size
 go_enter Tryd.func61, Tryd.ntmps61
 go_wp2
 rw [Lib.run_neq_ptr_same w _ Tryd.underlying92 hj]
 go_wp2
 go_end0
 exact ⟨rfl, rfl⟩
theorem bi_check_fresh (b : Nat) (w : World) (h0 : w.cell? ⟨b, 0, none⟩ = some (.pointer none)) (hsh : w.shape? b = some (94, 2)) (hfz : w.frozen? ⟨b, 0, none⟩ = false) :
  Calls Tryd.prog 61 #[.pointer (some ⟨b, 0, none⟩)] w fun e w' => e = .returned (.tuple #[]) ∧ w' = w.setCell ⟨b, 0, none⟩ (.pointer (some ⟨b, 0, none⟩)) := by
 obtain ⟨j, hj, hjs⟩ := Option.map_eq_some_iff.1 bi_size
 go_enter Tryd.func61, Tryd.ntmps61
 go_wp2
 rw [Lib.run_to_unsafe w ⟨b, 0, none⟩ Tryd.underlying92 Tryd.underlying108 hj (by rw [hjs]; decide) hsh (Nat.zero_lt_succ 1)]
 simp only [Result.andThen]
 rw [Oper.upon_value]
 go_wp2
 rw [run_callFunc_extern Tryd.func66 (by kernel_rfl) (by kernel_rfl) (by kernel_rfl) (e := Extern.AbiNoEscape.same) (by kernel_rfl)]
 rw [Lib.run_noEscape]
 simp only [Result.andThen]
 rw [Oper.upon_value]
 go_wp2
 rw [Lib.run_from_unsafe w ⟨b, 0, none⟩ Tryd.underlying108 Tryd.underlying92 hj hsh bi_lies]
 simp only [Result.andThen]
 rw [Oper.upon_value]
 go_wp2
 go_end0
 exact ⟨rfl, rfl⟩
theorem bi_check (B b : Nat) (bs : List Value) (w : World) (h : Lib.IsBuilder 94 5 B b bs w) :
  Calls Tryd.prog 61 #[.pointer (some ⟨b, 0, none⟩)] w fun e w' => e = .returned (.tuple #[]) ∧ Lib.BuilderAt 94 5 B b (.pointer (some ⟨b, 0, none⟩)) bs w' ∧ Below B w w' ∧ BKept 5 b w w' := by
 rcases h with h | h
 ·refine (bi_check_fresh b w h.cell0 h.shape h.frozen0).mono ?_
  rintro e w' ⟨rfl, rfl⟩
  exact ⟨rfl, h.used _, (Below.refl B w).setCell (p := ⟨b, 0, none⟩) h.1 _, (BKept.refl _ _ _).setCell _ _⟩
 ·refine (bi_check_used b w h.cell0).mono ?_
  rintro e w' ⟨rfl, rfl⟩
  exact ⟨rfl, h, Below.refl B _, BKept.refl _ _ _⟩
theorem bi_str (B b : Nat) (bs : List Value) (s : ByteArray) (w : World) (h : Lib.IsBuilder 94 5 B b bs w) (hlen : bs.length + s.size ≤ 140737488355328) (hBw : B ≤ w.heap.size) :
  Calls Tryd.prog 53 #[.pointer (some ⟨b, 0, none⟩), .string s] w fun e w' => e = .returned (.tuple #[.int .i64 s.size, .nilIface]) ∧ Lib.IsBuilder 94 5 B b (bs ++ Lib.strCells s) w' ∧ Below B w w' ∧ BKept 5 b w w' := by
 obtain ⟨i0, hi, hz0, hz1, hz2⟩ := info_parts bi_info
 have e240 : ∀ args w, (callFunc 61 args).run Tryd.prog w = .ok (.enter 61 args) w := enters_of Tryd.func61 (by kernel_rfl) rfl
 go_enter Tryd.func53, Tryd.ntmps53
 go_wp2_with (go_at_call 61; refine (bi_check B b bs _ h).mono ?_)
 rintro e w1 ⟨rfl, h1, hb1, hk1⟩
 obtain ⟨hB, v, hbk, hown, hne⟩ := h1
 have c0 : w1.cell? ⟨b, 0, none⟩ = some (.pointer (some ⟨b, 0, none⟩)) := by rw [Lib.cell_of_heap hbk]; rfl
 have c1 : w1.cell? ⟨b, 1, none⟩ = some v := by rw [Lib.cell_of_heap hbk]; rfl
 replace hk1 := As_ hk1
 go_wp2_with (at_builtin; refine Lib.wpList_append_own_string _ rfl _ _ 70 9 rfl B 5 i0 Tryd.underlying70 Tryd.underlying9 hi hz0 hz1 hz2 _ _ _ rfl hown s rfl ?c3 ?c4 ?c5 ?_)
 case c3 => unfold maxLen; omega
 case c4 => omega
 case c5 => have := hb1.size; omega
 intro v' w2 hown' hgrow _
 have hlt : b < w1.heap.size := (Array.getElem?_eq_some_iff.1 hbk).1
 have hb2 : w2.heap[b]? = some (.cells #[.pointer (some ⟨b, 0, none⟩), v] 94 (0, 0)) := by
  rw [hgrow.block b hlt (fun e => hne e.symm)]
  exact hbk
 have d0 : w2.cell? ⟨b, 0, none⟩ = some (.pointer (some ⟨b, 0, none⟩)) := by rw [Lib.cell_of_heap hb2]; rfl
 have d1 : w2.cell? ⟨b, 1, none⟩ = some v := by rw [Lib.cell_of_heap hb2]; rfl
 have f1 : w2.frozen? ⟨b, 1, none⟩ = false := Lib.frozen_of_heap hb2 1
 have hkk := As_ ((hk1.out.trans (BKept.grown (g := b) hown hgrow) hb1.size).setCell 1 v')
 obtain ⟨ao, n', cap, rfl⟩ : ∃ ao n' cap, v' = .slice ao n' cap := by
  rcases hown'.2 with ⟨hv, _⟩ | ⟨g, cap, cur, hv, _⟩
  ·exact ⟨_, _, _, hv⟩
  ·exact ⟨_, _, _, hv⟩
 go_wp2
 go_ret2
 refine ⟨rfl, .inr ?_, ?_, hkk.out⟩
 ·exact Lib.BuilderAt.put (T := 94) (e := 5) hB hb2 (bs' := bs ++ Lib.strCells s) (by simpa [Lib.strCells_length] using hown') (by decide)
 ·exact (hb1.grown hgrow (by have := hb1.size; omega) (fun k hk => (hown.lt k hk).1)).setCell (p := ⟨b, 1, none⟩) hB _
theorem byteCells_app (l m : List UInt8) : Lib.byteCells (l ++ m) = Lib.byteCells l ++ Lib.byteCells m := by simp [Lib.byteCells]
theorem strCells_app (l : List UInt8) (s : ByteArray) : Lib.byteCells l ++ Lib.strCells s = Lib.byteCells (l ++ s.toList) := by rw [Lib.strCells_eq, byteCells_app, ByteArray.toList_eq]
theorem bi_strU (B b : Nat) (l : List UInt8) (s : ByteArray) (w : World) (h : Lib.IsBuilder 94 5 B b (Lib.byteCells l) w) (hlen : l.length + s.size ≤ 140737488355328) (hBw : B ≤ w.heap.size) :
  Calls Tryd.prog 53 #[.pointer (some ⟨b, 0, none⟩), .string s] w fun e w' => e = .returned (.tuple #[.int .i64 s.size, .nilIface]) ∧ Lib.IsBuilder 94 5 B b (Lib.byteCells (l ++ s.toList)) w' ∧ Below B w w' ∧ BKept 5 b w w' := by
 rw [← strCells_app]
 exact bi_str B b _ s w h (by rw [Lib.byteCells_length]; exact hlen) hBw
def repl1 (c : UInt8) (new : List UInt8) (l : List UInt8) : List UInt8 := l.flatMap fun x => if x = c then new else [x]
theorem repl1_no {c : UInt8} {new : List UInt8} : ∀ {l : List UInt8}, c ∉ l → repl1 c new l = l
 | [], _ => rfl
 | x :: t, h => by
  simp only [List.mem_cons, not_or] at h
  have ih := repl1_no (new := new) h.2
  unfold repl1 at ih ⊢
  rw [List.flatMap_cons, if_neg (fun e => h.1 e.symm), ih]; rfl
theorem repl1_at {c : UInt8} {new : List UInt8} (a b : List UInt8) (h : c ∉ a) : repl1 c new (a ++ c :: b) = a ++ (new ++ repl1 c new b) := by
 have h1 := repl1_no (new := new) h
 unfold repl1 at h1 ⊢
 rw [List.flatMap_append, h1, List.flatMap_cons, if_pos rfl]
theorem first_at (c : UInt8) : ∀ (l : List UInt8), 0 < l.count c → ∃ a b, l = a ++ c :: b ∧ c ∉ a ∧ Lib.indexByte l c = (a.length : Int)
 | [], h => by simp at h
 | x :: t, h => by
  by_cases hx : x = c
  ·exact ⟨[], t, by rw [hx]; rfl, by simp, by unfold Lib.indexByte; rw [if_pos (by simp [hx])]; rfl⟩
  ·rw [List.count_cons_of_ne (fun e => hx e)] at h
   obtain ⟨a, b, h1, h2, h3⟩ := first_at c t h
   refine ⟨x :: a, b, by rw [h1]; rfl, by simp only [List.mem_cons, not_or]; exact ⟨fun e => hx e.symm, h2⟩, ?_⟩
   unfold Lib.indexByte
   rw [if_neg (by simpa using hx), h3, if_neg (by simp), List.length_cons]
   omega
theorem strings_Replace1 (s old new : ByteArray) (c : UInt8) (w : World) (hs : s.size ≤ 100000000) (hold : old = (⟨#[c]⟩ : ByteArray)) (hnew : new.size = 2) :
  Calls Tryd.prog 46 #[.string s, .string old, .string new, .int .i64 (-1)] w fun e w' => e = .returned (.string (ofL (repl1 c new.toList s.toList))) ∧ Below w.heap.size w w' := by
 have hC : Calls Tryd.prog 50 #[.string s, .string old] w fun e w' => e = .returned (.int .i64 ((s.toList.count c : Nat) : Int)) ∧ w' = w := by
  rw [hold, ByteArray.toList_eq]
  exact Tryd.strings_Count_one s c w
 have hI : ∀ (x : ByteArray) (W : World), Calls Tryd.prog 52 #[.string x, .string old] W fun e w' => e = .returned (.int .i64 (Lib.indexByte x.toList c)) ∧ w' = W := by
  intro x W
  rw [hold, ByteArray.toList_eq]
  exact Tryd.strings_Index_one x c W
 have ho1 : old.size = 1 := by rw [hold]; rfl
 have hbeq : (old.toList == new.toList) = false := by
  apply beq_eq_false_iff_ne.2
  intro e
  have h1 := congrArg List.length e
  rw [← ba_size, ← ba_size] at h1
  omega
 have hcs : s.toList.count c ≤ s.size := by rw [ba_size]; exact List.count_le_length
 have ho0 : (0 : Int) < (old.size : Int) := by omega
 have hod : decide (0 < old.size) = true := decide_eq_true (by omega)
 by_cases hz : s.toList.count c = 0
 ·have hr : repl1 c new.toList s.toList = s.toList := repl1_no (List.count_eq_zero.1 hz)
  rw [hr, ofL_of]
  rw [hz] at hC
  replace hC := As_ hC
  clear hI hr hnew hz hcs hold ho1
  go_enter Tryd.func46, Tryd.ntmps46
  go_wp2_with fail
  refine hC.out.mono ?_
  rintro e w' ⟨rfl, rfl⟩
  go_wp2
  go_ret
  exact ⟨rfl, by repeat (first | exact Below.refl _ _ | apply pw_below_drewN)⟩
 ·obtain ⟨K, hK⟩ : ∃ K : Nat, s.toList.count c = K := ⟨_, rfl⟩
  rw [hK] at hC hz hcs
  have hcz : ((K : Int) == 0) = false := beq_eq_false_iff_ne.2 (by omega)
  have hga := Lib.grow_arg s.size K new.size old.size (by omega) (by rw [ho1]; omega) (by rw [hnew]; omega)
  have hgn : s.size + K * new.size - K * old.size ≤ 281474976710656 := by rw [hnew, ho1]; omega
  replace hC := As_ hC
  replace hI := As_ hI
  replace ho1 := As_ ho1
  replace hnew := As_ hnew
  replace hgn := As_ hgn
  replace hK := As_ hK
  replace hold := As_ hold
  go_enter Tryd.func46, Tryd.ntmps46
  go_wp2_with fail
  refine hC.out.mono ?_
  rintro e w' ⟨rfl, rfl⟩
  go_wp2_with fail
  try rw [hga]
  refine (Tryd.Builder_Grow_fresh w'.heap.size w'.heap.size _ _ (Nat.le_refl _) (my_alloc_new w' _) (by simp) hgn.out).mono ?_
  rintro e w1 ⟨rfl, hb0, hb1⟩
  have H1 := As_ (Or.inr hb0 : Lib.IsBuilder 94 5 w'.heap.size w'.heap.size (Lib.byteCells []) w1)
  have Hb1 := As_ (((Below.refl w'.heap.size w').alloc (Nat.le_refl _) _).trans hb1)
  clear hb0 hb1 hga hC
  go_wp2_with fail
  go_loopg [11, 53] K (fun g s11 s53 wx => ∃ (i start : Nat) (acc : List UInt8), s53 = .int .i64 i ∧ s11 = .int .i64 start ∧ i + g = K ∧ start ≤ s.size ∧ Aside0 (Lib.IsBuilder 94 5 w'.heap.size w'.heap.size (Lib.byteCells acc) wx) ∧ Aside0 (Below w'.heap.size w' wx) ∧ Aside0 (acc ++ repl1 c new.toList (s.toList.drop start) = repl1 c new.toList s.toList) ∧ Aside0 (g = (s.toList.drop start).count c) ∧ Aside0 (acc.length ≤ 2 * start))
  case atStart => exact ⟨0, 0, [], rfl, rfl, by omega, Nat.zero_le _, H1, Hb1, ⟨by simp⟩, ⟨by rw [List.drop_zero, hK.out]⟩, ⟨by simp⟩⟩
  case round =>
   clear H1 Hb1
   obtain ⟨i, start, acc, rfl, rfl, hig, hst, HB, HW, HR, hgc, hbd⟩ := hrel
   have hBw := As_ HW.out.size
   have c1 : (0 : Int) ≤ (start : Int) := by omega
   have c2 : (start : Int) ≤ (s.size : Int) := by omega
   have hsl : s.toList.length = s.size := (ba_size s).symm
   cases gk with
   | zero =>
    have hiK : ¬ ((i : Int) < (K : Int)) := by omega
    have hno : repl1 c new.toList (s.toList.drop start) = s.toList.drop start := repl1_no (List.count_eq_zero.1 hgc.out.symm)
    have hfin := As_ (HR.out.symm.trans (by rw [hno]))
    have hex : (s.extract start s.size).toList = s.toList.drop start := by rw [ba_extract, ← hsl, List.take_length]
    replace hex := As_ hex
    clear hno
    go_wp2_with fail
    refine (bi_strU w'.heap.size w'.heap.size _ (s.extract start s.size) wr HB.out (by have := hbd.out; rw [ByteArray.size_extract]; omega) hBw.out).mono ?_
    rintro e w3 ⟨rfl, h3, hb3, hk3⟩
    rw [hex.out, ← hfin.out] at h3
    have H3 := As_ h3
    have Hb3 := As_ (HW.out.trans hb3)
    clear h3 hb3 hk3
    go_wp2_with fail
    refine (Tryd.Builder_String_any w'.heap.size w'.heap.size _ w3 H3.out Hb3.out.size).mono ?_
    rintro e w5 ⟨rfl, hb5⟩
    have Hb5 := As_ (Hb3.out.trans hb5)
    clear hb5
    go_wp2
    go_ret
    exact ⟨rfl, Hb5.out⟩
   | succ g =>
    have hiK : (i : Int) < (K : Int) := by omega
    obtain ⟨a, b, hd, ha, hj⟩ := first_at c (s.toList.drop start) (by rw [← hgc.out]; omega)
    have hdl : (s.toList.drop start).length = a.length + (b.length + 1) := by rw [hd, List.length_append, List.length_cons]
    rw [List.length_drop, hsl] at hdl
    have c3 : (start : Int) ≤ (start : Int) + (a.length : Int) := by omega
    have c4 : (start : Int) + (a.length : Int) ≤ (s.size : Int) := by omega
    have hext : (s.extract start (start + a.length)).toList = a := by
     rw [ba_extract, List.drop_take, hd, Nat.add_sub_cancel_left]
     exact List.take_left
    have hb' : b = s.toList.drop (start + a.length + 1) := by
     rw [show start + a.length + 1 = start + (a.length + 1) by omega, ← List.drop_drop, hd]
     simp
    have hjx : Lib.indexByte (s.extract start s.size).toList c = (a.length : Int) := by rw [ba_extract, ← hsl, List.take_length]; exact hj
    have hrep : Aside0 ((acc ++ a ++ new.toList) ++ repl1 c new.toList (s.toList.drop (start + a.length + 1)) = repl1 c new.toList s.toList) := ⟨by rw [← HR.out, hd, repl1_at a b ha, ← hb']; simp only [List.append_assoc]⟩
    have hcnt : Aside0 (g = (s.toList.drop (start + a.length + 1)).count c) := ⟨by
     have h := hgc.out
     rw [hd, List.count_append, List.count_eq_zero.2 ha, List.count_cons_self, ← hb'] at *
     omega⟩
    replace hext := As_ hext
    replace hjx := As_ hjx
    clear hd ha hj hb' HR hgc
    go_wp2_with fail
    refine (hI.out (s.extract start s.size) _).mono ?_
    rintro e w6 ⟨rfl, rfl⟩
    rw [hjx.out]
    go_wp2_with fail
    refine (bi_strU w'.heap.size w'.heap.size _ (s.extract start (start + a.length)) _ HB.out (by have := hbd.out; rw [ByteArray.size_extract]; omega) hBw.out).mono ?_
    rintro e w3 ⟨rfl, h3, hb3, hk3⟩
    rw [hext.out] at h3
    have H3 := As_ h3
    have Hb3 := As_ (HW.out.trans hb3)
    clear h3 hb3 hk3
    go_wp2_with fail
    refine (bi_strU w'.heap.size w'.heap.size _ new w3 H3.out (by have := hbd.out; have := hnew.out; rw [List.length_append]; omega) Hb3.out.size).mono ?_
    rintro e w4 ⟨rfl, h4, hb4, hk4⟩
    have H4 := As_ h4
    have Hb4 := As_ (Hb3.out.trans hb4)
    clear h4 hb4 hk4
    go_wp2
    go_roundg g
    case measure => omega
    case rel => exact ⟨i + 1, start + a.length + 1, acc ++ a ++ new.toList, by first | rfl | (simp; unfold wrap64; omega), by have := ho1.out; first | rfl | (simp; done) | (simp; rw [w64 (by omega) (by omega)]; omega), by omega, by omega, H4, Hb4, hrep, hcnt, ⟨by have h1 := hbd.out; have h2 := hnew.out; rw [ba_size] at h2; rw [List.length_append, List.length_append]; omega⟩⟩
def strings_ReplaceAll.f (a0 a1 a2 : ByteArray) : Option ByteArray := match a1.toList with
 | [c] => if a0.size ≤ 100000000 ∧ a2.size = 2 then some (ofL (repl1 c a2.toList a0.toList)) else none
 | _ => none
theorem strings_ReplaceAll.calls (a0 a1 a2 : ByteArray) (r : ByteArray) (w : World) (h : strings_ReplaceAll.f a0 a1 a2 = some r) :
  Calls Tryd.prog 36 #[.string a0, .string a1, .string a2] w fun e w' => e = .returned (.string r) ∧ Below w.heap.size w w' := by
 unfold strings_ReplaceAll.f at h
 split at h
 case h_2 => exact absurd h (by simp)
 case h_1 c hc =>
  by_cases hh : a0.size ≤ 100000000 ∧ a2.size = 2
  case neg => rw [if_neg hh] at h; exact absurd h (by simp)
  rw [if_pos hh] at h
  obtain rfl := Option.some.inj h
  have hold : a1 = (⟨#[c]⟩ : ByteArray) := ba_ext (by rw [hc, ByteArray.toList_eq])
  have R := As_ (fun W => strings_Replace1 a0 a1 a2 c W hh.1 hold hh.2)
  clear h hh hold hc
  go_enter Tryd.func36, Tryd.ntmps36
  go_wp2_with fail
  refine (R.out _).mono ?_
  rintro e w' ⟨rfl, hb⟩
  go_wp2
  go_ret
  exact ⟨rfl, hb⟩
def CutP (n₀ : Nat) (W : World) (A : Option Addr) (l : List S50) : Prop :=
 (A = none ∧ l = []) ∨ ∃ b off, A = some ⟨b, off, none⟩ ∧ b < n₀ ∧ ∀ j (hj : j < l.length), W.cell? ⟨b, off + j * 2, none⟩ = some (.string l[j].f0) ∧ W.cell? ⟨b, off + j * 2 + 1, none⟩ = some (.string l[j].f1)
theorem CutP.below {n₀ : Nat} {W W' : World} {A : Option Addr} {l : List S50} (h : CutP n₀ W A l) (hb : Below n₀ W W') : CutP n₀ W' A l := by
 rcases h with h | ⟨b, off, e, hlt, hc⟩
 ·exact .inl h
 ·exact .inr ⟨b, off, e, hlt, fun j hj => ⟨(hb.cell (p := ⟨b, off + j * 2, none⟩) hlt).trans (hc j hj).1, (hb.cell (p := ⟨b, off + j * 2 + 1, none⟩) hlt).trans (hc j hj).2⟩⟩
theorem st_new (w : World) : Calls Tryd.prog 10 #[] w fun e w' => e = .returned (.pointer (some ⟨w.heap.size, 0, none⟩)) ∧ StoreIs w.heap.size w.heap.size (.slice none 0 0) [] w' ∧ Below w.heap.size w w' := by
 have n1 := my_alloc_new w (.cells #[.slice none 0 0] 52)
 have hfin : StoreIs w.heap.size w.heap.size (.slice none 0 0) [] (w.alloc (.cells #[.slice none 0 0] 52)) := ⟨Nat.le_refl _, List.Pairwise.nil, n1, World.ownsRow_nil _ _ _ _⟩
 have hb : Below w.heap.size w (w.alloc (.cells #[.slice none 0 0] 52)) := (Below.refl _ w).alloc (Nat.le_refl _) _
 replace hfin := As_ hfin
 replace hb := As_ hb
 clear n1
 go_enter Tryd.func10, Tryd.ntmps10
 go_wp2
 go_ret
 exact ⟨rfl, hfin.out, hb.out⟩
theorem rdP (l : List S50) (i : Nat) (h : i < l.length) : rd_T50 l (i : Int) = l[i] := by
 unfold rd_T50
 rw [Int.toNat_natCast, List.getD_eq_getElem?_getD, List.getElem?_eq_getElem h]; rfl
theorem setK_len (l : List S50) (key value : ByteArray) : (setK l key value).length ≤ l.length + 1 := by
 unfold setK
 split
 ·rw [List.length_set]; omega
 ·rw [List.length_append, List.length_cons, List.length_take, List.length_drop]; omega
theorem delK_len (l : List S50) (key : ByteArray) : (delK l key).length ≤ l.length := by
 unfold delK
 split
 ·rw [List.length_append, List.length_take, List.length_drop]; omega
 ·exact Nat.le_refl _
theorem StoreIs.below {base g : Nat} {v : Value} {l : List S50} {w w' : World} (h : StoreIs base g v l w) (hb : Below w.heap.size w w') : StoreIs base g v l w' := ⟨h.1, h.2.1, blk_below h.2.2.1 hb, own_below h.2.2.2 hb⟩
def ByP (g : Nat) (v : Value) (w : World) (xv : Value) (l : List S50) : Prop := Kd.V k50 50 w 0 (fun k => k ≠ g ∧ some k ≠ v.ownBlock) xv l
theorem ByP.store {g : Nat} {v v' : Value} {w w' : World} {xv : Value} {l : List S50} (hx : ByP g v w xv l) (hw : StoreW g v w w') (hv : v'.ownBlock = v.ownBlock ∨ ∃ b, v'.ownBlock = some b ∧ w.heap.size ≤ b) : ByP g v' w' xv l := by
 have h2 := Kd.V_step (Kd.V_bound hx) (fun k hk hlt => hw.block k hlt hk.1.1 hk.1.2)
 refine Kd.V_mono h2 (fun k hk => ⟨hk.1.1, ?_⟩)
 rcases hv with hv | ⟨b, hv, hle⟩
 ·rw [hv]; exact hk.1.2
 ·rw [hv]; intro e; injection e with e; have := hk.2; omega
theorem ByP.below {g : Nat} {v : Value} {w w' : World} {xv : Value} {l : List S50} (hx : ByP g v w xv l) (hb : Below w.heap.size w w') : ByP g v w' xv l := Kd.V_below hx hb
theorem StoreW.toBelow {n base g : Nat} {v : Value} {l : List S50} {w w1 w2 : World} (hb : Below n w w1) (hn : n ≤ w1.heap.size) (hs : StoreIs base g v l w1) (hbase : n ≤ base) (hw : StoreW g v w1 w2) : Below n w w2 :=
 hb.trans ⟨hw.os, hw.tape, hw.output, hw.size, fun i hi => hw.block i (Nat.lt_of_lt_of_le hi hn) (by have := hs.1; omega) (fun e => by have := (hs.2.2.2.lt i e.symm).1; omega)⟩
end Go.Proofs.YtgapkicplhbidaaDoor.PQuh
