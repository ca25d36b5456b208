/- A part of the walk of QuotaPlays. No condition. -/
import Derived.Test.YtgapkicplhbidaaGreatDoorPQupx0
import Derived.Test.YtgapkicplhbidaaGreatDoorPQupx1
namespace Go.Proofs.YtgapkicplhbidaaGreatDoor.PQup
set_option maxRecDepth 100000
set_option maxHeartbeats 8000000
open Go.RowKit Go.Proofs.YtgapkicplhbidaaGreatDoorW.PrintWords Go.Proofs.YtgapkicplhbidaaGreatDoorW.PrintLast Go.Proofs.YtgapkicplhbidaaGreatDoorW.PrintMore
attribute [local go_sem] max2_int min2_int max_two min_two max_three min_three max_four min_four   -- for this text's walks alone
set_option linter.unusedVariables false
set_option linter.unusedSimpArgs false
def BKept (e : TypeId) (g : Nat) (w w' : World) : Prop := ∀ i, i < w.heap.size → i ≠ g → (∀ cs, w.heap[i]? ≠ some (.cells cs e (0, 0))) → w'.heap[i]? = w.heap[i]?
theorem BKept.refl (e : TypeId) (g : Nat) (w : World) : BKept e g w w := fun _ _ _ _ => rfl
theorem BKept.trans {e : TypeId} {g : Nat} {w w1 w2 : World} (h : BKept e g w w1) (k : BKept e g w1 w2) (hs : w.heap.size ≤ w1.heap.size) : BKept e g w w2 := fun i hi hg hc => by
 have h1 := h i hi hg hc
 rw [k i (Nat.lt_of_lt_of_le hi hs) hg (fun cs hcs => hc cs (by rw [← h1]; exact hcs)), h1]
theorem BKept.setCell {e : TypeId} {g : Nat} {w w1 : World} (h : BKept e g w w1) (k : Nat) (v : Value) : BKept e g w (w1.setCell ⟨g, k, none⟩ v) := fun i hi hg hc => by
 rw [← h i hi hg hc]
 unfold World.setCell
 simp [Array.getElem?_modify, Ne.symm hg]
theorem BKept.grown {e : TypeId} {g : Nat} {w w1 : World} {base n : Nat} {v : Value} {xs : List Value} (ho : w.ownsRow base e 1 v n xs) (hg : w.grownBy w1 v.ownBlock) : BKept e g w w1 := fun i hi _ hc => by
 refine hg.block i hi (fun he => ?_)
 obtain ⟨cells, hcs⟩ := own_typed ho i he.symm
 exact hc cells hcs
theorem BKept.alloc {e : TypeId} {g : Nat} (w : World) (o : Obj) : BKept e g w (w.alloc o) := fun i hi _ _ => my_alloc_old w o i hi
theorem bi_size : (Tryz.prog.info? 129).map (·.size) = some 2 := by kernel_rfl
theorem bi_lies : liesAt Tryz.prog Tryz.prog.depth 129 (2 / Tryz.prog.cellsOf 129) 0 129 1 = true := by kernel_rfl
theorem bi_info : (Tryz.prog.info? 5).map (fun i => (i.zero, i.size, i.bytes)) = some (some (.int .u8 0), 1, 1) := by kernel_rfl
theorem bi_check_used (b : Nat) (w : World) (h0 : w.cell? ⟨b, 0, none⟩ = some (.pointer (some ⟨b, 0, none⟩))) :
  Calls Tryz.prog 94 #[.pointer (some ⟨b, 0, none⟩)] w fun e w' => e = .returned (.tuple #[]) ∧ w' = w := by
 obtain ⟨j, hj, _⟩ := Option.map_eq_some_iff.1 bi_size
 go_enter Tryz.func94, Tryz.ntmps94
 go_wp2
 rw [Lib.run_neq_ptr_same w _ Tryz.underlying127 hj]
 go_wp2
 go_end0
 exact ⟨rfl, rfl⟩
theorem bi_check_fresh (b : Nat) (w : World) (h0 : w.cell? ⟨b, 0, none⟩ = some (.pointer none)) (hsh : w.shape? b = some (129, 2)) (hfz : w.frozen? ⟨b, 0, none⟩ = false) :
  Calls Tryz.prog 94 #[.pointer (some ⟨b, 0, none⟩)] w fun e w' => e = .returned (.tuple #[]) ∧ w' = w.setCell ⟨b, 0, none⟩ (.pointer (some ⟨b, 0, none⟩)) := by
 obtain ⟨j, hj, hjs⟩ := Option.map_eq_some_iff.1 bi_size
 go_enter Tryz.func94, Tryz.ntmps94
 go_wp2
 rw [Lib.run_to_unsafe w ⟨b, 0, none⟩ Tryz.underlying127 Tryz.underlying142 hj (by rw [hjs]; decide) hsh (Nat.zero_lt_succ 1)]
 simp only [Result.andThen]
 rw [Oper.upon_value]
 go_wp2
 rw [run_callFunc_extern Tryz.func99 (by kernel_rfl) (by kernel_rfl) (by kernel_rfl) (e := Extern.AbiNoEscape.same) (by kernel_rfl)]
 rw [Lib.run_noEscape]
 simp only [Result.andThen]
 rw [Oper.upon_value]
 go_wp2
 rw [Lib.run_from_unsafe w ⟨b, 0, none⟩ Tryz.underlying142 Tryz.underlying127 hj hsh bi_lies]
 simp only [Result.andThen]
 rw [Oper.upon_value]
 go_wp2
 go_end0
 exact ⟨rfl, rfl⟩
theorem bi_check (B b : Nat) (bs : List Value) (w : World) (h : Lib.IsBuilder 129 5 B b bs w) :
  Calls Tryz.prog 94 #[.pointer (some ⟨b, 0, none⟩)] w fun e w' => e = .returned (.tuple #[]) ∧ Lib.BuilderAt 129 5 B b (.pointer (some ⟨b, 0, none⟩)) bs w' ∧ Below B w w' ∧ BKept 5 b w w' := by
 rcases h with h | h
 ·refine (bi_check_fresh b w h.cell0 h.shape h.frozen0).mono ?_
  rintro e w' ⟨rfl, rfl⟩
  exact ⟨rfl, h.used _, (Below.refl B w).setCell (p := ⟨b, 0, none⟩) h.1 _, (BKept.refl _ _ _).setCell _ _⟩
 ·refine (bi_check_used b w h.cell0).mono ?_
  rintro e w' ⟨rfl, rfl⟩
  exact ⟨rfl, h, Below.refl B _, BKept.refl _ _ _⟩
theorem bi_str (B b : Nat) (bs : List Value) (s : ByteArray) (w : World) (h : Lib.IsBuilder 129 5 B b bs w) (hlen : bs.length + s.size ≤ 140737488355328) (hBw : B ≤ w.heap.size) :
  Calls Tryz.prog 87 #[.pointer (some ⟨b, 0, none⟩), .string s] w fun e w' => e = .returned (.tuple #[.int .i64 s.size, .nilIface]) ∧ Lib.IsBuilder 129 5 B b (bs ++ Lib.strCells s) w' ∧ Below B w w' ∧ BKept 5 b w w' := by
 obtain ⟨i0, hi, hz0, hz1, hz2⟩ := info_parts bi_info
 have e240 : ∀ args w, (callFunc 94 args).run Tryz.prog w = .ok (.enter 94 args) w := enters_of Tryz.func94 (by kernel_rfl) rfl
 go_enter Tryz.func87, Tryz.ntmps87
 go_wp2_with (go_at_call 94; refine (bi_check B b bs _ h).mono ?_)
 rintro e w1 ⟨rfl, h1, hb1, hk1⟩
 obtain ⟨hB, v, hbk, hown, hne⟩ := h1
 have c0 : w1.cell? ⟨b, 0, none⟩ = some (.pointer (some ⟨b, 0, none⟩)) := by rw [Lib.cell_of_heap hbk]; rfl
 have c1 : w1.cell? ⟨b, 1, none⟩ = some v := by rw [Lib.cell_of_heap hbk]; rfl
 replace hk1 := As_ hk1
 go_wp2_with (at_builtin; refine Lib.wpList_append_own_string _ rfl _ _ 108 9 rfl B 5 i0 Tryz.underlying108 Tryz.underlying9 hi hz0 hz1 hz2 _ _ _ rfl hown s rfl ?c3 ?c4 ?c5 ?_)
 case c3 => unfold maxLen; omega
 case c4 => omega
 case c5 => have := hb1.size; omega
 intro v' w2 hown' hgrow _
 have hlt : b < w1.heap.size := (Array.getElem?_eq_some_iff.1 hbk).1
 have hb2 : w2.heap[b]? = some (.cells #[.pointer (some ⟨b, 0, none⟩), v] 129 (0, 0)) := by
  rw [hgrow.block b hlt (fun e => hne e.symm)]
  exact hbk
 have d0 : w2.cell? ⟨b, 0, none⟩ = some (.pointer (some ⟨b, 0, none⟩)) := by rw [Lib.cell_of_heap hb2]; rfl
 have d1 : w2.cell? ⟨b, 1, none⟩ = some v := by rw [Lib.cell_of_heap hb2]; rfl
 have f1 : w2.frozen? ⟨b, 1, none⟩ = false := Lib.frozen_of_heap hb2 1
 have hkk := As_ ((hk1.out.trans (BKept.grown (g := b) hown hgrow) hb1.size).setCell 1 v')
 obtain ⟨ao, n', cap, rfl⟩ : ∃ ao n' cap, v' = .slice ao n' cap := by
  rcases hown'.2 with ⟨hv, _⟩ | ⟨g, cap, cur, hv, _⟩
  ·exact ⟨_, _, _, hv⟩
  ·exact ⟨_, _, _, hv⟩
 go_wp2
 go_ret2
 refine ⟨rfl, .inr ?_, ?_, hkk.out⟩
 ·exact Lib.BuilderAt.put (T := 129) (e := 5) hB hb2 (bs' := bs ++ Lib.strCells s) (by simpa [Lib.strCells_length] using hown') (by decide)
 ·exact (hb1.grown hgrow (by have := hb1.size; omega) (fun k hk => (hown.lt k hk).1)).setCell (p := ⟨b, 1, none⟩) hB _
theorem byteCells_app (l m : List UInt8) : Lib.byteCells (l ++ m) = Lib.byteCells l ++ Lib.byteCells m := by simp [Lib.byteCells]
theorem strCells_app (l : List UInt8) (s : ByteArray) : Lib.byteCells l ++ Lib.strCells s = Lib.byteCells (l ++ s.toList) := by rw [Lib.strCells_eq, byteCells_app, ByteArray.toList_eq]
theorem bi_strU (B b : Nat) (l : List UInt8) (s : ByteArray) (w : World) (h : Lib.IsBuilder 129 5 B b (Lib.byteCells l) w) (hlen : l.length + s.size ≤ 140737488355328) (hBw : B ≤ w.heap.size) :
  Calls Tryz.prog 87 #[.pointer (some ⟨b, 0, none⟩), .string s] w fun e w' => e = .returned (.tuple #[.int .i64 s.size, .nilIface]) ∧ Lib.IsBuilder 129 5 B b (Lib.byteCells (l ++ s.toList)) w' ∧ Below B w w' ∧ BKept 5 b w w' := by
 rw [← strCells_app]
 exact bi_str B b _ s w h (by rw [Lib.byteCells_length]; exact hlen) hBw
def repl1 (c : UInt8) (new : List UInt8) (l : List UInt8) : List UInt8 := l.flatMap fun x => if x = c then new else [x]
theorem repl1_no {c : UInt8} {new : List UInt8} : ∀ {l : List UInt8}, c ∉ l → repl1 c new l = l
 | [], _ => rfl
 | x :: t, h => by
  simp only [List.mem_cons, not_or] at h
  have ih := repl1_no (new := new) h.2
  unfold repl1 at ih ⊢
  rw [List.flatMap_cons, if_neg (fun e => h.1 e.symm), ih]; rfl
theorem repl1_at {c : UInt8} {new : List UInt8} (a b : List UInt8) (h : c ∉ a) : repl1 c new (a ++ c :: b) = a ++ (new ++ repl1 c new b) := by
 have h1 := repl1_no (new := new) h
 unfold repl1 at h1 ⊢
 rw [List.flatMap_append, h1, List.flatMap_cons, if_pos rfl]
theorem first_at (c : UInt8) : ∀ (l : List UInt8), 0 < l.count c → ∃ a b, l = a ++ c :: b ∧ c ∉ a ∧ Lib.indexByte l c = (a.length : Int)
 | [], h => by simp at h
 | x :: t, h => by
  by_cases hx : x = c
  ·exact ⟨[], t, by rw [hx]; rfl, by simp, by unfold Lib.indexByte; rw [if_pos (by simp [hx])]; rfl⟩
  ·rw [List.count_cons_of_ne (fun e => hx e)] at h
   obtain ⟨a, b, h1, h2, h3⟩ := first_at c t h
   refine ⟨x :: a, b, by rw [h1]; rfl, by simp only [List.mem_cons, not_or]; exact ⟨fun e => hx e.symm, h2⟩, ?_⟩
   unfold Lib.indexByte
   rw [if_neg (by simpa using hx), h3, if_neg (by simp), List.length_cons]
   omega
theorem strings_Replace1 (s old new : ByteArray) (c : UInt8) (w : World) (hs : s.size ≤ 100000000) (hold : old = (⟨#[c]⟩ : ByteArray)) (hnew : new.size = 2) :
  Calls Tryz.prog 79 #[.string s, .string old, .string new, .int .i64 (-1)] w fun e w' => e = .returned (.string (ofL (repl1 c new.toList s.toList))) ∧ Below w.heap.size w w' := by
 have hC : Calls Tryz.prog 84 #[.string s, .string old] w fun e w' => e = .returned (.int .i64 ((s.toList.count c : Nat) : Int)) ∧ w' = w := by
  rw [hold, ByteArray.toList_eq]
  exact Tryz.strings_Count_one s c w
 have hI : ∀ (x : ByteArray) (W : World), Calls Tryz.prog 86 #[.string x, .string old] W fun e w' => e = .returned (.int .i64 (Lib.indexByte x.toList c)) ∧ w' = W := by
  intro x W
  rw [hold, ByteArray.toList_eq]
  exact Tryz.strings_Index_one x c W
 have ho1 : old.size = 1 := by rw [hold]; rfl
 have hbeq : (old.toList == new.toList) = false := by
  apply beq_eq_false_iff_ne.2
  intro e
  have h1 := congrArg List.length e
  rw [← ba_size, ← ba_size] at h1
  omega
 have hcs : s.toList.count c ≤ s.size := by rw [ba_size]; exact List.count_le_length
 have ho0 : (0 : Int) < (old.size : Int) := by omega
 have hod : decide (0 < old.size) = true := decide_eq_true (by omega)
 by_cases hz : s.toList.count c = 0
 ·have hr : repl1 c new.toList s.toList = s.toList := repl1_no (List.count_eq_zero.1 hz)
  rw [hr, ofL_of]
  rw [hz] at hC
  replace hC := As_ hC
  clear hI hr hnew hz hcs hold ho1
  go_enter Tryz.func79, Tryz.ntmps79
  go_wp2_with fail
  refine hC.out.mono ?_
  rintro e w' ⟨rfl, rfl⟩
  go_wp2
  go_ret
  exact ⟨rfl, by repeat (first | exact Below.refl _ _ | apply pw_below_drewN)⟩
 ·obtain ⟨K, hK⟩ : ∃ K : Nat, s.toList.count c = K := ⟨_, rfl⟩
  rw [hK] at hC hz hcs
  have hcz : ((K : Int) == 0) = false := beq_eq_false_iff_ne.2 (by omega)
  have hga := Lib.grow_arg s.size K new.size old.size (by omega) (by rw [ho1]; omega) (by rw [hnew]; omega)
  have hgn : s.size + K * new.size - K * old.size ≤ 281474976710656 := by rw [hnew, ho1]; omega
  replace hC := As_ hC
  replace hI := As_ hI
  replace ho1 := As_ ho1
  replace hnew := As_ hnew
  replace hgn := As_ hgn
  replace hK := As_ hK
  replace hold := As_ hold
  go_enter Tryz.func79, Tryz.ntmps79
  go_wp2_with fail
  refine hC.out.mono ?_
  rintro e w' ⟨rfl, rfl⟩
  go_wp2_with fail
  try rw [hga]
  refine (Tryz.Builder_Grow_fresh w'.heap.size w'.heap.size _ _ (Nat.le_refl _) (my_alloc_new w' _) (by simp) hgn.out).mono ?_
  rintro e w1 ⟨rfl, hb0, hb1⟩
  have H1 := As_ (Or.inr hb0 : Lib.IsBuilder 129 5 w'.heap.size w'.heap.size (Lib.byteCells []) w1)
  have Hb1 := As_ (((Below.refl w'.heap.size w').alloc (Nat.le_refl _) _).trans hb1)
  clear hb0 hb1 hga hC
  go_wp2_with fail
  go_loopg [11, 53] K (fun g s11 s53 wx => ∃ (i start : Nat) (acc : List UInt8), s53 = .int .i64 i ∧ s11 = .int .i64 start ∧ i + g = K ∧ start ≤ s.size ∧ Aside0 (Lib.IsBuilder 129 5 w'.heap.size w'.heap.size (Lib.byteCells acc) wx) ∧ Aside0 (Below w'.heap.size w' wx) ∧ Aside0 (acc ++ repl1 c new.toList (s.toList.drop start) = repl1 c new.toList s.toList) ∧ Aside0 (g = (s.toList.drop start).count c) ∧ Aside0 (acc.length ≤ 2 * start))
  case atStart => exact ⟨0, 0, [], rfl, rfl, by omega, Nat.zero_le _, H1, Hb1, ⟨by simp⟩, ⟨by rw [List.drop_zero, hK.out]⟩, ⟨by simp⟩⟩
  case round =>
   clear H1 Hb1
   obtain ⟨i, start, acc, rfl, rfl, hig, hst, HB, HW, HR, hgc, hbd⟩ := hrel
   have hBw := As_ HW.out.size
   have c1 : (0 : Int) ≤ (start : Int) := by omega
   have c2 : (start : Int) ≤ (s.size : Int) := by omega
   have hsl : s.toList.length = s.size := (ba_size s).symm
   cases gk with
   | zero =>
    have hiK : ¬ ((i : Int) < (K : Int)) := by omega
    have hno : repl1 c new.toList (s.toList.drop start) = s.toList.drop start := repl1_no (List.count_eq_zero.1 hgc.out.symm)
    have hfin := As_ (HR.out.symm.trans (by rw [hno]))
    have hex : (s.extract start s.size).toList = s.toList.drop start := by rw [ba_extract, ← hsl, List.take_length]
    replace hex := As_ hex
    clear hno
    go_wp2_with fail
    refine (bi_strU w'.heap.size w'.heap.size _ (s.extract start s.size) wr HB.out (by have := hbd.out; rw [ByteArray.size_extract]; omega) hBw.out).mono ?_
    rintro e w3 ⟨rfl, h3, hb3, hk3⟩
    rw [hex.out, ← hfin.out] at h3
    have H3 := As_ h3
    have Hb3 := As_ (HW.out.trans hb3)
    clear h3 hb3 hk3
    go_wp2_with fail
    refine (Tryz.Builder_String_any w'.heap.size w'.heap.size _ w3 H3.out Hb3.out.size).mono ?_
    rintro e w5 ⟨rfl, hb5⟩
    have Hb5 := As_ (Hb3.out.trans hb5)
    clear hb5
    go_wp2
    go_ret
    exact ⟨rfl, Hb5.out⟩
   | succ g =>
    have hiK : (i : Int) < (K : Int) := by omega
    obtain ⟨a, b, hd, ha, hj⟩ := first_at c (s.toList.drop start) (by rw [← hgc.out]; omega)
    have hdl : (s.toList.drop start).length = a.length + (b.length + 1) := by rw [hd, List.length_append, List.length_cons]
    rw [List.length_drop, hsl] at hdl
    have c3 : (start : Int) ≤ (start : Int) + (a.length : Int) := by omega
    have c4 : (start : Int) + (a.length : Int) ≤ (s.size : Int) := by omega
    have hext : (s.extract start (start + a.length)).toList = a := by
     rw [ba_extract, List.drop_take, hd, Nat.add_sub_cancel_left]
     exact List.take_left
    have hb' : b = s.toList.drop (start + a.length + 1) := by
     rw [show start + a.length + 1 = start + (a.length + 1) by omega, ← List.drop_drop, hd]
     simp
    have hjx : Lib.indexByte (s.extract start s.size).toList c = (a.length : Int) := by rw [ba_extract, ← hsl, List.take_length]; exact hj
    have hrep : Aside0 ((acc ++ a ++ new.toList) ++ repl1 c new.toList (s.toList.drop (start + a.length + 1)) = repl1 c new.toList s.toList) := ⟨by rw [← HR.out, hd, repl1_at a b ha, ← hb']; simp only [List.append_assoc]⟩
    have hcnt : Aside0 (g = (s.toList.drop (start + a.length + 1)).count c) := ⟨by
     have h := hgc.out
     rw [hd, List.count_append, List.count_eq_zero.2 ha, List.count_cons_self, ← hb'] at *
     omega⟩
    replace hext := As_ hext
    replace hjx := As_ hjx
    clear hd ha hj hb' HR hgc
    go_wp2_with fail
    refine (hI.out (s.extract start s.size) _).mono ?_
    rintro e w6 ⟨rfl, rfl⟩
    rw [hjx.out]
    go_wp2_with fail
    refine (bi_strU w'.heap.size w'.heap.size _ (s.extract start (start + a.length)) _ HB.out (by have := hbd.out; rw [ByteArray.size_extract]; omega) hBw.out).mono ?_
    rintro e w3 ⟨rfl, h3, hb3, hk3⟩
    rw [hext.out] at h3
    have H3 := As_ h3
    have Hb3 := As_ (HW.out.trans hb3)
    clear h3 hb3 hk3
    go_wp2_with fail
    refine (bi_strU w'.heap.size w'.heap.size _ new w3 H3.out (by have := hbd.out; have := hnew.out; rw [List.length_append]; omega) Hb3.out.size).mono ?_
    rintro e w4 ⟨rfl, h4, hb4, hk4⟩
    have H4 := As_ h4
    have Hb4 := As_ (Hb3.out.trans hb4)
    clear h4 hb4 hk4
    go_wp2
    go_roundg g
    case measure => omega
    case rel => exact ⟨i + 1, start + a.length + 1, acc ++ a ++ new.toList, by first | rfl | (simp; unfold wrap64; omega), by have := ho1.out; first | rfl | (simp; done) | (simp; rw [w64 (by omega) (by omega)]; omega), by omega, by omega, H4, Hb4, hrep, hcnt, ⟨by have h1 := hbd.out; have h2 := hnew.out; rw [ba_size] at h2; rw [List.length_append, List.length_append]; omega⟩⟩
def strings_ReplaceAll.f (a0 a1 a2 : ByteArray) : Option ByteArray := match a1.toList with
 | [c] => if a0.size ≤ 100000000 ∧ a2.size = 2 then some (ofL (repl1 c a2.toList a0.toList)) else none
 | _ => none
theorem strings_ReplaceAll.calls (a0 a1 a2 : ByteArray) (r : ByteArray) (w : World) (h : strings_ReplaceAll.f a0 a1 a2 = some r) :
  Calls Tryz.prog 66 #[.string a0, .string a1, .string a2] w fun e w' => e = .returned (.string r) ∧ Below w.heap.size w w' := by
 unfold strings_ReplaceAll.f at h
 split at h
 case h_2 => exact absurd h (by simp)
 case h_1 c hc =>
  by_cases hh : a0.size ≤ 100000000 ∧ a2.size = 2
  case neg => rw [if_neg hh] at h; exact absurd h (by simp)
  rw [if_pos hh] at h
  obtain rfl := Option.some.inj h
  have hold : a1 = (⟨#[c]⟩ : ByteArray) := ba_ext (by rw [hc, ByteArray.toList_eq])
  have R := As_ (fun W => strings_Replace1 a0 a1 a2 c W hh.1 hold hh.2)
  clear h hh hold hc
  go_enter Tryz.func66, Tryz.ntmps66
  go_wp2_with fail
  refine (R.out _).mono ?_
  rintro e w' ⟨rfl, hb⟩
  go_wp2
  go_ret
  exact ⟨rfl, hb⟩
def path_hidden.f (a0 : ByteArray) : Option (ByteArray) := (strings_ReplaceAll.f a0 (⟨#[37]⟩ : ByteArray) (⟨#[37, 112]⟩ : ByteArray)).bind fun t110 => ((strings_ReplaceAll.f t110 (⟨#[47]⟩ : ByteArray) (⟨#[37, 115]⟩ : ByteArray)).bind fun t111 => (some t111))
theorem path_hidden.calls (a0 : ByteArray) (r : ByteArray) (w : World) (h : path_hidden.f a0 = some r) :
  Calls Tryz.prog 47 #[.string a0] w fun e w' => e = .returned (.string r) ∧ Below w.heap.size w w' := by
 have HB := As_ (Below.refl w.heap.size w)
 have H : ((strings_ReplaceAll.f a0 (⟨#[37]⟩ : ByteArray) (⟨#[37, 112]⟩ : ByteArray)).bind fun t110 => ((strings_ReplaceAll.f t110 (⟨#[47]⟩ : ByteArray) (⟨#[37, 115]⟩ : ByteArray)).bind fun t111 => (some t111))) = some r := h
 clear h
 replace H := Option.bind_eq_some_iff.mp H
 obtain ⟨t110, A20, H⟩ := H
 try dsimp only at H
 have A2 := As_ A20
 clear A20
 replace H := Option.bind_eq_some_iff.mp H
 obtain ⟨t111, A30, H⟩ := H
 try dsimp only at H
 have A3 := As_ A30
 clear A30
 obtain rfl := Option.some.inj H
 go_enter Tryz.func47, Tryz.ntmps47
 go_wp2_with (first | ((with_reducible refine gate_callee (f := 66) rfl ?_); refine gk_ (some 4) Tryz.func66 #[.string a0, .string ⟨#[37]⟩, .string ⟨#[37, 112]⟩] ?_; (with_reducible refine (strings_ReplaceAll.calls a0 (⟨#[37]⟩ : ByteArray) (⟨#[37, 112]⟩ : ByteArray) t110 _ A2.out).mono ?_); rintro e w4 ⟨rfl, hb⟩; refine ⟨_, rfl, ?_⟩; replace HB := As_ (below_step ap28_ hb); (try clear hb); (try clear hb2); (try clear hk); (try clear hi)) | ((with_reducible refine gate_callee (f := 66) rfl ?_); refine gk_ (some 5) Tryz.func66 #[.string t110, .string ⟨#[47]⟩, .string ⟨#[37, 115]⟩] ?_; (with_reducible refine (strings_ReplaceAll.calls t110 (⟨#[47]⟩ : ByteArray) (⟨#[37, 115]⟩ : ByteArray) t111 _ A3.out).mono ?_); rintro e w5 ⟨rfl, hb⟩; refine ⟨_, rfl, ?_⟩; replace HB := As_ (below_step ap28_ hb); (try clear hb); (try clear hb2); (try clear hk); (try clear hi)))
 go_ret
 exact ⟨ap14_, ap28_⟩
def path_Join.l0 : Nat → ByteArray → List ByteArray → Int → Int → Option (ByteArray)
 | 0, _, _, _, _ => none
 | k + 1, x5, x10, x11, x12 => if x12 < x11 then (if 0 ≤ x12 then (if x12 < (x10.length : Int) then ((path_hidden.f (rdOf ByteArray.empty x10 x12)).bind fun t114 => (if 1 + t114.size ≤ 9223372036854775807 then (if x5.size + ((⟨#[47]⟩ : ByteArray) ++ t114).size ≤ 9223372036854775807 then (path_Join.l0 k (x5 ++ ((⟨#[47]⟩ : ByteArray) ++ t114)) x10 x11 (wrap64 (x12 + 1))) else (none)) else (none))) else (none)) else (none)) else (some x5)
def path_Join.f (k : Nat) (a0 : ByteArray) (l1 : List ByteArray) : Option (ByteArray) := (path_hidden.f a0).bind fun t112 => (path_Join.l0 k t112 l1 (l1.length : Int) 0)
theorem path_Join.mono_l : ∀ k, (∀ y0 y1 y2 y3, LeO (path_Join.l0 k y0 y1 y2 y3) (path_Join.l0 (k + 1) y0 y1 y2 y3))
 | 0 => fun _ _ _ _ r h => by simp [path_Join.l0] at h
 | k + 1 => by
  have ih0 := path_Join.mono_l k
  ·intro y0 y1 y2 y3
   unfold path_Join.l0
   repeat' first
   | (with_reducible exact ih0 _ _ _ _)
   | (with_reducible exact LeO.refl _)
   | (with_reducible exact LeO.none _)
   | (with_reducible refine LeO.ite ?_ ?_)
   | (with_reducible refine LeO.bind ?_ (fun _ => ?_))
   | exact ih0 _ _ _ _
   | exact LeO.none _
   | refine LeO.ite ?_ ?_
   | refine LeO.bind ?_ (fun _ => ?_)
theorem path_Join.mono : ∀ a0 a1 k, LeO (path_Join.f k a0 a1) (path_Join.f (k + 1) a0 a1) := by
 intro a0 a1 k
 have ih0 := path_Join.mono_l k
 unfold path_Join.f
 repeat' first
   | (with_reducible exact ih0 _ _ _ _)
   | (with_reducible exact LeO.refl _)
   | (with_reducible exact LeO.none _)
   | (with_reducible refine LeO.ite ?_ ?_)
   | (with_reducible refine LeO.bind ?_ (fun _ => ?_))
   | exact ih0 _ _ _ _
   | exact LeO.none _
   | refine LeO.ite ?_ ?_
   | refine LeO.bind ?_ (fun _ => ?_)
theorem path_Join.calls (k : Nat) (a0 : ByteArray) (A1 : Option Addr) (c1 : Nat) (l1 : List ByteArray) (r : ByteArray) (w : World) (hr1 : Kd.C Kd.string w A1 l1.length l1) (hc1 : l1.length ≤ c1) (h : path_Join.f k a0 l1 = some r) :
  Calls Tryz.prog 25 #[.string a0, .slice A1 l1.length c1] w fun e w' => e = .returned (.string r) ∧ Below w.heap.size w w' := by
 have HR1 := As_ hr1
 have HC1 := As_ hc1
 clear hr1 hc1
 have HB := As_ (Below.refl w.heap.size w)
 have H : ((path_hidden.f a0).bind fun t112 => (path_Join.l0 k t112 l1 (l1.length : Int) 0)) = some r := h
 clear h
 replace H := Option.bind_eq_some_iff.mp H
 obtain ⟨t112, A30, H⟩ := H
 try dsimp only at H
 have A3 := As_ A30
 clear A30
 have H' := As_ H
 clear H
 go_enter Tryz.func25, Tryz.ntmps25
 go_wp2_with (first | ((with_reducible refine gate_callee (f := 47) rfl ?_); refine gk_ (some 9) Tryz.func47 #[.string a0] ?_; (with_reducible refine (path_hidden.calls a0 t112 _ A3.out).mono ?_); rintro e w4 ⟨rfl, hb⟩; refine ⟨_, rfl, ?_⟩; replace HB := As_ (below_step ap28_ hb); (try clear hb); (try clear hb2); (try clear hk); (try clear hi)))
 go_loopg [5, 12] k (fun kq v5 v12 w' => ∃ (x5_1 : ByteArray) (x12_1 : Int), v5 = .string x5_1 ∧ v12 = .int .i64 x12_1 ∧ Aside0 (path_Join.l0 kq x5_1 l1 (l1.length : Int) x12_1 = some r) ∧ Aside0 (kq ≤ k) ∧ Aside0 (Below w.heap.size w w'))
 case atStart => exact ⟨(t112), (0), ap4_, ap4_, H', ⟨Nat.le_refl _⟩, ⟨ap28_⟩⟩
 case round =>
  clear H'
  try clear c1
  obtain ⟨x5_1, x12_1, rfl, rfl, HA, HK1, HB⟩ := hrel
  cases gk with
  | zero => exact absurd HA.out (by simp [path_Join.l0])
  | succ k1 =>
   have H := HA.out
   clear HA
   simp only [path_Join.l0] at H
   by_cases c5 : x12_1 < (l1.length : Int)
   ·rw [if_pos c5] at H
    have c5b0 : decide (x12_1 < (l1.length : Int)) = true := decide_eq_true c5
    clear c5
    by_cases c6 : 0 ≤ x12_1
    ·rw [if_pos c6] at H
     have c6b0 : decide (0 ≤ x12_1) = true := decide_eq_true c6
     clear c6
     by_cases c7 : x12_1 < (l1.length : Int)
     ·rw [if_pos c7] at H
      have c7b0 : decide (x12_1 < (l1.length : Int)) = true := decide_eq_true c7
      clear c7
      replace H := Option.bind_eq_some_iff.mp H
      obtain ⟨t114, A80, H⟩ := H
      try dsimp only at H
      have A8 := As_ A80
      clear A80
      by_cases c9 : 1 + t114.size ≤ 9223372036854775807
      ·rw [if_pos c9] at H
       have c9b0 := eq_true c9
       have c9b1 : decide (1 + t114.size ≤ 9223372036854775807) = true := decide_eq_true c9
       try have c9b2 : (9223372036854775807 < 1 + t114.size) = False := eq_false (Nat.not_lt.2 c9)
       by_cases c10 : x5_1.size + ((⟨#[47]⟩ : ByteArray) ++ t114).size ≤ 9223372036854775807
       ·rw [if_pos c10] at H
        have c10b0 := eq_true c10
        have c10b1 : decide (x5_1.size + ((⟨#[47]⟩ : ByteArray) ++ t114).size ≤ 9223372036854775807) = true := decide_eq_true c10
        try have c10b2 : (9223372036854775807 < x5_1.size + ((⟨#[47]⟩ : ByteArray) ++ t114).size) = False := eq_false (Nat.not_lt.2 c10)
        try (have c10b2_ := c10b2; simp only [ByteArray.size_append, my_lit_size, List.length_cons, List.length_nil, Nat.reduceAdd] at c10b2_)
        have H' := As_ H
        clear H
        have p113 : 0 ≤ (x12_1 : Int) := of_decide_eq_true ap5_
        have q113 : x12_1 < (l1.length : Int) := of_decide_eq_true ap5_
        obtain ⟨ad113, e113, hx113_0⟩ := Kd.at_string HR1.out x12_1 p113 q113
        cases e113
        replace hx113_0 := (HB.out.cell (World.block_lt_of_cell? w _ hx113_0)).trans hx113_0
        replace p113 := eq_true p113
        replace q113 := eq_true q113
        go_wp2_with (first | ((with_reducible refine gate_callee (f := 47) rfl ?_); refine gk_ (some 18) Tryz.func47 #[.string (rdOf ByteArray.empty l1 x12_1)] ?_; (with_reducible refine (path_hidden.calls (rdOf ByteArray.empty l1 x12_1) t114 _ A8.out).mono ?_); rintro e w11 ⟨rfl, hb⟩; refine ⟨_, rfl, ?_⟩; replace HB := As_ (below_step ap28_ hb); (try clear hb); (try clear hb2); (try clear hk); (try clear hi)))
        go_roundg k1
        case measure => have := HK1.out; omega
        case rel => exact ⟨(x5_1 ++ ((⟨#[47]⟩ : ByteArray) ++ t114)), (wrap64 (x12_1 + 1)), ap4_, ap4_, H', ⟨by have := HK1.out; omega⟩, ⟨ap28_⟩⟩
       ·rw [if_neg c10] at H
        exact absurd H (by simp)
      ·rw [if_neg c9] at H
       exact absurd H (by simp)
     ·rw [if_neg c7] at H
      exact absurd H (by simp)
    ·rw [if_neg c6] at H
     exact absurd H (by simp)
   ·rw [if_neg c5] at H
    have c5b0 : decide (x12_1 < (l1.length : Int)) = false := decide_eq_false c5
    clear c5
    obtain rfl := Option.some.inj H
    go_wp2
    go_ret
    exact ⟨ap14_, ap28_⟩
def IsS96 (w0 W : World) (g : Nat) (f0 : ByteArray) (f1 : Int) : Prop := W.heap[g]? = some (.cells #[.string f0, .int .i64 f1] 96 (0, 0)) ∧ w0.heap.size ≤ g
theorem IsS96.grown {w0 W : World} {g : Nat} {f0 : ByteArray} {f1 : Int} {W1 : World} {row : Option Nat} (h : IsS96 w0 W g f0 f1) (hw : W.grownBy W1 row) (hne : some g ≠ row) : IsS96 w0 W1 g f0 f1 := by
 obtain ⟨hb, hg⟩ := h
 exact ⟨blk_grown hb hw hne, hg⟩
theorem IsS96.kept {w0 W : World} {g : Nat} {f0 : ByteArray} {f1 : Int} {W1 : World} {S : Nat → Prop} (h : IsS96 w0 W g f0 f1) (hk : Kept W W1 S) (hne : ¬ S g) : IsS96 w0 W1 g f0 f1 := by
 obtain ⟨hb, hg⟩ := h
 exact ⟨blk_kept hb hk hne, hg⟩
theorem IsS96.below {w0 W : World} {g : Nat} {f0 : ByteArray} {f1 : Int} {W1 : World} (h : IsS96 w0 W g f0 f1) (hw : Below W.heap.size W W1) : IsS96 w0 W1 g f0 f1 := h.grown (grown_of_below hw none) (by simp)
theorem IsS96.alloc {w0 W : World} {g : Nat} {f0 : ByteArray} {f1 : Int} (h : IsS96 w0 W g f0 f1) (o : Obj) : IsS96 w0 (W.alloc o) g f0 f1 := h.below (below_alloc (Below.refl _ _) o)
theorem IsS96.drewN {w0 W : World} {g : Nat} {f0 : ByteArray} {f1 : Int} (h : IsS96 w0 W g f0 f1) (m : Nat) : IsS96 w0 (W.drewN m) g f0 f1 := h
theorem IsS96.drew {w0 W : World} {g : Nat} {f0 : ByteArray} {f1 : Int} (h : IsS96 w0 W g f0 f1) : IsS96 w0 W.drew g f0 f1 := h
theorem IsS96.at_ {w0 W : World} {g : Nat} {f0 : ByteArray} {f1 : Int} {w' : World} {m : Nat} (hq : W.drewN m = w') (h : IsS96 w0 W g f0 f1) : IsS96 w0 w' g f0 f1 := by subst hq; exact IsS96.drewN h m
theorem IsS96.own_ne {w0 W : World} {g : Nat} {f0 : ByteArray} {f1 : Int} {α : Type} {d : Kd α} {e : Nat} {base : Nat} {ok : Nat → Prop} {v : Value} {xs : List α} (h : IsS96 w0 W g f0 f1) (ho : d.R e W base ok v xs) (ht : e ≠ 96) : some g ≠ v.ownBlock := by
 obtain ⟨hb, hg⟩ := h
 exact Kd.R_ne ho hb ht
theorem IsS96.lt {w0 W : World} {g : Nat} {f0 : ByteArray} {f1 : Int} (h : IsS96 w0 W g f0 f1) : g < W.heap.size := by
 obtain ⟨hb, hg⟩ := h
 exact blk_lt hb
theorem IsS96.ge {w0 W : World} {g : Nat} {f0 : ByteArray} {f1 : Int} (h : IsS96 w0 W g f0 f1) : w0.heap.size ≤ g := by
 obtain ⟨hb, hg⟩ := h
 exact hg
theorem IsS96.ne_blk {w0 W : World} {g : Nat} {f0 : ByteArray} {f1 : Int} {a : Nat} {cs : Array Value} {t : TypeId} {fr : Nat × Nat} (h : IsS96 w0 W g f0 f1) (hb2 : W.heap[a]? = some (.cells cs t fr)) (ht : t ≠ 96) : g ≠ a := by
 obtain ⟨hb, hg⟩ := h
 rintro rfl
 rw [hb] at hb2
 injection hb2 with hb2
 injection hb2 with _ ht2
 exact ht ht2.symm
theorem IsS96.far {w0 W : World} {g : Nat} {f0 : ByteArray} {f1 : Int} {p : Addr} (h : IsS96 w0 W g f0 f1) (hne : g ≠ p.block) (u : Value) : IsS96 w0 (W.setCell p u) g f0 f1 := by
 obtain ⟨hb, hg⟩ := h
 exact ⟨blk_far hb hne u, hg⟩
theorem cellS96_0 {W : World} {g : Nat} {f0 : ByteArray} {f1 : Int} (h : W.heap[g]? = some (.cells #[.string f0, .int .i64 f1] 96 (0, 0))) : W.cell? ⟨g, 0, none⟩ = some (.string f0) := (blk_cell h 0).trans rfl
theorem IsS96.set_0 {w0 W : World} {g : Nat} {f0 : ByteArray} {f1 : Int} (h : IsS96 w0 W g f0 f1) (x : ByteArray) : IsS96 w0 (W.setCell ⟨g, 0, none⟩ (.string x)) g x f1 := by
 obtain ⟨hb, hg⟩ := h
 exact ⟨by simpa using blk_set hb 0 (.string x), hg⟩
theorem cellS96_1 {W : World} {g : Nat} {f0 : ByteArray} {f1 : Int} (h : W.heap[g]? = some (.cells #[.string f0, .int .i64 f1] 96 (0, 0))) : W.cell? ⟨g, 1, none⟩ = some (.int .i64 f1) := (blk_cell h 1).trans rfl
theorem IsS96.set_1 {w0 W : World} {g : Nat} {f0 : ByteArray} {f1 : Int} (h : IsS96 w0 W g f0 f1) (x : Int) : IsS96 w0 (W.setCell ⟨g, 1, none⟩ (.int .i64 x)) g f0 x := by
 obtain ⟨hb, hg⟩ := h
 exact ⟨by simpa using blk_set hb 1 (.int .i64 x), hg⟩
theorem IsS96.new (w0 W : World) (f0 : ByteArray) (f1 : Int) (hB : Below w0.heap.size w0 W) : IsS96 w0 (W.alloc (.cells #[.string f0, .int .i64 f1] 96)) W.heap.size f0 f1 := ⟨by simpa using heap_alloc_new W _, hB.size⟩
def wire_New.f (a0 : ByteArray) : Option (ByteArray × Int) := some (a0, 0)
theorem wire_New.calls (a0 : ByteArray) (r1 : ByteArray) (r2 : Int) (w0 w : World) (hB : Below w0.heap.size w0 w) (h : wire_New.f a0 = some (r1, r2)) :
  Calls Tryz.prog 32 #[.string a0] w fun e w' => ∃ g_ : Nat, e = .returned (.pointer (some ⟨g_, 0, none⟩)) ∧ IsS96 w0 w' g_ r1 r2 ∧ Below w0.heap.size w0 w' ∧ Below w.heap.size w w' := by
 have hu96 := Tryz.underlying96
 have HBW := As_ (Below.refl w.heap.size w)
 have HW0 := As_ hB.size
 have HB := As_ hB
 clear hB
 have H : (some (a0, 0)) = some (r1, r2) := h
 clear h
 simp only [Option.some.injEq, Prod.mk.injEq] at H
 obtain ⟨rfl, rfl⟩ := H
 go_enter Tryz.func32, Tryz.ntmps32
 go_wp2_with (first | ((with_reducible refine gate_dst (N := 5) rfl ?_); refine bxE (N := 5) (cs := #[.string a0, .int .i64 0]) (t := 96) ?_; intro gb115 hg w2 hbox hb; replace HB := As_ (below_step ap28_ hb); have BK115 := As_ (hbox); have GW115 := As_ ((by rw [hg]; exact (below_size ap30_) : w.heap.size ≤ gb115)); have GE115 := As_ ((Nat.le_trans HW0.out (by rw [hg]; exact (below_size ap30_) : w.heap.size ≤ gb115) : w0.heap.size ≤ gb115)); replace HBW := As_ (below_step HBW.out hb); clear hb hbox hg))
 go_ret
 exact ⟨_, rfl, (show IsS96 w0 _ gb115 a0 0 from ⟨by (with_reducible repeat (first | refine blk_drewN ?_ _ | refine blk_drew ?_ | refine blk_alloc ?_ _)); exact BK115.out, GE115.out⟩), by repeat (first | (with_reducible first | exact HB.out | apply below_alloc | apply pw_below_drewN | apply below_drew1 | refine below_set ?_ GE115.out) | exact HB.out), by repeat (first | (with_reducible first | exact HBW.out | apply below_alloc | apply pw_below_drewN | apply below_drew1 | refine below_set ?_ GW115.out) | exact HBW.out)⟩
def wire_Reader_stopped.f (s0_0 : ByteArray) (s0_1 : Int) : Option (Bool × ByteArray × Int) := some ((s0_1 != 0), s0_0, s0_1)
theorem wire_Reader_stopped.calls (g : Nat) (s0_0 : ByteArray) (s0_1 : Int) (r1 : Bool) (r2 : ByteArray) (r3 : Int) (w0 w : World) (hI : IsS96 w0 w g s0_0 s0_1) (hB : Below w0.heap.size w0 w) (h : wire_Reader_stopped.f s0_0 s0_1 = some (r1, r2, r3)) :
  Calls Tryz.prog 55 #[.pointer (some ⟨g, 0, none⟩)] w fun e w' => e = .returned (.bool r1) ∧ IsS96 w0 w' g r2 r3 ∧ Below w0.heap.size w0 w' ∧ KeepBut w w' g none := by
 have HI0 := As_ hI
 have HK := As_ (KeepBut.refl w g none)
 have HL := As_ hB.size
 clear hI
 have HW0 := As_ hB.size
 have HB := As_ hB
 clear hB
 have H : (some ((s0_1 != 0), s0_0, s0_1)) = some (r1, r2, r3) := h
 clear h
 simp only [Option.some.injEq, Prod.mk.injEq] at H
 obtain ⟨rfl, rfl, rfl⟩ := H
 obtain ⟨HGz2, hgz2⟩ := HI0.out
 have hcz2_0 := cellS96_0 HGz2
 have hcz2_1 := cellS96_1 HGz2
 have hfz2_0 := blk_frozen HGz2 0
 have hfz2_1 := blk_frozen HGz2 1
 clear HGz2 hgz2
 go_enter Tryz.func55, Tryz.ntmps55
 go_wp2
 go_ret
 exact ⟨ap14_, ap38_, ap39_, ap34_⟩
def nBy (s : ByteArray) : Nat → Nat
 | 0 => 0
 | i + 1 => nBy s i * 256 + (bt s ((i + 1 : Nat) : Int)).toNat
theorem nBy_lt (s : ByteArray) (i : Nat) (h : i ≤ 6) : nBy s i < 281474976710656 := by
 have key : ∀ i, i ≤ 6 → nBy s i < 256 ^ i := by
  intro i
  induction i with
  | zero => intro _; exact Nat.one_pos
  | succ i ih =>
   intro hi
   have h1 := ih (by omega)
   have h2 := (bt_range s ((i + 1 : Nat) : Int)).2
   have h3 : nBy s (i + 1) = nBy s i * 256 + (bt s ((i + 1 : Nat) : Int)).toNat := rfl
   rw [h3, Nat.pow_succ]
   omega
 exact Nat.lt_of_lt_of_le (key i h) (Nat.le_trans (Nat.pow_le_pow_right (by decide) h) (by decide))
theorem or_i64 (n b : Nat) (hn : n < 281474976710656) (hb : b < 256) : bits .or .i64 ((n : Int) * 256) (b : Int) = ((n * 256 + b : Nat) : Int) := by
 have e : n * 256 + b = n * 256 ||| b := by
  have := Nat.shiftLeft_add_eq_or_of_lt (b := b) (i := 8) (by simpa using hb) n
  rw [Nat.shiftLeft_eq] at this
  simpa using this
 have hx : n * 256 ||| b < 9223372036854775808 := by rw [← e]; omega
 have hc : ((n : Int) * 256) = ((n * 256 : Nat) : Int) := by omega
 rw [e, hc]
 show IntKind.i64.wrap ((BitVec.ofInt 64 ((n * 256 : Nat) : Int) ||| BitVec.ofInt 64 (b : Int)).toNat : Int) = _
 rw [BitVec.toNat_or, ofInt_u64 (n * 256) (by omega), ofInt_u64 b (by omega), i64_w]
 unfold wrap64
 omega
def wire_number.f (a0 : ByteArray) : Option (Int × Int × Int) :=
 if a0.size = 0 then some (0, 0, 5)
 else if 7 < bt a0 0 ∨ (0 < bt a0 0 ∧ 1 < a0.size ∧ bt a0 1 = 0) then some (0, 0, 6)
 else if (a0.size : Int) ≤ bt a0 0 then some (0, 0, 5)
 else if 9007199254740992 < nBy a0 (bt a0 0).toNat then some (0, 0, 3)
 else some ((nBy a0 (bt a0 0).toNat : Int), bt a0 0 + 1, 0)
theorem wire_number.calls (a0 : ByteArray) (r1 r2 r3 : Int) (w : World) (h : wire_number.f a0 = some (r1, r2, r3)) :
  Calls Tryz.prog 56 #[.string a0] w fun e w' => e = .returned (.tuple #[.int .i64 r1, .int .i64 r2, .int .i64 r3]) ∧ Drawn0 w w' := by
 unfold wire_number.f at h
 have HD := As_ (Drawn0.refl w)
 by_cases h0 : a0.size = 0
 ·rw [if_pos h0] at h
  simp only [Option.some.injEq, Prod.mk.injEq] at h
  obtain ⟨rfl, rfl, rfl⟩ := h
  have hE : a0 = ⟨#[]⟩ := ByteArray.size_eq_zero_iff.1 h0
  subst hE
  go_enter Tryz.func56, Tryz.ntmps56
  go_wp2
  go_step3
  go_wp2
  rw [Exit.noGoto_ret]
  go_ret3
  exact ⟨rfl, HD.out⟩
 rw [if_neg h0] at h
 have hne : a0.toList.isEmpty = false := by
  rw [List.isEmpty_eq_false_iff]
  intro e
  have h9 := congrArg List.length e
  rw [ByteArray.toList_eq] at h9
  exact h0 h9
 have hpos : 0 < a0.size := by omega
 obtain ⟨kk, hkk⟩ : ∃ kk : Nat, (a0[0]'hpos).toNat = kk := ⟨_, rfl⟩
 have hbk : bt a0 0 = (kk : Int) := by rw [← bt_at a0 0 hpos]; exact congrArg _ hkk
 have hk255 : kk ≤ 255 := by have := (bt_range a0 0).2; omega
 have hwk : IntKind.i64.wrap (kk : Int) = (kk : Int) := by rw [i64_w]; unfold wrap64; omega
 rw [hbk] at h
 by_cases h7 : 7 < kk
 ·rw [if_pos (.inl (by omega))] at h
  simp only [Option.some.injEq, Prod.mk.injEq] at h
  obtain ⟨rfl, rfl, rfl⟩ := h
  go_enter Tryz.func56, Tryz.ntmps56
  go_wp2
  go_step3
  go_wp2
  rw [Exit.noGoto_ret]
  go_ret3
  exact ⟨rfl, HD.out⟩
 by_cases hB : 0 < kk ∧ 1 < a0.size ∧ bt a0 1 = 0
 ·rw [if_pos (.inr (by omega))] at h
  simp only [Option.some.injEq, Prod.mk.injEq] at h
  obtain ⟨rfl, rfl, rfl⟩ := h
  obtain ⟨hB1, hB2, hB3⟩ := hB
  have h1z : (a0[1]'hB2).toNat = 0 := by
   have := bt_at a0 1 hB2
   rw [hB3] at this
   exact Int.ofNat.inj this
  go_enter Tryz.func56, Tryz.ntmps56
  go_wp2
  go_step3
  go_wp2
  rw [Exit.noGoto_ret]
  go_ret3
  exact ⟨rfl, HD.out⟩
 rw [if_neg (by omega)] at h
 have hB' : kk = 0 ∨ a0.size = 1 ∨ ∃ h : 1 < a0.size, ¬ (a0[1]'h).toNat = 0 := by
  by_cases k0 : kk = 0
  ·exact .inl k0
  ·by_cases k1 : a0.size = 1
   ·exact .inr (.inl k1)
   ·refine .inr (.inr ⟨by omega, fun e => hB ⟨by omega, by omega, ?_⟩⟩)
    rw [← bt_at a0 1 (by show 1 < a0.size; omega)]
    exact congrArg (fun n : Nat => (n : Int)) e
 by_cases hC : a0.size ≤ kk
 ·rw [if_pos (by omega)] at h
  simp only [Option.some.injEq, Prod.mk.injEq] at h
  obtain ⟨rfl, rfl, rfl⟩ := h
  rcases hB' with hB' | hB' | ⟨hB2, hB'⟩
  ·omega
  all_goals
   go_enter Tryz.func56, Tryz.ntmps56
   go_wp2
   go_step3
   go_wp2
   all_goals first | (exfalso; omega) | (rw [Exit.noGoto_ret]; go_ret3; exact ⟨rfl, HD.out⟩)
 rw [if_neg (by omega)] at h
 go_enter Tryz.func56, Tryz.ntmps56
 go_wp2
 refine wp_scope_jumps 0 (fun a' w' => w' = w ∧ ∃ (i : Nat) (u8 u9 u10 u11 u12 u13 u14 u15 u16 u17 u18 u19 u20 u21 u22 u23 u24 u25 u26 u27 u28 u29 u30 u31 u32 u33 u34 u35 u36 u37 u38 u39 u40 u41 u42 u43 u44 u45 u46 u47 u48 : Value), a' = { tmps := #[.string a0, undef, .int .i64 0, .int .i64 0, .int .i64 0, .int .i64 kk, .int .i64 (nBy a0 i : Int), .int .i64 ((i : Int) + 1), u8, u9, u10, u11, u12, u13, u14, u15, u16, u17, u18, u19, u20, u21, u22, u23, u24, u25, u26, u27, u28, u29, u30, u31, u32, u33, u34, u35, u36, u37, u38, u39, u40, u41, u42, u43, u44, u45, u46, u47, u48], defers := [] } ∧ i ≤ kk) (fun a' _ => kk + 1 - (intOf (a'.tmps.getD 7 undef)).toNat) rfl ?_ ?_
 ·by_cases k0 : kk = 0
  ·subst k0
   have hn0 : nBy a0 ((0 : Nat) : Int).toNat = 0 := rfl
   rw [hn0, if_neg (by decide)] at h
   simp only [Option.some.injEq, Prod.mk.injEq] at h
   obtain ⟨rfl, rfl, rfl⟩ := h
   go_wp2
   go_step3
   go_wp2
   simp only [Exit.jump]
   go_ret3
   exact ⟨rfl, HD.out⟩
  ·have hi1 : 1 < a0.size := by omega
   have hnz : ¬ (a0[1]'hi1).toNat = 0 := by rcases hB' with hB' | hB' | ⟨hB2, hB'⟩ <;> first | omega | exact hB'
   obtain ⟨bb, hbb⟩ : ∃ bb : Nat, (a0[1]'hi1).toNat = bb := ⟨_, rfl⟩
   rw [hbb] at hnz
   have hbb2 : bb < 256 := by have := (a0[1]'hi1).toNat_lt; omega
   have hn1 : nBy a0 1 = bb := by
    have e1 : nBy a0 1 = 0 * 256 + (bt a0 ((0 + 1 : Nat) : Int)).toNat := rfl
    rw [e1, ← bt_at a0 ((0 + 1 : Nat) : Int) hi1]
    show 0 * 256 + ((((a0[1]'hi1).toNat : Nat) : Int)).toNat = bb
    rw [hbb]; omega
   have hor : bits .or .i64 0 (bb : Int) = (nBy a0 1 : Int) := by
    have := or_i64 0 bb (by decide) hbb2
    rw [hn1]
    simpa using this
   have hwb : IntKind.i64.wrap (bb : Int) = (bb : Int) := by rw [i64_w]; unfold wrap64; omega
   have hkpos : 0 < kk := by omega
   clear hB' hB hn1
   go_wp2
   go_step3
   go_wp2
   go_step3
   exact ⟨rfl, rfl, 1, _, _, _, _, _, _, _, _, _, _, _, _, _, _, _, _, _, _, _, _, _, _, _, _, _, _, _, _, _, _, _, _, _, _, _, _, _, _, _, _, _, rfl, by omega⟩
 ·rintro a' w' ⟨rfl, i, u8, u9, u10, u11, u12, u13, u14, u15, u16, u17, u18, u19, u20, u21, u22, u23, u24, u25, u26, u27, u28, u29, u30, u31, u32, u33, u34, u35, u36, u37, u38, u39, u40, u41, u42, u43, u44, u45, u46, u47, u48, rfl, hik⟩
  clear hB' hB
  by_cases hlt : i < kk
  ·have hi1 : i + 1 < a0.size := by omega
   obtain ⟨bb, hbb⟩ : ∃ bb : Nat, (a0[i + 1]'hi1).toNat = bb := ⟨_, rfl⟩
   have hbb2 : bb < 256 := by have := (a0[i + 1]'hi1).toNat_lt; omega
   have hnb := nBy_lt a0 i (by omega)
   have hn1 : nBy a0 (i + 1) = nBy a0 i * 256 + bb := by
    have e1 : nBy a0 (i + 1) = nBy a0 i * 256 + (bt a0 ((i + 1 : Nat) : Int)).toNat := rfl
    rw [e1, ← bt_at a0 ((i + 1 : Nat) : Int) hi1]
    show nBy a0 i * 256 + ((((a0[i + 1]'hi1).toNat : Nat) : Int)).toNat = _
    rw [hbb]; omega
   have hor : bits .or .i64 ((nBy a0 i : Int) * 256) (bb : Int) = (nBy a0 (i + 1) : Int) := by rw [or_i64 _ _ hnb hbb2, hn1]
   have hwb : IntKind.i64.wrap (bb : Int) = (bb : Int) := by rw [i64_w]; unfold wrap64; omega
   have hwn : IntKind.i64.wrap ((nBy a0 i : Int) * 256) = (nBy a0 i : Int) * 256 := by rw [i64_w]; unfold wrap64; omega
   clear hn1
   go_wp2
   go_step3
   refine ⟨rfl, ⟨rfl, i + 1, ?_⟩, ?_⟩
   ·iterate 41 (apply Exists.intro)
    exact ⟨rfl, by omega⟩
   ·simp [intOf]; omega
  ·obtain rfl : i = kk := by omega
   rw [Int.toNat_natCast] at h
   by_cases hbig : 9007199254740992 < nBy a0 i
   ·rw [if_pos (by omega)] at h
    simp only [Option.some.injEq, Prod.mk.injEq] at h
    obtain ⟨rfl, rfl, rfl⟩ := h
    go_wp2
    simp only [Exit.jump]
    go_ret3
    exact ⟨rfl, HD.out⟩
   ·rw [if_neg (by omega)] at h
    simp only [Option.some.injEq, Prod.mk.injEq] at h
    obtain ⟨rfl, rfl, rfl⟩ := h
    go_wp2
    simp only [Exit.jump]
    go_ret3
    exact ⟨rfl, HD.out⟩
def wire_Reader_take.f (s0_0 : ByteArray) (s0_1 : Int) (a1 : Int) (a2 : Int) : Option (Bool × ByteArray × Int) := if a2 = 0 then (if 0 ≤ a1 then (if a1 ≤ (s0_0.size : Int) then (some (true, s0_0.extract (a1 : Int).toNat s0_0.size, s0_1)) else (none)) else (none)) else (some (false, s0_0, a2))
theorem wire_Reader_take.calls (g : Nat) (s0_0 : ByteArray) (s0_1 : Int) (a1 : Int) (a2 : Int) (r1 : Bool) (r2 : ByteArray) (r3 : Int) (w0 w : World) (hI : IsS96 w0 w g s0_0 s0_1) (hB : Below w0.heap.size w0 w) (h : wire_Reader_take.f s0_0 s0_1 a1 a2 = some (r1, r2, r3)) :
  Calls Tryz.prog 57 #[.pointer (some ⟨g, 0, none⟩), .int .i64 a1, .int .i64 a2] w fun e w' => e = .returned (.bool r1) ∧ IsS96 w0 w' g r2 r3 ∧ Below w0.heap.size w0 w' ∧ KeepBut w w' g none := by
 have HI0 := As_ hI
 have HK := As_ (KeepBut.refl w g none)
 have HL := As_ hB.size
 clear hI
 have HW0 := As_ hB.size
 have HB := As_ hB
 clear hB
 have H : (if a2 = 0 then (if 0 ≤ a1 then (if a1 ≤ (s0_0.size : Int) then (some (true, s0_0.extract (a1 : Int).toNat s0_0.size, s0_1)) else (none)) else (none)) else (some (false, s0_0, a2))) = some (r1, r2, r3) := h
 clear h
 by_cases c4 : a2 = 0
 ·rw [if_pos c4] at H
  have c4b0 : (a2 == 0) = true := beq_iff_eq.mpr c4
  have c4b1 : (a2 != 0) = false := bne_eq_false_iff_eq.mpr c4
  clear c4
  by_cases c5 : 0 ≤ a1
  ·rw [if_pos c5] at H
   have c5b0 := eq_true c5
   have c5b1 : decide (0 ≤ a1) = true := decide_eq_true c5
   clear c5
   by_cases c6 : a1 ≤ (s0_0.size : Int)
   ·rw [if_pos c6] at H
    have c6b0 := eq_true c6
    have c6b1 : decide (a1 ≤ (s0_0.size : Int)) = true := decide_eq_true c6
    clear c6
    simp only [Option.some.injEq, Prod.mk.injEq] at H
    obtain ⟨rfl, rfl, rfl⟩ := H
    obtain ⟨HGz7, hgz7⟩ := HI0.out
    have hcz7_0 := cellS96_0 HGz7
    have hcz7_1 := cellS96_1 HGz7
    have hfz7_0 := blk_frozen HGz7 0
    have hfz7_1 := blk_frozen HGz7 1
    clear HGz7 hgz7
    go_enter Tryz.func57, Tryz.ntmps57
    go_wp2
    go_ret
    exact ⟨ap14_, ap38_, ap39_, ap34_⟩
   ·rw [if_neg c6] at H
    exact absurd H (by simp)
  ·rw [if_neg c5] at H
   exact absurd H (by simp)
 ·rw [if_neg c4] at H
  have c4b0 : (a2 == 0) = false := beq_eq_false_iff_ne.mpr c4
  have c4b1 : (a2 != 0) = true := bne_iff_ne.mpr c4
  simp only [Option.some.injEq, Prod.mk.injEq] at H
  obtain ⟨rfl, rfl, rfl⟩ := H
  obtain ⟨HGz8, hgz8⟩ := HI0.out
  have hcz8_0 := cellS96_0 HGz8
  have hcz8_1 := cellS96_1 HGz8
  have hfz8_0 := blk_frozen HGz8 0
  have hfz8_1 := blk_frozen HGz8 1
  clear HGz8 hgz8
  go_enter Tryz.func57, Tryz.ntmps57
  go_wp2
  go_ret
  exact ⟨ap14_, ap38_, ap39_, ap34_⟩
def wire_Reader_Num.f (s0_0 : ByteArray) (s0_1 : Int) : Option (Int × ByteArray × Int) := (wire_Reader_stopped.f s0_0 s0_1).bind fun bt116 => (if bt116.1 = true then (some (0, bt116.2.1, bt116.2.2)) else ((wire_number.f bt116.2.1).bind fun bt119 => ((wire_Reader_take.f bt116.2.1 bt116.2.2 bt119.2.1 bt119.2.2).bind fun bt122 => (some (bt119.1, bt122.2.1, bt122.2.2)))))
theorem wire_Reader_Num.calls (g : Nat) (s0_0 : ByteArray) (s0_1 : Int) (r1 : Int) (r2 : ByteArray) (r3 : Int) (w0 w : World) (hI : IsS96 w0 w g s0_0 s0_1) (hB : Below w0.heap.size w0 w) (h : wire_Reader_Num.f s0_0 s0_1 = some (r1, r2, r3)) :
  Calls Tryz.prog 33 #[.pointer (some ⟨g, 0, none⟩)] w fun e w' => e = .returned (.int .i64 r1) ∧ IsS96 w0 w' g r2 r3 ∧ Below w0.heap.size w0 w' ∧ KeepBut w w' g none := by
 have HI0 := As_ hI
 have HK := As_ (KeepBut.refl w g none)
 have HL := As_ hB.size
 clear hI
 have HW0 := As_ hB.size
 have HB := As_ hB
 clear hB
 have H : ((wire_Reader_stopped.f s0_0 s0_1).bind fun bt116 => (if bt116.1 = true then (some (0, bt116.2.1, bt116.2.2)) else ((wire_number.f bt116.2.1).bind fun bt119 => ((wire_Reader_take.f bt116.2.1 bt116.2.2 bt119.2.1 bt119.2.2).bind fun bt122 => (some (bt119.1, bt122.2.1, bt122.2.2)))))) = some (r1, r2, r3) := h
 clear h
 replace H := Option.bind_eq_some_iff.mp H
 obtain ⟨⟨t116, t117, t118⟩, A20, H⟩ := H
 try dsimp only at H
 have A2 := As_ A20
 clear A20
 by_cases c3 : t116 = true
 ·subst c3
  have H1 : (some (0, t117, t118)) = some (r1, r2, r3) := by rw [if_pos rfl] at H; exact H
  clear H
  have H := H1
  clear H1
  simp only [Option.some.injEq, Prod.mk.injEq] at H
  obtain ⟨rfl, rfl, rfl⟩ := H
  go_enter Tryz.func33, Tryz.ntmps33
  go_wp2_with (first | ((with_reducible refine gate_callee (f := 55) rfl ?_); refine gk_ (some 7) Tryz.func55 #[.pointer (some ⟨g, 0, none⟩)] ?_; (with_reducible refine (wire_Reader_stopped.calls g s0_0 s0_1 true t117 t118 w0 _ ?side1 ?side2 A2.out).mono ?_); (case side1 => repeat (first | (with_reducible first | exact HI0.out | apply IsS96.alloc | apply IsS96.drewN | apply IsS96.drew | apply IsS96.set_0 | apply IsS96.set_1) | exact HI0.out)); (case side2 => repeat (first | (with_reducible first | exact HB.out | apply below_alloc | apply pw_below_drewN | apply below_drew1 | refine below_set ?_ (IsS96.ge HI0.out)) | exact HB.out)); rintro e w4 ⟨rfl, hi, hb, hk⟩; refine ⟨_, rfl, ?_⟩; replace HK := As_ (KeepBut.trans ap34_ hk (.inl rfl)); replace HB := As_ (hb); replace HI0 := As_ (hi); (try clear hb); (try clear hb2); (try clear hk); (try clear hi)))
  go_ret
  exact ⟨ap14_, ap38_, ap39_, ap34_⟩
 ·replace c3 := Bool.eq_false_iff.mpr c3
  subst c3
  have H1 : ((wire_number.f t117).bind fun bt119 => ((wire_Reader_take.f t117 t118 bt119.2.1 bt119.2.2).bind fun bt122 => (some (bt119.1, bt122.2.1, bt122.2.2)))) = some (r1, r2, r3) := by rw [if_neg (show ¬ (false = true) by decide)] at H; exact H
  clear H
  have H := H1
  clear H1
  replace H := Option.bind_eq_some_iff.mp H
  obtain ⟨⟨t119, t120, t121⟩, A50, H⟩ := H
  try dsimp only at H
  have A5 := As_ A50
  clear A50
  replace H := Option.bind_eq_some_iff.mp H
  obtain ⟨⟨t122, t123, t124⟩, A60, H⟩ := H
  try dsimp only at H
  have A6 := As_ A60
  clear A60
  simp only [Option.some.injEq, Prod.mk.injEq] at H
  obtain ⟨rfl, rfl, rfl⟩ := H
  go_enter Tryz.func33, Tryz.ntmps33
  go_wp2_with (first | ((with_reducible refine gate_callee (f := 55) rfl ?_); refine gk_ (some 7) Tryz.func55 #[.pointer (some ⟨g, 0, none⟩)] ?_; (with_reducible refine (wire_Reader_stopped.calls g s0_0 s0_1 false t117 t118 w0 _ ?side1 ?side2 A2.out).mono ?_); (case side1 => repeat (first | (with_reducible first | exact HI0.out | apply IsS96.alloc | apply IsS96.drewN | apply IsS96.drew | apply IsS96.set_0 | apply IsS96.set_1) | exact HI0.out)); (case side2 => repeat (first | (with_reducible first | exact HB.out | apply below_alloc | apply pw_below_drewN | apply below_drew1 | refine below_set ?_ (IsS96.ge HI0.out)) | exact HB.out)); rintro e w7 ⟨rfl, hi, hb, hk⟩; refine ⟨_, rfl, ?_⟩; replace HK := As_ (KeepBut.trans ap34_ hk (.inl rfl)); replace HB := As_ (hb); replace HI0 := As_ (hi); (try clear hb); (try clear hb2); (try clear hk); (try clear hi); obtain ⟨HGz8, hgz8⟩ := HI0.out; have hcz8_0 := cellS96_0 HGz8; have hcz8_1 := cellS96_1 HGz8; have hfz8_0 := blk_frozen HGz8 0; have hfz8_1 := blk_frozen HGz8 1; clear HGz8 hgz8) | ((with_reducible refine gate_callee (f := 56) rfl ?_); refine gk_ (some 13) Tryz.func56 #[.string t117] ?_; (with_reducible refine (wire_number.calls t117 t119 t120 t121 _ A5.out).mono ?_); rintro e w' ⟨rfl, ⟨nd, rfl⟩⟩; refine ⟨_, rfl, ?_⟩) | ((with_reducible refine gate_callee (f := 57) rfl ?_); refine gk_ (some 20) Tryz.func57 #[.pointer (some ⟨g, 0, none⟩), .int .i64 t120, .int .i64 t121] ?_; (with_reducible refine (wire_Reader_take.calls g t117 t118 t120 t121 t122 t123 t124 w0 _ ?side1 ?side2 A6.out).mono ?_); (case side1 => repeat (first | (with_reducible first | exact HI0.out | apply IsS96.alloc | apply IsS96.drewN | apply IsS96.drew | apply IsS96.set_0 | apply IsS96.set_1) | exact HI0.out)); (case side2 => repeat (first | (with_reducible first | exact HB.out | apply below_alloc | apply pw_below_drewN | apply below_drew1 | refine below_set ?_ (IsS96.ge HI0.out)) | exact HB.out)); rintro e w9 ⟨rfl, hi, hb, hk⟩; refine ⟨_, rfl, ?_⟩; replace HK := As_ (KeepBut.trans ap34_ hk (.inl rfl)); replace HB := As_ (hb); replace HI0 := As_ (hi); (try clear hb); (try clear hb2); (try clear hk); (try clear hi)))
  go_ret
  exact ⟨ap14_, ap38_, ap39_, ap34_⟩
def wire_Reader_Err.f (s0_0 : ByteArray) (s0_1 : Int) : Option (Int × ByteArray × Int) := some (s0_1, s0_0, s0_1)
theorem wire_Reader_Err.calls (g : Nat) (s0_0 : ByteArray) (s0_1 : Int) (r1 : Int) (r2 : ByteArray) (r3 : Int) (w0 w : World) (hI : IsS96 w0 w g s0_0 s0_1) (hB : Below w0.heap.size w0 w) (h : wire_Reader_Err.f s0_0 s0_1 = some (r1, r2, r3)) :
  Calls Tryz.prog 58 #[.pointer (some ⟨g, 0, none⟩)] w fun e w' => e = .returned (.int .i64 r1) ∧ IsS96 w0 w' g r2 r3 ∧ Below w0.heap.size w0 w' ∧ KeepBut w w' g none := by
 have HI0 := As_ hI
 have HK := As_ (KeepBut.refl w g none)
 have HL := As_ hB.size
 clear hI
 have HW0 := As_ hB.size
 have HB := As_ hB
 clear hB
 have H : (some (s0_1, s0_0, s0_1)) = some (r1, r2, r3) := h
 clear h
 simp only [Option.some.injEq, Prod.mk.injEq] at H
 obtain ⟨rfl, rfl, rfl⟩ := H
 obtain ⟨HGz2, hgz2⟩ := HI0.out
 have hcz2_0 := cellS96_0 HGz2
 have hcz2_1 := cellS96_1 HGz2
 have hfz2_0 := blk_frozen HGz2 0
 have hfz2_1 := blk_frozen HGz2 1
 clear HGz2 hgz2
 go_enter Tryz.func58, Tryz.ntmps58
 go_wp2
 go_ret
 exact ⟨ap14_, ap38_, ap39_, ap34_⟩
def wire_Reader_Done.f (s0_0 : ByteArray) (s0_1 : Int) : Option (Int × ByteArray × Int) := (wire_Reader_Err.f s0_0 s0_1).bind fun bt125 => (if bt125.1 = 0 then (if bt125.2.1.toList = ([] : List UInt8) then (some (bt125.1, bt125.2.1, bt125.2.2)) else (some (6, bt125.2.1, bt125.2.2))) else (some (bt125.1, bt125.2.1, bt125.2.2)))
theorem wire_Reader_Done.calls (g : Nat) (s0_0 : ByteArray) (s0_1 : Int) (r1 : Int) (r2 : ByteArray) (r3 : Int) (w0 w : World) (hI : IsS96 w0 w g s0_0 s0_1) (hB : Below w0.heap.size w0 w) (h : wire_Reader_Done.f s0_0 s0_1 = some (r1, r2, r3)) :
  Calls Tryz.prog 34 #[.pointer (some ⟨g, 0, none⟩)] w fun e w' => e = .returned (.int .i64 r1) ∧ IsS96 w0 w' g r2 r3 ∧ Below w0.heap.size w0 w' ∧ KeepBut w w' g none := by
 have HI0 := As_ hI
 have HK := As_ (KeepBut.refl w g none)
 have HL := As_ hB.size
 clear hI
 have HW0 := As_ hB.size
 have HB := As_ hB
 clear hB
 have H : ((wire_Reader_Err.f s0_0 s0_1).bind fun bt125 => (if bt125.1 = 0 then (if bt125.2.1.toList = ([] : List UInt8) then (some (bt125.1, bt125.2.1, bt125.2.2)) else (some (6, bt125.2.1, bt125.2.2))) else (some (bt125.1, bt125.2.1, bt125.2.2)))) = some (r1, r2, r3) := h
 clear h
 replace H := Option.bind_eq_some_iff.mp H
 obtain ⟨⟨t125, t126, t127⟩, A20, H⟩ := H
 try dsimp only at H
 have A2 := As_ A20
 clear A20
 by_cases c3 : t125 = 0
 ·rw [if_pos c3] at H
  have c3b0 : (t125 == 0) = true := beq_iff_eq.mpr c3
  have c3b1 : (t125 != 0) = false := bne_eq_false_iff_eq.mpr c3
  clear c3
  by_cases c4 : t126.toList = ([] : List UInt8)
  ·rw [if_pos c4] at H
   have c4b0 : (t126.toList == ([] : List UInt8)) = true := beq_iff_eq.mpr c4
   have c4b1 : (t126.toList != ([] : List UInt8)) = false := bne_eq_false_iff_eq.mpr c4
   clear c4
   simp only [Option.some.injEq, Prod.mk.injEq] at H
   obtain ⟨rfl, rfl, rfl⟩ := H
   go_enter Tryz.func34, Tryz.ntmps34
   go_wp2_with (first | ((with_reducible refine gate_callee (f := 58) rfl ?_); refine gk_ (some 5) Tryz.func58 #[.pointer (some ⟨g, 0, none⟩)] ?_; (with_reducible refine (wire_Reader_Err.calls g s0_0 s0_1 t125 t126 t127 w0 _ ?side1 ?side2 A2.out).mono ?_); (case side1 => repeat (first | (with_reducible first | exact HI0.out | apply IsS96.alloc | apply IsS96.drewN | apply IsS96.drew | apply IsS96.set_0 | apply IsS96.set_1) | exact HI0.out)); (case side2 => repeat (first | (with_reducible first | exact HB.out | apply below_alloc | apply pw_below_drewN | apply below_drew1 | refine below_set ?_ (IsS96.ge HI0.out)) | exact HB.out)); rintro e w5 ⟨rfl, hi, hb, hk⟩; refine ⟨_, rfl, ?_⟩; replace HK := As_ (KeepBut.trans ap34_ hk (.inl rfl)); replace HB := As_ (hb); replace HI0 := As_ (hi); (try clear hb); (try clear hb2); (try clear hk); (try clear hi); obtain ⟨HGz6, hgz6⟩ := HI0.out; have hcz6_0 := cellS96_0 HGz6; have hcz6_1 := cellS96_1 HGz6; have hfz6_0 := blk_frozen HGz6 0; have hfz6_1 := blk_frozen HGz6 1; clear HGz6 hgz6))
   go_ret
   exact ⟨ap14_, ap38_, ap39_, ap34_⟩
  ·rw [if_neg c4] at H
   have c4b0 : (t126.toList == ([] : List UInt8)) = false := beq_eq_false_iff_ne.mpr c4
   have c4b1 : (t126.toList != ([] : List UInt8)) = true := bne_iff_ne.mpr c4
   simp only [Option.some.injEq, Prod.mk.injEq] at H
   obtain ⟨rfl, rfl, rfl⟩ := H
   go_enter Tryz.func34, Tryz.ntmps34
   go_wp2_with (first | ((with_reducible refine gate_callee (f := 58) rfl ?_); refine gk_ (some 5) Tryz.func58 #[.pointer (some ⟨g, 0, none⟩)] ?_; (with_reducible refine (wire_Reader_Err.calls g s0_0 s0_1 t125 t126 t127 w0 _ ?side1 ?side2 A2.out).mono ?_); (case side1 => repeat (first | (with_reducible first | exact HI0.out | apply IsS96.alloc | apply IsS96.drewN | apply IsS96.drew | apply IsS96.set_0 | apply IsS96.set_1) | exact HI0.out)); (case side2 => repeat (first | (with_reducible first | exact HB.out | apply below_alloc | apply pw_below_drewN | apply below_drew1 | refine below_set ?_ (IsS96.ge HI0.out)) | exact HB.out)); rintro e w7 ⟨rfl, hi, hb, hk⟩; refine ⟨_, rfl, ?_⟩; replace HK := As_ (KeepBut.trans ap34_ hk (.inl rfl)); replace HB := As_ (hb); replace HI0 := As_ (hi); (try clear hb); (try clear hb2); (try clear hk); (try clear hi); obtain ⟨HGz8, hgz8⟩ := HI0.out; have hcz8_0 := cellS96_0 HGz8; have hcz8_1 := cellS96_1 HGz8; have hfz8_0 := blk_frozen HGz8 0; have hfz8_1 := blk_frozen HGz8 1; clear HGz8 hgz8))
   go_ret
   exact ⟨ap14_, ap38_, ap39_, ap34_⟩
 ·rw [if_neg c3] at H
  have c3b0 : (t125 == 0) = false := beq_eq_false_iff_ne.mpr c3
  have c3b1 : (t125 != 0) = true := bne_iff_ne.mpr c3
  simp only [Option.some.injEq, Prod.mk.injEq] at H
  obtain ⟨rfl, rfl, rfl⟩ := H
  go_enter Tryz.func34, Tryz.ntmps34
  go_wp2_with (first | ((with_reducible refine gate_callee (f := 58) rfl ?_); refine gk_ (some 5) Tryz.func58 #[.pointer (some ⟨g, 0, none⟩)] ?_; (with_reducible refine (wire_Reader_Err.calls g s0_0 s0_1 t125 t126 t127 w0 _ ?side1 ?side2 A2.out).mono ?_); (case side1 => repeat (first | (with_reducible first | exact HI0.out | apply IsS96.alloc | apply IsS96.drewN | apply IsS96.drew | apply IsS96.set_0 | apply IsS96.set_1) | exact HI0.out)); (case side2 => repeat (first | (with_reducible first | exact HB.out | apply below_alloc | apply pw_below_drewN | apply below_drew1 | refine below_set ?_ (IsS96.ge HI0.out)) | exact HB.out)); rintro e w9 ⟨rfl, hi, hb, hk⟩; refine ⟨_, rfl, ?_⟩; replace HK := As_ (KeepBut.trans ap34_ hk (.inl rfl)); replace HB := As_ (hb); replace HI0 := As_ (hi); (try clear hb); (try clear hb2); (try clear hk); (try clear hi)))
  go_ret
  exact ⟨ap14_, ap38_, ap39_, ap34_⟩
def digB : Nat → Nat → List Int
 | 0, _ => []
 | k + 1, n => if n = 0 then [] else digB k (n / 256) ++ [((n % 256 : Nat) : Int)]
def wire_Num.f (a0 : Int) : Option (ByteArray × Int) := if a0 < 0 ∨ 9007199254740992 < a0 then some ((⟨#[]⟩ : ByteArray), 3) else some (strOfNums [((digB 8 a0.toNat).length : Int)] ++ strOfNums (digB 8 a0.toNat), 0)
theorem wNumRow_set (j : Nat) (t : List Int) (v : Int) : ((List.replicate (j + 1) (Value.int .u8 0) ++ nums .u8 t).toArray).setIfInBounds j (.int .u8 v) = (List.replicate j (Value.int .u8 0) ++ nums .u8 (v :: t)).toArray := by
 rw [List.setIfInBounds_toArray, List.replicate_succ', List.append_assoc]
 congr 1
 rw [List.set_append_right _ _ (by simp)]
 simp [nums]
theorem wu8 : ∀ g : Nat, g < 9 → IntKind.u8.wrap ((8 - g : Nat) : Int) = ((8 - g : Nat) : Int) := by decide
theorem digB_len : ∀ k n, (digB k n).length ≤ k
 | 0, _ => Nat.le_refl _
 | k + 1, n => by
  unfold digB
  split
  ·exact Nat.zero_le _
  ·have := digB_len k (n / 256)
   rw [List.length_append, List.length_singleton]; omega
theorem wire_Num.calls (a0 : Int) (r1 : ByteArray) (r2 : Int) (w : World) (h : wire_Num.f a0 = some (r1, r2)) :
  Calls Tryz.prog 39 #[.int .i64 a0] w fun e w' => e = .returned (.tuple #[.string r1, .int .i64 r2]) ∧ Below w.heap.size w w' := by
 unfold wire_Num.f at h
 have HB := As_ (Below.refl w.heap.size w)
 by_cases hbad : a0 < 0 ∨ 9007199254740992 < a0
 ·rw [if_pos hbad] at h
  obtain ⟨rfl, rfl⟩ := Prod.mk.inj (Option.some.inj h)
  clear h
  by_cases h0 : a0 < 0
  all_goals
   go_enter Tryz.func39, Tryz.ntmps39
   go_wp2
   go_ret2
   exact ⟨rfl, HB.out⟩
 rw [if_neg hbad] at h
 obtain ⟨rfl, rfl⟩ := Prod.mk.inj (Option.some.inj h)
 clear h
 have h0 : ¬ a0 < 0 := fun h => hbad (.inl h)
 have h1 : ¬ 9007199254740992 < a0 := fun h => hbad (.inr h)
 obtain ⟨n0, rfl⟩ : ∃ n0 : Nat, a0 = (n0 : Int) := ⟨a0.toNat, by omega⟩
 have hn0 : n0 ≤ 9007199254740992 := by omega
 rw [Int.toNat_natCast]
 clear hbad
 go_enter Tryz.func39, Tryz.ntmps39
 go_wp2_with (first | ((with_reducible refine gate_dst (N := 4) rfl ?_); (try (refine gate_guard (by rfl) ?_; dsimp only)); refine bxE (N := 4) (cs := (List.replicate 8 (Value.int .u8 0)).toArray) (t := 106) ?_; intro gb hg w1 hbox hb; have n0_ := As_ (below_step (by repeat (first | exact HB.out | apply pw_below_drewN | apply below_drew1)) hb); have BK := As_ hbox; have GE := As_ ((by rw [hg]; exact (below_size (by repeat (first | exact HB.out | apply pw_below_drewN | apply below_drew1))) : w.heap.size ≤ gb)); clear HB; have HB := n0_; clear n0_ hb hbox hg) | fail)
 go_loopg [0, 5] 8 (fun g s0 s5 wx => ∃ (n : Nat) (t : List Int), s0 = .int .i64 n ∧ s5 = .int .i64 (g : Int) ∧ g ≤ 8 ∧ n ≤ 9007199254740992 ∧ n < 256 ^ g ∧ g + t.length = 8 ∧ Aside0 (wx.heap[gb]? = some (.cells (List.replicate g (Value.int .u8 0) ++ nums .u8 t).toArray 106 (0, 0))) ∧ Aside0 (Below w.heap.size w wx) ∧ Aside0 (digB g n ++ t = digB 8 n0))
 case atStart => exact ⟨n0, [], rfl, rfl, Nat.le_refl _, hn0, by omega, rfl, ⟨by rw [BK.out]; rfl⟩, HB, ⟨by simp⟩⟩
 case round =>
  clear BK HB
  obtain ⟨n, t, rfl, rfl, hg8, hn, hpow, htl, BK, HB, HR⟩ := hrel
  by_cases hz0 : n = 0
  ·subst hz0
   have ht : t = digB 8 n0 := by
    have := HR.out
    cases gk <;> simpa [digB] using this
   have hcells : ∀ w' : World, w'.heap[gb]? = some (.cells (List.replicate gk (Value.int .u8 0) ++ nums .u8 t).toArray 106 (0, 0)) → ∀ i, i < 8 - gk → w'.cell? ⟨gb, gk + i, none⟩ = some (.int .u8 (t.getD i 0)) := by
    intro w' h i hi
    refine (blk_cell h (gk + i)).trans ?_
    rw [List.getElem?_toArray, List.getElem?_append_right (by simp), List.length_replicate, Nat.add_sub_cancel_left]
    unfold nums
    rw [List.getElem?_map, List.getElem?_eq_getElem (by omega), List.getD_eq_getElem?_getD, List.getElem?_eq_getElem (by omega)]
    rfl
   clear hpow
   obtain ⟨p, hp⟩ : ∃ p : Nat, p = if gk = 8 then 0 else gk := ⟨_, rfl⟩
   have e28 : ∀ w : World, (Instr.sliceAt 106 (.pointer (some ⟨gb, 0, none⟩)) (some (.int .i64 (gk : Int))) none none).run Tryz.prog w = .ok (.slice (some ⟨gb, p, none⟩) (8 - gk) (8 - gk)) w := by
    intro w
    obtain ⟨i0, hi0, hzz⟩ := Option.map_eq_some_iff.1 info5
    simp only [Prod.mk.injEq] at hzz
    have hg0' : ((gk : Nat) : Int) ≤ 8 := by omega
    by_cases hl : gk = 8
    ·subst hl
     rw [if_pos rfl] at hp
     simp [go_sem, Instr.sliceAt, Instr.sureAddr, Instr.sliceBounds, run_underlying Tryz.underlying106, sizeOf, typeInfo, hi0, hzz.2.1, hp]
    ·rw [if_neg hl] at hp
     have hl2 : ¬ 8 = gk := fun e => hl e.symm
     simp [go_sem, Instr.sliceAt, Instr.sureAddr, Instr.sliceBounds, run_underlying Tryz.underlying106, sizeOf, typeInfo, hi0, hzz.2.1, hl2, hg0', hp]
   have hcells2 : ∀ w' : World, w'.heap[gb]? = some (.cells (List.replicate gk (Value.int .u8 0) ++ nums .u8 t).toArray 106 (0, 0)) → ∀ i, i < 8 - gk → w'.cell? ⟨gb, p + i, none⟩ = some (.int .u8 (t.getD i 0)) := by
    intro w' h i hi
    rw [if_neg (by omega)] at hp
    rw [hp]
    exact hcells w' h i hi
   have hw1 : IntKind.i64.wrap (8 - (gk : Int)) = ((8 - gk : Nat) : Int) := by rw [i64_w]; unfold wrap64; omega
   have hw2 : IntKind.u8.wrap ((8 - gk : Nat) : Int) = ((8 - gk : Nat) : Int) := wu8 gk (by omega)
   have hsz : ¬ 9223372036854775807 < (strOfNums [((8 - gk : Nat) : Int)]).size + (strOfNums t).size := by
    rw [strOfNums_size, strOfNums_size]
    simp; omega
   have hl8 := As_ (show 8 - gk = t.length by omega)
   replace ht := As_ ht
   clear hp hcells
   go_upto_region 9 with (fail)
   refine start_ (n := 11) (S := fun w' => w'.heap[gb]? = some (.cells (List.replicate gk (Value.int .u8 0) ++ nums .u8 t).toArray 106 (0, 0))) (ds := []) #[false, false, false, false, false, false, false, false, false, false, false] (by kernel_rfl) rfl rfl BK.out (fun hHeld => ?_)
   have HB4 := As_ (below_drew HB.out)
   clear HB BK
   generalize wr.drew = w4 at hHeld HB4 ⊢
   refine pure_ (i := 0) (N := some 22) #[true, false, false, false, false, false, false, false, false, false, false] rfl rfl (by kernel_rfl) (fun _ _ _ h => h) (Or.inl ⟨by rfl, ap2_⟩) ap25_ ?_
   refine pure_ (i := 1) (N := some 23) #[true, true, false, false, false, false, false, false, false, false, false] rfl rfl (by kernel_rfl) (fun _ _ _ h => h) (Or.inl ⟨by rfl, ap2_⟩) ap25_ ?_
   refine pure_ (i := 2) (N := some 24) #[true, true, true, false, false, false, false, false, false, false, false] rfl rfl (by kernel_rfl) (fun _ _ _ h => h) (Or.inl ⟨by rfl, ap2_⟩) ap25_ ?_
   refine pure_ (i := 5) (N := some 27) #[true, true, true, false, false, true, false, false, false, false, false] rfl rfl (by kernel_rfl) (fun _ _ _ h => h) (Or.inl ⟨by rfl, ap2_⟩) ap25_ ?_
   refine pure_ (i := 6) (N := some 28) #[true, true, true, false, false, true, true, false, false, false, false] rfl rfl (by kernel_rfl) (fun _ _ _ h => h) (Or.inl ⟨by rfl, ap2_⟩) ap25_ ?_
   refine take_ (i := 7) (N := some 29) #[true, true, true, false, false, true, true, true, false, false, false] rfl rfl (by kernel_rfl) (fun _ _ _ h => h) (Or.inl ⟨by rfl, (by rintro w' s0; have kc := run_convert_bytes_arg (P := Tryz.prog) w' 108 5 Tryz.underlying108 Tryz.underlying5 gb p (8 - gk) (8 - gk) t (by omega) (hcells2 w' s0) 9 Tryz.underlying9; go_simp; with_reducible rfl)⟩) hHeld ap25_ ?_
   refine one_ (i := 3) (N := some 25) #[true, true, true, true, false, true, true, true, false, false, false] rfl rfl (by kernel_rfl) (by decide) (fun K hK => ?_)
   refine value_ (w1 := ?_) (v := ?_) (by rfl) rfl ?_ ?_
   rotate_left 2
   ·go_simp
    constructor
    ·rfl
    ·rfl
   refine hK.out _ _ ((Below.heap_alloc _ _ _ (blk_lt hHeld)).trans hHeld) (fun hHeld => ?_)
   clear hK K
   refine norm_ (a' := ?_) ?_ ?_
   rotate_left
   ·show Act.put _ (some 25) _ = _
    simp only [Act.put, List.setIfInBounds_toArray, List.set_cons_zero, List.set_cons_succ, i64_w, i32_w]
    rfl
   have kc2 := run_convert_bytes_arg (P := Tryz.prog) (w4.alloc (.cells #[.int .u8 ((8 - gk : Nat) : Int)] 5)) 108 5 Tryz.underlying108 Tryz.underlying5 w4.heap.size 0 1 1 [((8 - gk : Nat) : Int)] rfl (fun i hi => match i, hi with | 0, _ => (blk_cell (my_alloc_new w4 _) 0).trans rfl) 9 Tryz.underlying9
   refine one_ (i := 4) (N := some 26) #[true, true, true, true, true, true, true, true, false, false, false] rfl rfl (by kernel_rfl) (by decide) (fun K hK => ?_)
   refine value_ (w1 := ?_) (v := ?_) (by rfl) rfl ?_ ?_
   rotate_left 2
   ·go_simp
    constructor
    ·rfl
    ·rfl
   refine hK.out _ _ hHeld (fun hHeld => ?_)
   clear hK K
   refine norm_ (a' := ?_) ?_ ?_
   rotate_left
   ·show Act.put _ (some 26) _ = _
    simp only [Act.put, List.setIfInBounds_toArray, List.set_cons_zero, List.set_cons_succ, i64_w, i32_w]
    rfl
   refine pure_ (i := 8) (N := some 30) #[true, true, true, true, true, true, true, true, true, false, false] rfl rfl (by kernel_rfl) (fun _ _ _ h => h) (Or.inl ⟨by rfl, ap2_⟩) ap25_ ?_
   refine pure_ (i := 9) (N := some 2) #[true, true, true, true, true, true, true, true, true, true, false] rfl rfl (by kernel_rfl) (fun _ _ _ h => h) (Or.inl ⟨by rfl, ap2_⟩) ap25_ ?_
   refine pure_ (i := 10) (N := some 3) #[true, true, true, true, true, true, true, true, true, true, true] rfl rfl (by kernel_rfl) (fun _ _ _ h => h) (Or.inl ⟨by rfl, ap2_⟩) ap25_ ?_
   refine done_ (by kernel_rfl) ?_
   have hfin := As_ (below_step HB4.out ((Below.refl _ w4).alloc (Nat.le_refl _) (.cells #[.int .u8 ((8 - gk : Nat) : Int)] 5)))
   clear hHeld HB4
   go_wp2
   go_ret2
   have e9 : strOfNums [((8 - gk : Nat) : Int)] ++ strOfNums t = strOfNums [((digB 8 n0).length : Int)] ++ strOfNums (digB 8 n0) := by rw [hl8.out, ht.out]
   refine ⟨?_, hfin.out⟩
   show Ending.returned (.tuple #[.string (strOfNums [((8 - gk : Nat) : Int)] ++ strOfNums t), .int .i64 0]) = _
   rw [e9]
  ·obtain ⟨g, rfl⟩ : ∃ g, gk = g + 1 := by
    cases gk with
    | zero => simp at hpow; omega
    | succ g => exact ⟨g, rfl⟩
   have hz := blk_frozen BK.out g
   have hcell : wr.cell? ⟨gb, g, none⟩ = some (.int .u8 0) := (blk_cell BK.out g).trans (by rw [List.getElem?_toArray, List.getElem?_append_left (by simp), List.getElem?_replicate, if_pos (by omega)])
   have hpos : (0 : Int) < (n : Int) := by omega
   go_wp2
   go_roundg g
   case measure => omega
   case rel => exact ⟨n / 256, ((n % 256 : Nat) : Int) :: t, by first | rfl | (simp; done), rfl, by omega, by omega, by rw [Nat.pow_succ] at hpow; omega, by simp; omega, ⟨blk_put BK.out g _ (by rw [Int.natCast_emod]; exact wNumRow_set g t _)⟩, ⟨below_set HB.out GE.out⟩, ⟨by rw [← HR.out, digB, if_neg hz0, List.append_assoc]; rfl⟩⟩
theorem rdOf_get (l : List ByteArray) (i : Nat) (h : i < l.length) : rdOf ByteArray.empty l (i : Int) = l[i] := by
 unfold rdOf
 rw [Int.toNat_natCast, List.getD_eq_getElem?_getD, List.getElem?_eq_getElem h]; rfl
theorem ofL_append (l m : List UInt8) : ofL l ++ ofL m = ofL (l ++ m) := by
 apply ba_ext; rw [ba_append, ofL_toList, ofL_toList, ofL_toList]
theorem one_list (c : UInt8) : (⟨#[c]⟩ : ByteArray).toList = [c] := by rw [ByteArray.toList_eq]
theorem two_list (a b : UInt8) : (⟨#[a, b]⟩ : ByteArray).toList = [a, b] := by rw [ByteArray.toList_eq]
theorem w_one (i : Nat) (h : i ≤ 4000000000000000000) : wrap64 ((i : Int) + 1) = ((i + 1 : Nat) : Int) := by rw [w64 (by omega) (by omega)]; omega
def glue (c : UInt8) (a : List UInt8) (ps : List (List UInt8)) : List UInt8 := a ++ ps.flatMap (c :: ·)
def hidL (l : List UInt8) : List UInt8 := l.flatMap fun c => if c = 37 then [37, 112] else if c = 47 then [37, 115] else [c]
theorem hidL_cons (c : UInt8) (t : List UInt8) : hidL (c :: t) = (if c = 37 then [37, 112] else if c = 47 then [37, 115] else [c]) ++ hidL t := by unfold hidL; rw [List.flatMap_cons]
theorem hid_repl : ∀ l : List UInt8, repl1 47 [37, 115] (repl1 37 [37, 112] l) = hidL l
 | [] => rfl
 | c :: t => by
  have ih := hid_repl t
  rw [hidL_cons, ← ih]
  unfold repl1
  rw [List.flatMap_cons, List.flatMap_append]
  congr 1
  by_cases h1 : c = 37
  ·subst h1; rfl
  ·rw [if_neg h1, if_neg h1]
   by_cases h2 : c = 47 <;> simp [h2]
theorem repl_len (c a b : UInt8) : ∀ l : List UInt8, (repl1 c [a, b] l).length ≤ 2 * l.length
 | [] => by simp [repl1]
 | x :: t => by
  have ih := repl_len c a b t
  unfold repl1 at ih ⊢
  rw [List.flatMap_cons, List.length_append, List.length_cons]
  have : (if x = c then [a, b] else [x]).length ≤ 2 := by split <;> simp
  omega
theorem hidL_len (l : List UInt8) : (hidL l).length ≤ 2 * l.length := by
 induction l with
 | nil => simp [hidL]
 | cons c t ih =>
  rw [hidL_cons, List.length_append, List.length_cons]
  have : (if c = 37 then [37, 112] else if c = 47 then [37, 115] else [c] : List UInt8).length ≤ 2 := by split <;> (try split) <;> simp
  omega
theorem repl_is (s : ByteArray) (c a b : UInt8) (h : s.size ≤ 100000000) : strings_ReplaceAll.f s ⟨#[c]⟩ ⟨#[a, b]⟩ = some (ofL (repl1 c [a, b] s.toList)) := by
 unfold strings_ReplaceAll.f
 rw [one_list, two_list]
 exact if_pos ⟨h, rfl⟩
theorem hidden_is (s : ByteArray) (h : s.size ≤ 50000000) : path_hidden.f s = some (ofL (hidL s.toList)) := by
 unfold path_hidden.f
 have h1 := repl_len 37 37 112 s.toList
 rw [← ba_size] at h1
 rw [repl_is s 37 37 112 (by omega), Option.bind_some, repl_is _ 47 37 115 (by rw [ofL_size]; omega), Option.bind_some, ofL_toList, hid_repl]
def keyL (a : List UInt8) (ps : List (List UInt8)) : List UInt8 := glue 47 (hidL a) (ps.map hidL)
theorem join_go (l : List ByteArray) (hl : l.length ≤ 1000) (hs : ∀ p ∈ l, p.size ≤ 50000000) : ∀ (d i : Nat) (acc : ByteArray), d = l.length - i → i ≤ l.length → acc.size ≤ 100000000 + i * 100000001 → Ev (fun k => path_Join.l0 k acc l (l.length : Int) (i : Int)) (acc ++ ofL ((l.drop i).flatMap fun p => 47 :: hidL p.toList)) := by
 intro d
 induction d with
 | zero =>
  intro i acc hd hi ha
  refine ⟨1, fun k hk => ?_⟩
  obtain ⟨m, rfl⟩ : ∃ m, k = m + 1 := ⟨k - 1, by omega⟩
  show path_Join.l0 (m + 1) acc l (l.length : Int) (i : Int) = _
  simp only [path_Join.l0]
  rw [if_neg (by omega), List.drop_eq_nil_of_le (by omega)]
  congr 1
  apply ba_ext; rw [ba_append, ofL_toList]; simp
 | succ d ih =>
  intro i acc hd hi ha
  have hil : i < l.length := by omega
  have hp := hs l[i] (List.getElem_mem hil)
  have hlen := hidL_len (l[i]).toList
  rw [← ba_size] at hlen
  have hsz : ((⟨#[47]⟩ : ByteArray) ++ ofL (hidL (l[i]).toList)).size ≤ 100000001 := by
   rw [ByteArray.size_append, ofL_size]; show 1 + _ ≤ _; omega
  have hi2 : i * 100000001 ≤ 1000 * 100000001 := Nat.mul_le_mul_right _ (by omega)
  obtain ⟨K, e⟩ := ih (i + 1) (acc ++ ((⟨#[47]⟩ : ByteArray) ++ ofL (hidL (l[i]).toList))) (by omega) (by omega) (by rw [ByteArray.size_append, Nat.add_mul]; omega)
  refine ⟨K + 1, fun k hk => ?_⟩
  obtain ⟨m, rfl⟩ : ∃ m, k = m + 1 := ⟨k - 1, by omega⟩
  have e : path_Join.l0 m _ l (l.length : Int) ((i + 1 : Nat) : Int) = _ := e m (by omega)
  show path_Join.l0 (m + 1) acc l (l.length : Int) (i : Int) = _
  simp only [path_Join.l0]
  rw [if_pos (by omega), if_pos (by omega), if_pos (by omega), rdOf_get l i hil, hidden_is _ hp, Option.bind_some, if_pos (by rw [ofL_size]; omega), if_pos (by omega), w_one i (by omega), e]
  congr 1
  rw [List.drop_eq_getElem_cons hil, List.flatMap_cons]
  apply ba_ext
  simp only [ba_append, ofL_toList, one_list]
  simp
theorem join_ev (a : ByteArray) (l : List ByteArray) (ha : a.size ≤ 50000000) (hl : l.length ≤ 1000) (hs : ∀ p ∈ l, p.size ≤ 50000000) : Ev (fun k => path_Join.f k a l) (ofL (keyL a.toList (l.map ByteArray.toList))) := by
 have h1 := hidL_len a.toList
 rw [← ba_size] at h1
 obtain ⟨K, e⟩ := join_go l hl hs l.length 0 (ofL (hidL a.toList)) (by omega) (by omega) (by rw [ofL_size]; omega)
 refine ⟨K, fun k hk => ?_⟩
 have e : path_Join.l0 k (ofL (hidL a.toList)) l (l.length : Int) 0 = _ := e k hk
 show path_Join.f k a l = _
 unfold path_Join.f
 rw [hidden_is a ha, Option.bind_some, e, ofL_append]
 unfold keyL glue
 rw [List.drop_zero, List.map_map, List.flatMap_map]
 rfl
def keyB (a : ByteArray) (l : List ByteArray) : ByteArray := ofL (keyL a.toList (l.map ByteArray.toList))
theorem key_ev (a : ByteArray) (l : List ByteArray) (ha : a.size ≤ 50000000) (hl : l.length ≤ 1000) (hs : ∀ p ∈ l, p.size ≤ 50000000) : ∃ k, path_Join.f k a l = some (keyB a l) := by
 obtain ⟨K, e⟩ := join_ev a l ha hl hs
 exact ⟨K, e K (Nat.le_refl _)⟩
def numB (n : Nat) : ByteArray := strOfNums [((digB 8 n).length : Int)] ++ strOfNums (digB 8 n)
theorem wNum_is (n : Nat) (h : n ≤ 9007199254740992) : wire_Num.f (n : Int) = some (numB n, 0) := by
 unfold wire_Num.f numB
 rw [if_neg (by omega), Int.toNat_natCast]
theorem strOfNums_sz (l : List Int) : (strOfNums l).size = l.length := by rw [ba_size, ByteArray.toList_eq, strOfNums_data, List.length_map]
theorem numB_len (n : Nat) : (numB n).size ≤ 9 := by
 have := digB_len 8 n
 unfold numB
 rw [ByteArray.size_append, strOfNums_sz, strOfNums_sz, List.length_singleton]; omega
def numW (s : ByteArray) : Int × Int × Int := (wire_number.f s).getD (0, 0, 0)
theorem number_is (s : ByteArray) : wire_number.f s = some (numW s) := by
 unfold numW wire_number.f
 repeat' split
 all_goals rfl
theorem numW_bd (s : ByteArray) : (0 ≤ (numW s).1 ∧ (numW s).1 ≤ 9007199254740992) ∧ (0 ≤ (numW s).2.1 ∧ (numW s).2.1 ≤ (s.size : Int)) := by
 have h := number_is s
 generalize numW s = r at h
 unfold wire_number.f at h
 have hb := bt_range s 0
 by_cases h1 : s.size = 0
 ·rw [if_pos h1] at h; obtain rfl := Option.some.inj h; simp
 rw [if_neg h1] at h
 by_cases h2 : 7 < bt s 0 ∨ (0 < bt s 0 ∧ 1 < s.size ∧ bt s 1 = 0)
 ·rw [if_pos h2] at h; obtain rfl := Option.some.inj h; simp
 rw [if_neg h2] at h
 by_cases h3 : (s.size : Int) ≤ bt s 0
 ·rw [if_pos h3] at h; obtain rfl := Option.some.inj h; simp
 rw [if_neg h3] at h
 by_cases h4 : 9007199254740992 < nBy s (bt s 0).toNat
 ·rw [if_pos h4] at h; obtain rfl := Option.some.inj h; simp
 rw [if_neg h4] at h
 obtain rfl := Option.some.inj h
 dsimp only
 omega
def rNum (s : ByteArray) (e : Int) : Int × ByteArray × Int := if e = 0 then ((numW s).1, if (numW s).2.2 = 0 then s.extract (numW s).2.1.toNat s.size else s, (numW s).2.2) else (0, s, e)
def rDone (s : ByteArray) (e : Int) : Int := if e = 0 then (if s.toList = [] then 0 else 6) else e
theorem rNum_is (s : ByteArray) (e : Int) : wire_Reader_Num.f s e = some (rNum s e) := by
 unfold wire_Reader_Num.f wire_Reader_stopped.f rNum
 rw [Option.bind_some]
 dsimp only
 by_cases he : e = 0
 ·subst he
  obtain ⟨_, h3, h4⟩ := numW_bd s
  rw [if_neg (by simp), number_is, Option.bind_some, if_pos rfl]
  unfold wire_Reader_take.f
  by_cases h : (numW s).2.2 = 0
  ·rw [if_pos h, if_pos h3, if_pos h4, Option.bind_some, if_pos h, h]
  ·rw [if_neg h, if_neg h, Option.bind_some]
 ·rw [if_pos (by simpa using he), if_neg he]
theorem rDone_is (s : ByteArray) (e : Int) : wire_Reader_Done.f s e = some (rDone s e, s, e) := by
 unfold wire_Reader_Done.f wire_Reader_Err.f rDone
 rw [Option.bind_some]
 dsimp only
 by_cases he : e = 0
 ·subst he
  rw [if_pos rfl, if_pos rfl]
  by_cases h : s.toList = []
  ·rw [if_pos h, if_pos h]
  ·rw [if_neg h, if_neg h]
 ·rw [if_neg he, if_neg he]
theorem ext_sz (s : ByteArray) (a b : Nat) : (s.extract a b).size ≤ s.size := by
 rw [ba_size, ba_extract, ba_size s, List.length_drop, List.length_take]; omega
theorem rNum_sz (s : ByteArray) (e : Int) : (rNum s e).2.1.size ≤ s.size := by
 unfold rNum
 split
 ·dsimp only; split
  ·exact ext_sz _ _ _
  ·exact Nat.le_refl _
 ·exact Nat.le_refl _
theorem rNum_bd (s : ByteArray) (e : Int) : 0 ≤ (rNum s e).1 ∧ (rNum s e).1 ≤ 9007199254740992 := by
 unfold rNum
 split
 ·exact (numW_bd s).1
 ·exact ⟨Int.le_refl _, by show (0 : Int) ≤ _; omega⟩
structure KV (n : Nat) (cur : List S55) : Prop where
 so : sortK cur
 len : cur.length ≤ n
 val : ∀ p ∈ cur, p.f1.size ≤ 65536
theorem KV.get {n : Nat} {cur : List S55} (h : KV n cur) (key : ByteArray) : (getK cur key).1.size ≤ 65536 := by
 unfold getK
 split
 ·rename_i hh
  obtain ⟨hp, _⟩ := hasK_lt hh
  rw [rdP _ _ hp]
  exact h.val _ (List.getElem_mem hp)
 ·exact Nat.zero_le _
theorem KV.set {n : Nat} {cur : List S55} (h : KV n cur) (key value : ByteArray) (hv : value.size ≤ 65536) : KV (n + 1) (setK cur key value) := by
 refine ⟨sortK_set h.so _ _, Nat.le_trans (setK_len _ _ _) (Nat.succ_le_succ h.len), fun p hp => ?_⟩
 unfold setK at hp
 split at hp
 ·rcases List.mem_or_eq_of_mem_set hp with hp | rfl
  ·exact h.val p hp
  ·exact hv
 ·rcases List.mem_append.1 hp with hp | hp
  ·exact h.val p (List.mem_of_mem_take hp)
  ·rcases List.mem_cons.1 hp with rfl | hp
   ·exact hv
   ·exact h.val p (List.mem_of_mem_drop hp)
theorem KV.mono {n m : Nat} {cur : List S55} (h : KV n cur) (hm : n ≤ m) : KV m cur := ⟨h.so, Nat.le_trans h.len hm, h.val⟩
theorem KV.del {n : Nat} {cur : List S55} (h : KV n cur) (key : ByteArray) : KV n (delK cur key) := by
 refine ⟨sortK_del h.so _, Nat.le_trans (delK_len _ _) h.len, fun p hp => ?_⟩
 unfold delK at hp
 split at hp
 ·rcases List.mem_append.1 hp with hp | hp
  ·exact h.val p (List.mem_of_mem_take hp)
  ·exact h.val p (List.mem_of_mem_drop hp)
 ·exact h.val p hp
theorem KV.nil (n : Nat) : KV n [] := ⟨List.Pairwise.nil, Nat.zero_le _, by simp⟩
def setC (cur : List S55) (key value : ByteArray) : List S55 := if key.size > 65536 ∨ value.size > 65536 then cur else setK cur key value
theorem KV.put {n : Nat} {cur : List S55} (h : KV n cur) (key value : ByteArray) : KV (n + 1) (setC cur key value) := by
 unfold setC
 split
 ·exact h.mono (Nat.le_succ _)
 ·exact h.set _ _ (by omega)
theorem setJ0 (cur : List S55) (key value : ByteArray) : setJ ⟨cur, []⟩ key value = ⟨setC cur key value, []⟩ := by
 unfold setJ setC
 split <;> rfl
theorem delK_no {cur : List S55} {key : ByteArray} (h : ¬ hasK cur key = true) : delK cur key = cur := by unfold delK; rw [if_neg h]
theorem delJ0 (cur : List S55) (key : ByteArray) : delJ ⟨cur, []⟩ key = ⟨delK cur key, []⟩ := by
 unfold delJ
 by_cases h : hasK cur key = true
 ·rw [if_pos h]; rfl
 ·rw [if_neg h, delK_no h]
structure JK (w w' : World) : Prop where
 size : w.heap.size ≤ w'.heap.size
 keep : ∀ (k : Nat) (cells : Array Value) (q : TypeId) (x : Nat × Nat), w.heap[k]? = some (Obj.cells cells q x) → q ∉ JT → w'.heap[k]? = w.heap[k]?
theorem JK.of_below {w w' : World} (h : Below w.heap.size w w') : JK w w' := ⟨h.size, fun k _ _ _ hk _ => h.block k (blk_lt hk)⟩
theorem JK.trans {w w1 w2 : World} (h : JK w w1) (k : JK w1 w2) : JK w w2 := ⟨Nat.le_trans h.size k.size, fun b c q x hb hq => (k.keep b c q x ((h.keep b c q x hb hq).trans hb) hq).trans (h.keep b c q x hb hq)⟩
theorem JK.blk {w w' : World} {b : Nat} {c : Array Value} {q : TypeId} {x : Nat × Nat} (h : JK w w') (hb : w.heap[b]? = some (.cells c q x)) (hq : q ∉ JT) : w'.heap[b]? = some (.cells c q x) := (h.keep b c q x hb hq).trans hb
structure JS (base : Nat) (ok : Nat → Prop) (w0 : World) (g : Nat) (cur : List S55) (w : World) : Prop where
 m : JM base (fun k => ok k ∨ w0.heap.size ≤ k) g ⟨cur, []⟩ w
 jw : JW ok w0 w
 b : base ≤ w0.heap.size
theorem JS.start {base g : Nat} {ok : Nat → Prop} {cur : List S55} {w : World} (h : JM base ok g ⟨cur, []⟩ w) (hb : base ≤ w.heap.size) : JS base ok w g cur w := ⟨h.mono (fun _ hk => .inl hk), JW.of_below (Below.refl _ _), hb⟩
theorem JS.below {base g : Nat} {ok : Nat → Prop} {w0 : World} {cur : List S55} {w w' : World} (h : JS base ok w0 g cur w) (hb : Below w.heap.size w w') : JS base ok w0 g cur w' := ⟨h.m.below hb, h.jw.trans (JW.of_below hb : JW ok w w') (fun i hi => .inl hi), h.b⟩
theorem JS.hb {base g : Nat} {ok : Nat → Prop} {w0 : World} {cur : List S55} {w : World} (h : JS base ok w0 g cur w) : base ≤ w.heap.size := Nat.le_trans h.b h.jw.size
def BD (base : Nat) (ok : Nat → Prop) (w0 w : World) (k : Nat) : Prop := (ok k ∨ w0.heap.size ≤ k) ∧ base ≤ k ∧ k < w.heap.size ∧ ∃ q, q ∈ JT ∧ ∃ cells, w.heap[k]? = some (.cells cells q (0, 0))
theorem JS.bd {base g : Nat} {ok : Nat → Prop} {w0 : World} {cur : List S55} {w : World} (h : JS base ok w0 g cur w) : JM base (BD base ok w0 w) g ⟨cur, []⟩ w := h.m.bound
theorem JS.post {base g : Nat} {ok : Nat → Prop} {w0 : World} {cur cur' : List S55} {w w' : World} {r : Value} {e : Ending} (h : JS base ok w0 g cur w) (hp : JPost base (BD base ok w0 w) g ⟨cur', []⟩ r w e w') : e = .returned r ∧ JS base ok w0 g cur' w' ∧ JK w w' := by
 obtain ⟨h1, h2, h3⟩ := hp
 refine ⟨h1, ⟨h2.mono (fun k hk => hk.elim (fun hk => hk.1) (fun hk => .inr (Nat.le_trans h.jw.size hk))), h.jw.trans h3 (fun i hi => hi.1), h.b⟩, ⟨h3.size, fun k cells q x hk hq => h3.block k (blk_lt hk) (fun hb => ?_)⟩⟩
 obtain ⟨_, _, _, q2, hq2, c2, hc2⟩ := hb
 exact hq (blk_ty hk hc2 ▸ hq2)
theorem JS.set_ {base g : Nat} {ok : Nat → Prop} {w0 : World} {cur : List S55} {w : World} (h : JS base ok w0 g cur w) {p : Addr} (v : Value) (hn : w0.heap.size ≤ p.block) (c : Array Value) (q : TypeId) (x : Nat × Nat) (hp : w.heap[p.block]? = some (.cells c q x)) (hq : q ∉ JT) : JS base ok w0 g cur (w.setCell p v) := by
 have hf : ∀ k, k ≠ p.block → (w.setCell p v).heap[k]? = w.heap[k]? := fun k hk => Below.heap_setCell w p v k hk
 refine ⟨?_, h.jw.trans (ok' := fun k => k = p.block) ⟨rfl, rfl, rfl, by simp [World.setCell], fun i _ hi => hf i hi⟩ (fun i hi => .inr (by rw [hi]; exact hn)), h.b⟩
 have hm := h.bd
 refine (hm.move (fun k cells t hk hc => hf k (fun e => ?_))).mono (fun k hk => hk.1)
 obtain ⟨_, _, _, q2, hq2, c2, hc2⟩ := hk
 subst e
 exact hq (blk_ty hp hc2 ▸ hq2)
theorem JS.drewN {base g : Nat} {ok : Nat → Prop} {w0 : World} {cur : List S55} {w : World} (h : JS base ok w0 g cur w) (n : Nat) : JS base ok w0 g cur (w.drewN n) := h.below (pw_below_drewN (Below.refl _ _) n)
theorem JS.drew {base g : Nat} {ok : Nat → Prop} {w0 : World} {cur : List S55} {w : World} (h : JS base ok w0 g cur w) : JS base ok w0 g cur w.drew := h.below (below_drew1 (Below.refl _ _))
theorem JS.alloc {base g : Nat} {ok : Nat → Prop} {w0 : World} {cur : List S55} {w : World} (h : JS base ok w0 g cur w) (o : Obj) : JS base ok w0 g cur (w.alloc o) := h.below (below_alloc (Below.refl _ _) o)
theorem JS.size0 {base g : Nat} {ok : Nat → Prop} {w0 : World} {cur : List S55} {w : World} (h : JS base ok w0 g cur w) : w0.heap.size ≤ w.heap.size := h.jw.size
theorem JS.setb {base g : Nat} {ok : Nat → Prop} {w0 : World} {cur : List S55} {w : World} (h : JS base ok w0 g cur w) {p : Addr} (hn : w0.heap.size ≤ p.block) {c : Array Value} {q : TypeId} (hp : w.heap[p.block]? = some (.cells c q (0, 0))) (v : Value) (hq : q ∉ JT) : JS base ok w0 g cur (w.setCell p v) := h.set_ v hn c q _ hp hq
theorem JK.drewN {w W : World} (h : JK w W) (n : Nat) : JK w (W.drewN n) := h.trans (JK.of_below (pw_below_drewN (Below.refl _ _) n))
theorem JK.drew {w W : World} (h : JK w W) : JK w W.drew := h.trans (JK.of_below (below_drew1 (Below.refl _ _)))
theorem JK.alloc {w W : World} (h : JK w W) (o : Obj) : JK w (W.alloc o) := h.trans (JK.of_below (below_alloc (Below.refl _ _) o))
theorem JK.setb {w W : World} (h : JK w W) {p : Addr} (hn : w.heap.size ≤ p.block) (v : Value) : JK w (W.setCell p v) :=
 ⟨by simpa [World.setCell] using h.size, fun k cells q x hk hq => (Below.heap_setCell W p v k (fun e => by have := blk_lt hk; omega)).trans (h.keep k cells q x hk hq)⟩
theorem js_get {base g : Nat} {ok : Nat → Prop} {w0 : World} {cur : List S55} (key v : ByteArray) (b : Bool) {w : World} (h : JS base ok w0 g cur w) (hk : KV 1000000 cur) (hv : (getK cur key).1 = v) (hb : hasK cur key = b) :
  Calls Tryz.prog 31 #[.pointer (some ⟨g, 0, none⟩), .string key] w fun e w' => e = .returned (.tuple #[.string v, .bool b]) ∧ Below w.heap.size w w' := by
 have e : (getK cur key).2 = hasK cur key := by unfold getK; cases hasK cur key <;> rfl
 rw [← hv, ← hb, ← e]
 exact j_get base g _ ⟨cur, []⟩ key w h.m (Nat.le_trans hk.len (by decide))
theorem js_set {base g : Nat} {ok : Nat → Prop} {w0 : World} {cur : List S55} (key value : ByteArray) {w : World} (h : JS base ok w0 g cur w) (hk : KV 1000000 cur) :
  Calls Tryz.prog 40 #[.pointer (some ⟨g, 0, none⟩), .string key, .string value] w fun e w' => e = .returned (.int .i64 (setE key value)) ∧ JS base ok w0 g (setC cur key value) w' ∧ JK w w' := by
 have := j_set base g (BD base ok w0 w) ⟨cur, []⟩ key value w h.bd (Nat.le_trans hk.len (by decide)) (by simp) (by simp) h.hb
 rw [setJ0] at this
 exact this.mono (fun e w' hp => h.post hp)
theorem js_del {base g : Nat} {ok : Nat → Prop} {w0 : World} {cur : List S55} (key : ByteArray) {w : World} (h : JS base ok w0 g cur w) (hk : KV 1000000 cur) :
  Calls Tryz.prog 24 #[.pointer (some ⟨g, 0, none⟩), .string key] w fun e w' => e = .returned (.int .i64 (delE ⟨cur, []⟩ key)) ∧ JS base ok w0 g (delK cur key) w' ∧ JK w w' := by
 have := j_del base g (BD base ok w0 w) ⟨cur, []⟩ key w h.bd (Nat.le_trans hk.len (by decide)) (by simp) (by simp) h.hb
 rw [delJ0] at this
 exact this.mono (fun e w' hp => h.post hp)
def nm_headL (a : Int) : List UInt8 := if a = 1 then [99, 104, 97, 110, 110, 101, 108, 45] else if a = 2 then [99, 111, 110, 110, 101, 99, 116, 105, 111, 110, 45] else if a = 3 then [99, 108, 105, 101, 110, 116, 45] else []
theorem nm_head_is (a : Int) : names_head.f a = some (ofL (nm_headL a)) := by
 unfold names_head.f nm_headL
 split
 ·rfl
 ·split
  ·rfl
  ·split <;> rfl
theorem nm_hasPrefix_is (s h : ByteArray) : stringslite_HasPrefix.f s h = some (decide (h.toList <+: s.toList)) := by
 unfold stringslite_HasPrefix.f
 by_cases hs : (s.size : Int) ≥ (h.size : Int)
 ·rw [if_pos hs, if_pos (by omega), if_pos hs]
  congr 1
  rw [ba_extract, List.drop_zero, Int.toNat_natCast, Bool.eq_iff_iff, beq_iff_eq, decide_eq_true_iff, List.prefix_iff_eq_take, ba_size h]
  exact eq_comm
 ·rw [if_neg hs]
  congr 1
  symm
  rw [decide_eq_false_iff_not]
  intro hp
  have := hp.length_le
  rw [← ba_size, ← ba_size] at this
  omega
theorem nm_cutPrefix_is (s h : ByteArray) : strings_CutPrefix.f s h = some (if h.toList <+: s.toList then (ofL (s.toList.drop h.size), true) else (s, false)) := by
 unfold strings_CutPrefix.f stringslite_CutPrefix.f
 rw [nm_hasPrefix_is, Option.bind_some]
 by_cases hp : h.toList <+: s.toList
 ·have hl := hp.length_le
  rw [← ba_size, ← ba_size] at hl
  rw [decide_eq_true hp, if_pos rfl, if_pos (by omega), if_pos (by omega), Option.bind_some, if_pos hp]
  congr 2
  apply ba_ext
  rw [ba_extract, ofL_toList, Int.toNat_natCast, ba_size s, List.take_length]
 ·rw [decide_eq_false hp, if_neg (by simp), Option.bind_some, if_neg hp]
theorem nm_go_is (s : ByteArray) (d : Nat) : ∀ (i n : Nat), i ≤ s.size → d = s.size + 1 - i → n ≤ 1099511627776 → names_Number.go s d i (n : Int) = if (∀ c ∈ s.toList.drop i, isDig c) ∧ (s.toList.drop i).foldl dstep n ≤ 1099511627776 then some (((s.toList.drop i).foldl dstep n : Nat) : Int) else none := by
 induction d with
 | zero => intro i n hi hd; omega
 | succ d ih =>
  intro i n hi hd hn
  unfold names_Number.go
  by_cases h : i < s.size
  ·have hl : i < s.toList.length := by rw [← ba_size]; exact h
   have hb := bt_get s i hl
   rw [if_pos h, List.drop_eq_getElem_cons hl]
   generalize s.toList[i] = c at *
   simp only [List.mem_cons, List.foldl_cons, forall_eq_or_imp]
   by_cases h1 : bt s i < 48
   ·rw [if_pos h1, if_neg]
    rintro ⟨⟨hc, _⟩, _⟩
    unfold isDig at hc; omega
   ·rw [if_neg h1]
    by_cases h2 : bt s i > 57
    ·rw [if_pos h2, if_neg]
     rintro ⟨⟨hc, _⟩, _⟩
     unfold isDig at hc; omega
    ·rw [if_neg h2]
     have hc : isDig c := by unfold isDig; omega
     have he : (n : Int) * 10 + (bt s i - 48) = ((dstep n c : Nat) : Int) := by unfold dstep; rw [hb]; unfold isDig at hc; omega
     rw [he]
     by_cases h3 : ((dstep n c : Nat) : Int) > 1099511627776
     ·rw [if_pos h3, if_neg]
      rintro ⟨_, hle⟩
      have := foldl_dstep_ge (s.toList.drop (i + 1)) (dstep n c)
      omega
     ·rw [if_neg h3, ih (i + 1) (dstep n c) (by omega) (by omega) (by omega)]
      simp only [hc, true_and]
  ·rw [if_neg h]
   have : s.toList.drop i = [] := by rw [List.drop_eq_nil_iff, ← ba_size]; omega
   rw [this]
   simp [hn]
def nm_numOk (h l : List UInt8) : Prop := h <+: l ∧ l.drop h.length ≠ [] ∧ plainDec (l.drop h.length) ∧ (∀ c ∈ l.drop h.length, isDig c) ∧ dval (l.drop h.length) ≤ 1099511627776
open Classical in
noncomputable def nm_numSpec (h l : List UInt8) : Int × Int := if h = [] then (0, 1) else if nm_numOk h l then ((dval (l.drop h.length) : Nat), 0) else (0, 7)
theorem nm_plainDec_iff (l : List UInt8) (hn : l ≠ []) : plainDec l ↔ ¬ (1 < (ofL l).size ∧ bt (ofL l) 0 = 48) := by
 obtain ⟨c, t, rfl⟩ := List.exists_cons_of_ne_nil hn
 have hb : bt (ofL (c :: t)) 0 = ((c.toNat : Nat) : Int) := by
  have := bt_get (ofL (c :: t)) 0 (by rw [ofL_toList]; simp)
  simp only [ofL_toList] at this
  exact this
 rw [hb, ofL_size]
 unfold plainDec
 simp only [List.length_cons, List.head?_cons, ne_eq, Option.some.injEq]
 constructor
 ·rintro (h | h) ⟨h1, h2⟩
  ·omega
  ·exact h (UInt8.toNat_inj.1 (by have : (48 : UInt8).toNat = 48 := rfl; omega))
 ·intro h
  by_cases hl : t.length = 0
  ·exact .inl (by omega)
  ·right
   intro he
   apply h
   rw [he]
   exact ⟨by omega, rfl⟩
theorem nm_number_is (a : Int) (s : ByteArray) (hs : s.size ≤ 140737488351232) : names_Number.f a s = some (nm_numSpec (nm_headL a) s.toList) := by
 unfold names_Number.f nm_numSpec
 rw [if_pos hs, nm_head_is, Option.bind_some, ofL_toList]
 by_cases hh : nm_headL a = []
 ·rw [if_pos hh, if_pos hh]
 ·rw [if_neg hh, if_neg hh, nm_cutPrefix_is, Option.bind_some, ofL_toList, ofL_size]
  by_cases hp : nm_headL a <+: s.toList
  ·rw [if_pos hp]
   simp only [Bool.true_eq_false, if_false, ofL_toList]
   by_cases he : s.toList.drop (nm_headL a).length = []
   ·rw [if_pos he, if_neg]
    rintro ⟨_, h2, _⟩
    exact h2 he
   ·rw [if_neg he]
    have hpi := nm_plainDec_iff _ he
    by_cases hz : 1 < (ofL (s.toList.drop (nm_headL a).length)).size ∧ bt (ofL (s.toList.drop (nm_headL a).length)) 0 = 48
    ·rw [if_pos hz, if_neg]
     rintro ⟨_, _, h3, _⟩
     exact hpi.1 h3 hz
    ·rw [if_neg hz]
     have hsz : (ofL (s.toList.drop (nm_headL a).length)).size ≤ 140737488351232 := by
      rw [ofL_size, List.length_drop, ← ba_size]; omega
     rw [if_pos hsz]
     have hg := nm_go_is (ofL (s.toList.drop (nm_headL a).length)) _ 0 0 (by omega) rfl (by omega)
     rw [show (((0 : Nat) : Int)) = 0 from rfl] at hg
     rw [Nat.sub_zero, List.drop_zero, ofL_toList] at hg
     rw [hg]
     by_cases hd : (∀ c ∈ s.toList.drop (nm_headL a).length, isDig c) ∧ (s.toList.drop (nm_headL a).length).foldl dstep 0 ≤ 1099511627776
     ·rw [if_pos hd, if_pos]
      ·rfl
      ·exact ⟨hp, he, hpi.2 hz, hd.1, hd.2⟩
     ·rw [if_neg hd, if_neg]
      rintro ⟨_, _, _, h4, h5⟩
      exact hd ⟨h4, h5⟩
  ·rw [if_neg hp, if_pos rfl, if_neg (fun h : nm_numOk _ _ => hp h.1)]
def nm_letP (c : Int) : Prop := (97 ≤ c ∧ c ≤ 122) ∨ (65 ≤ c ∧ c ≤ 90) ∨ (48 ≤ c ∧ c ≤ 57) ∨ c = 46 ∨ c = 95 ∨ c = 45
instance (c : Int) : Decidable (nm_letP c) := by unfold nm_letP; infer_instance
theorem nm_letter_is (c : Int) (k : Nat) : names_letter.f (k + 3) c = some (decide (nm_letP c)) := by
 unfold names_letter.f
 simp only [names_letter.j0, names_letter.j1, names_letter.j2]
 repeat' split
 all_goals (try simp only [decide_eq_true_iff, Bool.false_eq_true] at *)
 all_goals (first | exact congrArg some (decide_eq_true (by unfold nm_letP; omega)).symm | exact congrArg some (decide_eq_false (by unfold nm_letP; omega)).symm)
theorem nm_letter_at (c : Int) (k : Nat) (h : 3 ≤ k) : names_letter.f k c = some (decide (nm_letP c)) := by
 obtain ⟨m, rfl⟩ : ∃ m, k = m + 3 := ⟨k - 3, by omega⟩
 exact nm_letter_is c m
def nm_plainP (s : ByteArray) : Prop := 1 ≤ s.size ∧ s.size ≤ 64 ∧ ∀ i : Nat, i < s.size → nm_letP (bt s i)
open Classical in
theorem nm_plain_is (s : ByteArray) (hs : s.size ≤ 140737488351232) : Ev (fun k => names_plain.f k s) (decide (nm_plainP s)) := by
 have loop : ∀ (d i : Nat) (b : Bool), d = s.size - i → i ≤ s.size → ∀ k, d + 5 ≤ k → names_plain.l0 k s b (s.size : Int) (i : Int) = some (b && decide (∀ j : Nat, i ≤ j → j < s.size → nm_letP (bt s j))) := by
  intro d
  induction d with
  | zero =>
   intro i b hd hi k hk
   obtain ⟨k, rfl⟩ : ∃ m, k = m + 1 := ⟨k - 1, by omega⟩
   simp only [names_plain.l0]
   rw [if_neg (by omega), decide_eq_true (fun j h1 h2 => by omega), Bool.and_true]
  | succ d ih =>
   intro i b hd hi k hk
   obtain ⟨k, rfl⟩ : ∃ m, k = m + 1 := ⟨k - 1, by omega⟩
   simp only [names_plain.l0]
   rw [if_pos (by omega), if_pos (by omega), if_pos (by omega), nm_letter_at _ _ (by omega), Option.bind_some]
   by_cases hl : nm_letP (bt s i)
   ·rw [decide_eq_true hl, if_pos rfl, w64 (by omega) (by omega), show ((i : Int) + 1) = ((i + 1 : Nat) : Int) from rfl, ih (i + 1) b (by omega) (by omega) _ (by omega)]
    congr 2
    rw [decide_eq_decide]
    constructor
    ·intro h j h1 h2
     by_cases he : j = i
     ·rw [he]; exact hl
     ·exact h j (by omega) h2
    ·intro h j h1 h2
     exact h j (by omega) h2
   ·rw [decide_eq_false hl, if_neg (by simp), decide_eq_false (fun h => hl (h i (Nat.le_refl _) (by omega))), Bool.and_false]
 refine ⟨s.size + 6, fun k hk => ?_⟩
 obtain ⟨k, rfl⟩ : ∃ m, k = m + 1 := ⟨k - 1, by omega⟩
 have hl := fun b => loop s.size 0 b (by omega) (by omega) k (by omega)
 unfold names_plain.f
 simp only [names_plain.j0]
 by_cases h0 : s.toList = []
 ·rw [if_pos h0]
  have hz : s.size = 0 := by rw [ba_size, h0]; rfl
  have := hl false
  rw [show ((0 : Nat) : Int) = 0 from rfl] at this
  rw [this, Bool.false_and, decide_eq_false (fun h : nm_plainP s => by have := h.1; omega)]
 ·rw [if_neg h0]
  have hz : 1 ≤ s.size := by rw [ba_size]; exact List.length_pos_iff.2 h0
  have := hl (decide ((s.size : Int) ≤ 64))
  rw [show ((0 : Nat) : Int) = 0 from rfl] at this
  rw [this]
  congr 1
  rw [Bool.eq_iff_iff, Bool.and_eq_true, decide_eq_true_iff, decide_eq_true_iff, decide_eq_true_iff]
  constructor
  ·rintro ⟨h1, h2⟩
   exact ⟨hz, by omega, fun i hi => h2 i (Nat.zero_le _) hi⟩
  ·rintro ⟨_, h1, h2⟩
   exact ⟨by omega, fun i _ hi => h2 i hi⟩
open Classical in
noncomputable def nm_checkSpec (a : Int) (s : ByteArray) : Int := if a < 0 then 1 else if a > 6 then 1 else if nm_headL a = [] then (if nm_plainP s then 0 else 7) else (nm_numSpec (nm_headL a) s.toList).2
open Classical in
theorem nm_check_ev (a : Int) (s : ByteArray) (hs : s.size ≤ 140737488351232) : Ev (fun k => names_Check.f k a s) (nm_checkSpec a s) := by
 obtain ⟨K, hK⟩ := nm_plain_is s hs
 refine ⟨K + 1, fun k hk => ?_⟩
 obtain ⟨k, rfl⟩ : ∃ m, k = m + 1 := ⟨k - 1, by omega⟩
 have hp : names_plain.f k s = _ := hK k (by omega)
 show names_Check.f _ a s = _
 unfold names_Check.f nm_checkSpec
 by_cases h1 : a < 0
 ·rw [if_pos h1, if_pos h1]
  simp only [names_Check.j0]
  rw [if_pos trivial]
 ·rw [if_neg h1, if_neg h1]
  simp only [names_Check.j0]
  by_cases h2 : a > 6
  ·rw [if_pos h2, decide_eq_true h2, if_pos rfl]
  ·rw [if_neg h2, decide_eq_false h2, if_neg (by simp), nm_head_is, Option.bind_some, ofL_toList]
   by_cases h3 : nm_headL a = []
   ·rw [if_pos h3, if_pos h3, hp, Option.bind_some]
    by_cases h4 : nm_plainP s
    ·rw [decide_eq_true h4, if_pos rfl, if_pos h4]
    ·rw [decide_eq_false h4, if_neg (by simp), if_neg h4]
   ·rw [if_neg h3, if_neg h3, nm_number_is a s hs, Option.bind_some]
theorem nm_eq (a : Int) (s : ByteArray) (hs : s.size ≤ 140737488351232) (k : Nat) (n : Int) (h : names_Check.f k a s = some n) : nm_checkSpec a s = n := by
 obtain ⟨K, hK⟩ := nm_check_ev a s hs
 obtain ⟨K2, hK2⟩ := Ev.of (g := fun k => names_Check.f k a s) (names_Check.mono a s) h
 exact Option.some.inj ((hK (max K K2) (by omega)).symm.trans (hK2 (max K K2) (by omega)))
def bkNum (n : Int) : ByteArray := if n < 0 ∨ 9007199254740992 < n then (⟨#[]⟩ : ByteArray) else numB n.toNat
def J1 (n g : Nat) (cur : List S55) (v : Value) (l : List S55) (W : World) : Prop :=
 ∃ ok : Nat → Prop, (∀ k, ok k → n ≤ k ∧ k < W.heap.size) ∧ JM n ok g ⟨cur, []⟩ W ∧ Kd.V k55 55 W 0 (fun k => ¬ ok k) v l
theorem J1.of {n g : Nat} {cur : List S55} {v : Value} {l : List S55} {W : World} {ok : Nat → Prop} (hm : JM n ok g ⟨cur, []⟩ W) (hv : Kd.V k55 55 W 0 (fun k => ¬ ok k) v l) : J1 n g cur v l W :=
 ⟨_, fun k hk => ⟨hk.2.1, hk.2.2.1⟩, hm.bound, Kd.V_mono hv (fun k hk h => hk h.1)⟩
theorem J1.below {n g : Nat} {cur : List S55} {v : Value} {l : List S55} {W W' : World} (h : J1 n g cur v l W) (hb : Below W.heap.size W W') : J1 n g cur v l W' := by
 obtain ⟨ok, h1, h2, h3⟩ := h
 exact ⟨ok, fun k hk => ⟨(h1 k hk).1, Nat.lt_of_lt_of_le (h1 k hk).2 hb.size⟩, h2.below hb, Kd.V_below h3 hb⟩
theorem J1.did {n g : Nat} {cur : List S55} {v : Value} {l : List S55} {ok : Nat → Prop} {W W' : World} (hv : Kd.V k55 55 W 0 (fun k => ¬ ok k) v l)
  (h : JS n ok W g cur W') : J1 n g cur v l W' :=
 J1.of h.m (Kd.V_mono (Kd.V_step (Kd.V_bound hv) (fun k hk hlt => h.jw.block k hlt hk.1)) (fun k hk h => h.elim hk.1 (fun h => by have := hk.2; omega)))
theorem hasK_in {l : List S55} {key : ByteArray} (h : hasK l key = true) : ∃ p ∈ l, p.f0 = key := by
 obtain ⟨hp, e⟩ := hasK_lt h
 exact ⟨_, List.getElem_mem hp, e⟩
theorem hasK_not {l : List S55} {key : ByteArray} (h : ∀ p ∈ l, p.f0 ≠ key) : hasK l key = false := by
 cases e : hasK l key with
 | false => rfl
 | true => obtain ⟨p, hp, hk⟩ := hasK_in e; exact absurd hk (h p hp)
theorem getK_no {l : List S55} {key : ByteArray} (h : hasK l key = false) : getK l key = ((⟨#[]⟩ : ByteArray), false) := by unfold getK; rw [h]; rfl
theorem mem_setK {l : List S55} {key value : ByteArray} {p : S55} (h : p ∈ setK l key value) : p = ⟨key, value⟩ ∨ p ∈ l := by
 unfold setK at h
 split at h
 ·rcases List.mem_or_eq_of_mem_set h with h | h
  ·exact .inr h
  ·exact .inl h
 ·rcases List.mem_append.1 h with h | h
  ·exact .inr (List.mem_of_mem_take h)
  ·rcases List.mem_cons.1 h with h | h
   ·exact .inl h
   ·exact .inr (List.mem_of_mem_drop h)
theorem mem_delK {l : List S55} {key : ByteArray} {p : S55} (h : p ∈ delK l key) : p ∈ l := by
 unfold delK at h
 split at h
 ·rcases List.mem_append.1 h with h | h
  ·exact List.mem_of_mem_take h
  ·exact List.mem_of_mem_drop h
 ·exact h
theorem getK_set {l : List S55} (hs : sortK l) (key value : ByteArray) : getK (setK l key value) key = (value, true) := by
 obtain ⟨A, B, hA, hB, h⟩ := decK hs key
 rcases h with ⟨_, x, hx, rfl⟩ | ⟨hn, rfl⟩
 ·rw [setK_mid value hA hx hB]; exact getK_mid hA rfl hB
 ·rw [setK_new value hA hB hn]; exact getK_mid hA rfl hB
theorem key_head (a : ByteArray) (l : List ByteArray) (c : UInt8) (t : List UInt8) (h : a.toList = c :: t) (h1 : c ≠ 37) (h2 : c ≠ 47) : (keyB a l).toList.head? = some c := by
 unfold keyB keyL glue
 rw [ofL_toList, h, hidL_cons, if_neg h1, if_neg h2]
 rfl
theorem V_js {n g t : Nat} {ok : Nat → Prop} {cur l : List S55} {v : Value} {w0 W : World} (h : JS n ok w0 g cur W) (hv : Kd.V k55 t w0 0 (fun k => ¬ ok k) v l) : Kd.V k55 t W 0 (fun k => ¬ ok k ∧ k < w0.heap.size) v l :=
 Kd.V_step (Kd.V_bound hv) (fun k hk hlt => h.jw.block k hlt hk.1)
theorem V_C {P : Nat → Prop} {A : Option Addr} {c m t : Nat} {l : List S55} {W : World} (h : Kd.V k55 t W 0 P (.slice A m c) l) : Kd.C k55 W A l.length l ∧ l.length ≤ c := by
 obtain ⟨A', c', e, hl, hf⟩ := h
 injection e with e1 e2 e3
 subst e1 e3
 exact ⟨Kd.F_now hf, hl⟩
theorem JS.old {n m g : Nat} {ok : Nat → Prop} {cur : List S55} {w w0 W : World} (h : JS n ok w0 g cur W) (hb : Below m w w0) (hm : m ≤ w0.heap.size) (hk : ∀ k, ok k → m ≤ k) : Below m w W := JW.toBelow hb hm h.jw hk
theorem getK_mem {l : List S55} (hs : sortK l) {p : S55} (hp : p ∈ l) : getK l p.f0 = (p.f1, true) ∧ hasK l p.f0 = true := by
 obtain ⟨A, B, rfl⟩ := List.append_of_mem hp
 have h := List.pairwise_append.1 hs
 have hA : ∀ a ∈ A, kLt a.f0 p.f0 = true := fun a ha => h.2.2 a ha p List.mem_cons_self
 have hB : ∀ b ∈ B, kLt b.f0 p.f0 = false := fun b hb => by
  cases e : kLt b.f0 p.f0 with
  | false => rfl
  | true =>
   have h3 := kLt_trans e (List.rel_of_pairwise_cons h.2.1 hb)
   rw [kLt_irr] at h3; cases h3
 exact ⟨getK_mid hA rfl hB, hasK_mid hA rfl hB⟩
theorem getK_none {l : List S55} {key : ByteArray} (h : ¬ hasK l key = true) : getK l key = ((⟨#[]⟩ : ByteArray), false) := getK_no (Bool.eq_false_iff.2 h)
theorem setK_keep {l : List S55} (hs : sortK l) {key : ByteArray} (value : ByteArray) {p : S55} (hp : p ∈ l) (hk : p.f0 ≠ key) : p ∈ setK l key value := by
 obtain ⟨A, B, hA, hB, h⟩ := decK hs key
 rcases h with ⟨_, x, hx, rfl⟩ | ⟨hn, rfl⟩
 ·rw [setK_mid value hA hx hB]
  rcases List.mem_append.1 hp with hp | hp
  ·exact List.mem_append_left _ hp
  ·rcases List.mem_cons.1 hp with rfl | hp
   ·exact absurd hx hk
   ·exact List.mem_append_right _ (List.mem_cons_of_mem _ hp)
 ·rw [setK_new value hA hB hn]
  rcases List.mem_append.1 hp with hp | hp
  ·exact List.mem_append_left _ hp
  ·exact List.mem_append_right _ (List.mem_cons_of_mem _ hp)
theorem delK_keep {l : List S55} (hs : sortK l) {key : ByteArray} {p : S55} (hp : p ∈ l) (hk : p.f0 ≠ key) : p ∈ delK l key := by
 by_cases hh : hasK l key = true
 ·obtain ⟨A, B, hA, hB, h⟩ := decK hs key
  rcases h with ⟨_, x, hx, rfl⟩ | ⟨hn, rfl⟩
  ·rw [delK_mid hA hx hB]
   rcases List.mem_append.1 hp with hp | hp
   ·exact List.mem_append_left _ hp
   ·rcases List.mem_cons.1 hp with rfl | hp
    ·exact absurd hx hk
    ·exact List.mem_append_right _ hp
  ·rw [hn] at hh; cases hh
 ·rw [delK_no hh]; exact hp
theorem hasK_setK {l : List S55} (hs : sortK l) {key k2 : ByteArray} (value : ByteArray) (h : k2 ≠ key) : hasK (setK l key value) k2 = hasK l k2 ∧ getK (setK l key value) k2 = getK l k2 := by
 by_cases hh : hasK l k2 = true
 ·obtain ⟨p, hp, rfl⟩ := hasK_in hh
  have h1 := getK_mem hs hp
  have h2 := getK_mem (sortK_set hs key value) (setK_keep hs value hp h)
  exact ⟨h2.2.trans h1.2.symm, h2.1.trans h1.1.symm⟩
 ·have h3 : ¬ hasK (setK l key value) k2 = true := fun e => by
   obtain ⟨p, hp, rfl⟩ := hasK_in e
   rcases mem_setK hp with rfl | hp
   ·exact h rfl
   ·exact hh (getK_mem hs hp).2
  rw [getK_none hh, getK_none h3, Bool.eq_false_iff.2 hh, Bool.eq_false_iff.2 h3]
  exact ⟨rfl, rfl⟩
theorem hasK_delK {l : List S55} (hs : sortK l) {key k2 : ByteArray} (h : k2 ≠ key) : hasK (delK l key) k2 = hasK l k2 ∧ getK (delK l key) k2 = getK l k2 := by
 by_cases hh : hasK l k2 = true
 ·obtain ⟨p, hp, rfl⟩ := hasK_in hh
  have h1 := getK_mem hs hp
  have h2 := getK_mem (sortK_del hs key) (delK_keep hs hp h)
  exact ⟨h2.2.trans h1.2.symm, h2.1.trans h1.1.symm⟩
 ·have h3 : ¬ hasK (delK l key) k2 = true := fun e => by
   obtain ⟨p, hp, rfl⟩ := hasK_in e
   exact hh (getK_mem hs (mem_delK hp)).2
  rw [getK_none hh, getK_none h3, Bool.eq_false_iff.2 hh, Bool.eq_false_iff.2 h3]
  exact ⟨rfl, rfl⟩
theorem hasK_gone {l : List S55} (hs : sortK l) (key : ByteArray) : hasK (delK l key) key = false := by
 by_cases hh : hasK l key = true
 ·obtain ⟨A, B, hA, hB, h⟩ := decK hs key
  rcases h with ⟨_, x, hx, rfl⟩ | ⟨hn, rfl⟩
  ·rw [delK_mid hA hx hB]
   refine hasK_not (fun p hp e => ?_)
   have h := List.pairwise_append.1 hs
   rcases List.mem_append.1 hp with hp | hp
   ·have := hA p hp; rw [e, kLt_irr] at this; cases this
   ·have := List.rel_of_pairwise_cons h.2.1 hp
    rw [hx, e, kLt_irr] at this; cases this
  ·rw [hn] at hh; cases hh
 ·rw [delK_no hh]; exact Bool.eq_false_iff.2 hh
end Go.Proofs.YtgapkicplhbidaaGreatDoor.PQup
