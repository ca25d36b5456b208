-- written by wip/myprint.py over the kit's print; not a printed text of print.sh
import Derived.Test.YtjappgjpikbdeaaGreatDoorPTkkx0
namespace Go.Proofs.YtjappgjpikbdeaaGreatDoor.PTkk
open Go.RowKit Go.Proofs.YtjappgjpikbdeaaGreatDoorW.PrintWords Go.Proofs.YtjappgjpikbdeaaGreatDoorW.PrintLast Go.Proofs.YtjappgjpikbdeaaGreatDoorW.PrintMore
attribute [local go_sem] max2_int min2_int max_two min_two max_three min_three max_four min_four   -- for this text's walks alone
set_option linter.unusedVariables false
set_option linter.unusedSimpArgs false

/-! ### words: builder.inc -/
/-! ### strings.Builder: the writers, at a builder of the call's own -/
/-- Whatever block is neither the builder nor a plain row of bytes stands. -/
def BKept (e : TypeId) (g : Nat) (w w' : World) : Prop := ∀ i, i < w.heap.size → i ≠ g → (∀ cs, w.heap[i]? ≠ some (.cells cs e (0, 0))) → w'.heap[i]? = w.heap[i]?
theorem BKept.refl (e : TypeId) (g : Nat) (w : World) : BKept e g w w := fun _ _ _ _ => rfl
theorem BKept.trans {e : TypeId} {g : Nat} {w w1 w2 : World} (h : BKept e g w w1) (k : BKept e g w1 w2) (hs : w.heap.size ≤ w1.heap.size) : BKept e g w w2 := fun i hi hg hc => by
  have h1 := h i hi hg hc
  rw [k i (Nat.lt_of_lt_of_le hi hs) hg (fun cs hcs => hc cs (by rw [← h1]; exact hcs)), h1]
theorem BKept.setCell {e : TypeId} {g : Nat} {w w1 : World} (h : BKept e g w w1) (k : Nat) (v : Value) : BKept e g w (w1.setCell ⟨g, k, none⟩ v) := fun i hi hg hc => by
  rw [← h i hi hg hc]
  unfold World.setCell
  simp [Array.getElem?_modify, Ne.symm hg]
theorem BKept.grown {e : TypeId} {g : Nat} {w w1 : World} {base n : Nat} {v : Value} {xs : List Value} (ho : w.ownsRow base e 1 v n xs) (hg : w.grownBy w1 v.ownBlock) : BKept e g w w1 := fun i hi _ hc => by
  refine hg.block i hi (fun he => ?_)
  obtain ⟨cells, hcs⟩ := own_typed ho i he.symm
  exact hc cells hcs
theorem BKept.alloc {e : TypeId} {g : Nat} (w : World) (o : Obj) : BKept e g w (w.alloc o) := fun i hi _ _ => my_alloc_old w o i hi
theorem bi_size : (Tryz.prog.info? 153).map (·.size) = some 2 := by kernel_rfl
theorem bi_lies : liesAt Tryz.prog Tryz.prog.depth 153 (2 / Tryz.prog.cellsOf 153) 0 153 1 = true := by kernel_rfl
theorem bi_info : (Tryz.prog.info? 5).map (fun i => (i.zero, i.size, i.bytes)) = some (some (.int .u8 0), 1, 1) := by kernel_rfl
set_option maxHeartbeats 1000000 in
set_option maxRecDepth 100000 in
theorem bi_check_used (b : Nat) (w : World) (h0 : w.cell? ⟨b, 0, none⟩ = some (.pointer (some ⟨b, 0, none⟩))) :
    Calls Tryz.prog 125 #[.pointer (some ⟨b, 0, none⟩)] w fun e w' => e = .returned (.tuple #[]) ∧ w' = w := by
  obtain ⟨j, hj, _⟩ := Option.map_eq_some_iff.1 bi_size
  go_enter Tryz.func125, Tryz.ntmps125
  go_wp2
  rw [Lib.run_neq_ptr_same w _ Tryz.underlying151 hj]
  go_wp2
  go_end0
  exact ⟨rfl, rfl⟩
set_option maxHeartbeats 1000000 in
set_option maxRecDepth 100000 in
theorem bi_check_fresh (b : Nat) (w : World) (h0 : w.cell? ⟨b, 0, none⟩ = some (.pointer none)) (hsh : w.shape? b = some (153, 2)) (hfz : w.frozen? ⟨b, 0, none⟩ = false) :
    Calls Tryz.prog 125 #[.pointer (some ⟨b, 0, none⟩)] w fun e w' => e = .returned (.tuple #[]) ∧ w' = w.setCell ⟨b, 0, none⟩ (.pointer (some ⟨b, 0, none⟩)) := by
  obtain ⟨j, hj, hjs⟩ := Option.map_eq_some_iff.1 bi_size
  go_enter Tryz.func125, Tryz.ntmps125
  go_wp2
  rw [Lib.run_to_unsafe w ⟨b, 0, none⟩ Tryz.underlying151 Tryz.underlying165 hj (by rw [hjs]; decide) hsh (Nat.zero_lt_succ 1)]
  simp only [Result.andThen]
  rw [Oper.upon_value]
  go_wp2
  rw [run_callFunc_extern Tryz.func130 (by kernel_rfl) (by kernel_rfl) (by kernel_rfl) (e := Extern.AbiNoEscape.same) (by kernel_rfl)]
  rw [Lib.run_noEscape]
  simp only [Result.andThen]
  rw [Oper.upon_value]
  go_wp2
  rw [Lib.run_from_unsafe w ⟨b, 0, none⟩ Tryz.underlying165 Tryz.underlying151 hj hsh bi_lies]
  simp only [Result.andThen]
  rw [Oper.upon_value]
  go_wp2
  go_end0
  exact ⟨rfl, rfl⟩
theorem bi_check (B b : Nat) (bs : List Value) (w : World) (h : Lib.IsBuilder 153 5 B b bs w) :
    Calls Tryz.prog 125 #[.pointer (some ⟨b, 0, none⟩)] w fun e w' => e = .returned (.tuple #[]) ∧ Lib.BuilderAt 153 5 B b (.pointer (some ⟨b, 0, none⟩)) bs w' ∧ Below B w w' ∧ BKept 5 b w w' := by
  rcases h with h | h
  · refine (bi_check_fresh b w h.cell0 h.shape h.frozen0).mono ?_
    rintro e w' ⟨rfl, rfl⟩
    exact ⟨rfl, h.used _, (Below.refl B w).setCell (p := ⟨b, 0, none⟩) h.1 _, (BKept.refl _ _ _).setCell _ _⟩
  · refine (bi_check_used b w h.cell0).mono ?_
    rintro e w' ⟨rfl, rfl⟩
    exact ⟨rfl, h, Below.refl B _, BKept.refl _ _ _⟩
set_option maxHeartbeats 1000000 in
set_option maxRecDepth 100000 in
theorem bi_str (B b : Nat) (bs : List Value) (s : ByteArray) (w : World) (h : Lib.IsBuilder 153 5 B b bs w) (hlen : bs.length + s.size ≤ 140737488355328) (hBw : B ≤ w.heap.size) :
    Calls Tryz.prog 118 #[.pointer (some ⟨b, 0, none⟩), .string s] w fun e w' => e = .returned (.tuple #[.int .i64 s.size, .nilIface]) ∧ Lib.IsBuilder 153 5 B b (bs ++ Lib.strCells s) w' ∧ Below B w w' ∧ BKept 5 b w w' := by
  obtain ⟨i0, hi, hz0, hz1, hz2⟩ := info_parts bi_info
  have e240 : ∀ args w, (callFunc 125 args).run Tryz.prog w = .ok (.enter 125 args) w := enters_of Tryz.func125 (by kernel_rfl) rfl
  go_enter Tryz.func118, Tryz.ntmps118
  go_wp2_with (go_at_call 125; refine (bi_check B b bs _ h).mono ?_)
  rintro e w1 ⟨rfl, h1, hb1, hk1⟩
  obtain ⟨hB, v, hbk, hown, hne⟩ := h1
  have c0 : w1.cell? ⟨b, 0, none⟩ = some (.pointer (some ⟨b, 0, none⟩)) := by rw [Lib.cell_of_heap hbk]; rfl
  have c1 : w1.cell? ⟨b, 1, none⟩ = some v := by rw [Lib.cell_of_heap hbk]; rfl
  replace hk1 := Aside0.mk hk1
  go_wp2_with (at_builtin; refine Lib.wpList_append_own_string _ rfl _ _ 124 9 rfl B 5 i0 Tryz.underlying124 Tryz.underlying9 hi hz0 hz1 hz2 _ _ _ rfl hown s rfl ?c3 ?c4 ?c5 ?_)
  case c3 => unfold maxLen; omega
  case c4 => omega
  case c5 => have := hb1.size; omega
  intro v' w2 hown' hgrow _
  have hlt : b < w1.heap.size := (Array.getElem?_eq_some_iff.1 hbk).1
  have hb2 : w2.heap[b]? = some (.cells #[.pointer (some ⟨b, 0, none⟩), v] 153 (0, 0)) := by
    rw [hgrow.block b hlt (fun e => hne e.symm)]
    exact hbk
  have d0 : w2.cell? ⟨b, 0, none⟩ = some (.pointer (some ⟨b, 0, none⟩)) := by rw [Lib.cell_of_heap hb2]; rfl
  have d1 : w2.cell? ⟨b, 1, none⟩ = some v := by rw [Lib.cell_of_heap hb2]; rfl
  have f1 : w2.frozen? ⟨b, 1, none⟩ = false := Lib.frozen_of_heap hb2 1
  have hkk := Aside0.mk ((hk1.out.trans (BKept.grown (g := b) hown hgrow) hb1.size).setCell 1 v')
  obtain ⟨ao, n', cap, rfl⟩ : ∃ ao n' cap, v' = .slice ao n' cap := by
    rcases hown'.2 with ⟨hv, _⟩ | ⟨g, cap, cur, hv, _⟩
    · exact ⟨_, _, _, hv⟩
    · exact ⟨_, _, _, hv⟩
  go_wp2
  go_ret2
  refine ⟨rfl, .inr ?_, ?_, hkk.out⟩
  · exact Lib.BuilderAt.put (T := 153) (e := 5) hB hb2 (bs' := bs ++ Lib.strCells s) (by simpa [Lib.strCells_length] using hown') (by decide)
  · exact (hb1.grown hgrow (by have := hb1.size; omega) (fun k hk => (hown.lt k hk).1)).setCell (p := ⟨b, 1, none⟩) hB _
theorem bi_new (B : Nat) (w : World) (h : B ≤ w.heap.size) : Lib.IsBuilder 153 5 B w.heap.size [] (w.alloc (.cells #[.pointer none, .slice none 0 0] 153)) := .inl ⟨h, _, my_alloc_new w _, ⟨rfl, .inl ⟨rfl, rfl⟩⟩, by simp [Value.ownBlock]⟩
theorem bi_below {B b : Nat} {bs : List Value} {w w1 : World} (h : Lib.IsBuilder 153 5 B b bs w) (hb : Below w.heap.size w w1) : Lib.IsBuilder 153 5 B b bs w1 := by
  have one : ∀ p, Lib.BuilderAt 153 5 B b p bs w → Lib.BuilderAt 153 5 B b p bs w1 := by
    rintro p ⟨h1, v, h2, h3, h4⟩
    exact ⟨h1, v, (hb.block b (Array.getElem?_eq_some_iff.1 h2).1).trans h2, pw_own_below h3 hb, h4⟩
  exact h.elim (fun x => .inl (one _ x)) (fun x => .inr (one _ x))

/-! ### words: strfn.inc -/
/-- A hexadecimal digit's byte. -/
def hexU (n : Nat) : UInt8 := if n < 10 then UInt8.ofNat (48 + n) else UInt8.ofNat (87 + n)
theorem byteCells_snoc (l : List UInt8) (c : UInt8) : Lib.byteCells (l ++ [c]) = Lib.byteCells l ++ [.int .u8 (c.toNat : Int)] := by simp [Lib.byteCells]
theorem byteCells_app (l m : List UInt8) : Lib.byteCells (l ++ m) = Lib.byteCells l ++ Lib.byteCells m := by simp [Lib.byteCells]
theorem strCells_app (l : List UInt8) (s : ByteArray) : Lib.byteCells l ++ Lib.strCells s = Lib.byteCells (l ++ s.toList) := by rw [Lib.strCells_eq, byteCells_app, ByteArray.toList_eq]
theorem hexU_at (n : Nat) (h : n < 16) (hn : n < (⟨#[48, 49, 50, 51, 52, 53, 54, 55, 56, 57, 97, 98, 99, 100, 101, 102]⟩ : ByteArray).size) : (⟨#[48, 49, 50, 51, 52, 53, 54, 55, 56, 57, 97, 98, 99, 100, 101, 102]⟩ : ByteArray)[n] = hexU n := by
  rcases n with _|_|_|_|_|_|_|_|_|_|_|_|_|_|_|_|n
  all_goals (first | rfl | (exfalso; omega))
theorem bi_strU (B b : Nat) (l : List UInt8) (s : ByteArray) (w : World) (h : Lib.IsBuilder 153 5 B b (Lib.byteCells l) w) (hlen : l.length + s.size ≤ 140737488355328) (hBw : B ≤ w.heap.size) :
    Calls Tryz.prog 118 #[.pointer (some ⟨b, 0, none⟩), .string s] w fun e w' => e = .returned (.tuple #[.int .i64 s.size, .nilIface]) ∧ Lib.IsBuilder 153 5 B b (Lib.byteCells (l ++ s.toList)) w' ∧ Below B w w' ∧ BKept 5 b w w' := by
  rw [← strCells_app]
  exact bi_str B b _ s w h (by rw [Lib.byteCells_length]; exact hlen) hBw

/-! ### strings_ReplaceAll: function 94 -/
/-- A byte's instances, replaced. -/
def repl1 (c : UInt8) (new : List UInt8) (l : List UInt8) : List UInt8 := l.flatMap fun x => if x = c then new else [x]
theorem repl1_no {c : UInt8} {new : List UInt8} : ∀ {l : List UInt8}, c ∉ l → repl1 c new l = l
  | [], _ => rfl
  | x :: t, h => by
    simp only [List.mem_cons, not_or] at h
    have ih := repl1_no (new := new) h.2
    unfold repl1 at ih ⊢
    rw [List.flatMap_cons, if_neg (fun e => h.1 e.symm), ih]; rfl
theorem repl1_at {c : UInt8} {new : List UInt8} (a b : List UInt8) (h : c ∉ a) : repl1 c new (a ++ c :: b) = a ++ (new ++ repl1 c new b) := by
  have h1 := repl1_no (new := new) h
  unfold repl1 at h1 ⊢
  rw [List.flatMap_append, h1, List.flatMap_cons, if_pos rfl]
theorem first_at (c : UInt8) : ∀ (l : List UInt8), 0 < l.count c → ∃ a b, l = a ++ c :: b ∧ c ∉ a ∧ Lib.indexByte l c = (a.length : Int)
  | [], h => by simp at h
  | x :: t, h => by
    by_cases hx : x = c
    · exact ⟨[], t, by rw [hx]; rfl, by simp, by unfold Lib.indexByte; rw [if_pos (by simp [hx])]; rfl⟩
    · rw [List.count_cons_of_ne (fun e => hx e)] at h
      obtain ⟨a, b, h1, h2, h3⟩ := first_at c t h
      refine ⟨x :: a, b, by rw [h1]; rfl, by simp only [List.mem_cons, not_or]; exact ⟨fun e => hx e.symm, h2⟩, ?_⟩
      unfold Lib.indexByte
      rw [if_neg (by simpa using hx), h3, if_neg (by simp), List.length_cons]
      omega
set_option maxHeartbeats 4000000 in
set_option maxRecDepth 1000000 in
theorem strings_Replace1 (s old new : ByteArray) (c : UInt8) (w : World) (hs : s.size ≤ 100000000) (hold : old = (⟨#[c]⟩ : ByteArray)) (hnew : new.size = 2) :
    Calls Tryz.prog 107 #[.string s, .string old, .string new, .int .i64 (-1)] w fun e w' => e = .returned (.string (ofL (repl1 c new.toList s.toList))) ∧ Below w.heap.size w w' := by
  have hC : Calls Tryz.prog 115 #[.string s, .string old] w fun e w' => e = .returned (.int .i64 ((s.toList.count c : Nat) : Int)) ∧ w' = w := by
    rw [hold, ByteArray.toList_eq]
    exact Tryz.strings_Count_one s c w
  have hI : ∀ (x : ByteArray) (W : World), Calls Tryz.prog 117 #[.string x, .string old] W fun e w' => e = .returned (.int .i64 (Lib.indexByte x.toList c)) ∧ w' = W := by
    intro x W
    rw [hold, ByteArray.toList_eq]
    exact Tryz.strings_Index_one x c W
  have ho1 : old.size = 1 := by rw [hold]; rfl
  have hbeq : (old.toList == new.toList) = false := by
    apply beq_eq_false_iff_ne.2
    intro e
    have h1 := congrArg List.length e
    rw [← ba_size, ← ba_size] at h1
    omega
  have hcs : s.toList.count c ≤ s.size := by rw [ba_size]; exact List.count_le_length
  have ho0 : (0 : Int) < (old.size : Int) := by omega
  have hod : decide (0 < old.size) = true := decide_eq_true (by omega)
  by_cases hz : s.toList.count c = 0
  · have hr : repl1 c new.toList s.toList = s.toList := repl1_no (List.count_eq_zero.1 hz)
    rw [hr, ofL_of]
    rw [hz] at hC
    replace hC := Aside0.mk hC
    clear hI hr hnew hz hcs hold ho1
    go_enter Tryz.func107, Tryz.ntmps107
    go_wp2_with fail
    refine hC.out.mono ?_
    rintro e w' ⟨rfl, rfl⟩
    go_wp2
    go_ret
    exact ⟨rfl, by repeat (first | exact Below.refl _ _ | apply pw_below_drewN)⟩
  · obtain ⟨K, hK⟩ : ∃ K : Nat, s.toList.count c = K := ⟨_, rfl⟩
    rw [hK] at hC hz hcs
    have hcz : ((K : Int) == 0) = false := beq_eq_false_iff_ne.2 (by omega)
    have hga := Lib.grow_arg s.size K new.size old.size (by omega) (by rw [ho1]; omega) (by rw [hnew]; omega)
    have hgn : s.size + K * new.size - K * old.size ≤ 281474976710656 := by rw [hnew, ho1]; omega
    replace hC := Aside0.mk hC
    replace hI := Aside0.mk hI
    replace ho1 := Aside0.mk ho1
    replace hnew := Aside0.mk hnew
    replace hgn := Aside0.mk hgn
    replace hK := Aside0.mk hK
    replace hold := Aside0.mk hold
    go_enter Tryz.func107, Tryz.ntmps107
    go_wp2_with fail
    refine hC.out.mono ?_
    rintro e w' ⟨rfl, rfl⟩
    go_wp2_with fail
    try rw [hga]
    refine (Tryz.Builder_Grow_fresh w'.heap.size w'.heap.size _ _ (Nat.le_refl _) (my_alloc_new w' _) (by simp) hgn.out).mono ?_
    rintro e w1 ⟨rfl, hb0, hb1⟩
    have H1 := Aside0.mk (Or.inr hb0 : Lib.IsBuilder 153 5 w'.heap.size w'.heap.size (Lib.byteCells []) w1)
    have Hb1 := Aside0.mk (((Below.refl w'.heap.size w').alloc (Nat.le_refl _) _).trans hb1)
    clear hb0 hb1 hga hC
    go_wp2_with fail
    go_loopg [11, 53] K (fun g s11 s53 wx => ∃ (i start : Nat) (acc : List UInt8), s53 = .int .i64 i ∧ s11 = .int .i64 start ∧ i + g = K ∧ start ≤ s.size ∧ Aside0 (Lib.IsBuilder 153 5 w'.heap.size w'.heap.size (Lib.byteCells acc) wx) ∧ Aside0 (Below w'.heap.size w' wx) ∧ Aside0 (acc ++ repl1 c new.toList (s.toList.drop start) = repl1 c new.toList s.toList) ∧ Aside0 (g = (s.toList.drop start).count c) ∧ Aside0 (acc.length ≤ 2 * start))
    case atStart => exact ⟨0, 0, [], rfl, rfl, by omega, Nat.zero_le _, H1, Hb1, ⟨by simp⟩, ⟨by rw [List.drop_zero, hK.out]⟩, ⟨by simp⟩⟩
    case round =>
      clear H1 Hb1
      obtain ⟨i, start, acc, rfl, rfl, hig, hst, HB, HW, HR, hgc, hbd⟩ := hrel
      have hBw := Aside0.mk HW.out.size
      have c1 : (0 : Int) ≤ (start : Int) := by omega
      have c2 : (start : Int) ≤ (s.size : Int) := by omega
      have hsl : s.toList.length = s.size := (ba_size s).symm
      cases gk with
      | zero =>
        have hiK : ¬ ((i : Int) < (K : Int)) := by omega
        have hno : repl1 c new.toList (s.toList.drop start) = s.toList.drop start := repl1_no (List.count_eq_zero.1 hgc.out.symm)
        have hfin := Aside0.mk (HR.out.symm.trans (by rw [hno]))
        have hex : (s.extract start s.size).toList = s.toList.drop start := by rw [ba_extract, ← hsl, List.take_length]
        replace hex := Aside0.mk hex
        clear hno
        go_wp2_with fail
        refine (bi_strU w'.heap.size w'.heap.size _ (s.extract start s.size) wr HB.out (by have := hbd.out; rw [ByteArray.size_extract]; omega) hBw.out).mono ?_
        rintro e w3 ⟨rfl, h3, hb3, hk3⟩
        rw [hex.out, ← hfin.out] at h3
        have H3 := Aside0.mk h3
        have Hb3 := Aside0.mk (HW.out.trans hb3)
        clear h3 hb3 hk3
        go_wp2_with fail
        refine (Tryz.Builder_String_any w'.heap.size w'.heap.size _ w3 H3.out Hb3.out.size).mono ?_
        rintro e w5 ⟨rfl, hb5⟩
        have Hb5 := Aside0.mk (Hb3.out.trans hb5)
        clear hb5
        go_wp2
        go_ret
        exact ⟨rfl, Hb5.out⟩
      | succ g =>
        have hiK : (i : Int) < (K : Int) := by omega
        obtain ⟨a, b, hd, ha, hj⟩ := first_at c (s.toList.drop start) (by rw [← hgc.out]; omega)
        have hdl : (s.toList.drop start).length = a.length + (b.length + 1) := by rw [hd, List.length_append, List.length_cons]
        rw [List.length_drop, hsl] at hdl
        have c3 : (start : Int) ≤ (start : Int) + (a.length : Int) := by omega
        have c4 : (start : Int) + (a.length : Int) ≤ (s.size : Int) := by omega
        have hext : (s.extract start (start + a.length)).toList = a := by
          rw [ba_extract, List.drop_take, hd, Nat.add_sub_cancel_left]
          exact List.take_left
        have hb' : b = s.toList.drop (start + a.length + 1) := by
          rw [show start + a.length + 1 = start + (a.length + 1) by omega, ← List.drop_drop, hd]
          simp
        have hjx : Lib.indexByte (s.extract start s.size).toList c = (a.length : Int) := by rw [ba_extract, ← hsl, List.take_length]; exact hj
        have hrep : Aside0 ((acc ++ a ++ new.toList) ++ repl1 c new.toList (s.toList.drop (start + a.length + 1)) = repl1 c new.toList s.toList) := ⟨by rw [← HR.out, hd, repl1_at a b ha, ← hb']; simp only [List.append_assoc]⟩
        have hcnt : Aside0 (g = (s.toList.drop (start + a.length + 1)).count c) := ⟨by
          have h := hgc.out
          rw [hd, List.count_append, List.count_eq_zero.2 ha, List.count_cons_self, ← hb'] at *
          omega⟩
        replace hext := Aside0.mk hext
        replace hjx := Aside0.mk hjx
        clear hd ha hj hb' HR hgc
        go_wp2_with fail
        refine (hI.out (s.extract start s.size) _).mono ?_
        rintro e w6 ⟨rfl, rfl⟩
        rw [hjx.out]
        go_wp2_with fail
        refine (bi_strU w'.heap.size w'.heap.size _ (s.extract start (start + a.length)) _ HB.out (by have := hbd.out; rw [ByteArray.size_extract]; omega) hBw.out).mono ?_
        rintro e w3 ⟨rfl, h3, hb3, hk3⟩
        rw [hext.out] at h3
        have H3 := Aside0.mk h3
        have Hb3 := Aside0.mk (HW.out.trans hb3)
        clear h3 hb3 hk3
        go_wp2_with fail
        refine (bi_strU w'.heap.size w'.heap.size _ new w3 H3.out (by have := hbd.out; have := hnew.out; rw [List.length_append]; omega) Hb3.out.size).mono ?_
        rintro e w4 ⟨rfl, h4, hb4, hk4⟩
        have H4 := Aside0.mk h4
        have Hb4 := Aside0.mk (Hb3.out.trans hb4)
        clear h4 hb4 hk4
        go_wp2
        go_roundg g
        case measure => omega
        case rel => exact ⟨i + 1, start + a.length + 1, acc ++ a ++ new.toList, by first | rfl | (simp; unfold wrap64; omega), by have := ho1.out; first | rfl | (simp; done) | (simp; rw [w64 (by omega) (by omega)]; omega), by omega, by omega, H4, Hb4, hrep, hcnt, ⟨by have h1 := hbd.out; have h2 := hnew.out; rw [ba_size] at h2; rw [List.length_append, List.length_append]; omega⟩⟩
def strings_ReplaceAll.f (a0 a1 a2 : ByteArray) : Option ByteArray := match a1.toList with
  | [c] => if a0.size ≤ 100000000 ∧ a2.size = 2 then some (ofL (repl1 c a2.toList a0.toList)) else none
  | _ => none
set_option maxHeartbeats 1000000 in
set_option maxRecDepth 100000 in
theorem strings_ReplaceAll.calls (a0 a1 a2 : ByteArray) (r : ByteArray) (w : World) (h : strings_ReplaceAll.f a0 a1 a2 = some r) :
    Calls Tryz.prog 94 #[.string a0, .string a1, .string a2] w fun e w' => e = .returned (.string r) ∧ Below w.heap.size w w' := by
  unfold strings_ReplaceAll.f at h
  split at h
  case h_2 => exact absurd h (by simp)
  case h_1 c hc =>
    by_cases hh : a0.size ≤ 100000000 ∧ a2.size = 2
    case neg => rw [if_neg hh] at h; exact absurd h (by simp)
    rw [if_pos hh] at h
    obtain rfl := Option.some.inj h
    have hold : a1 = (⟨#[c]⟩ : ByteArray) := ba_ext (by rw [hc, ByteArray.toList_eq])
    have R := Aside0.mk (fun W => strings_Replace1 a0 a1 a2 c W hh.1 hold hh.2)
    clear h hh hold hc
    go_enter Tryz.func94, Tryz.ntmps94
    go_wp2_with fail
    refine (R.out _).mono ?_
    rintro e w' ⟨rfl, hb⟩
    go_wp2
    go_ret
    exact ⟨rfl, hb⟩

/-! ### path_hidden: function 76 -/
def path_hidden.f (a0 : ByteArray) : Option (ByteArray) := (strings_ReplaceAll.f a0 (⟨#[37]⟩ : ByteArray) (⟨#[37, 112]⟩ : ByteArray)).bind fun t101 => ((strings_ReplaceAll.f t101 (⟨#[47]⟩ : ByteArray) (⟨#[37, 115]⟩ : ByteArray)).bind fun t102 => (some t102))
set_option maxHeartbeats 8000000 in
set_option maxRecDepth 100000 in
theorem path_hidden.calls (a0 : ByteArray) (r : ByteArray) (w : World) (h : path_hidden.f a0 = some r) :
    Calls Tryz.prog 76 #[.string a0] w fun e w' => e = .returned (.string r) ∧ Below w.heap.size w w' := by
  have HB := Aside0.mk (Below.refl w.heap.size w)
  have H : ((strings_ReplaceAll.f a0 (⟨#[37]⟩ : ByteArray) (⟨#[37, 112]⟩ : ByteArray)).bind fun t101 => ((strings_ReplaceAll.f t101 (⟨#[47]⟩ : ByteArray) (⟨#[37, 115]⟩ : ByteArray)).bind fun t102 => (some t102))) = some r := h
  clear h
  replace H := Option.bind_eq_some_iff.mp H
  obtain ⟨t101, A20, H⟩ := H
  replace H : ((strings_ReplaceAll.f t101 (⟨#[47]⟩ : ByteArray) (⟨#[37, 115]⟩ : ByteArray)).bind fun t102 => (some t102)) = some r := H
  have A2 := Aside0.mk A20
  clear A20
  replace H := Option.bind_eq_some_iff.mp H
  obtain ⟨t102, A30, H⟩ := H
  replace H : (some t102) = some r := H
  have A3 := Aside0.mk A30
  clear A30
  obtain rfl := Option.some.inj H
  go_enter Tryz.func76, Tryz.ntmps76
  go_wp2_with (first | ((with_reducible refine gate_callee (f := 94) rfl ?_); refine goesL_ (some 4) rfl rfl Tryz.func94 (by kernel_rfl) rfl #[.string a0, .string (⟨#[37]⟩ : ByteArray), .string (⟨#[37, 112]⟩ : ByteArray)] rfl (by (try simp only [List.map_toArray, List.map_cons, List.map_nil]); first | done | rfl | (simp only [List.length_drop, List.length_take]; rfl)) ?_; (with_reducible refine (strings_ReplaceAll.calls a0 (⟨#[37]⟩ : ByteArray) (⟨#[37, 112]⟩ : ByteArray) t101 _ A2.out).mono ?_); rintro e w4 ⟨rfl, hb⟩; refine ⟨_, rfl, ?_⟩; have n0_ := Aside0.mk (below_step (by repeat (first | (with_reducible first | exact HB.out | apply below_alloc | apply pw_below_drewN | apply below_drew1) | exact HB.out)) hb); clear HB; have HB := n0_; clear n0_; (try clear hb); (try clear hb2); (try clear hk); (try clear hi)) | ((with_reducible refine gate_callee (f := 94) rfl ?_); refine goesL_ (some 5) rfl rfl Tryz.func94 (by kernel_rfl) rfl #[.string t101, .string (⟨#[47]⟩ : ByteArray), .string (⟨#[37, 115]⟩ : ByteArray)] rfl (by (try simp only [List.map_toArray, List.map_cons, List.map_nil]); first | done | rfl | (simp only [List.length_drop, List.length_take]; rfl)) ?_; (with_reducible refine (strings_ReplaceAll.calls t101 (⟨#[47]⟩ : ByteArray) (⟨#[37, 115]⟩ : ByteArray) t102 _ A3.out).mono ?_); rintro e w5 ⟨rfl, hb⟩; refine ⟨_, rfl, ?_⟩; have n0_ := Aside0.mk (below_step (by repeat (first | (with_reducible first | exact HB.out | apply below_alloc | apply pw_below_drewN | apply below_drew1) | exact HB.out)) hb); clear HB; have HB := n0_; clear n0_; (try clear hb); (try clear hb2); (try clear hk); (try clear hi)))
  go_ret
  exact ⟨by first | rfl | (simp [errW_none, errW_some] <;> rfl) | (simp [*, errW_none, errW_some] <;> rfl), by repeat (first | (with_reducible first | exact HB.out | apply below_alloc | apply pw_below_drewN | apply below_drew1) | exact HB.out)⟩

end Go.Proofs.YtjappgjpikbdeaaGreatDoor.PTkk
