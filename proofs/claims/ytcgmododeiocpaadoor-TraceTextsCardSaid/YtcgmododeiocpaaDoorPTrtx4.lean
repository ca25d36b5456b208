-- written by wip/myprint.py over the kit's print; not a printed text of print.sh
import Derived.Test.YtcgmododeiocpaaDoorPTrtx0
import Derived.Test.YtcgmododeiocpaaDoorPTrtx3
namespace Go.Proofs.YtcgmododeiocpaaDoor.PTrt
open Go.RowKit Go.Proofs.YtcgmododeiocpaaDoorW.PrintWords Go.Proofs.YtcgmododeiocpaaDoorW.PrintLast Go.Proofs.YtcgmododeiocpaaDoorW.PrintMore
attribute [local go_sem] max2_int min2_int max_two min_two max_three min_three max_four min_four   -- for this text's walks alone
set_option linter.unusedVariables false
set_option linter.unusedSimpArgs false

/-! ### words: builder.inc -/
/-! ### strings.Builder: the writers, at a builder of the call's own -/
/-- Whatever block is neither the builder nor a plain row of bytes stands. -/
def BKept (e : TypeId) (g : Nat) (w w' : World) : Prop := ∀ i, i < w.heap.size → i ≠ g → (∀ cs, w.heap[i]? ≠ some (.cells cs e (0, 0))) → w'.heap[i]? = w.heap[i]?
theorem BKept.refl (e : TypeId) (g : Nat) (w : World) : BKept e g w w := fun _ _ _ _ => rfl
theorem BKept.trans {e : TypeId} {g : Nat} {w w1 w2 : World} (h : BKept e g w w1) (k : BKept e g w1 w2) (hs : w.heap.size ≤ w1.heap.size) : BKept e g w w2 := fun i hi hg hc => by
  have h1 := h i hi hg hc
  rw [k i (Nat.lt_of_lt_of_le hi hs) hg (fun cs hcs => hc cs (by rw [← h1]; exact hcs)), h1]
theorem BKept.setCell {e : TypeId} {g : Nat} {w w1 : World} (h : BKept e g w w1) (k : Nat) (v : Value) : BKept e g w (w1.setCell ⟨g, k, none⟩ v) := fun i hi hg hc => by
  rw [← h i hi hg hc]
  unfold World.setCell
  simp [Array.getElem?_modify, Ne.symm hg]
theorem BKept.grown {e : TypeId} {g : Nat} {w w1 : World} {base n : Nat} {v : Value} {xs : List Value} (ho : w.ownsRow base e 1 v n xs) (hg : w.grownBy w1 v.ownBlock) : BKept e g w w1 := fun i hi _ hc => by
  refine hg.block i hi (fun he => ?_)
  obtain ⟨cells, hcs⟩ := own_typed ho i he.symm
  exact hc cells hcs
theorem BKept.alloc {e : TypeId} {g : Nat} (w : World) (o : Obj) : BKept e g w (w.alloc o) := fun i hi _ _ => my_alloc_old w o i hi
theorem bi_size : (Tryd.prog.info? 95).map (·.size) = some 2 := by kernel_rfl
theorem bi_lies : liesAt Tryd.prog Tryd.prog.depth 95 (2 / Tryd.prog.cellsOf 95) 0 95 1 = true := by kernel_rfl
theorem bi_info : (Tryd.prog.info? 5).map (fun i => (i.zero, i.size, i.bytes)) = some (some (.int .u8 0), 1, 1) := by kernel_rfl
set_option maxHeartbeats 1000000 in
set_option maxRecDepth 100000 in
theorem bi_check_used (b : Nat) (w : World) (h0 : w.cell? ⟨b, 0, none⟩ = some (.pointer (some ⟨b, 0, none⟩))) :
    Calls Tryd.prog 93 #[.pointer (some ⟨b, 0, none⟩)] w fun e w' => e = .returned (.tuple #[]) ∧ w' = w := by
  obtain ⟨j, hj, _⟩ := Option.map_eq_some_iff.1 bi_size
  go_enter Tryd.func93, Tryd.ntmps93
  go_wp2
  rw [Lib.run_neq_ptr_same w _ Tryd.underlying93 hj]
  go_wp2
  go_end0
  exact ⟨rfl, rfl⟩
set_option maxHeartbeats 1000000 in
set_option maxRecDepth 100000 in
theorem bi_check_fresh (b : Nat) (w : World) (h0 : w.cell? ⟨b, 0, none⟩ = some (.pointer none)) (hsh : w.shape? b = some (95, 2)) (hfz : w.frozen? ⟨b, 0, none⟩ = false) :
    Calls Tryd.prog 93 #[.pointer (some ⟨b, 0, none⟩)] w fun e w' => e = .returned (.tuple #[]) ∧ w' = w.setCell ⟨b, 0, none⟩ (.pointer (some ⟨b, 0, none⟩)) := by
  obtain ⟨j, hj, hjs⟩ := Option.map_eq_some_iff.1 bi_size
  go_enter Tryd.func93, Tryd.ntmps93
  go_wp2
  rw [Lib.run_to_unsafe w ⟨b, 0, none⟩ Tryd.underlying93 Tryd.underlying170 hj (by rw [hjs]; decide) hsh (Nat.zero_lt_succ 1)]
  simp only [Result.andThen]
  rw [Oper.upon_value]
  go_wp2
  rw [run_callFunc_extern Tryd.func129 (by kernel_rfl) (by kernel_rfl) (by kernel_rfl) (e := Extern.AbiNoEscape.same) (by kernel_rfl)]
  rw [Lib.run_noEscape]
  simp only [Result.andThen]
  rw [Oper.upon_value]
  go_wp2
  rw [Lib.run_from_unsafe w ⟨b, 0, none⟩ Tryd.underlying170 Tryd.underlying93 hj hsh bi_lies]
  simp only [Result.andThen]
  rw [Oper.upon_value]
  go_wp2
  go_end0
  exact ⟨rfl, rfl⟩
theorem bi_check (B b : Nat) (bs : List Value) (w : World) (h : Lib.IsBuilder 95 5 B b bs w) :
    Calls Tryd.prog 93 #[.pointer (some ⟨b, 0, none⟩)] w fun e w' => e = .returned (.tuple #[]) ∧ Lib.BuilderAt 95 5 B b (.pointer (some ⟨b, 0, none⟩)) bs w' ∧ Below B w w' ∧ BKept 5 b w w' := by
  rcases h with h | h
  · refine (bi_check_fresh b w h.cell0 h.shape h.frozen0).mono ?_
    rintro e w' ⟨rfl, rfl⟩
    exact ⟨rfl, h.used _, (Below.refl B w).setCell (p := ⟨b, 0, none⟩) h.1 _, (BKept.refl _ _ _).setCell _ _⟩
  · refine (bi_check_used b w h.cell0).mono ?_
    rintro e w' ⟨rfl, rfl⟩
    exact ⟨rfl, h, Below.refl B _, BKept.refl _ _ _⟩
set_option maxHeartbeats 1000000 in
set_option maxRecDepth 100000 in
theorem bi_byte (B b : Nat) (bs : List Value) (c : Int) (w : World) (h : Lib.IsBuilder 95 5 B b bs w) (hlen : bs.length + 1 ≤ 140737488355328) (hBw : B ≤ w.heap.size) :
    Calls Tryd.prog 90 #[.pointer (some ⟨b, 0, none⟩), .int .u8 c] w fun e w' => e = .returned .nilIface ∧ Lib.IsBuilder 95 5 B b (bs ++ [.int .u8 c]) w' ∧ Below B w w' ∧ BKept 5 b w w' := by
  obtain ⟨i0, hi, hz0, hz1, hz2⟩ := info_parts bi_info
  have e240 : ∀ args w, (callFunc 93 args).run Tryd.prog w = .ok (.enter 93 args) w := enters_of Tryd.func93 (by kernel_rfl) rfl
  go_enter Tryd.func90, Tryd.ntmps90
  go_wp2_with (go_at_call 93; refine (bi_check B b bs _ h).mono ?_)
  rintro e w1 ⟨rfl, h1, hb1, hk1⟩
  obtain ⟨hB, v, hbk, hown, hne⟩ := h1
  have c0 : w1.cell? ⟨b, 0, none⟩ = some (.pointer (some ⟨b, 0, none⟩)) := by rw [Lib.cell_of_heap hbk]; rfl
  have c1 : w1.cell? ⟨b, 1, none⟩ = some v := by rw [Lib.cell_of_heap hbk]; rfl
  replace hk1 := Aside0.mk hk1
  go_wp2_with (at_builtin; refine wpList_append_own _ rfl _ _ 91 rfl B 5 i0 (.int .u8 0) 1 1 Tryd.underlying91 hi hz0 hz1 hz2 rfl (by decide) _ _ _ rfl (hown.alloc _) ⟨w1.heap.size, 0, none⟩ 1 1 [.int .u8 c] rfl rfl ?c1 ?c2 ?c3 ?c4 ?c5 ?_)
  case c1 =>
    intro j u hj
    match j, hj with
    | 0, hj => simp at hj; subst hj; simp [Addr.add]
  case c2 => intro u hu; simp at hu; subst hu; rfl
  case c3 => unfold maxLen; omega
  case c4 => omega
  case c5 => have := hb1.size; simp; omega
  intro v' w2 hown' hgrow _
  have hlt : b < w1.heap.size := (Array.getElem?_eq_some_iff.1 hbk).1
  have hb2 : w2.heap[b]? = some (.cells #[.pointer (some ⟨b, 0, none⟩), v] 95 (0, 0)) := by
    rw [hgrow.block b (by simp; omega) (fun e => hne e.symm), my_alloc_old w1 _ b hlt]
    exact hbk
  have d0 : w2.cell? ⟨b, 0, none⟩ = some (.pointer (some ⟨b, 0, none⟩)) := by rw [Lib.cell_of_heap hb2]; rfl
  have d1 : w2.cell? ⟨b, 1, none⟩ = some v := by rw [Lib.cell_of_heap hb2]; rfl
  have f1 : w2.frozen? ⟨b, 1, none⟩ = false := Lib.frozen_of_heap hb2 1
  have hkk := Aside0.mk ((hk1.out.trans ((BKept.alloc (e := 5) (g := b) w1 _).trans (BKept.grown (g := b) (hown.alloc _) hgrow) (by rw [my_alloc_size]; omega)) hb1.size).setCell 1 v')
  obtain ⟨g, cap, rfl⟩ : ∃ g cap, v' = .slice (some ⟨g, 0, none⟩) (bs.length + 1) cap := by
    rcases hown'.2 with ⟨_, h0⟩ | ⟨g, cap, cur, hv, _⟩
    · omega
    · exact ⟨g, cap, hv⟩
  go_wp2
  go_ret
  refine ⟨rfl, .inr ?_, ?_, hkk.out⟩
  · exact Lib.BuilderAt.put (T := 95) (e := 5) hB hb2 (bs' := bs ++ [.int .u8 c]) (by simpa using hown') (by decide)
  · exact ((hb1.alloc (by have := hb1.size; omega) _).grown hgrow (by have := hb1.size; simp; omega) (fun k hk => (hown.lt k hk).1)).setCell (p := ⟨b, 1, none⟩) hB _
set_option maxHeartbeats 1000000 in
set_option maxRecDepth 100000 in
theorem bi_str (B b : Nat) (bs : List Value) (s : ByteArray) (w : World) (h : Lib.IsBuilder 95 5 B b bs w) (hlen : bs.length + s.size ≤ 140737488355328) (hBw : B ≤ w.heap.size) :
    Calls Tryd.prog 59 #[.pointer (some ⟨b, 0, none⟩), .string s] w fun e w' => e = .returned (.tuple #[.int .i64 s.size, .nilIface]) ∧ Lib.IsBuilder 95 5 B b (bs ++ Lib.strCells s) w' ∧ Below B w w' ∧ BKept 5 b w w' := by
  obtain ⟨i0, hi, hz0, hz1, hz2⟩ := info_parts bi_info
  have e240 : ∀ args w, (callFunc 93 args).run Tryd.prog w = .ok (.enter 93 args) w := enters_of Tryd.func93 (by kernel_rfl) rfl
  go_enter Tryd.func59, Tryd.ntmps59
  go_wp2_with (go_at_call 93; refine (bi_check B b bs _ h).mono ?_)
  rintro e w1 ⟨rfl, h1, hb1, hk1⟩
  obtain ⟨hB, v, hbk, hown, hne⟩ := h1
  have c0 : w1.cell? ⟨b, 0, none⟩ = some (.pointer (some ⟨b, 0, none⟩)) := by rw [Lib.cell_of_heap hbk]; rfl
  have c1 : w1.cell? ⟨b, 1, none⟩ = some v := by rw [Lib.cell_of_heap hbk]; rfl
  replace hk1 := Aside0.mk hk1
  go_wp2_with (at_builtin; refine Lib.wpList_append_own_string _ rfl _ _ 91 9 rfl B 5 i0 Tryd.underlying91 Tryd.underlying9 hi hz0 hz1 hz2 _ _ _ rfl hown s rfl ?c3 ?c4 ?c5 ?_)
  case c3 => unfold maxLen; omega
  case c4 => omega
  case c5 => have := hb1.size; omega
  intro v' w2 hown' hgrow _
  have hlt : b < w1.heap.size := (Array.getElem?_eq_some_iff.1 hbk).1
  have hb2 : w2.heap[b]? = some (.cells #[.pointer (some ⟨b, 0, none⟩), v] 95 (0, 0)) := by
    rw [hgrow.block b hlt (fun e => hne e.symm)]
    exact hbk
  have d0 : w2.cell? ⟨b, 0, none⟩ = some (.pointer (some ⟨b, 0, none⟩)) := by rw [Lib.cell_of_heap hb2]; rfl
  have d1 : w2.cell? ⟨b, 1, none⟩ = some v := by rw [Lib.cell_of_heap hb2]; rfl
  have f1 : w2.frozen? ⟨b, 1, none⟩ = false := Lib.frozen_of_heap hb2 1
  have hkk := Aside0.mk ((hk1.out.trans (BKept.grown (g := b) hown hgrow) hb1.size).setCell 1 v')
  obtain ⟨ao, n', cap, rfl⟩ : ∃ ao n' cap, v' = .slice ao n' cap := by
    rcases hown'.2 with ⟨hv, _⟩ | ⟨g, cap, cur, hv, _⟩
    · exact ⟨_, _, _, hv⟩
    · exact ⟨_, _, _, hv⟩
  go_wp2
  go_ret2
  refine ⟨rfl, .inr ?_, ?_, hkk.out⟩
  · exact Lib.BuilderAt.put (T := 95) (e := 5) hB hb2 (bs' := bs ++ Lib.strCells s) (by simpa [Lib.strCells_length] using hown') (by decide)
  · exact (hb1.grown hgrow (by have := hb1.size; omega) (fun k hk => (hown.lt k hk).1)).setCell (p := ⟨b, 1, none⟩) hB _
theorem bi_new (B : Nat) (w : World) (h : B ≤ w.heap.size) : Lib.IsBuilder 95 5 B w.heap.size [] (w.alloc (.cells #[.pointer none, .slice none 0 0] 95)) := .inl ⟨h, _, my_alloc_new w _, ⟨rfl, .inl ⟨rfl, rfl⟩⟩, by simp [Value.ownBlock]⟩
theorem bi_below {B b : Nat} {bs : List Value} {w w1 : World} (h : Lib.IsBuilder 95 5 B b bs w) (hb : Below w.heap.size w w1) : Lib.IsBuilder 95 5 B b bs w1 := by
  have one : ∀ p, Lib.BuilderAt 95 5 B b p bs w → Lib.BuilderAt 95 5 B b p bs w1 := by
    rintro p ⟨h1, v, h2, h3, h4⟩
    exact ⟨h1, v, (hb.block b (Array.getElem?_eq_some_iff.1 h2).1).trans h2, pw_own_below h3 hb, h4⟩
  exact h.elim (fun x => .inl (one _ x)) (fun x => .inr (one _ x))

/-! ### words: strfn.inc -/
/-- A hexadecimal digit's byte. -/
def hexU (n : Nat) : UInt8 := if n < 10 then UInt8.ofNat (48 + n) else UInt8.ofNat (87 + n)
theorem byteCells_snoc (l : List UInt8) (c : UInt8) : Lib.byteCells (l ++ [c]) = Lib.byteCells l ++ [.int .u8 (c.toNat : Int)] := by simp [Lib.byteCells]
theorem byteCells_app (l m : List UInt8) : Lib.byteCells (l ++ m) = Lib.byteCells l ++ Lib.byteCells m := by simp [Lib.byteCells]
theorem strCells_app (l : List UInt8) (s : ByteArray) : Lib.byteCells l ++ Lib.strCells s = Lib.byteCells (l ++ s.toList) := by rw [Lib.strCells_eq, byteCells_app, ByteArray.toList_eq]
theorem hexU_at (n : Nat) (h : n < 16) (hn : n < (⟨#[48, 49, 50, 51, 52, 53, 54, 55, 56, 57, 97, 98, 99, 100, 101, 102]⟩ : ByteArray).size) : (⟨#[48, 49, 50, 51, 52, 53, 54, 55, 56, 57, 97, 98, 99, 100, 101, 102]⟩ : ByteArray)[n] = hexU n := by
  rcases n with _|_|_|_|_|_|_|_|_|_|_|_|_|_|_|_|n
  all_goals (first | rfl | (exfalso; omega))
theorem bi_byteU (B b : Nat) (l : List UInt8) (c : UInt8) (w : World) (h : Lib.IsBuilder 95 5 B b (Lib.byteCells l) w) (hlen : l.length + 1 ≤ 140737488355328) (hBw : B ≤ w.heap.size) :
    Calls Tryd.prog 90 #[.pointer (some ⟨b, 0, none⟩), .int .u8 (c.toNat : Int)] w fun e w' => e = .returned .nilIface ∧ Lib.IsBuilder 95 5 B b (Lib.byteCells (l ++ [c])) w' ∧ Below B w w' ∧ BKept 5 b w w' := by
  rw [byteCells_snoc]
  exact bi_byte B b _ _ w h (by rw [Lib.byteCells_length]; exact hlen) hBw
theorem bi_strU (B b : Nat) (l : List UInt8) (s : ByteArray) (w : World) (h : Lib.IsBuilder 95 5 B b (Lib.byteCells l) w) (hlen : l.length + s.size ≤ 140737488355328) (hBw : B ≤ w.heap.size) :
    Calls Tryd.prog 59 #[.pointer (some ⟨b, 0, none⟩), .string s] w fun e w' => e = .returned (.tuple #[.int .i64 s.size, .nilIface]) ∧ Lib.IsBuilder 95 5 B b (Lib.byteCells (l ++ s.toList)) w' ∧ Below B w w' ∧ BKept 5 b w w' := by
  rw [← strCells_app]
  exact bi_str B b _ s w h (by rw [Lib.byteCells_length]; exact hlen) hBw

/-! ### trace_Put: function 23 -/
/-- The hops' texts, behind what is there already. -/
def trace_Put.go : List S52 → ByteArray → Option ByteArray
  | [], acc => some acc
  | a :: l, acc => if acc.size + (a.f0.size + a.f1.size + 2) ≤ 1000000000 then trace_Put.go l (acc ++ (a.f0 ++ (⟨#[47]⟩ : ByteArray) ++ a.f1 ++ (⟨#[47]⟩ : ByteArray))) else none
def trace_Put.f (k : Nat) (l0_0 : List S52) (a0_1 : ByteArray) : Option (ByteArray × Int) := (trace_check.f k l0_0 a0_1).bind fun t => if t = 0 then (if a0_1.size ≤ 1000000000 then (trace_Put.go l0_0 ⟨#[]⟩).bind fun s => some (s ++ a0_1, 0) else none) else some (⟨#[]⟩, t)
theorem trace_Put.go_size : ∀ (l : List S52) (acc r : ByteArray), trace_Put.go l acc = some r → acc.size ≤ 1000000000 → r.size ≤ 1000000000
  | [], acc, r, h, ha => by obtain rfl := Option.some.inj h; exact ha
  | a :: l, acc, r, h, ha => by
    simp only [trace_Put.go] at h
    by_cases hc : acc.size + (a.f0.size + a.f1.size + 2) ≤ 1000000000
    · rw [if_pos hc] at h
      refine trace_Put.go_size l _ r h ?_
      simp only [ByteArray.size_append]
      show acc.size + (a.f0.size + 1 + a.f1.size + 1) ≤ _
      omega
    · rw [if_neg hc] at h; exact absurd h (by simp)
theorem trace_Put.mono : ∀ a0 a1 k, LeO (trace_Put.f k a0 a1) (trace_Put.f (k + 1) a0 a1) := fun a0 a1 k => by
  unfold trace_Put.f
  exact LeO.bind (trace_check.mono _ _ _) (fun t => LeO.refl _)
set_option maxHeartbeats 4000000 in
set_option maxRecDepth 100000 in
theorem trace_Put.calls (k : Nat) (A0_0 : Option Addr) (c0_0 : Nat) (l0_0 : List (S52)) (a0_1 : ByteArray) (r1 : ByteArray) (r2 : Int) (w : World) (hr0_0 : Kd.C k52 w A0_0 l0_0.length l0_0) (hc0_0 : l0_0.length ≤ c0_0) (h : trace_Put.f k l0_0 a0_1 = some (r1, r2)) :
    Calls Tryd.prog 23 #[.agg #[.slice A0_0 l0_0.length c0_0, .string a0_1]] w fun e w' => e = .returned (.tuple #[.string r1, .int .i64 r2]) ∧ Below w.heap.size w w' := by
  have hu0 := Tryd.underlying39
  have hu1 := Tryd.underlying52
  have HR0 := Aside0.mk hr0_0
  have HC0 := Aside0.mk hc0_0
  clear hr0_0 hc0_0
  have HB := Aside0.mk (Below.refl w.heap.size w)
  unfold trace_Put.f at h
  obtain ⟨t, A10, h2⟩ := Option.bind_eq_some_iff.mp h
  have A1 := Aside0.mk A10
  replace h2 := Aside0.mk h2
  clear h A10
  go_enter Tryd.func23, Tryd.ntmps23
  go_wp2_with (first | ((with_reducible refine gate_dst (N := 1) rfl ?_); (try (refine gate_guard (by rfl) ?_; dsimp only)); refine box_event ?hg (N := 1) ?hd (cs := #[.slice A0_0 l0_0.length c0_0, .string a0_1]) (t := 39) ?hr ?_; (case hd => rfl); (case hg => rfl); (case hr => first | (go_simp; done) | (go_simp; rfl)); intro gb hg w1 hbox hb; have n0_ := Aside0.mk (below_step (by repeat (first | exact HB.out | apply pw_below_drewN | apply below_drew1)) hb); have BK := Aside0.mk hbox; have GE := Aside0.mk ((by rw [hg]; exact (below_size (by repeat (first | exact HB.out | apply pw_below_drewN | apply below_drew1))) : w.heap.size ≤ gb)); clear HB; have HB := n0_; clear n0_ hb hbox hg; have hz0 : w1.cell? ⟨gb, 0, none⟩ = some (.slice A0_0 l0_0.length c0_0) := (blk_cell BK.out 0).trans rfl; have hz1 : w1.cell? ⟨gb, 1, none⟩ = some (.string a0_1) := (blk_cell BK.out 1).trans rfl; have hf0 := blk_frozen BK.out 0; have hf1 := blk_frozen BK.out 1) | fail)
  refine (trace_check.calls k A0_0 c0_0 l0_0 a0_1 t _ (Kd.C_below HR0.out (by repeat (first | exact HB.out | apply pw_below_drewN | apply below_drew1))) HC0.out A1.out).mono ?_
  rintro e w2 ⟨rfl, hb2⟩
  have HB2 := Aside0.mk (below_step (by repeat (first | exact HB.out | apply pw_below_drewN | apply below_drew1)) hb2)
  have BK2 := Aside0.mk (blk_below (g := gb) (o := .cells #[.slice A0_0 l0_0.length c0_0, .string a0_1] 39 (0, 0)) (by (with_reducible repeat (first | refine blk_drewN ?_ _ | refine blk_drew ?_)); exact BK.out) hb2)
  have hy0 : w2.cell? ⟨gb, 0, none⟩ = some (.slice A0_0 l0_0.length c0_0) := (blk_cell BK2.out 0).trans rfl
  clear hb2 HB BK hz0 hz1 hf0 hf1
  have h3 := h2.out
  clear h2
  by_cases c1 : t = 0
  case neg =>
    rw [if_neg c1] at h3
    simp only [Option.some.injEq, Prod.mk.injEq] at h3
    obtain ⟨rfl, rfl⟩ := h3
    have c1b : (t != 0) = true := bne_iff_ne.2 c1
    have c1c : (t == 0) = false := beq_eq_false_iff_ne.2 c1
    go_wp2
    go_ret2
    exact ⟨rfl, HB2.out⟩
  rw [if_pos c1] at h3
  subst c1
  have h8 : (l0_0.length : Int) ≤ 8 := by
    have h := A1.out
    unfold trace_check.f at h
    by_cases hh : (l0_0.length : Int) > 8
    · rw [if_pos hh] at h; exact absurd h (by simp)
    · omega
  clear A1
  by_cases c2 : a0_1.size ≤ 1000000000
  case neg => rw [if_neg c2] at h3; exact absurd h3 (by simp)
  rw [if_pos c2] at h3
  obtain ⟨s0, g0, h4⟩ := Option.bind_eq_some_iff.mp h3
  simp only [Option.some.injEq, Prod.mk.injEq] at h4
  obtain ⟨rfl, rfl⟩ := h4
  have hsz := trace_Put.go_size _ _ _ g0 (by decide)
  have G0 := Aside0.mk g0
  clear h3 g0
  have hi := Aside0.mk (bi_new w2.heap.size w2 (Nat.le_refl _))
  have hb0 := Aside0.mk ((Below.refl w2.heap.size w2).alloc (Nat.le_refl _) (.cells #[.pointer none, .slice none 0 0] 95))
  have hlt := Aside0.mk (blk_lt BK2.out)
  have hy1 := Aside0.mk ((blk_cell BK2.out 1).trans rfl : w2.cell? ⟨gb, 1, none⟩ = some (.string a0_1))
  have hy0' : (w2.alloc (.cells #[.pointer none, .slice none 0 0] 95)).cell? ⟨gb, 0, none⟩ = some (.slice A0_0 l0_0.length c0_0) := (hb0.out.cell (p := ⟨gb, 0, none⟩) hlt.out).trans hy0
  go_wp2_with fail
  go_loopw [16] (fun i wr => ∃ (x : Int) (acc : ByteArray), 0 ≤ x ∧ x ≤ l0_0.length ∧ i = .int .i64 x ∧ Aside0 (trace_Put.go (l0_0.drop x.toNat) acc = some s0) ∧ Aside0 (Lib.IsBuilder 95 5 w2.heap.size w2.heap.size (Lib.byteCells acc.toList) wr) ∧ Aside0 (Below w2.heap.size w2 wr)) (fun i _ => l0_0.length - (intOf i).toNat)
  case atStart => exact ⟨0, ⟨#[]⟩, by omega, by omega, rfl, G0, ⟨by rw [ByteArray.toList_eq]; exact hi.out⟩, hb0⟩
  case round =>
    clear G0 hi hb0 hy0'
    obtain ⟨x, acc, hx0, hx1, rfl, hgo, hB, HB⟩ := hrel
    have hxw : wrap64 (x + 1) = x + 1 := IntWalk.wrap64_in _ (by omega)
    by_cases hkl : x < l0_0.length
    · have hdr : l0_0.drop x.toNat = rd_T52 l0_0 x :: l0_0.drop (x.toNat + 1) := by
        have hl : x.toNat < l0_0.length := by omega
        rw [List.drop_eq_getElem_cons hl]
        unfold rd_T52
        rw [List.getD_eq_getElem?_getD, List.getElem?_eq_getElem hl]
        rfl
      have h1 := hgo.out
      rw [hdr] at h1
      simp only [trace_Put.go] at h1
      by_cases c6 : acc.size + ((rd_T52 l0_0 x).f0.size + (rd_T52 l0_0 x).f1.size + 2) ≤ 1000000000
      case neg => rw [if_neg c6] at h1; exact absurd h1 (by simp)
      rw [if_pos c6] at h1
      replace h1 := Aside0.mk h1
      clear hgo hdr
      obtain ⟨ad, e1, hv0, hv1⟩ := at_T52 HR0.out x hx0 hkl
      cases e1
      replace hv0 := ((below_step HB2.out HB.out).cell (World.block_lt_of_cell? w _ hv0)).trans hv0
      replace hv1 := ((below_step HB2.out HB.out).cell (World.block_lt_of_cell? w _ hv1)).trans hv1
      have p0 := eq_true hx0
      have q0 := eq_true hkl
      have q1 : decide (x < (l0_0.length : Int)) = true := decide_eq_true hkl
      have HW := Aside0.mk (Below.refl wr.heap.size wr)
      have c7 : (9223372036854775807 < (rd_T52 l0_0 x).f0.size + 1) = False := eq_false (by omega)
      have c8 : (9223372036854775807 < (rd_T52 l0_0 x).f0.size + 1 + (rd_T52 l0_0 x).f1.size) = False := eq_false (by omega)
      have c9 : (9223372036854775807 < (rd_T52 l0_0 x).f0.size + 1 + (rd_T52 l0_0 x).f1.size + 1) = False := eq_false (by omega)
      have hs1 : ((rd_T52 l0_0 x).f0 ++ (⟨#[47]⟩ : ByteArray)).size = (rd_T52 l0_0 x).f0.size + 1 := by rw [ByteArray.size_append]; rfl
      have hs2 : ((rd_T52 l0_0 x).f0 ++ (⟨#[47]⟩ : ByteArray) ++ (rd_T52 l0_0 x).f1).size = (rd_T52 l0_0 x).f0.size + 1 + (rd_T52 l0_0 x).f1.size := by rw [ByteArray.size_append, hs1]
      have hs3 : Aside0 (((rd_T52 l0_0 x).f0 ++ (⟨#[47]⟩ : ByteArray) ++ (rd_T52 l0_0 x).f1 ++ (⟨#[47]⟩ : ByteArray)).size = (rd_T52 l0_0 x).f0.size + 1 + (rd_T52 l0_0 x).f1.size + 1) := ⟨by rw [ByteArray.size_append, hs2]; rfl⟩
      go_wp2_with (first | ((with_reducible refine gate_dst (N := 7) rfl ?_); (try (refine gate_guard (by rfl) ?_; dsimp only)); refine box_event ?hg (N := 7) ?hd (cs := #[.string (⟨#[]⟩ : ByteArray), .string (⟨#[]⟩ : ByteArray)]) (t := 52) ?hr ?_; (case hd => rfl); (case hg => rfl); (case hr => first | (go_simp; done) | (go_simp; rfl)); intro gc hg w8 hbox hb; have n0_ := Aside0.mk (below_step (by repeat (first | exact HW.out | apply pw_below_drewN | apply below_drew1)) hb); have BC := Aside0.mk hbox; have GC := Aside0.mk ((by rw [hg]; exact (below_size (by repeat (first | exact HW.out | apply pw_below_drewN | apply below_drew1))) : wr.heap.size ≤ gc)); clear HW; have HW := n0_; clear n0_ hb hbox hg; have hz0 : w8.cell? ⟨gc, 0, none⟩ = some (.string (⟨#[]⟩ : ByteArray)) := (blk_cell BC.out 0).trans rfl; have hz1 : w8.cell? ⟨gc, 1, none⟩ = some (.string (⟨#[]⟩ : ByteArray)) := (blk_cell BC.out 1).trans rfl; have hf0 := blk_frozen BC.out 0; have hf1 := blk_frozen BC.out 1) | fail)
      have HW2 := Aside0.mk (by repeat (first | exact HW.out | refine below_set ?_ GC.out) : Below wr.heap.size wr ((w8.setCell ⟨gc, 0, none⟩ (.string (rd_T52 l0_0 x).f0)).setCell ⟨gc, 1, none⟩ (.string (rd_T52 l0_0 x).f1)))
      have hB3 := Aside0.mk (bi_below hB.out HW2.out)
      have HB3 := Aside0.mk (below_step HB.out HW2.out)
      clear hB HB HW HW2
      refine (bi_strU w2.heap.size w2.heap.size _ ((rd_T52 l0_0 x).f0 ++ (⟨#[47]⟩ : ByteArray) ++ (rd_T52 l0_0 x).f1 ++ (⟨#[47]⟩ : ByteArray)) _ hB3.out (by rw [hs3.out, ← ba_size]; omega) HB3.out.size).mono ?_
      rintro e w4 ⟨rfl, hB4, hb4, hk4⟩
      replace hB4 := Aside0.mk hB4
      replace HB4 := Aside0.mk (HB3.out.trans hb4)
      clear hB3 HB3 hb4 hk4
      go_wp2
      go_roundw
      case rel => exact ⟨x + 1, acc ++ ((rd_T52 l0_0 x).f0 ++ (⟨#[47]⟩ : ByteArray) ++ (rd_T52 l0_0 x).f1 ++ (⟨#[47]⟩ : ByteArray)), by omega, by omega, by first | rfl | rw [hxw], ⟨by rw [show (x + 1).toNat = x.toNat + 1 by omega]; exact h1.out⟩, ⟨by rw [ba_append]; exact hB4.out⟩, HB4⟩
      case measure => simp [intOf]; omega
    · have hdr : l0_0.drop x.toNat = [] := List.drop_eq_nil_iff.2 (by omega)
      have q1 : decide (x < (l0_0.length : Int)) = false := decide_eq_false hkl
      have h1 := hgo.out
      rw [hdr] at h1
      simp only [trace_Put.go, Option.some.injEq] at h1
      subst h1
      clear hgo hdr
      have hq : (⟨acc.toList.toArray⟩ : ByteArray) = acc := ba_ext (by rw [ByteArray.toList_eq])
      have hq0 : wr.cell? ⟨gb, 1, none⟩ = some (.string a0_1) := (HB.out.cell (p := ⟨gb, 1, none⟩) hlt.out).trans hy1.out
      have c7 : (9223372036854775807 < acc.size + a0_1.size) = False := eq_false (by omega)
      have HX := Aside0.mk (below_step HB2.out HB.out)
      go_upto_region 10 with fail
      have hq1 := hq0
      go_region_with (go_at_call 60; refine (Tryd.Builder_String_any w2.heap.size w2.heap.size acc.toList _ (by first | exact hB.out | exact bi_below hB.out (by repeat (first | exact Below.refl _ _ | apply pw_below_drewN | apply below_drew1))) (by exact HB.out.size)).mono ?_; rintro e w3 ⟨rfl, hb3⟩; rw [hq]; have hq2 : w3.cell? ⟨gb, 1, none⟩ = some (.string a0_1) := (hb3.cell (p := ⟨gb, 1, none⟩) (Nat.lt_of_lt_of_le hlt.out (Nat.le_refl _))).trans hq1; have hbx := Aside0.mk (below_step HB2.out (Below.trans (by repeat (first | exact HB.out | apply pw_below_drewN | apply below_drew1) : Below w2.heap.size w2 _) hb3)))
      all_goals
        go_wp2
        go_ret2
        exact ⟨rfl, hbx.out⟩

/-! ### strings_Split: function 53 -/
def strings_Split.f (a0 a1 : ByteArray) : Option (List ByteArray) := if a1.toList = [47] ∧ a0.size ≤ 1000000 then some (Lib.splitB ⟨#[47]⟩ 0 (Lib.countB a0 ⟨#[47]⟩) a0) else none
set_option maxHeartbeats 1000000 in
set_option maxRecDepth 100000 in
theorem strings_Split.calls (a0 a1 : ByteArray) (r : List ByteArray) (w : World) (h : strings_Split.f a0 a1 = some r) :
    Calls Tryd.prog 53 #[.string a0, .string a1] w fun e w' => ∃ v0_ : Value, e = .returned (v0_) ∧ Kd.R Kd.string 9 w' w.heap.size (fun _ => True) v0_ r ∧ Below w.heap.size w w' := by
  unfold strings_Split.f at h
  by_cases hc : a1.toList = [47] ∧ a0.size ≤ 1000000
  case neg => rw [if_neg hc] at h; exact absurd h (by simp)
  rw [if_pos hc] at h
  obtain ⟨h1, h2⟩ := hc
  have ha : a1 = (⟨#[47]⟩ : ByteArray) := ba_ext (by rw [h1, ByteArray.toList_eq])
  subst ha
  obtain rfl := Option.some.inj h
  have hle := Lib.countB_le (⟨#[47]⟩ : ByteArray) (by decide) a0.size a0 (Nat.le_refl _)
  have hlen := Lib.splitB_all (⟨#[47]⟩ : ByteArray) (by decide) 0 _ a0 rfl
  have hidx : ∀ (x : ByteArray) (W : World), Calls Tryd.prog 122 #[.string x, .string (⟨#[47]⟩ : ByteArray)] W fun e w' => e = .returned (.int .i64 (Lib.indexB x (⟨#[47]⟩ : ByteArray))) ∧ w' = W := fun x W => (Tryd.strings_Index_one x 47 W).mono fun e w' ⟨he, hw⟩ => ⟨by
    rw [he]
    show _ = Ending.returned (Value.int .i64 (Lib.index x.data.toList [47]))
    rw [Lib.index_one], hw⟩
  have hcnt : Calls Tryd.prog 121 #[.string a0, .string (⟨#[47]⟩ : ByteArray)] w fun e w' => e = .returned (.int .i64 (Lib.countB a0 (⟨#[47]⟩ : ByteArray))) ∧ w' = w := (Tryd.strings_Count_one a0 47 w).mono fun e w' ⟨he, hw⟩ => ⟨by
    rw [he]
    show _ = Ending.returned (Value.int .i64 ((Lib.count a0.data.toList [47] : Nat) : Int))
    rw [Lib.count_one]
    rfl, hw⟩
  have c := Any.strings_genSplit_core Tryd.lays221 (by kernel_rfl) a0 (⟨#[47]⟩ : ByteArray) 0 (-1) (Lib.countB a0 (⟨#[47]⟩ : ByteArray) + 1) w (by omega) (by decide) (by decide) (fun x c hx => hidx x _) hcnt (by decide) (by decide) (by rw [if_pos (by decide)]; omega)
  rw [Nat.add_sub_cancel, hlen] at c
  have e2 : Lib.cellsOf (Lib.splitB (⟨#[47]⟩ : ByteArray) 0 (Lib.countB a0 (⟨#[47]⟩ : ByteArray)) a0) (Lib.countB a0 (⟨#[47]⟩ : ByteArray) + 1) = ((Lib.splitB (⟨#[47]⟩ : ByteArray) 0 (Lib.countB a0 (⟨#[47]⟩ : ByteArray)) a0).map Value.string).toArray := by rw [← hlen]; exact Lib.cellsOf_full _
  rw [e2] at c
  replace c := Aside0.mk c
  replace hlen := Aside0.mk hlen
  clear hcnt hidx e2
  go_enter Tryd.func53, Tryd.ntmps53
  go_wp2_with fail
  refine c.out.mono ?_
  rintro e w' ⟨rfl, rfl⟩
  go_wp2
  go_ret
  refine ⟨_, rfl, Kd.R_of_own (enc := Value.string) ?_ (fun _ _ => trivial), (Below.refl w.heap.size w).alloc (Nat.le_refl _) _⟩
  rw [hlen.out]
  refine ⟨by simp [hlen.out, encs], .inr ⟨w.heap.size, _, _, rfl, Nat.le_refl _, my_alloc_new w _, Nat.le_refl _, by unfold maxLen; omega, by simp [hlen.out], by simp only [Nat.mul_one, encs]; exact List.take_of_length_le (by simp [hlen.out])⟩⟩

/-! ### trace_Read: function 25 -/
def trace_Read.l0 : Nat → List ByteArray → List (S52) → ByteArray → Option ((List (S52)) × ByteArray × Int)
  | 0, _, _, _ => none
  | k + 1, x4, x124000, x124001 => if (x4.length : Int) > 1 then (if 0 < (x4.length : Int) then (if 1 < (x4.length : Int) then (if x124000.length < 4398046511104 then (if 2 ≤ (x4.length : Int) then (trace_Read.l0 k (x4.drop (2 : Int).toNat) (x124000 ++ [(⟨rdOf ByteArray.empty x4 0, rdOf ByteArray.empty x4 1⟩ : S52)]) x124001) else (none)) else (none)) else (none)) else (none)) else ((trace_check.f k x124000 x124001).bind fun t132 => (if t132 = 0 then (some (x124000, x124001, 0)) else (some (([] : List (S52)), (⟨#[]⟩ : ByteArray), t132))))
def trace_Read.f (k : Nat) (a0 : ByteArray) : Option ((List (S52)) × ByteArray × Int) := (strings_Split.f a0 (⟨#[47]⟩ : ByteArray)).bind fun t119 => (if ((t119.length : Int) % 2) = 0 then (some (([] : List (S52)), (⟨#[]⟩ : ByteArray), 6)) else (if 0 ≤ (wrap64 ((t119.length : Int) - 1)) then (if (wrap64 ((t119.length : Int) - 1)) < (t119.length : Int) then (trace_Read.l0 k t119 ([] : List (S52)) (rdOf ByteArray.empty t119 (wrap64 ((t119.length : Int) - 1)))) else (none)) else (none)))
theorem trace_Read.mono_l : ∀ k, (∀ y0 y1 y2, LeO (trace_Read.l0 k y0 y1 y2) (trace_Read.l0 (k + 1) y0 y1 y2))
  | 0 => fun _ _ _ r h => by simp [trace_Read.l0] at h
  | k + 1 => by
    have ih0 := trace_Read.mono_l k
    · intro y0 y1 y2
      unfold trace_Read.l0
      repeat' first
      | (with_reducible exact ih0 _ _ _)
      | (with_reducible exact trace_check.mono _ _ _)
      | (with_reducible exact LeO.refl _)
      | (with_reducible exact LeO.none _)
      | (with_reducible refine LeO.ite ?_ ?_)
      | (with_reducible refine LeO.bind ?_ (fun _ => ?_))
      | exact ih0 _ _ _
      | exact trace_check.mono _ _ _
      | exact LeO.none _
      | refine LeO.ite ?_ ?_
      | refine LeO.bind ?_ (fun _ => ?_)
theorem trace_Read.mono : ∀ a0 k, LeO (trace_Read.f k a0) (trace_Read.f (k + 1) a0) := by
  intro a0 k
  have ih0 := trace_Read.mono_l k
  unfold trace_Read.f
  repeat' first
      | (with_reducible exact ih0 _ _ _)
      | (with_reducible exact trace_check.mono _ _ _)
      | (with_reducible exact LeO.refl _)
      | (with_reducible exact LeO.none _)
      | (with_reducible refine LeO.ite ?_ ?_)
      | (with_reducible refine LeO.bind ?_ (fun _ => ?_))
      | exact ih0 _ _ _
      | exact trace_check.mono _ _ _
      | exact LeO.none _
      | refine LeO.ite ?_ ?_
      | refine LeO.bind ?_ (fun _ => ?_)
def trace_Read.T7 : Bool × List (List Nat × List Nat) := (true, [([], []), ([0], [0]), ([], []), ([2], [2]), ([3], [3]), ([], []), ([5], [5]), ([6], [6]), ([4, 7], [4, 7]), ([8], [8]), ([1, 9], [1, 9]), ([0, 1, 2, 3, 4, 5, 6, 7, 8, 9, 10], []), ([11, 10, 10, 0, 1, 2, 3, 4, 5, 6, 7, 8, 9, 10], [10, 11])])
def trace_Read.B7 : List Nat := [0, 1, 0, 4, 12, 0, 32, 96, 252, 508, 1023, 2047, 4095]
theorem trace_Read.tab7 : rtab .any (opsOf Tryd.f25 7) = trace_Read.T7 := by kernel_rfl
theorem trace_Read.bits7 : waitsOk trace_Read.T7.2 trace_Read.B7 = true := by kernel_rfl
set_option maxHeartbeats 8000000 in
set_option maxRecDepth 100000 in
theorem trace_Read.calls (k : Nat) (a0 : ByteArray) (r1 : List (S52)) (r2 : ByteArray) (r3 : Int) (w : World) (h : trace_Read.f k a0 = some (r1, r2, r3)) :
    Calls Tryd.prog 25 #[.string a0] w fun e w' => ∃ v0_ : Value, e = .returned (.tuple #[.agg #[v0_, .string r2], .int .i64 r3]) ∧ Kd.R k52 52 w' w.heap.size (fun _ => True) v0_ r1 ∧ Below w.heap.size w w' := by
  have hu39 := Tryd.underlying39
  have hu52 := Tryd.underlying52
  have HB := Aside0.mk (Below.refl w.heap.size w)
  have H : ((strings_Split.f a0 (⟨#[47]⟩ : ByteArray)).bind fun t119 => (if ((t119.length : Int) % 2) = 0 then (some (([] : List (S52)), (⟨#[]⟩ : ByteArray), 6)) else (if 0 ≤ (wrap64 ((t119.length : Int) - 1)) then (if (wrap64 ((t119.length : Int) - 1)) < (t119.length : Int) then (trace_Read.l0 k t119 ([] : List (S52)) (rdOf ByteArray.empty t119 (wrap64 ((t119.length : Int) - 1)))) else (none)) else (none)))) = some (r1, r2, r3) := h
  clear h
  replace H := Option.bind_eq_some_iff.mp H
  obtain ⟨t119, A20, H⟩ := H
  replace H : (if ((t119.length : Int) % 2) = 0 then (some (([] : List (S52)), (⟨#[]⟩ : ByteArray), 6)) else (if 0 ≤ (wrap64 ((t119.length : Int) - 1)) then (if (wrap64 ((t119.length : Int) - 1)) < (t119.length : Int) then (trace_Read.l0 k t119 ([] : List (S52)) (rdOf ByteArray.empty t119 (wrap64 ((t119.length : Int) - 1)))) else (none)) else (none))) = some (r1, r2, r3) := H
  have A2 := Aside0.mk A20
  clear A20
  by_cases c3 : ((t119.length : Int) % 2) = 0
  · rw [if_pos c3] at H
    have c3b0 : (((t119.length : Int) % 2) == 0) = true := beq_iff_eq.mpr c3
    have c3b1 : (((t119.length : Int) % 2) != 0) = false := bne_eq_false_iff_eq.mpr c3
    clear c3
    simp only [Option.some.injEq, Prod.mk.injEq] at H
    obtain ⟨rfl, rfl, rfl⟩ := H
    go_enter Tryd.func25, Tryd.ntmps25
    go_wp2_with (first | ((with_reducible refine gate_dst (N := 2) rfl ?_); refine box_event ?hg (N := 2) ?hd (cs := #[.slice none 0 0, .string (⟨#[]⟩ : ByteArray)]) (t := 39) ?hr ?_; (case hd => rfl); (case hg => rfl); (case hr => first | (go_simp; done) | (go_simp; rfl)); intro gb118 hg w4 hbox hb; have n0_ := Aside0.mk (below_step (by repeat (first | (with_reducible first | exact HB.out | apply below_alloc | apply pw_below_drewN | apply below_drew1) | exact HB.out)) hb); have n1_ := Aside0.mk (hbox); have n2_ := Aside0.mk ((by rw [hg]; exact (below_size (by repeat (first | (with_reducible first | exact HB.out | apply below_alloc | apply pw_below_drewN | apply below_drew1) | exact HB.out))) : w.heap.size ≤ gb118)); have n3_ := Aside0.mk ((by rw [hg]; exact (below_size (by repeat (first | (with_reducible first | exact HB.out | apply below_alloc | apply pw_below_drewN | apply below_drew1) | exact HB.out))) : w.heap.size ≤ gb118)); clear HB; have HB := n0_; have BK118 := n1_; have GW118 := n2_; have GE118 := n3_; clear n0_ n1_ n2_ n3_; clear hb hbox hg) | ((with_reducible refine gate_callee (f := 53) rfl ?_); refine goesL_ (some 8) rfl rfl Tryd.func53 (by kernel_rfl) rfl #[.string a0, .string (⟨#[47]⟩ : ByteArray)] rfl (by (try simp only [List.map_toArray, List.map_cons, List.map_nil]); first | done | rfl | (simp only [List.length_drop, List.length_take]; rfl)) ?_; (with_reducible refine (strings_Split.calls a0 (⟨#[47]⟩ : ByteArray) t119 _ A2.out).mono ?_); rintro e w5 ⟨v120, rfl, ho0, hb⟩; refine ⟨_, rfl, ?_⟩; have n0_ := Aside0.mk (Kd.R_lower ho0 (below_size (by repeat (first | (with_reducible first | exact HB.out | apply below_alloc | apply pw_below_drewN | apply below_drew1 | refine below_set ?_ GE118.out) | exact HB.out)))); have n1_ := Aside0.mk (blk_below (g := gb118) (o := .cells #[.slice none 0 0, .string (⟨#[]⟩ : ByteArray)] 39 (0, 0)) (by (with_reducible repeat (first | refine blk_drewN ?_ _ | refine blk_drew ?_ | refine blk_alloc ?_ _)); exact BK118.out) hb); have n2_ := Aside0.mk (below_step (by repeat (first | (with_reducible first | exact HB.out | apply below_alloc | apply pw_below_drewN | apply below_drew1 | refine below_set ?_ GE118.out) | exact HB.out)) hb); clear BK118; clear HB; have HO121 := n0_; have BK118 := n1_; have HB := n2_; clear n0_ n1_ n2_; (try clear hb); (try clear hb2); (try clear hk); (try clear hi); (try clear ho0); obtain ⟨Ao6, co6, eo6⟩ := Kd.R_slice HO121.out; subst eo6; have hcz7_0 : w5.cell? ⟨gb118, 0, none⟩ = some (.slice none 0 0) := (blk_cell BK118.out 0).trans rfl; have hcz7_1 : w5.cell? ⟨gb118, 1, none⟩ = some (.string (⟨#[]⟩ : ByteArray)) := (blk_cell BK118.out 1).trans rfl; have hfz7_0 := blk_frozen BK118.out 0; have hfz7_1 := blk_frozen BK118.out 1))
    refine bodyPost_ret (results_ct rfl _ _ gb118 39 #[.slice none 0 0, .string (⟨#[]⟩ : ByteArray)] (0, 0) _ rfl (by (with_reducible repeat (first | refine blk_drewN ?_ _ | refine blk_drew ?_ | refine blk_alloc ?_ _)); refine blk_put (cs := #[.slice none 0 0, .string (⟨#[]⟩ : ByteArray)]) ?_ 1 _ rfl; (with_reducible repeat (first | refine blk_drewN ?_ _ | refine blk_drew ?_ | refine blk_alloc ?_ _)); refine blk_put (cs := #[.slice none 0 0, .string (⟨#[]⟩ : ByteArray)]) ?_ 0 _ rfl; (with_reducible repeat (first | refine blk_drewN ?_ _ | refine blk_drew ?_ | refine blk_alloc ?_ _)); exact BK118.out) Tryd.underlying39 rfl (by kernel_rfl)) rfl ?_
    exact ⟨_, by first | rfl | (simp [errW_none, errW_some] <;> rfl) | (simp [*, errW_none, errW_some] <;> rfl), by first | exact Kd.R_nil _ _ _ _ _ | exact Kd.N_nil _ _ _ _ _ | exact Kd.V_nil _ _ _ _ _ | exact Kd.Q_nil _ _ _ _ _ | exact Kd.S_nil _ _ _ _ _, by repeat (first | (with_reducible first | exact HB.out | apply below_alloc | apply pw_below_drewN | apply below_drew1 | refine below_set ?_ GE118.out) | exact HB.out)⟩
  · rw [if_neg c3] at H
    have c3b0 : (((t119.length : Int) % 2) == 0) = false := beq_eq_false_iff_ne.mpr c3
    have c3b1 : (((t119.length : Int) % 2) != 0) = true := bne_iff_ne.mpr c3
    obtain ⟨ji8, hji8⟩ : ∃ j_ : Int, (wrap64 ((t119.length : Int) - 1)) = j_ := ⟨_, rfl⟩
    replace H : (if 0 ≤ (ji8) then (if (ji8) < (t119.length : Int) then (trace_Read.l0 k t119 ([] : List (S52)) (rdOf ByteArray.empty t119 (ji8))) else (none)) else (none)) = some (r1, r2, r3) := by first | (rw [hji8] at H; exact H) | (simp only [hji8] at H ⊢; exact H)
    (try rw [hji8] at A2)
    have hji8w : (IntKind.i64.wrap ((t119.length : Int) - 1)) = ji8 := (i64_w _).trans hji8
    by_cases c9 : 0 ≤ (ji8)
    · rw [if_pos c9] at H
      have c9b0 : decide (0 ≤ (ji8)) = true := decide_eq_true c9
      clear c9
      by_cases c10 : (ji8) < (t119.length : Int)
      · rw [if_pos c10] at H
        have c10b0 : decide ((ji8) < (t119.length : Int)) = true := decide_eq_true c10
        clear c10
        have H' := Aside0.mk H
        clear H
        go_enter Tryd.func25, Tryd.ntmps25
        go_wp2_with (first | ((with_reducible refine gate_dst (N := 2) rfl ?_); refine box_event ?hg (N := 2) ?hd (cs := #[.slice none 0 0, .string (⟨#[]⟩ : ByteArray)]) (t := 39) ?hr ?_; (case hd => rfl); (case hg => rfl); (case hr => first | (go_simp; done) | (go_simp; rfl)); intro gb118 hg w11 hbox hb; have n0_ := Aside0.mk (below_step (by repeat (first | (with_reducible first | exact HB.out | apply below_alloc | apply pw_below_drewN | apply below_drew1) | exact HB.out)) hb); have n1_ := Aside0.mk (hbox); have n2_ := Aside0.mk ((by rw [hg]; exact (below_size (by repeat (first | (with_reducible first | exact HB.out | apply below_alloc | apply pw_below_drewN | apply below_drew1) | exact HB.out))) : w.heap.size ≤ gb118)); have n3_ := Aside0.mk ((by rw [hg]; exact (below_size (by repeat (first | (with_reducible first | exact HB.out | apply below_alloc | apply pw_below_drewN | apply below_drew1) | exact HB.out))) : w.heap.size ≤ gb118)); clear HB; have HB := n0_; have BK118 := n1_; have GW118 := n2_; have GE118 := n3_; clear n0_ n1_ n2_ n3_; clear hb hbox hg) | ((with_reducible refine gate_callee (f := 53) rfl ?_); refine goesL_ (some 8) rfl rfl Tryd.func53 (by kernel_rfl) rfl #[.string a0, .string (⟨#[47]⟩ : ByteArray)] rfl (by (try simp only [List.map_toArray, List.map_cons, List.map_nil]); first | done | rfl | (simp only [List.length_drop, List.length_take]; rfl)) ?_; (with_reducible refine (strings_Split.calls a0 (⟨#[47]⟩ : ByteArray) t119 _ A2.out).mono ?_); rintro e w12 ⟨v120, rfl, ho0, hb⟩; refine ⟨_, rfl, ?_⟩; have n0_ := Aside0.mk (Kd.R_lower ho0 (below_size (by repeat (first | (with_reducible first | exact HB.out | apply below_alloc | apply pw_below_drewN | apply below_drew1 | refine below_set ?_ GE118.out) | exact HB.out)))); have n1_ := Aside0.mk (blk_below (g := gb118) (o := .cells #[.slice none 0 0, .string (⟨#[]⟩ : ByteArray)] 39 (0, 0)) (by (with_reducible repeat (first | refine blk_drewN ?_ _ | refine blk_drew ?_ | refine blk_alloc ?_ _)); exact BK118.out) hb); have n2_ := Aside0.mk (below_step (by repeat (first | (with_reducible first | exact HB.out | apply below_alloc | apply pw_below_drewN | apply below_drew1 | refine below_set ?_ GE118.out) | exact HB.out)) hb); clear BK118; clear HB; have HO121 := n0_; have BK118 := n1_; have HB := n2_; clear n0_ n1_ n2_; (try clear hb); (try clear hb2); (try clear hk); (try clear hi); (try clear ho0); obtain ⟨Ao13, co13, eo13⟩ := Kd.R_slice HO121.out; subst eo13; have p122 : 0 ≤ ((ji8) : Int) := of_decide_eq_true (by first | (with_reducible assumption) | assumption); have q122 : (ji8) < (t119.length : Int) := of_decide_eq_true (by first | (with_reducible assumption) | assumption); obtain ⟨ad122, e122, hx122_0⟩ := Kd.at_string (Kd.R_reads' HO121.out).2.2 (ji8) p122 q122; cases e122; replace p122 := eq_true p122; replace q122 := eq_true q122) | ((with_reducible refine gate_dst (N := 5) rfl ?_); refine box_event ?hg (N := 5) ?hd (cs := #[.slice none 0 0, .string (⟨#[]⟩ : ByteArray)]) (t := 39) ?hr ?_; (case hd => rfl); (case hg => rfl); (case hr => first | (go_simp; done) | (go_simp; rfl)); intro gb123 hg w14 hbox hb; have n0_ := Aside0.mk (Kd.R_below (by (with_reducible repeat (first | apply Kd.R_alloc | apply Kd.R_drewN | apply Kd.R_drew)); exact HO121.out) hb); have n1_ := Aside0.mk (blk_below (g := gb118) (o := .cells #[.slice none 0 0, .string (⟨#[]⟩ : ByteArray)] 39 (0, 0)) (by (with_reducible repeat (first | refine blk_drewN ?_ _ | refine blk_drew ?_ | refine blk_alloc ?_ _)); exact BK118.out) hb); have n2_ := Aside0.mk (below_step (by repeat (first | (with_reducible first | exact HB.out | apply below_alloc | apply pw_below_drewN | apply below_drew1 | refine below_set ?_ GE118.out) | exact HB.out)) hb); have n3_ := Aside0.mk (hbox); have n4_ := Aside0.mk ((by rw [hg]; exact (below_size (by repeat (first | (with_reducible first | exact HB.out | apply below_alloc | apply pw_below_drewN | apply below_drew1 | refine below_set ?_ GE118.out) | exact HB.out))) : w.heap.size ≤ gb123)); have n5_ := Aside0.mk ((by rw [hg]; exact (below_size (by repeat (first | (with_reducible first | exact HB.out | apply below_alloc | apply pw_below_drewN | apply below_drew1 | refine below_set ?_ GE118.out) | exact HB.out))) : w.heap.size ≤ gb123)); have n6_ := Aside0.mk ((by rw [hg]; exact Nat.ne_of_lt (blk_lt (g := gb118) (o := .cells #[.slice none 0 0, .string (⟨#[]⟩ : ByteArray)] 39 (0, 0)) (by (with_reducible repeat (first | refine blk_drewN ?_ _ | refine blk_drew ?_ | refine blk_alloc ?_ _)); exact BK118.out)) : gb118 ≠ gb123)); have n7_ := Aside0.mk ((by rw [hg]; exact Nat.ne_of_gt (blk_lt (g := gb118) (o := .cells #[.slice none 0 0, .string (⟨#[]⟩ : ByteArray)] 39 (0, 0)) (by (with_reducible repeat (first | refine blk_drewN ?_ _ | refine blk_drew ?_ | refine blk_alloc ?_ _)); exact BK118.out)) : gb123 ≠ gb118)); clear HO121; clear BK118; clear HB; have HO121 := n0_; have BK118 := n1_; have HB := n2_; have BK123 := n3_; have GW123 := n4_; have GE123 := n5_; have NB118_123 := n6_; have NB123_118 := n7_; clear n0_ n1_ n2_ n3_ n4_ n5_ n6_ n7_; clear hb hbox hg; have hnb15 := NB123_118.out; have hnc15 := NB118_123.out; have hcz16_0 : w14.cell? ⟨gb123, 0, none⟩ = some (.slice none 0 0) := (blk_cell BK123.out 0).trans rfl; have hcz16_1 : w14.cell? ⟨gb123, 1, none⟩ = some (.string (⟨#[]⟩ : ByteArray)) := (blk_cell BK123.out 1).trans rfl; have hfz16_0 := blk_frozen BK123.out 0; have hfz16_1 := blk_frozen BK123.out 1))
        go_loopg [4] k (fun kq v4 w' => ∃ (x4_1 : List ByteArray) (x124000_1 : List (S52)) (u124000 : Value), Aside0 (trace_Read.l0 kq x4_1 x124000_1 (rdOf ByteArray.empty t119 (ji8)) = some (r1, r2, r3)) ∧ Aside0 (kq ≤ k) ∧ Aside0 (Kd.Q Kd.string 9 w' w.heap.size (fun _ => True) v4 x4_1) ∧ Aside0 (Kd.R k52 52 w' w.heap.size (fun _ => True) u124000 x124000_1) ∧ Aside0 (w'.heap[gb118]? = some (.cells #[(.slice none 0 0), .string (⟨#[]⟩ : ByteArray)] 39 (0, 0))) ∧ Aside0 (w'.heap[gb123]? = some (.cells #[u124000, .string (rdOf ByteArray.empty t119 (ji8))] 39 (0, 0))) ∧ Aside0 (Below w.heap.size w w'))
        case atStart => exact ⟨(t119), (([] : List (S52))), (.slice none 0 0), H', ⟨Nat.le_refl _⟩, ⟨Kd.Q_of_R (by (with_reducible repeat (first | apply Kd.R_alloc | apply Kd.R_drewN | apply Kd.R_drew)); exact Kd.R_mono (Kd.R_far (p := ⟨gb123, 1, none⟩) (Kd.R_far (p := ⟨gb123, 0, none⟩) (Kd.R_types HO121.out BK123.out (by decide)) (fun _ hk => hk.2) (.slice none 0 0)) (fun _ hk => hk.2) (.string (rdOf ByteArray.empty t119 (ji8)))) (fun _ hk => trivial))⟩, ⟨by first | exact Kd.R_nil _ _ _ _ _ | exact Kd.N_nil _ _ _ _ _ | exact Kd.V_nil _ _ _ _ _ | exact Kd.Q_nil _ _ _ _ _ | exact Kd.S_nil _ _ _ _ _⟩, ⟨by (with_reducible repeat (first | refine blk_drewN ?_ _ | refine blk_drew ?_ | refine blk_alloc ?_ _)); refine blk_far ?_ NB118_123.out _; (with_reducible repeat (first | refine blk_drewN ?_ _ | refine blk_drew ?_ | refine blk_alloc ?_ _)); refine blk_far ?_ NB118_123.out _; (with_reducible repeat (first | refine blk_drewN ?_ _ | refine blk_drew ?_ | refine blk_alloc ?_ _)); exact BK118.out⟩, ⟨by (with_reducible repeat (first | refine blk_drewN ?_ _ | refine blk_drew ?_ | refine blk_alloc ?_ _)); refine blk_put (cs := #[.slice none 0 0, .string (⟨#[]⟩ : ByteArray)]) ?_ 1 _ rfl; (with_reducible repeat (first | refine blk_drewN ?_ _ | refine blk_drew ?_ | refine blk_alloc ?_ _)); refine blk_put (cs := #[.slice none 0 0, .string (⟨#[]⟩ : ByteArray)]) ?_ 0 _ rfl; (with_reducible repeat (first | refine blk_drewN ?_ _ | refine blk_drew ?_ | refine blk_alloc ?_ _)); exact BK123.out⟩, ⟨by repeat (first | (with_reducible first | exact HB.out | apply below_alloc | apply pw_below_drewN | apply below_drew1 | refine below_set ?_ GE118.out | refine below_set ?_ GE123.out) | exact HB.out)⟩⟩
        case round =>
          clear H'
          try clear c1
          try clear p1
          try clear q1
          try clear hx1
          try clear c2
          try clear p2
          try clear c3
          try clear c3b0
          try clear c3b1
          try clear c5
          try clear p6
          try clear c9
          try clear c9b0
          try clear c10
          try clear c10b0
          try clear p12
          try clear q12
          try clear hx12
          try clear c15
          try clear hcz16_0
          try clear hcz16_1
          try clear hcz7_0
          try clear hcz7_1
          try clear hfz16_0
          try clear hfz16_1
          try clear hfz7_0
          try clear hfz7_1
          try clear hx122_0
          try clear p122
          try clear q122
          obtain ⟨x4_1, x124000_1, u124000, HA, HK1, HO_4, HO_124000, BK118, BK123, HB⟩ := hrel
          cases gk with
          | zero => exact absurd HA.out (by simp [trace_Read.l0])
          | succ k1 =>
            have H := HA.out
            clear HA
            simp only [trace_Read.l0] at H
            by_cases c17 : (x4_1.length : Int) > 1
            · rw [if_pos c17] at H
              have c17b0 : decide (1 < (x4_1.length : Int)) = true := decide_eq_true c17
              have c17b1 : decide (1 < x4_1.length) = true := decide_eq_true (by omega)
              clear c17
              by_cases c18 : 0 < (x4_1.length : Int)
              · rw [if_pos c18] at H
                have c18b0 : decide (0 < (x4_1.length : Int)) = true := decide_eq_true c18
                have c18b1 : decide (0 < x4_1.length) = true := decide_eq_true (by omega)
                clear c18
                by_cases c19 : 1 < (x4_1.length : Int)
                · rw [if_pos c19] at H
                  have c19b0 : decide (1 < (x4_1.length : Int)) = true := decide_eq_true c19
                  have c19b1 : decide (1 < x4_1.length) = true := decide_eq_true (by omega)
                  clear c19
                  by_cases c20 : x124000_1.length < 4398046511104
                  · rw [if_pos c20] at H
                    have LMc20 := Aside0.mk c20
                    clear c20
                    obtain ⟨y126, hy126⟩ : ∃ y_ : List (S52), y_ = (x124000_1 ++ [(⟨rdOf ByteArray.empty x4_1 0, rdOf ByteArray.empty x4_1 1⟩ : S52)]) := ⟨_, rfl⟩
                    replace H : (if 2 ≤ (x4_1.length : Int) then (trace_Read.l0 k1 (x4_1.drop (2 : Int).toNat) y126 (rdOf ByteArray.empty t119 (ji8))) else (none)) = some (r1, r2, r3) := by first | (rw [hy126]; with_reducible exact H) | (have H2_ := (Option.bind_some _ _).symm.trans H; rw [hy126]; with_reducible exact H2_) | (have H2_ := (Option.bind_some _ _).symm.trans H; with_reducible exact H2_) | with_reducible exact H | (rw [hy126]; exact H) | exact H
                    have Ny126 := Aside0.mk hy126
                    clear hy126
                    by_cases c21 : 2 ≤ (x4_1.length : Int)
                    · rw [if_pos c21] at H
                      have c21b0 := eq_true c21
                      have c21b1 : decide (2 ≤ (x4_1.length : Int)) = true := decide_eq_true c21
                      clear c21
                      obtain ⟨y129, hy129⟩ : ∃ y_ : List ByteArray, y_ = (x4_1.drop (2 : Int).toNat) := ⟨_, rfl⟩
                      replace H : (trace_Read.l0 k1 y129 y126 (rdOf ByteArray.empty t119 (ji8))) = some (r1, r2, r3) := by first | (rw [hy129]; with_reducible exact H) | (have H2_ := (Option.bind_some _ _).symm.trans H; rw [hy129]; with_reducible exact H2_) | (have H2_ := (Option.bind_some _ _).symm.trans H; with_reducible exact H2_) | with_reducible exact H | (rw [hy129]; exact H) | exact H
                      have Ny129 := Aside0.mk hy129
                      clear hy129
                      have H' := Aside0.mk H
                      clear H
                      obtain ⟨Ao22, co22, eo22, _⟩ := Kd.Q_slice HO_4.out
                      subst eo22
                      try go_wp2
                      have n0_ := Aside0.mk (Kd.Q_drew HO_4.out)
                      have n1_ := Aside0.mk (Kd.R_drew HO_124000.out)
                      have n2_ := Aside0.mk (blk_drew BK118.out)
                      have n3_ := Aside0.mk (blk_drew BK123.out)
                      have n4_ := Aside0.mk (below_drew1 HB.out)
                      clear HO_4
                      clear HO_124000
                      clear BK118
                      clear BK123
                      clear HB
                      have HO_4 := n0_
                      have HO_124000 := n1_
                      have BK118 := n2_
                      have BK123 := n3_
                      have HB := n4_
                      clear n0_ n1_ n2_ n3_ n4_
                      have p124 : 0 ≤ (0 : Int) := (by omega)
                      have q124 : 0 < (x4_1.length : Int) := of_decide_eq_true (by first | (with_reducible assumption) | assumption)
                      obtain ⟨ad124, e124, hx124_0⟩ := Kd.at_string (Kd.Q_reads' HO_4.out).2.2 0 p124 q124
                      cases e124
                      have qi124 : (0 < x4_1.length) = True := eq_true (by omega)
                      (try rw [show ((0 : Int)).toNat = 0 from rfl] at hx124_0)
                      (try rw [Addr.add_zero'] at hx124_0)
                      replace p124 := eq_true p124
                      replace q124 := eq_true q124
                      have p125 : 0 ≤ (1 : Int) := (by omega)
                      have q125 : 1 < (x4_1.length : Int) := of_decide_eq_true (by first | (with_reducible assumption) | assumption)
                      obtain ⟨ad125, e125, hx125_0⟩ := Kd.at_string (Kd.Q_reads' HO_4.out).2.2 1 p125 q125
                      obtain rfl : ad124 = ad125 := (by injection e125)
                      (try simp only [show (1 : Int).toNat = 1 from rfl, Nat.reduceMul, Nat.reduceEqDiff, Go.Addr.add, ↓reduceIte] at hx125_0)
                      have qi125 : (1 < x4_1.length) = True := eq_true (by omega)
                      (try rw [show ((1 : Int)).toNat = 1 from rfl] at hx125_0)
                      replace p125 := eq_true p125
                      replace q125 := eq_true q125
                      refine start_ (n := 13) (S := fun w' => w'.cell? ⟨gb123, 0, none⟩ = some (u124000) ∧ w'.cell? ⟨gb123, 1, none⟩ = some (.string (rdOf ByteArray.empty t119 (ji8))) ∧ w'.cell? ad124 = some (.string (rdOf ByteArray.empty x4_1 0)) ∧ w'.cell? ⟨ad124.block, ad124.off + 1, none⟩ = some (.string (rdOf ByteArray.empty x4_1 1))) (ds := [10, 12]) #[false, false, false, false, false, false, false, false, false, false, false, false, false] (by kernel_rfl) rfl rfl ⟨(blk_cell BK123.out 0).trans rfl, (blk_cell BK123.out 1).trans rfl, hx124_0, hx125_0⟩ (fun hHeld => ?_); refine with_tabW trace_Read.tab7 trace_Read.bits7 (fun HT_ HW_ => ?_)
                      generalize wr.drew = w23 at HO_4 HO_124000 BK118 BK123 HB hx124_0 hx125_0 hHeld ⊢
                      refine pure_ (i := 0) (N := some 26) (v := ?_) (a' := ?_) #[true, false, false, false, false, false, false, false, false, false, false, false, false] rfl rfl (any_of HT_.out (by kernel_rfl)) (fun _ _ _ h => h) (Or.inl ⟨by rfl, ?_⟩) ?_ ?_
                      rotate_left
                      · intro w'
                        go_simp
                        with_reducible rfl
                      rotate_left
                      · simp only [Act.put, List.setIfInBounds_toArray, List.set_cons_zero, List.set_cons_succ, i64_w, i32_w]
                        rfl
                      refine pure_ (i := 2) (N := some 28) (v := ?_) (a' := ?_) #[true, false, true, false, false, false, false, false, false, false, false, false, false] rfl rfl (any_of HT_.out (by kernel_rfl)) (fun _ _ _ h => h) (Or.inl ⟨by rfl, ?_⟩) ?_ ?_
                      rotate_left
                      · intro w'
                        go_simp
                        with_reducible rfl
                      rotate_left
                      · simp only [Act.put, List.setIfInBounds_toArray, List.set_cons_zero, List.set_cons_succ, i64_w, i32_w]
                        rfl
                      refine pure_ (i := 3) (N := some 29) (v := ?_) (a' := ?_) #[true, false, true, true, false, false, false, false, false, false, false, false, false] rfl rfl (any_of HT_.out (by kernel_rfl)) (fun _ _ _ h => h) (Or.inl ⟨by rfl, ?_⟩) ?_ ?_
                      rotate_left
                      · intro w'
                        go_simp
                        with_reducible rfl
                      rotate_left
                      · simp only [Act.put, List.setIfInBounds_toArray, List.set_cons_zero, List.set_cons_succ, i64_w, i32_w]
                        rfl
                      refine pure_ (i := 5) (N := some 31) (v := ?_) (a' := ?_) #[true, false, true, true, false, true, false, false, false, false, false, false, false] rfl rfl (any_of HT_.out (by kernel_rfl)) (fun _ _ _ h => h) (Or.inl ⟨by rfl, ?_⟩) ?_ ?_
                      rotate_left
                      · intro w'
                        go_simp
                        with_reducible rfl
                      rotate_left
                      · simp only [Act.put, List.setIfInBounds_toArray, List.set_cons_zero, List.set_cons_succ, i64_w, i32_w]
                        rfl
                      refine pure_ (i := 6) (N := some 32) (v := ?_) (a' := ?_) #[true, false, true, true, false, true, true, false, false, false, false, false, false] rfl rfl (any_of HT_.out (by kernel_rfl)) (fun _ _ _ h => h) (Or.inl ⟨by rfl, ?_⟩) ?_ ?_
                      rotate_left
                      · intro w'
                        go_simp
                        with_reducible rfl
                      rotate_left
                      · simp only [Act.put, List.setIfInBounds_toArray, List.set_cons_zero, List.set_cons_succ, i64_w, i32_w]
                        rfl
                      refine take_ (i := 1) (N := some 27) (v := ?_) (a' := ?_) #[true, true, true, true, false, true, true, false, false, false, false, false, false] rfl rfl (take_ofW HT_.out HW_.out (by kernel_rfl)) (fun _ _ _ h => h) (Or.inl ⟨by rfl, ?_⟩) hHeld ?_ ?_
                      rotate_left
                      · rintro w' ⟨s0, s1, s2, s3⟩
                        go_simp
                        with_reducible rfl
                      rotate_left
                      · simp only [Act.put, List.setIfInBounds_toArray, List.set_cons_zero, List.set_cons_succ, i64_w, i32_w]
                        rfl
                      refine take_ (i := 4) (N := some 30) (v := ?_) (a' := ?_) #[true, true, true, true, true, true, true, false, false, false, false, false, false] rfl rfl (take_ofW HT_.out HW_.out (by kernel_rfl)) (fun _ _ _ h => h) (Or.inl ⟨by rfl, ?_⟩) hHeld ?_ ?_
                      rotate_left
                      · rintro w' ⟨s0, s1, s2, s3⟩
                        go_simp
                        with_reducible rfl
                      rotate_left
                      · simp only [Act.put, List.setIfInBounds_toArray, List.set_cons_zero, List.set_cons_succ, i64_w, i32_w]
                        rfl
                      refine take_ (i := 7) (N := some 33) (v := ?_) (a' := ?_) #[true, true, true, true, true, true, true, true, false, false, false, false, false] rfl rfl (take_ofW HT_.out HW_.out (by kernel_rfl)) (fun _ _ _ h => h) (Or.inl ⟨by rfl, ?_⟩) hHeld ?_ ?_
                      rotate_left
                      · rintro w' ⟨s0, s1, s2, s3⟩
                        go_simp
                        with_reducible rfl
                      rotate_left
                      · simp only [Act.put, List.setIfInBounds_toArray, List.set_cons_zero, List.set_cons_succ, i64_w, i32_w]
                        rfl
                      refine pure_ (i := 8) (N := some 34) (v := ?_) (a' := ?_) #[true, true, true, true, true, true, true, true, true, false, false, false, false] rfl rfl (any_of HT_.out (by kernel_rfl)) (fun _ _ _ h => h) (Or.inl ⟨by rfl, ?_⟩) ?_ ?_
                      rotate_left
                      · intro w'
                        go_simp
                        with_reducible rfl
                      rotate_left
                      · simp only [Act.put, List.setIfInBounds_toArray, List.set_cons_zero, List.set_cons_succ, i64_w, i32_w]
                        rfl
                      refine one_ (i := 9) (N := some 35) #[true, true, true, true, true, true, true, true, true, true, false, false, false] rfl rfl (one_of HT_.out (by kernel_rfl)) (by decide) (fun K hK => ?_)
                      refine value_ (w1 := ?_) (v := ?_) (by rfl) rfl ?_ ?_
                      rotate_left 2
                      · go_simp
                        constructor
                        · rfl
                        · rfl
                      refine hK.out _ _ ⟨(blk_cell (blk_alloc BK123.out _) 0).trans rfl, (blk_cell (blk_alloc BK123.out _) 1).trans rfl, (World.cell?_alloc_lt _ _ _ (World.block_lt_of_cell? _ _ (hHeld.2.2.1))).trans (hHeld.2.2.1), (World.cell?_alloc_lt _ _ _ (World.block_lt_of_cell? _ _ (hHeld.2.2.2))).trans (hHeld.2.2.2)⟩ (fun hHeld => ?_)
                      clear hK K
                      refine norm_ (a' := ?_) ?_ ?_
                      rotate_left
                      · show Act.put _ (some 35) _ = _
                        simp only [Act.put, List.setIfInBounds_toArray, List.set_cons_zero, List.set_cons_succ, i64_w, i32_w]
                        rfl
                      refine last_ (i := 10) (N := some 36) #[true, true, true, true, true, true, true, true, true, true, true, false, false] rfl rfl (one_of HT_.out (by kernel_rfl)) (by decide) (fun K hK => ?_)
                      refine Kd.R_append_step k52 (w0 := w) w.heap.size (by rfl) (.tmp 27) (.tmp 35) 37 52 (.agg #[(.string ⟨#[]⟩), (.string ⟨#[]⟩)]) 32 rfl Tryd.underlying37 info52 rfl (by decide) (by omega) u124000 x124000_1 (⟨rdOf ByteArray.empty x4_1 0, rdOf ByteArray.empty x4_1 1⟩ : S52) [.string (rdOf ByteArray.empty x4_1 0), .string (rdOf ByteArray.empty x4_1 1)] (fun _ => True) (fun _ => False) rfl rfl ?aP (fun _ hk => hk.elim) ?aF ?aO ?aB ?aS ?aL ?_
                      (case aP => exact k52_mkM _ _ _ (⟨rdOf ByteArray.empty x4_1 0, rdOf ByteArray.empty x4_1 1⟩ : S52))
                      (case aB => exact (by repeat (first | (with_reducible first | exact HB.out | apply below_alloc | apply pw_below_drewN | apply below_drew1 | refine below_set ?_ GE118.out | refine below_set ?_ GE123.out) | exact HB.out)))
                      (case aF => exact (fun _ _ => trivial))
                      (case aO => exact (by (with_reducible repeat (first | apply Kd.R_alloc | apply Kd.R_drewN | apply Kd.R_drew)); exact HO_124000.out))
                      (case aS => exact (below_size (by repeat (first | (with_reducible first | exact HB.out | apply below_alloc | apply pw_below_drewN | apply below_drew1 | refine below_set ?_ GE118.out | refine below_set ?_ GE123.out) | exact HB.out))))
                      (case aL => have := LMc20.out; omega)
                      intro v127 w24 ho hb hg hat
                      rw [← Ny126.out] at ho
                      have n0_ := Aside0.mk (Kd.Q_over' (by (with_reducible repeat (first | apply Kd.Q_alloc | apply Kd.Q_drewN | apply Kd.Q_drew)); exact HO_4.out) (Kd.R_typed (by (with_reducible repeat (first | apply Kd.R_alloc | apply Kd.R_drewN | apply Kd.R_drew)); exact HO_124000.out)) (by decide) hg)
                      have n1_ := Aside0.mk (blk_grown (g := gb118) (o := .cells #[.slice none 0 0, .string (⟨#[]⟩ : ByteArray)] 39 (0, 0)) (by (with_reducible repeat (first | refine blk_drewN ?_ _ | refine blk_drew ?_ | refine blk_alloc ?_ _)); exact BK118.out) hg (Kd.R_ne HO_124000.out BK118.out (by decide)))
                      have n2_ := Aside0.mk (blk_grown (g := gb123) (o := .cells #[u124000, .string (rdOf ByteArray.empty t119 (ji8))] 39 (0, 0)) (by (with_reducible repeat (first | refine blk_drewN ?_ _ | refine blk_drew ?_ | refine blk_alloc ?_ _)); exact BK123.out) hg (Kd.R_ne HO_124000.out BK123.out (by decide)))
                      have n3_ := Aside0.mk (hb)
                      have n4_ := Aside0.mk (ho)
                      clear HO_4
                      clear BK118
                      clear BK123
                      clear HB
                      clear HO_124000
                      have HO_4 := n0_
                      have BK118 := n1_
                      have BK123 := n2_
                      have HB := n3_
                      have HO128 := n4_
                      clear n0_ n1_ n2_ n3_ n4_
                      clear ho hb hg hat
                      obtain ⟨Ao25, co25, eo25⟩ := Kd.R_slice HO128.out
                      (first | subst eo25 | (injection eo25 with f1_ f2_ f3_; have f4_ := f1_.symm; have f5_ := f3_.symm; clear f1_ f2_ f3_; subst f4_; subst f5_))
                      refine hK.out _ _ ?_
                      clear hK K
                      refine norm_ (a' := ?_) ?_ ?_
                      rotate_left
                      · show Act.put _ (some 36) _ = _
                        simp only [Act.put, List.setIfInBounds_toArray, List.set_cons_zero, List.set_cons_succ, i64_w, i32_w]
                        rfl
                      refine pure_ (i := 11) (N := some 37) (v := ?_) (a' := ?_) #[true, true, true, true, true, true, true, true, true, true, true, true, false] rfl rfl (any_of HT_.out (by kernel_rfl)) (fun _ _ _ h => h) (Or.inl ⟨by rfl, ?_⟩) ?_ ?_
                      rotate_left
                      · intro w'
                        go_simp
                        with_reducible rfl
                      rotate_left
                      · simp only [Act.put, List.setIfInBounds_toArray, List.set_cons_zero, List.set_cons_succ, i64_w, i32_w]
                        rfl
                      refine last_ (i := 12) (N := none) #[true, true, true, true, true, true, true, true, true, true, true, true, true] rfl rfl (one_of HT_.out (by kernel_rfl)) (by decide) (fun K hK => ?_)
                      have hs26 : w24.cell? ⟨gb123, 0, none⟩ = some (u124000) := (blk_cell BK123.out 0).trans rfl
                      have hfs26 := blk_frozen BK123.out 0
                      have hns26_0 := NB118_123.out
                      have hms26_0 := NB123_118.out
                      refine skip_ (w1 := ?_) (by rfl) rfl ?_ ?_
                      rotate_left
                      · go_simp
                        rfl
                      refine hK.out _ _ ?_
                      clear hK K
                      refine done_ (done_of HT_.out (by kernel_rfl)) ?_
                      have n0_ : Aside0 (Kd.Q Kd.string 9 (w24.setCell ⟨gb123, 0, none⟩ (.slice Ao25 y126.length co25)) w.heap.size (fun _ => True) (.slice (some ad124) x4_1.length co22) x4_1) := ⟨by (with_reducible repeat (first | apply Kd.Q_alloc | apply Kd.Q_drewN | apply Kd.Q_drew)); exact Kd.Q_mono (Kd.Q_far (p := ⟨gb123, 0, none⟩) (Kd.Q_types HO_4.out BK123.out (by decide)) (fun _ hk => hk.2) (.slice Ao25 y126.length co25)) (fun _ hk => trivial)⟩
                      have n1_ : Aside0 (Kd.R k52 52 (w24.setCell ⟨gb123, 0, none⟩ (.slice Ao25 y126.length co25)) w.heap.size (fun _ => True) (.slice Ao25 y126.length co25) y126) := ⟨by (with_reducible repeat (first | apply Kd.R_alloc | apply Kd.R_drewN | apply Kd.R_drew)); exact Kd.R_mono (Kd.R_far (p := ⟨gb123, 0, none⟩) (Kd.R_types HO128.out BK123.out (by decide)) (fun _ hk => hk.2) (.slice Ao25 y126.length co25)) (fun _ hk => trivial)⟩
                      have n2_ : Aside0 ((w24.setCell ⟨gb123, 0, none⟩ (.slice Ao25 y126.length co25)).heap[gb118]? = some (.cells #[.slice none 0 0, .string (⟨#[]⟩ : ByteArray)] 39 (0, 0))) := ⟨by (with_reducible repeat (first | refine blk_drewN ?_ _ | refine blk_drew ?_ | refine blk_alloc ?_ _)); refine blk_far ?_ NB118_123.out _; (with_reducible repeat (first | refine blk_drewN ?_ _ | refine blk_drew ?_ | refine blk_alloc ?_ _)); exact BK118.out⟩
                      have n3_ : Aside0 ((w24.setCell ⟨gb123, 0, none⟩ (.slice Ao25 y126.length co25)).heap[gb123]? = some (.cells #[.slice Ao25 y126.length co25, .string (rdOf ByteArray.empty t119 (ji8))] 39 (0, 0))) := ⟨by (with_reducible repeat (first | refine blk_drewN ?_ _ | refine blk_drew ?_ | refine blk_alloc ?_ _)); refine blk_put (cs := #[u124000, .string (rdOf ByteArray.empty t119 (ji8))]) ?_ 0 _ rfl; (with_reducible repeat (first | refine blk_drewN ?_ _ | refine blk_drew ?_ | refine blk_alloc ?_ _)); exact BK123.out⟩
                      have n4_ : Aside0 (Below w.heap.size w (w24.setCell ⟨gb123, 0, none⟩ (.slice Ao25 y126.length co25))) := ⟨by repeat (first | (with_reducible first | exact HB.out | apply below_alloc | apply pw_below_drewN | apply below_drew1 | refine below_set ?_ GE118.out | refine below_set ?_ GE123.out) | exact HB.out)⟩
                      (try clear HO_4)
                      (try clear HO128)
                      (try clear BK118)
                      (try clear BK123)
                      (try clear HB)
                      generalize (w24.setCell ⟨gb123, 0, none⟩ (.slice Ao25 y126.length co25)) = w27 at n0_ n1_ n2_ n3_ n4_ ⊢
                      have HO_4 := n0_
                      have HO128 := n1_
                      have BK118 := n2_
                      have BK123 := n3_
                      have HB := n4_
                      clear n0_ n1_ n2_ n3_ n4_
                      have q28 : (2 : Int) ≤ ((x4_1.length : Int) : Int) := of_decide_eq_true (by first | (with_reducible assumption) | assumption)
                      obtain ⟨i028, hi028, _, hsz28, _⟩ := info_parts info9
                      have hcut28 := cut_from (P := Tryd.prog) 22 9 .i64 Tryd.underlying22 hi028 1 hsz28 (some ad124) x4_1.length co22 2 (by omega) q28
                      have hr28 := Kd.Q_drop (k := (2 : Int).toNat) HO_4.out (by omega)
                      obtain ⟨A28, hA28⟩ : ∃ A1, A1 = (if co22 = (2 : Int).toNat then (some ad124) else ((some ad124) : Option Addr).map (·.add ((2 : Int).toNat * 1))) := ⟨_, rfl⟩
                      obtain ⟨c28, hc28⟩ : ∃ c1, c1 = co22 - (2 : Int).toNat := ⟨_, rfl⟩
                      have hy28 : y129.length = x4_1.length - (2 : Int).toNat := (by rw [Ny129.out, List.length_drop])
                      rw [← Ny129.out] at hr28
                      rw [← hy28, ← hA28, ← hc28] at hcut28
                      replace hr28 : Kd.Q Kd.string 9 w27 w.heap.size (fun _ => True) (.slice A28 y129.length c28) y129 := (by rw [hA28, hc28, hy28]; exact hr28)
                      have HE28 : Aside0 ((Value.slice A28 y129.length c28).ownBlock = (.slice (some ad124) x4_1.length co22 : Value).ownBlock) := ⟨by rw [hA28]; split <;> (cases ((some ad124) : Option Addr) <;> rfl)⟩
                      clear hy28 hi028 hsz28 HO_4 hA28 hc28
                      have HO131 := Aside0.mk hr28
                      clear hr28
                      replace q28 := eq_true q28
                      try go_wp2
                      go_roundg k1
                      case measure => have := HK1.out; omega
                      case rel => exact ⟨(y129), (y126), (.slice Ao25 y126.length co25), H', ⟨by have := HK1.out; omega⟩, ⟨by (with_reducible repeat (first | apply Kd.Q_alloc | apply Kd.Q_drewN | apply Kd.Q_drew)); exact HO131.out⟩, ⟨by (with_reducible repeat (first | apply Kd.R_alloc | apply Kd.R_drewN | apply Kd.R_drew)); exact HO128.out⟩, ⟨by (with_reducible repeat (first | refine blk_drewN ?_ _ | refine blk_drew ?_ | refine blk_alloc ?_ _)); exact BK118.out⟩, ⟨by (with_reducible repeat (first | refine blk_drewN ?_ _ | refine blk_drew ?_ | refine blk_alloc ?_ _)); exact BK123.out⟩, ⟨by repeat (first | (with_reducible first | exact HB.out | apply below_alloc | apply pw_below_drewN | apply below_drew1 | refine below_set ?_ GE118.out | refine below_set ?_ GE123.out) | exact HB.out)⟩⟩
                    · rw [if_neg c21] at H
                      exact absurd H (by simp)
                  · rw [if_neg c20] at H
                    exact absurd H (by simp)
                · rw [if_neg c19] at H
                  exact absurd H (by simp)
              · rw [if_neg c18] at H
                exact absurd H (by simp)
            · rw [if_neg c17] at H
              have c17b0 : decide (1 < (x4_1.length : Int)) = false := decide_eq_false c17
              have c17b1 : decide (1 < x4_1.length) = false := decide_eq_false (by omega)
              clear c17
              replace H := Option.bind_eq_some_iff.mp H
              obtain ⟨t132, A290, H⟩ := H
              replace H : (if t132 = 0 then (some (x124000_1, (rdOf ByteArray.empty t119 (ji8)), 0)) else (some (([] : List (S52)), (⟨#[]⟩ : ByteArray), t132))) = some (r1, r2, r3) := H
              have A29 := Aside0.mk A290
              clear A290
              by_cases c30 : t132 = 0
              · rw [if_pos c30] at H
                have c30b0 : (t132 == 0) = true := beq_iff_eq.mpr c30
                have c30b1 : (t132 != 0) = false := bne_eq_false_iff_eq.mpr c30
                clear c30
                simp only [Option.some.injEq, Prod.mk.injEq] at H
                obtain ⟨rfl, rfl, rfl⟩ := H
                obtain ⟨Ao31, co31, eo31, _⟩ := Kd.Q_slice HO_4.out
                subst eo31
                have hnb32 := NB123_118.out
                have hnc32 := NB118_123.out
                have hcz33_0 : wr.cell? ⟨gb123, 0, none⟩ = some (u124000) := (blk_cell BK123.out 0).trans rfl
                have hcz33_1 : wr.cell? ⟨gb123, 1, none⟩ = some (.string (rdOf ByteArray.empty t119 (ji8))) := (blk_cell BK123.out 1).trans rfl
                have hfz33_0 := blk_frozen BK123.out 0
                have hfz33_1 := blk_frozen BK123.out 1
                obtain ⟨Ao34, co34, eo34⟩ := Kd.R_slice HO_124000.out
                subst eo34
                go_wp2_with (first | ((with_reducible refine gate_callee (f := 58) rfl ?_); refine goesL_ (some 39) rfl rfl Tryd.func58 (by kernel_rfl) rfl #[.agg #[.slice Ao34 x124000_1.length co34, .string (rdOf ByteArray.empty t119 (ji8))]] rfl (by (try simp only [List.map_toArray, List.map_cons, List.map_nil]); first | done | (simp only [hji8]; rfl) | rfl | (simp only [List.length_drop, List.length_take]; rfl)) ?_; (with_reducible refine (trace_check.calls k1 _ _ x124000_1 (rdOf ByteArray.empty t119 (ji8)) t132 _ ?side1 ?side2 A29.out).mono ?_); (case side1 => repeat (first | exact (Kd.R_reads' HO_124000.out).2.2 | (with_reducible refine Kd.C_alloc ?_ _) | (with_reducible refine Kd.C_drewN ?_ _) | (with_reducible refine Kd.C_drew ?_))); (case side2 => exact (Kd.R_reads' HO_124000.out).2.1); rintro e w35 ⟨rfl, hb⟩; refine ⟨_, rfl, ?_⟩; have n0_ := Aside0.mk (Kd.Q_below (by (with_reducible repeat (first | apply Kd.Q_alloc | apply Kd.Q_drewN | apply Kd.Q_drew)); exact HO_4.out) hb); have n1_ := Aside0.mk (Kd.R_below (by (with_reducible repeat (first | apply Kd.R_alloc | apply Kd.R_drewN | apply Kd.R_drew)); exact HO_124000.out) hb); have n2_ := Aside0.mk (blk_below (g := gb118) (o := .cells #[.slice none 0 0, .string (⟨#[]⟩ : ByteArray)] 39 (0, 0)) (by (with_reducible repeat (first | refine blk_drewN ?_ _ | refine blk_drew ?_ | refine blk_alloc ?_ _)); exact BK118.out) hb); have n3_ := Aside0.mk (blk_below (g := gb123) (o := .cells #[.slice Ao34 x124000_1.length co34, .string (rdOf ByteArray.empty t119 (ji8))] 39 (0, 0)) (by (with_reducible repeat (first | refine blk_drewN ?_ _ | refine blk_drew ?_ | refine blk_alloc ?_ _)); exact BK123.out) hb); have n4_ := Aside0.mk (below_step (by repeat (first | (with_reducible first | exact HB.out | apply below_alloc | apply pw_below_drewN | apply below_drew1 | refine below_set ?_ GE118.out | refine below_set ?_ GE123.out) | exact HB.out)) hb); clear HO_4; clear HO_124000; clear BK118; clear BK123; clear HB; have HO_4 := n0_; have HO_124000 := n1_; have BK118 := n2_; have BK123 := n3_; have HB := n4_; clear n0_ n1_ n2_ n3_ n4_; (try clear hb); (try clear hb2); (try clear hk); (try clear hi); have hcz36_0 : w35.cell? ⟨gb123, 0, none⟩ = some (.slice Ao34 x124000_1.length co34) := (blk_cell BK123.out 0).trans rfl; have hcz36_1 : w35.cell? ⟨gb123, 1, none⟩ = some (.string (rdOf ByteArray.empty t119 (ji8))) := (blk_cell BK123.out 1).trans rfl; have hfz36_0 := blk_frozen BK123.out 0; have hfz36_1 := blk_frozen BK123.out 1; have hcz37_0 : w35.cell? ⟨gb118, 0, none⟩ = some (.slice none 0 0) := (blk_cell BK118.out 0).trans rfl; have hcz37_1 : w35.cell? ⟨gb118, 1, none⟩ = some (.string (⟨#[]⟩ : ByteArray)) := (blk_cell BK118.out 1).trans rfl; have hfz37_0 := blk_frozen BK118.out 0; have hfz37_1 := blk_frozen BK118.out 1))
                refine bodyPost_ret (results_ct rfl _ _ gb118 39 #[.slice Ao34 x124000_1.length co34, .string (rdOf ByteArray.empty t119 (ji8))] (0, 0) _ rfl (by (with_reducible repeat (first | refine blk_drewN ?_ _ | refine blk_drew ?_ | refine blk_alloc ?_ _)); refine blk_put (cs := #[.slice Ao34 x124000_1.length co34, .string (⟨#[]⟩ : ByteArray)]) ?_ 1 _ rfl; (with_reducible repeat (first | refine blk_drewN ?_ _ | refine blk_drew ?_ | refine blk_alloc ?_ _)); refine blk_put (cs := #[.slice none 0 0, .string (⟨#[]⟩ : ByteArray)]) ?_ 0 _ rfl; (with_reducible repeat (first | refine blk_drewN ?_ _ | refine blk_drew ?_ | refine blk_alloc ?_ _)); exact BK118.out) Tryd.underlying39 rfl (by kernel_rfl)) rfl ?_
                exact ⟨_, by first | rfl | (simp [errW_none, errW_some] <;> rfl) | (simp only [← hji8]; first | rfl | (simp [errW_none, errW_some] <;> rfl)) | (simp [*, errW_none, errW_some] <;> rfl), by (with_reducible repeat (first | apply Kd.R_alloc | apply Kd.R_drewN | apply Kd.R_drew)); exact Kd.R_mono (Kd.R_far (p := ⟨gb118, 1, none⟩) (Kd.R_far (p := ⟨gb118, 0, none⟩) (Kd.R_types HO_124000.out BK118.out (by decide)) (fun _ hk => hk.2) (.slice Ao34 x124000_1.length co34)) (fun _ hk => hk.2) (.string (rdOf ByteArray.empty t119 (ji8)))) (fun _ hk => trivial), by repeat (first | (with_reducible first | exact HB.out | apply below_alloc | apply pw_below_drewN | apply below_drew1 | refine below_set ?_ GE118.out | refine below_set ?_ GE123.out) | exact HB.out)⟩
              · rw [if_neg c30] at H
                have c30b0 : (t132 == 0) = false := beq_eq_false_iff_ne.mpr c30
                have c30b1 : (t132 != 0) = true := bne_iff_ne.mpr c30
                simp only [Option.some.injEq, Prod.mk.injEq] at H
                obtain ⟨rfl, rfl, rfl⟩ := H
                obtain ⟨Ao38, co38, eo38, _⟩ := Kd.Q_slice HO_4.out
                subst eo38
                have hnb39 := NB123_118.out
                have hnc39 := NB118_123.out
                have hcz40_0 : wr.cell? ⟨gb123, 0, none⟩ = some (u124000) := (blk_cell BK123.out 0).trans rfl
                have hcz40_1 : wr.cell? ⟨gb123, 1, none⟩ = some (.string (rdOf ByteArray.empty t119 (ji8))) := (blk_cell BK123.out 1).trans rfl
                have hfz40_0 := blk_frozen BK123.out 0
                have hfz40_1 := blk_frozen BK123.out 1
                obtain ⟨Ao41, co41, eo41⟩ := Kd.R_slice HO_124000.out
                subst eo41
                go_wp2_with (first | ((with_reducible refine gate_callee (f := 58) rfl ?_); refine goesL_ (some 39) rfl rfl Tryd.func58 (by kernel_rfl) rfl #[.agg #[.slice Ao41 x124000_1.length co41, .string (rdOf ByteArray.empty t119 (ji8))]] rfl (by (try simp only [List.map_toArray, List.map_cons, List.map_nil]); first | done | (simp only [hji8]; rfl) | rfl | (simp only [List.length_drop, List.length_take]; rfl)) ?_; (with_reducible refine (trace_check.calls k1 _ _ x124000_1 (rdOf ByteArray.empty t119 (ji8)) t132 _ ?side1 ?side2 A29.out).mono ?_); (case side1 => repeat (first | exact (Kd.R_reads' HO_124000.out).2.2 | (with_reducible refine Kd.C_alloc ?_ _) | (with_reducible refine Kd.C_drewN ?_ _) | (with_reducible refine Kd.C_drew ?_))); (case side2 => exact (Kd.R_reads' HO_124000.out).2.1); rintro e w42 ⟨rfl, hb⟩; refine ⟨_, rfl, ?_⟩; have n0_ := Aside0.mk (Kd.Q_below (by (with_reducible repeat (first | apply Kd.Q_alloc | apply Kd.Q_drewN | apply Kd.Q_drew)); exact HO_4.out) hb); have n1_ := Aside0.mk (Kd.R_below (by (with_reducible repeat (first | apply Kd.R_alloc | apply Kd.R_drewN | apply Kd.R_drew)); exact HO_124000.out) hb); have n2_ := Aside0.mk (blk_below (g := gb118) (o := .cells #[.slice none 0 0, .string (⟨#[]⟩ : ByteArray)] 39 (0, 0)) (by (with_reducible repeat (first | refine blk_drewN ?_ _ | refine blk_drew ?_ | refine blk_alloc ?_ _)); exact BK118.out) hb); have n3_ := Aside0.mk (blk_below (g := gb123) (o := .cells #[.slice Ao41 x124000_1.length co41, .string (rdOf ByteArray.empty t119 (ji8))] 39 (0, 0)) (by (with_reducible repeat (first | refine blk_drewN ?_ _ | refine blk_drew ?_ | refine blk_alloc ?_ _)); exact BK123.out) hb); have n4_ := Aside0.mk (below_step (by repeat (first | (with_reducible first | exact HB.out | apply below_alloc | apply pw_below_drewN | apply below_drew1 | refine below_set ?_ GE118.out | refine below_set ?_ GE123.out) | exact HB.out)) hb); clear HO_4; clear HO_124000; clear BK118; clear BK123; clear HB; have HO_4 := n0_; have HO_124000 := n1_; have BK118 := n2_; have BK123 := n3_; have HB := n4_; clear n0_ n1_ n2_ n3_ n4_; (try clear hb); (try clear hb2); (try clear hk); (try clear hi); have hcz43_0 : w42.cell? ⟨gb118, 0, none⟩ = some (.slice none 0 0) := (blk_cell BK118.out 0).trans rfl; have hcz43_1 : w42.cell? ⟨gb118, 1, none⟩ = some (.string (⟨#[]⟩ : ByteArray)) := (blk_cell BK118.out 1).trans rfl; have hfz43_0 := blk_frozen BK118.out 0; have hfz43_1 := blk_frozen BK118.out 1))
                refine bodyPost_ret (results_ct rfl _ _ gb118 39 #[.slice none 0 0, .string (⟨#[]⟩ : ByteArray)] (0, 0) _ rfl (by (with_reducible repeat (first | refine blk_drewN ?_ _ | refine blk_drew ?_ | refine blk_alloc ?_ _)); refine blk_put (cs := #[.slice none 0 0, .string (⟨#[]⟩ : ByteArray)]) ?_ 1 _ rfl; (with_reducible repeat (first | refine blk_drewN ?_ _ | refine blk_drew ?_ | refine blk_alloc ?_ _)); refine blk_put (cs := #[.slice none 0 0, .string (⟨#[]⟩ : ByteArray)]) ?_ 0 _ rfl; (with_reducible repeat (first | refine blk_drewN ?_ _ | refine blk_drew ?_ | refine blk_alloc ?_ _)); exact BK118.out) Tryd.underlying39 rfl (by kernel_rfl)) rfl ?_
                exact ⟨_, by first | rfl | (simp [errW_none, errW_some] <;> rfl) | (simp only [← hji8]; first | rfl | (simp [errW_none, errW_some] <;> rfl)) | (simp [*, errW_none, errW_some] <;> rfl), by first | exact Kd.R_nil _ _ _ _ _ | exact Kd.N_nil _ _ _ _ _ | exact Kd.V_nil _ _ _ _ _ | exact Kd.Q_nil _ _ _ _ _ | exact Kd.S_nil _ _ _ _ _, by repeat (first | (with_reducible first | exact HB.out | apply below_alloc | apply pw_below_drewN | apply below_drew1 | refine below_set ?_ GE118.out | refine below_set ?_ GE123.out) | exact HB.out)⟩
      · rw [if_neg c10] at H
        exact absurd H (by simp)
    · rw [if_neg c9] at H
      exact absurd H (by simp)

end Go.Proofs.YtcgmododeiocpaaDoor.PTrt
