-- written by wip/myprint.py over the kit's print; not a printed text of print.sh
import Derived.Test.YtcbaojkfffodiaaDoorPBanx0
import Derived.Test.YtcbaojkfffodiaaDoorPBanx3
import Derived.Test.YtcbaojkfffodiaaDoorPBanx5
import Derived.Test.YtcbaojkfffodiaaDoorPBanx6
namespace Go.Proofs.YtcbaojkfffodiaaDoor.PBan
open Go.RowKit Go.Proofs.YtcbaojkfffodiaaDoorW.PrintWords Go.Proofs.YtcbaojkfffodiaaDoorW.PrintLast Go.Proofs.YtcbaojkfffodiaaDoorW.PrintMore
attribute [local go_sem] max2_int min2_int max_two min_two max_three min_three max_four min_four   -- for this text's walks alone
set_option linter.unusedVariables false
set_option linter.unusedSimpArgs false

/-! ### journal_New: function 15 -/
theorem jx_fresh (base g gs : Nat) (v : Value) (l : List S100) (w : World) (hs : StoreIs base gs v l w) (hg : base ≤ g) (hb : w.heap[g]? = some (.cells #[.pointer (some ⟨gs, 0, none⟩), .slice none 0 0] 92 (0, 0))) : JX base (fun k => base ≤ k) g gs v (.slice none 0 0) [] ⟨l, []⟩ w :=
  ⟨hg, hs.1, fun k e => own_base hs.2.2.2 k e, hg, hb, hs, ⟨rfl, fun k e => by simp [Value.ownBlock] at e, World.ownsRow_nil _ _ _ _, fun i v l e => by simp at e, fun i v k e => by simp at e, fun i j a b k _ e => by simp at e⟩⟩
set_option maxHeartbeats 1000000 in
set_option maxRecDepth 100000 in
theorem j_new (base gs : Nat) (v : Value) (l : List S100) (w : World) (h : StoreIs base gs v l w) (hl : l.length ≤ 1000000000) :
    Calls Tryd.prog 15 #[.pointer (some ⟨gs, 0, none⟩)] w fun e w' => ∃ g, e = .returned (.pointer (some ⟨g, 0, none⟩)) ∧ JM w.heap.size (fun k => w.heap.size ≤ k) g ⟨l, []⟩ w' ∧ Below w.heap.size w w' := by
  go_enter Tryd.func15, Tryd.ntmps15
  go_wp2_with fail
  refine (st_copy base gs v l w h hl).mono ?_
  rintro e w2 ⟨g2, v2, rfl, s2, hb2⟩
  have n3 := my_alloc_new w2 (.cells #[.pointer (some ⟨g2, 0, none⟩), .slice none 0 0] 92)
  have hb3 : Below w2.heap.size w2 (w2.alloc (.cells #[.pointer (some ⟨g2, 0, none⟩), .slice none 0 0] 92)) := (Below.refl _ w2).alloc (Nat.le_refl _) _
  have hfin : ∃ g, Ending.returned (.pointer (some ⟨w2.heap.size, 0, none⟩)) = .returned (.pointer (some ⟨g, 0, none⟩)) ∧ JM w.heap.size (fun k => w.heap.size ≤ k) g ⟨l, []⟩ (w2.alloc (.cells #[.pointer (some ⟨g2, 0, none⟩), .slice none 0 0] 92)) ∧ Below w.heap.size w (w2.alloc (.cells #[.pointer (some ⟨g2, 0, none⟩), .slice none 0 0] 92)) :=
    ⟨_, rfl, ⟨_, _, _, _, jx_fresh _ _ _ _ _ _ (StoreIs.below s2 hb3) hb2.size n3⟩, hb2.alloc hb2.size _⟩
  replace hfin := Aside0.mk hfin
  clear n3 hb3 s2 h hb2
  go_wp2
  go_ret
  exact hfin.out
set_option maxHeartbeats 1000000 in
set_option maxRecDepth 100000 in
theorem st_copy_nil (w : World) : Calls Tryd.prog 52 #[.pointer none] w fun e w' => e = .returned (.pointer none) ∧ w' = w := by
  go_enter Tryd.func52, Tryd.ntmps52
  go_wp2
  go_ret
  exact ⟨rfl, rfl⟩
set_option maxHeartbeats 1000000 in
set_option maxRecDepth 100000 in
theorem j_new_nil (w : World) :
    Calls Tryd.prog 15 #[.pointer none] w fun e w' => ∃ g, e = .returned (.pointer (some ⟨g, 0, none⟩)) ∧ JM w.heap.size (fun k => w.heap.size ≤ k) g ⟨[], []⟩ w' ∧ Below w.heap.size w w' := by
  go_enter Tryd.func15, Tryd.ntmps15
  go_wp2_with fail
  refine (st_copy_nil w).mono ?_
  rintro e w1 ⟨rfl, hw1⟩
  rw [hw1]
  clear hw1
  go_wp2_with fail
  refine (st_new w).mono ?_
  rintro e w2 ⟨rfl, s2, hb2⟩
  have n3 := my_alloc_new w2 (.cells #[.pointer (some ⟨w.heap.size, 0, none⟩), .slice none 0 0] 92)
  have hb3 : Below w2.heap.size w2 (w2.alloc (.cells #[.pointer (some ⟨w.heap.size, 0, none⟩), .slice none 0 0] 92)) := (Below.refl _ w2).alloc (Nat.le_refl _) _
  have hfin : ∃ g, Ending.returned (.pointer (some ⟨w2.heap.size, 0, none⟩)) = .returned (.pointer (some ⟨g, 0, none⟩)) ∧ JM w.heap.size (fun k => w.heap.size ≤ k) g ⟨[], []⟩ (w2.alloc (.cells #[.pointer (some ⟨w.heap.size, 0, none⟩), .slice none 0 0] 92)) ∧ Below w.heap.size w (w2.alloc (.cells #[.pointer (some ⟨w.heap.size, 0, none⟩), .slice none 0 0] 92)) :=
    ⟨_, rfl, ⟨_, _, _, _, jx_fresh _ _ _ _ _ _ (StoreIs.below s2 hb3) hb2.size n3⟩, hb2.alloc hb2.size _⟩
  replace hfin := Aside0.mk hfin
  clear n3 hb3 s2 hb2
  go_wp2
  go_ret
  exact hfin.out
/-! ### a journal that is none -/
set_option maxHeartbeats 1000000 in
set_option maxRecDepth 100000 in
theorem jn_get (key : ByteArray) (w : World) : Calls Tryd.prog 43 #[.pointer none, .string key] w fun e w' => e = .returned (.tuple #[.string ⟨#[]⟩, .bool false]) ∧ w' = w := by
  go_enter Tryd.func43, Tryd.ntmps43
  go_wp2
  go_ret2
  exact ⟨rfl, rfl⟩
set_option maxHeartbeats 1000000 in
set_option maxRecDepth 100000 in
theorem jn_set (key value : ByteArray) (w : World) : Calls Tryd.prog 49 #[.pointer none, .string key, .string value] w fun e w' => e = .returned (.int .i64 2) ∧ w' = w := by
  go_enter Tryd.func49, Tryd.ntmps49
  go_wp2
  go_ret
  exact ⟨rfl, rfl⟩
set_option maxHeartbeats 1000000 in
set_option maxRecDepth 100000 in
theorem jn_del (key : ByteArray) (w : World) : Calls Tryd.prog 63 #[.pointer none, .string key] w fun e w' => e = .returned (.int .i64 2) ∧ w' = w := by
  go_enter Tryd.func63, Tryd.ntmps63
  go_wp2
  go_ret
  exact ⟨rfl, rfl⟩
set_option maxHeartbeats 1000000 in
set_option maxRecDepth 100000 in
theorem jn_list (w : World) : Calls Tryd.prog 20 #[.pointer none] w fun e w' => e = .returned (.slice none 0 0) ∧ w' = w := by
  go_enter Tryd.func20, Tryd.ntmps20
  go_wp2
  go_ret
  exact ⟨rfl, rfl⟩

/-- A state of type 123 at block g of W; what its slices lead to came in by w0. -/
def IsS123 (w0 W : World) (g : Nat) (f0 : ByteArray) (f1 : Int) : Prop := W.heap[g]? = some (.cells #[.string f0, .int .i64 f1] 123 (0, 0)) ∧ w0.heap.size ≤ g
theorem IsS123.grown {w0 W : World} {g : Nat} {f0 : ByteArray} {f1 : Int} {W1 : World} {row : Option Nat} (h : IsS123 w0 W g f0 f1) (hw : W.grownBy W1 row) (hne : some g ≠ row) : IsS123 w0 W1 g f0 f1 := by
  obtain ⟨hb, hg⟩ := h
  exact ⟨blk_grown hb hw hne, hg⟩
theorem IsS123.own_neN {w0 W : World} {g : Nat} {f0 : ByteArray} {f1 : Int} {α : Type} {d : Kd α} {e : Nat} {base : Nat} {ok : Nat → Prop} {v : Value} {xs : List α} (h : IsS123 w0 W g f0 f1) (ho : Kd.N d e W base ok v xs) (ht : e ≠ 123) : some g ≠ v.ownBlock := by
  obtain ⟨hb, hg⟩ := h
  exact Kd.N_ne ho hb ht
theorem IsS123.fresh {w0 W : World} {g : Nat} {f0 : ByteArray} {f1 : Int} (h : IsS123 w0 W g f0 f1) : ∀ k, W.heap.size ≤ k → k ≠ g := by
  obtain ⟨hb, hg⟩ := h
  exact Kd.freshB hb
theorem IsS123.kept {w0 W : World} {g : Nat} {f0 : ByteArray} {f1 : Int} {W1 : World} {S : Nat → Prop} (h : IsS123 w0 W g f0 f1) (hk : Kept W W1 S) (hne : ¬ S g) : IsS123 w0 W1 g f0 f1 := by
  obtain ⟨hb, hg⟩ := h
  exact ⟨blk_kept hb hk hne, hg⟩
theorem IsS123.below {w0 W : World} {g : Nat} {f0 : ByteArray} {f1 : Int} {W1 : World} (h : IsS123 w0 W g f0 f1) (hw : Below W.heap.size W W1) : IsS123 w0 W1 g f0 f1 := h.grown (grown_of_below hw none) (by simp)
theorem IsS123.alloc {w0 W : World} {g : Nat} {f0 : ByteArray} {f1 : Int} (h : IsS123 w0 W g f0 f1) (o : Obj) : IsS123 w0 (W.alloc o) g f0 f1 := h.below (below_alloc (Below.refl _ _) o)
theorem IsS123.drewN {w0 W : World} {g : Nat} {f0 : ByteArray} {f1 : Int} (h : IsS123 w0 W g f0 f1) (m : Nat) : IsS123 w0 (W.drewN m) g f0 f1 := h
theorem IsS123.drew {w0 W : World} {g : Nat} {f0 : ByteArray} {f1 : Int} (h : IsS123 w0 W g f0 f1) : IsS123 w0 W.drew g f0 f1 := h
theorem IsS123.at_ {w0 W : World} {g : Nat} {f0 : ByteArray} {f1 : Int} {w' : World} {m : Nat} (hq : W.drewN m = w') (h : IsS123 w0 W g f0 f1) : IsS123 w0 w' g f0 f1 := by subst hq; exact IsS123.drewN h m
theorem IsS123.apart {w0 W : World} {g : Nat} {f0 : ByteArray} {f1 : Int} {α : Type} {d : Kd α} {e : Nat} {base : Nat} {ok : Nat → Prop} {v : Value} {xs : List α} (h : IsS123 w0 W g f0 f1) (ho : d.R e W base ok v xs) (ht : ∀ q, q ∈ e :: d.E → q ≠ 123) : d.R e W base (fun k => ok k ∧ k ≠ g) v xs := by
  obtain ⟨hb, hg⟩ := h
  exact Kd.R_types ho hb ht
theorem IsS123.own_ne {w0 W : World} {g : Nat} {f0 : ByteArray} {f1 : Int} {α : Type} {d : Kd α} {e : Nat} {base : Nat} {ok : Nat → Prop} {v : Value} {xs : List α} (h : IsS123 w0 W g f0 f1) (ho : d.R e W base ok v xs) (ht : e ≠ 123) : some g ≠ v.ownBlock := by
  obtain ⟨hb, hg⟩ := h
  exact Kd.R_ne ho hb ht
theorem IsS123.apartQ {w0 W : World} {g : Nat} {f0 : ByteArray} {f1 : Int} {α : Type} {d : Kd α} {e : Nat} {base : Nat} {ok : Nat → Prop} {v : Value} {xs : List α} (h : IsS123 w0 W g f0 f1) (ho : d.Q e W base ok v xs) (ht : ∀ q, q ∈ e :: d.E → q ≠ 123) : d.Q e W base (fun k => ok k ∧ k ≠ g) v xs := by
  obtain ⟨hb, hg⟩ := h
  exact Kd.Q_types ho hb ht
theorem IsS123.own_neQ {w0 W : World} {g : Nat} {f0 : ByteArray} {f1 : Int} {α : Type} {d : Kd α} {e : Nat} {base : Nat} {ok : Nat → Prop} {v : Value} {xs : List α} (h : IsS123 w0 W g f0 f1) (ho : d.Q e W base ok v xs) (ht : e ≠ 123) : some g ≠ v.ownBlock := by
  obtain ⟨hb, hg⟩ := h
  exact Kd.Q_ne ho hb ht
theorem IsS123.apartS {w0 W : World} {g : Nat} {f0 : ByteArray} {f1 : Int} {α : Type} {d : Kd α} {e : Nat} {base : Nat} {ok : Nat → Prop} {v : Value} {xs : List α} (h : IsS123 w0 W g f0 f1) (ho : d.S e W base ok v xs) (ht : ∀ q, q ∈ e :: d.E → q ≠ 123) : d.S e W base (fun k => ok k ∧ k ≠ g) v xs := by
  obtain ⟨hb, hg⟩ := h
  exact Kd.S_types ho hb ht
theorem IsS123.own_neS {w0 W : World} {g : Nat} {f0 : ByteArray} {f1 : Int} {α : Type} {d : Kd α} {e : Nat} {base : Nat} {ok : Nat → Prop} {v : Value} {xs : List α} (h : IsS123 w0 W g f0 f1) (ho : d.S e W base ok v xs) (ht : e ≠ 123) : some g ≠ v.ownBlock := by
  obtain ⟨hb, hg⟩ := h
  exact Kd.S_ne ho hb ht
theorem IsS123.lt {w0 W : World} {g : Nat} {f0 : ByteArray} {f1 : Int} (h : IsS123 w0 W g f0 f1) : g < W.heap.size := by
  obtain ⟨hb, hg⟩ := h
  exact blk_lt hb
theorem IsS123.ge {w0 W : World} {g : Nat} {f0 : ByteArray} {f1 : Int} (h : IsS123 w0 W g f0 f1) : w0.heap.size ≤ g := by
  obtain ⟨hb, hg⟩ := h
  exact hg
theorem IsS123.ne_blk {w0 W : World} {g : Nat} {f0 : ByteArray} {f1 : Int} {a : Nat} {cs : Array Value} {t : TypeId} {fr : Nat × Nat} (h : IsS123 w0 W g f0 f1) (hb2 : W.heap[a]? = some (.cells cs t fr)) (ht : t ≠ 123) : g ≠ a := by
  obtain ⟨hb, hg⟩ := h
  rintro rfl
  rw [hb] at hb2
  injection hb2 with hb2
  injection hb2 with _ ht2
  exact ht ht2.symm
theorem IsS123.far {w0 W : World} {g : Nat} {f0 : ByteArray} {f1 : Int} {p : Addr} (h : IsS123 w0 W g f0 f1) (hne : g ≠ p.block) (u : Value) : IsS123 w0 (W.setCell p u) g f0 f1 := by
  obtain ⟨hb, hg⟩ := h
  exact ⟨blk_far hb hne u, hg⟩
theorem cellS123_0 {W : World} {g : Nat} {f0 : ByteArray} {f1 : Int} (h : W.heap[g]? = some (.cells #[.string f0, .int .i64 f1] 123 (0, 0))) : W.cell? ⟨g, 0, none⟩ = some (.string f0) := (blk_cell h 0).trans rfl
theorem IsS123.set_0 {w0 W : World} {g : Nat} {f0 : ByteArray} {f1 : Int} (h : IsS123 w0 W g f0 f1) (x : ByteArray) : IsS123 w0 (W.setCell ⟨g, 0, none⟩ (.string x)) g x f1 := by
  obtain ⟨hb, hg⟩ := h
  exact ⟨by simpa using blk_set hb 0 (.string x), hg⟩
theorem cellS123_1 {W : World} {g : Nat} {f0 : ByteArray} {f1 : Int} (h : W.heap[g]? = some (.cells #[.string f0, .int .i64 f1] 123 (0, 0))) : W.cell? ⟨g, 1, none⟩ = some (.int .i64 f1) := (blk_cell h 1).trans rfl
theorem IsS123.set_1 {w0 W : World} {g : Nat} {f0 : ByteArray} {f1 : Int} (h : IsS123 w0 W g f0 f1) (x : Int) : IsS123 w0 (W.setCell ⟨g, 1, none⟩ (.int .i64 x)) g f0 x := by
  obtain ⟨hb, hg⟩ := h
  exact ⟨by simpa using blk_set hb 1 (.int .i64 x), hg⟩
theorem IsS123.new (w0 W : World) (f0 : ByteArray) (f1 : Int) (hB : Below w0.heap.size w0 W) : IsS123 w0 (W.alloc (.cells #[.string f0, .int .i64 f1] 123)) W.heap.size f0 f1 := ⟨by simpa using heap_alloc_new W _, hB.size⟩

/-! ### wire_New: function 45 -/
def wire_New.f (a0 : ByteArray) : Option (ByteArray × Int) := some (a0, 0)
set_option maxHeartbeats 8000000 in
set_option maxRecDepth 100000 in
theorem wire_New.calls (a0 : ByteArray) (r1 : ByteArray) (r2 : Int) (w0 w : World) (hB : Below w0.heap.size w0 w) (h : wire_New.f a0 = some (r1, r2)) :
    Calls Tryd.prog 45 #[.string a0] w fun e w' => ∃ g_ : Nat, e = .returned (.pointer (some ⟨g_, 0, none⟩)) ∧ IsS123 w0 w' g_ r1 r2 ∧ Below w0.heap.size w0 w' ∧ Below w.heap.size w w' := by
  have hu123 := Tryd.underlying123
  have HBW := Aside0.mk (Below.refl w.heap.size w)
  have HW0 := Aside0.mk hB.size
  have HB := Aside0.mk hB
  clear hB
  have H : (some (a0, 0)) = some (r1, r2) := h
  clear h
  simp only [Option.some.injEq, Prod.mk.injEq] at H
  obtain ⟨rfl, rfl⟩ := H
  go_enter Tryd.func45, Tryd.ntmps45
  go_wp2_with (first | ((with_reducible refine gate_dst (N := 5) rfl ?_); refine box_event ?hg (N := 5) ?hd (cs := #[.string a0, .int .i64 0]) (t := 123) ?hr ?_; (case hd => rfl); (case hg => rfl); (case hr => first | (go_simp; done) | (go_simp; rfl)); intro gb102 hg w2 hbox hb; have n0_ := Aside0.mk (below_step HBW.out hb); have n1_ := Aside0.mk (below_step (by repeat (first | (with_reducible first | exact HB.out | apply below_alloc | apply pw_below_drewN | apply below_drew1) | exact HB.out)) hb); have n2_ := Aside0.mk (hbox); have n3_ := Aside0.mk ((by rw [hg]; exact (below_size (by repeat (first | (with_reducible first | exact HBW.out | apply below_alloc | apply pw_below_drewN | apply below_drew1) | exact HBW.out))) : w.heap.size ≤ gb102)); have n4_ := Aside0.mk ((Nat.le_trans HW0.out (by rw [hg]; exact (below_size (by repeat (first | (with_reducible first | exact HBW.out | apply below_alloc | apply pw_below_drewN | apply below_drew1) | exact HBW.out))) : w.heap.size ≤ gb102) : w0.heap.size ≤ gb102)); clear HBW; clear HB; have HBW := n0_; have HB := n1_; have BK102 := n2_; have GW102 := n3_; have GE102 := n4_; clear n0_ n1_ n2_ n3_ n4_; clear hb hbox hg))
  go_ret
  exact ⟨_, rfl, (show IsS123 w0 _ gb102 a0 0 from ⟨by (with_reducible repeat (first | refine blk_drewN ?_ _ | refine blk_drew ?_ | refine blk_alloc ?_ _)); exact BK102.out, GE102.out⟩), by repeat (first | (with_reducible first | exact HB.out | apply below_alloc | apply pw_below_drewN | apply below_drew1 | refine below_set ?_ GE102.out) | exact HB.out), by repeat (first | (with_reducible first | exact HBW.out | apply below_alloc | apply pw_below_drewN | apply below_drew1 | refine below_set ?_ GW102.out) | exact HBW.out)⟩

/-! ### wire_Reader_stopped: function 86 -/
def wire_Reader_stopped.f (s0_0 : ByteArray) (s0_1 : Int) : Option (Bool × ByteArray × Int) := some ((s0_1 != 0), s0_0, s0_1)
set_option maxHeartbeats 8000000 in
set_option maxRecDepth 100000 in
theorem wire_Reader_stopped.calls (g : Nat) (s0_0 : ByteArray) (s0_1 : Int) (r1 : Bool) (r2 : ByteArray) (r3 : Int) (w0 w : World) (hI : IsS123 w0 w g s0_0 s0_1) (hB : Below w0.heap.size w0 w) (h : wire_Reader_stopped.f s0_0 s0_1 = some (r1, r2, r3)) :
    Calls Tryd.prog 86 #[.pointer (some ⟨g, 0, none⟩)] w fun e w' => e = .returned (.bool r1) ∧ IsS123 w0 w' g r2 r3 ∧ Below w0.heap.size w0 w' ∧ KeepBut w w' g none := by
  have HI0 := Aside0.mk hI
  have HK := Aside0.mk (KeepBut.refl w g none)
  have HL := Aside0.mk hB.size
  clear hI
  have HW0 := Aside0.mk hB.size
  have HB := Aside0.mk hB
  clear hB
  have H : (some ((s0_1 != 0), s0_0, s0_1)) = some (r1, r2, r3) := h
  clear h
  simp only [Option.some.injEq, Prod.mk.injEq] at H
  obtain ⟨rfl, rfl, rfl⟩ := H
  obtain ⟨HGz2, hgz2⟩ := HI0.out
  have hcz2_0 := cellS123_0 HGz2
  have hcz2_1 := cellS123_1 HGz2
  have hfz2_0 := blk_frozen HGz2 0
  have hfz2_1 := blk_frozen HGz2 1
  clear HGz2 hgz2
  go_enter Tryd.func86, Tryd.ntmps86
  go_wp2
  go_ret
  exact ⟨by first | rfl | (simp [errW_none, errW_some] <;> rfl) | (simp [*, errW_none, errW_some] <;> rfl), by repeat (first | (with_reducible first | exact HI0.out | apply IsS123.alloc | apply IsS123.drewN | apply IsS123.drew | apply IsS123.set_0 | apply IsS123.set_1) | exact HI0.out), by repeat (first | (with_reducible first | exact HB.out | apply below_alloc | apply pw_below_drewN | apply below_drew1 | refine below_set ?_ (IsS123.ge HI0.out)) | exact HB.out), by repeat (first | (with_reducible first | exact HK.out | apply KeepBut.set_ | apply keep_drewN | apply keep_drew | apply keep_alloc) | exact HK.out)⟩

/-! ### wire_number: function 93 -/
/-- The number of the bytes 1 .. i of a text. -/
def nBy (s : ByteArray) : Nat → Nat
  | 0 => 0
  | i + 1 => nBy s i * 256 + (bt s ((i + 1 : Nat) : Int)).toNat
theorem nBy_lt (s : ByteArray) (i : Nat) (h : i ≤ 6) : nBy s i < 281474976710656 := by
  have key : ∀ i, i ≤ 6 → nBy s i < 256 ^ i := by
    intro i
    induction i with
    | zero => intro _; exact Nat.one_pos
    | succ i ih =>
      intro hi
      have h1 := ih (by omega)
      have h2 := (bt_range s ((i + 1 : Nat) : Int)).2
      have h3 : nBy s (i + 1) = nBy s i * 256 + (bt s ((i + 1 : Nat) : Int)).toNat := rfl
      rw [h3, Nat.pow_succ]
      omega
  exact Nat.lt_of_lt_of_le (key i h) (Nat.le_trans (Nat.pow_le_pow_right (by decide) h) (by decide))
theorem or_i64 (n b : Nat) (hn : n < 281474976710656) (hb : b < 256) : bits .or .i64 ((n : Int) * 256) (b : Int) = ((n * 256 + b : Nat) : Int) := by
  have e : n * 256 + b = n * 256 ||| b := by
    have := Nat.shiftLeft_add_eq_or_of_lt (b := b) (i := 8) (by simpa using hb) n
    rw [Nat.shiftLeft_eq] at this
    simpa using this
  have hx : n * 256 ||| b < 9223372036854775808 := by rw [← e]; omega
  have hc : ((n : Int) * 256) = ((n * 256 : Nat) : Int) := by omega
  rw [e, hc]
  show IntKind.i64.wrap ((BitVec.ofInt 64 ((n * 256 : Nat) : Int) ||| BitVec.ofInt 64 (b : Int)).toNat : Int) = _
  rw [BitVec.toNat_or, ofInt_u64 (n * 256) (by omega), ofInt_u64 b (by omega), i64_w]
  unfold wrap64
  omega
def wire_number.f (a0 : ByteArray) : Option (Int × Int × Int) :=
  if a0.size = 0 then some (0, 0, 5)
  else if 7 < bt a0 0 ∨ (0 < bt a0 0 ∧ 1 < a0.size ∧ bt a0 1 = 0) then some (0, 0, 6)
  else if (a0.size : Int) ≤ bt a0 0 then some (0, 0, 5)
  else if 9007199254740992 < nBy a0 (bt a0 0).toNat then some (0, 0, 3)
  else some ((nBy a0 (bt a0 0).toNat : Int), bt a0 0 + 1, 0)
set_option maxHeartbeats 2000000 in
set_option maxRecDepth 100000 in
theorem wire_number.calls (a0 : ByteArray) (r1 r2 r3 : Int) (w : World) (h : wire_number.f a0 = some (r1, r2, r3)) :
    Calls Tryd.prog 93 #[.string a0] w fun e w' => e = .returned (.tuple #[.int .i64 r1, .int .i64 r2, .int .i64 r3]) ∧ Drawn0 w w' := by
  unfold wire_number.f at h
  have HD := Aside0.mk (Drawn0.refl w)
  by_cases h0 : a0.size = 0
  · rw [if_pos h0] at h
    simp only [Option.some.injEq, Prod.mk.injEq] at h
    obtain ⟨rfl, rfl, rfl⟩ := h
    have hE : a0 = ⟨#[]⟩ := ByteArray.size_eq_zero_iff.1 h0
    subst hE
    go_enter Tryd.func93, Tryd.ntmps93
    go_wp2
    go_step3
    go_wp2
    rw [Exit.noGoto_ret]
    go_ret3
    exact ⟨rfl, HD.out⟩
  rw [if_neg h0] at h
  have hne : a0.toList.isEmpty = false := by
    rw [List.isEmpty_eq_false_iff]
    intro e
    have h9 := congrArg List.length e
    rw [ByteArray.toList_eq] at h9
    exact h0 h9
  have hpos : 0 < a0.size := by omega
  obtain ⟨kk, hkk⟩ : ∃ kk : Nat, (a0[0]'hpos).toNat = kk := ⟨_, rfl⟩
  have hbk : bt a0 0 = (kk : Int) := by rw [← bt_at a0 0 hpos]; exact congrArg _ hkk
  have hk255 : kk ≤ 255 := by have := (bt_range a0 0).2; omega
  have hwk : IntKind.i64.wrap (kk : Int) = (kk : Int) := by rw [i64_w]; unfold wrap64; omega
  rw [hbk] at h
  by_cases h7 : 7 < kk
  · rw [if_pos (.inl (by omega))] at h
    simp only [Option.some.injEq, Prod.mk.injEq] at h
    obtain ⟨rfl, rfl, rfl⟩ := h
    go_enter Tryd.func93, Tryd.ntmps93
    go_wp2
    go_step3
    go_wp2
    rw [Exit.noGoto_ret]
    go_ret3
    exact ⟨rfl, HD.out⟩
  by_cases hB : 0 < kk ∧ 1 < a0.size ∧ bt a0 1 = 0
  · rw [if_pos (.inr (by omega))] at h
    simp only [Option.some.injEq, Prod.mk.injEq] at h
    obtain ⟨rfl, rfl, rfl⟩ := h
    obtain ⟨hB1, hB2, hB3⟩ := hB
    have h1z : (a0[1]'hB2).toNat = 0 := by
      have := bt_at a0 1 hB2
      rw [hB3] at this
      exact Int.ofNat.inj this
    go_enter Tryd.func93, Tryd.ntmps93
    go_wp2
    go_step3
    go_wp2
    rw [Exit.noGoto_ret]
    go_ret3
    exact ⟨rfl, HD.out⟩
  rw [if_neg (by omega)] at h
  have hB' : kk = 0 ∨ a0.size = 1 ∨ ∃ h : 1 < a0.size, ¬ (a0[1]'h).toNat = 0 := by
    by_cases k0 : kk = 0
    · exact .inl k0
    · by_cases k1 : a0.size = 1
      · exact .inr (.inl k1)
      · refine .inr (.inr ⟨by omega, fun e => hB ⟨by omega, by omega, ?_⟩⟩)
        rw [← bt_at a0 1 (by show 1 < a0.size; omega)]
        exact congrArg (fun n : Nat => (n : Int)) e
  by_cases hC : a0.size ≤ kk
  · rw [if_pos (by omega)] at h
    simp only [Option.some.injEq, Prod.mk.injEq] at h
    obtain ⟨rfl, rfl, rfl⟩ := h
    rcases hB' with hB' | hB' | ⟨hB2, hB'⟩
    · omega
    all_goals
      go_enter Tryd.func93, Tryd.ntmps93
      go_wp2
      go_step3
      go_wp2
      all_goals first | (exfalso; omega) | (rw [Exit.noGoto_ret]; go_ret3; exact ⟨rfl, HD.out⟩)
  rw [if_neg (by omega)] at h
  go_enter Tryd.func93, Tryd.ntmps93
  go_wp2
  refine wp_scope_jumps 0 (fun a' w' => w' = w ∧ ∃ (i : Nat) (u8 u9 u10 u11 u12 u13 u14 u15 u16 u17 u18 u19 u20 u21 u22 u23 u24 u25 u26 u27 u28 u29 u30 u31 u32 u33 u34 u35 u36 u37 u38 u39 u40 u41 u42 u43 u44 u45 u46 u47 u48 : Value), a' = { tmps := #[.string a0, undef, .int .i64 0, .int .i64 0, .int .i64 0, .int .i64 kk, .int .i64 (nBy a0 i : Int), .int .i64 ((i : Int) + 1), u8, u9, u10, u11, u12, u13, u14, u15, u16, u17, u18, u19, u20, u21, u22, u23, u24, u25, u26, u27, u28, u29, u30, u31, u32, u33, u34, u35, u36, u37, u38, u39, u40, u41, u42, u43, u44, u45, u46, u47, u48], defers := [] } ∧ i ≤ kk) (fun a' _ => kk + 1 - (intOf (a'.tmps.getD 7 undef)).toNat) rfl ?_ ?_
  · by_cases k0 : kk = 0
    · subst k0
      have hn0 : nBy a0 ((0 : Nat) : Int).toNat = 0 := rfl
      rw [hn0, if_neg (by decide)] at h
      simp only [Option.some.injEq, Prod.mk.injEq] at h
      obtain ⟨rfl, rfl, rfl⟩ := h
      go_wp2
      go_step3
      go_wp2
      simp only [Exit.jump]
      go_ret3
      exact ⟨rfl, HD.out⟩
    · have hi1 : 1 < a0.size := by omega
      have hnz : ¬ (a0[1]'hi1).toNat = 0 := by rcases hB' with hB' | hB' | ⟨hB2, hB'⟩ <;> first | omega | exact hB'
      obtain ⟨bb, hbb⟩ : ∃ bb : Nat, (a0[1]'hi1).toNat = bb := ⟨_, rfl⟩
      rw [hbb] at hnz
      have hbb2 : bb < 256 := by have := (a0[1]'hi1).toNat_lt; omega
      have hn1 : nBy a0 1 = bb := by
        have e1 : nBy a0 1 = 0 * 256 + (bt a0 ((0 + 1 : Nat) : Int)).toNat := rfl
        rw [e1, ← bt_at a0 ((0 + 1 : Nat) : Int) hi1]
        show 0 * 256 + ((((a0[1]'hi1).toNat : Nat) : Int)).toNat = bb
        rw [hbb]; omega
      have hor : bits .or .i64 0 (bb : Int) = (nBy a0 1 : Int) := by
        have := or_i64 0 bb (by decide) hbb2
        rw [hn1]
        simpa using this
      have hwb : IntKind.i64.wrap (bb : Int) = (bb : Int) := by rw [i64_w]; unfold wrap64; omega
      have hkpos : 0 < kk := by omega
      clear hB' hB hn1
      go_wp2
      go_step3
      go_wp2
      go_step3
      exact ⟨rfl, rfl, 1, _, _, _, _, _, _, _, _, _, _, _, _, _, _, _, _, _, _, _, _, _, _, _, _, _, _, _, _, _, _, _, _, _, _, _, _, _, _, _, _, _, rfl, by omega⟩
  · rintro a' w' ⟨rfl, i, u8, u9, u10, u11, u12, u13, u14, u15, u16, u17, u18, u19, u20, u21, u22, u23, u24, u25, u26, u27, u28, u29, u30, u31, u32, u33, u34, u35, u36, u37, u38, u39, u40, u41, u42, u43, u44, u45, u46, u47, u48, rfl, hik⟩
    clear hB' hB
    by_cases hlt : i < kk
    · have hi1 : i + 1 < a0.size := by omega
      obtain ⟨bb, hbb⟩ : ∃ bb : Nat, (a0[i + 1]'hi1).toNat = bb := ⟨_, rfl⟩
      have hbb2 : bb < 256 := by have := (a0[i + 1]'hi1).toNat_lt; omega
      have hnb := nBy_lt a0 i (by omega)
      have hn1 : nBy a0 (i + 1) = nBy a0 i * 256 + bb := by
        have e1 : nBy a0 (i + 1) = nBy a0 i * 256 + (bt a0 ((i + 1 : Nat) : Int)).toNat := rfl
        rw [e1, ← bt_at a0 ((i + 1 : Nat) : Int) hi1]
        show nBy a0 i * 256 + ((((a0[i + 1]'hi1).toNat : Nat) : Int)).toNat = _
        rw [hbb]; omega
      have hor : bits .or .i64 ((nBy a0 i : Int) * 256) (bb : Int) = (nBy a0 (i + 1) : Int) := by rw [or_i64 _ _ hnb hbb2, hn1]
      have hwb : IntKind.i64.wrap (bb : Int) = (bb : Int) := by rw [i64_w]; unfold wrap64; omega
      have hwn : IntKind.i64.wrap ((nBy a0 i : Int) * 256) = (nBy a0 i : Int) * 256 := by rw [i64_w]; unfold wrap64; omega
      clear hn1
      go_wp2
      go_step3
      refine ⟨rfl, ⟨rfl, i + 1, ?_⟩, ?_⟩
      · iterate 41 (apply Exists.intro)
        exact ⟨rfl, by omega⟩
      · simp [intOf]; omega
    · obtain rfl : i = kk := by omega
      rw [Int.toNat_natCast] at h
      by_cases hbig : 9007199254740992 < nBy a0 i
      · rw [if_pos (by omega)] at h
        simp only [Option.some.injEq, Prod.mk.injEq] at h
        obtain ⟨rfl, rfl, rfl⟩ := h
        go_wp2
        simp only [Exit.jump]
        go_ret3
        exact ⟨rfl, HD.out⟩
      · rw [if_neg (by omega)] at h
        simp only [Option.some.injEq, Prod.mk.injEq] at h
        obtain ⟨rfl, rfl, rfl⟩ := h
        go_wp2
        simp only [Exit.jump]
        go_ret3
        exact ⟨rfl, HD.out⟩

end Go.Proofs.YtcbaojkfffodiaaDoor.PBan
