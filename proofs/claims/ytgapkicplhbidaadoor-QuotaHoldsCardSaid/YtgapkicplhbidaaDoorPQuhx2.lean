/- A part of the walk of QuotaHolds. No condition. -/
import Derived.Test.YtgapkicplhbidaaDoorPQuhx0
import Derived.Test.YtgapkicplhbidaaDoorPQuhx1
namespace Go.Proofs.YtgapkicplhbidaaDoor.PQuh
set_option maxRecDepth 100000
set_option maxHeartbeats 8000000
open Go.RowKit Go.Proofs.YtgapkicplhbidaaDoorW.PrintWords Go.Proofs.YtgapkicplhbidaaDoorW.PrintLast Go.Proofs.YtgapkicplhbidaaDoorW.PrintMore
attribute [local go_sem] max2_int min2_int max_two min_two max_three min_three max_four min_four   -- for this text's walks alone
set_option linter.unusedVariables false
set_option linter.unusedSimpArgs false
def IsS83 (w0 W : World) (g : Nat) (f0 : ByteArray) (f1 : Int) : Prop := W.heap[g]? = some (.cells #[.string f0, .int .i64 f1] 83 (0, 0)) ∧ w0.heap.size ≤ g
theorem IsS83.grown {w0 W : World} {g : Nat} {f0 : ByteArray} {f1 : Int} {W1 : World} {row : Option Nat} (h : IsS83 w0 W g f0 f1) (hw : W.grownBy W1 row) (hne : some g ≠ row) : IsS83 w0 W1 g f0 f1 := by
 obtain ⟨hb, hg⟩ := h
 exact ⟨blk_grown hb hw hne, hg⟩
theorem IsS83.kept {w0 W : World} {g : Nat} {f0 : ByteArray} {f1 : Int} {W1 : World} {S : Nat → Prop} (h : IsS83 w0 W g f0 f1) (hk : Kept W W1 S) (hne : ¬ S g) : IsS83 w0 W1 g f0 f1 := by
 obtain ⟨hb, hg⟩ := h
 exact ⟨blk_kept hb hk hne, hg⟩
theorem IsS83.below {w0 W : World} {g : Nat} {f0 : ByteArray} {f1 : Int} {W1 : World} (h : IsS83 w0 W g f0 f1) (hw : Below W.heap.size W W1) : IsS83 w0 W1 g f0 f1 := h.grown (grown_of_below hw none) (by simp)
theorem IsS83.alloc {w0 W : World} {g : Nat} {f0 : ByteArray} {f1 : Int} (h : IsS83 w0 W g f0 f1) (o : Obj) : IsS83 w0 (W.alloc o) g f0 f1 := h.below (below_alloc (Below.refl _ _) o)
theorem IsS83.drewN {w0 W : World} {g : Nat} {f0 : ByteArray} {f1 : Int} (h : IsS83 w0 W g f0 f1) (m : Nat) : IsS83 w0 (W.drewN m) g f0 f1 := h
theorem IsS83.drew {w0 W : World} {g : Nat} {f0 : ByteArray} {f1 : Int} (h : IsS83 w0 W g f0 f1) : IsS83 w0 W.drew g f0 f1 := h
theorem IsS83.at_ {w0 W : World} {g : Nat} {f0 : ByteArray} {f1 : Int} {w' : World} {m : Nat} (hq : W.drewN m = w') (h : IsS83 w0 W g f0 f1) : IsS83 w0 w' g f0 f1 := by subst hq; exact IsS83.drewN h m
theorem IsS83.own_ne {w0 W : World} {g : Nat} {f0 : ByteArray} {f1 : Int} {α : Type} {d : Kd α} {e : Nat} {base : Nat} {ok : Nat → Prop} {v : Value} {xs : List α} (h : IsS83 w0 W g f0 f1) (ho : d.R e W base ok v xs) (ht : e ≠ 83) : some g ≠ v.ownBlock := by
 obtain ⟨hb, hg⟩ := h
 exact Kd.R_ne ho hb ht
theorem IsS83.lt {w0 W : World} {g : Nat} {f0 : ByteArray} {f1 : Int} (h : IsS83 w0 W g f0 f1) : g < W.heap.size := by
 obtain ⟨hb, hg⟩ := h
 exact blk_lt hb
theorem IsS83.ge {w0 W : World} {g : Nat} {f0 : ByteArray} {f1 : Int} (h : IsS83 w0 W g f0 f1) : w0.heap.size ≤ g := by
 obtain ⟨hb, hg⟩ := h
 exact hg
theorem IsS83.ne_blk {w0 W : World} {g : Nat} {f0 : ByteArray} {f1 : Int} {a : Nat} {cs : Array Value} {t : TypeId} {fr : Nat × Nat} (h : IsS83 w0 W g f0 f1) (hb2 : W.heap[a]? = some (.cells cs t fr)) (ht : t ≠ 83) : g ≠ a := by
 obtain ⟨hb, hg⟩ := h
 rintro rfl
 rw [hb] at hb2
 injection hb2 with hb2
 injection hb2 with _ ht2
 exact ht ht2.symm
theorem IsS83.far {w0 W : World} {g : Nat} {f0 : ByteArray} {f1 : Int} {p : Addr} (h : IsS83 w0 W g f0 f1) (hne : g ≠ p.block) (u : Value) : IsS83 w0 (W.setCell p u) g f0 f1 := by
 obtain ⟨hb, hg⟩ := h
 exact ⟨blk_far hb hne u, hg⟩
theorem cellS83_0 {W : World} {g : Nat} {f0 : ByteArray} {f1 : Int} (h : W.heap[g]? = some (.cells #[.string f0, .int .i64 f1] 83 (0, 0))) : W.cell? ⟨g, 0, none⟩ = some (.string f0) := (blk_cell h 0).trans rfl
theorem IsS83.set_0 {w0 W : World} {g : Nat} {f0 : ByteArray} {f1 : Int} (h : IsS83 w0 W g f0 f1) (x : ByteArray) : IsS83 w0 (W.setCell ⟨g, 0, none⟩ (.string x)) g x f1 := by
 obtain ⟨hb, hg⟩ := h
 exact ⟨by simpa using blk_set hb 0 (.string x), hg⟩
theorem cellS83_1 {W : World} {g : Nat} {f0 : ByteArray} {f1 : Int} (h : W.heap[g]? = some (.cells #[.string f0, .int .i64 f1] 83 (0, 0))) : W.cell? ⟨g, 1, none⟩ = some (.int .i64 f1) := (blk_cell h 1).trans rfl
theorem IsS83.set_1 {w0 W : World} {g : Nat} {f0 : ByteArray} {f1 : Int} (h : IsS83 w0 W g f0 f1) (x : Int) : IsS83 w0 (W.setCell ⟨g, 1, none⟩ (.int .i64 x)) g f0 x := by
 obtain ⟨hb, hg⟩ := h
 exact ⟨by simpa using blk_set hb 1 (.int .i64 x), hg⟩
theorem IsS83.new (w0 W : World) (f0 : ByteArray) (f1 : Int) (hB : Below w0.heap.size w0 W) : IsS83 w0 (W.alloc (.cells #[.string f0, .int .i64 f1] 83)) W.heap.size f0 f1 := ⟨by simpa using heap_alloc_new W _, hB.size⟩
def wire_New.f (a0 : ByteArray) : Option (ByteArray × Int) := some (a0, 0)
theorem wire_New.calls (a0 : ByteArray) (r1 : ByteArray) (r2 : Int) (w0 w : World) (hB : Below w0.heap.size w0 w) (h : wire_New.f a0 = some (r1, r2)) :
  Calls Tryd.prog 29 #[.string a0] w fun e w' => ∃ g_ : Nat, e = .returned (.pointer (some ⟨g_, 0, none⟩)) ∧ IsS83 w0 w' g_ r1 r2 ∧ Below w0.heap.size w0 w' ∧ Below w.heap.size w w' := by
 have hu83 := Tryd.underlying83
 have HBW := As_ (Below.refl w.heap.size w)
 have HW0 := As_ hB.size
 have HB := As_ hB
 clear hB
 have H : (some (a0, 0)) = some (r1, r2) := h
 clear h
 simp only [Option.some.injEq, Prod.mk.injEq] at H
 obtain ⟨rfl, rfl⟩ := H
 go_enter Tryd.func29, Tryd.ntmps29
 go_wp2_with (first | ((with_reducible refine gate_dst (N := 5) rfl ?_); refine bxE (N := 5) (cs := #[.string a0, .int .i64 0]) (t := 83) ?_; intro gb114 hg w2 hbox hb; replace HB := As_ (below_step ap17_ hb); have BK114 := As_ (hbox); have GW114 := As_ ((by rw [hg]; exact (below_size ap18_) : w.heap.size ≤ gb114)); have GE114 := As_ ((Nat.le_trans HW0.out (by rw [hg]; exact (below_size ap18_) : w.heap.size ≤ gb114) : w0.heap.size ≤ gb114)); replace HBW := As_ (below_step HBW.out hb); clear hb hbox hg))
 go_ret
 exact ⟨_, rfl, (show IsS83 w0 _ gb114 a0 0 from ⟨by (with_reducible repeat (first | refine blk_drewN ?_ _ | refine blk_drew ?_ | refine blk_alloc ?_ _)); exact BK114.out, GE114.out⟩), by repeat (first | (with_reducible first | exact HB.out | apply below_alloc | apply pw_below_drewN | apply below_drew1 | refine below_set ?_ GE114.out) | exact HB.out), by repeat (first | (with_reducible first | exact HBW.out | apply below_alloc | apply pw_below_drewN | apply below_drew1 | refine below_set ?_ GW114.out) | exact HBW.out)⟩
def wire_Reader_stopped.f (s0_0 : ByteArray) (s0_1 : Int) : Option (Bool × ByteArray × Int) := some ((s0_1 != 0), s0_0, s0_1)
theorem wire_Reader_stopped.calls (g : Nat) (s0_0 : ByteArray) (s0_1 : Int) (r1 : Bool) (r2 : ByteArray) (r3 : Int) (w0 w : World) (hI : IsS83 w0 w g s0_0 s0_1) (hB : Below w0.heap.size w0 w) (h : wire_Reader_stopped.f s0_0 s0_1 = some (r1, r2, r3)) :
  Calls Tryd.prog 38 #[.pointer (some ⟨g, 0, none⟩)] w fun e w' => e = .returned (.bool r1) ∧ IsS83 w0 w' g r2 r3 ∧ Below w0.heap.size w0 w' ∧ KeepBut w w' g none := by
 have HI0 := As_ hI
 have HK := As_ (KeepBut.refl w g none)
 have HL := As_ hB.size
 clear hI
 have HW0 := As_ hB.size
 have HB := As_ hB
 clear hB
 have H : (some ((s0_1 != 0), s0_0, s0_1)) = some (r1, r2, r3) := h
 clear h
 simp only [Option.some.injEq, Prod.mk.injEq] at H
 obtain ⟨rfl, rfl, rfl⟩ := H
 obtain ⟨HGz2, hgz2⟩ := HI0.out
 have hcz2_0 := cellS83_0 HGz2
 have hcz2_1 := cellS83_1 HGz2
 have hfz2_0 := blk_frozen HGz2 0
 have hfz2_1 := blk_frozen HGz2 1
 clear HGz2 hgz2
 go_enter Tryd.func38, Tryd.ntmps38
 go_wp2
 go_ret
 exact ⟨ap15_, ap23_, ap24_, ap22_⟩
def nBy (s : ByteArray) : Nat → Nat
 | 0 => 0
 | i + 1 => nBy s i * 256 + (bt s ((i + 1 : Nat) : Int)).toNat
theorem nBy_lt (s : ByteArray) (i : Nat) (h : i ≤ 6) : nBy s i < 281474976710656 := by
 have key : ∀ i, i ≤ 6 → nBy s i < 256 ^ i := by
  intro i
  induction i with
  | zero => intro _; exact Nat.one_pos
  | succ i ih =>
   intro hi
   have h1 := ih (by omega)
   have h2 := (bt_range s ((i + 1 : Nat) : Int)).2
   have h3 : nBy s (i + 1) = nBy s i * 256 + (bt s ((i + 1 : Nat) : Int)).toNat := rfl
   rw [h3, Nat.pow_succ]
   omega
 exact Nat.lt_of_lt_of_le (key i h) (Nat.le_trans (Nat.pow_le_pow_right (by decide) h) (by decide))
theorem or_i64 (n b : Nat) (hn : n < 281474976710656) (hb : b < 256) : bits .or .i64 ((n : Int) * 256) (b : Int) = ((n * 256 + b : Nat) : Int) := by
 have e : n * 256 + b = n * 256 ||| b := by
  have := Nat.shiftLeft_add_eq_or_of_lt (b := b) (i := 8) (by simpa using hb) n
  rw [Nat.shiftLeft_eq] at this
  simpa using this
 have hx : n * 256 ||| b < 9223372036854775808 := by rw [← e]; omega
 have hc : ((n : Int) * 256) = ((n * 256 : Nat) : Int) := by omega
 rw [e, hc]
 show IntKind.i64.wrap ((BitVec.ofInt 64 ((n * 256 : Nat) : Int) ||| BitVec.ofInt 64 (b : Int)).toNat : Int) = _
 rw [BitVec.toNat_or, ofInt_u64 (n * 256) (by omega), ofInt_u64 b (by omega), i64_w]
 unfold wrap64
 omega
def wire_number.f (a0 : ByteArray) : Option (Int × Int × Int) :=
 if a0.size = 0 then some (0, 0, 5)
 else if 7 < bt a0 0 ∨ (0 < bt a0 0 ∧ 1 < a0.size ∧ bt a0 1 = 0) then some (0, 0, 6)
 else if (a0.size : Int) ≤ bt a0 0 then some (0, 0, 5)
 else if 9007199254740992 < nBy a0 (bt a0 0).toNat then some (0, 0, 3)
 else some ((nBy a0 (bt a0 0).toNat : Int), bt a0 0 + 1, 0)
theorem wire_number.calls (a0 : ByteArray) (r1 r2 r3 : Int) (w : World) (h : wire_number.f a0 = some (r1, r2, r3)) :
  Calls Tryd.prog 39 #[.string a0] w fun e w' => e = .returned (.tuple #[.int .i64 r1, .int .i64 r2, .int .i64 r3]) ∧ Drawn0 w w' := by
 unfold wire_number.f at h
 have HD := As_ (Drawn0.refl w)
 by_cases h0 : a0.size = 0
 ·rw [if_pos h0] at h
  simp only [Option.some.injEq, Prod.mk.injEq] at h
  obtain ⟨rfl, rfl, rfl⟩ := h
  have hE : a0 = ⟨#[]⟩ := ByteArray.size_eq_zero_iff.1 h0
  subst hE
  go_enter Tryd.func39, Tryd.ntmps39
  go_wp2
  go_step3
  go_wp2
  rw [Exit.noGoto_ret]
  go_ret3
  exact ⟨rfl, HD.out⟩
 rw [if_neg h0] at h
 have hne : a0.toList.isEmpty = false := by
  rw [List.isEmpty_eq_false_iff]
  intro e
  have h9 := congrArg List.length e
  rw [ByteArray.toList_eq] at h9
  exact h0 h9
 have hpos : 0 < a0.size := by omega
 obtain ⟨kk, hkk⟩ : ∃ kk : Nat, (a0[0]'hpos).toNat = kk := ⟨_, rfl⟩
 have hbk : bt a0 0 = (kk : Int) := by rw [← bt_at a0 0 hpos]; exact congrArg _ hkk
 have hk255 : kk ≤ 255 := by have := (bt_range a0 0).2; omega
 have hwk : IntKind.i64.wrap (kk : Int) = (kk : Int) := by rw [i64_w]; unfold wrap64; omega
 rw [hbk] at h
 by_cases h7 : 7 < kk
 ·rw [if_pos (.inl (by omega))] at h
  simp only [Option.some.injEq, Prod.mk.injEq] at h
  obtain ⟨rfl, rfl, rfl⟩ := h
  go_enter Tryd.func39, Tryd.ntmps39
  go_wp2
  go_step3
  go_wp2
  rw [Exit.noGoto_ret]
  go_ret3
  exact ⟨rfl, HD.out⟩
 by_cases hB : 0 < kk ∧ 1 < a0.size ∧ bt a0 1 = 0
 ·rw [if_pos (.inr (by omega))] at h
  simp only [Option.some.injEq, Prod.mk.injEq] at h
  obtain ⟨rfl, rfl, rfl⟩ := h
  obtain ⟨hB1, hB2, hB3⟩ := hB
  have h1z : (a0[1]'hB2).toNat = 0 := by
   have := bt_at a0 1 hB2
   rw [hB3] at this
   exact Int.ofNat.inj this
  go_enter Tryd.func39, Tryd.ntmps39
  go_wp2
  go_step3
  go_wp2
  rw [Exit.noGoto_ret]
  go_ret3
  exact ⟨rfl, HD.out⟩
 rw [if_neg (by omega)] at h
 have hB' : kk = 0 ∨ a0.size = 1 ∨ ∃ h : 1 < a0.size, ¬ (a0[1]'h).toNat = 0 := by
  by_cases k0 : kk = 0
  ·exact .inl k0
  ·by_cases k1 : a0.size = 1
   ·exact .inr (.inl k1)
   ·refine .inr (.inr ⟨by omega, fun e => hB ⟨by omega, by omega, ?_⟩⟩)
    rw [← bt_at a0 1 (by show 1 < a0.size; omega)]
    exact congrArg (fun n : Nat => (n : Int)) e
 by_cases hC : a0.size ≤ kk
 ·rw [if_pos (by omega)] at h
  simp only [Option.some.injEq, Prod.mk.injEq] at h
  obtain ⟨rfl, rfl, rfl⟩ := h
  rcases hB' with hB' | hB' | ⟨hB2, hB'⟩
  ·omega
  all_goals
   go_enter Tryd.func39, Tryd.ntmps39
   go_wp2
   go_step3
   go_wp2
   all_goals first | (exfalso; omega) | (rw [Exit.noGoto_ret]; go_ret3; exact ⟨rfl, HD.out⟩)
 rw [if_neg (by omega)] at h
 go_enter Tryd.func39, Tryd.ntmps39
 go_wp2
 refine wp_scope_jumps 0 (fun a' w' => w' = w ∧ ∃ (i : Nat) (u8 u9 u10 u11 u12 u13 u14 u15 u16 u17 u18 u19 u20 u21 u22 u23 u24 u25 u26 u27 u28 u29 u30 u31 u32 u33 u34 u35 u36 u37 u38 u39 u40 u41 u42 u43 u44 u45 u46 u47 u48 : Value), a' = { tmps := #[.string a0, undef, .int .i64 0, .int .i64 0, .int .i64 0, .int .i64 kk, .int .i64 (nBy a0 i : Int), .int .i64 ((i : Int) + 1), u8, u9, u10, u11, u12, u13, u14, u15, u16, u17, u18, u19, u20, u21, u22, u23, u24, u25, u26, u27, u28, u29, u30, u31, u32, u33, u34, u35, u36, u37, u38, u39, u40, u41, u42, u43, u44, u45, u46, u47, u48], defers := [] } ∧ i ≤ kk) (fun a' _ => kk + 1 - (intOf (a'.tmps.getD 7 undef)).toNat) rfl ?_ ?_
 ·by_cases k0 : kk = 0
  ·subst k0
   have hn0 : nBy a0 ((0 : Nat) : Int).toNat = 0 := rfl
   rw [hn0, if_neg (by decide)] at h
   simp only [Option.some.injEq, Prod.mk.injEq] at h
   obtain ⟨rfl, rfl, rfl⟩ := h
   go_wp2
   go_step3
   go_wp2
   simp only [Exit.jump]
   go_ret3
   exact ⟨rfl, HD.out⟩
  ·have hi1 : 1 < a0.size := by omega
   have hnz : ¬ (a0[1]'hi1).toNat = 0 := by rcases hB' with hB' | hB' | ⟨hB2, hB'⟩ <;> first | omega | exact hB'
   obtain ⟨bb, hbb⟩ : ∃ bb : Nat, (a0[1]'hi1).toNat = bb := ⟨_, rfl⟩
   rw [hbb] at hnz
   have hbb2 : bb < 256 := by have := (a0[1]'hi1).toNat_lt; omega
   have hn1 : nBy a0 1 = bb := by
    have e1 : nBy a0 1 = 0 * 256 + (bt a0 ((0 + 1 : Nat) : Int)).toNat := rfl
    rw [e1, ← bt_at a0 ((0 + 1 : Nat) : Int) hi1]
    show 0 * 256 + ((((a0[1]'hi1).toNat : Nat) : Int)).toNat = bb
    rw [hbb]; omega
   have hor : bits .or .i64 0 (bb : Int) = (nBy a0 1 : Int) := by
    have := or_i64 0 bb (by decide) hbb2
    rw [hn1]
    simpa using this
   have hwb : IntKind.i64.wrap (bb : Int) = (bb : Int) := by rw [i64_w]; unfold wrap64; omega
   have hkpos : 0 < kk := by omega
   clear hB' hB hn1
   go_wp2
   go_step3
   go_wp2
   go_step3
   exact ⟨rfl, rfl, 1, _, _, _, _, _, _, _, _, _, _, _, _, _, _, _, _, _, _, _, _, _, _, _, _, _, _, _, _, _, _, _, _, _, _, _, _, _, _, _, _, _, rfl, by omega⟩
 ·rintro a' w' ⟨rfl, i, u8, u9, u10, u11, u12, u13, u14, u15, u16, u17, u18, u19, u20, u21, u22, u23, u24, u25, u26, u27, u28, u29, u30, u31, u32, u33, u34, u35, u36, u37, u38, u39, u40, u41, u42, u43, u44, u45, u46, u47, u48, rfl, hik⟩
  clear hB' hB
  by_cases hlt : i < kk
  ·have hi1 : i + 1 < a0.size := by omega
   obtain ⟨bb, hbb⟩ : ∃ bb : Nat, (a0[i + 1]'hi1).toNat = bb := ⟨_, rfl⟩
   have hbb2 : bb < 256 := by have := (a0[i + 1]'hi1).toNat_lt; omega
   have hnb := nBy_lt a0 i (by omega)
   have hn1 : nBy a0 (i + 1) = nBy a0 i * 256 + bb := by
    have e1 : nBy a0 (i + 1) = nBy a0 i * 256 + (bt a0 ((i + 1 : Nat) : Int)).toNat := rfl
    rw [e1, ← bt_at a0 ((i + 1 : Nat) : Int) hi1]
    show nBy a0 i * 256 + ((((a0[i + 1]'hi1).toNat : Nat) : Int)).toNat = _
    rw [hbb]; omega
   have hor : bits .or .i64 ((nBy a0 i : Int) * 256) (bb : Int) = (nBy a0 (i + 1) : Int) := by rw [or_i64 _ _ hnb hbb2, hn1]
   have hwb : IntKind.i64.wrap (bb : Int) = (bb : Int) := by rw [i64_w]; unfold wrap64; omega
   have hwn : IntKind.i64.wrap ((nBy a0 i : Int) * 256) = (nBy a0 i : Int) * 256 := by rw [i64_w]; unfold wrap64; omega
   clear hn1
   go_wp2
   go_step3
   refine ⟨rfl, ⟨rfl, i + 1, ?_⟩, ?_⟩
   ·iterate 41 (apply Exists.intro)
    exact ⟨rfl, by omega⟩
   ·simp [intOf]; omega
  ·obtain rfl : i = kk := by omega
   rw [Int.toNat_natCast] at h
   by_cases hbig : 9007199254740992 < nBy a0 i
   ·rw [if_pos (by omega)] at h
    simp only [Option.some.injEq, Prod.mk.injEq] at h
    obtain ⟨rfl, rfl, rfl⟩ := h
    go_wp2
    simp only [Exit.jump]
    go_ret3
    exact ⟨rfl, HD.out⟩
   ·rw [if_neg (by omega)] at h
    simp only [Option.some.injEq, Prod.mk.injEq] at h
    obtain ⟨rfl, rfl, rfl⟩ := h
    go_wp2
    simp only [Exit.jump]
    go_ret3
    exact ⟨rfl, HD.out⟩
def wire_Reader_take.f (s0_0 : ByteArray) (s0_1 : Int) (a1 : Int) (a2 : Int) : Option (Bool × ByteArray × Int) := if a2 = 0 then (if 0 ≤ a1 then (if a1 ≤ (s0_0.size : Int) then (some (true, s0_0.extract (a1 : Int).toNat s0_0.size, s0_1)) else (none)) else (none)) else (some (false, s0_0, a2))
theorem wire_Reader_take.calls (g : Nat) (s0_0 : ByteArray) (s0_1 : Int) (a1 : Int) (a2 : Int) (r1 : Bool) (r2 : ByteArray) (r3 : Int) (w0 w : World) (hI : IsS83 w0 w g s0_0 s0_1) (hB : Below w0.heap.size w0 w) (h : wire_Reader_take.f s0_0 s0_1 a1 a2 = some (r1, r2, r3)) :
  Calls Tryd.prog 40 #[.pointer (some ⟨g, 0, none⟩), .int .i64 a1, .int .i64 a2] w fun e w' => e = .returned (.bool r1) ∧ IsS83 w0 w' g r2 r3 ∧ Below w0.heap.size w0 w' ∧ KeepBut w w' g none := by
 have HI0 := As_ hI
 have HK := As_ (KeepBut.refl w g none)
 have HL := As_ hB.size
 clear hI
 have HW0 := As_ hB.size
 have HB := As_ hB
 clear hB
 have H : (if a2 = 0 then (if 0 ≤ a1 then (if a1 ≤ (s0_0.size : Int) then (some (true, s0_0.extract (a1 : Int).toNat s0_0.size, s0_1)) else (none)) else (none)) else (some (false, s0_0, a2))) = some (r1, r2, r3) := h
 clear h
 by_cases c4 : a2 = 0
 ·rw [if_pos c4] at H
  have c4b0 : (a2 == 0) = true := beq_iff_eq.mpr c4
  have c4b1 : (a2 != 0) = false := bne_eq_false_iff_eq.mpr c4
  clear c4
  by_cases c5 : 0 ≤ a1
  ·rw [if_pos c5] at H
   have c5b0 := eq_true c5
   have c5b1 : decide (0 ≤ a1) = true := decide_eq_true c5
   clear c5
   by_cases c6 : a1 ≤ (s0_0.size : Int)
   ·rw [if_pos c6] at H
    have c6b0 := eq_true c6
    have c6b1 : decide (a1 ≤ (s0_0.size : Int)) = true := decide_eq_true c6
    clear c6
    simp only [Option.some.injEq, Prod.mk.injEq] at H
    obtain ⟨rfl, rfl, rfl⟩ := H
    obtain ⟨HGz7, hgz7⟩ := HI0.out
    have hcz7_0 := cellS83_0 HGz7
    have hcz7_1 := cellS83_1 HGz7
    have hfz7_0 := blk_frozen HGz7 0
    have hfz7_1 := blk_frozen HGz7 1
    clear HGz7 hgz7
    go_enter Tryd.func40, Tryd.ntmps40
    go_wp2
    go_ret
    exact ⟨ap15_, ap23_, ap24_, ap22_⟩
   ·rw [if_neg c6] at H
    exact absurd H (by simp)
  ·rw [if_neg c5] at H
   exact absurd H (by simp)
 ·rw [if_neg c4] at H
  have c4b0 : (a2 == 0) = false := beq_eq_false_iff_ne.mpr c4
  have c4b1 : (a2 != 0) = true := bne_iff_ne.mpr c4
  simp only [Option.some.injEq, Prod.mk.injEq] at H
  obtain ⟨rfl, rfl, rfl⟩ := H
  obtain ⟨HGz8, hgz8⟩ := HI0.out
  have hcz8_0 := cellS83_0 HGz8
  have hcz8_1 := cellS83_1 HGz8
  have hfz8_0 := blk_frozen HGz8 0
  have hfz8_1 := blk_frozen HGz8 1
  clear HGz8 hgz8
  go_enter Tryd.func40, Tryd.ntmps40
  go_wp2
  go_ret
  exact ⟨ap15_, ap23_, ap24_, ap22_⟩
def wire_Reader_Num.f (s0_0 : ByteArray) (s0_1 : Int) : Option (Int × ByteArray × Int) := (wire_Reader_stopped.f s0_0 s0_1).bind fun bt115 => (if bt115.1 = true then (some (0, bt115.2.1, bt115.2.2)) else ((wire_number.f bt115.2.1).bind fun bt118 => ((wire_Reader_take.f bt115.2.1 bt115.2.2 bt118.2.1 bt118.2.2).bind fun bt121 => (some (bt118.1, bt121.2.1, bt121.2.2)))))
theorem wire_Reader_Num.calls (g : Nat) (s0_0 : ByteArray) (s0_1 : Int) (r1 : Int) (r2 : ByteArray) (r3 : Int) (w0 w : World) (hI : IsS83 w0 w g s0_0 s0_1) (hB : Below w0.heap.size w0 w) (h : wire_Reader_Num.f s0_0 s0_1 = some (r1, r2, r3)) :
  Calls Tryd.prog 30 #[.pointer (some ⟨g, 0, none⟩)] w fun e w' => e = .returned (.int .i64 r1) ∧ IsS83 w0 w' g r2 r3 ∧ Below w0.heap.size w0 w' ∧ KeepBut w w' g none := by
 have HI0 := As_ hI
 have HK := As_ (KeepBut.refl w g none)
 have HL := As_ hB.size
 clear hI
 have HW0 := As_ hB.size
 have HB := As_ hB
 clear hB
 have H : ((wire_Reader_stopped.f s0_0 s0_1).bind fun bt115 => (if bt115.1 = true then (some (0, bt115.2.1, bt115.2.2)) else ((wire_number.f bt115.2.1).bind fun bt118 => ((wire_Reader_take.f bt115.2.1 bt115.2.2 bt118.2.1 bt118.2.2).bind fun bt121 => (some (bt118.1, bt121.2.1, bt121.2.2)))))) = some (r1, r2, r3) := h
 clear h
 replace H := Option.bind_eq_some_iff.mp H
 obtain ⟨⟨t115, t116, t117⟩, A20, H⟩ := H
 try dsimp only at H
 have A2 := As_ A20
 clear A20
 by_cases c3 : t115 = true
 ·subst c3
  have H1 : (some (0, t116, t117)) = some (r1, r2, r3) := by rw [if_pos rfl] at H; exact H
  clear H
  have H := H1
  clear H1
  simp only [Option.some.injEq, Prod.mk.injEq] at H
  obtain ⟨rfl, rfl, rfl⟩ := H
  go_enter Tryd.func30, Tryd.ntmps30
  go_wp2_with (first | ((with_reducible refine gate_callee (f := 38) rfl ?_); refine gk_ (some 7) Tryd.func38 #[.pointer (some ⟨g, 0, none⟩)] ?_; (with_reducible refine (wire_Reader_stopped.calls g s0_0 s0_1 true t116 t117 w0 _ ?side1 ?side2 A2.out).mono ?_); (case side1 => repeat (first | (with_reducible first | exact HI0.out | apply IsS83.alloc | apply IsS83.drewN | apply IsS83.drew | apply IsS83.set_0 | apply IsS83.set_1) | exact HI0.out)); (case side2 => repeat (first | (with_reducible first | exact HB.out | apply below_alloc | apply pw_below_drewN | apply below_drew1 | refine below_set ?_ (IsS83.ge HI0.out)) | exact HB.out)); rintro e w4 ⟨rfl, hi, hb, hk⟩; refine ⟨_, rfl, ?_⟩; replace HK := As_ (KeepBut.trans ap22_ hk (.inl rfl)); replace HB := As_ (hb); replace HI0 := As_ (hi); (try clear hb); (try clear hb2); (try clear hk); (try clear hi)))
  go_ret
  exact ⟨ap15_, ap23_, ap24_, ap22_⟩
 ·replace c3 := Bool.eq_false_iff.mpr c3
  subst c3
  have H1 : ((wire_number.f t116).bind fun bt118 => ((wire_Reader_take.f t116 t117 bt118.2.1 bt118.2.2).bind fun bt121 => (some (bt118.1, bt121.2.1, bt121.2.2)))) = some (r1, r2, r3) := by rw [if_neg (show ¬ (false = true) by decide)] at H; exact H
  clear H
  have H := H1
  clear H1
  replace H := Option.bind_eq_some_iff.mp H
  obtain ⟨⟨t118, t119, t120⟩, A50, H⟩ := H
  try dsimp only at H
  have A5 := As_ A50
  clear A50
  replace H := Option.bind_eq_some_iff.mp H
  obtain ⟨⟨t121, t122, t123⟩, A60, H⟩ := H
  try dsimp only at H
  have A6 := As_ A60
  clear A60
  simp only [Option.some.injEq, Prod.mk.injEq] at H
  obtain ⟨rfl, rfl, rfl⟩ := H
  go_enter Tryd.func30, Tryd.ntmps30
  go_wp2_with (first | ((with_reducible refine gate_callee (f := 38) rfl ?_); refine gk_ (some 7) Tryd.func38 #[.pointer (some ⟨g, 0, none⟩)] ?_; (with_reducible refine (wire_Reader_stopped.calls g s0_0 s0_1 false t116 t117 w0 _ ?side1 ?side2 A2.out).mono ?_); (case side1 => repeat (first | (with_reducible first | exact HI0.out | apply IsS83.alloc | apply IsS83.drewN | apply IsS83.drew | apply IsS83.set_0 | apply IsS83.set_1) | exact HI0.out)); (case side2 => repeat (first | (with_reducible first | exact HB.out | apply below_alloc | apply pw_below_drewN | apply below_drew1 | refine below_set ?_ (IsS83.ge HI0.out)) | exact HB.out)); rintro e w7 ⟨rfl, hi, hb, hk⟩; refine ⟨_, rfl, ?_⟩; replace HK := As_ (KeepBut.trans ap22_ hk (.inl rfl)); replace HB := As_ (hb); replace HI0 := As_ (hi); (try clear hb); (try clear hb2); (try clear hk); (try clear hi); obtain ⟨HGz8, hgz8⟩ := HI0.out; have hcz8_0 := cellS83_0 HGz8; have hcz8_1 := cellS83_1 HGz8; have hfz8_0 := blk_frozen HGz8 0; have hfz8_1 := blk_frozen HGz8 1; clear HGz8 hgz8) | ((with_reducible refine gate_callee (f := 39) rfl ?_); refine gk_ (some 13) Tryd.func39 #[.string t116] ?_; (with_reducible refine (wire_number.calls t116 t118 t119 t120 _ A5.out).mono ?_); rintro e w' ⟨rfl, ⟨nd, rfl⟩⟩; refine ⟨_, rfl, ?_⟩) | ((with_reducible refine gate_callee (f := 40) rfl ?_); refine gk_ (some 20) Tryd.func40 #[.pointer (some ⟨g, 0, none⟩), .int .i64 t119, .int .i64 t120] ?_; (with_reducible refine (wire_Reader_take.calls g t116 t117 t119 t120 t121 t122 t123 w0 _ ?side1 ?side2 A6.out).mono ?_); (case side1 => repeat (first | (with_reducible first | exact HI0.out | apply IsS83.alloc | apply IsS83.drewN | apply IsS83.drew | apply IsS83.set_0 | apply IsS83.set_1) | exact HI0.out)); (case side2 => repeat (first | (with_reducible first | exact HB.out | apply below_alloc | apply pw_below_drewN | apply below_drew1 | refine below_set ?_ (IsS83.ge HI0.out)) | exact HB.out)); rintro e w9 ⟨rfl, hi, hb, hk⟩; refine ⟨_, rfl, ?_⟩; replace HK := As_ (KeepBut.trans ap22_ hk (.inl rfl)); replace HB := As_ (hb); replace HI0 := As_ (hi); (try clear hb); (try clear hb2); (try clear hk); (try clear hi)))
  go_ret
  exact ⟨ap15_, ap23_, ap24_, ap22_⟩
def wire_Reader_Err.f (s0_0 : ByteArray) (s0_1 : Int) : Option (Int × ByteArray × Int) := some (s0_1, s0_0, s0_1)
theorem wire_Reader_Err.calls (g : Nat) (s0_0 : ByteArray) (s0_1 : Int) (r1 : Int) (r2 : ByteArray) (r3 : Int) (w0 w : World) (hI : IsS83 w0 w g s0_0 s0_1) (hB : Below w0.heap.size w0 w) (h : wire_Reader_Err.f s0_0 s0_1 = some (r1, r2, r3)) :
  Calls Tryd.prog 41 #[.pointer (some ⟨g, 0, none⟩)] w fun e w' => e = .returned (.int .i64 r1) ∧ IsS83 w0 w' g r2 r3 ∧ Below w0.heap.size w0 w' ∧ KeepBut w w' g none := by
 have HI0 := As_ hI
 have HK := As_ (KeepBut.refl w g none)
 have HL := As_ hB.size
 clear hI
 have HW0 := As_ hB.size
 have HB := As_ hB
 clear hB
 have H : (some (s0_1, s0_0, s0_1)) = some (r1, r2, r3) := h
 clear h
 simp only [Option.some.injEq, Prod.mk.injEq] at H
 obtain ⟨rfl, rfl, rfl⟩ := H
 obtain ⟨HGz2, hgz2⟩ := HI0.out
 have hcz2_0 := cellS83_0 HGz2
 have hcz2_1 := cellS83_1 HGz2
 have hfz2_0 := blk_frozen HGz2 0
 have hfz2_1 := blk_frozen HGz2 1
 clear HGz2 hgz2
 go_enter Tryd.func41, Tryd.ntmps41
 go_wp2
 go_ret
 exact ⟨ap15_, ap23_, ap24_, ap22_⟩
def wire_Reader_Done.f (s0_0 : ByteArray) (s0_1 : Int) : Option (Int × ByteArray × Int) := (wire_Reader_Err.f s0_0 s0_1).bind fun bt124 => (if bt124.1 = 0 then (if bt124.2.1.toList = ([] : List UInt8) then (some (bt124.1, bt124.2.1, bt124.2.2)) else (some (6, bt124.2.1, bt124.2.2))) else (some (bt124.1, bt124.2.1, bt124.2.2)))
theorem wire_Reader_Done.calls (g : Nat) (s0_0 : ByteArray) (s0_1 : Int) (r1 : Int) (r2 : ByteArray) (r3 : Int) (w0 w : World) (hI : IsS83 w0 w g s0_0 s0_1) (hB : Below w0.heap.size w0 w) (h : wire_Reader_Done.f s0_0 s0_1 = some (r1, r2, r3)) :
  Calls Tryd.prog 31 #[.pointer (some ⟨g, 0, none⟩)] w fun e w' => e = .returned (.int .i64 r1) ∧ IsS83 w0 w' g r2 r3 ∧ Below w0.heap.size w0 w' ∧ KeepBut w w' g none := by
 have HI0 := As_ hI
 have HK := As_ (KeepBut.refl w g none)
 have HL := As_ hB.size
 clear hI
 have HW0 := As_ hB.size
 have HB := As_ hB
 clear hB
 have H : ((wire_Reader_Err.f s0_0 s0_1).bind fun bt124 => (if bt124.1 = 0 then (if bt124.2.1.toList = ([] : List UInt8) then (some (bt124.1, bt124.2.1, bt124.2.2)) else (some (6, bt124.2.1, bt124.2.2))) else (some (bt124.1, bt124.2.1, bt124.2.2)))) = some (r1, r2, r3) := h
 clear h
 replace H := Option.bind_eq_some_iff.mp H
 obtain ⟨⟨t124, t125, t126⟩, A20, H⟩ := H
 try dsimp only at H
 have A2 := As_ A20
 clear A20
 by_cases c3 : t124 = 0
 ·rw [if_pos c3] at H
  have c3b0 : (t124 == 0) = true := beq_iff_eq.mpr c3
  have c3b1 : (t124 != 0) = false := bne_eq_false_iff_eq.mpr c3
  clear c3
  by_cases c4 : t125.toList = ([] : List UInt8)
  ·rw [if_pos c4] at H
   have c4b0 : (t125.toList == ([] : List UInt8)) = true := beq_iff_eq.mpr c4
   have c4b1 : (t125.toList != ([] : List UInt8)) = false := bne_eq_false_iff_eq.mpr c4
   clear c4
   simp only [Option.some.injEq, Prod.mk.injEq] at H
   obtain ⟨rfl, rfl, rfl⟩ := H
   go_enter Tryd.func31, Tryd.ntmps31
   go_wp2_with (first | ((with_reducible refine gate_callee (f := 41) rfl ?_); refine gk_ (some 5) Tryd.func41 #[.pointer (some ⟨g, 0, none⟩)] ?_; (with_reducible refine (wire_Reader_Err.calls g s0_0 s0_1 t124 t125 t126 w0 _ ?side1 ?side2 A2.out).mono ?_); (case side1 => repeat (first | (with_reducible first | exact HI0.out | apply IsS83.alloc | apply IsS83.drewN | apply IsS83.drew | apply IsS83.set_0 | apply IsS83.set_1) | exact HI0.out)); (case side2 => repeat (first | (with_reducible first | exact HB.out | apply below_alloc | apply pw_below_drewN | apply below_drew1 | refine below_set ?_ (IsS83.ge HI0.out)) | exact HB.out)); rintro e w5 ⟨rfl, hi, hb, hk⟩; refine ⟨_, rfl, ?_⟩; replace HK := As_ (KeepBut.trans ap22_ hk (.inl rfl)); replace HB := As_ (hb); replace HI0 := As_ (hi); (try clear hb); (try clear hb2); (try clear hk); (try clear hi); obtain ⟨HGz6, hgz6⟩ := HI0.out; have hcz6_0 := cellS83_0 HGz6; have hcz6_1 := cellS83_1 HGz6; have hfz6_0 := blk_frozen HGz6 0; have hfz6_1 := blk_frozen HGz6 1; clear HGz6 hgz6))
   go_ret
   exact ⟨ap15_, ap23_, ap24_, ap22_⟩
  ·rw [if_neg c4] at H
   have c4b0 : (t125.toList == ([] : List UInt8)) = false := beq_eq_false_iff_ne.mpr c4
   have c4b1 : (t125.toList != ([] : List UInt8)) = true := bne_iff_ne.mpr c4
   simp only [Option.some.injEq, Prod.mk.injEq] at H
   obtain ⟨rfl, rfl, rfl⟩ := H
   go_enter Tryd.func31, Tryd.ntmps31
   go_wp2_with (first | ((with_reducible refine gate_callee (f := 41) rfl ?_); refine gk_ (some 5) Tryd.func41 #[.pointer (some ⟨g, 0, none⟩)] ?_; (with_reducible refine (wire_Reader_Err.calls g s0_0 s0_1 t124 t125 t126 w0 _ ?side1 ?side2 A2.out).mono ?_); (case side1 => repeat (first | (with_reducible first | exact HI0.out | apply IsS83.alloc | apply IsS83.drewN | apply IsS83.drew | apply IsS83.set_0 | apply IsS83.set_1) | exact HI0.out)); (case side2 => repeat (first | (with_reducible first | exact HB.out | apply below_alloc | apply pw_below_drewN | apply below_drew1 | refine below_set ?_ (IsS83.ge HI0.out)) | exact HB.out)); rintro e w7 ⟨rfl, hi, hb, hk⟩; refine ⟨_, rfl, ?_⟩; replace HK := As_ (KeepBut.trans ap22_ hk (.inl rfl)); replace HB := As_ (hb); replace HI0 := As_ (hi); (try clear hb); (try clear hb2); (try clear hk); (try clear hi); obtain ⟨HGz8, hgz8⟩ := HI0.out; have hcz8_0 := cellS83_0 HGz8; have hcz8_1 := cellS83_1 HGz8; have hfz8_0 := blk_frozen HGz8 0; have hfz8_1 := blk_frozen HGz8 1; clear HGz8 hgz8))
   go_ret
   exact ⟨ap15_, ap23_, ap24_, ap22_⟩
 ·rw [if_neg c3] at H
  have c3b0 : (t124 == 0) = false := beq_eq_false_iff_ne.mpr c3
  have c3b1 : (t124 != 0) = true := bne_iff_ne.mpr c3
  simp only [Option.some.injEq, Prod.mk.injEq] at H
  obtain ⟨rfl, rfl, rfl⟩ := H
  go_enter Tryd.func31, Tryd.ntmps31
  go_wp2_with (first | ((with_reducible refine gate_callee (f := 41) rfl ?_); refine gk_ (some 5) Tryd.func41 #[.pointer (some ⟨g, 0, none⟩)] ?_; (with_reducible refine (wire_Reader_Err.calls g s0_0 s0_1 t124 t125 t126 w0 _ ?side1 ?side2 A2.out).mono ?_); (case side1 => repeat (first | (with_reducible first | exact HI0.out | apply IsS83.alloc | apply IsS83.drewN | apply IsS83.drew | apply IsS83.set_0 | apply IsS83.set_1) | exact HI0.out)); (case side2 => repeat (first | (with_reducible first | exact HB.out | apply below_alloc | apply pw_below_drewN | apply below_drew1 | refine below_set ?_ (IsS83.ge HI0.out)) | exact HB.out)); rintro e w9 ⟨rfl, hi, hb, hk⟩; refine ⟨_, rfl, ?_⟩; replace HK := As_ (KeepBut.trans ap22_ hk (.inl rfl)); replace HB := As_ (hb); replace HI0 := As_ (hi); (try clear hb); (try clear hb2); (try clear hk); (try clear hi)))
  go_ret
  exact ⟨ap15_, ap23_, ap24_, ap22_⟩
theorem rdOf_get (l : List ByteArray) (i : Nat) (h : i < l.length) : rdOf ByteArray.empty l (i : Int) = l[i] := by
 unfold rdOf
 rw [Int.toNat_natCast, List.getD_eq_getElem?_getD, List.getElem?_eq_getElem h]; rfl
theorem ofL_append (l m : List UInt8) : ofL l ++ ofL m = ofL (l ++ m) := by
 apply ba_ext; rw [ba_append, ofL_toList, ofL_toList, ofL_toList]
theorem one_list (c : UInt8) : (⟨#[c]⟩ : ByteArray).toList = [c] := by rw [ByteArray.toList_eq]
theorem two_list (a b : UInt8) : (⟨#[a, b]⟩ : ByteArray).toList = [a, b] := by rw [ByteArray.toList_eq]
theorem w_one (i : Nat) (h : i ≤ 4000000000000000000) : wrap64 ((i : Int) + 1) = ((i + 1 : Nat) : Int) := by rw [w64 (by omega) (by omega)]; omega
def glue (c : UInt8) (a : List UInt8) (ps : List (List UInt8)) : List UInt8 := a ++ ps.flatMap (c :: ·)
def hidL (l : List UInt8) : List UInt8 := l.flatMap fun c => if c = 37 then [37, 112] else if c = 47 then [37, 115] else [c]
theorem hidL_cons (c : UInt8) (t : List UInt8) : hidL (c :: t) = (if c = 37 then [37, 112] else if c = 47 then [37, 115] else [c]) ++ hidL t := by unfold hidL; rw [List.flatMap_cons]
theorem hid_repl : ∀ l : List UInt8, repl1 47 [37, 115] (repl1 37 [37, 112] l) = hidL l
 | [] => rfl
 | c :: t => by
  have ih := hid_repl t
  rw [hidL_cons, ← ih]
  unfold repl1
  rw [List.flatMap_cons, List.flatMap_append]
  congr 1
  by_cases h1 : c = 37
  ·subst h1; rfl
  ·rw [if_neg h1, if_neg h1]
   by_cases h2 : c = 47 <;> simp [h2]
theorem repl_len (c a b : UInt8) : ∀ l : List UInt8, (repl1 c [a, b] l).length ≤ 2 * l.length
 | [] => by simp [repl1]
 | x :: t => by
  have ih := repl_len c a b t
  unfold repl1 at ih ⊢
  rw [List.flatMap_cons, List.length_append, List.length_cons]
  have : (if x = c then [a, b] else [x]).length ≤ 2 := by split <;> simp
  omega
theorem hidL_len (l : List UInt8) : (hidL l).length ≤ 2 * l.length := by
 induction l with
 | nil => simp [hidL]
 | cons c t ih =>
  rw [hidL_cons, List.length_append, List.length_cons]
  have : (if c = 37 then [37, 112] else if c = 47 then [37, 115] else [c] : List UInt8).length ≤ 2 := by split <;> (try split) <;> simp
  omega
theorem repl_is (s : ByteArray) (c a b : UInt8) (h : s.size ≤ 100000000) : strings_ReplaceAll.f s ⟨#[c]⟩ ⟨#[a, b]⟩ = some (ofL (repl1 c [a, b] s.toList)) := by
 unfold strings_ReplaceAll.f
 rw [one_list, two_list]
 exact if_pos ⟨h, rfl⟩
theorem hidden_is (s : ByteArray) (h : s.size ≤ 50000000) : path_hidden.f s = some (ofL (hidL s.toList)) := by
 unfold path_hidden.f
 have h1 := repl_len 37 37 112 s.toList
 rw [← ba_size] at h1
 rw [repl_is s 37 37 112 (by omega), Option.bind_some, repl_is _ 47 37 115 (by rw [ofL_size]; omega), Option.bind_some, ofL_toList, hid_repl]
def keyL (a : List UInt8) (ps : List (List UInt8)) : List UInt8 := glue 47 (hidL a) (ps.map hidL)
theorem join_go (l : List ByteArray) (hl : l.length ≤ 1000) (hs : ∀ p ∈ l, p.size ≤ 50000000) : ∀ (d i : Nat) (acc : ByteArray), d = l.length - i → i ≤ l.length → acc.size ≤ 100000000 + i * 100000001 → Ev (fun k => path_Join.l0 k acc l (l.length : Int) (i : Int)) (acc ++ ofL ((l.drop i).flatMap fun p => 47 :: hidL p.toList)) := by
 intro d
 induction d with
 | zero =>
  intro i acc hd hi ha
  refine ⟨1, fun k hk => ?_⟩
  obtain ⟨m, rfl⟩ : ∃ m, k = m + 1 := ⟨k - 1, by omega⟩
  show path_Join.l0 (m + 1) acc l (l.length : Int) (i : Int) = _
  simp only [path_Join.l0]
  rw [if_neg (by omega), List.drop_eq_nil_of_le (by omega)]
  congr 1
  apply ba_ext; rw [ba_append, ofL_toList]; simp
 | succ d ih =>
  intro i acc hd hi ha
  have hil : i < l.length := by omega
  have hp := hs l[i] (List.getElem_mem hil)
  have hlen := hidL_len (l[i]).toList
  rw [← ba_size] at hlen
  have hsz : ((⟨#[47]⟩ : ByteArray) ++ ofL (hidL (l[i]).toList)).size ≤ 100000001 := by
   rw [ByteArray.size_append, ofL_size]; show 1 + _ ≤ _; omega
  have hi2 : i * 100000001 ≤ 1000 * 100000001 := Nat.mul_le_mul_right _ (by omega)
  obtain ⟨K, e⟩ := ih (i + 1) (acc ++ ((⟨#[47]⟩ : ByteArray) ++ ofL (hidL (l[i]).toList))) (by omega) (by omega) (by rw [ByteArray.size_append, Nat.add_mul]; omega)
  refine ⟨K + 1, fun k hk => ?_⟩
  obtain ⟨m, rfl⟩ : ∃ m, k = m + 1 := ⟨k - 1, by omega⟩
  have e : path_Join.l0 m _ l (l.length : Int) ((i + 1 : Nat) : Int) = _ := e m (by omega)
  show path_Join.l0 (m + 1) acc l (l.length : Int) (i : Int) = _
  simp only [path_Join.l0]
  rw [if_pos (by omega), if_pos (by omega), if_pos (by omega), rdOf_get l i hil, hidden_is _ hp, Option.bind_some, if_pos (by rw [ofL_size]; omega), if_pos (by omega), w_one i (by omega), e]
  congr 1
  rw [List.drop_eq_getElem_cons hil, List.flatMap_cons]
  apply ba_ext
  simp only [ba_append, ofL_toList, one_list]
  simp
theorem join_ev (a : ByteArray) (l : List ByteArray) (ha : a.size ≤ 50000000) (hl : l.length ≤ 1000) (hs : ∀ p ∈ l, p.size ≤ 50000000) : Ev (fun k => path_Join.f k a l) (ofL (keyL a.toList (l.map ByteArray.toList))) := by
 have h1 := hidL_len a.toList
 rw [← ba_size] at h1
 obtain ⟨K, e⟩ := join_go l hl hs l.length 0 (ofL (hidL a.toList)) (by omega) (by omega) (by rw [ofL_size]; omega)
 refine ⟨K, fun k hk => ?_⟩
 have e : path_Join.l0 k (ofL (hidL a.toList)) l (l.length : Int) 0 = _ := e k hk
 show path_Join.f k a l = _
 unfold path_Join.f
 rw [hidden_is a ha, Option.bind_some, e, ofL_append]
 unfold keyL glue
 rw [List.drop_zero, List.map_map, List.flatMap_map]
 rfl
def keyB (a : ByteArray) (l : List ByteArray) : ByteArray := ofL (keyL a.toList (l.map ByteArray.toList))
theorem key_ev (a : ByteArray) (l : List ByteArray) (ha : a.size ≤ 50000000) (hl : l.length ≤ 1000) (hs : ∀ p ∈ l, p.size ≤ 50000000) : ∃ k, path_Join.f k a l = some (keyB a l) := by
 obtain ⟨K, e⟩ := join_ev a l ha hl hs
 exact ⟨K, e K (Nat.le_refl _)⟩
def numB (n : Nat) : ByteArray := strOfNums [((digB 8 n).length : Int)] ++ strOfNums (digB 8 n)
theorem wNum_is (n : Nat) (h : n ≤ 9007199254740992) : wire_Num.f (n : Int) = some (numB n, 0) := by
 unfold wire_Num.f numB
 rw [if_neg (by omega), Int.toNat_natCast]
theorem strOfNums_sz (l : List Int) : (strOfNums l).size = l.length := by rw [ba_size, ByteArray.toList_eq, strOfNums_data, List.length_map]
theorem numB_len (n : Nat) : (numB n).size ≤ 9 := by
 have := digB_len 8 n
 unfold numB
 rw [ByteArray.size_append, strOfNums_sz, strOfNums_sz, List.length_singleton]; omega
def numW (s : ByteArray) : Int × Int × Int := (wire_number.f s).getD (0, 0, 0)
theorem number_is (s : ByteArray) : wire_number.f s = some (numW s) := by
 unfold numW wire_number.f
 repeat' split
 all_goals rfl
theorem numW_bd (s : ByteArray) : (0 ≤ (numW s).1 ∧ (numW s).1 ≤ 9007199254740992) ∧ (0 ≤ (numW s).2.1 ∧ (numW s).2.1 ≤ (s.size : Int)) := by
 have h := number_is s
 generalize numW s = r at h
 unfold wire_number.f at h
 have hb := bt_range s 0
 by_cases h1 : s.size = 0
 ·rw [if_pos h1] at h; obtain rfl := Option.some.inj h; simp
 rw [if_neg h1] at h
 by_cases h2 : 7 < bt s 0 ∨ (0 < bt s 0 ∧ 1 < s.size ∧ bt s 1 = 0)
 ·rw [if_pos h2] at h; obtain rfl := Option.some.inj h; simp
 rw [if_neg h2] at h
 by_cases h3 : (s.size : Int) ≤ bt s 0
 ·rw [if_pos h3] at h; obtain rfl := Option.some.inj h; simp
 rw [if_neg h3] at h
 by_cases h4 : 9007199254740992 < nBy s (bt s 0).toNat
 ·rw [if_pos h4] at h; obtain rfl := Option.some.inj h; simp
 rw [if_neg h4] at h
 obtain rfl := Option.some.inj h
 dsimp only
 omega
def rNum (s : ByteArray) (e : Int) : Int × ByteArray × Int := if e = 0 then ((numW s).1, if (numW s).2.2 = 0 then s.extract (numW s).2.1.toNat s.size else s, (numW s).2.2) else (0, s, e)
def rDone (s : ByteArray) (e : Int) : Int := if e = 0 then (if s.toList = [] then 0 else 6) else e
theorem rNum_is (s : ByteArray) (e : Int) : wire_Reader_Num.f s e = some (rNum s e) := by
 unfold wire_Reader_Num.f wire_Reader_stopped.f rNum
 rw [Option.bind_some]
 dsimp only
 by_cases he : e = 0
 ·subst he
  obtain ⟨_, h3, h4⟩ := numW_bd s
  rw [if_neg (by simp), number_is, Option.bind_some, if_pos rfl]
  unfold wire_Reader_take.f
  by_cases h : (numW s).2.2 = 0
  ·rw [if_pos h, if_pos h3, if_pos h4, Option.bind_some, if_pos h, h]
  ·rw [if_neg h, if_neg h, Option.bind_some]
 ·rw [if_pos (by simpa using he), if_neg he]
theorem rDone_is (s : ByteArray) (e : Int) : wire_Reader_Done.f s e = some (rDone s e, s, e) := by
 unfold wire_Reader_Done.f wire_Reader_Err.f rDone
 rw [Option.bind_some]
 dsimp only
 by_cases he : e = 0
 ·subst he
  rw [if_pos rfl, if_pos rfl]
  by_cases h : s.toList = []
  ·rw [if_pos h, if_pos h]
  ·rw [if_neg h, if_neg h]
 ·rw [if_neg he, if_neg he]
theorem rNum_bd (s : ByteArray) (e : Int) : 0 ≤ (rNum s e).1 ∧ (rNum s e).1 ≤ 9007199254740992 := by
 unfold rNum
 split
 ·exact (numW_bd s).1
 ·exact ⟨Int.le_refl _, by show (0 : Int) ≤ _; omega⟩
structure KV (n : Nat) (cur : List S50) : Prop where
 so : sortK cur
 len : cur.length ≤ n
 val : ∀ p ∈ cur, p.f1.size ≤ 65536
theorem KV.get {n : Nat} {cur : List S50} (h : KV n cur) (key : ByteArray) : (getK cur key).1.size ≤ 65536 := by
 unfold getK
 split
 ·rename_i hh
  obtain ⟨hp, _⟩ := hasK_lt hh
  rw [rdP _ _ hp]
  exact h.val _ (List.getElem_mem hp)
 ·exact Nat.zero_le _
theorem KV.set {n : Nat} {cur : List S50} (h : KV n cur) (key value : ByteArray) (hv : value.size ≤ 65536) : KV (n + 1) (setK cur key value) := by
 refine ⟨sortK_set h.so _ _, Nat.le_trans (setK_len _ _ _) (Nat.succ_le_succ h.len), fun p hp => ?_⟩
 unfold setK at hp
 split at hp
 ·rcases List.mem_or_eq_of_mem_set hp with hp | rfl
  ·exact h.val p hp
  ·exact hv
 ·rcases List.mem_append.1 hp with hp | hp
  ·exact h.val p (List.mem_of_mem_take hp)
  ·rcases List.mem_cons.1 hp with rfl | hp
   ·exact hv
   ·exact h.val p (List.mem_of_mem_drop hp)
theorem KV.mono {n m : Nat} {cur : List S50} (h : KV n cur) (hm : n ≤ m) : KV m cur := ⟨h.so, Nat.le_trans h.len hm, h.val⟩
theorem KV.del {n : Nat} {cur : List S50} (h : KV n cur) (key : ByteArray) : KV n (delK cur key) := by
 refine ⟨sortK_del h.so _, Nat.le_trans (delK_len _ _) h.len, fun p hp => ?_⟩
 unfold delK at hp
 split at hp
 ·rcases List.mem_append.1 hp with hp | hp
  ·exact h.val p (List.mem_of_mem_take hp)
  ·exact h.val p (List.mem_of_mem_drop hp)
 ·exact h.val p hp
theorem KV.nil (n : Nat) : KV n [] := ⟨List.Pairwise.nil, Nat.zero_le _, by simp⟩
def setC (cur : List S50) (key value : ByteArray) : List S50 := if key.size > 65536 ∨ value.size > 65536 then cur else setK cur key value
theorem KV.put {n : Nat} {cur : List S50} (h : KV n cur) (key value : ByteArray) : KV (n + 1) (setC cur key value) := by
 unfold setC
 split
 ·exact h.mono (Nat.le_succ _)
 ·exact h.set _ _ (by omega)
theorem setJ0 (cur : List S50) (key value : ByteArray) : setJ ⟨cur, []⟩ key value = ⟨setC cur key value, []⟩ := by
 unfold setJ setC
 split <;> rfl
theorem delK_no {cur : List S50} {key : ByteArray} (h : ¬ hasK cur key = true) : delK cur key = cur := by unfold delK; rw [if_neg h]
theorem delJ0 (cur : List S50) (key : ByteArray) : delJ ⟨cur, []⟩ key = ⟨delK cur key, []⟩ := by
 unfold delJ
 by_cases h : hasK cur key = true
 ·rw [if_pos h]; rfl
 ·rw [if_neg h, delK_no h]
structure JK (w w' : World) : Prop where
 size : w.heap.size ≤ w'.heap.size
 keep : ∀ (k : Nat) (cells : Array Value) (q : TypeId) (x : Nat × Nat), w.heap[k]? = some (Obj.cells cells q x) → q ∉ JT → w'.heap[k]? = w.heap[k]?
theorem JK.of_below {w w' : World} (h : Below w.heap.size w w') : JK w w' := ⟨h.size, fun k _ _ _ hk _ => h.block k (blk_lt hk)⟩
theorem JK.trans {w w1 w2 : World} (h : JK w w1) (k : JK w1 w2) : JK w w2 := ⟨Nat.le_trans h.size k.size, fun b c q x hb hq => (k.keep b c q x ((h.keep b c q x hb hq).trans hb) hq).trans (h.keep b c q x hb hq)⟩
theorem JK.blk {w w' : World} {b : Nat} {c : Array Value} {q : TypeId} {x : Nat × Nat} (h : JK w w') (hb : w.heap[b]? = some (.cells c q x)) (hq : q ∉ JT) : w'.heap[b]? = some (.cells c q x) := (h.keep b c q x hb hq).trans hb
structure JS (base : Nat) (ok : Nat → Prop) (w0 : World) (g : Nat) (cur : List S50) (w : World) : Prop where
 m : JM base (fun k => ok k ∨ w0.heap.size ≤ k) g ⟨cur, []⟩ w
 jw : JW ok w0 w
 b : base ≤ w0.heap.size
theorem JS.start {base g : Nat} {ok : Nat → Prop} {cur : List S50} {w : World} (h : JM base ok g ⟨cur, []⟩ w) (hb : base ≤ w.heap.size) : JS base ok w g cur w := ⟨h.mono (fun _ hk => .inl hk), JW.of_below (Below.refl _ _), hb⟩
theorem JS.below {base g : Nat} {ok : Nat → Prop} {w0 : World} {cur : List S50} {w w' : World} (h : JS base ok w0 g cur w) (hb : Below w.heap.size w w') : JS base ok w0 g cur w' := ⟨h.m.below hb, h.jw.trans (JW.of_below hb : JW ok w w') (fun i hi => .inl hi), h.b⟩
theorem JS.hb {base g : Nat} {ok : Nat → Prop} {w0 : World} {cur : List S50} {w : World} (h : JS base ok w0 g cur w) : base ≤ w.heap.size := Nat.le_trans h.b h.jw.size
def BD (base : Nat) (ok : Nat → Prop) (w0 w : World) (k : Nat) : Prop := (ok k ∨ w0.heap.size ≤ k) ∧ base ≤ k ∧ k < w.heap.size ∧ ∃ q, q ∈ JT ∧ ∃ cells, w.heap[k]? = some (.cells cells q (0, 0))
theorem JS.bd {base g : Nat} {ok : Nat → Prop} {w0 : World} {cur : List S50} {w : World} (h : JS base ok w0 g cur w) : JM base (BD base ok w0 w) g ⟨cur, []⟩ w := h.m.bound
theorem JS.post {base g : Nat} {ok : Nat → Prop} {w0 : World} {cur cur' : List S50} {w w' : World} {r : Value} {e : Ending} (h : JS base ok w0 g cur w) (hp : JPost base (BD base ok w0 w) g ⟨cur', []⟩ r w e w') : e = .returned r ∧ JS base ok w0 g cur' w' ∧ JK w w' := by
 obtain ⟨h1, h2, h3⟩ := hp
 refine ⟨h1, ⟨h2.mono (fun k hk => hk.elim (fun hk => hk.1) (fun hk => .inr (Nat.le_trans h.jw.size hk))), h.jw.trans h3 (fun i hi => hi.1), h.b⟩, ⟨h3.size, fun k cells q x hk hq => h3.block k (blk_lt hk) (fun hb => ?_)⟩⟩
 obtain ⟨_, _, _, q2, hq2, c2, hc2⟩ := hb
 exact hq (blk_ty hk hc2 ▸ hq2)
theorem JS.set_ {base g : Nat} {ok : Nat → Prop} {w0 : World} {cur : List S50} {w : World} (h : JS base ok w0 g cur w) {p : Addr} (v : Value) (hn : w0.heap.size ≤ p.block) (c : Array Value) (q : TypeId) (x : Nat × Nat) (hp : w.heap[p.block]? = some (.cells c q x)) (hq : q ∉ JT) : JS base ok w0 g cur (w.setCell p v) := by
 have hf : ∀ k, k ≠ p.block → (w.setCell p v).heap[k]? = w.heap[k]? := fun k hk => Below.heap_setCell w p v k hk
 refine ⟨?_, h.jw.trans (ok' := fun k => k = p.block) ⟨rfl, rfl, rfl, by simp [World.setCell], fun i _ hi => hf i hi⟩ (fun i hi => .inr (by rw [hi]; exact hn)), h.b⟩
 have hm := h.bd
 refine (hm.move (fun k cells t hk hc => hf k (fun e => ?_))).mono (fun k hk => hk.1)
 obtain ⟨_, _, _, q2, hq2, c2, hc2⟩ := hk
 subst e
 exact hq (blk_ty hp hc2 ▸ hq2)
theorem JS.drewN {base g : Nat} {ok : Nat → Prop} {w0 : World} {cur : List S50} {w : World} (h : JS base ok w0 g cur w) (n : Nat) : JS base ok w0 g cur (w.drewN n) := h.below (pw_below_drewN (Below.refl _ _) n)
theorem JS.drew {base g : Nat} {ok : Nat → Prop} {w0 : World} {cur : List S50} {w : World} (h : JS base ok w0 g cur w) : JS base ok w0 g cur w.drew := h.below (below_drew1 (Below.refl _ _))
theorem JS.alloc {base g : Nat} {ok : Nat → Prop} {w0 : World} {cur : List S50} {w : World} (h : JS base ok w0 g cur w) (o : Obj) : JS base ok w0 g cur (w.alloc o) := h.below (below_alloc (Below.refl _ _) o)
theorem JS.size0 {base g : Nat} {ok : Nat → Prop} {w0 : World} {cur : List S50} {w : World} (h : JS base ok w0 g cur w) : w0.heap.size ≤ w.heap.size := h.jw.size
theorem JS.setb {base g : Nat} {ok : Nat → Prop} {w0 : World} {cur : List S50} {w : World} (h : JS base ok w0 g cur w) {p : Addr} (hn : w0.heap.size ≤ p.block) {c : Array Value} {q : TypeId} (hp : w.heap[p.block]? = some (.cells c q (0, 0))) (v : Value) (hq : q ∉ JT) : JS base ok w0 g cur (w.setCell p v) := h.set_ v hn c q _ hp hq
theorem JK.drewN {w W : World} (h : JK w W) (n : Nat) : JK w (W.drewN n) := h.trans (JK.of_below (pw_below_drewN (Below.refl _ _) n))
theorem JK.drew {w W : World} (h : JK w W) : JK w W.drew := h.trans (JK.of_below (below_drew1 (Below.refl _ _)))
theorem JK.alloc {w W : World} (h : JK w W) (o : Obj) : JK w (W.alloc o) := h.trans (JK.of_below (below_alloc (Below.refl _ _) o))
theorem JK.setb {w W : World} (h : JK w W) {p : Addr} (hn : w.heap.size ≤ p.block) (v : Value) : JK w (W.setCell p v) :=
 ⟨by simpa [World.setCell] using h.size, fun k cells q x hk hq => (Below.heap_setCell W p v k (fun e => by have := blk_lt hk; omega)).trans (h.keep k cells q x hk hq)⟩
theorem js_get {base g : Nat} {ok : Nat → Prop} {w0 : World} {cur : List S50} (key v : ByteArray) (b : Bool) {w : World} (h : JS base ok w0 g cur w) (hk : KV 1000000 cur) (hv : (getK cur key).1 = v) (hb : hasK cur key = b) :
  Calls Tryd.prog 28 #[.pointer (some ⟨g, 0, none⟩), .string key] w fun e w' => e = .returned (.tuple #[.string v, .bool b]) ∧ Below w.heap.size w w' := by
 have e : (getK cur key).2 = hasK cur key := by unfold getK; cases hasK cur key <;> rfl
 rw [← hv, ← hb, ← e]
 exact j_get base g _ ⟨cur, []⟩ key w h.m (Nat.le_trans hk.len (by decide))
theorem js_set {base g : Nat} {ok : Nat → Prop} {w0 : World} {cur : List S50} (key value : ByteArray) {w : World} (h : JS base ok w0 g cur w) (hk : KV 1000000 cur) :
  Calls Tryd.prog 27 #[.pointer (some ⟨g, 0, none⟩), .string key, .string value] w fun e w' => e = .returned (.int .i64 (setE key value)) ∧ JS base ok w0 g (setC cur key value) w' ∧ JK w w' := by
 have := j_set base g (BD base ok w0 w) ⟨cur, []⟩ key value w h.bd (Nat.le_trans hk.len (by decide)) (by simp) (by simp) h.hb
 rw [setJ0] at this
 exact this.mono (fun e w' hp => h.post hp)
theorem js_del {base g : Nat} {ok : Nat → Prop} {w0 : World} {cur : List S50} (key : ByteArray) {w : World} (h : JS base ok w0 g cur w) (hk : KV 1000000 cur) :
  Calls Tryd.prog 13 #[.pointer (some ⟨g, 0, none⟩), .string key] w fun e w' => e = .returned (.int .i64 (delE ⟨cur, []⟩ key)) ∧ JS base ok w0 g (delK cur key) w' ∧ JK w w' := by
 have := j_del base g (BD base ok w0 w) ⟨cur, []⟩ key w h.bd (Nat.le_trans hk.len (by decide)) (by simp) (by simp) h.hb
 rw [delJ0] at this
 exact this.mono (fun e w' hp => h.post hp)
def nm_headL (a : Int) : List UInt8 := if a = 1 then [99, 104, 97, 110, 110, 101, 108, 45] else if a = 2 then [99, 111, 110, 110, 101, 99, 116, 105, 111, 110, 45] else if a = 3 then [99, 108, 105, 101, 110, 116, 45] else []
theorem nm_head_is (a : Int) : names_head.f a = some (ofL (nm_headL a)) := by
 unfold names_head.f nm_headL
 split
 ·rfl
 ·split
  ·rfl
  ·split <;> rfl
theorem nm_hasPrefix_is (s h : ByteArray) : stringslite_HasPrefix.f s h = some (decide (h.toList <+: s.toList)) := by
 unfold stringslite_HasPrefix.f
 by_cases hs : (s.size : Int) ≥ (h.size : Int)
 ·rw [if_pos hs, if_pos (by omega), if_pos hs]
  congr 1
  rw [ba_extract, List.drop_zero, Int.toNat_natCast, Bool.eq_iff_iff, beq_iff_eq, decide_eq_true_iff, List.prefix_iff_eq_take, ba_size h]
  exact eq_comm
 ·rw [if_neg hs]
  congr 1
  symm
  rw [decide_eq_false_iff_not]
  intro hp
  have := hp.length_le
  rw [← ba_size, ← ba_size] at this
  omega
theorem nm_cutPrefix_is (s h : ByteArray) : strings_CutPrefix.f s h = some (if h.toList <+: s.toList then (ofL (s.toList.drop h.size), true) else (s, false)) := by
 unfold strings_CutPrefix.f stringslite_CutPrefix.f
 rw [nm_hasPrefix_is, Option.bind_some]
 by_cases hp : h.toList <+: s.toList
 ·have hl := hp.length_le
  rw [← ba_size, ← ba_size] at hl
  rw [decide_eq_true hp, if_pos rfl, if_pos (by omega), if_pos (by omega), Option.bind_some, if_pos hp]
  congr 2
  apply ba_ext
  rw [ba_extract, ofL_toList, Int.toNat_natCast, ba_size s, List.take_length]
 ·rw [decide_eq_false hp, if_neg (by simp), Option.bind_some, if_neg hp]
theorem nm_go_is (s : ByteArray) (d : Nat) : ∀ (i n : Nat), i ≤ s.size → d = s.size + 1 - i → n ≤ 1099511627776 → names_Number.go s d i (n : Int) = if (∀ c ∈ s.toList.drop i, isDig c) ∧ (s.toList.drop i).foldl dstep n ≤ 1099511627776 then some (((s.toList.drop i).foldl dstep n : Nat) : Int) else none := by
 induction d with
 | zero => intro i n hi hd; omega
 | succ d ih =>
  intro i n hi hd hn
  unfold names_Number.go
  by_cases h : i < s.size
  ·have hl : i < s.toList.length := by rw [← ba_size]; exact h
   have hb := bt_get s i hl
   rw [if_pos h, List.drop_eq_getElem_cons hl]
   generalize s.toList[i] = c at *
   simp only [List.mem_cons, List.foldl_cons, forall_eq_or_imp]
   by_cases h1 : bt s i < 48
   ·rw [if_pos h1, if_neg]
    rintro ⟨⟨hc, _⟩, _⟩
    unfold isDig at hc; omega
   ·rw [if_neg h1]
    by_cases h2 : bt s i > 57
    ·rw [if_pos h2, if_neg]
     rintro ⟨⟨hc, _⟩, _⟩
     unfold isDig at hc; omega
    ·rw [if_neg h2]
     have hc : isDig c := by unfold isDig; omega
     have he : (n : Int) * 10 + (bt s i - 48) = ((dstep n c : Nat) : Int) := by unfold dstep; rw [hb]; unfold isDig at hc; omega
     rw [he]
     by_cases h3 : ((dstep n c : Nat) : Int) > 1099511627776
     ·rw [if_pos h3, if_neg]
      rintro ⟨_, hle⟩
      have := foldl_dstep_ge (s.toList.drop (i + 1)) (dstep n c)
      omega
     ·rw [if_neg h3, ih (i + 1) (dstep n c) (by omega) (by omega) (by omega)]
      simp only [hc, true_and]
  ·rw [if_neg h]
   have : s.toList.drop i = [] := by rw [List.drop_eq_nil_iff, ← ba_size]; omega
   rw [this]
   simp [hn]
def nm_numOk (h l : List UInt8) : Prop := h <+: l ∧ l.drop h.length ≠ [] ∧ plainDec (l.drop h.length) ∧ (∀ c ∈ l.drop h.length, isDig c) ∧ dval (l.drop h.length) ≤ 1099511627776
open Classical in
noncomputable def nm_numSpec (h l : List UInt8) : Int × Int := if h = [] then (0, 1) else if nm_numOk h l then ((dval (l.drop h.length) : Nat), 0) else (0, 7)
theorem nm_plainDec_iff (l : List UInt8) (hn : l ≠ []) : plainDec l ↔ ¬ (1 < (ofL l).size ∧ bt (ofL l) 0 = 48) := by
 obtain ⟨c, t, rfl⟩ := List.exists_cons_of_ne_nil hn
 have hb : bt (ofL (c :: t)) 0 = ((c.toNat : Nat) : Int) := by
  have := bt_get (ofL (c :: t)) 0 (by rw [ofL_toList]; simp)
  simp only [ofL_toList] at this
  exact this
 rw [hb, ofL_size]
 unfold plainDec
 simp only [List.length_cons, List.head?_cons, ne_eq, Option.some.injEq]
 constructor
 ·rintro (h | h) ⟨h1, h2⟩
  ·omega
  ·exact h (UInt8.toNat_inj.1 (by have : (48 : UInt8).toNat = 48 := rfl; omega))
 ·intro h
  by_cases hl : t.length = 0
  ·exact .inl (by omega)
  ·right
   intro he
   apply h
   rw [he]
   exact ⟨by omega, rfl⟩
theorem nm_number_is (a : Int) (s : ByteArray) (hs : s.size ≤ 140737488351232) : names_Number.f a s = some (nm_numSpec (nm_headL a) s.toList) := by
 unfold names_Number.f nm_numSpec
 rw [if_pos hs, nm_head_is, Option.bind_some, ofL_toList]
 by_cases hh : nm_headL a = []
 ·rw [if_pos hh, if_pos hh]
 ·rw [if_neg hh, if_neg hh, nm_cutPrefix_is, Option.bind_some, ofL_toList, ofL_size]
  by_cases hp : nm_headL a <+: s.toList
  ·rw [if_pos hp]
   simp only [Bool.true_eq_false, if_false, ofL_toList]
   by_cases he : s.toList.drop (nm_headL a).length = []
   ·rw [if_pos he, if_neg]
    rintro ⟨_, h2, _⟩
    exact h2 he
   ·rw [if_neg he]
    have hpi := nm_plainDec_iff _ he
    by_cases hz : 1 < (ofL (s.toList.drop (nm_headL a).length)).size ∧ bt (ofL (s.toList.drop (nm_headL a).length)) 0 = 48
    ·rw [if_pos hz, if_neg]
     rintro ⟨_, _, h3, _⟩
     exact hpi.1 h3 hz
    ·rw [if_neg hz]
     have hsz : (ofL (s.toList.drop (nm_headL a).length)).size ≤ 140737488351232 := by
      rw [ofL_size, List.length_drop, ← ba_size]; omega
     rw [if_pos hsz]
     have hg := nm_go_is (ofL (s.toList.drop (nm_headL a).length)) _ 0 0 (by omega) rfl (by omega)
     rw [show (((0 : Nat) : Int)) = 0 from rfl] at hg
     rw [Nat.sub_zero, List.drop_zero, ofL_toList] at hg
     rw [hg]
     by_cases hd : (∀ c ∈ s.toList.drop (nm_headL a).length, isDig c) ∧ (s.toList.drop (nm_headL a).length).foldl dstep 0 ≤ 1099511627776
     ·rw [if_pos hd, if_pos]
      ·rfl
      ·exact ⟨hp, he, hpi.2 hz, hd.1, hd.2⟩
     ·rw [if_neg hd, if_neg]
      rintro ⟨_, _, _, h4, h5⟩
      exact hd ⟨h4, h5⟩
  ·rw [if_neg hp, if_pos rfl, if_neg (fun h : nm_numOk _ _ => hp h.1)]
def nm_letP (c : Int) : Prop := (97 ≤ c ∧ c ≤ 122) ∨ (65 ≤ c ∧ c ≤ 90) ∨ (48 ≤ c ∧ c ≤ 57) ∨ c = 46 ∨ c = 95 ∨ c = 45
instance (c : Int) : Decidable (nm_letP c) := by unfold nm_letP; infer_instance
theorem nm_letter_is (c : Int) (k : Nat) : names_letter.f (k + 3) c = some (decide (nm_letP c)) := by
 unfold names_letter.f
 simp only [names_letter.j0, names_letter.j1, names_letter.j2]
 repeat' split
 all_goals (try simp only [decide_eq_true_iff, Bool.false_eq_true] at *)
 all_goals (first | exact congrArg some (decide_eq_true (by unfold nm_letP; omega)).symm | exact congrArg some (decide_eq_false (by unfold nm_letP; omega)).symm)
theorem nm_letter_at (c : Int) (k : Nat) (h : 3 ≤ k) : names_letter.f k c = some (decide (nm_letP c)) := by
 obtain ⟨m, rfl⟩ : ∃ m, k = m + 3 := ⟨k - 3, by omega⟩
 exact nm_letter_is c m
def nm_plainP (s : ByteArray) : Prop := 1 ≤ s.size ∧ s.size ≤ 64 ∧ ∀ i : Nat, i < s.size → nm_letP (bt s i)
open Classical in
theorem nm_plain_is (s : ByteArray) (hs : s.size ≤ 140737488351232) : Ev (fun k => names_plain.f k s) (decide (nm_plainP s)) := by
 have loop : ∀ (d i : Nat) (b : Bool), d = s.size - i → i ≤ s.size → ∀ k, d + 5 ≤ k → names_plain.l0 k s b (s.size : Int) (i : Int) = some (b && decide (∀ j : Nat, i ≤ j → j < s.size → nm_letP (bt s j))) := by
  intro d
  induction d with
  | zero =>
   intro i b hd hi k hk
   obtain ⟨k, rfl⟩ : ∃ m, k = m + 1 := ⟨k - 1, by omega⟩
   simp only [names_plain.l0]
   rw [if_neg (by omega), decide_eq_true (fun j h1 h2 => by omega), Bool.and_true]
  | succ d ih =>
   intro i b hd hi k hk
   obtain ⟨k, rfl⟩ : ∃ m, k = m + 1 := ⟨k - 1, by omega⟩
   simp only [names_plain.l0]
   rw [if_pos (by omega), if_pos (by omega), if_pos (by omega), nm_letter_at _ _ (by omega), Option.bind_some]
   by_cases hl : nm_letP (bt s i)
   ·rw [decide_eq_true hl, if_pos rfl, w64 (by omega) (by omega), show ((i : Int) + 1) = ((i + 1 : Nat) : Int) from rfl, ih (i + 1) b (by omega) (by omega) _ (by omega)]
    congr 2
    rw [decide_eq_decide]
    constructor
    ·intro h j h1 h2
     by_cases he : j = i
     ·rw [he]; exact hl
     ·exact h j (by omega) h2
    ·intro h j h1 h2
     exact h j (by omega) h2
   ·rw [decide_eq_false hl, if_neg (by simp), decide_eq_false (fun h => hl (h i (Nat.le_refl _) (by omega))), Bool.and_false]
 refine ⟨s.size + 6, fun k hk => ?_⟩
 obtain ⟨k, rfl⟩ : ∃ m, k = m + 1 := ⟨k - 1, by omega⟩
 have hl := fun b => loop s.size 0 b (by omega) (by omega) k (by omega)
 unfold names_plain.f
 simp only [names_plain.j0]
 by_cases h0 : s.toList = []
 ·rw [if_pos h0]
  have hz : s.size = 0 := by rw [ba_size, h0]; rfl
  have := hl false
  rw [show ((0 : Nat) : Int) = 0 from rfl] at this
  rw [this, Bool.false_and, decide_eq_false (fun h : nm_plainP s => by have := h.1; omega)]
 ·rw [if_neg h0]
  have hz : 1 ≤ s.size := by rw [ba_size]; exact List.length_pos_iff.2 h0
  have := hl (decide ((s.size : Int) ≤ 64))
  rw [show ((0 : Nat) : Int) = 0 from rfl] at this
  rw [this]
  congr 1
  rw [Bool.eq_iff_iff, Bool.and_eq_true, decide_eq_true_iff, decide_eq_true_iff, decide_eq_true_iff]
  constructor
  ·rintro ⟨h1, h2⟩
   exact ⟨hz, by omega, fun i hi => h2 i (Nat.zero_le _) hi⟩
  ·rintro ⟨_, h1, h2⟩
   exact ⟨by omega, fun i _ hi => h2 i hi⟩
open Classical in
noncomputable def nm_checkSpec (a : Int) (s : ByteArray) : Int := if a < 0 then 1 else if a > 6 then 1 else if nm_headL a = [] then (if nm_plainP s then 0 else 7) else (nm_numSpec (nm_headL a) s.toList).2
open Classical in
theorem nm_check_ev (a : Int) (s : ByteArray) (hs : s.size ≤ 140737488351232) : Ev (fun k => names_Check.f k a s) (nm_checkSpec a s) := by
 obtain ⟨K, hK⟩ := nm_plain_is s hs
 refine ⟨K + 1, fun k hk => ?_⟩
 obtain ⟨k, rfl⟩ : ∃ m, k = m + 1 := ⟨k - 1, by omega⟩
 have hp : names_plain.f k s = _ := hK k (by omega)
 show names_Check.f _ a s = _
 unfold names_Check.f nm_checkSpec
 by_cases h1 : a < 0
 ·rw [if_pos h1, if_pos h1]
  simp only [names_Check.j0]
  rw [if_pos trivial]
 ·rw [if_neg h1, if_neg h1]
  simp only [names_Check.j0]
  by_cases h2 : a > 6
  ·rw [if_pos h2, decide_eq_true h2, if_pos rfl]
  ·rw [if_neg h2, decide_eq_false h2, if_neg (by simp), nm_head_is, Option.bind_some, ofL_toList]
   by_cases h3 : nm_headL a = []
   ·rw [if_pos h3, if_pos h3, hp, Option.bind_some]
    by_cases h4 : nm_plainP s
    ·rw [decide_eq_true h4, if_pos rfl, if_pos h4]
    ·rw [decide_eq_false h4, if_neg (by simp), if_neg h4]
   ·rw [if_neg h3, if_neg h3, nm_number_is a s hs, Option.bind_some]
theorem nm_eq (a : Int) (s : ByteArray) (hs : s.size ≤ 140737488351232) (k : Nat) (n : Int) (h : names_Check.f k a s = some n) : nm_checkSpec a s = n := by
 obtain ⟨K, hK⟩ := nm_check_ev a s hs
 obtain ⟨K2, hK2⟩ := Ev.of (g := fun k => names_Check.f k a s) (names_Check.mono a s) h
 exact Option.some.inj ((hK (max K K2) (by omega)).symm.trans (hK2 (max K K2) (by omega)))
def bkNum (n : Int) : ByteArray := if n < 0 ∨ 9007199254740992 < n then (⟨#[]⟩ : ByteArray) else numB n.toNat
def J1 (n g : Nat) (cur : List S50) (v : Value) (l : List S50) (W : World) : Prop :=
 ∃ ok : Nat → Prop, (∀ k, ok k → n ≤ k ∧ k < W.heap.size) ∧ JM n ok g ⟨cur, []⟩ W ∧ Kd.V k50 50 W 0 (fun k => ¬ ok k) v l
theorem J1.of {n g : Nat} {cur : List S50} {v : Value} {l : List S50} {W : World} {ok : Nat → Prop} (hm : JM n ok g ⟨cur, []⟩ W) (hv : Kd.V k50 50 W 0 (fun k => ¬ ok k) v l) : J1 n g cur v l W :=
 ⟨_, fun k hk => ⟨hk.2.1, hk.2.2.1⟩, hm.bound, Kd.V_mono hv (fun k hk h => hk h.1)⟩
theorem J1.below {n g : Nat} {cur : List S50} {v : Value} {l : List S50} {W W' : World} (h : J1 n g cur v l W) (hb : Below W.heap.size W W') : J1 n g cur v l W' := by
 obtain ⟨ok, h1, h2, h3⟩ := h
 exact ⟨ok, fun k hk => ⟨(h1 k hk).1, Nat.lt_of_lt_of_le (h1 k hk).2 hb.size⟩, h2.below hb, Kd.V_below h3 hb⟩
theorem hasK_in {l : List S50} {key : ByteArray} (h : hasK l key = true) : ∃ p ∈ l, p.f0 = key := by
 obtain ⟨hp, e⟩ := hasK_lt h
 exact ⟨_, List.getElem_mem hp, e⟩
theorem hasK_not {l : List S50} {key : ByteArray} (h : ∀ p ∈ l, p.f0 ≠ key) : hasK l key = false := by
 cases e : hasK l key with
 | false => rfl
 | true => obtain ⟨p, hp, hk⟩ := hasK_in e; exact absurd hk (h p hp)
theorem getK_no {l : List S50} {key : ByteArray} (h : hasK l key = false) : getK l key = ((⟨#[]⟩ : ByteArray), false) := by unfold getK; rw [h]; rfl
theorem mem_setK {l : List S50} {key value : ByteArray} {p : S50} (h : p ∈ setK l key value) : p = ⟨key, value⟩ ∨ p ∈ l := by
 unfold setK at h
 split at h
 ·rcases List.mem_or_eq_of_mem_set h with h | h
  ·exact .inr h
  ·exact .inl h
 ·rcases List.mem_append.1 h with h | h
  ·exact .inr (List.mem_of_mem_take h)
  ·rcases List.mem_cons.1 h with h | h
   ·exact .inl h
   ·exact .inr (List.mem_of_mem_drop h)
theorem mem_delK {l : List S50} {key : ByteArray} {p : S50} (h : p ∈ delK l key) : p ∈ l := by
 unfold delK at h
 split at h
 ·rcases List.mem_append.1 h with h | h
  ·exact List.mem_of_mem_take h
  ·exact List.mem_of_mem_drop h
 ·exact h
theorem getK_set {l : List S50} (hs : sortK l) (key value : ByteArray) : getK (setK l key value) key = (value, true) := by
 obtain ⟨A, B, hA, hB, h⟩ := decK hs key
 rcases h with ⟨_, x, hx, rfl⟩ | ⟨hn, rfl⟩
 ·rw [setK_mid value hA hx hB]; exact getK_mid hA rfl hB
 ·rw [setK_new value hA hB hn]; exact getK_mid hA rfl hB
theorem key_head (a : ByteArray) (l : List ByteArray) (c : UInt8) (t : List UInt8) (h : a.toList = c :: t) (h1 : c ≠ 37) (h2 : c ≠ 47) : (keyB a l).toList.head? = some c := by
 unfold keyB keyL glue
 rw [ofL_toList, h, hidL_cons, if_neg h1, if_neg h2]
 rfl
theorem JS.old {n m g : Nat} {ok : Nat → Prop} {cur : List S50} {w w0 W : World} (h : JS n ok w0 g cur W) (hb : Below m w w0) (hm : m ≤ w0.heap.size) (hk : ∀ k, ok k → m ≤ k) : Below m w W := JW.toBelow hb hm h.jw hk
theorem getK_mem {l : List S50} (hs : sortK l) {p : S50} (hp : p ∈ l) : getK l p.f0 = (p.f1, true) ∧ hasK l p.f0 = true := by
 obtain ⟨A, B, rfl⟩ := List.append_of_mem hp
 have h := List.pairwise_append.1 hs
 have hA : ∀ a ∈ A, kLt a.f0 p.f0 = true := fun a ha => h.2.2 a ha p List.mem_cons_self
 have hB : ∀ b ∈ B, kLt b.f0 p.f0 = false := fun b hb => by
  cases e : kLt b.f0 p.f0 with
  | false => rfl
  | true =>
   have h3 := kLt_trans e (List.rel_of_pairwise_cons h.2.1 hb)
   rw [kLt_irr] at h3; cases h3
 exact ⟨getK_mid hA rfl hB, hasK_mid hA rfl hB⟩
theorem getK_none {l : List S50} {key : ByteArray} (h : ¬ hasK l key = true) : getK l key = ((⟨#[]⟩ : ByteArray), false) := getK_no (Bool.eq_false_iff.2 h)
theorem setK_keep {l : List S50} (hs : sortK l) {key : ByteArray} (value : ByteArray) {p : S50} (hp : p ∈ l) (hk : p.f0 ≠ key) : p ∈ setK l key value := by
 obtain ⟨A, B, hA, hB, h⟩ := decK hs key
 rcases h with ⟨_, x, hx, rfl⟩ | ⟨hn, rfl⟩
 ·rw [setK_mid value hA hx hB]
  rcases List.mem_append.1 hp with hp | hp
  ·exact List.mem_append_left _ hp
  ·rcases List.mem_cons.1 hp with rfl | hp
   ·exact absurd hx hk
   ·exact List.mem_append_right _ (List.mem_cons_of_mem _ hp)
 ·rw [setK_new value hA hB hn]
  rcases List.mem_append.1 hp with hp | hp
  ·exact List.mem_append_left _ hp
  ·exact List.mem_append_right _ (List.mem_cons_of_mem _ hp)
theorem delK_keep {l : List S50} (hs : sortK l) {key : ByteArray} {p : S50} (hp : p ∈ l) (hk : p.f0 ≠ key) : p ∈ delK l key := by
 by_cases hh : hasK l key = true
 ·obtain ⟨A, B, hA, hB, h⟩ := decK hs key
  rcases h with ⟨_, x, hx, rfl⟩ | ⟨hn, rfl⟩
  ·rw [delK_mid hA hx hB]
   rcases List.mem_append.1 hp with hp | hp
   ·exact List.mem_append_left _ hp
   ·rcases List.mem_cons.1 hp with rfl | hp
    ·exact absurd hx hk
    ·exact List.mem_append_right _ hp
  ·rw [hn] at hh; cases hh
 ·rw [delK_no hh]; exact hp
theorem hasK_setK {l : List S50} (hs : sortK l) {key k2 : ByteArray} (value : ByteArray) (h : k2 ≠ key) : hasK (setK l key value) k2 = hasK l k2 ∧ getK (setK l key value) k2 = getK l k2 := by
 by_cases hh : hasK l k2 = true
 ·obtain ⟨p, hp, rfl⟩ := hasK_in hh
  have h1 := getK_mem hs hp
  have h2 := getK_mem (sortK_set hs key value) (setK_keep hs value hp h)
  exact ⟨h2.2.trans h1.2.symm, h2.1.trans h1.1.symm⟩
 ·have h3 : ¬ hasK (setK l key value) k2 = true := fun e => by
   obtain ⟨p, hp, rfl⟩ := hasK_in e
   rcases mem_setK hp with rfl | hp
   ·exact h rfl
   ·exact hh (getK_mem hs hp).2
  rw [getK_none hh, getK_none h3, Bool.eq_false_iff.2 hh, Bool.eq_false_iff.2 h3]
  exact ⟨rfl, rfl⟩
theorem hasK_delK {l : List S50} (hs : sortK l) {key k2 : ByteArray} (h : k2 ≠ key) : hasK (delK l key) k2 = hasK l k2 ∧ getK (delK l key) k2 = getK l k2 := by
 by_cases hh : hasK l k2 = true
 ·obtain ⟨p, hp, rfl⟩ := hasK_in hh
  have h1 := getK_mem hs hp
  have h2 := getK_mem (sortK_del hs key) (delK_keep hs hp h)
  exact ⟨h2.2.trans h1.2.symm, h2.1.trans h1.1.symm⟩
 ·have h3 : ¬ hasK (delK l key) k2 = true := fun e => by
   obtain ⟨p, hp, rfl⟩ := hasK_in e
   exact hh (getK_mem hs (mem_delK hp)).2
  rw [getK_none hh, getK_none h3, Bool.eq_false_iff.2 hh, Bool.eq_false_iff.2 h3]
  exact ⟨rfl, rfl⟩
theorem hasK_gone {l : List S50} (hs : sortK l) (key : ByteArray) : hasK (delK l key) key = false := by
 by_cases hh : hasK l key = true
 ·obtain ⟨A, B, hA, hB, h⟩ := decK hs key
  rcases h with ⟨_, x, hx, rfl⟩ | ⟨hn, rfl⟩
  ·rw [delK_mid hA hx hB]
   refine hasK_not (fun p hp e => ?_)
   have h := List.pairwise_append.1 hs
   rcases List.mem_append.1 hp with hp | hp
   ·have := hA p hp; rw [e, kLt_irr] at this; cases this
   ·have := List.rel_of_pairwise_cons h.2.1 hp
    rw [hx, e, kLt_irr] at this; cases this
  ·rw [hn] at hh; cases hh
 ·rw [delK_no hh]; exact Bool.eq_false_iff.2 hh
theorem getK_setK {l : List S50} (hs : sortK l) (key value k2 : ByteArray) : getK (setK l key value) k2 = if k2 = key then (value, true) else getK l k2 := by
 by_cases h : k2 = key
 ·rw [if_pos h, h]; exact getK_set hs key value
 ·rw [if_neg h]; exact (hasK_setK hs value h).2
theorem getK_delK {l : List S50} (hs : sortK l) (key k2 : ByteArray) : getK (delK l key) k2 = if k2 = key then ((⟨#[]⟩ : ByteArray), false) else getK l k2 := by
 by_cases h : k2 = key
 ·rw [if_pos h, h]; exact getK_no (hasK_gone hs key)
 ·rw [if_neg h]; exact (hasK_delK hs h).2
theorem sortK_setC {l : List S50} (hs : sortK l) (key value : ByteArray) : sortK (setC l key value) := by
 unfold setC
 split
 ·exact hs
 ·exact sortK_set hs _ _
theorem getK_setC {l : List S50} (hs : sortK l) (key value k2 : ByteArray) : getK (setC l key value) k2 = if k2 = key ∧ ¬ (key.size > 65536 ∨ value.size > 65536) then (value, true) else getK l k2 := by
 unfold setC
 by_cases hb : key.size > 65536 ∨ value.size > 65536
 ·rw [if_pos hb, if_neg (fun e => e.2 hb)]
 ·rw [if_neg hb, getK_setK hs]
  by_cases h : k2 = key
  ·rw [if_pos h, if_pos ⟨h, hb⟩]
  ·rw [if_neg h, if_neg (fun e => h e.1)]
theorem strOf_list (l : List Int) : (strOfNums l).toList = l.map fun n => UInt8.ofNat n.toNat := by rw [ByteArray.toList_eq, strOfNums_data]
def valD (l : List Int) : Nat := l.foldl (fun a d => a * 256 + d.toNat) 0
theorem valD_snoc (l : List Int) (d : Int) : valD (l ++ [d]) = valD l * 256 + d.toNat := by unfold valD; rw [List.foldl_append]; rfl
theorem digB_val : ∀ k n, n < 256 ^ k → valD (digB k n) = n
 | 0, n, h => by
  have : n = 0 := by simpa using h
  subst this; rfl
 | k + 1, n, h => by
  unfold digB
  split
  ·rename_i h0; subst h0; rfl
  ·rw [valD_snoc, digB_val k (n / 256) ap12_, Int.toNat_natCast]; omega
theorem digB_rng : ∀ k n, ∀ d ∈ digB k n, 0 ≤ d ∧ d < 256
 | 0, _, d, h => by simp [digB] at h
 | k + 1, n, d, h => by
  unfold digB at h
  split at h
  ·simp at h
  ·rcases List.mem_append.1 h with h | h
   ·exact digB_rng k _ d h
   ·obtain rfl := List.mem_singleton.1 h
    omega
theorem digB_le : ∀ k n m, n < 256 ^ m → (digB k n).length ≤ m
 | 0, _, _, _ => Nat.zero_le _
 | k + 1, n, m, h => by
  unfold digB
  split
  ·exact Nat.zero_le _
  ·cases m with
   | zero => simp at h; omega
   | succ m =>
    have := digB_le k (n / 256) m ap12_
    rw [List.length_append, List.length_singleton]; omega
theorem digB_0 : ∀ k, digB k 0 = []
 | 0 => rfl
 | k + 1 => by unfold digB; exact if_pos rfl
theorem digB_head : ∀ k n, n < 256 ^ k → n ≠ 0 → ∃ d t, digB k n = d :: t ∧ d ≠ 0
 | 0, n, h, h0 => by simp at h; omega
 | k + 1, n, h, h0 => by
  unfold digB
  rw [if_neg h0]
  by_cases h1 : n / 256 = 0
  ·rw [h1, digB_0]; exact ⟨_, _, rfl, by omega⟩
  ·obtain ⟨d, t, e, hd⟩ := digB_head k (n / 256) ap12_ h1
   rw [e]; exact ⟨d, _, rfl, hd⟩
theorem nBy_val {s : ByteArray} {ds : List Int} (h : ∀ i (hi : i < ds.length), bt s ((i + 1 : Nat) : Int) = ds[i]) : ∀ i, i ≤ ds.length → nBy s i = valD (ds.take i)
 | 0, _ => by rw [List.take_zero]; rfl
 | i + 1, hi => by
  have e : nBy s (i + 1) = nBy s i * 256 + (bt s ((i + 1 : Nat) : Int)).toNat := rfl
  rw [e, nBy_val h i (by omega), h i (by omega), List.take_add_one, List.getElem?_eq_getElem (by omega)]
  exact (valD_snoc _ _).symm
theorem bt_put {a : List Int} {t : ByteArray} (hr : ∀ d ∈ a, 0 ≤ d ∧ d < 256) (i : Nat) (hi : i < a.length) : bt (strOfNums a ++ t) (i : Int) = a[i] := by
 have hl : i < (strOfNums a ++ t).toList.length := by rw [ba_append, strOf_list, List.length_append, List.length_map]; omega
 rw [bt_get _ i hl]
 have e : (strOfNums a ++ t).toList[i] = UInt8.ofNat (a[i]).toNat := by
  simp only [ba_append, strOf_list]
  rw [List.getElem_append_left (by rw [List.length_map]; exact hi), List.getElem_map]
 rw [e]
 have := hr _ (List.getElem_mem hi)
 rw [UInt8.toNat_ofNat']
 omega
theorem numB_one (n : Nat) : numB n = strOfNums (((digB 8 n).length : Int) :: digB 8 n) := by
 unfold numB
 apply ba_ext
 rw [ba_append, strOf_list, strOf_list, strOf_list]; rfl
theorem numW_numB (n : Nat) (h : n ≤ 9007199254740992) (t : ByteArray) : numW (numB n ++ t) = ((n : Int), ((digB 8 n).length : Int) + 1, 0) := by
 have h7 : (digB 8 n).length ≤ 7 := digB_le 8 n 7 (by omega)
 have hr : ∀ d ∈ (((digB 8 n).length : Int) :: digB 8 n), 0 ≤ d ∧ d < 256 := fun d hd => by
  rcases List.mem_cons.1 hd with rfl | hd
  ·omega
  ·exact digB_rng _ _ d hd
 have hv := digB_val 8 n (by omega)
 have hh := digB_head 8 n (by omega)
 have h0 := digB_0 8
 rw [numB_one]
 generalize hD : digB 8 n = D at h7 hr hv hh
 have b0 : bt (strOfNums ((D.length : Int) :: D) ++ t) 0 = (D.length : Int) := bt_put hr 0 (by simp)
 have hb : ∀ i (hi : i < D.length), bt (strOfNums ((D.length : Int) :: D) ++ t) ((i + 1 : Nat) : Int) = D[i] := fun i hi => bt_put hr (i + 1) (by simpa using hi)
 have hn : nBy (strOfNums ((D.length : Int) :: D) ++ t) D.length = n := by rw [nBy_val hb D.length (Nat.le_refl _), List.take_length, hv]
 have hs : (strOfNums ((D.length : Int) :: D) ++ t).size = D.length + 1 + t.size := by rw [ByteArray.size_append, strOfNums_sz, List.length_cons]
 unfold numW wire_number.f
 rw [if_neg (by omega), b0, if_neg (by
  rintro (e | ⟨e1, e2, e3⟩)
  ·omega
  ·by_cases hz : n = 0
   ·rw [hz, h0] at hD; subst hD; simp at e1
   ·obtain ⟨d, u, e, hd⟩ := hh hz
    have := hb 0 (by omega)
    subst e
    exact hd (this.symm.trans e3)), if_neg (by omega), Int.toNat_natCast, hn, if_neg (by omega)]
 rfl
theorem rNum_numB (n : Nat) (h : n ≤ 9007199254740992) (t : ByteArray) : rNum (numB n ++ t) 0 = ((n : Int), t, 0) := by
 unfold rNum
 rw [numW_numB n h t, if_pos rfl]
 dsimp only
 rw [if_pos rfl]
 congr 2
 apply ba_ext
 rw [ba_extract, ba_size (numB n ++ t), List.take_length, ba_append]
 have hl : (numB n).toList.length = (((digB 8 n).length : Int) + 1).toNat := by rw [← ba_size, numB_one, strOfNums_sz, List.length_cons]; omega
 rw [← hl, List.drop_left]
theorem rNum_numB0 (n : Nat) (h : n ≤ 9007199254740992) : rNum (numB n) 0 = ((n : Int), (⟨#[]⟩ : ByteArray), 0) := by
 have := rNum_numB n h (⟨#[]⟩ : ByteArray)
 rw [show numB n ++ (⟨#[]⟩ : ByteArray) = numB n from ba_ext (by rw [ba_append]; simp [ByteArray.toList_eq])] at this
 exact this
theorem keyB_ne {a b : ByteArray} {l m : List ByteArray} {c d : UInt8} {t u : List UInt8} (ha : a.toList = c :: t) (hb : b.toList = d :: u) (h1 : c ≠ 37) (h2 : c ≠ 47) (h3 : d ≠ 37) (h4 : d ≠ 47) (h : c ≠ d) : keyB a l ≠ keyB b m := fun e => by
 have x := key_head a l c t ha h1 h2
 rw [e, key_head b m d u hb h3 h4] at x
 exact h (Option.some.inj x).symm
theorem hidL_inj : ∀ a b : List UInt8, hidL a = hidL b → a = b
 | [], [], _ => rfl
 | [], y :: b, h => by
  rw [hidL_cons] at h
  split at h
  ·cases h
  ·split at h <;> cases h
 | x :: a, [], h => by
  rw [hidL_cons] at h
  split at h
  ·cases h
  ·split at h <;> cases h
 | x :: a, y :: b, h => by
  rw [hidL_cons, hidL_cons] at h
  by_cases x1 : x = 37
  ·rw [if_pos x1] at h
   by_cases y1 : y = 37
   ·rw [if_pos y1] at h
    rw [x1, y1, hidL_inj a b (by simpa using h)]
   ·rw [if_neg y1] at h
    by_cases y2 : y = 47
    ·rw [if_pos y2] at h; simp at h
    ·rw [if_neg y2] at h; simp only [List.cons_append, List.nil_append, List.cons.injEq] at h; exact absurd h.1.symm y1
  ·rw [if_neg x1] at h
   by_cases x2 : x = 47
   ·rw [if_pos x2] at h
    by_cases y1 : y = 37
    ·rw [if_pos y1] at h; simp at h
    ·rw [if_neg y1] at h
     by_cases y2 : y = 47
     ·rw [if_pos y2] at h
      rw [x2, y2, hidL_inj a b (by simpa using h)]
     ·rw [if_neg y2] at h; simp only [List.cons_append, List.nil_append, List.cons.injEq] at h; exact absurd h.1.symm y1
   ·rw [if_neg x2] at h
    by_cases y1 : y = 37
    ·rw [if_pos y1] at h; simp only [List.cons_append, List.nil_append, List.cons.injEq] at h; exact absurd h.1 x1
    ·rw [if_neg y1] at h
     by_cases y2 : y = 47
     ·rw [if_pos y2] at h; simp only [List.cons_append, List.nil_append, List.cons.injEq] at h; exact absurd h.1 x1
     ·rw [if_neg y2] at h
      simp only [List.cons_append, List.nil_append, List.cons.injEq] at h
      rw [h.1, hidL_inj a b h.2]
theorem ofL_inj {a b : List UInt8} (h : ofL a = ofL b) : a = b := by
 have h2 := congrArg ByteArray.toList h
 rwa [ofL_toList, ofL_toList] at h2
def HeldC (g : Nat) (cs : Array Value) (t : TypeId) (w : World) : Prop := w.heap[g]? = some (.cells cs t (0, 0))
theorem HeldC.of {g : Nat} {cs : Array Value} {t : TypeId} {w : World} (h : w.heap[g]? = some (.cells cs t (0, 0))) : HeldC g cs t w := h
theorem HeldC.blk {g : Nat} {cs : Array Value} {t : TypeId} {w : World} (h : HeldC g cs t w) : w.heap[g]? = some (.cells cs t (0, 0)) := h
theorem at_world {g : Nat} {cs : Array Value} {t : TypeId} {w : World} (_ : HeldC g cs t w) {F : World → Prop} (h : F w) : Aside0 (F w) := As_ h
theorem cellsN2 {w : World} {g : Nat} {a0 a1 : Value} {t : TypeId} (h : w.heap[g]? = some (.cells #[a0, a1] t (0, 0))) : w.cell? ⟨g, 0, none⟩ = some a0 ∧ w.frozen? ⟨g, 0, none⟩ = false ∧ w.cell? ⟨g, 1, none⟩ = some a1 ∧ w.frozen? ⟨g, 1, none⟩ = false :=
 ⟨(blk_cell h 0).trans rfl, blk_frozen h 0, (blk_cell h 1).trans rfl, blk_frozen h 1⟩
theorem blk_fin {w : World} {g : Nat} {c c' : Array Value} {q : TypeId} (h : w.heap[g]? = some (.cells c q (0, 0))) (e : c = c') : w.heap[g]? = some (.cells c' q (0, 0)) := e ▸ h
theorem blk_put_ {w : World} {g : Nat} {q : TypeId} {cs : Array Value} {k : Nat} {v : Value} (h : w.heap[g]? = some (.cells cs q (0, 0))) : (w.setCell ⟨g, k, none⟩ v).heap[g]? = some (.cells (cs.setIfInBounds k v) q (0, 0)) := blk_put h k v rfl
theorem blk_far_ {w : World} {g b k : Nat} {t : TypeId} {cs : Array Value} {u : Value} (hp : g ≠ b) (h : w.heap[g]? = some (.cells cs t (0, 0))) : (w.setCell ⟨b, k, none⟩ u).heap[g]? = some (.cells cs t (0, 0)) := blk_far h hp u
theorem bkR_a {p : Prop} (h : p := by repeat (with_reducible first | exact BKa.out | apply blk_drewN | apply blk_drew | apply blk_alloc | apply blk_put_ | apply blk_far_ NBa_c.out | apply blk_far_ NBa_d.out | apply blk_far_ NBa_h.out | apply blk_far_ NBa_j.out | apply blk_far_ NBa_m.out | apply blk_far_ NBa_n.out | apply blk_far_ NBa_q.out | apply blk_far_ NBa_t.out | apply blk_far_ NBa_x.out | apply blk_far_ NBa_y.out | apply blk_far_ NBa_z.out | apply blk_far_ NBa_s.out | apply blk_far_ NBa_p.out | apply blk_far_ NBa_b.out | apply blk_far_ NBa_e.out)) : p := h
theorem bkR_c {p : Prop} (h : p := by repeat (with_reducible first | exact BKc.out | apply blk_drewN | apply blk_drew | apply blk_alloc | apply blk_put_ | apply blk_far_ NBc_a.out | apply blk_far_ NBc_d.out | apply blk_far_ NBc_h.out | apply blk_far_ NBc_j.out | apply blk_far_ NBc_m.out | apply blk_far_ NBc_n.out | apply blk_far_ NBc_q.out | apply blk_far_ NBc_t.out | apply blk_far_ NBc_x.out | apply blk_far_ NBc_y.out | apply blk_far_ NBc_z.out | apply blk_far_ NBc_s.out | apply blk_far_ NBc_p.out | apply blk_far_ NBc_b.out | apply blk_far_ NBc_e.out)) : p := h
theorem bkR_d {p : Prop} (h : p := by repeat (with_reducible first | exact BKd.out | apply blk_drewN | apply blk_drew | apply blk_alloc | apply blk_put_ | apply blk_far_ NBd_a.out | apply blk_far_ NBd_c.out | apply blk_far_ NBd_h.out | apply blk_far_ NBd_j.out | apply blk_far_ NBd_m.out | apply blk_far_ NBd_n.out | apply blk_far_ NBd_q.out | apply blk_far_ NBd_t.out | apply blk_far_ NBd_x.out | apply blk_far_ NBd_y.out | apply blk_far_ NBd_z.out | apply blk_far_ NBd_s.out | apply blk_far_ NBd_p.out | apply blk_far_ NBd_b.out | apply blk_far_ NBd_e.out)) : p := h
theorem bkR_h {p : Prop} (h : p := by repeat (with_reducible first | exact BKh.out | apply blk_drewN | apply blk_drew | apply blk_alloc | apply blk_put_ | apply blk_far_ NBh_a.out | apply blk_far_ NBh_c.out | apply blk_far_ NBh_d.out | apply blk_far_ NBh_j.out | apply blk_far_ NBh_m.out | apply blk_far_ NBh_n.out | apply blk_far_ NBh_q.out | apply blk_far_ NBh_t.out | apply blk_far_ NBh_x.out | apply blk_far_ NBh_y.out | apply blk_far_ NBh_z.out | apply blk_far_ NBh_s.out | apply blk_far_ NBh_p.out | apply blk_far_ NBh_b.out | apply blk_far_ NBh_e.out)) : p := h
theorem bkR_j {p : Prop} (h : p := by repeat (with_reducible first | exact BKj.out | apply blk_drewN | apply blk_drew | apply blk_alloc | apply blk_put_ | apply blk_far_ NBj_a.out | apply blk_far_ NBj_c.out | apply blk_far_ NBj_d.out | apply blk_far_ NBj_h.out | apply blk_far_ NBj_m.out | apply blk_far_ NBj_n.out | apply blk_far_ NBj_q.out | apply blk_far_ NBj_t.out | apply blk_far_ NBj_x.out | apply blk_far_ NBj_y.out | apply blk_far_ NBj_z.out | apply blk_far_ NBj_s.out | apply blk_far_ NBj_p.out | apply blk_far_ NBj_b.out | apply blk_far_ NBj_e.out)) : p := h
theorem bkR_m {p : Prop} (h : p := by repeat (with_reducible first | exact BKm.out | apply blk_drewN | apply blk_drew | apply blk_alloc | apply blk_put_ | apply blk_far_ NBm_a.out | apply blk_far_ NBm_c.out | apply blk_far_ NBm_d.out | apply blk_far_ NBm_h.out | apply blk_far_ NBm_j.out | apply blk_far_ NBm_n.out | apply blk_far_ NBm_q.out | apply blk_far_ NBm_t.out | apply blk_far_ NBm_x.out | apply blk_far_ NBm_y.out | apply blk_far_ NBm_z.out | apply blk_far_ NBm_s.out | apply blk_far_ NBm_p.out | apply blk_far_ NBm_b.out | apply blk_far_ NBm_e.out)) : p := h
theorem bkR_n {p : Prop} (h : p := by repeat (with_reducible first | exact BKn.out | apply blk_drewN | apply blk_drew | apply blk_alloc | apply blk_put_ | apply blk_far_ NBn_a.out | apply blk_far_ NBn_c.out | apply blk_far_ NBn_d.out | apply blk_far_ NBn_h.out | apply blk_far_ NBn_j.out | apply blk_far_ NBn_m.out | apply blk_far_ NBn_q.out | apply blk_far_ NBn_t.out | apply blk_far_ NBn_x.out | apply blk_far_ NBn_y.out | apply blk_far_ NBn_z.out | apply blk_far_ NBn_s.out | apply blk_far_ NBn_p.out | apply blk_far_ NBn_b.out | apply blk_far_ NBn_e.out)) : p := h
theorem bkG_n {p : Prop} (h : p := by first | (with_reducible exact BKn.out) | exact blk_fin bkR_n (by rfl) | exact BKn.out) : p := h
theorem bkR_q {p : Prop} (h : p := by repeat (with_reducible first | exact BKq.out | apply blk_drewN | apply blk_drew | apply blk_alloc | apply blk_put_ | apply blk_far_ NBq_a.out | apply blk_far_ NBq_c.out | apply blk_far_ NBq_d.out | apply blk_far_ NBq_h.out | apply blk_far_ NBq_j.out | apply blk_far_ NBq_m.out | apply blk_far_ NBq_n.out | apply blk_far_ NBq_t.out | apply blk_far_ NBq_x.out | apply blk_far_ NBq_y.out | apply blk_far_ NBq_z.out | apply blk_far_ NBq_s.out | apply blk_far_ NBq_p.out | apply blk_far_ NBq_b.out | apply blk_far_ NBq_e.out)) : p := h
theorem bkG_q {p : Prop} (h : p := by first | (with_reducible exact BKq.out) | exact blk_fin bkR_q (by rfl) | exact BKq.out) : p := h
theorem bkR_t {p : Prop} (h : p := by repeat (with_reducible first | exact BKt.out | apply blk_drewN | apply blk_drew | apply blk_alloc | apply blk_put_ | apply blk_far_ NBt_a.out | apply blk_far_ NBt_c.out | apply blk_far_ NBt_d.out | apply blk_far_ NBt_h.out | apply blk_far_ NBt_j.out | apply blk_far_ NBt_m.out | apply blk_far_ NBt_n.out | apply blk_far_ NBt_q.out | apply blk_far_ NBt_x.out | apply blk_far_ NBt_y.out | apply blk_far_ NBt_z.out | apply blk_far_ NBt_s.out | apply blk_far_ NBt_p.out | apply blk_far_ NBt_b.out | apply blk_far_ NBt_e.out)) : p := h
theorem bkG_t {p : Prop} (h : p := by first | (with_reducible exact BKt.out) | exact blk_fin bkR_t (by rfl) | exact BKt.out) : p := h
theorem bkR_x {p : Prop} (h : p := by repeat (with_reducible first | exact BKx.out | apply blk_drewN | apply blk_drew | apply blk_alloc | apply blk_put_ | apply blk_far_ NBx_a.out | apply blk_far_ NBx_c.out | apply blk_far_ NBx_d.out | apply blk_far_ NBx_h.out | apply blk_far_ NBx_j.out | apply blk_far_ NBx_m.out | apply blk_far_ NBx_n.out | apply blk_far_ NBx_q.out | apply blk_far_ NBx_t.out | apply blk_far_ NBx_y.out | apply blk_far_ NBx_z.out | apply blk_far_ NBx_s.out | apply blk_far_ NBx_p.out | apply blk_far_ NBx_b.out | apply blk_far_ NBx_e.out)) : p := h
theorem bkR_y {p : Prop} (h : p := by repeat (with_reducible first | exact BKy.out | apply blk_drewN | apply blk_drew | apply blk_alloc | apply blk_put_ | apply blk_far_ NBy_a.out | apply blk_far_ NBy_c.out | apply blk_far_ NBy_d.out | apply blk_far_ NBy_h.out | apply blk_far_ NBy_j.out | apply blk_far_ NBy_m.out | apply blk_far_ NBy_n.out | apply blk_far_ NBy_q.out | apply blk_far_ NBy_t.out | apply blk_far_ NBy_x.out | apply blk_far_ NBy_z.out | apply blk_far_ NBy_s.out | apply blk_far_ NBy_p.out | apply blk_far_ NBy_b.out | apply blk_far_ NBy_e.out)) : p := h
theorem bkR_z {p : Prop} (h : p := by repeat (with_reducible first | exact BKz.out | apply blk_drewN | apply blk_drew | apply blk_alloc | apply blk_put_ | apply blk_far_ NBz_a.out | apply blk_far_ NBz_c.out | apply blk_far_ NBz_d.out | apply blk_far_ NBz_h.out | apply blk_far_ NBz_j.out | apply blk_far_ NBz_m.out | apply blk_far_ NBz_n.out | apply blk_far_ NBz_q.out | apply blk_far_ NBz_t.out | apply blk_far_ NBz_x.out | apply blk_far_ NBz_y.out | apply blk_far_ NBz_s.out | apply blk_far_ NBz_p.out | apply blk_far_ NBz_b.out | apply blk_far_ NBz_e.out)) : p := h
theorem bkR_s {p : Prop} (h : p := by repeat (with_reducible first | exact BKs.out | apply blk_drewN | apply blk_drew | apply blk_alloc | apply blk_put_ | apply blk_far_ NBs_a.out | apply blk_far_ NBs_c.out | apply blk_far_ NBs_d.out | apply blk_far_ NBs_h.out | apply blk_far_ NBs_j.out | apply blk_far_ NBs_m.out | apply blk_far_ NBs_n.out | apply blk_far_ NBs_q.out | apply blk_far_ NBs_t.out | apply blk_far_ NBs_x.out | apply blk_far_ NBs_y.out | apply blk_far_ NBs_z.out | apply blk_far_ NBs_p.out | apply blk_far_ NBs_b.out | apply blk_far_ NBs_e.out)) : p := h
theorem bkG_s {p : Prop} (h : p := by first | (with_reducible exact BKs.out) | exact blk_fin bkR_s (by rfl) | exact BKs.out) : p := h
theorem bkR_p {p : Prop} (h : p := by repeat (with_reducible first | exact BKp.out | apply blk_drewN | apply blk_drew | apply blk_alloc | apply blk_put_ | apply blk_far_ NBp_a.out | apply blk_far_ NBp_c.out | apply blk_far_ NBp_d.out | apply blk_far_ NBp_h.out | apply blk_far_ NBp_j.out | apply blk_far_ NBp_m.out | apply blk_far_ NBp_n.out | apply blk_far_ NBp_q.out | apply blk_far_ NBp_t.out | apply blk_far_ NBp_x.out | apply blk_far_ NBp_y.out | apply blk_far_ NBp_z.out | apply blk_far_ NBp_s.out | apply blk_far_ NBp_b.out | apply blk_far_ NBp_e.out)) : p := h
theorem bkR_b {p : Prop} (h : p := by repeat (with_reducible first | exact BKb.out | apply blk_drewN | apply blk_drew | apply blk_alloc | apply blk_put_ | apply blk_far_ NBb_a.out | apply blk_far_ NBb_c.out | apply blk_far_ NBb_d.out | apply blk_far_ NBb_h.out | apply blk_far_ NBb_j.out | apply blk_far_ NBb_m.out | apply blk_far_ NBb_n.out | apply blk_far_ NBb_q.out | apply blk_far_ NBb_t.out | apply blk_far_ NBb_x.out | apply blk_far_ NBb_y.out | apply blk_far_ NBb_z.out | apply blk_far_ NBb_s.out | apply blk_far_ NBb_p.out | apply blk_far_ NBb_e.out)) : p := h
theorem bkR_e {p : Prop} (h : p := by repeat (with_reducible first | exact BKe.out | apply blk_drewN | apply blk_drew | apply blk_alloc | apply blk_put_ | apply blk_far_ NBe_a.out | apply blk_far_ NBe_c.out | apply blk_far_ NBe_d.out | apply blk_far_ NBe_h.out | apply blk_far_ NBe_j.out | apply blk_far_ NBe_m.out | apply blk_far_ NBe_n.out | apply blk_far_ NBe_q.out | apply blk_far_ NBe_t.out | apply blk_far_ NBe_x.out | apply blk_far_ NBe_y.out | apply blk_far_ NBe_z.out | apply blk_far_ NBe_s.out | apply blk_far_ NBe_p.out | apply blk_far_ NBe_b.out)) : p := h
theorem jsG {p : Prop} (h : p := by (repeat (with_reducible first | exact HJ.out | apply JS.drewN | apply JS.drew | apply JS.alloc | refine JS.setb ?_ GJa.out bkR_a _ (by decide) | refine JS.setb ?_ GJc.out bkR_c _ (by decide) | refine JS.setb ?_ GJd.out bkR_d _ (by decide) | refine JS.setb ?_ GJh.out bkR_h _ (by decide) | refine JS.setb ?_ GJj.out bkR_j _ (by decide) | refine JS.setb ?_ GJm.out bkR_m _ (by decide) | refine JS.setb ?_ GJn.out bkR_n _ (by decide) | refine JS.setb ?_ GJq.out bkR_q _ (by decide) | refine JS.setb ?_ GJt.out bkR_t _ (by decide) | refine JS.setb ?_ GJx.out bkR_x _ (by decide) | refine JS.setb ?_ GJy.out bkR_y _ (by decide) | refine JS.setb ?_ GJz.out bkR_z _ (by decide) | refine JS.setb ?_ GJs.out bkR_s _ (by decide) | refine JS.setb ?_ GJp.out bkR_p _ (by decide) | refine JS.setb ?_ GJb.out bkR_b _ (by decide) | refine JS.setb ?_ GJe.out bkR_e _ (by decide))); first | done | exact HJ.out) : p := h
theorem jkG {p : Prop} (h : p := by (repeat (with_reducible first | exact HK.out | apply JK.drewN | apply JK.drew | apply JK.alloc | refine JK.setb ?_ GKa.out _ | refine JK.setb ?_ GKc.out _ | refine JK.setb ?_ GKd.out _ | refine JK.setb ?_ GKh.out _ | refine JK.setb ?_ GKj.out _ | refine JK.setb ?_ GKm.out _ | refine JK.setb ?_ GKn.out _ | refine JK.setb ?_ GKq.out _ | refine JK.setb ?_ GKt.out _ | refine JK.setb ?_ GKx.out _ | refine JK.setb ?_ GKy.out _ | refine JK.setb ?_ GKz.out _ | refine JK.setb ?_ GKs.out _ | refine JK.setb ?_ GKp.out _ | refine JK.setb ?_ GKb.out _ | refine JK.setb ?_ GKe.out _)); first | done | exact HK.out) : p := h
theorem blwG {p : Prop} (h : p := by (repeat (with_reducible first | exact HB.out | apply below_alloc | apply pw_below_drewN | apply below_drew1 | refine below_set ?_ GEa.out | refine below_set ?_ GEc.out | refine below_set ?_ GEd.out | refine below_set ?_ GEh.out | refine below_set ?_ GEj.out | refine below_set ?_ GEm.out | refine below_set ?_ GEn.out | refine below_set ?_ GEq.out | refine below_set ?_ GEt.out | refine below_set ?_ GEx.out | refine below_set ?_ GEy.out | refine below_set ?_ GEz.out | refine below_set ?_ GEs.out | refine below_set ?_ GEp.out | refine below_set ?_ GEb.out | refine below_set ?_ GEe.out)); first | done | exact HB.out) : p := h
theorem rdG_r {p : Prop} (h : p := by (repeat (with_reducible first | exact HIr.out | apply IsS83.drewN | apply IsS83.drew | apply IsS83.alloc | refine IsS83.far ?_ NRr_a.out _ | refine IsS83.far ?_ NRr_c.out _ | refine IsS83.far ?_ NRr_d.out _ | refine IsS83.far ?_ NRr_h.out _ | refine IsS83.far ?_ NRr_j.out _ | refine IsS83.far ?_ NRr_m.out _ | refine IsS83.far ?_ NRr_n.out _ | refine IsS83.far ?_ NRr_q.out _ | refine IsS83.far ?_ NRr_t.out _ | refine IsS83.far ?_ NRr_x.out _ | refine IsS83.far ?_ NRr_y.out _ | refine IsS83.far ?_ NRr_z.out _ | refine IsS83.far ?_ NRr_s.out _ | refine IsS83.far ?_ NRr_p.out _ | refine IsS83.far ?_ NRr_b.out _ | refine IsS83.far ?_ NRr_e.out _)); first | done | exact HIr.out) : p := h
end Go.Proofs.YtgapkicplhbidaaDoor.PQuh
