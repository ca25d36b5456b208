/- A part of the walk of TokenPlays. No condition. -/
import Derived.Test.YtjappgjpikbdeaaGreatDoorPTkpx0
import Derived.Test.YtjappgjpikbdeaaGreatDoorPTkpx1
namespace Go.Proofs.YtjappgjpikbdeaaGreatDoor.PTkp
set_option maxRecDepth 100000
set_option maxHeartbeats 8000000
open Go.RowKit Go.Proofs.YtjappgjpikbdeaaGreatDoorW.PrintWords Go.Proofs.YtjappgjpikbdeaaGreatDoorW.PrintLast Go.Proofs.YtjappgjpikbdeaaGreatDoorW.PrintMore
attribute [local go_sem] max2_int min2_int max_two min_two max_three min_three max_four min_four   -- for this text's walks alone
set_option linter.unusedVariables false
set_option linter.unusedSimpArgs false
def nBy (s : ByteArray) : Nat → Nat
 | 0 => 0
 | i + 1 => nBy s i * 256 + (bt s ((i + 1 : Nat) : Int)).toNat
theorem nBy_lt (s : ByteArray) (i : Nat) (h : i ≤ 6) : nBy s i < 281474976710656 := by
 have key : ∀ i, i ≤ 6 → nBy s i < 256 ^ i := by
  intro i
  induction i with
  | zero => intro _; exact Nat.one_pos
  | succ i ih =>
   intro hi
   have h1 := ih (by omega)
   have h2 := (bt_range s ((i + 1 : Nat) : Int)).2
   have h3 : nBy s (i + 1) = nBy s i * 256 + (bt s ((i + 1 : Nat) : Int)).toNat := rfl
   rw [h3, Nat.pow_succ]
   omega
 exact Nat.lt_of_lt_of_le (key i h) (Nat.le_trans (Nat.pow_le_pow_right (by decide) h) (by decide))
theorem or_i64 (n b : Nat) (hn : n < 281474976710656) (hb : b < 256) : bits .or .i64 ((n : Int) * 256) (b : Int) = ((n * 256 + b : Nat) : Int) := by
 have e : n * 256 + b = n * 256 ||| b := by
  have := Nat.shiftLeft_add_eq_or_of_lt (b := b) (i := 8) (by simpa using hb) n
  rw [Nat.shiftLeft_eq] at this
  simpa using this
 have hx : n * 256 ||| b < 9223372036854775808 := by rw [← e]; omega
 have hc : ((n : Int) * 256) = ((n * 256 : Nat) : Int) := by omega
 rw [e, hc]
 show IntKind.i64.wrap ((BitVec.ofInt 64 ((n * 256 : Nat) : Int) ||| BitVec.ofInt 64 (b : Int)).toNat : Int) = _
 rw [BitVec.toNat_or, ofInt_u64 (n * 256) (by omega), ofInt_u64 b (by omega), i64_w]
 unfold wrap64
 omega
def wire_number.f (a0 : ByteArray) : Option (Int × Int × Int) :=
 if a0.size = 0 then some (0, 0, 5)
 else if 7 < bt a0 0 ∨ (0 < bt a0 0 ∧ 1 < a0.size ∧ bt a0 1 = 0) then some (0, 0, 6)
 else if (a0.size : Int) ≤ bt a0 0 then some (0, 0, 5)
 else if 9007199254740992 < nBy a0 (bt a0 0).toNat then some (0, 0, 3)
 else some ((nBy a0 (bt a0 0).toNat : Int), bt a0 0 + 1, 0)
theorem wire_number.calls (a0 : ByteArray) (r1 r2 r3 : Int) (w : World) (h : wire_number.f a0 = some (r1, r2, r3)) :
  Calls Tryz.prog 77 #[.string a0] w fun e w' => e = .returned (.tuple #[.int .i64 r1, .int .i64 r2, .int .i64 r3]) ∧ Drawn0 w w' := by
 unfold wire_number.f at h
 have HD := As_ (Drawn0.refl w)
 by_cases h0 : a0.size = 0
 ·rw [if_pos h0] at h
  simp only [Option.some.injEq, Prod.mk.injEq] at h
  obtain ⟨rfl, rfl, rfl⟩ := h
  have hE : a0 = ⟨#[]⟩ := ByteArray.size_eq_zero_iff.1 h0
  subst hE
  go_enter Tryz.func77, Tryz.ntmps77
  go_wp2
  go_step3
  go_wp2
  rw [Exit.noGoto_ret]
  go_ret3
  exact ⟨rfl, HD.out⟩
 rw [if_neg h0] at h
 have hne : a0.toList.isEmpty = false := by
  rw [List.isEmpty_eq_false_iff]
  intro e
  have h9 := congrArg List.length e
  rw [ByteArray.toList_eq] at h9
  exact h0 h9
 have hpos : 0 < a0.size := by omega
 obtain ⟨kk, hkk⟩ : ∃ kk : Nat, (a0[0]'hpos).toNat = kk := ⟨_, rfl⟩
 have hbk : bt a0 0 = (kk : Int) := by rw [← bt_at a0 0 hpos]; exact congrArg _ hkk
 have hk255 : kk ≤ 255 := by have := (bt_range a0 0).2; omega
 have hwk : IntKind.i64.wrap (kk : Int) = (kk : Int) := by rw [i64_w]; unfold wrap64; omega
 rw [hbk] at h
 by_cases h7 : 7 < kk
 ·rw [if_pos (.inl (by omega))] at h
  simp only [Option.some.injEq, Prod.mk.injEq] at h
  obtain ⟨rfl, rfl, rfl⟩ := h
  go_enter Tryz.func77, Tryz.ntmps77
  go_wp2
  go_step3
  go_wp2
  rw [Exit.noGoto_ret]
  go_ret3
  exact ⟨rfl, HD.out⟩
 by_cases hB : 0 < kk ∧ 1 < a0.size ∧ bt a0 1 = 0
 ·rw [if_pos (.inr (by omega))] at h
  simp only [Option.some.injEq, Prod.mk.injEq] at h
  obtain ⟨rfl, rfl, rfl⟩ := h
  obtain ⟨hB1, hB2, hB3⟩ := hB
  have h1z : (a0[1]'hB2).toNat = 0 := by
   have := bt_at a0 1 hB2
   rw [hB3] at this
   exact Int.ofNat.inj this
  go_enter Tryz.func77, Tryz.ntmps77
  go_wp2
  go_step3
  go_wp2
  rw [Exit.noGoto_ret]
  go_ret3
  exact ⟨rfl, HD.out⟩
 rw [if_neg (by omega)] at h
 have hB' : kk = 0 ∨ a0.size = 1 ∨ ∃ h : 1 < a0.size, ¬ (a0[1]'h).toNat = 0 := by
  by_cases k0 : kk = 0
  ·exact .inl k0
  ·by_cases k1 : a0.size = 1
   ·exact .inr (.inl k1)
   ·refine .inr (.inr ⟨by omega, fun e => hB ⟨by omega, by omega, ?_⟩⟩)
    rw [← bt_at a0 1 (by show 1 < a0.size; omega)]
    exact congrArg (fun n : Nat => (n : Int)) e
 by_cases hC : a0.size ≤ kk
 ·rw [if_pos (by omega)] at h
  simp only [Option.some.injEq, Prod.mk.injEq] at h
  obtain ⟨rfl, rfl, rfl⟩ := h
  rcases hB' with hB' | hB' | ⟨hB2, hB'⟩
  ·omega
  all_goals
   go_enter Tryz.func77, Tryz.ntmps77
   go_wp2
   go_step3
   go_wp2
   all_goals first | (exfalso; omega) | (rw [Exit.noGoto_ret]; go_ret3; exact ⟨rfl, HD.out⟩)
 rw [if_neg (by omega)] at h
 go_enter Tryz.func77, Tryz.ntmps77
 go_wp2
 refine wp_scope_jumps 0 (fun a' w' => w' = w ∧ ∃ (i : Nat) (u8 u9 u10 u11 u12 u13 u14 u15 u16 u17 u18 u19 u20 u21 u22 u23 u24 u25 u26 u27 u28 u29 u30 u31 u32 u33 u34 u35 u36 u37 u38 u39 u40 u41 u42 u43 u44 u45 u46 u47 u48 : Value), a' = { tmps := #[.string a0, undef, .int .i64 0, .int .i64 0, .int .i64 0, .int .i64 kk, .int .i64 (nBy a0 i : Int), .int .i64 ((i : Int) + 1), u8, u9, u10, u11, u12, u13, u14, u15, u16, u17, u18, u19, u20, u21, u22, u23, u24, u25, u26, u27, u28, u29, u30, u31, u32, u33, u34, u35, u36, u37, u38, u39, u40, u41, u42, u43, u44, u45, u46, u47, u48], defers := [] } ∧ i ≤ kk) (fun a' _ => kk + 1 - (intOf (a'.tmps.getD 7 undef)).toNat) rfl ?_ ?_
 ·by_cases k0 : kk = 0
  ·subst k0
   have hn0 : nBy a0 ((0 : Nat) : Int).toNat = 0 := rfl
   rw [hn0, if_neg (by decide)] at h
   simp only [Option.some.injEq, Prod.mk.injEq] at h
   obtain ⟨rfl, rfl, rfl⟩ := h
   go_wp2
   go_step3
   go_wp2
   simp only [Exit.jump]
   go_ret3
   exact ⟨rfl, HD.out⟩
  ·have hi1 : 1 < a0.size := by omega
   have hnz : ¬ (a0[1]'hi1).toNat = 0 := by rcases hB' with hB' | hB' | ⟨hB2, hB'⟩ <;> first | omega | exact hB'
   obtain ⟨bb, hbb⟩ : ∃ bb : Nat, (a0[1]'hi1).toNat = bb := ⟨_, rfl⟩
   rw [hbb] at hnz
   have hbb2 : bb < 256 := by have := (a0[1]'hi1).toNat_lt; omega
   have hn1 : nBy a0 1 = bb := by
    have e1 : nBy a0 1 = 0 * 256 + (bt a0 ((0 + 1 : Nat) : Int)).toNat := rfl
    rw [e1, ← bt_at a0 ((0 + 1 : Nat) : Int) hi1]
    show 0 * 256 + ((((a0[1]'hi1).toNat : Nat) : Int)).toNat = bb
    rw [hbb]; omega
   have hor : bits .or .i64 0 (bb : Int) = (nBy a0 1 : Int) := by
    have := or_i64 0 bb (by decide) hbb2
    rw [hn1]
    simpa using this
   have hwb : IntKind.i64.wrap (bb : Int) = (bb : Int) := by rw [i64_w]; unfold wrap64; omega
   have hkpos : 0 < kk := by omega
   clear hB' hB hn1
   go_wp2
   go_step3
   go_wp2
   go_step3
   exact ⟨rfl, rfl, 1, _, _, _, _, _, _, _, _, _, _, _, _, _, _, _, _, _, _, _, _, _, _, _, _, _, _, _, _, _, _, _, _, _, _, _, _, _, _, _, _, _, rfl, by omega⟩
 ·rintro a' w' ⟨rfl, i, u8, u9, u10, u11, u12, u13, u14, u15, u16, u17, u18, u19, u20, u21, u22, u23, u24, u25, u26, u27, u28, u29, u30, u31, u32, u33, u34, u35, u36, u37, u38, u39, u40, u41, u42, u43, u44, u45, u46, u47, u48, rfl, hik⟩
  clear hB' hB
  by_cases hlt : i < kk
  ·have hi1 : i + 1 < a0.size := by omega
   obtain ⟨bb, hbb⟩ : ∃ bb : Nat, (a0[i + 1]'hi1).toNat = bb := ⟨_, rfl⟩
   have hbb2 : bb < 256 := by have := (a0[i + 1]'hi1).toNat_lt; omega
   have hnb := nBy_lt a0 i (by omega)
   have hn1 : nBy a0 (i + 1) = nBy a0 i * 256 + bb := by
    have e1 : nBy a0 (i + 1) = nBy a0 i * 256 + (bt a0 ((i + 1 : Nat) : Int)).toNat := rfl
    rw [e1, ← bt_at a0 ((i + 1 : Nat) : Int) hi1]
    show nBy a0 i * 256 + ((((a0[i + 1]'hi1).toNat : Nat) : Int)).toNat = _
    rw [hbb]; omega
   have hor : bits .or .i64 ((nBy a0 i : Int) * 256) (bb : Int) = (nBy a0 (i + 1) : Int) := by rw [or_i64 _ _ hnb hbb2, hn1]
   have hwb : IntKind.i64.wrap (bb : Int) = (bb : Int) := by rw [i64_w]; unfold wrap64; omega
   have hwn : IntKind.i64.wrap ((nBy a0 i : Int) * 256) = (nBy a0 i : Int) * 256 := by rw [i64_w]; unfold wrap64; omega
   clear hn1
   go_wp2
   go_step3
   refine ⟨rfl, ⟨rfl, i + 1, ?_⟩, ?_⟩
   ·iterate 41 (apply Exists.intro)
    exact ⟨rfl, by omega⟩
   ·simp [intOf]; omega
  ·obtain rfl : i = kk := by omega
   rw [Int.toNat_natCast] at h
   by_cases hbig : 9007199254740992 < nBy a0 i
   ·rw [if_pos (by omega)] at h
    simp only [Option.some.injEq, Prod.mk.injEq] at h
    obtain ⟨rfl, rfl, rfl⟩ := h
    go_wp2
    simp only [Exit.jump]
    go_ret3
    exact ⟨rfl, HD.out⟩
   ·rw [if_neg (by omega)] at h
    simp only [Option.some.injEq, Prod.mk.injEq] at h
    obtain ⟨rfl, rfl, rfl⟩ := h
    go_wp2
    simp only [Exit.jump]
    go_ret3
    exact ⟨rfl, HD.out⟩
def wire_text.f (a0 : ByteArray) : Option (ByteArray × Int × Int) := (wire_number.f a0).bind fun bt122 => (if bt122.2.2 = 0 then (if bt122.1 > 65536 then (some ((⟨#[]⟩ : ByteArray), 0, 4)) else (if bt122.1 > (wrap64 ((a0.size : Int) - bt122.2.1)) then (some ((⟨#[]⟩ : ByteArray), 0, 5)) else (if 0 ≤ bt122.2.1 then (if bt122.2.1 ≤ (wrap64 (bt122.2.1 + bt122.1)) then (if (wrap64 (bt122.2.1 + bt122.1)) ≤ (a0.size : Int) then (some (a0.extract (bt122.2.1 : Int).toNat ((wrap64 (bt122.2.1 + bt122.1)) : Int).toNat, wrap64 (bt122.2.1 + bt122.1), 0)) else (none)) else (none)) else (none)))) else (some ((⟨#[]⟩ : ByteArray), 0, bt122.2.2)))
theorem wire_text.calls (a0 : ByteArray) (r1 : ByteArray) (r2 : Int) (r3 : Int) (w : World) (h : wire_text.f a0 = some (r1, r2, r3)) :
  Calls Tryz.prog 51 #[.string a0] w fun e w' => e = .returned (.tuple #[.string r1, .int .i64 r2, .int .i64 r3]) ∧ Drawn0 w w' := by
 have H : ((wire_number.f a0).bind fun bt122 => (if bt122.2.2 = 0 then (if bt122.1 > 65536 then (some ((⟨#[]⟩ : ByteArray), 0, 4)) else (if bt122.1 > (wrap64 ((a0.size : Int) - bt122.2.1)) then (some ((⟨#[]⟩ : ByteArray), 0, 5)) else (if 0 ≤ bt122.2.1 then (if bt122.2.1 ≤ (wrap64 (bt122.2.1 + bt122.1)) then (if (wrap64 (bt122.2.1 + bt122.1)) ≤ (a0.size : Int) then (some (a0.extract (bt122.2.1 : Int).toNat ((wrap64 (bt122.2.1 + bt122.1)) : Int).toNat, wrap64 (bt122.2.1 + bt122.1), 0)) else (none)) else (none)) else (none)))) else (some ((⟨#[]⟩ : ByteArray), 0, bt122.2.2)))) = some (r1, r2, r3) := h
 clear h
 replace H := Option.bind_eq_some_iff.mp H
 obtain ⟨⟨t122, t123, t124⟩, A20, H⟩ := H
 try dsimp only at H
 have A2 := As_ A20
 clear A20
 by_cases c3 : t124 = 0
 ·rw [if_pos c3] at H
  have c3b0 : (t124 == 0) = true := beq_iff_eq.mpr c3
  have c3b1 : (t124 != 0) = false := bne_eq_false_iff_eq.mpr c3
  clear c3
  by_cases c4 : t122 > 65536
  ·rw [if_pos c4] at H
   have c4b0 : decide (65536 < t122) = true := decide_eq_true c4
   clear c4
   simp only [Option.some.injEq, Prod.mk.injEq] at H
   obtain ⟨rfl, rfl, rfl⟩ := H
   go_enter Tryz.func51, Tryz.ntmps51
   go_wp2_with (first | ((with_reducible refine gate_callee (f := 77) rfl ?_); refine gk_ (some 10) Tryz.func77 #[.string a0] ?_; (with_reducible refine (wire_number.calls a0 t122 t123 t124 _ A2.out).mono ?_); rintro e w' ⟨rfl, ⟨nd, rfl⟩⟩; refine ⟨_, rfl, ?_⟩))
   go_ret3
   exact ⟨ap5_, ap10_⟩
  ·rw [if_neg c4] at H
   have c4b0 : decide (65536 < t122) = false := decide_eq_false c4
   clear c4
   by_cases c5 : t122 > (wrap64 ((a0.size : Int) - t123))
   ·rw [if_pos c5] at H
    have c5b0 : decide ((wrap64 ((a0.size : Int) - t123)) < t122) = true := decide_eq_true c5
    clear c5
    simp only [Option.some.injEq, Prod.mk.injEq] at H
    obtain ⟨rfl, rfl, rfl⟩ := H
    go_enter Tryz.func51, Tryz.ntmps51
    go_wp2_with (first | ((with_reducible refine gate_callee (f := 77) rfl ?_); refine gk_ (some 10) Tryz.func77 #[.string a0] ?_; (with_reducible refine (wire_number.calls a0 t122 t123 t124 _ A2.out).mono ?_); rintro e w' ⟨rfl, ⟨nd, rfl⟩⟩; refine ⟨_, rfl, ?_⟩))
    go_ret3
    exact ⟨ap5_, ap10_⟩
   ·rw [if_neg c5] at H
    have c5b0 : decide ((wrap64 ((a0.size : Int) - t123)) < t122) = false := decide_eq_false c5
    clear c5
    by_cases c6 : 0 ≤ t123
    ·rw [if_pos c6] at H
     have c6b0 := eq_true c6
     have c6b1 : decide (0 ≤ t123) = true := decide_eq_true c6
     clear c6
     by_cases c7 : t123 ≤ (wrap64 (t123 + t122))
     ·rw [if_pos c7] at H
      have c7b0 := eq_true c7
      have c7b1 : decide (t123 ≤ (wrap64 (t123 + t122))) = true := decide_eq_true c7
      by_cases c8 : (wrap64 (t123 + t122)) ≤ (a0.size : Int)
      ·rw [if_pos c8] at H
       have c8b0 := eq_true c8
       have c8b1 : decide ((wrap64 (t123 + t122)) ≤ (a0.size : Int)) = true := decide_eq_true c8
       simp only [Option.some.injEq, Prod.mk.injEq] at H
       obtain ⟨rfl, rfl, rfl⟩ := H
       go_enter Tryz.func51, Tryz.ntmps51
       go_wp2_with (first | ((with_reducible refine gate_callee (f := 77) rfl ?_); refine gk_ (some 10) Tryz.func77 #[.string a0] ?_; (with_reducible refine (wire_number.calls a0 t122 t123 t124 _ A2.out).mono ?_); rintro e w' ⟨rfl, ⟨nd, rfl⟩⟩; refine ⟨_, rfl, ?_⟩))
       go_ret3
       exact ⟨ap5_, ap10_⟩
      ·rw [if_neg c8] at H
       exact absurd H (by simp)
     ·rw [if_neg c7] at H
      exact absurd H (by simp)
    ·rw [if_neg c6] at H
     exact absurd H (by simp)
 ·rw [if_neg c3] at H
  have c3b0 : (t124 == 0) = false := beq_eq_false_iff_ne.mpr c3
  have c3b1 : (t124 != 0) = true := bne_iff_ne.mpr c3
  simp only [Option.some.injEq, Prod.mk.injEq] at H
  obtain ⟨rfl, rfl, rfl⟩ := H
  go_enter Tryz.func51, Tryz.ntmps51
  go_wp2_with (first | ((with_reducible refine gate_callee (f := 77) rfl ?_); refine gk_ (some 10) Tryz.func77 #[.string a0] ?_; (with_reducible refine (wire_number.calls a0 t122 t123 t124 _ A2.out).mono ?_); rintro e w' ⟨rfl, ⟨nd, rfl⟩⟩; refine ⟨_, rfl, ?_⟩))
  go_ret3
  exact ⟨ap5_, ap10_⟩
def wire_Reader_take.f (s0_0 : ByteArray) (s0_1 : Int) (a1 : Int) (a2 : Int) : Option (Bool × ByteArray × Int) := if a2 = 0 then (if 0 ≤ a1 then (if a1 ≤ (s0_0.size : Int) then (some (true, s0_0.extract (a1 : Int).toNat s0_0.size, s0_1)) else (none)) else (none)) else (some (false, s0_0, a2))
theorem wire_Reader_take.calls (g : Nat) (s0_0 : ByteArray) (s0_1 : Int) (a1 : Int) (a2 : Int) (r1 : Bool) (r2 : ByteArray) (r3 : Int) (w0 w : World) (hI : IsS88 w0 w g s0_0 s0_1) (hB : Below w0.heap.size w0 w) (h : wire_Reader_take.f s0_0 s0_1 a1 a2 = some (r1, r2, r3)) :
  Calls Tryz.prog 52 #[.pointer (some ⟨g, 0, none⟩), .int .i64 a1, .int .i64 a2] w fun e w' => e = .returned (.bool r1) ∧ IsS88 w0 w' g r2 r3 ∧ Below w0.heap.size w0 w' ∧ KeepBut w w' g none := by
 have HI0 := As_ hI
 have HK := As_ (KeepBut.refl w g none)
 have HL := As_ hB.size
 clear hI
 have HW0 := As_ hB.size
 have HB := As_ hB
 clear hB
 have H : (if a2 = 0 then (if 0 ≤ a1 then (if a1 ≤ (s0_0.size : Int) then (some (true, s0_0.extract (a1 : Int).toNat s0_0.size, s0_1)) else (none)) else (none)) else (some (false, s0_0, a2))) = some (r1, r2, r3) := h
 clear h
 by_cases c4 : a2 = 0
 ·rw [if_pos c4] at H
  have c4b0 : (a2 == 0) = true := beq_iff_eq.mpr c4
  have c4b1 : (a2 != 0) = false := bne_eq_false_iff_eq.mpr c4
  clear c4
  by_cases c5 : 0 ≤ a1
  ·rw [if_pos c5] at H
   have c5b0 := eq_true c5
   have c5b1 : decide (0 ≤ a1) = true := decide_eq_true c5
   clear c5
   by_cases c6 : a1 ≤ (s0_0.size : Int)
   ·rw [if_pos c6] at H
    have c6b0 := eq_true c6
    have c6b1 : decide (a1 ≤ (s0_0.size : Int)) = true := decide_eq_true c6
    clear c6
    simp only [Option.some.injEq, Prod.mk.injEq] at H
    obtain ⟨rfl, rfl, rfl⟩ := H
    obtain ⟨HGz7, hgz7⟩ := HI0.out
    have hcz7_0 := cellS88_0 HGz7
    have hcz7_1 := cellS88_1 HGz7
    have hfz7_0 := blk_frozen HGz7 0
    have hfz7_1 := blk_frozen HGz7 1
    clear HGz7 hgz7
    go_enter Tryz.func52, Tryz.ntmps52
    go_wp2
    go_ret
    exact ⟨ap17_, ap71_, ap72_, ap55_⟩
   ·rw [if_neg c6] at H
    exact absurd H (by simp)
  ·rw [if_neg c5] at H
   exact absurd H (by simp)
 ·rw [if_neg c4] at H
  have c4b0 : (a2 == 0) = false := beq_eq_false_iff_ne.mpr c4
  have c4b1 : (a2 != 0) = true := bne_iff_ne.mpr c4
  simp only [Option.some.injEq, Prod.mk.injEq] at H
  obtain ⟨rfl, rfl, rfl⟩ := H
  obtain ⟨HGz8, hgz8⟩ := HI0.out
  have hcz8_0 := cellS88_0 HGz8
  have hcz8_1 := cellS88_1 HGz8
  have hfz8_0 := blk_frozen HGz8 0
  have hfz8_1 := blk_frozen HGz8 1
  clear HGz8 hgz8
  go_enter Tryz.func52, Tryz.ntmps52
  go_wp2
  go_ret
  exact ⟨ap17_, ap71_, ap72_, ap55_⟩
def wire_Reader_Text.f (s0_0 : ByteArray) (s0_1 : Int) : Option (ByteArray × ByteArray × Int) := (wire_Reader_stopped.f s0_0 s0_1).bind fun bt125 => (if bt125.1 = true then (some ((⟨#[]⟩ : ByteArray), bt125.2.1, bt125.2.2)) else ((wire_text.f bt125.2.1).bind fun bt128 => ((wire_Reader_take.f bt125.2.1 bt125.2.2 bt128.2.1 bt128.2.2).bind fun bt131 => (some (bt128.1, bt131.2.1, bt131.2.2)))))
theorem wire_Reader_Text.calls (g : Nat) (s0_0 : ByteArray) (s0_1 : Int) (r1 : ByteArray) (r2 : ByteArray) (r3 : Int) (w0 w : World) (hI : IsS88 w0 w g s0_0 s0_1) (hB : Below w0.heap.size w0 w) (h : wire_Reader_Text.f s0_0 s0_1 = some (r1, r2, r3)) :
  Calls Tryz.prog 23 #[.pointer (some ⟨g, 0, none⟩)] w fun e w' => e = .returned (.string r1) ∧ IsS88 w0 w' g r2 r3 ∧ Below w0.heap.size w0 w' ∧ KeepBut w w' g none := by
 have HI0 := As_ hI
 have HK := As_ (KeepBut.refl w g none)
 have HL := As_ hB.size
 clear hI
 have HW0 := As_ hB.size
 have HB := As_ hB
 clear hB
 have H : ((wire_Reader_stopped.f s0_0 s0_1).bind fun bt125 => (if bt125.1 = true then (some ((⟨#[]⟩ : ByteArray), bt125.2.1, bt125.2.2)) else ((wire_text.f bt125.2.1).bind fun bt128 => ((wire_Reader_take.f bt125.2.1 bt125.2.2 bt128.2.1 bt128.2.2).bind fun bt131 => (some (bt128.1, bt131.2.1, bt131.2.2)))))) = some (r1, r2, r3) := h
 clear h
 replace H := Option.bind_eq_some_iff.mp H
 obtain ⟨⟨t125, t126, t127⟩, A20, H⟩ := H
 try dsimp only at H
 have A2 := As_ A20
 clear A20
 by_cases c3 : t125 = true
 ·subst c3
  have H1 : (some ((⟨#[]⟩ : ByteArray), t126, t127)) = some (r1, r2, r3) := by rw [if_pos rfl] at H; exact H
  clear H
  have H := H1
  clear H1
  simp only [Option.some.injEq, Prod.mk.injEq] at H
  obtain ⟨rfl, rfl, rfl⟩ := H
  go_enter Tryz.func23, Tryz.ntmps23
  go_wp2_with (first | ((with_reducible refine gate_callee (f := 50) rfl ?_); refine gk_ (some 7) Tryz.func50 #[.pointer (some ⟨g, 0, none⟩)] ?_; (with_reducible refine (wire_Reader_stopped.calls g s0_0 s0_1 true t126 t127 w0 _ ?side1 ?side2 A2.out).mono ?_); (case side1 => repeat (first | (with_reducible first | exact HI0.out | apply IsS88.alloc | apply IsS88.drewN | apply IsS88.drew | apply IsS88.set_0 | apply IsS88.set_1) | exact HI0.out)); (case side2 => repeat (first | (with_reducible first | exact HB.out | apply below_alloc | apply pw_below_drewN | apply below_drew1 | refine below_set ?_ (IsS88.ge HI0.out)) | exact HB.out)); rintro e w4 ⟨rfl, hi, hb, hk⟩; refine ⟨_, rfl, ?_⟩; replace HK := As_ (KeepBut.trans ap55_ hk (.inl rfl)); replace HB := As_ (hb); replace HI0 := As_ (hi); (try clear hb); (try clear hb2); (try clear hk); (try clear hi)))
  go_ret
  exact ⟨ap17_, ap71_, ap72_, ap55_⟩
 ·replace c3 := Bool.eq_false_iff.mpr c3
  subst c3
  have H1 : ((wire_text.f t126).bind fun bt128 => ((wire_Reader_take.f t126 t127 bt128.2.1 bt128.2.2).bind fun bt131 => (some (bt128.1, bt131.2.1, bt131.2.2)))) = some (r1, r2, r3) := by rw [if_neg (show ¬ (false = true) by decide)] at H; exact H
  clear H
  have H := H1
  clear H1
  replace H := Option.bind_eq_some_iff.mp H
  obtain ⟨⟨t128, t129, t130⟩, A50, H⟩ := H
  try dsimp only at H
  have A5 := As_ A50
  clear A50
  replace H := Option.bind_eq_some_iff.mp H
  obtain ⟨⟨t131, t132, t133⟩, A60, H⟩ := H
  try dsimp only at H
  have A6 := As_ A60
  clear A60
  simp only [Option.some.injEq, Prod.mk.injEq] at H
  obtain ⟨rfl, rfl, rfl⟩ := H
  go_enter Tryz.func23, Tryz.ntmps23
  go_wp2_with (first | ((with_reducible refine gate_callee (f := 50) rfl ?_); refine gk_ (some 7) Tryz.func50 #[.pointer (some ⟨g, 0, none⟩)] ?_; (with_reducible refine (wire_Reader_stopped.calls g s0_0 s0_1 false t126 t127 w0 _ ?side1 ?side2 A2.out).mono ?_); (case side1 => repeat (first | (with_reducible first | exact HI0.out | apply IsS88.alloc | apply IsS88.drewN | apply IsS88.drew | apply IsS88.set_0 | apply IsS88.set_1) | exact HI0.out)); (case side2 => repeat (first | (with_reducible first | exact HB.out | apply below_alloc | apply pw_below_drewN | apply below_drew1 | refine below_set ?_ (IsS88.ge HI0.out)) | exact HB.out)); rintro e w7 ⟨rfl, hi, hb, hk⟩; refine ⟨_, rfl, ?_⟩; replace HK := As_ (KeepBut.trans ap55_ hk (.inl rfl)); replace HB := As_ (hb); replace HI0 := As_ (hi); (try clear hb); (try clear hb2); (try clear hk); (try clear hi); obtain ⟨HGz8, hgz8⟩ := HI0.out; have hcz8_0 := cellS88_0 HGz8; have hcz8_1 := cellS88_1 HGz8; have hfz8_0 := blk_frozen HGz8 0; have hfz8_1 := blk_frozen HGz8 1; clear HGz8 hgz8) | ((with_reducible refine gate_callee (f := 51) rfl ?_); refine gk_ (some 13) Tryz.func51 #[.string t126] ?_; (with_reducible refine (wire_text.calls t126 t128 t129 t130 _ A5.out).mono ?_); rintro e w' ⟨rfl, ⟨nd, rfl⟩⟩; refine ⟨_, rfl, ?_⟩) | ((with_reducible refine gate_callee (f := 52) rfl ?_); refine gk_ (some 20) Tryz.func52 #[.pointer (some ⟨g, 0, none⟩), .int .i64 t129, .int .i64 t130] ?_; (with_reducible refine (wire_Reader_take.calls g t126 t127 t129 t130 t131 t132 t133 w0 _ ?side1 ?side2 A6.out).mono ?_); (case side1 => repeat (first | (with_reducible first | exact HI0.out | apply IsS88.alloc | apply IsS88.drewN | apply IsS88.drew | apply IsS88.set_0 | apply IsS88.set_1) | exact HI0.out)); (case side2 => repeat (first | (with_reducible first | exact HB.out | apply below_alloc | apply pw_below_drewN | apply below_drew1 | refine below_set ?_ (IsS88.ge HI0.out)) | exact HB.out)); rintro e w9 ⟨rfl, hi, hb, hk⟩; refine ⟨_, rfl, ?_⟩; replace HK := As_ (KeepBut.trans ap55_ hk (.inl rfl)); replace HB := As_ (hb); replace HI0 := As_ (hi); (try clear hb); (try clear hb2); (try clear hk); (try clear hi)))
  go_ret
  exact ⟨ap17_, ap71_, ap72_, ap55_⟩
def wire_Reader_Err.f (s0_0 : ByteArray) (s0_1 : Int) : Option (Int × ByteArray × Int) := some (s0_1, s0_0, s0_1)
theorem wire_Reader_Err.calls (g : Nat) (s0_0 : ByteArray) (s0_1 : Int) (r1 : Int) (r2 : ByteArray) (r3 : Int) (w0 w : World) (hI : IsS88 w0 w g s0_0 s0_1) (hB : Below w0.heap.size w0 w) (h : wire_Reader_Err.f s0_0 s0_1 = some (r1, r2, r3)) :
  Calls Tryz.prog 53 #[.pointer (some ⟨g, 0, none⟩)] w fun e w' => e = .returned (.int .i64 r1) ∧ IsS88 w0 w' g r2 r3 ∧ Below w0.heap.size w0 w' ∧ KeepBut w w' g none := by
 have HI0 := As_ hI
 have HK := As_ (KeepBut.refl w g none)
 have HL := As_ hB.size
 clear hI
 have HW0 := As_ hB.size
 have HB := As_ hB
 clear hB
 have H : (some (s0_1, s0_0, s0_1)) = some (r1, r2, r3) := h
 clear h
 simp only [Option.some.injEq, Prod.mk.injEq] at H
 obtain ⟨rfl, rfl, rfl⟩ := H
 obtain ⟨HGz2, hgz2⟩ := HI0.out
 have hcz2_0 := cellS88_0 HGz2
 have hcz2_1 := cellS88_1 HGz2
 have hfz2_0 := blk_frozen HGz2 0
 have hfz2_1 := blk_frozen HGz2 1
 clear HGz2 hgz2
 go_enter Tryz.func53, Tryz.ntmps53
 go_wp2
 go_ret
 exact ⟨ap17_, ap71_, ap72_, ap55_⟩
def wire_Reader_Done.f (s0_0 : ByteArray) (s0_1 : Int) : Option (Int × ByteArray × Int) := (wire_Reader_Err.f s0_0 s0_1).bind fun bt134 => (if bt134.1 = 0 then (if bt134.2.1.toList = ([] : List UInt8) then (some (bt134.1, bt134.2.1, bt134.2.2)) else (some (6, bt134.2.1, bt134.2.2))) else (some (bt134.1, bt134.2.1, bt134.2.2)))
theorem wire_Reader_Done.calls (g : Nat) (s0_0 : ByteArray) (s0_1 : Int) (r1 : Int) (r2 : ByteArray) (r3 : Int) (w0 w : World) (hI : IsS88 w0 w g s0_0 s0_1) (hB : Below w0.heap.size w0 w) (h : wire_Reader_Done.f s0_0 s0_1 = some (r1, r2, r3)) :
  Calls Tryz.prog 24 #[.pointer (some ⟨g, 0, none⟩)] w fun e w' => e = .returned (.int .i64 r1) ∧ IsS88 w0 w' g r2 r3 ∧ Below w0.heap.size w0 w' ∧ KeepBut w w' g none := by
 have HI0 := As_ hI
 have HK := As_ (KeepBut.refl w g none)
 have HL := As_ hB.size
 clear hI
 have HW0 := As_ hB.size
 have HB := As_ hB
 clear hB
 have H : ((wire_Reader_Err.f s0_0 s0_1).bind fun bt134 => (if bt134.1 = 0 then (if bt134.2.1.toList = ([] : List UInt8) then (some (bt134.1, bt134.2.1, bt134.2.2)) else (some (6, bt134.2.1, bt134.2.2))) else (some (bt134.1, bt134.2.1, bt134.2.2)))) = some (r1, r2, r3) := h
 clear h
 replace H := Option.bind_eq_some_iff.mp H
 obtain ⟨⟨t134, t135, t136⟩, A20, H⟩ := H
 try dsimp only at H
 have A2 := As_ A20
 clear A20
 by_cases c3 : t134 = 0
 ·rw [if_pos c3] at H
  have c3b0 : (t134 == 0) = true := beq_iff_eq.mpr c3
  have c3b1 : (t134 != 0) = false := bne_eq_false_iff_eq.mpr c3
  clear c3
  by_cases c4 : t135.toList = ([] : List UInt8)
  ·rw [if_pos c4] at H
   have c4b0 : (t135.toList == ([] : List UInt8)) = true := beq_iff_eq.mpr c4
   have c4b1 : (t135.toList != ([] : List UInt8)) = false := bne_eq_false_iff_eq.mpr c4
   clear c4
   simp only [Option.some.injEq, Prod.mk.injEq] at H
   obtain ⟨rfl, rfl, rfl⟩ := H
   go_enter Tryz.func24, Tryz.ntmps24
   go_wp2_with (first | ((with_reducible refine gate_callee (f := 53) rfl ?_); refine gk_ (some 5) Tryz.func53 #[.pointer (some ⟨g, 0, none⟩)] ?_; (with_reducible refine (wire_Reader_Err.calls g s0_0 s0_1 t134 t135 t136 w0 _ ?side1 ?side2 A2.out).mono ?_); (case side1 => repeat (first | (with_reducible first | exact HI0.out | apply IsS88.alloc | apply IsS88.drewN | apply IsS88.drew | apply IsS88.set_0 | apply IsS88.set_1) | exact HI0.out)); (case side2 => repeat (first | (with_reducible first | exact HB.out | apply below_alloc | apply pw_below_drewN | apply below_drew1 | refine below_set ?_ (IsS88.ge HI0.out)) | exact HB.out)); rintro e w5 ⟨rfl, hi, hb, hk⟩; refine ⟨_, rfl, ?_⟩; replace HK := As_ (KeepBut.trans ap55_ hk (.inl rfl)); replace HB := As_ (hb); replace HI0 := As_ (hi); (try clear hb); (try clear hb2); (try clear hk); (try clear hi); obtain ⟨HGz6, hgz6⟩ := HI0.out; have hcz6_0 := cellS88_0 HGz6; have hcz6_1 := cellS88_1 HGz6; have hfz6_0 := blk_frozen HGz6 0; have hfz6_1 := blk_frozen HGz6 1; clear HGz6 hgz6))
   go_ret
   exact ⟨ap17_, ap71_, ap72_, ap55_⟩
  ·rw [if_neg c4] at H
   have c4b0 : (t135.toList == ([] : List UInt8)) = false := beq_eq_false_iff_ne.mpr c4
   have c4b1 : (t135.toList != ([] : List UInt8)) = true := bne_iff_ne.mpr c4
   simp only [Option.some.injEq, Prod.mk.injEq] at H
   obtain ⟨rfl, rfl, rfl⟩ := H
   go_enter Tryz.func24, Tryz.ntmps24
   go_wp2_with (first | ((with_reducible refine gate_callee (f := 53) rfl ?_); refine gk_ (some 5) Tryz.func53 #[.pointer (some ⟨g, 0, none⟩)] ?_; (with_reducible refine (wire_Reader_Err.calls g s0_0 s0_1 t134 t135 t136 w0 _ ?side1 ?side2 A2.out).mono ?_); (case side1 => repeat (first | (with_reducible first | exact HI0.out | apply IsS88.alloc | apply IsS88.drewN | apply IsS88.drew | apply IsS88.set_0 | apply IsS88.set_1) | exact HI0.out)); (case side2 => repeat (first | (with_reducible first | exact HB.out | apply below_alloc | apply pw_below_drewN | apply below_drew1 | refine below_set ?_ (IsS88.ge HI0.out)) | exact HB.out)); rintro e w7 ⟨rfl, hi, hb, hk⟩; refine ⟨_, rfl, ?_⟩; replace HK := As_ (KeepBut.trans ap55_ hk (.inl rfl)); replace HB := As_ (hb); replace HI0 := As_ (hi); (try clear hb); (try clear hb2); (try clear hk); (try clear hi); obtain ⟨HGz8, hgz8⟩ := HI0.out; have hcz8_0 := cellS88_0 HGz8; have hcz8_1 := cellS88_1 HGz8; have hfz8_0 := blk_frozen HGz8 0; have hfz8_1 := blk_frozen HGz8 1; clear HGz8 hgz8))
   go_ret
   exact ⟨ap17_, ap71_, ap72_, ap55_⟩
 ·rw [if_neg c3] at H
  have c3b0 : (t134 == 0) = false := beq_eq_false_iff_ne.mpr c3
  have c3b1 : (t134 != 0) = true := bne_iff_ne.mpr c3
  simp only [Option.some.injEq, Prod.mk.injEq] at H
  obtain ⟨rfl, rfl, rfl⟩ := H
  go_enter Tryz.func24, Tryz.ntmps24
  go_wp2_with (first | ((with_reducible refine gate_callee (f := 53) rfl ?_); refine gk_ (some 5) Tryz.func53 #[.pointer (some ⟨g, 0, none⟩)] ?_; (with_reducible refine (wire_Reader_Err.calls g s0_0 s0_1 t134 t135 t136 w0 _ ?side1 ?side2 A2.out).mono ?_); (case side1 => repeat (first | (with_reducible first | exact HI0.out | apply IsS88.alloc | apply IsS88.drewN | apply IsS88.drew | apply IsS88.set_0 | apply IsS88.set_1) | exact HI0.out)); (case side2 => repeat (first | (with_reducible first | exact HB.out | apply below_alloc | apply pw_below_drewN | apply below_drew1 | refine below_set ?_ (IsS88.ge HI0.out)) | exact HB.out)); rintro e w9 ⟨rfl, hi, hb, hk⟩; refine ⟨_, rfl, ?_⟩; replace HK := As_ (KeepBut.trans ap55_ hk (.inl rfl)); replace HB := As_ (hb); replace HI0 := As_ (hi); (try clear hb); (try clear hb2); (try clear hk); (try clear hi)))
  go_ret
  exact ⟨ap17_, ap71_, ap72_, ap55_⟩
theorem j_set (base g : Nat) (ok : Nat → Prop) (st : JSt) (key value : ByteArray) (w : World) (h : JM base ok g st w) (hl : st.cur.length ≤ 1000000000) (hn : st.lv.length ≤ 1000000) (hm : ∀ l ∈ st.lv, l.length ≤ 1000000) (hb : base ≤ w.heap.size) :
  Calls Tryz.prog 57 #[.pointer (some ⟨g, 0, none⟩), .string key, .string value] w (JPost base ok g (setJ st key value) (.int .i64 (setE key value)) w) := by
 unfold setJ setE
 by_cases hbig : key.size > 65536 ∨ value.size > 65536
 ·rw [if_pos hbig, if_pos hbig]
  have hfin : JPost base ok g st (.int .i64 4) w (.returned (.int .i64 4)) w := ⟨rfl, h.mono (fun k hk => .inl hk), JW.of_below (Below.refl _ _)⟩
  replace hfin := As_ hfin
  clear h
  by_cases hk : key.size > 65536
  ·go_enter Tryz.func57, Tryz.ntmps57
   go_wp2
   go_ret
   exact hfin.out
  ·have hv : value.size > 65536 := hbig.resolve_left hk
   go_enter Tryz.func57, Tryz.ntmps57
   go_wp2
   go_ret
   exact hfin.out
 ·rw [if_neg hbig, if_neg hbig]
  have hk : ¬ 65536 < key.size := fun h => hbig (.inl h)
  have hv : ¬ 65536 < value.size := fun h => hbig (.inr h)
  have y0 : ∃ gs, w.cell? ⟨g, 0, none⟩ = some (.pointer (some ⟨gs, 0, none⟩)) := by
   obtain ⟨gs, sv, lvv, vs, h⟩ := h
   exact ⟨gs, (blk_cell h.blk 0).trans rfl⟩
  clear hbig y0
  go_enter Tryz.func57, Tryz.ntmps57
  go_wp2_with fail
  refine (j_note base g ok st key w h hl hn hm hb).mono ?_
  rintro e w2 ⟨rfl, ⟨gs, sv, lvv, vs, h2⟩, W2⟩
  have y0 : w2.cell? ⟨g, 0, none⟩ = some (.pointer (some ⟨gs, 0, none⟩)) := (blk_cell h2.blk 0).trans rfl
  replace W2 := As_ W2
  clear h
  go_wp2_with fail
  refine (st_set base gs sv (noteJ st key).cur key value _ h2.store hl (Nat.le_trans hb W2.out.size)).mono ?_
  rintro e w3 ⟨rfl, sv3, s3, W3, at3⟩
  have hfin : JPost base ok g { noteJ st key with cur := setK st.cur key value } (.int .i64 0) w (.returned (.int .i64 0)) w3 :=
   ⟨rfl, ⟨_, _, _, _, (h2.stored s3 W3 at3).mono (fun k hk => hk.elim id (fun h => .inr (Nat.le_trans W2.out.size h)))⟩, W2.out.trans (JW.of_store W3 h2.oks h2.okv) (fun k hk => hk)⟩
  replace hfin := As_ hfin
  clear h2 s3 W3 at3 W2 y0
  go_wp2
  go_ret
  exact hfin.out
theorem j_del (base g : Nat) (ok : Nat → Prop) (st : JSt) (key : ByteArray) (w : World) (h : JM base ok g st w) (hl : st.cur.length ≤ 1000000000) (hn : st.lv.length ≤ 1000000) (hm : ∀ l ∈ st.lv, l.length ≤ 1000000) (hb : base ≤ w.heap.size) :
  Calls Tryz.prog 30 #[.pointer (some ⟨g, 0, none⟩), .string key] w (JPost base ok g (delJ st key) (.int .i64 (delE st key)) w) := by
 unfold delJ delE
 obtain ⟨gs, sv, lvv, vs, h⟩ := h
 have y0 : w.cell? ⟨g, 0, none⟩ = some (.pointer (some ⟨gs, 0, none⟩)) := (blk_cell h.blk 0).trans rfl
 have hg2 : (getK st.cur key).2 = hasK st.cur key := by unfold getK; cases hasK st.cur key <;> rfl
 cases hh : hasK st.cur key with
 | false =>
  rw [if_neg (by simp), if_neg (by simp)]
  go_enter Tryz.func30, Tryz.ntmps30
  go_wp2_with fail
  refine (st_get base gs st.cur key _ h.store.at_ hl).mono ?_
  rintro e w2 ⟨rfl, hb2⟩
  rw [hg2, hh]
  have hfin : JPost base ok g st (.int .i64 8) w (.returned (.int .i64 8)) w2 := ⟨rfl, ⟨_, _, _, _, (h.step hb2).mono (fun k hk => .inl hk)⟩, JW.of_below hb2⟩
  replace hfin := As_ hfin
  clear h hb2 hg2
  go_wp2
  go_ret
  exact hfin.out
 | true =>
  rw [if_pos rfl, if_pos rfl]
  go_enter Tryz.func30, Tryz.ntmps30
  go_wp2_with fail
  refine (st_get base gs st.cur key _ h.store.at_ hl).mono ?_
  rintro e w1 ⟨rfl, hb1⟩
  rw [hg2, hh]
  have h1 : JM base ok g st w1 := ⟨_, _, _, _, h.step hb1⟩
  replace hb1 := As_ hb1
  clear h y0 hg2
  go_wp2_with fail
  refine (j_note base g ok st key w1 h1 hl hn hm (Nat.le_trans hb hb1.out.size)).mono ?_
  rintro e w2 ⟨rfl, ⟨gs, sv, lvv, vs, h2⟩, W2⟩
  have y0 : w2.cell? ⟨g, 0, none⟩ = some (.pointer (some ⟨gs, 0, none⟩)) := (blk_cell h2.blk 0).trans rfl
  replace W2 := As_ ((JW.of_below hb1.out : JW ok w w1).trans W2 (fun k hk => .inl hk))
  have hs1 := hb1.out.size
  clear h1 hb1
  go_wp2_with fail
  refine (st_del base gs sv (noteJ st key).cur key _ h2.store hl).mono ?_
  rintro e w3 ⟨rfl, sv3, s3, W3, at3⟩
  have hfin : JPost base ok g { noteJ st key with cur := delK st.cur key } (.int .i64 0) w (.returned (.int .i64 0)) w3 :=
   ⟨rfl, ⟨_, _, _, _, (h2.stored s3 W3 at3).mono (fun k hk => hk.elim (fun h => h.imp_right (fun h => Nat.le_trans hs1 h)) (fun h => .inr (Nat.le_trans W2.out.size h)))⟩, W2.out.trans (JW.of_store W3 h2.oks h2.okv) (fun k hk => hk.imp_right (fun h => Nat.le_trans hs1 h))⟩
  replace hfin := As_ hfin
  clear h2 s3 W3 at3 W2 y0
  go_wp2
  go_ret
  exact hfin.out
theorem jx_fresh (base g gs : Nat) (v : Value) (l : List S82) (w : World) (hs : StoreIs base gs v l w) (hg : base ≤ g) (hb : w.heap[g]? = some (.cells #[.pointer (some ⟨gs, 0, none⟩), .slice none 0 0] 86 (0, 0))) : JX base (fun k => base ≤ k) g gs v (.slice none 0 0) [] ⟨l, []⟩ w :=
 ⟨hg, hs.1, fun k e => own_base hs.2.2.2 k e, hg, hb, hs, ⟨rfl, fun k e => by simp [Value.ownBlock] at e, World.ownsRow_nil _ _ _ _, fun i v l e => by simp at e, fun i v k e => by simp at e, fun i j a b k _ e => by simp at e⟩⟩
theorem st_copy_nil (w : World) : Calls Tryz.prog 61 #[.pointer none] w fun e w' => e = .returned (.pointer none) ∧ w' = w := by
 go_enter Tryz.func61, Tryz.ntmps61
 go_wp2
 go_ret
 exact ⟨rfl, rfl⟩
theorem j_new_nil (w : World) :
  Calls Tryz.prog 34 #[.pointer none] w fun e w' => ∃ g, e = .returned (.pointer (some ⟨g, 0, none⟩)) ∧ JM w.heap.size (fun k => w.heap.size ≤ k) g ⟨[], []⟩ w' ∧ Below w.heap.size w w' := by
 go_enter Tryz.func34, Tryz.ntmps34
 go_wp2_with fail
 refine (st_copy_nil w).mono ?_
 rintro e w1 ⟨rfl, hw1⟩
 rw [hw1]
 clear hw1
 go_wp2_with fail
 refine (st_new w).mono ?_
 rintro e w2 ⟨rfl, s2, hb2⟩
 have n3 := my_alloc_new w2 (.cells #[.pointer (some ⟨w.heap.size, 0, none⟩), .slice none 0 0] 86)
 have hb3 : Below w2.heap.size w2 (w2.alloc (.cells #[.pointer (some ⟨w.heap.size, 0, none⟩), .slice none 0 0] 86)) := (Below.refl _ w2).alloc (Nat.le_refl _) _
 have hfin : ∃ g, Ending.returned (.pointer (some ⟨w2.heap.size, 0, none⟩)) = .returned (.pointer (some ⟨g, 0, none⟩)) ∧ JM w.heap.size (fun k => w.heap.size ≤ k) g ⟨[], []⟩ (w2.alloc (.cells #[.pointer (some ⟨w.heap.size, 0, none⟩), .slice none 0 0] 86)) ∧ Below w.heap.size w (w2.alloc (.cells #[.pointer (some ⟨w.heap.size, 0, none⟩), .slice none 0 0] 86)) :=
  ⟨_, rfl, ⟨_, _, _, _, jx_fresh _ _ _ _ _ _ (StoreIs.below s2 hb3) hb2.size n3⟩, hb2.alloc hb2.size _⟩
 replace hfin := As_ hfin
 clear n3 hb3 s2 hb2
 go_wp2
 go_ret
 exact hfin.out
def wire_Reader_Num.f (s0_0 : ByteArray) (s0_1 : Int) : Option (Int × ByteArray × Int) := (wire_Reader_stopped.f s0_0 s0_1).bind fun bt137 => (if bt137.1 = true then (some (0, bt137.2.1, bt137.2.2)) else ((wire_number.f bt137.2.1).bind fun bt140 => ((wire_Reader_take.f bt137.2.1 bt137.2.2 bt140.2.1 bt140.2.2).bind fun bt143 => (some (bt140.1, bt143.2.1, bt143.2.2)))))
theorem wire_Reader_Num.calls (g : Nat) (s0_0 : ByteArray) (s0_1 : Int) (r1 : Int) (r2 : ByteArray) (r3 : Int) (w0 w : World) (hI : IsS88 w0 w g s0_0 s0_1) (hB : Below w0.heap.size w0 w) (h : wire_Reader_Num.f s0_0 s0_1 = some (r1, r2, r3)) :
  Calls Tryz.prog 45 #[.pointer (some ⟨g, 0, none⟩)] w fun e w' => e = .returned (.int .i64 r1) ∧ IsS88 w0 w' g r2 r3 ∧ Below w0.heap.size w0 w' ∧ KeepBut w w' g none := by
 have HI0 := As_ hI
 have HK := As_ (KeepBut.refl w g none)
 have HL := As_ hB.size
 clear hI
 have HW0 := As_ hB.size
 have HB := As_ hB
 clear hB
 have H : ((wire_Reader_stopped.f s0_0 s0_1).bind fun bt137 => (if bt137.1 = true then (some (0, bt137.2.1, bt137.2.2)) else ((wire_number.f bt137.2.1).bind fun bt140 => ((wire_Reader_take.f bt137.2.1 bt137.2.2 bt140.2.1 bt140.2.2).bind fun bt143 => (some (bt140.1, bt143.2.1, bt143.2.2)))))) = some (r1, r2, r3) := h
 clear h
 replace H := Option.bind_eq_some_iff.mp H
 obtain ⟨⟨t137, t138, t139⟩, A20, H⟩ := H
 try dsimp only at H
 have A2 := As_ A20
 clear A20
 by_cases c3 : t137 = true
 ·subst c3
  have H1 : (some (0, t138, t139)) = some (r1, r2, r3) := by rw [if_pos rfl] at H; exact H
  clear H
  have H := H1
  clear H1
  simp only [Option.some.injEq, Prod.mk.injEq] at H
  obtain ⟨rfl, rfl, rfl⟩ := H
  go_enter Tryz.func45, Tryz.ntmps45
  go_wp2_with (first | ((with_reducible refine gate_callee (f := 50) rfl ?_); refine gk_ (some 7) Tryz.func50 #[.pointer (some ⟨g, 0, none⟩)] ?_; (with_reducible refine (wire_Reader_stopped.calls g s0_0 s0_1 true t138 t139 w0 _ ?side1 ?side2 A2.out).mono ?_); (case side1 => repeat (first | (with_reducible first | exact HI0.out | apply IsS88.alloc | apply IsS88.drewN | apply IsS88.drew | apply IsS88.set_0 | apply IsS88.set_1) | exact HI0.out)); (case side2 => repeat (first | (with_reducible first | exact HB.out | apply below_alloc | apply pw_below_drewN | apply below_drew1 | refine below_set ?_ (IsS88.ge HI0.out)) | exact HB.out)); rintro e w4 ⟨rfl, hi, hb, hk⟩; refine ⟨_, rfl, ?_⟩; replace HK := As_ (KeepBut.trans ap55_ hk (.inl rfl)); replace HB := As_ (hb); replace HI0 := As_ (hi); (try clear hb); (try clear hb2); (try clear hk); (try clear hi)))
  go_ret
  exact ⟨ap17_, ap71_, ap72_, ap55_⟩
 ·replace c3 := Bool.eq_false_iff.mpr c3
  subst c3
  have H1 : ((wire_number.f t138).bind fun bt140 => ((wire_Reader_take.f t138 t139 bt140.2.1 bt140.2.2).bind fun bt143 => (some (bt140.1, bt143.2.1, bt143.2.2)))) = some (r1, r2, r3) := by rw [if_neg (show ¬ (false = true) by decide)] at H; exact H
  clear H
  have H := H1
  clear H1
  replace H := Option.bind_eq_some_iff.mp H
  obtain ⟨⟨t140, t141, t142⟩, A50, H⟩ := H
  try dsimp only at H
  have A5 := As_ A50
  clear A50
  replace H := Option.bind_eq_some_iff.mp H
  obtain ⟨⟨t143, t144, t145⟩, A60, H⟩ := H
  try dsimp only at H
  have A6 := As_ A60
  clear A60
  simp only [Option.some.injEq, Prod.mk.injEq] at H
  obtain ⟨rfl, rfl, rfl⟩ := H
  go_enter Tryz.func45, Tryz.ntmps45
  go_wp2_with (first | ((with_reducible refine gate_callee (f := 50) rfl ?_); refine gk_ (some 7) Tryz.func50 #[.pointer (some ⟨g, 0, none⟩)] ?_; (with_reducible refine (wire_Reader_stopped.calls g s0_0 s0_1 false t138 t139 w0 _ ?side1 ?side2 A2.out).mono ?_); (case side1 => repeat (first | (with_reducible first | exact HI0.out | apply IsS88.alloc | apply IsS88.drewN | apply IsS88.drew | apply IsS88.set_0 | apply IsS88.set_1) | exact HI0.out)); (case side2 => repeat (first | (with_reducible first | exact HB.out | apply below_alloc | apply pw_below_drewN | apply below_drew1 | refine below_set ?_ (IsS88.ge HI0.out)) | exact HB.out)); rintro e w7 ⟨rfl, hi, hb, hk⟩; refine ⟨_, rfl, ?_⟩; replace HK := As_ (KeepBut.trans ap55_ hk (.inl rfl)); replace HB := As_ (hb); replace HI0 := As_ (hi); (try clear hb); (try clear hb2); (try clear hk); (try clear hi); obtain ⟨HGz8, hgz8⟩ := HI0.out; have hcz8_0 := cellS88_0 HGz8; have hcz8_1 := cellS88_1 HGz8; have hfz8_0 := blk_frozen HGz8 0; have hfz8_1 := blk_frozen HGz8 1; clear HGz8 hgz8) | ((with_reducible refine gate_callee (f := 77) rfl ?_); refine gk_ (some 13) Tryz.func77 #[.string t138] ?_; (with_reducible refine (wire_number.calls t138 t140 t141 t142 _ A5.out).mono ?_); rintro e w' ⟨rfl, ⟨nd, rfl⟩⟩; refine ⟨_, rfl, ?_⟩) | ((with_reducible refine gate_callee (f := 52) rfl ?_); refine gk_ (some 20) Tryz.func52 #[.pointer (some ⟨g, 0, none⟩), .int .i64 t141, .int .i64 t142] ?_; (with_reducible refine (wire_Reader_take.calls g t138 t139 t141 t142 t143 t144 t145 w0 _ ?side1 ?side2 A6.out).mono ?_); (case side1 => repeat (first | (with_reducible first | exact HI0.out | apply IsS88.alloc | apply IsS88.drewN | apply IsS88.drew | apply IsS88.set_0 | apply IsS88.set_1) | exact HI0.out)); (case side2 => repeat (first | (with_reducible first | exact HB.out | apply below_alloc | apply pw_below_drewN | apply below_drew1 | refine below_set ?_ (IsS88.ge HI0.out)) | exact HB.out)); rintro e w9 ⟨rfl, hi, hb, hk⟩; refine ⟨_, rfl, ?_⟩; replace HK := As_ (KeepBut.trans ap55_ hk (.inl rfl)); replace HB := As_ (hb); replace HI0 := As_ (hi); (try clear hb); (try clear hb2); (try clear hk); (try clear hi)))
  go_ret
  exact ⟨ap17_, ap71_, ap72_, ap55_⟩
def digB : Nat → Nat → List Int
 | 0, _ => []
 | k + 1, n => if n = 0 then [] else digB k (n / 256) ++ [((n % 256 : Nat) : Int)]
def wire_Num.f (a0 : Int) : Option (ByteArray × Int) := if a0 < 0 ∨ 9007199254740992 < a0 then some ((⟨#[]⟩ : ByteArray), 3) else some (strOfNums [((digB 8 a0.toNat).length : Int)] ++ strOfNums (digB 8 a0.toNat), 0)
theorem wNumRow_set (j : Nat) (t : List Int) (v : Int) : ((List.replicate (j + 1) (Value.int .u8 0) ++ nums .u8 t).toArray).setIfInBounds j (.int .u8 v) = (List.replicate j (Value.int .u8 0) ++ nums .u8 (v :: t)).toArray := by
 rw [List.setIfInBounds_toArray, List.replicate_succ', List.append_assoc]
 congr 1
 rw [List.set_append_right _ _ (by simp)]
 simp [nums]
theorem wu8 : ∀ g : Nat, g < 9 → IntKind.u8.wrap ((8 - g : Nat) : Int) = ((8 - g : Nat) : Int) := by decide
theorem digB_len : ∀ k n, (digB k n).length ≤ k
 | 0, _ => Nat.le_refl _
 | k + 1, n => by
  unfold digB
  split
  ·exact Nat.zero_le _
  ·have := digB_len k (n / 256)
   rw [List.length_append, List.length_singleton]; omega
theorem wire_Num.calls (a0 : Int) (r1 : ByteArray) (r2 : Int) (w : World) (h : wire_Num.f a0 = some (r1, r2)) :
  Calls Tryz.prog 56 #[.int .i64 a0] w fun e w' => e = .returned (.tuple #[.string r1, .int .i64 r2]) ∧ Below w.heap.size w w' := by
 unfold wire_Num.f at h
 have HB := As_ (Below.refl w.heap.size w)
 by_cases hbad : a0 < 0 ∨ 9007199254740992 < a0
 ·rw [if_pos hbad] at h
  obtain ⟨rfl, rfl⟩ := Prod.mk.inj (Option.some.inj h)
  clear h
  by_cases h0 : a0 < 0
  all_goals
   go_enter Tryz.func56, Tryz.ntmps56
   go_wp2
   go_ret2
   exact ⟨rfl, HB.out⟩
 rw [if_neg hbad] at h
 obtain ⟨rfl, rfl⟩ := Prod.mk.inj (Option.some.inj h)
 clear h
 have h0 : ¬ a0 < 0 := fun h => hbad (.inl h)
 have h1 : ¬ 9007199254740992 < a0 := fun h => hbad (.inr h)
 obtain ⟨n0, rfl⟩ : ∃ n0 : Nat, a0 = (n0 : Int) := ⟨a0.toNat, by omega⟩
 have hn0 : n0 ≤ 9007199254740992 := by omega
 rw [Int.toNat_natCast]
 clear hbad
 go_enter Tryz.func56, Tryz.ntmps56
 go_wp2_with (first | ((with_reducible refine gate_dst (N := 4) rfl ?_); (try (refine gate_guard (by rfl) ?_; dsimp only)); refine bxE (N := 4) (cs := (List.replicate 8 (Value.int .u8 0)).toArray) (t := 122) ?_; intro gb hg w1 hbox hb; have n0_ := As_ (below_step (by repeat (first | exact HB.out | apply pw_below_drewN | apply below_drew1)) hb); have BK := As_ hbox; have GE := As_ ((by rw [hg]; exact (below_size (by repeat (first | exact HB.out | apply pw_below_drewN | apply below_drew1))) : w.heap.size ≤ gb)); clear HB; have HB := n0_; clear n0_ hb hbox hg) | fail)
 go_loopg [0, 5] 8 (fun g s0 s5 wx => ∃ (n : Nat) (t : List Int), s0 = .int .i64 n ∧ s5 = .int .i64 (g : Int) ∧ g ≤ 8 ∧ n ≤ 9007199254740992 ∧ n < 256 ^ g ∧ g + t.length = 8 ∧ Aside0 (wx.heap[gb]? = some (.cells (List.replicate g (Value.int .u8 0) ++ nums .u8 t).toArray 122 (0, 0))) ∧ Aside0 (Below w.heap.size w wx) ∧ Aside0 (digB g n ++ t = digB 8 n0))
 case atStart => exact ⟨n0, [], rfl, rfl, Nat.le_refl _, hn0, by omega, rfl, ⟨by rw [BK.out]; rfl⟩, HB, ⟨by simp⟩⟩
 case round =>
  clear BK HB
  obtain ⟨n, t, rfl, rfl, hg8, hn, hpow, htl, BK, HB, HR⟩ := hrel
  by_cases hz0 : n = 0
  ·subst hz0
   have ht : t = digB 8 n0 := by
    have := HR.out
    cases gk <;> simpa [digB] using this
   have hcells : ∀ w' : World, w'.heap[gb]? = some (.cells (List.replicate gk (Value.int .u8 0) ++ nums .u8 t).toArray 122 (0, 0)) → ∀ i, i < 8 - gk → w'.cell? ⟨gb, gk + i, none⟩ = some (.int .u8 (t.getD i 0)) := by
    intro w' h i hi
    refine (blk_cell h (gk + i)).trans ?_
    rw [List.getElem?_toArray, List.getElem?_append_right (by simp), List.length_replicate, Nat.add_sub_cancel_left]
    unfold nums
    rw [List.getElem?_map, List.getElem?_eq_getElem (by omega), List.getD_eq_getElem?_getD, List.getElem?_eq_getElem (by omega)]
    rfl
   clear hpow
   obtain ⟨p, hp⟩ : ∃ p : Nat, p = if gk = 8 then 0 else gk := ⟨_, rfl⟩
   have e28 : ∀ w : World, (Instr.sliceAt 122 (.pointer (some ⟨gb, 0, none⟩)) (some (.int .i64 (gk : Int))) none none).run Tryz.prog w = .ok (.slice (some ⟨gb, p, none⟩) (8 - gk) (8 - gk)) w := by
    intro w
    obtain ⟨i0, hi0, hzz⟩ := Option.map_eq_some_iff.1 info5
    simp only [Prod.mk.injEq] at hzz
    have hg0' : ((gk : Nat) : Int) ≤ 8 := by omega
    by_cases hl : gk = 8
    ·subst hl
     rw [if_pos rfl] at hp
     simp [go_sem, Instr.sliceAt, Instr.sureAddr, Instr.sliceBounds, run_underlying Tryz.underlying122, sizeOf, typeInfo, hi0, hzz.2.1, hp]
    ·rw [if_neg hl] at hp
     have hl2 : ¬ 8 = gk := fun e => hl e.symm
     simp [go_sem, Instr.sliceAt, Instr.sureAddr, Instr.sliceBounds, run_underlying Tryz.underlying122, sizeOf, typeInfo, hi0, hzz.2.1, hl2, hg0', hp]
   have hcells2 : ∀ w' : World, w'.heap[gb]? = some (.cells (List.replicate gk (Value.int .u8 0) ++ nums .u8 t).toArray 122 (0, 0)) → ∀ i, i < 8 - gk → w'.cell? ⟨gb, p + i, none⟩ = some (.int .u8 (t.getD i 0)) := by
    intro w' h i hi
    rw [if_neg (by omega)] at hp
    rw [hp]
    exact hcells w' h i hi
   have hw1 : IntKind.i64.wrap (8 - (gk : Int)) = ((8 - gk : Nat) : Int) := by rw [i64_w]; unfold wrap64; omega
   have hw2 : IntKind.u8.wrap ((8 - gk : Nat) : Int) = ((8 - gk : Nat) : Int) := wu8 gk (by omega)
   have hsz : ¬ 9223372036854775807 < (strOfNums [((8 - gk : Nat) : Int)]).size + (strOfNums t).size := by
    rw [strOfNums_size, strOfNums_size]
    simp; omega
   have hl8 := As_ (show 8 - gk = t.length by omega)
   replace ht := As_ ht
   clear hp hcells
   go_upto_region 9 with (fail)
   refine start_ (n := 11) (S := fun w' => w'.heap[gb]? = some (.cells (List.replicate gk (Value.int .u8 0) ++ nums .u8 t).toArray 122 (0, 0))) (ds := []) #[false, false, false, false, false, false, false, false, false, false, false] (by kernel_rfl) rfl rfl BK.out (fun hHeld => ?_)
   have HB4 := As_ (below_drew HB.out)
   clear HB BK
   generalize wr.drew = w4 at hHeld HB4 ⊢
   refine pure_ (i := 0) (N := some 22) #[true, false, false, false, false, false, false, false, false, false, false] rfl rfl (by kernel_rfl) (fun _ _ _ h => h) (Or.inl ⟨by rfl, ap2_⟩) ap35_ ?_
   refine pure_ (i := 1) (N := some 23) #[true, true, false, false, false, false, false, false, false, false, false] rfl rfl (by kernel_rfl) (fun _ _ _ h => h) (Or.inl ⟨by rfl, ap2_⟩) ap35_ ?_
   refine pure_ (i := 2) (N := some 24) #[true, true, true, false, false, false, false, false, false, false, false] rfl rfl (by kernel_rfl) (fun _ _ _ h => h) (Or.inl ⟨by rfl, ap2_⟩) ap35_ ?_
   refine pure_ (i := 5) (N := some 27) #[true, true, true, false, false, true, false, false, false, false, false] rfl rfl (by kernel_rfl) (fun _ _ _ h => h) (Or.inl ⟨by rfl, ap2_⟩) ap35_ ?_
   refine pure_ (i := 6) (N := some 28) #[true, true, true, false, false, true, true, false, false, false, false] rfl rfl (by kernel_rfl) (fun _ _ _ h => h) (Or.inl ⟨by rfl, ap2_⟩) ap35_ ?_
   refine take_ (i := 7) (N := some 29) #[true, true, true, false, false, true, true, true, false, false, false] rfl rfl (by kernel_rfl) (fun _ _ _ h => h) (Or.inl ⟨by rfl, (by rintro w' s0; have kc := run_convert_bytes_arg (P := Tryz.prog) w' 124 5 Tryz.underlying124 Tryz.underlying5 gb p (8 - gk) (8 - gk) t (by omega) (hcells2 w' s0) 9 Tryz.underlying9; go_simp; with_reducible rfl)⟩) hHeld ap35_ ?_
   refine one_ (i := 3) (N := some 25) #[true, true, true, true, false, true, true, true, false, false, false] rfl rfl (by kernel_rfl) (by decide) (fun K hK => ?_)
   refine value_ (w1 := ?_) (v := ?_) (by rfl) rfl ?_ ?_
   rotate_left 2
   ·go_simp
    constructor
    ·rfl
    ·rfl
   refine hK.out _ _ ((Below.heap_alloc _ _ _ (blk_lt hHeld)).trans hHeld) (fun hHeld => ?_)
   clear hK K
   refine norm_ (a' := ?_) ?_ ?_
   rotate_left
   ·show Act.put _ (some 25) _ = _
    simp only [Act.put, List.setIfInBounds_toArray, List.set_cons_zero, List.set_cons_succ, i64_w, i32_w]
    rfl
   have kc2 := run_convert_bytes_arg (P := Tryz.prog) (w4.alloc (.cells #[.int .u8 ((8 - gk : Nat) : Int)] 5)) 124 5 Tryz.underlying124 Tryz.underlying5 w4.heap.size 0 1 1 [((8 - gk : Nat) : Int)] rfl (fun i hi => match i, hi with | 0, _ => (blk_cell (my_alloc_new w4 _) 0).trans rfl) 9 Tryz.underlying9
   refine one_ (i := 4) (N := some 26) #[true, true, true, true, true, true, true, true, false, false, false] rfl rfl (by kernel_rfl) (by decide) (fun K hK => ?_)
   refine value_ (w1 := ?_) (v := ?_) (by rfl) rfl ?_ ?_
   rotate_left 2
   ·go_simp
    constructor
    ·rfl
    ·rfl
   refine hK.out _ _ hHeld (fun hHeld => ?_)
   clear hK K
   refine norm_ (a' := ?_) ?_ ?_
   rotate_left
   ·show Act.put _ (some 26) _ = _
    simp only [Act.put, List.setIfInBounds_toArray, List.set_cons_zero, List.set_cons_succ, i64_w, i32_w]
    rfl
   refine pure_ (i := 8) (N := some 30) #[true, true, true, true, true, true, true, true, true, false, false] rfl rfl (by kernel_rfl) (fun _ _ _ h => h) (Or.inl ⟨by rfl, ap2_⟩) ap35_ ?_
   refine pure_ (i := 9) (N := some 2) #[true, true, true, true, true, true, true, true, true, true, false] rfl rfl (by kernel_rfl) (fun _ _ _ h => h) (Or.inl ⟨by rfl, ap2_⟩) ap35_ ?_
   refine pure_ (i := 10) (N := some 3) #[true, true, true, true, true, true, true, true, true, true, true] rfl rfl (by kernel_rfl) (fun _ _ _ h => h) (Or.inl ⟨by rfl, ap2_⟩) ap35_ ?_
   refine done_ (by kernel_rfl) ?_
   have hfin := As_ (below_step HB4.out ((Below.refl _ w4).alloc (Nat.le_refl _) (.cells #[.int .u8 ((8 - gk : Nat) : Int)] 5)))
   clear hHeld HB4
   go_wp2
   go_ret2
   have e9 : strOfNums [((8 - gk : Nat) : Int)] ++ strOfNums t = strOfNums [((digB 8 n0).length : Int)] ++ strOfNums (digB 8 n0) := by rw [hl8.out, ht.out]
   refine ⟨?_, hfin.out⟩
   show Ending.returned (.tuple #[.string (strOfNums [((8 - gk : Nat) : Int)] ++ strOfNums t), .int .i64 0]) = _
   rw [e9]
  ·obtain ⟨g, rfl⟩ : ∃ g, gk = g + 1 := by
    cases gk with
    | zero => simp at hpow; omega
    | succ g => exact ⟨g, rfl⟩
   have hz := blk_frozen BK.out g
   have hcell : wr.cell? ⟨gb, g, none⟩ = some (.int .u8 0) := (blk_cell BK.out g).trans (by rw [List.getElem?_toArray, List.getElem?_append_left (by simp), List.getElem?_replicate, if_pos (by omega)])
   have hpos : (0 : Int) < (n : Int) := by omega
   go_wp2
   go_roundg g
   case measure => omega
   case rel => exact ⟨n / 256, ((n % 256 : Nat) : Int) :: t, by first | rfl | (simp; done), rfl, by omega, by omega, by rw [Nat.pow_succ] at hpow; omega, by simp; omega, ⟨blk_put BK.out g _ (by rw [Int.natCast_emod]; exact wNumRow_set g t _)⟩, ⟨below_set HB.out GE.out⟩, ⟨by rw [← HR.out, digB, if_neg hz0, List.append_assoc]; rfl⟩⟩
def wire_Text.f (a0 : ByteArray) : Option (ByteArray × Int) := if (a0.size : Int) > 65536 then (some ((⟨#[]⟩ : ByteArray), 4)) else ((wire_Num.f (a0.size : Int)).bind fun bt146 => (if bt146.1.size + a0.size ≤ 9223372036854775807 then (some (bt146.1 ++ a0, 0)) else (none)))
theorem wire_Text.calls (a0 : ByteArray) (r1 : ByteArray) (r2 : Int) (w : World) (h : wire_Text.f a0 = some (r1, r2)) :
  Calls Tryz.prog 64 #[.string a0] w fun e w' => e = .returned (.tuple #[.string r1, .int .i64 r2]) ∧ Below w.heap.size w w' := by
 have HB := As_ (Below.refl w.heap.size w)
 have H : (if (a0.size : Int) > 65536 then (some ((⟨#[]⟩ : ByteArray), 4)) else ((wire_Num.f (a0.size : Int)).bind fun bt146 => (if bt146.1.size + a0.size ≤ 9223372036854775807 then (some (bt146.1 ++ a0, 0)) else (none)))) = some (r1, r2) := h
 clear h
 by_cases c2 : (a0.size : Int) > 65536
 ·rw [if_pos c2] at H
  have c2b0 : decide (65536 < (a0.size : Int)) = true := decide_eq_true c2
  have c2b1 : decide (65536 < a0.size) = true := decide_eq_true (by omega)
  clear c2
  simp only [Option.some.injEq, Prod.mk.injEq] at H
  obtain ⟨rfl, rfl⟩ := H
  go_enter Tryz.func64, Tryz.ntmps64
  go_wp2
  go_ret2
  exact ⟨ap17_, ap50_⟩
 ·rw [if_neg c2] at H
  have c2b0 : decide (65536 < (a0.size : Int)) = false := decide_eq_false c2
  have c2b1 : decide (65536 < a0.size) = false := decide_eq_false (by omega)
  clear c2
  replace H := Option.bind_eq_some_iff.mp H
  obtain ⟨⟨t146, t147⟩, A30, H⟩ := H
  try dsimp only at H
  have A3 := As_ A30
  clear A30
  by_cases c4 : t146.size + a0.size ≤ 9223372036854775807
  ·rw [if_pos c4] at H
   have c4b0 := eq_true c4
   have c4b1 : decide (t146.size + a0.size ≤ 9223372036854775807) = true := decide_eq_true c4
   try have c4b2 : (9223372036854775807 < t146.size + a0.size) = False := eq_false (Nat.not_lt.2 c4)
   simp only [Option.some.injEq, Prod.mk.injEq] at H
   obtain ⟨rfl, rfl⟩ := H
   go_enter Tryz.func64, Tryz.ntmps64
   go_wp2_with (first | ((with_reducible refine gate_callee (f := 56) rfl ?_); refine gk_ (some 12) Tryz.func56 #[.int .i64 (a0.size : Int)] ?_; (with_reducible refine (wire_Num.calls (a0.size : Int) t146 t147 _ A3.out).mono ?_); rintro e w5 ⟨rfl, hb⟩; refine ⟨_, rfl, ?_⟩; replace HB := As_ (below_step ap50_ hb); (try clear hb); (try clear hb2); (try clear hk); (try clear hi)))
   go_ret2
   exact ⟨ap17_, ap50_⟩
  ·rw [if_neg c4] at H
   exact absurd H (by simp)
theorem rdOf_get (l : List ByteArray) (i : Nat) (h : i < l.length) : rdOf ByteArray.empty l (i : Int) = l[i] := by
 unfold rdOf
 rw [Int.toNat_natCast, List.getD_eq_getElem?_getD, List.getElem?_eq_getElem h]; rfl
theorem ofL_append (l m : List UInt8) : ofL l ++ ofL m = ofL (l ++ m) := by
 apply ba_ext; rw [ba_append, ofL_toList, ofL_toList, ofL_toList]
theorem one_list (c : UInt8) : (⟨#[c]⟩ : ByteArray).toList = [c] := by rw [ByteArray.toList_eq]
theorem two_list (a b : UInt8) : (⟨#[a, b]⟩ : ByteArray).toList = [a, b] := by rw [ByteArray.toList_eq]
theorem w_one (i : Nat) (h : i ≤ 4000000000000000000) : wrap64 ((i : Int) + 1) = ((i + 1 : Nat) : Int) := by rw [w64 (by omega) (by omega)]; omega
def glue (c : UInt8) (a : List UInt8) (ps : List (List UInt8)) : List UInt8 := a ++ ps.flatMap (c :: ·)
def hidL (l : List UInt8) : List UInt8 := l.flatMap fun c => if c = 37 then [37, 112] else if c = 47 then [37, 115] else [c]
theorem hidL_cons (c : UInt8) (t : List UInt8) : hidL (c :: t) = (if c = 37 then [37, 112] else if c = 47 then [37, 115] else [c]) ++ hidL t := by unfold hidL; rw [List.flatMap_cons]
theorem hid_repl : ∀ l : List UInt8, repl1 47 [37, 115] (repl1 37 [37, 112] l) = hidL l
 | [] => rfl
 | c :: t => by
  have ih := hid_repl t
  rw [hidL_cons, ← ih]
  unfold repl1
  rw [List.flatMap_cons, List.flatMap_append]
  congr 1
  by_cases h1 : c = 37
  ·subst h1; rfl
  ·rw [if_neg h1, if_neg h1]
   by_cases h2 : c = 47 <;> simp [h2]
theorem repl_len (c a b : UInt8) : ∀ l : List UInt8, (repl1 c [a, b] l).length ≤ 2 * l.length
 | [] => by simp [repl1]
 | x :: t => by
  have ih := repl_len c a b t
  unfold repl1 at ih ⊢
  rw [List.flatMap_cons, List.length_append, List.length_cons]
  have : (if x = c then [a, b] else [x]).length ≤ 2 := by split <;> simp
  omega
theorem hidL_len (l : List UInt8) : (hidL l).length ≤ 2 * l.length := by
 induction l with
 | nil => simp [hidL]
 | cons c t ih =>
  rw [hidL_cons, List.length_append, List.length_cons]
  have : (if c = 37 then [37, 112] else if c = 47 then [37, 115] else [c] : List UInt8).length ≤ 2 := by split <;> (try split) <;> simp
  omega
theorem repl_is (s : ByteArray) (c a b : UInt8) (h : s.size ≤ 100000000) : strings_ReplaceAll.f s ⟨#[c]⟩ ⟨#[a, b]⟩ = some (ofL (repl1 c [a, b] s.toList)) := by
 unfold strings_ReplaceAll.f
 rw [one_list, two_list]
 exact if_pos ⟨h, rfl⟩
theorem hidden_is (s : ByteArray) (h : s.size ≤ 50000000) : path_hidden.f s = some (ofL (hidL s.toList)) := by
 unfold path_hidden.f
 have h1 := repl_len 37 37 112 s.toList
 rw [← ba_size] at h1
 rw [repl_is s 37 37 112 (by omega), Option.bind_some, repl_is _ 47 37 115 (by rw [ofL_size]; omega), Option.bind_some, ofL_toList, hid_repl]
def keyL (a : List UInt8) (ps : List (List UInt8)) : List UInt8 := glue 47 (hidL a) (ps.map hidL)
theorem join_go (l : List ByteArray) (hl : l.length ≤ 1000) (hs : ∀ p ∈ l, p.size ≤ 50000000) : ∀ (d i : Nat) (acc : ByteArray), d = l.length - i → i ≤ l.length → acc.size ≤ 100000000 + i * 100000001 → Ev (fun k => path_Join.l0 k acc l (l.length : Int) (i : Int)) (acc ++ ofL ((l.drop i).flatMap fun p => 47 :: hidL p.toList)) := by
 intro d
 induction d with
 | zero =>
  intro i acc hd hi ha
  refine ⟨1, fun k hk => ?_⟩
  obtain ⟨m, rfl⟩ : ∃ m, k = m + 1 := ⟨k - 1, by omega⟩
  show path_Join.l0 (m + 1) acc l (l.length : Int) (i : Int) = _
  simp only [path_Join.l0]
  rw [if_neg (by omega), List.drop_eq_nil_of_le (by omega)]
  congr 1
  apply ba_ext; rw [ba_append, ofL_toList]; simp
 | succ d ih =>
  intro i acc hd hi ha
  have hil : i < l.length := by omega
  have hp := hs l[i] (List.getElem_mem hil)
  have hlen := hidL_len (l[i]).toList
  rw [← ba_size] at hlen
  have hsz : ((⟨#[47]⟩ : ByteArray) ++ ofL (hidL (l[i]).toList)).size ≤ 100000001 := by
   rw [ByteArray.size_append, ofL_size]; show 1 + _ ≤ _; omega
  have hi2 : i * 100000001 ≤ 1000 * 100000001 := Nat.mul_le_mul_right _ (by omega)
  obtain ⟨K, e⟩ := ih (i + 1) (acc ++ ((⟨#[47]⟩ : ByteArray) ++ ofL (hidL (l[i]).toList))) (by omega) (by omega) (by rw [ByteArray.size_append, Nat.add_mul]; omega)
  refine ⟨K + 1, fun k hk => ?_⟩
  obtain ⟨m, rfl⟩ : ∃ m, k = m + 1 := ⟨k - 1, by omega⟩
  have e : path_Join.l0 m _ l (l.length : Int) ((i + 1 : Nat) : Int) = _ := e m (by omega)
  show path_Join.l0 (m + 1) acc l (l.length : Int) (i : Int) = _
  simp only [path_Join.l0]
  rw [if_pos (by omega), if_pos (by omega), if_pos (by omega), rdOf_get l i hil, hidden_is _ hp, Option.bind_some, if_pos (by rw [ofL_size]; omega), if_pos (by omega), w_one i (by omega), e]
  congr 1
  rw [List.drop_eq_getElem_cons hil, List.flatMap_cons]
  apply ba_ext
  simp only [ba_append, ofL_toList, one_list]
  simp
theorem join_ev (a : ByteArray) (l : List ByteArray) (ha : a.size ≤ 50000000) (hl : l.length ≤ 1000) (hs : ∀ p ∈ l, p.size ≤ 50000000) : Ev (fun k => path_Join.f k a l) (ofL (keyL a.toList (l.map ByteArray.toList))) := by
 have h1 := hidL_len a.toList
 rw [← ba_size] at h1
 obtain ⟨K, e⟩ := join_go l hl hs l.length 0 (ofL (hidL a.toList)) (by omega) (by omega) (by rw [ofL_size]; omega)
 refine ⟨K, fun k hk => ?_⟩
 have e : path_Join.l0 k (ofL (hidL a.toList)) l (l.length : Int) 0 = _ := e k hk
 show path_Join.f k a l = _
 unfold path_Join.f
 rw [hidden_is a ha, Option.bind_some, e, ofL_append]
 unfold keyL glue
 rw [List.drop_zero, List.map_map, List.flatMap_map]
 rfl
def keyB (a : ByteArray) (l : List ByteArray) : ByteArray := ofL (keyL a.toList (l.map ByteArray.toList))
theorem key_ev (a : ByteArray) (l : List ByteArray) (ha : a.size ≤ 50000000) (hl : l.length ≤ 1000) (hs : ∀ p ∈ l, p.size ≤ 50000000) : ∃ k, path_Join.f k a l = some (keyB a l) := by
 obtain ⟨K, e⟩ := join_ev a l ha hl hs
 exact ⟨K, e K (Nat.le_refl _)⟩
def numB (n : Nat) : ByteArray := strOfNums [((digB 8 n).length : Int)] ++ strOfNums (digB 8 n)
theorem wNum_is (n : Nat) (h : n ≤ 9007199254740992) : wire_Num.f (n : Int) = some (numB n, 0) := by
 unfold wire_Num.f numB
 rw [if_neg (by omega), Int.toNat_natCast]
theorem strOfNums_sz (l : List Int) : (strOfNums l).size = l.length := by rw [ba_size, ByteArray.toList_eq, strOfNums_data, List.length_map]
theorem numB_len (n : Nat) : (numB n).size ≤ 9 := by
 have := digB_len 8 n
 unfold numB
 rw [ByteArray.size_append, strOfNums_sz, strOfNums_sz, List.length_singleton]; omega
def textB (s : ByteArray) : ByteArray := if (s.size : Int) > 65536 then (⟨#[]⟩ : ByteArray) else numB s.size ++ s
theorem textB_len (s : ByteArray) : (textB s).size ≤ s.size + 9 := by
 unfold textB
 split
 ·show 0 ≤ _; omega
 ·have := numB_len s.size; rw [ByteArray.size_append]; omega
def numW (s : ByteArray) : Int × Int × Int := (wire_number.f s).getD (0, 0, 0)
theorem number_is (s : ByteArray) : wire_number.f s = some (numW s) := by
 unfold numW wire_number.f
 repeat' split
 all_goals rfl
theorem numW_bd (s : ByteArray) : (0 ≤ (numW s).1 ∧ (numW s).1 ≤ 9007199254740992) ∧ (0 ≤ (numW s).2.1 ∧ (numW s).2.1 ≤ (s.size : Int)) := by
 have h := number_is s
 generalize numW s = r at h
 unfold wire_number.f at h
 have hb := bt_range s 0
 by_cases h1 : s.size = 0
 ·rw [if_pos h1] at h; obtain rfl := Option.some.inj h; simp
 rw [if_neg h1] at h
 by_cases h2 : 7 < bt s 0 ∨ (0 < bt s 0 ∧ 1 < s.size ∧ bt s 1 = 0)
 ·rw [if_pos h2] at h; obtain rfl := Option.some.inj h; simp
 rw [if_neg h2] at h
 by_cases h3 : (s.size : Int) ≤ bt s 0
 ·rw [if_pos h3] at h; obtain rfl := Option.some.inj h; simp
 rw [if_neg h3] at h
 by_cases h4 : 9007199254740992 < nBy s (bt s 0).toNat
 ·rw [if_pos h4] at h; obtain rfl := Option.some.inj h; simp
 rw [if_neg h4] at h
 obtain rfl := Option.some.inj h
 dsimp only
 omega
def rNum (s : ByteArray) (e : Int) : Int × ByteArray × Int := if e = 0 then ((numW s).1, if (numW s).2.2 = 0 then s.extract (numW s).2.1.toNat s.size else s, (numW s).2.2) else (0, s, e)
def rText (s : ByteArray) (e : Int) : ByteArray × ByteArray × Int :=
 if e = 0 then
  (if (numW s).2.2 = 0 then
   (if (numW s).1 > 65536 then ((⟨#[]⟩ : ByteArray), s, 4)
    else if (numW s).1 > (s.size : Int) - (numW s).2.1 then ((⟨#[]⟩ : ByteArray), s, 5)
    else (s.extract (numW s).2.1.toNat ((numW s).2.1 + (numW s).1).toNat, s.extract ((numW s).2.1 + (numW s).1).toNat s.size, 0))
   else ((⟨#[]⟩ : ByteArray), s, (numW s).2.2))
 else ((⟨#[]⟩ : ByteArray), s, e)
def rDone (s : ByteArray) (e : Int) : Int := if e = 0 then (if s.toList = [] then 0 else 6) else e
theorem rNum_is (s : ByteArray) (e : Int) : wire_Reader_Num.f s e = some (rNum s e) := by
 unfold wire_Reader_Num.f wire_Reader_stopped.f rNum
 rw [Option.bind_some]
 dsimp only
 by_cases he : e = 0
 ·subst he
  obtain ⟨_, h3, h4⟩ := numW_bd s
  rw [if_neg (by simp), number_is, Option.bind_some, if_pos rfl]
  unfold wire_Reader_take.f
  by_cases h : (numW s).2.2 = 0
  ·rw [if_pos h, if_pos h3, if_pos h4, Option.bind_some, if_pos h, h]
  ·rw [if_neg h, if_neg h, Option.bind_some]
 ·rw [if_pos (by simpa using he), if_neg he]
theorem rDone_is (s : ByteArray) (e : Int) : wire_Reader_Done.f s e = some (rDone s e, s, e) := by
 unfold wire_Reader_Done.f wire_Reader_Err.f rDone
 rw [Option.bind_some]
 dsimp only
 by_cases he : e = 0
 ·subst he
  rw [if_pos rfl, if_pos rfl]
  by_cases h : s.toList = []
  ·rw [if_pos h, if_pos h]
  ·rw [if_neg h, if_neg h]
 ·rw [if_neg he, if_neg he]
theorem ext_sz (s : ByteArray) (a b : Nat) : (s.extract a b).size ≤ s.size := by
 rw [ba_size, ba_extract, ba_size s, List.length_drop, List.length_take]; omega
theorem rText_sz (s : ByteArray) (e : Int) : (rText s e).2.1.size ≤ s.size := by
 unfold rText
 repeat' split
 all_goals first | exact Nat.le_refl _ | exact ext_sz _ _ _
theorem rNum_bd (s : ByteArray) (e : Int) : 0 ≤ (rNum s e).1 ∧ (rNum s e).1 ≤ 9007199254740992 := by
 unfold rNum
 split
 ·exact (numW_bd s).1
 ·exact ⟨Int.le_refl _, by show (0 : Int) ≤ _; omega⟩
def valB (l : List ByteArray) : ByteArray := l.foldl (fun a s => a ++ textB s) (⟨#[]⟩ : ByteArray)
theorem valB_snoc (l : List ByteArray) (s : ByteArray) : valB (l ++ [s]) = valB l ++ textB s := by unfold valB; rw [List.foldl_append]; rfl
theorem valB_take (l : List ByteArray) (i : Nat) (h : i < l.length) : valB (l.take (i + 1)) = valB (l.take i) ++ textB l[i] := by rw [List.take_add_one, List.getElem?_eq_getElem h]; exact valB_snoc _ _
theorem valB_len {l : List ByteArray} {m : Nat} (hs : ∀ s ∈ l, s.size ≤ m) (hl : l.length ≤ 1000) : ∀ i, (valB (l.take i)).size ≤ i * (m + 9)
 | 0 => by rw [List.take_zero]; exact Nat.zero_le _
 | i + 1 => by
  have ih := valB_len hs hl i
  by_cases h : i < l.length
  ·have h1 := textB_len l[i]
   have h2 := hs _ (List.getElem_mem h)
   rw [valB_take l i h, ByteArray.size_append, Nat.add_mul]; omega
  ·rw [List.take_of_length_le (by omega)]
   rw [List.take_of_length_le (by omega)] at ih
   rw [Nat.add_mul]; omega
structure KV (n : Nat) (cur : List S82) : Prop where
 so : sortK cur
 len : cur.length ≤ n
 val : ∀ p ∈ cur, p.f1.size ≤ 65536
theorem KV.get {n : Nat} {cur : List S82} (h : KV n cur) (key : ByteArray) : (getK cur key).1.size ≤ 65536 := by
 unfold getK
 split
 ·rename_i hh
  obtain ⟨hp, _⟩ := hasK_lt hh
  rw [rdP _ _ hp]
  exact h.val _ (List.getElem_mem hp)
 ·exact Nat.zero_le _
theorem KV.set {n : Nat} {cur : List S82} (h : KV n cur) (key value : ByteArray) (hv : value.size ≤ 65536) : KV (n + 1) (setK cur key value) := by
 refine ⟨sortK_set h.so _ _, Nat.le_trans (setK_len _ _ _) (Nat.succ_le_succ h.len), fun p hp => ?_⟩
 unfold setK at hp
 split at hp
 ·rcases List.mem_or_eq_of_mem_set hp with hp | rfl
  ·exact h.val p hp
  ·exact hv
 ·rcases List.mem_append.1 hp with hp | hp
  ·exact h.val p (List.mem_of_mem_take hp)
  ·rcases List.mem_cons.1 hp with rfl | hp
   ·exact hv
   ·exact h.val p (List.mem_of_mem_drop hp)
theorem KV.mono {n m : Nat} {cur : List S82} (h : KV n cur) (hm : n ≤ m) : KV m cur := ⟨h.so, Nat.le_trans h.len hm, h.val⟩
theorem KV.del {n : Nat} {cur : List S82} (h : KV n cur) (key : ByteArray) : KV n (delK cur key) := by
 refine ⟨sortK_del h.so _, Nat.le_trans (delK_len _ _) h.len, fun p hp => ?_⟩
 unfold delK at hp
 split at hp
 ·rcases List.mem_append.1 hp with hp | hp
  ·exact h.val p (List.mem_of_mem_take hp)
  ·exact h.val p (List.mem_of_mem_drop hp)
 ·exact h.val p hp
theorem KV.nil (n : Nat) : KV n [] := ⟨List.Pairwise.nil, Nat.zero_le _, by simp⟩
def setC (cur : List S82) (key value : ByteArray) : List S82 := if key.size > 65536 ∨ value.size > 65536 then cur else setK cur key value
theorem KV.put {n : Nat} {cur : List S82} (h : KV n cur) (key value : ByteArray) : KV (n + 1) (setC cur key value) := by
 unfold setC
 split
 ·exact h.mono (Nat.le_succ _)
 ·exact h.set _ _ (by omega)
theorem setJ0 (cur : List S82) (key value : ByteArray) : setJ ⟨cur, []⟩ key value = ⟨setC cur key value, []⟩ := by
 unfold setJ setC
 split <;> rfl
theorem delK_no {cur : List S82} {key : ByteArray} (h : ¬ hasK cur key = true) : delK cur key = cur := by unfold delK; rw [if_neg h]
theorem delJ0 (cur : List S82) (key : ByteArray) : delJ ⟨cur, []⟩ key = ⟨delK cur key, []⟩ := by
 unfold delJ
 by_cases h : hasK cur key = true
 ·rw [if_pos h]; rfl
 ·rw [if_neg h, delK_no h]
theorem wText_is (s : ByteArray) : wire_Text.f s = some (textB s, if (s.size : Int) > 65536 then 4 else 0) := by
 unfold wire_Text.f textB
 by_cases h : (s.size : Int) > 65536
 ·rw [if_pos h, if_pos h, if_pos h]
 ·have h2 := numB_len s.size
  rw [if_neg h, if_neg h, if_neg h, wNum_is _ (by omega), Option.bind_some, if_pos (by show (numB s.size).size + s.size ≤ _; omega)]
theorem rText_is (s : ByteArray) (e : Int) (hs : s.size ≤ 1000000000) : wire_Reader_Text.f s e = some (rText s e) := by
 unfold wire_Reader_Text.f wire_Reader_stopped.f rText
 rw [Option.bind_some]
 dsimp only
 by_cases he : e = 0
 ·subst he
  obtain ⟨⟨h1, h2⟩, h3, h4⟩ := numW_bd s
  rw [if_neg (by simp), if_pos rfl]
  unfold wire_text.f
  rw [number_is, Option.bind_some]
  have hw : ∀ x : Int, -9000000000000000000 ≤ x → x ≤ 9000000000000000000 → wrap64 x = x := fun x a b => w64 (by omega) (by omega)
  unfold wire_Reader_take.f
  by_cases h : (numW s).2.2 = 0
  ·rw [if_pos h, if_pos h]
   by_cases hb : (numW s).1 > 65536
   ·rw [if_pos hb, if_pos hb, Option.bind_some, if_neg (by decide), Option.bind_some]
   ·rw [if_neg hb, if_neg hb, hw _ (by omega) (by omega)]
    by_cases hc : (numW s).1 > (s.size : Int) - (numW s).2.1
    ·rw [if_pos hc, if_pos hc, Option.bind_some, if_neg (by decide), Option.bind_some]
    ·rw [if_neg hc, if_neg hc, if_pos h3, hw _ (by omega) (by omega), if_pos (by omega), if_pos (by omega), Option.bind_some]
     dsimp only
     rw [if_pos rfl, if_pos (by omega), if_pos (by omega), Option.bind_some]
  ·rw [if_neg h, if_neg h, Option.bind_some]
   dsimp only
   rw [if_neg h, Option.bind_some]
 ·rw [if_pos (by simpa using he), if_neg he]
structure JK (w w' : World) : Prop where
 size : w.heap.size ≤ w'.heap.size
 keep : ∀ (k : Nat) (cells : Array Value) (q : TypeId) (x : Nat × Nat), w.heap[k]? = some (Obj.cells cells q x) → q ∉ JT → w'.heap[k]? = w.heap[k]?
theorem JK.of_below {w w' : World} (h : Below w.heap.size w w') : JK w w' := ⟨h.size, fun k _ _ _ hk _ => h.block k (blk_lt hk)⟩
theorem JK.trans {w w1 w2 : World} (h : JK w w1) (k : JK w1 w2) : JK w w2 := ⟨Nat.le_trans h.size k.size, fun b c q x hb hq => (k.keep b c q x ((h.keep b c q x hb hq).trans hb) hq).trans (h.keep b c q x hb hq)⟩
theorem JK.blk {w w' : World} {b : Nat} {c : Array Value} {q : TypeId} {x : Nat × Nat} (h : JK w w') (hb : w.heap[b]? = some (.cells c q x)) (hq : q ∉ JT) : w'.heap[b]? = some (.cells c q x) := (h.keep b c q x hb hq).trans hb
structure JS (base : Nat) (ok : Nat → Prop) (w0 : World) (g : Nat) (cur : List S82) (w : World) : Prop where
 m : JM base (fun k => ok k ∨ w0.heap.size ≤ k) g ⟨cur, []⟩ w
 jw : JW ok w0 w
 b : base ≤ w0.heap.size
theorem JS.start {base g : Nat} {ok : Nat → Prop} {cur : List S82} {w : World} (h : JM base ok g ⟨cur, []⟩ w) (hb : base ≤ w.heap.size) : JS base ok w g cur w := ⟨h.mono (fun _ hk => .inl hk), JW.of_below (Below.refl _ _), hb⟩
theorem JS.below {base g : Nat} {ok : Nat → Prop} {w0 : World} {cur : List S82} {w w' : World} (h : JS base ok w0 g cur w) (hb : Below w.heap.size w w') : JS base ok w0 g cur w' := ⟨h.m.below hb, h.jw.trans (JW.of_below hb : JW ok w w') (fun i hi => .inl hi), h.b⟩
theorem JS.hb {base g : Nat} {ok : Nat → Prop} {w0 : World} {cur : List S82} {w : World} (h : JS base ok w0 g cur w) : base ≤ w.heap.size := Nat.le_trans h.b h.jw.size
def BD (base : Nat) (ok : Nat → Prop) (w0 w : World) (k : Nat) : Prop := (ok k ∨ w0.heap.size ≤ k) ∧ base ≤ k ∧ k < w.heap.size ∧ ∃ q, q ∈ JT ∧ ∃ cells, w.heap[k]? = some (.cells cells q (0, 0))
theorem JS.bd {base g : Nat} {ok : Nat → Prop} {w0 : World} {cur : List S82} {w : World} (h : JS base ok w0 g cur w) : JM base (BD base ok w0 w) g ⟨cur, []⟩ w := h.m.bound
theorem JS.post {base g : Nat} {ok : Nat → Prop} {w0 : World} {cur cur' : List S82} {w w' : World} {r : Value} {e : Ending} (h : JS base ok w0 g cur w) (hp : JPost base (BD base ok w0 w) g ⟨cur', []⟩ r w e w') : e = .returned r ∧ JS base ok w0 g cur' w' ∧ JK w w' := by
 obtain ⟨h1, h2, h3⟩ := hp
 refine ⟨h1, ⟨h2.mono (fun k hk => hk.elim (fun hk => hk.1) (fun hk => .inr (Nat.le_trans h.jw.size hk))), h.jw.trans h3 (fun i hi => hi.1), h.b⟩, ⟨h3.size, fun k cells q x hk hq => h3.block k (blk_lt hk) (fun hb => ?_)⟩⟩
 obtain ⟨_, _, _, q2, hq2, c2, hc2⟩ := hb
 exact hq (blk_ty hk hc2 ▸ hq2)
theorem JS.set_ {base g : Nat} {ok : Nat → Prop} {w0 : World} {cur : List S82} {w : World} (h : JS base ok w0 g cur w) {p : Addr} (v : Value) (hn : w0.heap.size ≤ p.block) (c : Array Value) (q : TypeId) (x : Nat × Nat) (hp : w.heap[p.block]? = some (.cells c q x)) (hq : q ∉ JT) : JS base ok w0 g cur (w.setCell p v) := by
 have hf : ∀ k, k ≠ p.block → (w.setCell p v).heap[k]? = w.heap[k]? := fun k hk => Below.heap_setCell w p v k hk
 refine ⟨?_, h.jw.trans (ok' := fun k => k = p.block) ⟨rfl, rfl, rfl, by simp [World.setCell], fun i _ hi => hf i hi⟩ (fun i hi => .inr (by rw [hi]; exact hn)), h.b⟩
 have hm := h.bd
 refine (hm.move (fun k cells t hk hc => hf k (fun e => ?_))).mono (fun k hk => hk.1)
 obtain ⟨_, _, _, q2, hq2, c2, hc2⟩ := hk
 subst e
 exact hq (blk_ty hp hc2 ▸ hq2)
theorem JS.drewN {base g : Nat} {ok : Nat → Prop} {w0 : World} {cur : List S82} {w : World} (h : JS base ok w0 g cur w) (n : Nat) : JS base ok w0 g cur (w.drewN n) := h.below (pw_below_drewN (Below.refl _ _) n)
theorem JS.drew {base g : Nat} {ok : Nat → Prop} {w0 : World} {cur : List S82} {w : World} (h : JS base ok w0 g cur w) : JS base ok w0 g cur w.drew := h.below (below_drew1 (Below.refl _ _))
theorem JS.alloc {base g : Nat} {ok : Nat → Prop} {w0 : World} {cur : List S82} {w : World} (h : JS base ok w0 g cur w) (o : Obj) : JS base ok w0 g cur (w.alloc o) := h.below (below_alloc (Below.refl _ _) o)
theorem JS.size0 {base g : Nat} {ok : Nat → Prop} {w0 : World} {cur : List S82} {w : World} (h : JS base ok w0 g cur w) : w0.heap.size ≤ w.heap.size := h.jw.size
theorem JS.setb {base g : Nat} {ok : Nat → Prop} {w0 : World} {cur : List S82} {w : World} (h : JS base ok w0 g cur w) {p : Addr} (hn : w0.heap.size ≤ p.block) {c : Array Value} {q : TypeId} (hp : w.heap[p.block]? = some (.cells c q (0, 0))) (v : Value) (hq : q ∉ JT) : JS base ok w0 g cur (w.setCell p v) := h.set_ v hn c q _ hp hq
theorem JK.drewN {w W : World} (h : JK w W) (n : Nat) : JK w (W.drewN n) := h.trans (JK.of_below (pw_below_drewN (Below.refl _ _) n))
theorem JK.drew {w W : World} (h : JK w W) : JK w W.drew := h.trans (JK.of_below (below_drew1 (Below.refl _ _)))
theorem JK.alloc {w W : World} (h : JK w W) (o : Obj) : JK w (W.alloc o) := h.trans (JK.of_below (below_alloc (Below.refl _ _) o))
theorem JK.setb {w W : World} (h : JK w W) {p : Addr} (hn : w.heap.size ≤ p.block) (v : Value) : JK w (W.setCell p v) :=
 ⟨by simpa [World.setCell] using h.size, fun k cells q x hk hq => (Below.heap_setCell W p v k (fun e => by have := blk_lt hk; omega)).trans (h.keep k cells q x hk hq)⟩
theorem js_get {base g : Nat} {ok : Nat → Prop} {w0 : World} {cur : List S82} (key v : ByteArray) (b : Bool) {w : World} (h : JS base ok w0 g cur w) (hk : KV 1000000 cur) (hv : (getK cur key).1 = v) (hb : hasK cur key = b) :
  Calls Tryz.prog 20 #[.pointer (some ⟨g, 0, none⟩), .string key] w fun e w' => e = .returned (.tuple #[.string v, .bool b]) ∧ Below w.heap.size w w' := by
 have e : (getK cur key).2 = hasK cur key := by unfold getK; cases hasK cur key <;> rfl
 rw [← hv, ← hb, ← e]
 exact j_get base g _ ⟨cur, []⟩ key w h.m (Nat.le_trans hk.len (by decide))
theorem js_set {base g : Nat} {ok : Nat → Prop} {w0 : World} {cur : List S82} (key value : ByteArray) {w : World} (h : JS base ok w0 g cur w) (hk : KV 1000000 cur) :
  Calls Tryz.prog 57 #[.pointer (some ⟨g, 0, none⟩), .string key, .string value] w fun e w' => e = .returned (.int .i64 (setE key value)) ∧ JS base ok w0 g (setC cur key value) w' ∧ JK w w' := by
 have := j_set base g (BD base ok w0 w) ⟨cur, []⟩ key value w h.bd (Nat.le_trans hk.len (by decide)) (by simp) (by simp) h.hb
 rw [setJ0] at this
 exact this.mono (fun e w' hp => h.post hp)
theorem js_del {base g : Nat} {ok : Nat → Prop} {w0 : World} {cur : List S82} (key : ByteArray) {w : World} (h : JS base ok w0 g cur w) (hk : KV 1000000 cur) :
  Calls Tryz.prog 30 #[.pointer (some ⟨g, 0, none⟩), .string key] w fun e w' => e = .returned (.int .i64 (delE ⟨cur, []⟩ key)) ∧ JS base ok w0 g (delK cur key) w' ∧ JK w w' := by
 have := j_del base g (BD base ok w0 w) ⟨cur, []⟩ key w h.bd (Nat.le_trans hk.len (by decide)) (by simp) (by simp) h.hb
 rw [delJ0] at this
 exact this.mono (fun e w' hp => h.post hp)
def numK (cur : List S82) (key : ByteArray) : Int := if rDone (rNum (getK cur key).1 0).2.1 (rNum (getK cur key).1 0).2.2 = 0 then (rNum (getK cur key).1 0).1 else 0
theorem cellsN1 {w : World} {g : Nat} {a0 : Value} {t : TypeId} (h : w.heap[g]? = some (.cells #[a0] t (0, 0))) : w.cell? ⟨g, 0, none⟩ = some a0 ∧ w.frozen? ⟨g, 0, none⟩ = false :=
 ⟨(blk_cell h 0).trans rfl, blk_frozen h 0⟩
theorem cellsN4 {w : World} {g : Nat} {a0 a1 a2 a3 : Value} {t : TypeId} (h : w.heap[g]? = some (.cells #[a0, a1, a2, a3] t (0, 0))) : w.cell? ⟨g, 0, none⟩ = some a0 ∧ w.frozen? ⟨g, 0, none⟩ = false ∧ w.cell? ⟨g, 1, none⟩ = some a1 ∧ w.frozen? ⟨g, 1, none⟩ = false ∧ w.cell? ⟨g, 2, none⟩ = some a2 ∧ w.frozen? ⟨g, 2, none⟩ = false ∧ w.cell? ⟨g, 3, none⟩ = some a3 ∧ w.frozen? ⟨g, 3, none⟩ = false :=
 ⟨(blk_cell h 0).trans rfl, blk_frozen h 0, (blk_cell h 1).trans rfl, blk_frozen h 1, (blk_cell h 2).trans rfl, blk_frozen h 2, (blk_cell h 3).trans rfl, blk_frozen h 3⟩
theorem cellsN5 {w : World} {g : Nat} {a0 a1 a2 a3 a4 : Value} {t : TypeId} (h : w.heap[g]? = some (.cells #[a0, a1, a2, a3, a4] t (0, 0))) : w.cell? ⟨g, 0, none⟩ = some a0 ∧ w.frozen? ⟨g, 0, none⟩ = false ∧ w.cell? ⟨g, 1, none⟩ = some a1 ∧ w.frozen? ⟨g, 1, none⟩ = false ∧ w.cell? ⟨g, 2, none⟩ = some a2 ∧ w.frozen? ⟨g, 2, none⟩ = false ∧ w.cell? ⟨g, 3, none⟩ = some a3 ∧ w.frozen? ⟨g, 3, none⟩ = false ∧ w.cell? ⟨g, 4, none⟩ = some a4 ∧ w.frozen? ⟨g, 4, none⟩ = false :=
 ⟨(blk_cell h 0).trans rfl, blk_frozen h 0, (blk_cell h 1).trans rfl, blk_frozen h 1, (blk_cell h 2).trans rfl, blk_frozen h 2, (blk_cell h 3).trans rfl, blk_frozen h 3, (blk_cell h 4).trans rfl, blk_frozen h 4⟩
theorem cellsN7 {w : World} {g : Nat} {a0 a1 a2 a3 a4 a5 a6 : Value} {t : TypeId} (h : w.heap[g]? = some (.cells #[a0, a1, a2, a3, a4, a5, a6] t (0, 0))) : w.cell? ⟨g, 0, none⟩ = some a0 ∧ w.frozen? ⟨g, 0, none⟩ = false ∧ w.cell? ⟨g, 1, none⟩ = some a1 ∧ w.frozen? ⟨g, 1, none⟩ = false ∧ w.cell? ⟨g, 2, none⟩ = some a2 ∧ w.frozen? ⟨g, 2, none⟩ = false ∧ w.cell? ⟨g, 3, none⟩ = some a3 ∧ w.frozen? ⟨g, 3, none⟩ = false ∧ w.cell? ⟨g, 4, none⟩ = some a4 ∧ w.frozen? ⟨g, 4, none⟩ = false ∧ w.cell? ⟨g, 5, none⟩ = some a5 ∧ w.frozen? ⟨g, 5, none⟩ = false ∧ w.cell? ⟨g, 6, none⟩ = some a6 ∧ w.frozen? ⟨g, 6, none⟩ = false :=
 ⟨(blk_cell h 0).trans rfl, blk_frozen h 0, (blk_cell h 1).trans rfl, blk_frozen h 1, (blk_cell h 2).trans rfl, blk_frozen h 2, (blk_cell h 3).trans rfl, blk_frozen h 3, (blk_cell h 4).trans rfl, blk_frozen h 4, (blk_cell h 5).trans rfl, blk_frozen h 5, (blk_cell h 6).trans rfl, blk_frozen h 6⟩
theorem blk_fin {w : World} {g : Nat} {c c' : Array Value} {q : TypeId} (h : w.heap[g]? = some (.cells c q (0, 0))) (e : c = c') : w.heap[g]? = some (.cells c' q (0, 0)) := e ▸ h
theorem blk_put_ {w : World} {g : Nat} {q : TypeId} {cs : Array Value} {k : Nat} {v : Value} (h : w.heap[g]? = some (.cells cs q (0, 0))) : (w.setCell ⟨g, k, none⟩ v).heap[g]? = some (.cells (cs.setIfInBounds k v) q (0, 0)) := blk_put h k v rfl
theorem blk_far_ {w : World} {g b k : Nat} {t : TypeId} {cs : Array Value} {u : Value} (hp : g ≠ b) (h : w.heap[g]? = some (.cells cs t (0, 0))) : (w.setCell ⟨b, k, none⟩ u).heap[g]? = some (.cells cs t (0, 0)) := blk_far h hp u
theorem bkR_a {p : Prop} (h : p := by repeat (with_reducible first | exact BKa.out | apply blk_drewN | apply blk_drew | apply blk_alloc | apply blk_put_ | apply blk_far_ NBa_c.out | apply blk_far_ NBa_d.out | apply blk_far_ NBa_h.out | apply blk_far_ NBa_j.out | apply blk_far_ NBa_m.out | apply blk_far_ NBa_n.out | apply blk_far_ NBa_q.out | apply blk_far_ NBa_t.out | apply blk_far_ NBa_x.out | apply blk_far_ NBa_y.out | apply blk_far_ NBa_z.out | apply blk_far_ NBa_s.out | apply blk_far_ NBa_p.out | apply blk_far_ NBa_b.out | apply blk_far_ NBa_e.out)) : p := h
theorem bkR_c {p : Prop} (h : p := by repeat (with_reducible first | exact BKc.out | apply blk_drewN | apply blk_drew | apply blk_alloc | apply blk_put_ | apply blk_far_ NBc_a.out | apply blk_far_ NBc_d.out | apply blk_far_ NBc_h.out | apply blk_far_ NBc_j.out | apply blk_far_ NBc_m.out | apply blk_far_ NBc_n.out | apply blk_far_ NBc_q.out | apply blk_far_ NBc_t.out | apply blk_far_ NBc_x.out | apply blk_far_ NBc_y.out | apply blk_far_ NBc_z.out | apply blk_far_ NBc_s.out | apply blk_far_ NBc_p.out | apply blk_far_ NBc_b.out | apply blk_far_ NBc_e.out)) : p := h
theorem bkG_c {p : Prop} (h : p := by first | (with_reducible exact BKc.out) | exact blk_fin bkR_c (by rfl) | exact BKc.out) : p := h
theorem bkR_d {p : Prop} (h : p := by repeat (with_reducible first | exact BKd.out | apply blk_drewN | apply blk_drew | apply blk_alloc | apply blk_put_ | apply blk_far_ NBd_a.out | apply blk_far_ NBd_c.out | apply blk_far_ NBd_h.out | apply blk_far_ NBd_j.out | apply blk_far_ NBd_m.out | apply blk_far_ NBd_n.out | apply blk_far_ NBd_q.out | apply blk_far_ NBd_t.out | apply blk_far_ NBd_x.out | apply blk_far_ NBd_y.out | apply blk_far_ NBd_z.out | apply blk_far_ NBd_s.out | apply blk_far_ NBd_p.out | apply blk_far_ NBd_b.out | apply blk_far_ NBd_e.out)) : p := h
theorem bkG_d {p : Prop} (h : p := by first | (with_reducible exact BKd.out) | exact blk_fin bkR_d (by rfl) | exact BKd.out) : p := h
theorem bkR_h {p : Prop} (h : p := by repeat (with_reducible first | exact BKh.out | apply blk_drewN | apply blk_drew | apply blk_alloc | apply blk_put_ | apply blk_far_ NBh_a.out | apply blk_far_ NBh_c.out | apply blk_far_ NBh_d.out | apply blk_far_ NBh_j.out | apply blk_far_ NBh_m.out | apply blk_far_ NBh_n.out | apply blk_far_ NBh_q.out | apply blk_far_ NBh_t.out | apply blk_far_ NBh_x.out | apply blk_far_ NBh_y.out | apply blk_far_ NBh_z.out | apply blk_far_ NBh_s.out | apply blk_far_ NBh_p.out | apply blk_far_ NBh_b.out | apply blk_far_ NBh_e.out)) : p := h
theorem bkR_j {p : Prop} (h : p := by repeat (with_reducible first | exact BKj.out | apply blk_drewN | apply blk_drew | apply blk_alloc | apply blk_put_ | apply blk_far_ NBj_a.out | apply blk_far_ NBj_c.out | apply blk_far_ NBj_d.out | apply blk_far_ NBj_h.out | apply blk_far_ NBj_m.out | apply blk_far_ NBj_n.out | apply blk_far_ NBj_q.out | apply blk_far_ NBj_t.out | apply blk_far_ NBj_x.out | apply blk_far_ NBj_y.out | apply blk_far_ NBj_z.out | apply blk_far_ NBj_s.out | apply blk_far_ NBj_p.out | apply blk_far_ NBj_b.out | apply blk_far_ NBj_e.out)) : p := h
theorem bkG_j {p : Prop} (h : p := by first | (with_reducible exact BKj.out) | exact blk_fin bkR_j (by rfl) | exact BKj.out) : p := h
theorem bkR_m {p : Prop} (h : p := by repeat (with_reducible first | exact BKm.out | apply blk_drewN | apply blk_drew | apply blk_alloc | apply blk_put_ | apply blk_far_ NBm_a.out | apply blk_far_ NBm_c.out | apply blk_far_ NBm_d.out | apply blk_far_ NBm_h.out | apply blk_far_ NBm_j.out | apply blk_far_ NBm_n.out | apply blk_far_ NBm_q.out | apply blk_far_ NBm_t.out | apply blk_far_ NBm_x.out | apply blk_far_ NBm_y.out | apply blk_far_ NBm_z.out | apply blk_far_ NBm_s.out | apply blk_far_ NBm_p.out | apply blk_far_ NBm_b.out | apply blk_far_ NBm_e.out)) : p := h
theorem bkR_n {p : Prop} (h : p := by repeat (with_reducible first | exact BKn.out | apply blk_drewN | apply blk_drew | apply blk_alloc | apply blk_put_ | apply blk_far_ NBn_a.out | apply blk_far_ NBn_c.out | apply blk_far_ NBn_d.out | apply blk_far_ NBn_h.out | apply blk_far_ NBn_j.out | apply blk_far_ NBn_m.out | apply blk_far_ NBn_q.out | apply blk_far_ NBn_t.out | apply blk_far_ NBn_x.out | apply blk_far_ NBn_y.out | apply blk_far_ NBn_z.out | apply blk_far_ NBn_s.out | apply blk_far_ NBn_p.out | apply blk_far_ NBn_b.out | apply blk_far_ NBn_e.out)) : p := h
theorem bkG_n {p : Prop} (h : p := by first | (with_reducible exact BKn.out) | exact blk_fin bkR_n (by rfl) | exact BKn.out) : p := h
theorem bkR_q {p : Prop} (h : p := by repeat (with_reducible first | exact BKq.out | apply blk_drewN | apply blk_drew | apply blk_alloc | apply blk_put_ | apply blk_far_ NBq_a.out | apply blk_far_ NBq_c.out | apply blk_far_ NBq_d.out | apply blk_far_ NBq_h.out | apply blk_far_ NBq_j.out | apply blk_far_ NBq_m.out | apply blk_far_ NBq_n.out | apply blk_far_ NBq_t.out | apply blk_far_ NBq_x.out | apply blk_far_ NBq_y.out | apply blk_far_ NBq_z.out | apply blk_far_ NBq_s.out | apply blk_far_ NBq_p.out | apply blk_far_ NBq_b.out | apply blk_far_ NBq_e.out)) : p := h
theorem bkG_q {p : Prop} (h : p := by first | (with_reducible exact BKq.out) | exact blk_fin bkR_q (by rfl) | exact BKq.out) : p := h
theorem bkR_t {p : Prop} (h : p := by repeat (with_reducible first | exact BKt.out | apply blk_drewN | apply blk_drew | apply blk_alloc | apply blk_put_ | apply blk_far_ NBt_a.out | apply blk_far_ NBt_c.out | apply blk_far_ NBt_d.out | apply blk_far_ NBt_h.out | apply blk_far_ NBt_j.out | apply blk_far_ NBt_m.out | apply blk_far_ NBt_n.out | apply blk_far_ NBt_q.out | apply blk_far_ NBt_x.out | apply blk_far_ NBt_y.out | apply blk_far_ NBt_z.out | apply blk_far_ NBt_s.out | apply blk_far_ NBt_p.out | apply blk_far_ NBt_b.out | apply blk_far_ NBt_e.out)) : p := h
theorem bkG_t {p : Prop} (h : p := by first | (with_reducible exact BKt.out) | exact blk_fin bkR_t (by rfl) | exact BKt.out) : p := h
theorem bkR_x {p : Prop} (h : p := by repeat (with_reducible first | exact BKx.out | apply blk_drewN | apply blk_drew | apply blk_alloc | apply blk_put_ | apply blk_far_ NBx_a.out | apply blk_far_ NBx_c.out | apply blk_far_ NBx_d.out | apply blk_far_ NBx_h.out | apply blk_far_ NBx_j.out | apply blk_far_ NBx_m.out | apply blk_far_ NBx_n.out | apply blk_far_ NBx_q.out | apply blk_far_ NBx_t.out | apply blk_far_ NBx_y.out | apply blk_far_ NBx_z.out | apply blk_far_ NBx_s.out | apply blk_far_ NBx_p.out | apply blk_far_ NBx_b.out | apply blk_far_ NBx_e.out)) : p := h
theorem bkG_x {p : Prop} (h : p := by first | (with_reducible exact BKx.out) | exact blk_fin bkR_x (by rfl) | exact BKx.out) : p := h
theorem bkR_y {p : Prop} (h : p := by repeat (with_reducible first | exact BKy.out | apply blk_drewN | apply blk_drew | apply blk_alloc | apply blk_put_ | apply blk_far_ NBy_a.out | apply blk_far_ NBy_c.out | apply blk_far_ NBy_d.out | apply blk_far_ NBy_h.out | apply blk_far_ NBy_j.out | apply blk_far_ NBy_m.out | apply blk_far_ NBy_n.out | apply blk_far_ NBy_q.out | apply blk_far_ NBy_t.out | apply blk_far_ NBy_x.out | apply blk_far_ NBy_z.out | apply blk_far_ NBy_s.out | apply blk_far_ NBy_p.out | apply blk_far_ NBy_b.out | apply blk_far_ NBy_e.out)) : p := h
theorem bkG_y {p : Prop} (h : p := by first | (with_reducible exact BKy.out) | exact blk_fin bkR_y (by rfl) | exact BKy.out) : p := h
theorem bkR_z {p : Prop} (h : p := by repeat (with_reducible first | exact BKz.out | apply blk_drewN | apply blk_drew | apply blk_alloc | apply blk_put_ | apply blk_far_ NBz_a.out | apply blk_far_ NBz_c.out | apply blk_far_ NBz_d.out | apply blk_far_ NBz_h.out | apply blk_far_ NBz_j.out | apply blk_far_ NBz_m.out | apply blk_far_ NBz_n.out | apply blk_far_ NBz_q.out | apply blk_far_ NBz_t.out | apply blk_far_ NBz_x.out | apply blk_far_ NBz_y.out | apply blk_far_ NBz_s.out | apply blk_far_ NBz_p.out | apply blk_far_ NBz_b.out | apply blk_far_ NBz_e.out)) : p := h
theorem bkR_s {p : Prop} (h : p := by repeat (with_reducible first | exact BKs.out | apply blk_drewN | apply blk_drew | apply blk_alloc | apply blk_put_ | apply blk_far_ NBs_a.out | apply blk_far_ NBs_c.out | apply blk_far_ NBs_d.out | apply blk_far_ NBs_h.out | apply blk_far_ NBs_j.out | apply blk_far_ NBs_m.out | apply blk_far_ NBs_n.out | apply blk_far_ NBs_q.out | apply blk_far_ NBs_t.out | apply blk_far_ NBs_x.out | apply blk_far_ NBs_y.out | apply blk_far_ NBs_z.out | apply blk_far_ NBs_p.out | apply blk_far_ NBs_b.out | apply blk_far_ NBs_e.out)) : p := h
theorem bkR_p {p : Prop} (h : p := by repeat (with_reducible first | exact BKp.out | apply blk_drewN | apply blk_drew | apply blk_alloc | apply blk_put_ | apply blk_far_ NBp_a.out | apply blk_far_ NBp_c.out | apply blk_far_ NBp_d.out | apply blk_far_ NBp_h.out | apply blk_far_ NBp_j.out | apply blk_far_ NBp_m.out | apply blk_far_ NBp_n.out | apply blk_far_ NBp_q.out | apply blk_far_ NBp_t.out | apply blk_far_ NBp_x.out | apply blk_far_ NBp_y.out | apply blk_far_ NBp_z.out | apply blk_far_ NBp_s.out | apply blk_far_ NBp_b.out | apply blk_far_ NBp_e.out)) : p := h
theorem bkR_b {p : Prop} (h : p := by repeat (with_reducible first | exact BKb.out | apply blk_drewN | apply blk_drew | apply blk_alloc | apply blk_put_ | apply blk_far_ NBb_a.out | apply blk_far_ NBb_c.out | apply blk_far_ NBb_d.out | apply blk_far_ NBb_h.out | apply blk_far_ NBb_j.out | apply blk_far_ NBb_m.out | apply blk_far_ NBb_n.out | apply blk_far_ NBb_q.out | apply blk_far_ NBb_t.out | apply blk_far_ NBb_x.out | apply blk_far_ NBb_y.out | apply blk_far_ NBb_z.out | apply blk_far_ NBb_s.out | apply blk_far_ NBb_p.out | apply blk_far_ NBb_e.out)) : p := h
theorem bkR_e {p : Prop} (h : p := by repeat (with_reducible first | exact BKe.out | apply blk_drewN | apply blk_drew | apply blk_alloc | apply blk_put_ | apply blk_far_ NBe_a.out | apply blk_far_ NBe_c.out | apply blk_far_ NBe_d.out | apply blk_far_ NBe_h.out | apply blk_far_ NBe_j.out | apply blk_far_ NBe_m.out | apply blk_far_ NBe_n.out | apply blk_far_ NBe_q.out | apply blk_far_ NBe_t.out | apply blk_far_ NBe_x.out | apply blk_far_ NBe_y.out | apply blk_far_ NBe_z.out | apply blk_far_ NBe_s.out | apply blk_far_ NBe_p.out | apply blk_far_ NBe_b.out)) : p := h
theorem jsG {p : Prop} (h : p := by (repeat (with_reducible first | exact HJ.out | apply JS.drewN | apply JS.drew | apply JS.alloc | refine JS.setb ?_ GJa.out bkR_a _ (by decide) | refine JS.setb ?_ GJc.out bkR_c _ (by decide) | refine JS.setb ?_ GJd.out bkR_d _ (by decide) | refine JS.setb ?_ GJh.out bkR_h _ (by decide) | refine JS.setb ?_ GJj.out bkR_j _ (by decide) | refine JS.setb ?_ GJm.out bkR_m _ (by decide) | refine JS.setb ?_ GJn.out bkR_n _ (by decide) | refine JS.setb ?_ GJq.out bkR_q _ (by decide) | refine JS.setb ?_ GJt.out bkR_t _ (by decide) | refine JS.setb ?_ GJx.out bkR_x _ (by decide) | refine JS.setb ?_ GJy.out bkR_y _ (by decide) | refine JS.setb ?_ GJz.out bkR_z _ (by decide) | refine JS.setb ?_ GJs.out bkR_s _ (by decide) | refine JS.setb ?_ GJp.out bkR_p _ (by decide) | refine JS.setb ?_ GJb.out bkR_b _ (by decide) | refine JS.setb ?_ GJe.out bkR_e _ (by decide))); first | done | exact HJ.out) : p := h
theorem jkG {p : Prop} (h : p := by (repeat (with_reducible first | exact HK.out | apply JK.drewN | apply JK.drew | apply JK.alloc | refine JK.setb ?_ GKa.out _ | refine JK.setb ?_ GKc.out _ | refine JK.setb ?_ GKd.out _ | refine JK.setb ?_ GKh.out _ | refine JK.setb ?_ GKj.out _ | refine JK.setb ?_ GKm.out _ | refine JK.setb ?_ GKn.out _ | refine JK.setb ?_ GKq.out _ | refine JK.setb ?_ GKt.out _ | refine JK.setb ?_ GKx.out _ | refine JK.setb ?_ GKy.out _ | refine JK.setb ?_ GKz.out _ | refine JK.setb ?_ GKs.out _ | refine JK.setb ?_ GKp.out _ | refine JK.setb ?_ GKb.out _ | refine JK.setb ?_ GKe.out _)); first | done | exact HK.out) : p := h
theorem blwG {p : Prop} (h : p := by (repeat (with_reducible first | exact HB.out | apply below_alloc | apply pw_below_drewN | apply below_drew1 | refine below_set ?_ GEa.out | refine below_set ?_ GEc.out | refine below_set ?_ GEd.out | refine below_set ?_ GEh.out | refine below_set ?_ GEj.out | refine below_set ?_ GEm.out | refine below_set ?_ GEn.out | refine below_set ?_ GEq.out | refine below_set ?_ GEt.out | refine below_set ?_ GEx.out | refine below_set ?_ GEy.out | refine below_set ?_ GEz.out | refine below_set ?_ GEs.out | refine below_set ?_ GEp.out | refine below_set ?_ GEb.out | refine below_set ?_ GEe.out)); first | done | exact HB.out) : p := h
theorem rdG_r {p : Prop} (h : p := by (repeat (with_reducible first | exact HIr.out | apply IsS88.drewN | apply IsS88.drew | apply IsS88.alloc | refine IsS88.far ?_ NRr_a.out _ | refine IsS88.far ?_ NRr_c.out _ | refine IsS88.far ?_ NRr_d.out _ | refine IsS88.far ?_ NRr_h.out _ | refine IsS88.far ?_ NRr_j.out _ | refine IsS88.far ?_ NRr_m.out _ | refine IsS88.far ?_ NRr_n.out _ | refine IsS88.far ?_ NRr_q.out _ | refine IsS88.far ?_ NRr_t.out _ | refine IsS88.far ?_ NRr_x.out _ | refine IsS88.far ?_ NRr_y.out _ | refine IsS88.far ?_ NRr_z.out _ | refine IsS88.far ?_ NRr_s.out _ | refine IsS88.far ?_ NRr_p.out _ | refine IsS88.far ?_ NRr_b.out _ | refine IsS88.far ?_ NRr_e.out _)); first | done | exact HIr.out) : p := h
theorem cl_supply {base g : Nat} {ok : Nat → Prop} {w0 : World} {cur : List S82} (id : ByteArray) {w : World} (h : JS base ok w0 g cur w) (hk : KV 1000000 cur) (hid : id.size ≤ 50000000) :
  Calls Tryz.prog 15 #[.pointer (some ⟨g, 0, none⟩), .string id] w fun e w' => e = .returned (.int .i64 (numK cur (keyB (⟨#[115, 117, 112, 112, 108, 121]⟩ : ByteArray) [id]))) ∧ Below w.heap.size w w' := by
 obtain ⟨y1, hy1⟩ : ∃ y : List ByteArray, y = [id] := ⟨_, rfl⟩
 obtain ⟨k1, key1⟩ := key_ev (⟨#[115, 117, 112, 112, 108, 121]⟩ : ByteArray) y1 (by decide) (by rw [hy1]; simp) (by rw [hy1]; simpa using hid)
 have Ny1 := As_ hy1
 have HJ := As_ h
 have HB := As_ (Below.refl w.heap.size w)
 clear h
 generalize hkey : keyB (⟨#[115, 117, 112, 112, 108, 121]⟩ : ByteArray) y1 = key at key1
 have ekey : keyB (⟨#[115, 117, 112, 112, 108, 121]⟩ : ByteArray) [id] = key := by rw [← hy1]; exact hkey
 rw [ekey]
 clear hy1 hkey ekey
 obtain ⟨v, hv⟩ : ∃ v, (getK cur key).1 = v := ⟨_, rfl⟩
 obtain ⟨q1, q2, q3, hq⟩ : ∃ a b c, rNum v 0 = (a, b, c) := ⟨_, _, _, rfl⟩
 have hnum : wire_Reader_Num.f v 0 = some (q1, q2, q3) := by rw [rNum_is, hq]
 have hres : numK cur key = if rDone q2 q3 = 0 then q1 else 0 := by unfold numK; rw [hv, hq]
 rw [hres]
 clear hq hres
 go_enter Tryz.func15, Tryz.ntmps15
 go_wp2_with (first | ((with_reducible refine gate_dst (N := 12) rfl ?_); (try (refine gate_guard (by rfl) ?_; dsimp only)); refine Kd.R_lit Kd.string _ 9 ?hg (N := 12) ?hd (xs := ([id] : List ByteArray)) (inner := [.string id]) (ok := fun _ => True) (okp := fun _ => True) ?hr ?hp (fun _ hk => hk) trivial (Below.refl _ _) (Nat.le_refl _) (by simp) ?_; (case hd => rfl); (case hg => rfl); (case hr => first | (go_simp; done) | (go_simp; rfl)); (case hp => exact (Reps.one (show Kd.M Kd.string _ _ _ id [.string id] from rfl) (Reps.none _ _))); intro vlit wy1 hlit hb hg_ hnew_; clear hg_ hnew_; rw [← Ny1.out] at hlit; obtain ⟨Ay1, cy1, el_⟩ := Kd.R_slice hlit; subst el_; have Ry1 := As_ hlit; clear hlit; replace HB := As_ (below_step (blwG) hb); replace HJ := As_ (JS.below (base := base) (ok := ok) (w0 := w0) (g := g) (cur := cur) (jsG) hb); clear hb))
 refine (path_Join.calls k1 (⟨#[115, 117, 112, 112, 108, 121]⟩ : ByteArray) Ay1 cy1 y1 key _ (Kd.R_reads' Ry1.out).2.2 (Kd.R_reads' Ry1.out).2.1 key1).mono ?_
 rintro e w1 ⟨rfl, hb⟩
 replace HB := As_ (below_step (blwG) hb)
 replace HJ := As_ (JS.below (base := base) (ok := ok) (w0 := w0) (g := g) (cur := cur) (jsG) hb)
 clear hb
 clear Ry1 Ny1
 go_wp2_with fail
 refine (js_get key v _ HJ.out hk hv rfl).mono ?_
 rintro e w2 ⟨rfl, hb⟩
 replace HB := As_ (below_step (blwG) hb)
 replace HJ := As_ (JS.below (base := base) (ok := ok) (w0 := w0) (g := g) (cur := cur) (jsG) hb)
 clear hb
 go_wp2_with fail
 refine (wire_New.calls v v 0 w _ (blwG) rfl).mono ?_
 rintro e w_1 ⟨grr, rfl, hI, _, hb⟩
 replace HB := As_ (below_step (blwG) hb)
 clear hb
 have HIr := As_ hI
 clear hI
 go_wp2_with fail
 refine (wire_Reader_Num.calls grr v 0 _ _ _ w _ (rdG_r) (blwG) hnum).mono ?_
 rintro e w_2 ⟨rfl, hI, hB, hK⟩
 replace HB := As_ (hB)
 replace HIr := As_ (hI)
 clear hI hB hK
 go_wp2_with fail
 refine (wire_Reader_Done.calls grr q2 q3 _ _ _ w _ (rdG_r) (blwG) (rDone_is q2 q3)).mono ?_
 rintro e w_3 ⟨rfl, hI, hB, hK⟩
 replace HB := As_ (hB)
 replace HIr := As_ (hI)
 clear hI hB hK
 by_cases hd : rDone q2 q3 = 0
 ·go_wp2
  go_ret
  exact ⟨rfl, HB.out⟩
 ·go_wp2
  go_ret
  exact ⟨rfl, HB.out⟩
def class_key.f (k : Nat) (a0 : ByteArray) : Option (ByteArray) := (path_Join.f k (⟨#[99, 108, 97, 115, 115]⟩ : ByteArray) (([a0] : List ByteArray))).bind fun t151 => (some t151)
theorem class_key.mono : ∀ a0 k, LeO (class_key.f k a0) (class_key.f (k + 1) a0) := by
 intro a0 k
 unfold class_key.f
 repeat' first
   | (with_reducible exact path_Join.mono _ _ _)
   | (with_reducible exact LeO.refl _)
   | (with_reducible exact LeO.none _)
   | (with_reducible refine LeO.ite ?_ ?_)
   | (with_reducible refine LeO.bind ?_ (fun _ => ?_))
   | exact path_Join.mono _ _ _
   | exact LeO.none _
   | refine LeO.ite ?_ ?_
   | refine LeO.bind ?_ (fun _ => ?_)
theorem class_key.calls (k : Nat) (a0 : ByteArray) (r : ByteArray) (w : World) (h : class_key.f k a0 = some r) :
  Calls Tryz.prog 63 #[.string a0] w fun e w' => e = .returned (.string r) ∧ Below w.heap.size w w' := by
 have HB := As_ (Below.refl w.heap.size w)
 have H : ((path_Join.f k (⟨#[99, 108, 97, 115, 115]⟩ : ByteArray) (([a0] : List ByteArray))).bind fun t151 => (some t151)) = some r := h
 clear h
 obtain ⟨y148, hy148⟩ : ∃ y_ : List ByteArray, y_ = (([a0] : List ByteArray)) := ⟨_, rfl⟩
 replace H : ((path_Join.f k (⟨#[99, 108, 97, 115, 115]⟩ : ByteArray) y148).bind fun t151 => (some t151)) = some r := by first | (rw [hy148]; with_reducible exact H) | (have H2_ := (Option.bind_some _ _).symm.trans H; rw [hy148]; with_reducible exact H2_) | (have H2_ := (Option.bind_some _ _).symm.trans H; with_reducible exact H2_) | with_reducible exact H | (rw [hy148]; exact H) | exact H
 have Ny148 := As_ hy148
 clear hy148
 replace H := Option.bind_eq_some_iff.mp H
 obtain ⟨t151, A20, H⟩ := H
 try dsimp only at H
 have A2 := As_ A20
 clear A20
 obtain rfl := Option.some.inj H
 go_enter Tryz.func63, Tryz.ntmps63
 go_wp2_with (first | ((with_reducible refine gate_dst (N := 4) rfl ?_); refine Kd.R_lit Kd.string _ 9 ?hg (N := 4) ?hd (xs := ([a0] : List ByteArray)) (inner := [.string a0]) (ok := fun _ => True) (okp := fun _ => True) ?hr ?hp (fun _ hk => hk) trivial (Below.refl _ _) (Nat.le_refl _) (by simp) ?_; (case hd => rfl); (case hg => rfl); (case hr => first | (go_simp; done) | (go_simp; rfl)); (case hp => exact (Reps.one (show Kd.M Kd.string _ _ _ a0 [.string a0] from rfl) (Reps.none _ _))); intro v149 w3 ho4 hb hg_ hnew_; clear hg_ hnew_; (first | rw [← Ny148.out] at ho4 | (simp only [Int.reduceToNat] at ho4; rw [← Ny148.out] at ho4)); have HO150 := As_ (Kd.R_lower ho4 (below_size ap50_)); replace HB := As_ (below_step ap50_ hb); clear hb ho4; obtain ⟨Ao5, co5, eo5⟩ := Kd.R_slice HO150.out; subst eo5) | ((with_reducible refine gate_callee (f := 44) rfl ?_); refine gk_ (some 5) Tryz.func44 #[.string ⟨#[99, 108, 97, 115, 115]⟩, .slice Ao5 y148.length co5] ?_; (with_reducible refine (path_Join.calls k (⟨#[99, 108, 97, 115, 115]⟩ : ByteArray) _ _ y148 t151 _ ?side1 ?side2 A2.out).mono ?_); (case side1 => repeat (first | exact (Kd.R_reads' HO150.out).2.2 | (with_reducible refine Kd.C_alloc ?_ _) | (with_reducible refine Kd.C_drewN ?_ _) | (with_reducible refine Kd.C_drew ?_))); (case side2 => exact (Kd.R_reads' HO150.out).2.1); rintro e w6 ⟨rfl, hb⟩; refine ⟨_, rfl, ?_⟩; replace HO150 := As_ (Kd.R_below (by (with_reducible repeat (first | apply Kd.R_alloc | apply Kd.R_drewN | apply Kd.R_drew)); exact HO150.out) hb); replace HB := As_ (below_step ap50_ hb); (try clear hb); (try clear hb2); (try clear hk); (try clear hi)))
 go_ret
 exact ⟨ap17_, ap50_⟩
theorem clKey_ev (id : ByteArray) (hid : id.size ≤ 50000000) : ∃ k, class_key.f k id = some (keyB (⟨#[99, 108, 97, 115, 115]⟩ : ByteArray) [id]) := by
 obtain ⟨k, e⟩ := key_ev (⟨#[99, 108, 97, 115, 115]⟩ : ByteArray) [id] (by decide) (by simp) (by simpa using hid)
 exact ⟨k, by unfold class_key.f; rw [e]; rfl⟩
def txt3 (v : ByteArray) : ByteArray × ByteArray × ByteArray × Int :=
 ((rText v 0).1, (rText (rText v 0).2.1 (rText v 0).2.2).1, (rText (rText (rText v 0).2.1 (rText v 0).2.2).2.1 (rText (rText v 0).2.1 (rText v 0).2.2).2.2).1,
  rDone (rText (rText (rText v 0).2.1 (rText v 0).2.2).2.1 (rText (rText v 0).2.1 (rText v 0).2.2).2.2).2.1 (rText (rText (rText v 0).2.1 (rText v 0).2.2).2.1 (rText (rText v 0).2.1 (rText v 0).2.2).2.2).2.2)
def clGet (cur : List S82) (id : ByteArray) : ByteArray × ByteArray × ByteArray × ByteArray × Int :=
 if hasK cur (keyB (⟨#[99, 108, 97, 115, 115]⟩ : ByteArray) [id]) = true ∧ (txt3 (getK cur (keyB (⟨#[99, 108, 97, 115, 115]⟩ : ByteArray) [id])).1).2.2.2 = 0 then (id, (txt3 (getK cur (keyB (⟨#[99, 108, 97, 115, 115]⟩ : ByteArray) [id])).1).1, (txt3 (getK cur (keyB (⟨#[99, 108, 97, 115, 115]⟩ : ByteArray) [id])).1).2.1, (txt3 (getK cur (keyB (⟨#[99, 108, 97, 115, 115]⟩ : ByteArray) [id])).1).2.2.1, 0) else ((⟨#[]⟩ : ByteArray), (⟨#[]⟩ : ByteArray), (⟨#[]⟩ : ByteArray), (⟨#[]⟩ : ByteArray), 8)
theorem cl_get {base g : Nat} {ok : Nat → Prop} {w0 : World} {cur : List S82} (id : ByteArray) (x0 x1 x2 x3 : ByteArray) (x4 : Int) {w : World} (h : JS base ok w0 g cur w) (hk : KV 1000000 cur) (hid : id.size ≤ 50000000) (hres : clGet cur id = (x0, x1, x2, x3, x4)) :
  Calls Tryz.prog 54 #[.pointer (some ⟨g, 0, none⟩), .string id] w fun e w' => e = .returned (.tuple #[.agg #[.string x0, .string x1, .string x2, .string x3], .int .i64 x4]) ∧ Below w.heap.size w w' := by
 obtain ⟨k1, key1⟩ := clKey_ev id hid
 have HJ := As_ h
 have HB := As_ (Below.refl w.heap.size w)
 clear h
 unfold clGet at hres
 generalize keyB (⟨#[99, 108, 97, 115, 115]⟩ : ByteArray) [id] = key at key1 hres
 have hvs := hk.get key
 obtain ⟨v, hv⟩ : ∃ v, (getK cur key).1 = v := ⟨_, rfl⟩
 obtain ⟨b, hb0⟩ : ∃ b, hasK cur key = b := ⟨_, rfl⟩
 unfold txt3 at hres
 rw [hv] at hvs
 rw [hv, hb0] at hres
 obtain ⟨t1, s1, e1, hq1⟩ : ∃ a b c, rText v 0 = (a, b, c) := ⟨_, _, _, rfl⟩
 obtain ⟨t2, s2, e2, hq2⟩ : ∃ a b c, rText s1 e1 = (a, b, c) := ⟨_, _, _, rfl⟩
 obtain ⟨t3, s3, e3, hq3⟩ : ∃ a b c, rText s2 e2 = (a, b, c) := ⟨_, _, _, rfl⟩
 have hz1 := rText_sz v 0
 have hz2 := rText_sz s1 e1
 rw [hq1] at hz1
 rw [hq2] at hz2
 dsimp only at hz1 hz2
 have hT1 : wire_Reader_Text.f v 0 = some (t1, s1, e1) := by rw [rText_is _ _ (by omega), hq1]
 have hT2 : wire_Reader_Text.f s1 e1 = some (t2, s2, e2) := by rw [rText_is _ _ (by omega), hq2]
 have hT3 : wire_Reader_Text.f s2 e2 = some (t3, s3, e3) := by rw [rText_is _ _ (by omega), hq3]
 rw [hq1] at hres
 dsimp only at hres
 rw [hq2] at hres
 dsimp only at hres
 rw [hq3] at hres
 dsimp only at hres
 clear hq1 hq2 hq3 hz1 hz2
 go_enter Tryz.func54, Tryz.ntmps54
 go_wp2_with (first | ((with_reducible refine gate_dst (N := 4) rfl ?_); refine bxE (N := 4) (cs := #[.string ⟨#[]⟩, .string ⟨#[]⟩, .string ⟨#[]⟩, .string ⟨#[]⟩]) (t := 66) ?_; intro gbq hg wq hbox hb; have GEq := As_ ((by rw [hg]; exact (below_size (blwG)) : w.heap.size ≤ gbq)); have GJq := As_ ((by rw [hg]; exact JS.size0 (base := base) (ok := ok) (w0 := w0) (g := g) (cur := cur) (jsG) : w0.heap.size ≤ gbq)); replace HB := As_ (below_step (blwG) hb); replace HJ := As_ (JS.below (base := base) (ok := ok) (w0 := w0) (g := g) (cur := cur) (jsG) hb); have BKq := As_ hbox; clear hb hbox hg; obtain ⟨zq_0, fq_0, zq_1, fq_1, zq_2, fq_2, zq_3, fq_3⟩ := cellsN4 BKq.out))
 refine (class_key.calls k1 id key _ key1).mono ?_
 rintro e w1 ⟨rfl, hb⟩
 replace HB := As_ (below_step (blwG) hb)
 replace HJ := As_ (JS.below (base := base) (ok := ok) (w0 := w0) (g := g) (cur := cur) (jsG) hb)
 replace BKq := As_ (blk_below (g := gbq) (o := .cells #[.string ⟨#[]⟩, .string ⟨#[]⟩, .string ⟨#[]⟩, .string ⟨#[]⟩] 66 (0, 0)) (bkG_q) hb)
 clear hb
 go_wp2_with fail
 refine (js_get key v b HJ.out hk hv hb0).mono ?_
 rintro e w2 ⟨rfl, hb⟩
 replace HB := As_ (below_step (blwG) hb)
 replace HJ := As_ (JS.below (base := base) (ok := ok) (w0 := w0) (g := g) (cur := cur) (jsG) hb)
 replace BKq := As_ (blk_below (g := gbq) (o := .cells #[.string ⟨#[]⟩, .string ⟨#[]⟩, .string ⟨#[]⟩, .string ⟨#[]⟩] 66 (0, 0)) (bkG_q) hb)
 clear hb
 go_wp2_with fail
 refine (wire_New.calls v v 0 w _ (blwG) rfl).mono ?_
 rintro e w_7 ⟨grr, rfl, hI, _, hb⟩
 replace HB := As_ (below_step (blwG) hb)
 replace BKq := As_ (blk_below (g := gbq) (o := .cells #[.string ⟨#[]⟩, .string ⟨#[]⟩, .string ⟨#[]⟩, .string ⟨#[]⟩] 66 (0, 0)) (bkG_q) hb)
 clear hb
 have HIr := As_ hI
 clear hI
 have NRr_q := As_ (IsS88.ne_blk HIr.out BKq.out (by decide) : grr ≠ gbq)
 go_wp2_with fail
 refine (wire_Reader_Text.calls grr v 0 _ _ _ w _ (rdG_r) (blwG) hT1).mono ?_
 rintro e w_8 ⟨rfl, hI, hB, hK⟩
 replace HB := As_ (hB)
 replace HIr := As_ (hI)
 replace BKq := As_ (KeepBut.blk (g' := gbq) hK (o := .cells #[.string ⟨#[]⟩, .string ⟨#[]⟩, .string ⟨#[]⟩, .string ⟨#[]⟩] 66 (0, 0)) (bkG_q) NRr_q.out.symm (by simp))
 clear hI hB hK
 go_wp2_with fail
 refine (wire_Reader_Text.calls grr s1 e1 _ _ _ w _ (rdG_r) (blwG) hT2).mono ?_
 rintro e w_9 ⟨rfl, hI, hB, hK⟩
 replace HB := As_ (hB)
 replace HIr := As_ (hI)
 replace BKq := As_ (KeepBut.blk (g' := gbq) hK (o := .cells #[.string ⟨#[]⟩, .string ⟨#[]⟩, .string ⟨#[]⟩, .string ⟨#[]⟩] 66 (0, 0)) (bkG_q) NRr_q.out.symm (by simp))
 clear hI hB hK
 go_wp2_with fail
 refine (wire_Reader_Text.calls grr s2 e2 _ _ _ w _ (rdG_r) (blwG) hT3).mono ?_
 rintro e w_10 ⟨rfl, hI, hB, hK⟩
 replace HB := As_ (hB)
 replace HIr := As_ (hI)
 replace BKq := As_ (KeepBut.blk (g' := gbq) hK (o := .cells #[.string ⟨#[]⟩, .string ⟨#[]⟩, .string ⟨#[]⟩, .string ⟨#[]⟩] 66 (0, 0)) (bkG_q) NRr_q.out.symm (by simp))
 clear hI hB hK
 cases b with
 | false =>
  rw [if_neg (by simp)] at hres
  simp only [Prod.mk.injEq] at hres
  obtain ⟨rfl, rfl, rfl, rfl, rfl⟩ := hres
  go_wp2_with (first | ((with_reducible refine gate_dst (N := 9) rfl ?_); refine bxE (N := 9) (cs := #[.string ⟨#[]⟩, .string ⟨#[]⟩, .string ⟨#[]⟩, .string ⟨#[]⟩]) (t := 66) ?_; intro gbc hg wc hbox hb; have GEc := As_ ((by rw [hg]; exact (below_size (blwG)) : w.heap.size ≤ gbc)); have NBq_c := As_ ((by rw [hg]; exact Nat.ne_of_lt (blk_lt (g := gbq) (o := .cells #[.string ⟨#[]⟩, .string ⟨#[]⟩, .string ⟨#[]⟩, .string ⟨#[]⟩] 66 (0, 0)) (bkG_q)) : gbq ≠ gbc)); have NBc_q := As_ ((by rw [hg]; exact Nat.ne_of_gt (blk_lt (g := gbq) (o := .cells #[.string ⟨#[]⟩, .string ⟨#[]⟩, .string ⟨#[]⟩, .string ⟨#[]⟩] 66 (0, 0)) (bkG_q)) : gbc ≠ gbq)); replace HB := As_ (below_step (blwG) hb); replace BKq := As_ (blk_below (g := gbq) (o := .cells #[.string ⟨#[]⟩, .string ⟨#[]⟩, .string ⟨#[]⟩, .string ⟨#[]⟩] 66 (0, 0)) (bkG_q) hb); replace HIr := As_ (IsS88.below (rdG_r) hb); have BKc := As_ hbox; have NRr_c := As_ (IsS88.ne_blk HIr.out hbox (by decide) : grr ≠ gbc); clear hb hbox hg; obtain ⟨zc_0, fc_0, zc_1, fc_1, zc_2, fc_2, zc_3, fc_3⟩ := cellsN4 BKc.out; have hncq := NBc_q.out; have hmcq := NBq_c.out; obtain ⟨zq_0, fq_0, zq_1, fq_1, zq_2, fq_2, zq_3, fq_3⟩ := cellsN4 BKq.out; have hnqc := NBq_c.out; have hmqc := NBc_q.out))
  refine bodyPost_ret (results_ct rfl _ _ gbq 66 #[.string ⟨#[]⟩, .string ⟨#[]⟩, .string ⟨#[]⟩, .string ⟨#[]⟩] (0, 0) _ rfl (bkG_q) Tryz.underlying66 rfl (by kernel_rfl)) rfl ?_
  exact ⟨by first | rfl | trivial, blwG⟩
 | true =>
  go_wp2_with (first | ((with_reducible refine gate_dst (N := 9) rfl ?_); refine bxE (N := 9) (cs := #[.string ⟨#[]⟩, .string ⟨#[]⟩, .string ⟨#[]⟩, .string ⟨#[]⟩]) (t := 66) ?_; intro gbc hg wc hbox hb; have GEc := As_ ((by rw [hg]; exact (below_size (blwG)) : w.heap.size ≤ gbc)); have NBq_c := As_ ((by rw [hg]; exact Nat.ne_of_lt (blk_lt (g := gbq) (o := .cells #[.string ⟨#[]⟩, .string ⟨#[]⟩, .string ⟨#[]⟩, .string ⟨#[]⟩] 66 (0, 0)) (bkG_q)) : gbq ≠ gbc)); have NBc_q := As_ ((by rw [hg]; exact Nat.ne_of_gt (blk_lt (g := gbq) (o := .cells #[.string ⟨#[]⟩, .string ⟨#[]⟩, .string ⟨#[]⟩, .string ⟨#[]⟩] 66 (0, 0)) (bkG_q)) : gbc ≠ gbq)); replace HB := As_ (below_step (blwG) hb); replace BKq := As_ (blk_below (g := gbq) (o := .cells #[.string ⟨#[]⟩, .string ⟨#[]⟩, .string ⟨#[]⟩, .string ⟨#[]⟩] 66 (0, 0)) (bkG_q) hb); replace HIr := As_ (IsS88.below (rdG_r) hb); have BKc := As_ hbox; have NRr_c := As_ (IsS88.ne_blk HIr.out hbox (by decide) : grr ≠ gbc); clear hb hbox hg; obtain ⟨zc_0, fc_0, zc_1, fc_1, zc_2, fc_2, zc_3, fc_3⟩ := cellsN4 BKc.out; have hncq := NBc_q.out; have hmcq := NBq_c.out; obtain ⟨zq_0, fq_0, zq_1, fq_1, zq_2, fq_2, zq_3, fq_3⟩ := cellsN4 BKq.out; have hnqc := NBq_c.out; have hmqc := NBc_q.out))
  refine (wire_Reader_Done.calls grr s3 e3 _ _ _ w _ (rdG_r) (blwG) (rDone_is s3 e3)).mono ?_
  rintro e w_11 ⟨rfl, hI, hB, hK⟩
  replace HB := As_ (hB)
  replace HIr := As_ (hI)
  replace BKq := As_ (KeepBut.blk (g' := gbq) hK (o := .cells #[.string ⟨#[]⟩, .string ⟨#[]⟩, .string ⟨#[]⟩, .string ⟨#[]⟩] 66 (0, 0)) (bkG_q) NRr_q.out.symm (by simp))
  replace BKc := As_ (KeepBut.blk (g' := gbc) hK (o := .cells #[.string id, .string t1, .string t2, .string t3] 66 (0, 0)) (bkG_c) NRr_c.out.symm (by simp))
  clear hI hB hK
  by_cases hd : rDone s3 e3 = 0
  ·replace hres : (id, t1, t2, t3, (0 : Int)) = (x0, x1, x2, x3, x4) := by simpa [hd] using hres
   simp only [Prod.mk.injEq] at hres
   obtain ⟨rfl, rfl, rfl, rfl, rfl⟩ := hres
   obtain ⟨zq_0, fq_0, zq_1, fq_1, zq_2, fq_2, zq_3, fq_3⟩ := cellsN4 BKq.out
   have hnqc := NBq_c.out
   have hmqc := NBc_q.out
   obtain ⟨zc_0, fc_0, zc_1, fc_1, zc_2, fc_2, zc_3, fc_3⟩ := cellsN4 BKc.out
   have hncq := NBc_q.out
   have hmcq := NBq_c.out
   go_wp2
   refine bodyPost_ret (results_ct rfl _ _ gbq 66 #[.string id, .string t1, .string t2, .string t3] (0, 0) _ rfl (bkG_q) Tryz.underlying66 rfl (by kernel_rfl)) rfl ?_
   exact ⟨by first | rfl | trivial, blwG⟩
  ·replace hres : ((⟨#[]⟩ : ByteArray), (⟨#[]⟩ : ByteArray), (⟨#[]⟩ : ByteArray), (⟨#[]⟩ : ByteArray), (8 : Int)) = (x0, x1, x2, x3, x4) := by simpa [hd] using hres
   simp only [Prod.mk.injEq] at hres
   obtain ⟨rfl, rfl, rfl, rfl, rfl⟩ := hres
   obtain ⟨zq_0, fq_0, zq_1, fq_1, zq_2, fq_2, zq_3, fq_3⟩ := cellsN4 BKq.out
   have hnqc := NBq_c.out
   have hmqc := NBc_q.out
   obtain ⟨zc_0, fc_0, zc_1, fc_1, zc_2, fc_2, zc_3, fc_3⟩ := cellsN4 BKc.out
   have hncq := NBc_q.out
   have hmcq := NBq_c.out
   go_wp2
   refine bodyPost_ret (results_ct rfl _ _ gbq 66 #[.string ⟨#[]⟩, .string ⟨#[]⟩, .string ⟨#[]⟩, .string ⟨#[]⟩] (0, 0) _ rfl (bkG_q) Tryz.underlying66 rfl (by kernel_rfl)) rfl ?_
   exact ⟨by first | rfl | trivial, blwG⟩
end Go.Proofs.YtjappgjpikbdeaaGreatDoor.PTkp
