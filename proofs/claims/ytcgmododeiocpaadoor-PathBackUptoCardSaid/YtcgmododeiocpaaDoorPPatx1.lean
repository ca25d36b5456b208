-- written by wip/myprint.py over the kit's print; not a printed text of print.sh
import Derived.Test.YtcgmododeiocpaaDoorPPatx0
namespace Go.Proofs.YtcgmododeiocpaaDoor.PPat
open Go.RowKit Go.Proofs.YtcgmododeiocpaaDoorW.PrintWords Go.Proofs.YtcgmododeiocpaaDoorW.PrintLast Go.Proofs.YtcgmododeiocpaaDoorW.PrintMore
attribute [local go_sem] max2_int min2_int max_two min_two max_three min_three max_four min_four   -- for this text's walks alone
set_option linter.unusedVariables false
set_option linter.unusedSimpArgs false

/-! ### strings_Split: function 53 -/
def strings_Split.f (a0 a1 : ByteArray) : Option (List ByteArray) := if a1.toList = [47] ∧ a0.size ≤ 100000000 then some (Lib.splitB ⟨#[47]⟩ 0 (Lib.countB a0 ⟨#[47]⟩) a0) else none
set_option maxHeartbeats 1000000 in
set_option maxRecDepth 100000 in
theorem strings_Split.calls (a0 a1 : ByteArray) (r : List ByteArray) (w : World) (h : strings_Split.f a0 a1 = some r) :
    Calls Tryd.prog 53 #[.string a0, .string a1] w fun e w' => ∃ v0_ : Value, e = .returned (v0_) ∧ Kd.R Kd.string 9 w' w.heap.size (fun _ => True) v0_ r ∧ Below w.heap.size w w' := by
  unfold strings_Split.f at h
  by_cases hc : a1.toList = [47] ∧ a0.size ≤ 100000000
  case neg => rw [if_neg hc] at h; exact absurd h (by simp)
  rw [if_pos hc] at h
  obtain ⟨h1, h2⟩ := hc
  have ha : a1 = (⟨#[47]⟩ : ByteArray) := ba_ext (by rw [h1, ByteArray.toList_eq])
  subst ha
  obtain rfl := Option.some.inj h
  have hle := Lib.countB_le (⟨#[47]⟩ : ByteArray) (by decide) a0.size a0 (Nat.le_refl _)
  have hlen := Lib.splitB_all (⟨#[47]⟩ : ByteArray) (by decide) 0 _ a0 rfl
  have hidx : ∀ (x : ByteArray) (W : World), Calls Tryd.prog 122 #[.string x, .string (⟨#[47]⟩ : ByteArray)] W fun e w' => e = .returned (.int .i64 (Lib.indexB x (⟨#[47]⟩ : ByteArray))) ∧ w' = W := fun x W => (Tryd.strings_Index_one x 47 W).mono fun e w' ⟨he, hw⟩ => ⟨by
    rw [he]
    show _ = Ending.returned (Value.int .i64 (Lib.index x.data.toList [47]))
    rw [Lib.index_one], hw⟩
  have hcnt : Calls Tryd.prog 121 #[.string a0, .string (⟨#[47]⟩ : ByteArray)] w fun e w' => e = .returned (.int .i64 (Lib.countB a0 (⟨#[47]⟩ : ByteArray))) ∧ w' = w := (Tryd.strings_Count_one a0 47 w).mono fun e w' ⟨he, hw⟩ => ⟨by
    rw [he]
    show _ = Ending.returned (Value.int .i64 ((Lib.count a0.data.toList [47] : Nat) : Int))
    rw [Lib.count_one]
    rfl, hw⟩
  have c := Any.strings_genSplit_core Tryd.lays221 (by kernel_rfl) a0 (⟨#[47]⟩ : ByteArray) 0 (-1) (Lib.countB a0 (⟨#[47]⟩ : ByteArray) + 1) w (by omega) (by decide) (by decide) (fun x c hx => hidx x _) hcnt (by decide) (by decide) (by rw [if_pos (by decide)]; omega)
  rw [Nat.add_sub_cancel, hlen] at c
  have e2 : Lib.cellsOf (Lib.splitB (⟨#[47]⟩ : ByteArray) 0 (Lib.countB a0 (⟨#[47]⟩ : ByteArray)) a0) (Lib.countB a0 (⟨#[47]⟩ : ByteArray) + 1) = ((Lib.splitB (⟨#[47]⟩ : ByteArray) 0 (Lib.countB a0 (⟨#[47]⟩ : ByteArray)) a0).map Value.string).toArray := by rw [← hlen]; exact Lib.cellsOf_full _
  rw [e2] at c
  replace c := Aside0.mk c
  replace hlen := Aside0.mk hlen
  clear hcnt hidx e2
  go_enter Tryd.func53, Tryd.ntmps53
  go_wp2_with fail
  refine c.out.mono ?_
  rintro e w' ⟨rfl, rfl⟩
  go_wp2
  go_ret
  refine ⟨_, rfl, Kd.R_of_own (enc := Value.string) ?_ (fun _ _ => trivial), (Below.refl w.heap.size w).alloc (Nat.le_refl _) _⟩
  rw [hlen.out]
  refine ⟨by simp [hlen.out, encs], .inr ⟨w.heap.size, _, _, rfl, Nat.le_refl _, my_alloc_new w _, Nat.le_refl _, by unfold maxLen; omega, by simp [hlen.out], by simp only [Nat.mul_one, encs]; exact List.take_of_length_le (by simp [hlen.out])⟩⟩

/-! ### stringslite_Index: function 147 -/
/-- The place of a byte; asked at a text of one byte alone. -/
def stringslite_Index.f (a0 : ByteArray) (a1 : ByteArray) : Option Int := match a1.toList with
  | [c] => some (Lib.indexByte a0.toList c)
  | _ => none
set_option maxHeartbeats 1000000 in
set_option maxRecDepth 100000 in
theorem my_IndexByte (s : ByteArray) (c : Int) (w : World) :
    Calls Tryd.prog 155 #[.string s, .int .u8 c] w fun e w' => e = .returned (.int .i64 (Lib.indexByte s.data.toList c.toNat.toUInt8)) ∧ w' = w := by
  go_enter Tryd.func155, Tryd.ntmps155
  go_wp2
  rw [run_callFunc_extern Tryd.func162 (by kernel_rfl) (by kernel_rfl) (by kernel_rfl) (e := Extern.BytealgIndexByte.indexByte) (by kernel_rfl), Lib.run_indexByteString]
  simp only [Result.andThen]
  rw [Oper.upon_value]
  go_wp2
  go_ret
  exact ⟨rfl, rfl⟩
set_option maxHeartbeats 2000000 in
set_option maxRecDepth 100000 in
theorem stringslite_Index.calls (a0 : ByteArray) (a1 : ByteArray) (r : Int) (w : World) (h : stringslite_Index.f a0 a1 = some r) :
    Calls Tryd.prog 147 #[.string a0, .string a1] w fun e w' => e = .returned (.int .i64 r) ∧ Drawn0 w w' := by
  obtain ⟨c, hc⟩ : ∃ c, a1.toList = [c] := by
    unfold stringslite_Index.f at h
    split at h
    · rename_i c hc; exact ⟨c, hc⟩
    · exact absurd h (by simp)
  unfold stringslite_Index.f at h
  rw [hc] at h
  obtain rfl := Option.some.inj h
  have he : a1 = ⟨#[c]⟩ := ba_ext (by rw [hc, ByteArray.toList_eq])
  subst he
  clear h hc
  go_enter Tryd.func147, Tryd.ntmps147
  go_wp2_with (go_at_call 155; refine (my_IndexByte _ _ _).mono ?_; rintro e w' ⟨rfl, rfl⟩)
  · have h : ([c] == a0.toList) = true := by assumption
    go_ret
    refine ⟨?_, Drawn0.refl _⟩
    have e : a0.toList = [c] := (beq_iff_eq.1 h).symm
    rw [e]
    simp [Lib.indexByte]
  · go_ret
    refine ⟨?_, Drawn0.refl _⟩
    rw [ByteArray.toList_eq]
    first | rfl | simp

/-! ### stringslite_Cut: function 123 -/
def stringslite_Cut.f (a0 : ByteArray) (a1 : ByteArray) : Option (ByteArray × ByteArray × Bool) := (stringslite_Index.f a0 a1).bind fun t101 => (if t101 ≥ 0 then (if 0 ≤ t101 then (if t101 ≤ (a0.size : Int) then (if 0 ≤ (wrap64 (t101 + (a1.size : Int))) then (if (wrap64 (t101 + (a1.size : Int))) ≤ (a0.size : Int) then (some (a0.extract 0 (t101 : Int).toNat, a0.extract ((wrap64 (t101 + (a1.size : Int))) : Int).toNat a0.size, true)) else (none)) else (none)) else (none)) else (none)) else (some (a0, (⟨#[]⟩ : ByteArray), false)))
set_option maxHeartbeats 8000000 in
set_option maxRecDepth 100000 in
theorem stringslite_Cut.calls (a0 : ByteArray) (a1 : ByteArray) (r1 : ByteArray) (r2 : ByteArray) (r3 : Bool) (w : World) (h : stringslite_Cut.f a0 a1 = some (r1, r2, r3)) :
    Calls Tryd.prog 123 #[.string a0, .string a1] w fun e w' => e = .returned (.tuple #[.string r1, .string r2, .bool r3]) ∧ Drawn0 w w' := by
  have H : ((stringslite_Index.f a0 a1).bind fun t101 => (if t101 ≥ 0 then (if 0 ≤ t101 then (if t101 ≤ (a0.size : Int) then (if 0 ≤ (wrap64 (t101 + (a1.size : Int))) then (if (wrap64 (t101 + (a1.size : Int))) ≤ (a0.size : Int) then (some (a0.extract 0 (t101 : Int).toNat, a0.extract ((wrap64 (t101 + (a1.size : Int))) : Int).toNat a0.size, true)) else (none)) else (none)) else (none)) else (none)) else (some (a0, (⟨#[]⟩ : ByteArray), false)))) = some (r1, r2, r3) := h
  clear h
  replace H := Option.bind_eq_some_iff.mp H
  obtain ⟨t101, A30, H⟩ := H
  replace H : (if t101 ≥ 0 then (if 0 ≤ t101 then (if t101 ≤ (a0.size : Int) then (if 0 ≤ (wrap64 (t101 + (a1.size : Int))) then (if (wrap64 (t101 + (a1.size : Int))) ≤ (a0.size : Int) then (some (a0.extract 0 (t101 : Int).toNat, a0.extract ((wrap64 (t101 + (a1.size : Int))) : Int).toNat a0.size, true)) else (none)) else (none)) else (none)) else (none)) else (some (a0, (⟨#[]⟩ : ByteArray), false))) = some (r1, r2, r3) := H
  have A3 := Aside0.mk A30
  clear A30
  by_cases c4 : t101 ≥ 0
  · rw [if_pos c4] at H
    have c4b0 : decide (0 ≤ t101) = true := decide_eq_true c4
    clear c4
    by_cases c5 : 0 ≤ t101
    · rw [if_pos c5] at H
      have c5b0 := eq_true c5
      have c5b1 : decide (0 ≤ t101) = true := decide_eq_true c5
      clear c5
      by_cases c6 : t101 ≤ (a0.size : Int)
      · rw [if_pos c6] at H
        have c6b0 := eq_true c6
        have c6b1 : decide (t101 ≤ (a0.size : Int)) = true := decide_eq_true c6
        clear c6
        obtain ⟨ji7, hji7⟩ : ∃ j_ : Int, (wrap64 (t101 + (a1.size : Int))) = j_ := ⟨_, rfl⟩
        replace H : (if 0 ≤ (ji7) then (if (ji7) ≤ (a0.size : Int) then (some (a0.extract 0 (t101 : Int).toNat, a0.extract ((ji7) : Int).toNat a0.size, true)) else (none)) else (none)) = some (r1, r2, r3) := by first | (rw [hji7] at H; exact H) | (simp only [hji7] at H ⊢; exact H)
        (try rw [hji7] at A3)
        have hji7w : (IntKind.i64.wrap (t101 + (a1.size : Int))) = ji7 := (i64_w _).trans hji7
        by_cases c8 : 0 ≤ (ji7)
        · rw [if_pos c8] at H
          have c8b0 := eq_true c8
          have c8b1 : decide (0 ≤ (ji7)) = true := decide_eq_true c8
          clear c8
          by_cases c9 : (ji7) ≤ (a0.size : Int)
          · rw [if_pos c9] at H
            have c9b0 := eq_true c9
            have c9b1 : decide ((ji7) ≤ (a0.size : Int)) = true := decide_eq_true c9
            clear c9
            simp only [Option.some.injEq, Prod.mk.injEq] at H
            obtain ⟨rfl, rfl, rfl⟩ := H
            go_enter Tryd.func123, Tryd.ntmps123
            go_wp2_with (first | (go_at_call 147; (with_reducible refine (stringslite_Index.calls a0 a1 t101 _ A3.out).mono ?_); rintro e w' ⟨rfl, ⟨nd, rfl⟩⟩; (try first | exact ⟨rfl, _, World.drewN_drewN _ _ _⟩ | exact ⟨rfl, _, Eq.trans (World.drewN_drewN _ _ _) (congrArg (World.drewN _) (Nat.add_assoc _ _ _))⟩)))
            repeat (go_quiet (first | (go_at_call 147; (with_reducible refine (stringslite_Index.calls a0 a1 t101 _ A3.out).mono ?_); rintro e w' ⟨rfl, ⟨nd, rfl⟩⟩; (try first | exact ⟨rfl, _, World.drewN_drewN _ _ _⟩ | exact ⟨rfl, _, Eq.trans (World.drewN_drewN _ _ _) (congrArg (World.drewN _) (Nat.add_assoc _ _ _))⟩))); try go_wp2_with (first | (go_at_call 147; (with_reducible refine (stringslite_Index.calls a0 a1 t101 _ A3.out).mono ?_); rintro e w' ⟨rfl, ⟨nd, rfl⟩⟩; (try first | exact ⟨rfl, _, World.drewN_drewN _ _ _⟩ | exact ⟨rfl, _, Eq.trans (World.drewN_drewN _ _ _) (congrArg (World.drewN _) (Nat.add_assoc _ _ _))⟩))))
            go_ret3
            exact ⟨by first | rfl | (simp; done) | (simp only [← hji7] <;> (first | rfl | simp)) | (simp [*]; done), by repeat (first | exact Drawn0.refl _ | apply Drawn0.step)⟩
          · rw [if_neg c9] at H
            exact absurd H (by simp)
        · rw [if_neg c8] at H
          exact absurd H (by simp)
      · rw [if_neg c6] at H
        exact absurd H (by simp)
    · rw [if_neg c5] at H
      exact absurd H (by simp)
  · rw [if_neg c4] at H
    have c4b0 : decide (0 ≤ t101) = false := decide_eq_false c4
    clear c4
    simp only [Option.some.injEq, Prod.mk.injEq] at H
    obtain ⟨rfl, rfl, rfl⟩ := H
    go_enter Tryd.func123, Tryd.ntmps123
    go_wp2_with (first | (go_at_call 147; (with_reducible refine (stringslite_Index.calls a0 a1 t101 _ A3.out).mono ?_); rintro e w' ⟨rfl, ⟨nd, rfl⟩⟩; (try first | exact ⟨rfl, _, World.drewN_drewN _ _ _⟩ | exact ⟨rfl, _, Eq.trans (World.drewN_drewN _ _ _) (congrArg (World.drewN _) (Nat.add_assoc _ _ _))⟩)))
    repeat (go_quiet (first | (go_at_call 147; (with_reducible refine (stringslite_Index.calls a0 a1 t101 _ A3.out).mono ?_); rintro e w' ⟨rfl, ⟨nd, rfl⟩⟩; (try first | exact ⟨rfl, _, World.drewN_drewN _ _ _⟩ | exact ⟨rfl, _, Eq.trans (World.drewN_drewN _ _ _) (congrArg (World.drewN _) (Nat.add_assoc _ _ _))⟩))); try go_wp2_with (first | (go_at_call 147; (with_reducible refine (stringslite_Index.calls a0 a1 t101 _ A3.out).mono ?_); rintro e w' ⟨rfl, ⟨nd, rfl⟩⟩; (try first | exact ⟨rfl, _, World.drewN_drewN _ _ _⟩ | exact ⟨rfl, _, Eq.trans (World.drewN_drewN _ _ _) (congrArg (World.drewN _) (Nat.add_assoc _ _ _))⟩))))
    go_ret3
    exact ⟨by first | rfl | (simp; done) | (simp [*]; done), by repeat (first | exact Drawn0.refl _ | apply Drawn0.step)⟩

/-! ### strings_Cut: function 88 -/
def strings_Cut.f (a0 : ByteArray) (a1 : ByteArray) : Option (ByteArray × ByteArray × Bool) := (stringslite_Cut.f a0 a1).bind fun bt102 => (some (bt102.1, bt102.2.1, bt102.2.2))
set_option maxHeartbeats 8000000 in
set_option maxRecDepth 100000 in
theorem strings_Cut.calls (a0 : ByteArray) (a1 : ByteArray) (r1 : ByteArray) (r2 : ByteArray) (r3 : Bool) (w : World) (h : strings_Cut.f a0 a1 = some (r1, r2, r3)) :
    Calls Tryd.prog 88 #[.string a0, .string a1] w fun e w' => e = .returned (.tuple #[.string r1, .string r2, .bool r3]) ∧ Drawn0 w w' := by
  have H : ((stringslite_Cut.f a0 a1).bind fun bt102 => (some (bt102.1, bt102.2.1, bt102.2.2))) = some (r1, r2, r3) := h
  clear h
  replace H := Option.bind_eq_some_iff.mp H
  obtain ⟨⟨t102, t103, t104⟩, A30, H⟩ := H
  replace H : (some (t102, t103, t104)) = some (r1, r2, r3) := H
  have A3 := Aside0.mk A30
  clear A30
  simp only [Option.some.injEq, Prod.mk.injEq] at H
  obtain ⟨rfl, rfl, rfl⟩ := H
  go_enter Tryd.func88, Tryd.ntmps88
  go_wp2_with (first | ((with_reducible refine gate_callee (f := 123) rfl ?_); refine goesL_ (some 9) rfl rfl Tryd.func123 (by kernel_rfl) rfl #[.string a0, .string a1] rfl (by (try simp only [List.map_toArray, List.map_cons, List.map_nil]); first | done | rfl | (simp only [List.length_drop, List.length_take]; rfl)) ?_; (with_reducible refine (stringslite_Cut.calls a0 a1 t102 t103 t104 _ A3.out).mono ?_); rintro e w' ⟨rfl, ⟨nd, rfl⟩⟩; refine ⟨_, rfl, ?_⟩))
  go_ret3
  exact ⟨by first | rfl | (simp; done) | (simp [*]; done), by repeat (first | exact Drawn0.refl _ | apply Drawn0.step)⟩

/-! ### stringslite_HasPrefix: function 124 -/
def stringslite_HasPrefix.f (a0 : ByteArray) (a1 : ByteArray) : Option (Bool) := if (a0.size : Int) ≥ (a1.size : Int) then (if 0 ≤ (a1.size : Int) then (if (a1.size : Int) ≤ (a0.size : Int) then (some ((a0.extract 0 ((a1.size : Int) : Int).toNat).toList == a1.toList)) else (none)) else (none)) else (some false)
set_option maxHeartbeats 8000000 in
set_option maxRecDepth 100000 in
theorem stringslite_HasPrefix.calls (a0 : ByteArray) (a1 : ByteArray) (r : Bool) (w : World) (h : stringslite_HasPrefix.f a0 a1 = some r) :
    Calls Tryd.prog 124 #[.string a0, .string a1] w fun e w' => e = .returned (.bool r) ∧ Drawn0 w w' := by
  have H : (if (a0.size : Int) ≥ (a1.size : Int) then (if 0 ≤ (a1.size : Int) then (if (a1.size : Int) ≤ (a0.size : Int) then (some ((a0.extract 0 ((a1.size : Int) : Int).toNat).toList == a1.toList)) else (none)) else (none)) else (some false)) = some r := h
  clear h
  by_cases c3 : (a0.size : Int) ≥ (a1.size : Int)
  · rw [if_pos c3] at H
    have c3b0 : decide ((a1.size : Int) ≤ (a0.size : Int)) = true := decide_eq_true c3
    have c3b1 : decide (a1.size ≤ a0.size) = true := decide_eq_true (Int.ofNat_le.mp c3)
    clear c3
    by_cases c4 : 0 ≤ (a1.size : Int)
    · rw [if_pos c4] at H
      have c4b0 := eq_true c4
      have c4b1 : decide (0 ≤ (a1.size : Int)) = true := decide_eq_true c4
      clear c4
      by_cases c5 : (a1.size : Int) ≤ (a0.size : Int)
      · rw [if_pos c5] at H
        have c5b0 := eq_true c5
        have c5b1 : decide ((a1.size : Int) ≤ (a0.size : Int)) = true := decide_eq_true c5
        clear c5
        obtain rfl := Option.some.inj H
        go_enter Tryd.func124, Tryd.ntmps124
        go_wp2
        go_ret
        exact ⟨by first | rfl | (simp; done) | (simp [*]; done), by repeat (first | exact Drawn0.refl _ | apply Drawn0.step)⟩
      · rw [if_neg c5] at H
        exact absurd H (by simp)
    · rw [if_neg c4] at H
      exact absurd H (by simp)
  · rw [if_neg c3] at H
    have c3b0 : decide ((a1.size : Int) ≤ (a0.size : Int)) = false := decide_eq_false c3
    have c3b1 : decide (a1.size ≤ a0.size) = false := decide_eq_false (fun h => c3 (Int.ofNat_le.mpr h))
    clear c3
    obtain rfl := Option.some.inj H
    go_enter Tryd.func124, Tryd.ntmps124
    go_wp2
    go_ret
    exact ⟨by first | rfl | (simp; done) | (simp [*]; done), by repeat (first | exact Drawn0.refl _ | apply Drawn0.step)⟩

/-! ### strings_HasPrefix: function 89 -/
def strings_HasPrefix.f (a0 : ByteArray) (a1 : ByteArray) : Option (Bool) := (stringslite_HasPrefix.f a0 a1).bind fun t105 => (some t105)
set_option maxHeartbeats 8000000 in
set_option maxRecDepth 100000 in
theorem strings_HasPrefix.calls (a0 : ByteArray) (a1 : ByteArray) (r : Bool) (w : World) (h : strings_HasPrefix.f a0 a1 = some r) :
    Calls Tryd.prog 89 #[.string a0, .string a1] w fun e w' => e = .returned (.bool r) ∧ Drawn0 w w' := by
  have H : ((stringslite_HasPrefix.f a0 a1).bind fun t105 => (some t105)) = some r := h
  clear h
  replace H := Option.bind_eq_some_iff.mp H
  obtain ⟨t105, A30, H⟩ := H
  replace H : (some t105) = some r := H
  have A3 := Aside0.mk A30
  clear A30
  obtain rfl := Option.some.inj H
  go_enter Tryd.func89, Tryd.ntmps89
  go_wp2_with (first | ((with_reducible refine gate_callee (f := 124) rfl ?_); refine goesL_ (some 7) rfl rfl Tryd.func124 (by kernel_rfl) rfl #[.string a0, .string a1] rfl (by (try simp only [List.map_toArray, List.map_cons, List.map_nil]); first | done | rfl | (simp only [List.length_drop, List.length_take]; rfl)) ?_; (with_reducible refine (stringslite_HasPrefix.calls a0 a1 t105 _ A3.out).mono ?_); rintro e w' ⟨rfl, ⟨nd, rfl⟩⟩; refine ⟨_, rfl, ?_⟩))
  go_ret
  exact ⟨by first | rfl | (simp; done) | (simp [*]; done), by repeat (first | exact Drawn0.refl _ | apply Drawn0.step)⟩

/-! ### words: builder.inc -/
/-! ### strings.Builder: the writers, at a builder of the call's own -/
/-- Whatever block is neither the builder nor a plain row of bytes stands. -/
def BKept (e : TypeId) (g : Nat) (w w' : World) : Prop := ∀ i, i < w.heap.size → i ≠ g → (∀ cs, w.heap[i]? ≠ some (.cells cs e (0, 0))) → w'.heap[i]? = w.heap[i]?
theorem BKept.refl (e : TypeId) (g : Nat) (w : World) : BKept e g w w := fun _ _ _ _ => rfl
theorem BKept.trans {e : TypeId} {g : Nat} {w w1 w2 : World} (h : BKept e g w w1) (k : BKept e g w1 w2) (hs : w.heap.size ≤ w1.heap.size) : BKept e g w w2 := fun i hi hg hc => by
  have h1 := h i hi hg hc
  rw [k i (Nat.lt_of_lt_of_le hi hs) hg (fun cs hcs => hc cs (by rw [← h1]; exact hcs)), h1]
theorem BKept.setCell {e : TypeId} {g : Nat} {w w1 : World} (h : BKept e g w w1) (k : Nat) (v : Value) : BKept e g w (w1.setCell ⟨g, k, none⟩ v) := fun i hi hg hc => by
  rw [← h i hi hg hc]
  unfold World.setCell
  simp [Array.getElem?_modify, Ne.symm hg]
theorem BKept.grown {e : TypeId} {g : Nat} {w w1 : World} {base n : Nat} {v : Value} {xs : List Value} (ho : w.ownsRow base e 1 v n xs) (hg : w.grownBy w1 v.ownBlock) : BKept e g w w1 := fun i hi _ hc => by
  refine hg.block i hi (fun he => ?_)
  obtain ⟨cells, hcs⟩ := own_typed ho i he.symm
  exact hc cells hcs
theorem BKept.alloc {e : TypeId} {g : Nat} (w : World) (o : Obj) : BKept e g w (w.alloc o) := fun i hi _ _ => my_alloc_old w o i hi
theorem bi_size : (Tryd.prog.info? 95).map (·.size) = some 2 := by kernel_rfl
theorem bi_lies : liesAt Tryd.prog Tryd.prog.depth 95 (2 / Tryd.prog.cellsOf 95) 0 95 1 = true := by kernel_rfl
theorem bi_info : (Tryd.prog.info? 5).map (fun i => (i.zero, i.size, i.bytes)) = some (some (.int .u8 0), 1, 1) := by kernel_rfl
set_option maxHeartbeats 1000000 in
set_option maxRecDepth 100000 in
theorem bi_check_used (b : Nat) (w : World) (h0 : w.cell? ⟨b, 0, none⟩ = some (.pointer (some ⟨b, 0, none⟩))) :
    Calls Tryd.prog 93 #[.pointer (some ⟨b, 0, none⟩)] w fun e w' => e = .returned (.tuple #[]) ∧ w' = w := by
  obtain ⟨j, hj, _⟩ := Option.map_eq_some_iff.1 bi_size
  go_enter Tryd.func93, Tryd.ntmps93
  go_wp2
  rw [Lib.run_neq_ptr_same w _ Tryd.underlying93 hj]
  go_wp2
  go_end0
  exact ⟨rfl, rfl⟩
set_option maxHeartbeats 1000000 in
set_option maxRecDepth 100000 in
theorem bi_check_fresh (b : Nat) (w : World) (h0 : w.cell? ⟨b, 0, none⟩ = some (.pointer none)) (hsh : w.shape? b = some (95, 2)) (hfz : w.frozen? ⟨b, 0, none⟩ = false) :
    Calls Tryd.prog 93 #[.pointer (some ⟨b, 0, none⟩)] w fun e w' => e = .returned (.tuple #[]) ∧ w' = w.setCell ⟨b, 0, none⟩ (.pointer (some ⟨b, 0, none⟩)) := by
  obtain ⟨j, hj, hjs⟩ := Option.map_eq_some_iff.1 bi_size
  go_enter Tryd.func93, Tryd.ntmps93
  go_wp2
  rw [Lib.run_to_unsafe w ⟨b, 0, none⟩ Tryd.underlying93 Tryd.underlying170 hj (by rw [hjs]; decide) hsh (Nat.zero_lt_succ 1)]
  simp only [Result.andThen]
  rw [Oper.upon_value]
  go_wp2
  rw [run_callFunc_extern Tryd.func129 (by kernel_rfl) (by kernel_rfl) (by kernel_rfl) (e := Extern.AbiNoEscape.same) (by kernel_rfl)]
  rw [Lib.run_noEscape]
  simp only [Result.andThen]
  rw [Oper.upon_value]
  go_wp2
  rw [Lib.run_from_unsafe w ⟨b, 0, none⟩ Tryd.underlying170 Tryd.underlying93 hj hsh bi_lies]
  simp only [Result.andThen]
  rw [Oper.upon_value]
  go_wp2
  go_end0
  exact ⟨rfl, rfl⟩
theorem bi_check (B b : Nat) (bs : List Value) (w : World) (h : Lib.IsBuilder 95 5 B b bs w) :
    Calls Tryd.prog 93 #[.pointer (some ⟨b, 0, none⟩)] w fun e w' => e = .returned (.tuple #[]) ∧ Lib.BuilderAt 95 5 B b (.pointer (some ⟨b, 0, none⟩)) bs w' ∧ Below B w w' ∧ BKept 5 b w w' := by
  rcases h with h | h
  · refine (bi_check_fresh b w h.cell0 h.shape h.frozen0).mono ?_
    rintro e w' ⟨rfl, rfl⟩
    exact ⟨rfl, h.used _, (Below.refl B w).setCell (p := ⟨b, 0, none⟩) h.1 _, (BKept.refl _ _ _).setCell _ _⟩
  · refine (bi_check_used b w h.cell0).mono ?_
    rintro e w' ⟨rfl, rfl⟩
    exact ⟨rfl, h, Below.refl B _, BKept.refl _ _ _⟩
set_option maxHeartbeats 1000000 in
set_option maxRecDepth 100000 in
theorem bi_byte (B b : Nat) (bs : List Value) (c : Int) (w : World) (h : Lib.IsBuilder 95 5 B b bs w) (hlen : bs.length + 1 ≤ 140737488355328) (hBw : B ≤ w.heap.size) :
    Calls Tryd.prog 90 #[.pointer (some ⟨b, 0, none⟩), .int .u8 c] w fun e w' => e = .returned .nilIface ∧ Lib.IsBuilder 95 5 B b (bs ++ [.int .u8 c]) w' ∧ Below B w w' ∧ BKept 5 b w w' := by
  obtain ⟨i0, hi, hz0, hz1, hz2⟩ := info_parts bi_info
  have e240 : ∀ args w, (callFunc 93 args).run Tryd.prog w = .ok (.enter 93 args) w := enters_of Tryd.func93 (by kernel_rfl) rfl
  go_enter Tryd.func90, Tryd.ntmps90
  go_wp2_with (go_at_call 93; refine (bi_check B b bs _ h).mono ?_)
  rintro e w1 ⟨rfl, h1, hb1, hk1⟩
  obtain ⟨hB, v, hbk, hown, hne⟩ := h1
  have c0 : w1.cell? ⟨b, 0, none⟩ = some (.pointer (some ⟨b, 0, none⟩)) := by rw [Lib.cell_of_heap hbk]; rfl
  have c1 : w1.cell? ⟨b, 1, none⟩ = some v := by rw [Lib.cell_of_heap hbk]; rfl
  replace hk1 := Aside0.mk hk1
  go_wp2_with (at_builtin; refine wpList_append_own _ rfl _ _ 91 rfl B 5 i0 (.int .u8 0) 1 1 Tryd.underlying91 hi hz0 hz1 hz2 rfl (by decide) _ _ _ rfl (hown.alloc _) ⟨w1.heap.size, 0, none⟩ 1 1 [.int .u8 c] rfl rfl ?c1 ?c2 ?c3 ?c4 ?c5 ?_)
  case c1 =>
    intro j u hj
    match j, hj with
    | 0, hj => simp at hj; subst hj; simp [Addr.add]
  case c2 => intro u hu; simp at hu; subst hu; rfl
  case c3 => unfold maxLen; omega
  case c4 => omega
  case c5 => have := hb1.size; simp; omega
  intro v' w2 hown' hgrow _
  have hlt : b < w1.heap.size := (Array.getElem?_eq_some_iff.1 hbk).1
  have hb2 : w2.heap[b]? = some (.cells #[.pointer (some ⟨b, 0, none⟩), v] 95 (0, 0)) := by
    rw [hgrow.block b (by simp; omega) (fun e => hne e.symm), my_alloc_old w1 _ b hlt]
    exact hbk
  have d0 : w2.cell? ⟨b, 0, none⟩ = some (.pointer (some ⟨b, 0, none⟩)) := by rw [Lib.cell_of_heap hb2]; rfl
  have d1 : w2.cell? ⟨b, 1, none⟩ = some v := by rw [Lib.cell_of_heap hb2]; rfl
  have f1 : w2.frozen? ⟨b, 1, none⟩ = false := Lib.frozen_of_heap hb2 1
  have hkk := Aside0.mk ((hk1.out.trans ((BKept.alloc (e := 5) (g := b) w1 _).trans (BKept.grown (g := b) (hown.alloc _) hgrow) (by rw [my_alloc_size]; omega)) hb1.size).setCell 1 v')
  obtain ⟨g, cap, rfl⟩ : ∃ g cap, v' = .slice (some ⟨g, 0, none⟩) (bs.length + 1) cap := by
    rcases hown'.2 with ⟨_, h0⟩ | ⟨g, cap, cur, hv, _⟩
    · omega
    · exact ⟨g, cap, hv⟩
  go_wp2
  go_ret
  refine ⟨rfl, .inr ?_, ?_, hkk.out⟩
  · exact Lib.BuilderAt.put (T := 95) (e := 5) hB hb2 (bs' := bs ++ [.int .u8 c]) (by simpa using hown') (by decide)
  · exact ((hb1.alloc (by have := hb1.size; omega) _).grown hgrow (by have := hb1.size; simp; omega) (fun k hk => (hown.lt k hk).1)).setCell (p := ⟨b, 1, none⟩) hB _
set_option maxHeartbeats 1000000 in
set_option maxRecDepth 100000 in
theorem bi_str (B b : Nat) (bs : List Value) (s : ByteArray) (w : World) (h : Lib.IsBuilder 95 5 B b bs w) (hlen : bs.length + s.size ≤ 140737488355328) (hBw : B ≤ w.heap.size) :
    Calls Tryd.prog 59 #[.pointer (some ⟨b, 0, none⟩), .string s] w fun e w' => e = .returned (.tuple #[.int .i64 s.size, .nilIface]) ∧ Lib.IsBuilder 95 5 B b (bs ++ Lib.strCells s) w' ∧ Below B w w' ∧ BKept 5 b w w' := by
  obtain ⟨i0, hi, hz0, hz1, hz2⟩ := info_parts bi_info
  have e240 : ∀ args w, (callFunc 93 args).run Tryd.prog w = .ok (.enter 93 args) w := enters_of Tryd.func93 (by kernel_rfl) rfl
  go_enter Tryd.func59, Tryd.ntmps59
  go_wp2_with (go_at_call 93; refine (bi_check B b bs _ h).mono ?_)
  rintro e w1 ⟨rfl, h1, hb1, hk1⟩
  obtain ⟨hB, v, hbk, hown, hne⟩ := h1
  have c0 : w1.cell? ⟨b, 0, none⟩ = some (.pointer (some ⟨b, 0, none⟩)) := by rw [Lib.cell_of_heap hbk]; rfl
  have c1 : w1.cell? ⟨b, 1, none⟩ = some v := by rw [Lib.cell_of_heap hbk]; rfl
  replace hk1 := Aside0.mk hk1
  go_wp2_with (at_builtin; refine Lib.wpList_append_own_string _ rfl _ _ 91 9 rfl B 5 i0 Tryd.underlying91 Tryd.underlying9 hi hz0 hz1 hz2 _ _ _ rfl hown s rfl ?c3 ?c4 ?c5 ?_)
  case c3 => unfold maxLen; omega
  case c4 => omega
  case c5 => have := hb1.size; omega
  intro v' w2 hown' hgrow _
  have hlt : b < w1.heap.size := (Array.getElem?_eq_some_iff.1 hbk).1
  have hb2 : w2.heap[b]? = some (.cells #[.pointer (some ⟨b, 0, none⟩), v] 95 (0, 0)) := by
    rw [hgrow.block b hlt (fun e => hne e.symm)]
    exact hbk
  have d0 : w2.cell? ⟨b, 0, none⟩ = some (.pointer (some ⟨b, 0, none⟩)) := by rw [Lib.cell_of_heap hb2]; rfl
  have d1 : w2.cell? ⟨b, 1, none⟩ = some v := by rw [Lib.cell_of_heap hb2]; rfl
  have f1 : w2.frozen? ⟨b, 1, none⟩ = false := Lib.frozen_of_heap hb2 1
  have hkk := Aside0.mk ((hk1.out.trans (BKept.grown (g := b) hown hgrow) hb1.size).setCell 1 v')
  obtain ⟨ao, n', cap, rfl⟩ : ∃ ao n' cap, v' = .slice ao n' cap := by
    rcases hown'.2 with ⟨hv, _⟩ | ⟨g, cap, cur, hv, _⟩
    · exact ⟨_, _, _, hv⟩
    · exact ⟨_, _, _, hv⟩
  go_wp2
  go_ret2
  refine ⟨rfl, .inr ?_, ?_, hkk.out⟩
  · exact Lib.BuilderAt.put (T := 95) (e := 5) hB hb2 (bs' := bs ++ Lib.strCells s) (by simpa [Lib.strCells_length] using hown') (by decide)
  · exact (hb1.grown hgrow (by have := hb1.size; omega) (fun k hk => (hown.lt k hk).1)).setCell (p := ⟨b, 1, none⟩) hB _
theorem bi_new (B : Nat) (w : World) (h : B ≤ w.heap.size) : Lib.IsBuilder 95 5 B w.heap.size [] (w.alloc (.cells #[.pointer none, .slice none 0 0] 95)) := .inl ⟨h, _, my_alloc_new w _, ⟨rfl, .inl ⟨rfl, rfl⟩⟩, by simp [Value.ownBlock]⟩
theorem bi_below {B b : Nat} {bs : List Value} {w w1 : World} (h : Lib.IsBuilder 95 5 B b bs w) (hb : Below w.heap.size w w1) : Lib.IsBuilder 95 5 B b bs w1 := by
  have one : ∀ p, Lib.BuilderAt 95 5 B b p bs w → Lib.BuilderAt 95 5 B b p bs w1 := by
    rintro p ⟨h1, v, h2, h3, h4⟩
    exact ⟨h1, v, (hb.block b (Array.getElem?_eq_some_iff.1 h2).1).trans h2, pw_own_below h3 hb, h4⟩
  exact h.elim (fun x => .inl (one _ x)) (fun x => .inr (one _ x))

/-! ### words: strfn.inc -/
/-- A hexadecimal digit's byte. -/
def hexU (n : Nat) : UInt8 := if n < 10 then UInt8.ofNat (48 + n) else UInt8.ofNat (87 + n)
theorem byteCells_snoc (l : List UInt8) (c : UInt8) : Lib.byteCells (l ++ [c]) = Lib.byteCells l ++ [.int .u8 (c.toNat : Int)] := by simp [Lib.byteCells]
theorem byteCells_app (l m : List UInt8) : Lib.byteCells (l ++ m) = Lib.byteCells l ++ Lib.byteCells m := by simp [Lib.byteCells]
theorem strCells_app (l : List UInt8) (s : ByteArray) : Lib.byteCells l ++ Lib.strCells s = Lib.byteCells (l ++ s.toList) := by rw [Lib.strCells_eq, byteCells_app, ByteArray.toList_eq]
theorem hexU_at (n : Nat) (h : n < 16) (hn : n < (⟨#[48, 49, 50, 51, 52, 53, 54, 55, 56, 57, 97, 98, 99, 100, 101, 102]⟩ : ByteArray).size) : (⟨#[48, 49, 50, 51, 52, 53, 54, 55, 56, 57, 97, 98, 99, 100, 101, 102]⟩ : ByteArray)[n] = hexU n := by
  rcases n with _|_|_|_|_|_|_|_|_|_|_|_|_|_|_|_|n
  all_goals (first | rfl | (exfalso; omega))
theorem bi_byteU (B b : Nat) (l : List UInt8) (c : UInt8) (w : World) (h : Lib.IsBuilder 95 5 B b (Lib.byteCells l) w) (hlen : l.length + 1 ≤ 140737488355328) (hBw : B ≤ w.heap.size) :
    Calls Tryd.prog 90 #[.pointer (some ⟨b, 0, none⟩), .int .u8 (c.toNat : Int)] w fun e w' => e = .returned .nilIface ∧ Lib.IsBuilder 95 5 B b (Lib.byteCells (l ++ [c])) w' ∧ Below B w w' ∧ BKept 5 b w w' := by
  rw [byteCells_snoc]
  exact bi_byte B b _ _ w h (by rw [Lib.byteCells_length]; exact hlen) hBw
theorem bi_strU (B b : Nat) (l : List UInt8) (s : ByteArray) (w : World) (h : Lib.IsBuilder 95 5 B b (Lib.byteCells l) w) (hlen : l.length + s.size ≤ 140737488355328) (hBw : B ≤ w.heap.size) :
    Calls Tryd.prog 59 #[.pointer (some ⟨b, 0, none⟩), .string s] w fun e w' => e = .returned (.tuple #[.int .i64 s.size, .nilIface]) ∧ Lib.IsBuilder 95 5 B b (Lib.byteCells (l ++ s.toList)) w' ∧ Below B w w' ∧ BKept 5 b w w' := by
  rw [← strCells_app]
  exact bi_str B b _ s w h (by rw [Lib.byteCells_length]; exact hlen) hBw

/-! ### path_shown: function 54 -/
/-- A text, parted at a byte's first place. -/
def cutL (c : UInt8) : List UInt8 → Option (List UInt8 × List UInt8)
  | [] => none
  | x :: t => if x = c then some ([], t) else (cutL c t).map fun p => (x :: p.1, p.2)
theorem cutL_some {c : UInt8} : ∀ {l a b : List UInt8}, cutL c l = some (a, b) → l = a ++ c :: b
  | [], a, b, h => by simp [cutL] at h
  | x :: t, a, b, h => by
    simp only [cutL] at h
    by_cases hx : x = c
    · rw [if_pos hx] at h
      simp only [Option.some.injEq, Prod.mk.injEq] at h
      obtain ⟨rfl, rfl⟩ := h
      rw [hx]; rfl
    · rw [if_neg hx] at h
      obtain ⟨p, hp, he⟩ := Option.map_eq_some_iff.1 h
      simp only [Prod.mk.injEq] at he
      obtain ⟨rfl, rfl⟩ := he
      rw [List.cons_append, ← cutL_some (a := p.1) (b := p.2) hp]
theorem cut_index_none {c : UInt8} : ∀ {l : List UInt8}, cutL c l = none → Lib.indexByte l c = -1
  | [], _ => rfl
  | x :: t, h => by
    simp only [cutL] at h
    by_cases hx : x = c
    · rw [if_pos hx] at h; simp at h
    · rw [if_neg hx] at h
      have ih := cut_index_none (Option.map_eq_none_iff.1 h)
      simp [Lib.indexByte, ih, hx]
theorem cut_index_some {c : UInt8} : ∀ {l a b : List UInt8}, cutL c l = some (a, b) → Lib.indexByte l c = (a.length : Int)
  | [], a, b, h => by simp [cutL] at h
  | x :: t, a, b, h => by
    simp only [cutL] at h
    by_cases hx : x = c
    · rw [if_pos hx] at h
      simp only [Option.some.injEq, Prod.mk.injEq] at h
      obtain ⟨rfl, rfl⟩ := h
      simp [Lib.indexByte, hx]
    · rw [if_neg hx] at h
      obtain ⟨p, hp, he⟩ := Option.map_eq_some_iff.1 h
      simp only [Prod.mk.injEq] at he
      obtain ⟨rfl, rfl⟩ := he
      have ih := cut_index_some (a := p.1) (b := p.2) hp
      simp [Lib.indexByte, ih, hx]
      try omega
theorem cut1_is (s : ByteArray) (c : UInt8) (hs : s.size ≤ 1000000000) : strings_Cut.f s ⟨#[c]⟩ = some (match cutL c s.toList with | some p => (ofL p.1, ofL p.2, true) | none => (s, (⟨#[]⟩ : ByteArray), false)) := by
  have e : stringslite_Index.f s ⟨#[c]⟩ = some (Lib.indexByte s.toList c) := by
    unfold stringslite_Index.f
    rw [show (⟨#[c]⟩ : ByteArray).toList = [c] from by rw [ByteArray.toList_eq]]
  have e1 : (⟨#[c]⟩ : ByteArray).size = 1 := rfl
  unfold strings_Cut.f stringslite_Cut.f
  rw [e, Option.bind_some]
  cases h : cutL c s.toList with
  | none =>
    rw [cut_index_none h, if_neg (by decide)]
    rfl
  | some p =>
    obtain ⟨a, b⟩ := p
    have hl := cutL_some h
    have hn : s.size = a.length + (b.length + 1) := by rw [ba_size, hl, List.length_append, List.length_cons]
    have hw : wrap64 ((a.length : Int) + ((1 : Nat) : Int)) = ((a.length + 1 : Nat) : Int) := by rw [w64 (by omega) (by omega)]; omega
    have h1 : s.extract 0 ((a.length : Int)).toNat = ofL a := ba_ext (by rw [ba_extract, ofL_toList, hl]; simp)
    have h2 : s.extract (((a.length + 1 : Nat) : Int)).toNat s.size = ofL b := ba_ext (by
      rw [ba_extract, ofL_toList, ba_size, List.take_length, hl, Int.toNat_natCast, ← List.drop_drop, List.drop_left]
      rfl)
    rw [cut_index_some h, e1, hw, if_pos (by omega), if_pos (by omega), if_pos (by omega), if_pos (by omega), if_pos (by omega), Option.bind_some, h1, h2]
theorem hasp1_is (s : ByteArray) (c : UInt8) : strings_HasPrefix.f s ⟨#[c]⟩ = some (s.toList.head? == some c) := by
  have e1 : (⟨#[c]⟩ : ByteArray).size = 1 := rfl
  unfold strings_HasPrefix.f stringslite_HasPrefix.f
  rw [e1, show (⟨#[c]⟩ : ByteArray).toList = [c] from by rw [ByteArray.toList_eq]]
  cases hl : s.toList with
  | nil =>
    have hn : s.size = 0 := by rw [ba_size, hl]; rfl
    rw [hn, if_neg (by omega)]
    rfl
  | cons x t =>
    have hn : s.size = t.length + 1 := by rw [ba_size, hl]; rfl
    rw [if_pos (by omega), if_pos (by omega), if_pos (by omega), Option.bind_some, ba_extract, hl]
    simp [List.take]
/-- A part, as it was. -/
def shownL : List UInt8 → Option (List UInt8)
  | [] => some []
  | c :: t => if c = 37 then (match t with | [] => none | x :: u => if x = 112 then (shownL u).map (37 :: ·) else if x = 115 then (shownL u).map (47 :: ·) else none) else (shownL t).map (c :: ·)
theorem shownL_ne {c : UInt8} (t : List UInt8) (h : ¬ c = 37) : shownL (c :: t) = (shownL t).map (c :: ·) := by rw [shownL.eq_def]; exact if_neg h
theorem shownL_at (x : UInt8) (u : List UInt8) : shownL (37 :: x :: u) = if x = 112 then (shownL u).map (37 :: ·) else if x = 115 then (shownL u).map (47 :: ·) else none := by rw [shownL.eq_def]; exact if_pos rfl
theorem shownL_end : shownL [37] = none := by rw [shownL.eq_def]; exact if_pos rfl
theorem shownL_none : ∀ {l : List UInt8}, cutL 37 l = none → shownL l = some l
  | [], _ => rfl
  | x :: t, h => by
    simp only [cutL] at h
    by_cases hx : x = 37
    · rw [if_pos hx] at h; simp at h
    · rw [if_neg hx] at h
      have ih := shownL_none (Option.map_eq_none_iff.1 h)
      rw [shownL_ne _ hx, ih]; rfl
theorem shownL_some : ∀ {l a b : List UInt8}, cutL 37 l = some (a, b) → shownL l = (shownL (37 :: b)).map (a ++ ·)
  | [], a, b, h => by simp [cutL] at h
  | x :: t, a, b, h => by
    simp only [cutL] at h
    by_cases hx : x = 37
    · rw [if_pos hx] at h
      simp only [Option.some.injEq, Prod.mk.injEq] at h
      obtain ⟨rfl, rfl⟩ := h
      rw [hx]; simp
    · rw [if_neg hx] at h
      obtain ⟨p, hp, he⟩ := Option.map_eq_some_iff.1 h
      simp only [Prod.mk.injEq] at he
      obtain ⟨rfl, rfl⟩ := he
      have ih := shownL_some (a := p.1) (b := p.2) hp
      rw [shownL_ne _ hx, ih, Option.map_map]
      rfl
def path_shown.f (a0 : ByteArray) : Option (ByteArray × Bool) := if a0.size ≤ 100000000 then some (match shownL a0.toList with | some l => (ofL l, true) | none => ((⟨#[]⟩ : ByteArray), false)) else none
set_option maxHeartbeats 4000000 in
set_option maxRecDepth 100000 in
theorem path_shown.calls (a0 : ByteArray) (r1 : ByteArray) (r2 : Bool) (w : World) (h : path_shown.f a0 = some (r1, r2)) :
    Calls Tryd.prog 54 #[.string a0] w fun e w' => e = .returned (.tuple #[.string r1, .bool r2]) ∧ Below w.heap.size w w' := by
  unfold path_shown.f at h
  by_cases hs : a0.size ≤ 100000000
  case neg => rw [if_neg hs] at h; exact absurd h (by simp)
  rw [if_pos hs] at h
  have hr := Aside0.mk (Option.some.inj h)
  clear h
  have h0 := Aside0.mk (bi_new w.heap.size w (Nat.le_refl _))
  have hb0 := Aside0.mk ((Below.refl w.heap.size w).alloc (Nat.le_refl _) (.cells #[.pointer none, .slice none 0 0] 95))
  go_enter Tryd.func54, Tryd.ntmps54
  go_wp2_with fail
  go_loopg [0] a0.size (fun g s0 wx => ∃ (s : ByteArray) (acc : List UInt8), s0 = .string s ∧ s.size = g ∧ acc.length + s.size ≤ a0.size ∧ Aside0 (Lib.IsBuilder 95 5 w.heap.size w.heap.size (Lib.byteCells acc) wx) ∧ Aside0 (Below w.heap.size w wx) ∧ Aside0 (shownL a0.toList = (shownL s.toList).map (acc ++ ·)))
  case atStart => exact ⟨a0, [], rfl, rfl, by simp, h0, hb0, ⟨by simp⟩⟩
  case round =>
    clear h0 hb0
    obtain ⟨s, acc, rfl, hg, hbd, HB, HW, HR⟩ := hrel
    have hcut := cut1_is s 37 (by omega)
    rcases hq : cutL 37 s.toList with _ | ⟨a, b⟩
    · rw [hq] at hcut
      replace hcut := Aside0.mk hcut
      have hfin : (r1, r2) = (ofL (acc ++ s.toList), true) := by
        have h1 := hr.out
        rw [HR.out, shownL_none hq] at h1
        exact h1.symm
      obtain ⟨rfl, rfl⟩ := Prod.mk.inj hfin
      clear hq hfin hr HR
      go_wp2_with fail
      refine (strings_Cut.calls s ⟨#[37]⟩ s ⟨#[]⟩ false _ hcut.out).mono ?_
      rintro e w1 ⟨rfl, ⟨nd, rfl⟩⟩
      go_wp2_with fail
      refine (bi_strU w.heap.size w.heap.size acc s _ (bi_below HB.out (by repeat (first | exact Below.refl _ _ | apply pw_below_drewN | apply below_drew1))) (by omega) (by exact HW.out.size)).mono ?_
      rintro e w3 ⟨rfl, h3, hb3, hk3⟩
      have H3 := Aside0.mk h3
      have Hb3 := Aside0.mk ((show Below w.heap.size w (wr.drewN nd) by repeat (first | exact HW.out | apply pw_below_drewN | apply below_drew1)).trans hb3)
      clear h3 hb3 hk3
      go_wp2_with fail
      refine (Tryd.Builder_String_any w.heap.size w.heap.size _ w3 H3.out Hb3.out.size).mono ?_
      rintro e w5 ⟨rfl, hb5⟩
      have Hb5 := Aside0.mk (Hb3.out.trans hb5)
      clear hb5
      go_wp2
      go_ret2
      exact ⟨rfl, Hb5.out⟩
    · rw [hq] at hcut
      replace hcut := Aside0.mk hcut
      have hl := cutL_some hq
      have hn : s.size = a.length + (b.length + 1) := by rw [ba_size, hl, List.length_append, List.length_cons]
      have hsh := shownL_some hq
      have hal : acc.length + (ofL a).size ≤ 140737488355328 := by rw [ofL_size]; omega
      have hp1 := hasp1_is (ofL b) 112
      have hp2 := hasp1_is (ofL b) 115
      rw [ofL_toList] at hp1 hp2
      have hR2 : shownL a0.toList = (shownL (37 :: b)).map ((acc ++ a) ++ ·) := by
        rw [HR.out, hsh, Option.map_map]
        congr 1
        funext x
        simp
      clear hq hsh hl HR
      have hW1 : 0 ≤ (1 : Int) := by omega
      cases b with
      | nil =>
        have hfin : (r1, r2) = ((⟨#[]⟩ : ByteArray), false) := by
          have h1 := hr.out
          rw [hR2, shownL_end] at h1
          exact h1.symm
        obtain ⟨rfl, rfl⟩ := Prod.mk.inj hfin
        replace hp1 := Aside0.mk hp1
        replace hp2 := Aside0.mk hp2
        clear hfin hr hR2
        go_wp2_with fail
        refine (strings_Cut.calls s ⟨#[37]⟩ (ofL a) (ofL []) true _ hcut.out).mono ?_
        rintro e w1 ⟨rfl, ⟨nd, rfl⟩⟩
        go_wp2_with fail
        refine (bi_strU w.heap.size w.heap.size acc (ofL a) _ (bi_below HB.out (by repeat (first | exact Below.refl _ _ | apply pw_below_drewN | apply below_drew1))) hal (by exact HW.out.size)).mono ?_
        rintro e w3 ⟨rfl, h3, hb3, hk3⟩
        have Hb3 := Aside0.mk ((show Below w.heap.size w (wr.drewN nd) by repeat (first | exact HW.out | apply pw_below_drewN | apply below_drew1)).trans hb3)
        clear h3 hb3 hk3
        go_wp2_with fail
        refine (strings_HasPrefix.calls (ofL []) ⟨#[112]⟩ false _ hp1.out).mono ?_
        rintro e w4 ⟨rfl, ⟨nd4, rfl⟩⟩
        go_wp2_with fail
        refine (strings_HasPrefix.calls (ofL []) ⟨#[115]⟩ false _ hp2.out).mono ?_
        rintro e w5 ⟨rfl, ⟨nd5, rfl⟩⟩
        go_wp2
        go_ret2
        exact ⟨rfl, by repeat (first | exact Hb3.out | apply pw_below_drewN | apply below_drew1)⟩
      | cons x u =>
        have hxs : (1 : Int) ≤ ((ofL (x :: u)).size : Int) := by rw [ofL_size, List.length_cons]; omega
        have hext : (ofL (x :: u)).extract 1 (ofL (x :: u)).size = ofL u := ba_ext (by rw [ba_extract, ofL_size, ofL_toList, ofL_toList, List.take_length]; rfl)
        rw [List.length_cons] at hn
        have h8 : acc.length + a.length ≤ 100000000 := by omega
        rw [shownL_at] at hR2
        by_cases h12 : x = 112
        · subst h12
          replace hp1 : Aside0 (strings_HasPrefix.f (ofL (112 :: u)) ⟨#[112]⟩ = some true) := ⟨hp1⟩
          have hR3 : Aside0 (shownL a0.toList = (shownL (ofL u).toList).map ((acc ++ a ++ [37]) ++ ·)) := ⟨by
            rw [hR2, if_pos rfl, Option.map_map, ofL_toList]
            congr 1
            funext y
            simp⟩
          clear hR2 hp2
          go_wp2_with fail
          refine (strings_Cut.calls s ⟨#[37]⟩ (ofL a) (ofL (112 :: u)) true _ hcut.out).mono ?_
          rintro e w1 ⟨rfl, ⟨nd, rfl⟩⟩
          go_wp2_with fail
          refine (bi_strU w.heap.size w.heap.size acc (ofL a) _ (bi_below HB.out (by repeat (first | exact Below.refl _ _ | apply pw_below_drewN | apply below_drew1))) hal (by exact HW.out.size)).mono ?_
          rintro e w3 ⟨rfl, h3, hb3, hk3⟩
          rw [ofL_toList] at h3
          have H3 := Aside0.mk h3
          have Hb3 := Aside0.mk ((show Below w.heap.size w (wr.drewN nd) by repeat (first | exact HW.out | apply pw_below_drewN | apply below_drew1)).trans hb3)
          clear h3 hb3 hk3
          go_wp2_with fail
          refine (strings_HasPrefix.calls (ofL (112 :: u)) ⟨#[112]⟩ true _ hp1.out).mono ?_
          rintro e w4 ⟨rfl, ⟨nd4, rfl⟩⟩
          go_wp2_with fail
          have HBd := Aside0.mk (show Below w.heap.size w _ by repeat (first | exact Hb3.out | apply pw_below_drewN | apply below_drew1))
          refine (bi_byteU w.heap.size w.heap.size _ (37 : UInt8) _ (bi_below H3.out (by repeat (first | exact Below.refl _ _ | apply pw_below_drewN | apply below_drew1))) (by rw [List.length_append]; omega) (by exact Hb3.out.size)).mono ?_
          rintro e w6 ⟨rfl, h6, hb6, hk6⟩
          have H6 := Aside0.mk h6
          have Hb6 := Aside0.mk ((show Below w.heap.size w (w3.drewN nd4) by repeat (first | exact Hb3.out | apply pw_below_drewN | apply below_drew1)).trans hb6)
          clear h6 hb6 hk6
          go_wp2
          go_roundg u.length
          case measure => rw [← hg]; omega
          case rel => exact ⟨ofL u, acc ++ a ++ [37], by first | rfl | (rw [← hext]; done) | (rw [← hext]; rfl), ofL_size u, by rw [ofL_size, List.length_append, List.length_append, List.length_singleton]; omega, H6, Hb6, hR3⟩
        · by_cases h15 : x = 115
          · subst h15
            replace hp1 : Aside0 (strings_HasPrefix.f (ofL (115 :: u)) ⟨#[112]⟩ = some false) := ⟨hp1⟩
            replace hp2 : Aside0 (strings_HasPrefix.f (ofL (115 :: u)) ⟨#[115]⟩ = some true) := ⟨hp2⟩
            have hR3 : Aside0 (shownL a0.toList = (shownL (ofL u).toList).map ((acc ++ a ++ [47]) ++ ·)) := ⟨by
              rw [hR2, if_neg h12, if_pos rfl, Option.map_map, ofL_toList]
              congr 1
              funext y
              simp⟩
            clear hR2
            go_wp2_with fail
            refine (strings_Cut.calls s ⟨#[37]⟩ (ofL a) (ofL (115 :: u)) true _ hcut.out).mono ?_
            rintro e w1 ⟨rfl, ⟨nd, rfl⟩⟩
            go_wp2_with fail
            refine (bi_strU w.heap.size w.heap.size acc (ofL a) _ (bi_below HB.out (by repeat (first | exact Below.refl _ _ | apply pw_below_drewN | apply below_drew1))) hal (by exact HW.out.size)).mono ?_
            rintro e w3 ⟨rfl, h3, hb3, hk3⟩
            rw [ofL_toList] at h3
            have H3 := Aside0.mk h3
            have Hb3 := Aside0.mk ((show Below w.heap.size w (wr.drewN nd) by repeat (first | exact HW.out | apply pw_below_drewN | apply below_drew1)).trans hb3)
            clear h3 hb3 hk3
            go_wp2_with fail
            refine (strings_HasPrefix.calls (ofL (115 :: u)) ⟨#[112]⟩ false _ hp1.out).mono ?_
            rintro e w4 ⟨rfl, ⟨nd4, rfl⟩⟩
            go_wp2_with fail
            refine (strings_HasPrefix.calls (ofL (115 :: u)) ⟨#[115]⟩ true _ hp2.out).mono ?_
            rintro e w5 ⟨rfl, ⟨nd5, rfl⟩⟩
            go_wp2_with fail
            have HBd := Aside0.mk (show Below w.heap.size w _ by repeat (first | exact Hb3.out | apply pw_below_drewN | apply below_drew1))
            refine (bi_byteU w.heap.size w.heap.size _ (47 : UInt8) _ (bi_below H3.out (by repeat (first | exact Below.refl _ _ | apply pw_below_drewN | apply below_drew1))) (by rw [List.length_append]; omega) (by exact Hb3.out.size)).mono ?_
            rintro e w6 ⟨rfl, h6, hb6, hk6⟩
            have H6 := Aside0.mk h6
            have Hb6 := Aside0.mk ((show Below w.heap.size w (w3.drewN (nd4 + nd5)) by repeat (first | exact Hb3.out | apply pw_below_drewN | apply below_drew1)).trans hb6)
            clear h6 hb6 hk6
            go_wp2
            go_roundg u.length
            case measure => rw [← hg]; omega
            case rel => exact ⟨ofL u, acc ++ a ++ [47], by first | rfl | (rw [← hext]; done) | (rw [← hext]; rfl), ofL_size u, by rw [ofL_size, List.length_append, List.length_append, List.length_singleton]; omega, H6, Hb6, hR3⟩
          · have hp1' : Aside0 (strings_HasPrefix.f (ofL (x :: u)) ⟨#[112]⟩ = some false) := ⟨by rw [hp1]; simp [h12]⟩
            have hp2' : Aside0 (strings_HasPrefix.f (ofL (x :: u)) ⟨#[115]⟩ = some false) := ⟨by rw [hp2]; simp [h15]⟩
            have hfin : (r1, r2) = ((⟨#[]⟩ : ByteArray), false) := by
              have h1 := hr.out
              rw [hR2, if_neg h12, if_neg h15] at h1
              exact h1.symm
            obtain ⟨rfl, rfl⟩ := Prod.mk.inj hfin
            clear hp1 hp2 hfin hr hR2
            go_wp2_with fail
            refine (strings_Cut.calls s ⟨#[37]⟩ (ofL a) (ofL (x :: u)) true _ hcut.out).mono ?_
            rintro e w1 ⟨rfl, ⟨nd, rfl⟩⟩
            go_wp2_with fail
            refine (bi_strU w.heap.size w.heap.size acc (ofL a) _ (bi_below HB.out (by repeat (first | exact Below.refl _ _ | apply pw_below_drewN | apply below_drew1))) hal (by exact HW.out.size)).mono ?_
            rintro e w3 ⟨rfl, h3, hb3, hk3⟩
            rw [ofL_toList] at h3
            have H3 := Aside0.mk h3
            have Hb3 := Aside0.mk ((show Below w.heap.size w (wr.drewN nd) by repeat (first | exact HW.out | apply pw_below_drewN | apply below_drew1)).trans hb3)
            clear h3 hb3 hk3
            go_wp2_with fail
            refine (strings_HasPrefix.calls (ofL (x :: u)) ⟨#[112]⟩ false _ hp1'.out).mono ?_
            rintro e w4 ⟨rfl, ⟨nd4, rfl⟩⟩
            go_wp2_with fail
            refine (strings_HasPrefix.calls (ofL (x :: u)) ⟨#[115]⟩ false _ hp2'.out).mono ?_
            rintro e w5 ⟨rfl, ⟨nd5, rfl⟩⟩
            go_wp2
            go_ret2
            exact ⟨rfl, by repeat (first | exact Hb3.out | apply pw_below_drewN | apply below_drew1)⟩

/-! ### path_Split: function 14 -/
/-- All parts, as they were. -/
def shownAll : List ByteArray → Option (List ByteArray)
  | [] => some []
  | x :: t => match shownL x.toList with
    | none => none
    | some l => (shownAll t).map (ofL l :: ·)
def path_Split.f (a0 : ByteArray) : Option (ByteArray × List ByteArray × Int) := (strings_Split.f a0 (⟨#[47]⟩ : ByteArray)).bind fun l => if l.all (fun x => decide (x.size ≤ 100000000)) ∧ 0 < l.length then (match shownAll l with
  | none => some ((⟨#[]⟩ : ByteArray), [], 6)
  | some [] => none
  | some (x :: t) => some (x, t, 0)) else none
theorem shownAll_len : ∀ {l r : List ByteArray}, shownAll l = some r → r.length = l.length
  | [], r, h => by obtain rfl := Option.some.inj h; rfl
  | x :: t, r, h => by
    simp only [shownAll] at h
    cases hx : shownL x.toList with
    | none => rw [hx] at h; simp at h
    | some l =>
      rw [hx] at h
      obtain ⟨p, hp, rfl⟩ := Option.map_eq_some_iff.1 h
      rw [List.length_cons, List.length_cons, shownAll_len hp]
theorem set_drop_take {α : Type} : ∀ (xs : List α) (k : Nat) (y : α), k < xs.length → (xs.set k y).take (k + 1) = xs.take k ++ [y] ∧ (xs.set k y).drop (k + 1) = xs.drop (k + 1)
  | [], k, y, h => absurd h (by simp)
  | x :: t, 0, y, h => by simp
  | x :: t, k + 1, y, h => by
    have ih := set_drop_take t k y (by simpa using h)
    simp only [List.set_cons_succ, List.take_succ_cons, List.drop_succ_cons, List.cons_append]
    exact ⟨congrArg _ ih.1, ih.2⟩
set_option maxHeartbeats 4000000 in
set_option maxRecDepth 100000 in
theorem path_Split.calls (a0 : ByteArray) (r1 : ByteArray) (r2 : List ByteArray) (r3 : Int) (w : World) (h : path_Split.f a0 = some (r1, r2, r3)) :
    Calls Tryd.prog 14 #[.string a0] w fun e w' => ∃ v1_ : Value, e = .returned (.tuple #[.string r1, v1_, .int .i64 r3]) ∧ Kd.Q Kd.string 9 w' w.heap.size (fun _ => True) v1_ r2 ∧ Below w.heap.size w w' := by
  unfold path_Split.f at h
  obtain ⟨l, hl0, h2⟩ := Option.bind_eq_some_iff.mp h
  have hl := Aside0.mk hl0
  clear h hl0
  by_cases hc : l.all (fun x => decide (x.size ≤ 100000000)) ∧ 0 < l.length
  case neg => rw [if_neg hc] at h2; exact absurd h2 (by simp)
  rw [if_pos hc] at h2
  obtain ⟨hall0, hpos⟩ := hc
  have hall := Aside0.mk (fun x hx => of_decide_eq_true (List.all_eq_true.1 hall0 x hx) : ∀ x ∈ l, x.size ≤ 100000000)
  clear hall0
  have H2 := Aside0.mk h2
  clear h2
  go_enter Tryd.func14, Tryd.ntmps14
  go_wp2_with fail
  refine (strings_Split.calls a0 ⟨#[47]⟩ l _ hl.out).mono ?_
  rintro e w1 ⟨v, rfl, hR0, hb0⟩
  obtain ⟨g, cap, rfl, hgb, _, _⟩ := Kd.R_form hR0 hpos
  obtain ⟨_, hcap, _⟩ := Kd.R_reads' hR0
  have HR0 := Aside0.mk hR0
  have HB0 := Aside0.mk hb0
  have hmx : l.length ≤ 9223372036854775807 := by
    have := (Kd.R_own hR0)
    obtain ⟨_, ho⟩ := this
    exact q_max (q_of_own ho)
  clear hR0 hb0 hl
  go_wp2_with fail
  go_loopg [14] l.length (fun gg s14 wx => ∃ (k : Nat) (pre : List ByteArray), s14 = .int .i64 k ∧ k + gg = l.length ∧ pre.length = k ∧ Aside0 (Kd.R Kd.string 9 wx w.heap.size (fun _ => True) (.slice (some ⟨g, 0, none⟩) l.length cap) (pre ++ l.drop k)) ∧ Aside0 (Below w.heap.size w wx) ∧ Aside0 (shownAll l = (shownAll (l.drop k)).map (pre ++ ·)))
  case atStart => exact ⟨0, [], rfl, by omega, rfl, HR0, HB0, ⟨by simp⟩⟩
  case round =>
    clear HR0 HB0
    obtain ⟨k, pre, rfl, hk, hpl, HR, HB, HS⟩ := hrel
    cases gk with
    | zero =>
      have hd : l.drop k = [] := List.drop_eq_nil_of_le (by omega)
      have hkn : (k : Int) = (l.length : Int) := by omega
      have hR := HR.out
      rw [hd, List.append_nil] at hR
      have hS := HS.out
      rw [hd] at hS
      obtain ⟨x, t, rfl⟩ : ∃ x t, pre = x :: t := by
        cases pre with
        | nil => rw [List.length_nil] at hpl; omega
        | cons x t => exact ⟨x, t, rfl⟩
      have hfin : (x, t, (0 : Int)) = (r1, r2, r3) := by
        have h1 := H2.out
        rw [hS] at h1
        simpa [shownAll] using h1
      simp only [Prod.mk.injEq] at hfin
      obtain ⟨rfl, rfl, rfl⟩ := hfin
      have hce := Kd.R_celln ByteArray.empty hR 0 (by omega) (by omega)
      have hc0 : wr.cell? ⟨g, 0, none⟩ = some (.string x) := hce.1
      have hc1 : wr.frozen? ⟨g, 0, none⟩ = false := hce.2
      have hQ1 := Kd.Q_drop (k := 1) (Kd.Q_of_R hR) (by simp)
      rw [show Option.map (fun x => x.add (1 * Kd.string.sz)) (some (⟨g, 0, none⟩ : Addr)) = some ⟨g, 1, none⟩ from rfl] at hQ1
      have hQ := Aside0.mk hQ1
      clear hQ1
      have h1l : (1 : Int) ≤ (l.length : Int) := by omega
      have h0l : (0 : Int) < (l.length : Int) := by omega
      clear HR HS hR hS hce hd
      go_wp2_with fail
      go_quiet (fail)
      all_goals go_wp2
      all_goals first | (have hcc : cap = 1 := by assumption); subst hcc | skip
      all_goals go_ret3
      all_goals refine ⟨_, rfl, ?_, by repeat (first | exact HB.out | apply pw_below_drewN | apply below_drew1)⟩
      all_goals have hq := hQ.out
      all_goals (first | exact Kd.Q_drewN hq _ | ((first | rw [if_pos rfl] at hq | rw [if_neg (by assumption)] at hq); exact Kd.Q_drewN hq _))
    | succ gg =>
      have hkl : k < l.length := by omega
      have hki : (k : Int) < (l.length : Int) := by omega
      have hk0 : (0 : Int) ≤ (k : Int) := by omega
      have hdk : l.drop k = l[k] :: l.drop (k + 1) := List.drop_eq_getElem_cons hkl
      obtain ⟨x, hx⟩ : ∃ x, l[k] = x := ⟨_, rfl⟩
      rw [hx] at hdk
      have hxm : x.size ≤ 100000000 := hall.out x (hx ▸ List.getElem_mem hkl)
      have hce := Kd.R_celln ByteArray.empty HR.out (k : Int) hk0 hki
      have hc0 : wr.cell? ⟨g, k, none⟩ = some (.string x) := by
        have h1 := hce.1
        rw [Int.toNat_natCast] at h1
        rw [h1]
        unfold rdOf
        rw [Int.toNat_natCast, hdk, List.getD_eq_getElem?_getD, List.getElem?_append_right (by omega), hpl, Nat.sub_self]
        rfl
      have hc1 : wr.frozen? ⟨g, k, none⟩ = false := by have h1 := hce.2; rw [Int.toNat_natCast] at h1; exact h1
      have hsh : path_shown.f x = some (match shownL x.toList with | some l => (ofL l, true) | none => ((⟨#[]⟩ : ByteArray), false)) := by unfold path_shown.f; rw [if_pos hxm]; try (cases shownL x.toList <;> rfl)
      clear hce
      cases hq : shownL x.toList with
      | none =>
        rw [hq] at hsh
        have hsh := Aside0.mk hsh
        have hfin : ((⟨#[]⟩ : ByteArray), ([] : List ByteArray), (6 : Int)) = (r1, r2, r3) := by
          have h1 := H2.out
          rw [HS.out, hdk, shownAll, hq] at h1
          simpa using h1
        simp only [Prod.mk.injEq] at hfin
        obtain ⟨rfl, rfl, rfl⟩ := hfin
        go_wp2_with fail
        refine (path_shown.calls x ⟨#[]⟩ false _ hsh.out).mono ?_
        rintro e w3 ⟨rfl, hb3⟩
        have HB3 := Aside0.mk (below_step HB.out hb3)
        clear hb3
        go_wp2
        go_ret3
        exact ⟨_, rfl, Kd.Q_nil _ _ _ _ _, HB3.out⟩
      | some m =>
        rw [hq] at hsh
        have hsh := Aside0.mk hsh
        go_wp2_with fail
        refine (path_shown.calls x (ofL m) true _ hsh.out).mono ?_
        rintro e w3 ⟨rfl, hb3⟩
        have hR3 := Kd.R_below HR.out hb3
        have hce3 := Kd.R_celln ByteArray.empty hR3 (k : Int) hk0 hki
        have hc3 : w3.cell? ⟨g, k, none⟩ = some (.string x) := by
          have h1 := hce3.1
          rw [Int.toNat_natCast] at h1
          rw [h1]
          unfold rdOf
          rw [Int.toNat_natCast, hdk, List.getD_eq_getElem?_getD, List.getElem?_append_right (by omega), hpl, Nat.sub_self]
          rfl
        have hc4 : w3.frozen? ⟨g, k, none⟩ = false := by have h1 := hce3.2; rw [Int.toNat_natCast] at h1; exact h1
        have hP := (Kd.R_putg hR3 (k : Int) (ofL m)).1
        rw [Int.toNat_natCast, List.set_append_right _ _ (by omega), hpl, Nat.sub_self, hdk, List.set_cons_zero, List.append_cons] at hP
        have hP3 := Aside0.mk hP
        have HB3 := Aside0.mk (below_set (j := k) (v := .string (ofL m)) (below_step HB.out hb3) hgb)
        have hS3 : Aside0 (shownAll l = (shownAll (l.drop (k + 1))).map ((pre ++ [ofL m]) ++ ·)) := ⟨by
          rw [HS.out, hdk, shownAll, hq]
          simp only [Option.map_map]
          congr 1
          funext y
          simp⟩
        clear hR3 hce3 hP hb3 HR HB HS
        go_wp2
        go_roundg gg
        case measure => omega
        case rel => exact ⟨k + 1, pre ++ [ofL m], by first | rfl | (simp; done), by omega, by simp [hpl], hP3, HB3, hS3⟩

end Go.Proofs.YtcgmododeiocpaaDoor.PPat
