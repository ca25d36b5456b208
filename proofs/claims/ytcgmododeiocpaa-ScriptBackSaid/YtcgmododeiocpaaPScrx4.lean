-- written by wip/myprint.py over the kit's print; not a printed text of print.sh
import Derived.Test.YtcgmododeiocpaaPScrx0
import Derived.Test.YtcgmododeiocpaaPScrx3
namespace Go.Proofs.Ytcgmododeiocpaa.PScr
open Go.RowKit Go.Proofs.YtcgmododeiocpaaW.PrintWords Go.Proofs.YtcgmododeiocpaaW.PrintLast Go.Proofs.YtcgmododeiocpaaW.PrintMore
attribute [local go_sem] max2_int min2_int max_two min_two max_three min_three max_four min_four   -- for this text's walks alone
set_option linter.unusedVariables false
set_option linter.unusedSimpArgs false

/-! ### script_digits: function 47 -/
def script_digits.f : Nat → Int → Option (ByteArray)
  | 0, _ => none
  | k + 1, a0 => if a0 < 10 then (some (strOfNums (([(wrap64 (48 + a0)) % 256] : List Int)))) else ((script_digits.f k (wrap64 (Int.tdiv a0 10))).bind fun t106 => ((script_digits.f k (Int.tmod a0 10)).bind fun t107 => (if t106.size + t107.size ≤ 9223372036854775807 then (some (t106 ++ t107)) else (none))))
theorem script_digits.mono_l : ∀ k, (∀ y0, LeO (script_digits.f k y0) (script_digits.f (k + 1) y0))
  | 0 => fun _ r h => by simp [script_digits.f] at h
  | k + 1 => by
    have ih0 := script_digits.mono_l k
    · intro y0
      unfold script_digits.f
      repeat' first
      | (with_reducible exact ih0 _)
      | (with_reducible exact LeO.refl _)
      | (with_reducible exact LeO.none _)
      | (with_reducible refine LeO.ite ?_ ?_)
      | (with_reducible refine LeO.bind ?_ (fun _ => ?_))
      | exact ih0 _
      | exact LeO.none _
      | refine LeO.ite ?_ ?_
      | refine LeO.bind ?_ (fun _ => ?_)
theorem script_digits.mono : ∀ a0 k, LeO (script_digits.f k a0) (script_digits.f (k + 1) a0) := by
  intro a0 k
  have ih0 := script_digits.mono_l k
  exact ih0 a0
set_option maxHeartbeats 8000000 in
set_option maxRecDepth 100000 in
theorem script_digits.calls (k : Nat) : ∀ (a0 : Int) (r : ByteArray) (w : World) (h : script_digits.f k a0 = some r),
    Calls Try.prog 47 #[.int .i64 a0] w fun e w' => e = .returned (.string r) ∧ Below w.heap.size w w' := by
  induction k using Nat.strongRecOn with
  | _ k ih =>
  intro a0 r w h
  cases k with
  | zero => exact absurd h (by simp [script_digits.f])
  | succ k =>
  simp only [script_digits.f] at h
  have HB := Aside0.mk (Below.refl w.heap.size w)
  have H : (if a0 < 10 then (some (strOfNums (([(wrap64 (48 + a0)) % 256] : List Int)))) else ((script_digits.f k (wrap64 (Int.tdiv a0 10))).bind fun t106 => ((script_digits.f k (Int.tmod a0 10)).bind fun t107 => (if t106.size + t107.size ≤ 9223372036854775807 then (some (t106 ++ t107)) else (none))))) = some r := h
  clear h
  by_cases c2 : a0 < 10
  · rw [if_pos c2] at H
    have c2b0 : decide (a0 < 10) = true := decide_eq_true c2
    clear c2
    obtain ⟨y103, hy103⟩ : ∃ y_ : List Int, y_ = (([(wrap64 (48 + a0)) % 256] : List Int)) := ⟨_, rfl⟩
    replace H : (some (strOfNums y103)) = some r := by first | (rw [hy103]; with_reducible exact H) | (have H2_ := (Option.bind_some _ _).symm.trans H; rw [hy103]; with_reducible exact H2_) | (have H2_ := (Option.bind_some _ _).symm.trans H; with_reducible exact H2_) | with_reducible exact H | (rw [hy103]; exact H) | exact H
    have Ny103 := Aside0.mk hy103
    clear hy103
    obtain rfl := Option.some.inj H
    go_enter Try.func47, Try.ntmps47
    go_wp2_with (first | ((with_reducible refine gate_dst (N := 8) rfl ?_); refine Kd.R_lit (Kd.int .u8) _ 5 ?hg (N := 8) ?hd (xs := ([(wrap64 (48 + a0)) % 256] : List Int)) (inner := [.int .u8 ((wrap64 (48 + a0)) % 256)]) (ok := fun _ => True) (okp := fun _ => True) ?hr ?hp (fun _ hk => hk) trivial (Below.refl _ _) (Nat.le_refl _) (by simp) ?_; (case hd => rfl); (case hg => rfl); (case hr => first | (go_simp; done) | (go_simp; rfl)); (case hp => exact (Reps.one (show Kd.M (Kd.int .u8) _ _ _ ((wrap64 (48 + a0)) % 256) [.int .u8 ((wrap64 (48 + a0)) % 256)] from rfl) (Reps.none _ _))); intro v104 w3 ho4 hb hg_ hnew_; clear hg_ hnew_; (first | rw [← Ny103.out] at ho4 | (simp only [Int.reduceToNat] at ho4; rw [← Ny103.out] at ho4)); have n0_ := Aside0.mk (Kd.R_lower ho4 (below_size (by repeat (first | (with_reducible first | exact HB.out | apply below_alloc | apply pw_below_drewN | apply below_drew1) | exact HB.out)))); have n1_ := Aside0.mk (below_step (by repeat (first | (with_reducible first | exact HB.out | apply below_alloc | apply pw_below_drewN | apply below_drew1) | exact HB.out)) hb); clear HB; have HO105 := n0_; have HB := n1_; clear n0_ n1_; clear hb ho4; have hcv5 := own_string (P := Try.prog) Try.underlying56 Try.underlying5 Try.underlying9 (Kd.own_of_R HO105.out)))
    go_ret
    exact ⟨by first | rfl | (simp [errW_none, errW_some] <;> rfl) | (simp [*, errW_none, errW_some] <;> rfl), by repeat (first | (with_reducible first | exact HB.out | apply below_alloc | apply pw_below_drewN | apply below_drew1) | exact HB.out)⟩
  · rw [if_neg c2] at H
    have c2b0 : decide (a0 < 10) = false := decide_eq_false c2
    clear c2
    replace H := Option.bind_eq_some_iff.mp H
    obtain ⟨t106, A60, H⟩ := H
    replace H : ((script_digits.f k (Int.tmod a0 10)).bind fun t107 => (if t106.size + t107.size ≤ 9223372036854775807 then (some (t106 ++ t107)) else (none))) = some r := H
    have A6 := Aside0.mk A60
    clear A60
    replace H := Option.bind_eq_some_iff.mp H
    obtain ⟨t107, A70, H⟩ := H
    replace H : (if t106.size + t107.size ≤ 9223372036854775807 then (some (t106 ++ t107)) else (none)) = some r := H
    have A7 := Aside0.mk A70
    clear A70
    by_cases c8 : t106.size + t107.size ≤ 9223372036854775807
    · rw [if_pos c8] at H
      have c8b0 := eq_true c8
      have c8b1 : decide (t106.size + t107.size ≤ 9223372036854775807) = true := decide_eq_true c8
      try have c8b2 : (9223372036854775807 < t106.size + t107.size) = False := eq_false (Nat.not_lt.2 c8)
      obtain rfl := Option.some.inj H
      go_enter Try.func47, Try.ntmps47
      go_wp2_with (first | ((with_reducible refine gate_callee (f := 47) rfl ?_); refine goesL_ (some 12) rfl rfl Try.func47 (by kernel_rfl) rfl #[.int .i64 (wrap64 (Int.tdiv a0 10))] rfl (by (try simp only [List.map_toArray, List.map_cons, List.map_nil]); first | done | rfl | (simp only [List.length_drop, List.length_take]; rfl)) ?_; (with_reducible refine (ih k (by omega) (wrap64 (Int.tdiv a0 10)) t106 _ A6.out).mono ?_); rintro e w9 ⟨rfl, hb⟩; refine ⟨_, rfl, ?_⟩; have n0_ := Aside0.mk (below_step (by repeat (first | (with_reducible first | exact HB.out | apply below_alloc | apply pw_below_drewN | apply below_drew1) | exact HB.out)) hb); clear HB; have HB := n0_; clear n0_; (try clear hb); (try clear hb2); (try clear hk); (try clear hi)) | ((with_reducible refine gate_callee (f := 47) rfl ?_); refine goesL_ (some 15) rfl rfl Try.func47 (by kernel_rfl) rfl #[.int .i64 (Int.tmod a0 10)] rfl (by (try simp only [List.map_toArray, List.map_cons, List.map_nil]); first | done | rfl | (simp only [List.length_drop, List.length_take]; rfl)) ?_; (with_reducible refine (ih k (by omega) (Int.tmod a0 10) t107 _ A7.out).mono ?_); rintro e w10 ⟨rfl, hb⟩; refine ⟨_, rfl, ?_⟩; have n0_ := Aside0.mk (below_step (by repeat (first | (with_reducible first | exact HB.out | apply below_alloc | apply pw_below_drewN | apply below_drew1) | exact HB.out)) hb); clear HB; have HB := n0_; clear n0_; (try clear hb); (try clear hb2); (try clear hk); (try clear hi)))
      go_ret
      exact ⟨by first | rfl | (simp [errW_none, errW_some] <;> rfl) | (simp [*, errW_none, errW_some] <;> rfl), by repeat (first | (with_reducible first | exact HB.out | apply below_alloc | apply pw_below_drewN | apply below_drew1) | exact HB.out)⟩
    · rw [if_neg c8] at H
      exact absurd H (by simp)

/-! ### hexa_Put: function 48 -/
/-- A hexadecimal digit. -/
def hexDig (n : Nat) : Int := if n < 10 then 48 + n else 87 + n
def hexArr : Value := .agg #[.int .u8 48, .int .u8 49, .int .u8 50, .int .u8 51, .int .u8 52, .int .u8 53, .int .u8 54, .int .u8 55, .int .u8 56, .int .u8 57, .int .u8 97, .int .u8 98, .int .u8 99, .int .u8 100, .int .u8 101, .int .u8 102]
set_option maxHeartbeats 1000000 in
theorem hexa_digits.calls (w : World) : Calls Try.prog 67 #[] w fun e w' => e = .returned hexArr ∧ Below w.heap.size w w' := by
  go_enter Try.func67, Try.ntmps67
  go_wp2
  exact bodyPost_ret (v := hexArr) (by simp [results, Try.results67, go_sem, hexArr]) rfl ⟨rfl, (Below.refl _ _).alloc (Nat.le_refl _) _⟩
theorem hexArr_at (k : Nat) (hk : k < 16) (w : World) : (Instr.index 113 hexArr (.int .i64 (k : Int))).run Try.prog w = .ok (.int .u8 (hexDig k)) w := by
  rcases k with _|_|_|_|_|_|_|_|_|_|_|_|_|_|_|_|k
  all_goals (first | (exfalso; omega) | kernel_rfl)
def hexa_half.f (a0 : Int) : Option Int := some (if 48 ≤ a0 ∧ a0 ≤ 57 then a0 - 48 else if 97 ≤ a0 ∧ a0 ≤ 102 then a0 - 87 else 16)
theorem hexa_half.found (k : Nat) (hk : k < 16) : hexa_half.f (hexDig k) = some (k : Int) := by
  unfold hexa_half.f hexDig
  congr 1
  split <;> repeat' split
  all_goals omega
theorem hexa_half.none_ (a0 : Int) (h : ∀ k : Nat, k < 16 → hexDig k ≠ a0) : hexa_half.f a0 = some 16 := by
  unfold hexa_half.f
  congr 1
  split
  · rename_i h1
    have := h (a0 - 48).toNat (by omega)
    unfold hexDig at this
    rw [if_pos (by omega)] at this
    omega
  · split
    · rename_i h1
      have := h (a0 - 87).toNat (by omega)
      unfold hexDig at this
      rw [if_neg (by omega)] at this
      omega
    · rfl
set_option maxHeartbeats 1000000 in
theorem hexa_half.calls (a0 : Int) (r : Int) (w : World) (h : hexa_half.f a0 = some r) :
    Calls Try.prog 79 #[.int .u8 a0] w fun e w' => e = .returned (.int .u8 r) ∧ Below w.heap.size w w' := by
  go_enter Try.func79, Try.ntmps79
  go_wp2_with (go_at_call 67; refine (hexa_digits.calls _).mono ?_; rintro e w1 ⟨rfl, hb⟩)
  replace h := Aside0.mk h
  replace hb := Aside0.mk hb
  go_loop [6] (fun i => ∃ k : Nat, k ≤ 16 ∧ i = .int .i64 k ∧ Aside0 (∀ j : Nat, j < k → hexDig j ≠ a0)) (fun i => 16 - (intOf i).toNat)
  case atStart => exact ⟨0, by omega, rfl, ⟨fun j hj => by omega⟩⟩
  case round =>
    obtain ⟨k, hk, rfl, ha⟩ := hrel
    by_cases hlt : k < 16
    · have hidx := hexArr_at k hlt
      by_cases he : hexDig k = a0
      · have h2 := h.out
        rw [← he, hexa_half.found k hlt] at h2
        obtain rfl := Option.some.inj h2
        have heb : (hexDig k == a0) = true := beq_iff_eq.mpr he
        clear he h
        go_wp2
        go_ret
        exact ⟨by first | rfl | (congr 2; omega), hb.out⟩
      · have heb : (hexDig k == a0) = false := beq_eq_false_iff_ne.mpr he
        have ha2 : Aside0 (∀ j : Nat, j < k + 1 → hexDig j ≠ a0) := ⟨fun j hj => by
          by_cases hjk : j = k
          · rw [hjk]; exact he
          · exact ha.out j (by omega)⟩
        clear he h ha
        go_wp2
        go_round
        case rel => exact ⟨k + 1, by omega, by go_num, ha2⟩
        case measure => simp [intOf]; omega
    · have h2 := h.out
      rw [hexa_half.none_ a0 (fun j hj => ha.out j (by omega))] at h2
      obtain rfl := Option.some.inj h2
      clear h ha
      go_wp2
      go_ret
      exact ⟨rfl, hb.out⟩
theorem hexVals_at (k : Nat) (hk : k < 16) : (#[Value.int .u8 48, .int .u8 49, .int .u8 50, .int .u8 51, .int .u8 52, .int .u8 53, .int .u8 54, .int .u8 55, .int .u8 56, .int .u8 57, .int .u8 97, .int .u8 98, .int .u8 99, .int .u8 100, .int .u8 101, .int .u8 102] : Array Value)[k]? = some (.int .u8 (hexDig k)) := by
  rcases k with _|_|_|_|_|_|_|_|_|_|_|_|_|_|_|_|k
  all_goals (first | (exfalso; omega) | rfl)
def hexa_Put.f (a0 : ByteArray) : Option ByteArray := if a0.size ≤ 1000000 then some (strOfNums ((bytesOf a0).flatMap fun c => [hexDig (c / 16).toNat, hexDig (c % 16).toNat])) else none
set_option maxRecDepth 100000 in
set_option maxHeartbeats 1000000 in
theorem hexa_Put.calls (a0 : ByteArray) (r : ByteArray) (w : World) (h : hexa_Put.f a0 = some r) :
    Calls Try.prog 48 #[.string a0] w fun e w' => e = .returned (.string r) ∧ Below w.heap.size w w' := by
  unfold hexa_Put.f at h
  by_cases hs : a0.size ≤ 1000000
  case neg => rw [if_neg hs] at h; exact absurd h (by simp)
  rw [if_pos hs] at h
  obtain rfl := Option.some.inj h
  clear h
  have kb := fun W => print_bytes (P := Try.prog) 9 56 5 Try.underlying9 Try.underlying56 Try.underlying5 a0 W
  obtain ⟨i0, hi, hz0, hz1, hz2⟩ := info_parts info5
  go_enter Try.func48, Try.ntmps48
  go_wp2_with (first
    | (go_at_call 67; refine (hexa_digits.calls _).mono ?_; rintro e w1 ⟨rfl, hb⟩; unfold hexArr)
    | (at_make; refine wpList_make_own _ rfl _ _ 56 rfl w.heap.size 5 i0 (.int .u8 0) 1 Try.underlying56 hi hz0 hz1 _ _ _ (2 * a0.size) rfl rfl (by omega) (by rw [hz2]; omega) (by unfold maxLen; omega) (by have := hb.size; simp; omega) ?_; intro w2 hown hg))
  rw [my_alloc_size] at hown
  have hsz := hg.size
  rw [my_alloc_size] at hsz
  have hD : Aside0 (w2.heap[w1.heap.size]? = some (.cells #[.int .u8 48, .int .u8 49, .int .u8 50, .int .u8 51, .int .u8 52, .int .u8 53, .int .u8 54, .int .u8 55, .int .u8 56, .int .u8 57, .int .u8 97, .int .u8 98, .int .u8 99, .int .u8 100, .int .u8 101, .int .u8 102] 113)) := ⟨(hg.block _ (by rw [my_alloc_size]; omega) (by simp)).trans (my_alloc_new _ _)⟩
  have hbl : Aside0 (Below w.heap.size w (Lib.bytesWorld w2 5 a0)) := ⟨bytes_below ((below_alloc hb _).grown hg (by rw [my_alloc_size]; have := hb.size; omega) (by simp)) (by have := hb.size; omega) 5 a0⟩
  have hS : Aside0 ((Lib.bytesWorld w2 5 a0).heap[w2.heap.size]? = some (.cells (Lib.bytesCells w2 5 a0) 5 ((Lib.bytesCells w2 5 a0).size, (Lib.bytesCells w2 5 a0).size + 1))) := ⟨Lib.bytesWorld_at_new w2 5 a0⟩
  have hc : Aside0 (∀ k, k < a0.size → (Lib.bytesCells w2 5 a0)[k]? = some (.int .u8 (bt a0 k))) := ⟨fun k hk => by
    have h1 := my_bytes_cell w2 5 a0 k w2.heap.size rfl hk
    simpa [World.cell?, hS.out] using h1⟩
  have hD2 : Aside0 ((Lib.bytesWorld w2 5 a0).heap[w1.heap.size]? = some (.cells #[.int .u8 48, .int .u8 49, .int .u8 50, .int .u8 51, .int .u8 52, .int .u8 53, .int .u8 54, .int .u8 55, .int .u8 56, .int .u8 57, .int .u8 97, .int .u8 98, .int .u8 99, .int .u8 100, .int .u8 101, .int .u8 102] 113)) := ⟨(Lib.bytesWorld_at_old w2 5 a0 _ (by omega)).trans hD.out⟩
  have hR : Aside0 ((Lib.bytesWorld w2 5 a0).ownsRow w.heap.size 5 1 (.slice (some ⟨w1.heap.size + 1, 0, none⟩) 0 (2 * a0.size)) 0 []) := ⟨pw_own_below hown (bytes_below (Below.refl _ _) (Nat.le_refl _) 5 a0)⟩
  clear hown hsz hD hg hb kb
  generalize Lib.bytesCells w2 5 a0 = cs at hS hc
  generalize hSS : w2.heap.size = S at hS
  generalize hDD : w1.heap.size = D at hD2 hR
  go_loopw [4, 15] (fun v i wr => ∃ k : Nat, k ≤ a0.size ∧ i = .int .i64 k ∧ Aside0 (wr.ownsRow w.heap.size 5 1 v (2 * k) (nums .u8 (((bytesOf a0).take k).flatMap fun c => [hexDig (c / 16).toNat, hexDig (c % 16).toNat]))) ∧ Aside0 (wr.heap[D]? = some (.cells #[.int .u8 48, .int .u8 49, .int .u8 50, .int .u8 51, .int .u8 52, .int .u8 53, .int .u8 54, .int .u8 55, .int .u8 56, .int .u8 57, .int .u8 97, .int .u8 98, .int .u8 99, .int .u8 100, .int .u8 101, .int .u8 102] 113)) ∧ Aside0 (wr.heap[S]? = some (.cells cs 5 (cs.size, cs.size + 1))) ∧ Aside0 (Below w.heap.size w wr)) (fun _ i _ => a0.size - (intOf i).toNat)
  case atStart => exact ⟨0, Nat.zero_le _, rfl, hR, hD2, hS, hbl⟩
  case round =>
    obtain ⟨k, hk, rfl, hR, hD2, hS, hbl⟩ := hrel
    by_cases hkl : k < a0.size
    · have hcell := my_cell_of hS.out (hc.out k hkl)
      have hbt := bt_range a0 k
      have hb1 : 0 ≤ bt a0 k / 16 := by omega
      have hb2 : bt a0 k / 16 < 16 := by omega
      have hb3 : Go.bits .and .u8 (bt a0 k) 15 = bt a0 k % 16 := and_15 _ hbt.1 hbt.2
      have hb4 : 0 ≤ bt a0 k % 16 := by omega
      have hb5 : bt a0 k % 16 < 16 := by omega
      have hx1 := my_cell_of hD2.out (hexVals_at (bt a0 k / 16).toNat (by omega))
      have hx2 := my_cell_of hD2.out (hexVals_at (bt a0 k % 16).toNat (by omega))
      have hx1' : World.cell? { heap := wr.heap, tape := wr.tape, drawn := wr.drawn + 1, os := wr.os, output := wr.output } ⟨D, (bt a0 k / 16).toNat, none⟩ = some (.int .u8 (hexDig (bt a0 k / 16).toNat)) := hx1
      have hx2' : World.cell? { heap := wr.heap, tape := wr.tape, drawn := wr.drawn + 1, os := wr.os, output := wr.output } ⟨D, (bt a0 k % 16).toNat, none⟩ = some (.int .u8 (hexDig (bt a0 k % 16).toNat)) := hx2
      have hne1 := my_own_ne hR.out hD2.out (.inl (by decide))
      have hne2 := my_own_ne hR.out hS.out (.inr (by simp))
      have hbz := hbl.out.size
      have hDl : D < wr.heap.size := (Array.getElem?_eq_some_iff.1 hD2.out).1
      have hlen : Aside0 (2 * k ≤ 2000000) := ⟨by omega⟩
      go_wp2_with fail
      go_region_held3 (fun w' => w'.cell? ⟨D, (bt a0 k / 16).toNat, none⟩ = some (.int .u8 (hexDig (bt a0 k / 16).toNat)) ∧ w'.cell? ⟨D, (bt a0 k % 16).toNat, none⟩ = some (.int .u8 (hexDig (bt a0 k % 16).toNat)))
        (first
          | go_keep
          | (go_split_ands
             refine ⟨?_, ?_⟩
             · (rw [hgrow.cell_far _ (by simp; omega) hne1]; assumption)
             · (rw [hgrow.cell_far _ (by simp; omega) hne1]; assumption)))
        ((refine step_append_lies _ (by rfl) _ _ _ (by rfl) w.heap.size 5 i0 _ 1 1 Try.underlying56 hi hz0 hz1 hz2 rfl (by omega) u4 (2 * k) _ (by rfl) ((hR.out.alloc _).drew)
            ⟨wr.heap.size, 0, none⟩ 2 2 [.int .u8 (hexDig (bt a0 k / 16).toNat), .int .u8 (hexDig (bt a0 k % 16).toNat)] (by rfl) (by rfl) (World.news_of_block (cs := #[.int .u8 (hexDig (bt a0 k / 16).toNat), .int .u8 (hexDig (bt a0 k % 16).toNat)]) (t := 5) (fr := (0, 0)) (heap_alloc_new wr _)) (by simp [Value.oneCell'])
            (by omega) (by unfold maxLen; have := hlen.out; omega) (by have := hlen.out; omega) (by simp; omega) (wr.heap.size + 1) (by simp) ?_; intro gg cap w1 hown1 hgrow hat hlt))
      have hR1 : Aside0 (w1.ownsRow w.heap.size 5 1 (.slice (some ⟨gg, 0, none⟩) (2 * k + 2) cap) (2 * (k + 1)) (nums .u8 (((bytesOf a0).take (k + 1)).flatMap fun c => [hexDig (c / 16).toNat, hexDig (c % 16).toNat]))) := ⟨by
        rw [take_bytes a0 k hkl, List.flatMap_append, nums_append]
        exact hown1⟩
      have hD3 : Aside0 (w1.heap[D]? = some (.cells #[.int .u8 48, .int .u8 49, .int .u8 50, .int .u8 51, .int .u8 52, .int .u8 53, .int .u8 54, .int .u8 55, .int .u8 56, .int .u8 57, .int .u8 97, .int .u8 98, .int .u8 99, .int .u8 100, .int .u8 101, .int .u8 102] 113)) := ⟨(hgrow.block D (by show D < (wr.alloc _).heap.size; rw [my_alloc_size]; omega) hne1).trans ((my_alloc_old wr _ D hDl).trans hD2.out)⟩
      have hSl : S < wr.heap.size := (Array.getElem?_eq_some_iff.1 hS.out).1
      have hS3 : Aside0 (w1.heap[S]? = some (.cells cs 5 (cs.size, cs.size + 1))) := ⟨(hgrow.block S (by show S < (wr.alloc _).heap.size; rw [my_alloc_size]; omega) hne2).trans ((my_alloc_old wr _ S hSl).trans hS.out)⟩
      have hb3 : Aside0 (Below w.heap.size w w1) := ⟨((hbl.out.alloc hbz _).drew).grown hgrow (by show _ ≤ (wr.alloc _).heap.size; rw [my_alloc_size]; omega) (own_base hR.out)⟩
      clear hD2 hS hbl hR hx1 hx2 hx1' hx2' hcell hgrow hown1 hat hne1 hne2
      go_wp2
      go_roundw
      case rel => exact ⟨k + 1, by omega, by go_num, hR1, hD3, hS3, hb3⟩
      case measure => simp [intOf]; omega
    · have hk2 : k = a0.size := by omega
      subst hk2
      have hRR := hR.out
      rw [List.take_of_length_le (by rw [bytesOf_length]; exact Nat.le_refl _)] at hRR
      have hl2 : 2 * a0.size = ((bytesOf a0).flatMap fun c => [hexDig (c / 16).toNat, hexDig (c % 16).toNat]).length := by have := hRR.1; rw [nums_length] at this; omega
      rw [hl2] at hRR
      have hcv := own_string (P := Try.prog) Try.underlying56 Try.underlying5 Try.underlying9 hRR
      clear hRR hR hD2 hS hl2 hkl
      go_wp2
      go_ret
      exact ⟨rfl, hbl.out⟩

/-! ### script_text: function 27 -/
def script_text.f (k : Nat) (a0 : Option Stp) : Option (ByteArray) := if a0.isNone = true then (some (⟨#[]⟩ : ByteArray)) else (if ((a0.getD stp0)).ty = 88 then ((script_digits.f k (a0.getD stp0).side).bind fun t110 => (if 3 + t110.size ≤ 9223372036854775807 then (if ((⟨#[100, 111, 32]⟩ : ByteArray) ++ t110).size + 1 ≤ 9223372036854775807 then ((hexa_Put.f (a0.getD stp0).raw).bind fun t111 => (if (((⟨#[100, 111, 32]⟩ : ByteArray) ++ t110) ++ (⟨#[32]⟩ : ByteArray)).size + t111.size ≤ 9223372036854775807 then (some ((((⟨#[100, 111, 32]⟩ : ByteArray) ++ t110) ++ (⟨#[32]⟩ : ByteArray)) ++ t111)) else (none))) else (none)) else (none))) else (if ((a0.getD stp0)).ty = 90 then ((script_digits.f k (a0.getD stp0).side).bind fun t113 => (if 6 + t113.size ≤ 9223372036854775807 then (some ((⟨#[98, 108, 111, 99, 107, 32]⟩ : ByteArray) ++ t113)) else (none))) else (if ((a0.getD stp0)).ty = 92 then ((script_digits.f k (a0.getD stp0).n).bind fun t115 => (if 5 + t115.size ≤ 9223372036854775807 then (some ((⟨#[116, 105, 99, 107, 32]⟩ : ByteArray) ++ t115)) else (none))) else (if ((a0.getD stp0)).ty = 93 then (some (a0.getD stp0).w) else (some (⟨#[]⟩ : ByteArray))))))
theorem script_text.mono : ∀ a0 k, LeO (script_text.f k a0) (script_text.f (k + 1) a0) := by
  intro a0 k
  unfold script_text.f
  repeat' first
      | (with_reducible exact script_digits.mono _ _)
      | (with_reducible exact LeO.refl _)
      | (with_reducible exact LeO.none _)
      | (with_reducible refine LeO.ite ?_ ?_)
      | (with_reducible refine LeO.bind ?_ (fun _ => ?_))
      | exact script_digits.mono _ _
      | exact LeO.none _
      | refine LeO.ite ?_ ?_
      | refine LeO.bind ?_ (fun _ => ?_)
def script_text.T4 : Bool × List (List Nat × List Nat) := (true, [([], []), ([0], [0]), ([1], [1]), ([2], [2]), ([3], [3]), ([], []), ([5], [5]), ([6, 2], [6]), ([4, 7], [4, 7]), ([8, 7, 0, 1, 2, 3, 4, 5, 6, 7, 8], [8])])
def script_text.B4 : List Nat := [0, 1, 3, 7, 15, 0, 32, 103, 255, 511]
theorem script_text.tab4 : rtab .any (opsOf Try.f27 4) = script_text.T4 := by kernel_rfl
theorem script_text.bits4 : waitsOk script_text.T4.2 script_text.B4 = true := by kernel_rfl
set_option maxHeartbeats 8000000 in
set_option maxRecDepth 100000 in
theorem script_text.calls (k : Nat) (a0 : Option Stp) (r : ByteArray) (w : World) (h : script_text.f k a0 = some r) :
    Calls Try.prog 27 #[errW a0] w fun e w' => e = .returned (.string r) ∧ Below w.heap.size w w' := by
  have hu88 := Try.underlying88
  have hu90 := Try.underlying90
  have hu92 := Try.underlying92
  have HB := Aside0.mk (Below.refl w.heap.size w)
  have H : (if a0.isNone = true then (some (⟨#[]⟩ : ByteArray)) else (if ((a0.getD stp0)).ty = 88 then ((script_digits.f k (a0.getD stp0).side).bind fun t110 => (if 3 + t110.size ≤ 9223372036854775807 then (if ((⟨#[100, 111, 32]⟩ : ByteArray) ++ t110).size + 1 ≤ 9223372036854775807 then ((hexa_Put.f (a0.getD stp0).raw).bind fun t111 => (if (((⟨#[100, 111, 32]⟩ : ByteArray) ++ t110) ++ (⟨#[32]⟩ : ByteArray)).size + t111.size ≤ 9223372036854775807 then (some ((((⟨#[100, 111, 32]⟩ : ByteArray) ++ t110) ++ (⟨#[32]⟩ : ByteArray)) ++ t111)) else (none))) else (none)) else (none))) else (if ((a0.getD stp0)).ty = 90 then ((script_digits.f k (a0.getD stp0).side).bind fun t113 => (if 6 + t113.size ≤ 9223372036854775807 then (some ((⟨#[98, 108, 111, 99, 107, 32]⟩ : ByteArray) ++ t113)) else (none))) else (if ((a0.getD stp0)).ty = 92 then ((script_digits.f k (a0.getD stp0).n).bind fun t115 => (if 5 + t115.size ≤ 9223372036854775807 then (some ((⟨#[116, 105, 99, 107, 32]⟩ : ByteArray) ++ t115)) else (none))) else (if ((a0.getD stp0)).ty = 93 then (some (a0.getD stp0).w) else (some (⟨#[]⟩ : ByteArray))))))) = some r := h
  clear h
  have asn0 := fun (w : World) => as_nil Try.underlying88 (fun x => by simp) as_z0 w
  have asn1 := fun (w : World) => as_nil Try.underlying90 (fun x => by simp) as_z1 w
  have asn2 := fun (w : World) => as_nil Try.underlying92 (fun x => by simp) as_z2 w
  have asn3 := fun (w : World) => as_nil Try.underlying93 (fun x => by simp) as_z3 w
  rcases a0 with _ | q108
  · have H1 : (some (⟨#[]⟩ : ByteArray)) = some r := by rw [if_pos (show (none : Option Stp).isNone = true by rfl)] at H; exact H
    clear H
    have H := H1
    clear H1
    simp only [errW_none, errW_some]
    obtain rfl := Option.some.inj H
    go_enter Try.func27, Try.ntmps27
    go_wp2
    go_ret
    exact ⟨by first | rfl | (simp [errW_none, errW_some] <;> rfl) | (simp [*, errW_none, errW_some] <;> rfl), by repeat (first | (with_reducible first | exact HB.out | apply below_alloc | apply pw_below_drewN | apply below_drew1) | exact HB.out)⟩
  · have H1 : (if (q108).ty = 88 then ((script_digits.f k q108.side).bind fun t110 => (if 3 + t110.size ≤ 9223372036854775807 then (if ((⟨#[100, 111, 32]⟩ : ByteArray) ++ t110).size + 1 ≤ 9223372036854775807 then ((hexa_Put.f q108.raw).bind fun t111 => (if (((⟨#[100, 111, 32]⟩ : ByteArray) ++ t110) ++ (⟨#[32]⟩ : ByteArray)).size + t111.size ≤ 9223372036854775807 then (some ((((⟨#[100, 111, 32]⟩ : ByteArray) ++ t110) ++ (⟨#[32]⟩ : ByteArray)) ++ t111)) else (none))) else (none)) else (none))) else (if (q108).ty = 90 then ((script_digits.f k q108.side).bind fun t113 => (if 6 + t113.size ≤ 9223372036854775807 then (some ((⟨#[98, 108, 111, 99, 107, 32]⟩ : ByteArray) ++ t113)) else (none))) else (if (q108).ty = 92 then ((script_digits.f k q108.n).bind fun t115 => (if 5 + t115.size ≤ 9223372036854775807 then (some ((⟨#[116, 105, 99, 107, 32]⟩ : ByteArray) ++ t115)) else (none))) else (if (q108).ty = 93 then (some q108.w) else (some (⟨#[]⟩ : ByteArray)))))) = some r := by rw [if_neg (show ¬ (some q108).isNone = true by simp)] at H; exact H
    clear H
    have H := H1
    clear H1
    simp only [errW_none, errW_some]
    by_cases c2 : (q108).ty = 88
    · rw [if_pos c2] at H
      have c2b0 : ((q108).ty == 88) = true := beq_iff_eq.mpr c2
      have c2b7 := fun (v : Value) (w : World) => as_yes Try.underlying88 (fun x => by simp) (of_decide_eq_true c2b0 : (q108).ty = 88) v w
      have c2b9 := Stp.val0 (of_decide_eq_true c2b0 : (q108).ty = 88)
      have c2b1 : ((q108).ty != 88) = false := bne_eq_false_iff_eq.mpr c2
      clear c2
      replace H := Option.bind_eq_some_iff.mp H
      obtain ⟨t110, A30, H⟩ := H
      replace H : (if 3 + t110.size ≤ 9223372036854775807 then (if ((⟨#[100, 111, 32]⟩ : ByteArray) ++ t110).size + 1 ≤ 9223372036854775807 then ((hexa_Put.f q108.raw).bind fun t111 => (if (((⟨#[100, 111, 32]⟩ : ByteArray) ++ t110) ++ (⟨#[32]⟩ : ByteArray)).size + t111.size ≤ 9223372036854775807 then (some ((((⟨#[100, 111, 32]⟩ : ByteArray) ++ t110) ++ (⟨#[32]⟩ : ByteArray)) ++ t111)) else (none))) else (none)) else (none)) = some r := H
      have A3 := Aside0.mk A30
      clear A30
      by_cases c4 : 3 + t110.size ≤ 9223372036854775807
      · rw [if_pos c4] at H
        have c4b0 := eq_true c4
        have c4b1 : decide (3 + t110.size ≤ 9223372036854775807) = true := decide_eq_true c4
        try have c4b2 : (9223372036854775807 < 3 + t110.size) = False := eq_false (Nat.not_lt.2 c4)
        by_cases c5 : ((⟨#[100, 111, 32]⟩ : ByteArray) ++ t110).size + 1 ≤ 9223372036854775807
        · rw [if_pos c5] at H
          have c5b0 := eq_true c5
          have c5b1 : decide (((⟨#[100, 111, 32]⟩ : ByteArray) ++ t110).size + 1 ≤ 9223372036854775807) = true := decide_eq_true c5
          try have c5b2 : (9223372036854775807 < ((⟨#[100, 111, 32]⟩ : ByteArray) ++ t110).size + 1) = False := eq_false (Nat.not_lt.2 c5)
          try (have c5b2_ := c5b2; simp only [ByteArray.size_append, my_lit_size, List.length_cons, List.length_nil, Nat.reduceAdd] at c5b2_)
          replace H := Option.bind_eq_some_iff.mp H
          obtain ⟨t111, A60, H⟩ := H
          replace H : (if (((⟨#[100, 111, 32]⟩ : ByteArray) ++ t110) ++ (⟨#[32]⟩ : ByteArray)).size + t111.size ≤ 9223372036854775807 then (some ((((⟨#[100, 111, 32]⟩ : ByteArray) ++ t110) ++ (⟨#[32]⟩ : ByteArray)) ++ t111)) else (none)) = some r := H
          have A6 := Aside0.mk A60
          clear A60
          by_cases c7 : (((⟨#[100, 111, 32]⟩ : ByteArray) ++ t110) ++ (⟨#[32]⟩ : ByteArray)).size + t111.size ≤ 9223372036854775807
          · rw [if_pos c7] at H
            have c7b0 := eq_true c7
            have c7b1 : decide ((((⟨#[100, 111, 32]⟩ : ByteArray) ++ t110) ++ (⟨#[32]⟩ : ByteArray)).size + t111.size ≤ 9223372036854775807) = true := decide_eq_true c7
            try have c7b2 : (9223372036854775807 < (((⟨#[100, 111, 32]⟩ : ByteArray) ++ t110) ++ (⟨#[32]⟩ : ByteArray)).size + t111.size) = False := eq_false (Nat.not_lt.2 c7)
            try (have c7b2_ := c7b2; simp only [ByteArray.size_append, my_lit_size, List.length_cons, List.length_nil, Nat.reduceAdd] at c7b2_)
            obtain rfl := Option.some.inj H
            go_enter Try.func27, Try.ntmps27
            try go_wp2_with (first | ((with_reducible refine gate_dst (N := 3) rfl ?_); refine box_event ?hg (N := 3) ?hd (cs := #[.int .i64 0, .string (⟨#[]⟩ : ByteArray)]) (t := 88) ?hr ?_; (case hd => rfl); (case hg => rfl); (case hr => first | (go_simp; done) | (go_simp; rfl)); intro gb109 hg w8 hbox hb; have n0_ := Aside0.mk (below_step (by repeat (first | (with_reducible first | exact HB.out | apply below_alloc | apply pw_below_drewN | apply below_drew1) | exact HB.out)) hb); have n1_ := Aside0.mk (hbox); have n2_ := Aside0.mk ((by rw [hg]; exact (below_size (by repeat (first | (with_reducible first | exact HB.out | apply below_alloc | apply pw_below_drewN | apply below_drew1) | exact HB.out))) : w.heap.size ≤ gb109)); have n3_ := Aside0.mk ((by rw [hg]; exact (below_size (by repeat (first | (with_reducible first | exact HB.out | apply below_alloc | apply pw_below_drewN | apply below_drew1) | exact HB.out))) : w.heap.size ≤ gb109)); clear HB; have HB := n0_; have BK109 := n1_; have GW109 := n2_; have GE109 := n3_; clear n0_ n1_ n2_ n3_; clear hb hbox hg; have hcz9_0 : w8.cell? ⟨gb109, 0, none⟩ = some (.int .i64 0) := (blk_cell BK109.out 0).trans rfl; have hcz9_1 : w8.cell? ⟨gb109, 1, none⟩ = some (.string (⟨#[]⟩ : ByteArray)) := (blk_cell BK109.out 1).trans rfl; have hfz9_0 := blk_frozen BK109.out 0; have hfz9_1 := blk_frozen BK109.out 1))
            have n0_ : Aside0 (((w8.setCell ⟨gb109, 0, none⟩ (.int .i64 q108.side)).setCell ⟨gb109, 1, none⟩ (.string q108.raw)).heap[gb109]? = some (.cells #[.int .i64 q108.side, .string q108.raw] 88 (0, 0))) := ⟨by (with_reducible repeat (first | refine blk_drewN ?_ _ | refine blk_drew ?_ | refine blk_alloc ?_ _)); refine blk_put (cs := #[.int .i64 q108.side, .string (⟨#[]⟩ : ByteArray)]) ?_ 1 _ rfl; (with_reducible repeat (first | refine blk_drewN ?_ _ | refine blk_drew ?_ | refine blk_alloc ?_ _)); refine blk_put (cs := #[.int .i64 0, .string (⟨#[]⟩ : ByteArray)]) ?_ 0 _ rfl; (with_reducible repeat (first | refine blk_drewN ?_ _ | refine blk_drew ?_ | refine blk_alloc ?_ _)); exact BK109.out⟩
            have n1_ : Aside0 (Below w.heap.size w ((w8.setCell ⟨gb109, 0, none⟩ (.int .i64 q108.side)).setCell ⟨gb109, 1, none⟩ (.string q108.raw))) := ⟨by repeat (first | (with_reducible first | exact HB.out | apply below_alloc | apply pw_below_drewN | apply below_drew1 | refine below_set ?_ GE109.out) | exact HB.out)⟩
            (try clear BK109)
            (try clear HB)
            generalize ((w8.setCell ⟨gb109, 0, none⟩ (.int .i64 q108.side)).setCell ⟨gb109, 1, none⟩ (.string q108.raw)) = w10 at n0_ n1_ ⊢
            have BK109 := n0_
            have HB := n1_
            clear n0_ n1_
            have n0_ := Aside0.mk (blk_drew BK109.out)
            have n1_ := Aside0.mk (below_drew1 HB.out)
            clear BK109
            clear HB
            have BK109 := n0_
            have HB := n1_
            clear n0_ n1_
            refine start_ (n := 10) (S := fun w' => w'.cell? ⟨gb109, 0, none⟩ = some (.int .i64 q108.side) ∧ w'.cell? ⟨gb109, 1, none⟩ = some (.string q108.raw)) (ds := []) #[false, false, false, false, false, false, false, false, false, false] (by kernel_rfl) rfl rfl ⟨(blk_cell BK109.out 0).trans rfl, (blk_cell BK109.out 1).trans rfl⟩ (fun hHeld => ?_); refine with_tabW script_text.tab4 script_text.bits4 (fun HT_ HW_ => ?_)
            generalize w10.drew = w11 at BK109 HB hHeld ⊢
            refine pure_ (i := 0) (N := some 11) (v := ?_) (a' := ?_) #[true, false, false, false, false, false, false, false, false, false] rfl rfl (any_of HT_.out (by kernel_rfl)) (fun _ _ _ h => h) (Or.inl ⟨by rfl, ?_⟩) ?_ ?_
            rotate_left
            · intro w'
              go_simp
              with_reducible rfl
            rotate_left
            · simp only [Act.put, List.setIfInBounds_toArray, List.set_cons_zero, List.set_cons_succ, i64_w, i32_w]
              rfl
            refine pure_ (i := 5) (N := some 16) (v := ?_) (a' := ?_) #[true, false, false, false, false, true, false, false, false, false] rfl rfl (any_of HT_.out (by kernel_rfl)) (fun _ _ _ h => h) (Or.inl ⟨by rfl, ?_⟩) ?_ ?_
            rotate_left
            · intro w'
              go_simp
              with_reducible rfl
            rotate_left
            · simp only [Act.put, List.setIfInBounds_toArray, List.set_cons_zero, List.set_cons_succ, i64_w, i32_w]
              rfl
            refine take_ (i := 1) (N := some 12) (v := ?_) (a' := ?_) #[true, true, false, false, false, true, false, false, false, false] rfl rfl (take_ofW HT_.out HW_.out (by kernel_rfl)) (fun _ _ _ h => h) (Or.inl ⟨by rfl, ?_⟩) hHeld ?_ ?_
            rotate_left
            · rintro w' ⟨s0, s1⟩
              go_simp
              with_reducible rfl
            rotate_left
            · simp only [Act.put, List.setIfInBounds_toArray, List.set_cons_zero, List.set_cons_succ, i64_w, i32_w]
              rfl
            refine take_ (i := 6) (N := some 17) (v := ?_) (a' := ?_) #[true, true, false, false, false, true, true, false, false, false] rfl rfl (take_ofW HT_.out HW_.out (by kernel_rfl)) (fun _ _ _ h => h) (Or.inl ⟨by rfl, ?_⟩) hHeld ?_ ?_
            rotate_left
            · rintro w' ⟨s0, s1⟩
              go_simp
              with_reducible rfl
            rotate_left
            · simp only [Act.put, List.setIfInBounds_toArray, List.set_cons_zero, List.set_cons_succ, i64_w, i32_w]
              rfl
            refine one_ (i := 2) (N := some 13) #[true, true, true, false, false, true, true, false, false, false] rfl rfl (one_of HT_.out (by kernel_rfl)) (by decide) (fun K hK => ?_)
            refine goes_ Try.func47 (by kernel_rfl) rfl #[.int .i64 q108.side] (by rfl) rfl rfl (by (try simp only [List.map_toArray, List.map_cons, List.map_nil]); first | done | rfl | (simp only [List.length_drop, List.length_take]; rfl)) ?_
            with_reducible refine (script_digits.calls k q108.side t110 _ A3.out).mono ?_
            rintro e w12 ⟨rfl, hb⟩
            refine ⟨_, rfl, ?_⟩
            have n0_ := Aside0.mk (blk_below (g := gb109) (o := .cells #[.int .i64 q108.side, .string q108.raw] 88 (0, 0)) (by (with_reducible repeat (first | refine blk_drewN ?_ _ | refine blk_drew ?_ | refine blk_alloc ?_ _)); exact BK109.out) hb)
            have n1_ := Aside0.mk (below_step (by repeat (first | (with_reducible first | exact HB.out | apply below_alloc | apply pw_below_drewN | apply below_drew1 | refine below_set ?_ GE109.out) | exact HB.out)) hb)
            clear BK109
            clear HB
            have BK109 := n0_
            have HB := n1_
            clear n0_ n1_
            (try clear hb)
            (try clear hb2)
            (try clear hk)
            (try clear hi)
            refine hK.out _ _ ⟨(blk_cell BK109.out 0).trans rfl, (blk_cell BK109.out 1).trans rfl⟩ (fun hHeld => ?_)
            clear hK K
            refine norm_ (a' := ?_) ?_ ?_
            rotate_left
            · show Act.put _ (some 13) _ = _
              simp only [Act.put, List.setIfInBounds_toArray, List.set_cons_zero, List.set_cons_succ, i64_w, i32_w]
              rfl
            refine pure_ (i := 3) (N := some 14) (v := ?_) (a' := ?_) #[true, true, true, true, false, true, true, false, false, false] rfl rfl (any_of HT_.out (by kernel_rfl)) (fun _ _ _ h => h) (Or.inl ⟨by rfl, ?_⟩) ?_ ?_
            rotate_left
            · intro w'
              go_simp
              with_reducible rfl
            rotate_left
            · simp only [Act.put, List.setIfInBounds_toArray, List.set_cons_zero, List.set_cons_succ, i64_w, i32_w]
              rfl
            refine pure_ (i := 4) (N := some 15) (v := ?_) (a' := ?_) #[true, true, true, true, true, true, true, false, false, false] rfl rfl (any_of HT_.out (by kernel_rfl)) (fun _ _ _ h => h) (Or.inl ⟨by rfl, ?_⟩) ?_ ?_
            rotate_left
            · intro w'
              go_simp
              with_reducible rfl
            rotate_left
            · simp only [Act.put, List.setIfInBounds_toArray, List.set_cons_zero, List.set_cons_succ, i64_w, i32_w]
              rfl
            refine one_ (i := 7) (N := some 18) #[true, true, true, true, true, true, true, true, false, false] rfl rfl (one_of HT_.out (by kernel_rfl)) (by decide) (fun K hK => ?_)
            refine goes_ Try.func48 (by kernel_rfl) rfl #[.string q108.raw] (by rfl) rfl rfl (by (try simp only [List.map_toArray, List.map_cons, List.map_nil]); first | done | rfl | (simp only [List.length_drop, List.length_take]; rfl)) ?_
            with_reducible refine (hexa_Put.calls q108.raw t111 _ A6.out).mono ?_
            rintro e w13 ⟨rfl, hb⟩
            refine ⟨_, rfl, ?_⟩
            have n0_ := Aside0.mk (blk_below (g := gb109) (o := .cells #[.int .i64 q108.side, .string q108.raw] 88 (0, 0)) (by (with_reducible repeat (first | refine blk_drewN ?_ _ | refine blk_drew ?_ | refine blk_alloc ?_ _)); exact BK109.out) hb)
            have n1_ := Aside0.mk (below_step (by repeat (first | (with_reducible first | exact HB.out | apply below_alloc | apply pw_below_drewN | apply below_drew1 | refine below_set ?_ GE109.out) | exact HB.out)) hb)
            clear BK109
            clear HB
            have BK109 := n0_
            have HB := n1_
            clear n0_ n1_
            (try clear hb)
            (try clear hb2)
            (try clear hk)
            (try clear hi)
            refine hK.out _ _ ⟨(blk_cell BK109.out 0).trans rfl, (blk_cell BK109.out 1).trans rfl⟩ (fun hHeld => ?_)
            clear hK K
            refine norm_ (a' := ?_) ?_ ?_
            rotate_left
            · show Act.put _ (some 18) _ = _
              simp only [Act.put, List.setIfInBounds_toArray, List.set_cons_zero, List.set_cons_succ, i64_w, i32_w]
              rfl
            refine pure_ (i := 8) (N := some 19) (v := ?_) (a' := ?_) #[true, true, true, true, true, true, true, true, true, false] rfl rfl (any_of HT_.out (by kernel_rfl)) (fun _ _ _ h => h) (Or.inl ⟨by rfl, ?_⟩) ?_ ?_
            rotate_left
            · intro w'
              go_simp
              with_reducible rfl
            rotate_left
            · simp only [Act.put, List.setIfInBounds_toArray, List.set_cons_zero, List.set_cons_succ, i64_w, i32_w]
              rfl
            refine pure_ (i := 9) (N := some 2) (v := ?_) (a' := ?_) #[true, true, true, true, true, true, true, true, true, true] rfl rfl (any_of HT_.out (by kernel_rfl)) (fun _ _ _ h => h) (Or.inl ⟨by rfl, ?_⟩) ?_ ?_
            rotate_left
            · intro w'
              go_simp
              with_reducible rfl
            rotate_left
            · simp only [Act.put, List.setIfInBounds_toArray, List.set_cons_zero, List.set_cons_succ, i64_w, i32_w]
              rfl
            refine done_ (done_of HT_.out (by kernel_rfl)) ?_
            try go_wp2
            go_ret
            exact ⟨by first | rfl | (simp [errW_none, errW_some] <;> rfl) | (simp [*, errW_none, errW_some] <;> rfl), by repeat (first | (with_reducible first | exact HB.out | apply below_alloc | apply pw_below_drewN | apply below_drew1 | refine below_set ?_ GE109.out) | exact HB.out)⟩
          · rw [if_neg c7] at H
            exact absurd H (by simp)
        · rw [if_neg c5] at H
          exact absurd H (by simp)
      · rw [if_neg c4] at H
        exact absurd H (by simp)
    · rw [if_neg c2] at H
      have c2b0 : ((q108).ty == 88) = false := beq_eq_false_iff_ne.mpr c2
      have c2b7 := fun (v : Value) (w : World) => as_no Try.underlying88 (fun x => by simp) as_z0 (of_decide_eq_false c2b0 : ¬ (q108).ty = 88) v w
      have c2b1 : ((q108).ty != 88) = true := bne_iff_ne.mpr c2
      by_cases c14 : (q108).ty = 90
      · rw [if_pos c14] at H
        have c14b0 : ((q108).ty == 90) = true := beq_iff_eq.mpr c14
        have c14b7 := fun (v : Value) (w : World) => as_yes Try.underlying90 (fun x => by simp) (of_decide_eq_true c14b0 : (q108).ty = 90) v w
        have c14b9 := Stp.val1 (of_decide_eq_true c14b0 : (q108).ty = 90)
        have c14b1 : ((q108).ty != 90) = false := bne_eq_false_iff_eq.mpr c14
        clear c14
        replace H := Option.bind_eq_some_iff.mp H
        obtain ⟨t113, A150, H⟩ := H
        replace H : (if 6 + t113.size ≤ 9223372036854775807 then (some ((⟨#[98, 108, 111, 99, 107, 32]⟩ : ByteArray) ++ t113)) else (none)) = some r := H
        have A15 := Aside0.mk A150
        clear A150
        by_cases c16 : 6 + t113.size ≤ 9223372036854775807
        · rw [if_pos c16] at H
          have c16b0 := eq_true c16
          have c16b1 : decide (6 + t113.size ≤ 9223372036854775807) = true := decide_eq_true c16
          try have c16b2 : (9223372036854775807 < 6 + t113.size) = False := eq_false (Nat.not_lt.2 c16)
          obtain rfl := Option.some.inj H
          go_enter Try.func27, Try.ntmps27
          go_wp2_with (first | ((with_reducible refine gate_dst (N := 4) rfl ?_); refine box_event ?hg (N := 4) ?hd (cs := #[.int .i64 0]) (t := 90) ?hr ?_; (case hd => rfl); (case hg => rfl); (case hr => first | (go_simp; done) | (go_simp; rfl)); intro gb112 hg w17 hbox hb; have n0_ := Aside0.mk (below_step (by repeat (first | (with_reducible first | exact HB.out | apply below_alloc | apply pw_below_drewN | apply below_drew1) | exact HB.out)) hb); have n1_ := Aside0.mk (hbox); have n2_ := Aside0.mk ((by rw [hg]; exact (below_size (by repeat (first | (with_reducible first | exact HB.out | apply below_alloc | apply pw_below_drewN | apply below_drew1) | exact HB.out))) : w.heap.size ≤ gb112)); have n3_ := Aside0.mk ((by rw [hg]; exact (below_size (by repeat (first | (with_reducible first | exact HB.out | apply below_alloc | apply pw_below_drewN | apply below_drew1) | exact HB.out))) : w.heap.size ≤ gb112)); clear HB; have HB := n0_; have BK112 := n1_; have GW112 := n2_; have GE112 := n3_; clear n0_ n1_ n2_ n3_; clear hb hbox hg; have hcz18_0 : w17.cell? ⟨gb112, 0, none⟩ = some (.int .i64 0) := (blk_cell BK112.out 0).trans rfl; have hfz18_0 := blk_frozen BK112.out 0) | ((with_reducible refine gate_callee (f := 47) rfl ?_); refine goesL_ (some 25) rfl rfl Try.func47 (by kernel_rfl) rfl #[.int .i64 q108.side] rfl (by (try simp only [List.map_toArray, List.map_cons, List.map_nil]); first | done | rfl | (simp only [List.length_drop, List.length_take]; rfl)) ?_; (with_reducible refine (script_digits.calls k q108.side t113 _ A15.out).mono ?_); rintro e w19 ⟨rfl, hb⟩; refine ⟨_, rfl, ?_⟩; have n0_ := Aside0.mk (blk_below (g := gb112) (o := .cells #[.int .i64 q108.side] 90 (0, 0)) (by (with_reducible repeat (first | refine blk_drewN ?_ _ | refine blk_drew ?_ | refine blk_alloc ?_ _)); refine blk_put (cs := #[.int .i64 0]) ?_ 0 _ rfl; (with_reducible repeat (first | refine blk_drewN ?_ _ | refine blk_drew ?_ | refine blk_alloc ?_ _)); exact BK112.out) hb); have n1_ := Aside0.mk (below_step (by repeat (first | (with_reducible first | exact HB.out | apply below_alloc | apply pw_below_drewN | apply below_drew1 | refine below_set ?_ GE112.out) | exact HB.out)) hb); clear BK112; clear HB; have BK112 := n0_; have HB := n1_; clear n0_ n1_; (try clear hb); (try clear hb2); (try clear hk); (try clear hi)))
          go_ret
          exact ⟨by first | rfl | (simp [errW_none, errW_some] <;> rfl) | (simp [*, errW_none, errW_some] <;> rfl), by repeat (first | (with_reducible first | exact HB.out | apply below_alloc | apply pw_below_drewN | apply below_drew1 | refine below_set ?_ GE112.out) | exact HB.out)⟩
        · rw [if_neg c16] at H
          exact absurd H (by simp)
      · rw [if_neg c14] at H
        have c14b0 : ((q108).ty == 90) = false := beq_eq_false_iff_ne.mpr c14
        have c14b7 := fun (v : Value) (w : World) => as_no Try.underlying90 (fun x => by simp) as_z1 (of_decide_eq_false c14b0 : ¬ (q108).ty = 90) v w
        have c14b1 : ((q108).ty != 90) = true := bne_iff_ne.mpr c14
        by_cases c20 : (q108).ty = 92
        · rw [if_pos c20] at H
          have c20b0 : ((q108).ty == 92) = true := beq_iff_eq.mpr c20
          have c20b7 := fun (v : Value) (w : World) => as_yes Try.underlying92 (fun x => by simp) (of_decide_eq_true c20b0 : (q108).ty = 92) v w
          have c20b9 := Stp.val2 (of_decide_eq_true c20b0 : (q108).ty = 92)
          have c20b1 : ((q108).ty != 92) = false := bne_eq_false_iff_eq.mpr c20
          clear c20
          replace H := Option.bind_eq_some_iff.mp H
          obtain ⟨t115, A210, H⟩ := H
          replace H : (if 5 + t115.size ≤ 9223372036854775807 then (some ((⟨#[116, 105, 99, 107, 32]⟩ : ByteArray) ++ t115)) else (none)) = some r := H
          have A21 := Aside0.mk A210
          clear A210
          by_cases c22 : 5 + t115.size ≤ 9223372036854775807
          · rw [if_pos c22] at H
            have c22b0 := eq_true c22
            have c22b1 : decide (5 + t115.size ≤ 9223372036854775807) = true := decide_eq_true c22
            try have c22b2 : (9223372036854775807 < 5 + t115.size) = False := eq_false (Nat.not_lt.2 c22)
            obtain rfl := Option.some.inj H
            go_enter Try.func27, Try.ntmps27
            go_wp2_with (first | ((with_reducible refine gate_dst (N := 5) rfl ?_); refine box_event ?hg (N := 5) ?hd (cs := #[.int .i64 0]) (t := 92) ?hr ?_; (case hd => rfl); (case hg => rfl); (case hr => first | (go_simp; done) | (go_simp; rfl)); intro gb114 hg w23 hbox hb; have n0_ := Aside0.mk (below_step (by repeat (first | (with_reducible first | exact HB.out | apply below_alloc | apply pw_below_drewN | apply below_drew1) | exact HB.out)) hb); have n1_ := Aside0.mk (hbox); have n2_ := Aside0.mk ((by rw [hg]; exact (below_size (by repeat (first | (with_reducible first | exact HB.out | apply below_alloc | apply pw_below_drewN | apply below_drew1) | exact HB.out))) : w.heap.size ≤ gb114)); have n3_ := Aside0.mk ((by rw [hg]; exact (below_size (by repeat (first | (with_reducible first | exact HB.out | apply below_alloc | apply pw_below_drewN | apply below_drew1) | exact HB.out))) : w.heap.size ≤ gb114)); clear HB; have HB := n0_; have BK114 := n1_; have GW114 := n2_; have GE114 := n3_; clear n0_ n1_ n2_ n3_; clear hb hbox hg; have hcz24_0 : w23.cell? ⟨gb114, 0, none⟩ = some (.int .i64 0) := (blk_cell BK114.out 0).trans rfl; have hfz24_0 := blk_frozen BK114.out 0) | ((with_reducible refine gate_callee (f := 47) rfl ?_); refine goesL_ (some 32) rfl rfl Try.func47 (by kernel_rfl) rfl #[.int .i64 q108.n] rfl (by (try simp only [List.map_toArray, List.map_cons, List.map_nil]); first | done | rfl | (simp only [List.length_drop, List.length_take]; rfl)) ?_; (with_reducible refine (script_digits.calls k q108.n t115 _ A21.out).mono ?_); rintro e w25 ⟨rfl, hb⟩; refine ⟨_, rfl, ?_⟩; have n0_ := Aside0.mk (blk_below (g := gb114) (o := .cells #[.int .i64 q108.n] 92 (0, 0)) (by (with_reducible repeat (first | refine blk_drewN ?_ _ | refine blk_drew ?_ | refine blk_alloc ?_ _)); refine blk_put (cs := #[.int .i64 0]) ?_ 0 _ rfl; (with_reducible repeat (first | refine blk_drewN ?_ _ | refine blk_drew ?_ | refine blk_alloc ?_ _)); exact BK114.out) hb); have n1_ := Aside0.mk (below_step (by repeat (first | (with_reducible first | exact HB.out | apply below_alloc | apply pw_below_drewN | apply below_drew1 | refine below_set ?_ GE114.out) | exact HB.out)) hb); clear BK114; clear HB; have BK114 := n0_; have HB := n1_; clear n0_ n1_; (try clear hb); (try clear hb2); (try clear hk); (try clear hi)))
            go_ret
            exact ⟨by first | rfl | (simp [errW_none, errW_some] <;> rfl) | (simp [*, errW_none, errW_some] <;> rfl), by repeat (first | (with_reducible first | exact HB.out | apply below_alloc | apply pw_below_drewN | apply below_drew1 | refine below_set ?_ GE114.out) | exact HB.out)⟩
          · rw [if_neg c22] at H
            exact absurd H (by simp)
        · rw [if_neg c20] at H
          have c20b0 : ((q108).ty == 92) = false := beq_eq_false_iff_ne.mpr c20
          have c20b7 := fun (v : Value) (w : World) => as_no Try.underlying92 (fun x => by simp) as_z2 (of_decide_eq_false c20b0 : ¬ (q108).ty = 92) v w
          have c20b1 : ((q108).ty != 92) = true := bne_iff_ne.mpr c20
          by_cases c26 : (q108).ty = 93
          · rw [if_pos c26] at H
            have c26b0 : ((q108).ty == 93) = true := beq_iff_eq.mpr c26
            have c26b7 := fun (v : Value) (w : World) => as_yes Try.underlying93 (fun x => by simp) (of_decide_eq_true c26b0 : (q108).ty = 93) v w
            have c26b9 := Stp.val3 (of_decide_eq_true c26b0 : (q108).ty = 93)
            have c26b1 : ((q108).ty != 93) = false := bne_eq_false_iff_eq.mpr c26
            clear c26
            obtain rfl := Option.some.inj H
            go_enter Try.func27, Try.ntmps27
            go_wp2
            go_ret
            exact ⟨by first | rfl | (simp [errW_none, errW_some] <;> rfl) | (simp [*, errW_none, errW_some] <;> rfl), by repeat (first | (with_reducible first | exact HB.out | apply below_alloc | apply pw_below_drewN | apply below_drew1) | exact HB.out)⟩
          · rw [if_neg c26] at H
            have c26b0 : ((q108).ty == 93) = false := beq_eq_false_iff_ne.mpr c26
            have c26b7 := fun (v : Value) (w : World) => as_no Try.underlying93 (fun x => by simp) as_z3 (of_decide_eq_false c26b0 : ¬ (q108).ty = 93) v w
            have c26b1 : ((q108).ty != 93) = true := bne_iff_ne.mpr c26
            obtain rfl := Option.some.inj H
            go_enter Try.func27, Try.ntmps27
            go_wp2
            go_ret
            exact ⟨by first | rfl | (simp [errW_none, errW_some] <;> rfl) | (simp [*, errW_none, errW_some] <;> rfl), by repeat (first | (with_reducible first | exact HB.out | apply below_alloc | apply pw_below_drewN | apply below_drew1) | exact HB.out)⟩

/-! ### words: builder.inc -/
/-! ### strings.Builder: the writers, at a builder of the call's own -/
/-- Whatever block is neither the builder nor a plain row of bytes stands. -/
def BKept (e : TypeId) (g : Nat) (w w' : World) : Prop := ∀ i, i < w.heap.size → i ≠ g → (∀ cs, w.heap[i]? ≠ some (.cells cs e (0, 0))) → w'.heap[i]? = w.heap[i]?
theorem BKept.refl (e : TypeId) (g : Nat) (w : World) : BKept e g w w := fun _ _ _ _ => rfl
theorem BKept.trans {e : TypeId} {g : Nat} {w w1 w2 : World} (h : BKept e g w w1) (k : BKept e g w1 w2) (hs : w.heap.size ≤ w1.heap.size) : BKept e g w w2 := fun i hi hg hc => by
  have h1 := h i hi hg hc
  rw [k i (Nat.lt_of_lt_of_le hi hs) hg (fun cs hcs => hc cs (by rw [← h1]; exact hcs)), h1]
theorem BKept.setCell {e : TypeId} {g : Nat} {w w1 : World} (h : BKept e g w w1) (k : Nat) (v : Value) : BKept e g w (w1.setCell ⟨g, k, none⟩ v) := fun i hi hg hc => by
  rw [← h i hi hg hc]
  unfold World.setCell
  simp [Array.getElem?_modify, Ne.symm hg]
theorem BKept.grown {e : TypeId} {g : Nat} {w w1 : World} {base n : Nat} {v : Value} {xs : List Value} (ho : w.ownsRow base e 1 v n xs) (hg : w.grownBy w1 v.ownBlock) : BKept e g w w1 := fun i hi _ hc => by
  refine hg.block i hi (fun he => ?_)
  obtain ⟨cells, hcs⟩ := own_typed ho i he.symm
  exact hc cells hcs
theorem BKept.alloc {e : TypeId} {g : Nat} (w : World) (o : Obj) : BKept e g w (w.alloc o) := fun i hi _ _ => my_alloc_old w o i hi
theorem bi_size : (Try.prog.info? 58).map (·.size) = some 2 := by kernel_rfl
theorem bi_lies : liesAt Try.prog Try.prog.depth 58 (2 / Try.prog.cellsOf 58) 0 58 1 = true := by kernel_rfl
theorem bi_info : (Try.prog.info? 5).map (fun i => (i.zero, i.size, i.bytes)) = some (some (.int .u8 0), 1, 1) := by kernel_rfl
set_option maxHeartbeats 1000000 in
set_option maxRecDepth 100000 in
theorem bi_check_used (b : Nat) (w : World) (h0 : w.cell? ⟨b, 0, none⟩ = some (.pointer (some ⟨b, 0, none⟩))) :
    Calls Try.prog 46 #[.pointer (some ⟨b, 0, none⟩)] w fun e w' => e = .returned (.tuple #[]) ∧ w' = w := by
  obtain ⟨j, hj, _⟩ := Option.map_eq_some_iff.1 bi_size
  go_enter Try.func46, Try.ntmps46
  go_wp2
  rw [Lib.run_neq_ptr_same w _ Try.underlying55 hj]
  go_wp2
  go_end0
  exact ⟨rfl, rfl⟩
set_option maxHeartbeats 1000000 in
set_option maxRecDepth 100000 in
theorem bi_check_fresh (b : Nat) (w : World) (h0 : w.cell? ⟨b, 0, none⟩ = some (.pointer none)) (hsh : w.shape? b = some (58, 2)) (hfz : w.frozen? ⟨b, 0, none⟩ = false) :
    Calls Try.prog 46 #[.pointer (some ⟨b, 0, none⟩)] w fun e w' => e = .returned (.tuple #[]) ∧ w' = w.setCell ⟨b, 0, none⟩ (.pointer (some ⟨b, 0, none⟩)) := by
  obtain ⟨j, hj, hjs⟩ := Option.map_eq_some_iff.1 bi_size
  go_enter Try.func46, Try.ntmps46
  go_wp2
  rw [Lib.run_to_unsafe w ⟨b, 0, none⟩ Try.underlying55 Try.underlying111 hj (by rw [hjs]; decide) hsh (Nat.zero_lt_succ 1)]
  simp only [Result.andThen]
  rw [Oper.upon_value]
  go_wp2
  rw [run_callFunc_extern Try.func66 (by kernel_rfl) (by kernel_rfl) (by kernel_rfl) (e := Extern.AbiNoEscape.same) (by kernel_rfl)]
  rw [Lib.run_noEscape]
  simp only [Result.andThen]
  rw [Oper.upon_value]
  go_wp2
  rw [Lib.run_from_unsafe w ⟨b, 0, none⟩ Try.underlying111 Try.underlying55 hj hsh bi_lies]
  simp only [Result.andThen]
  rw [Oper.upon_value]
  go_wp2
  go_end0
  exact ⟨rfl, rfl⟩
theorem bi_check (B b : Nat) (bs : List Value) (w : World) (h : Lib.IsBuilder 58 5 B b bs w) :
    Calls Try.prog 46 #[.pointer (some ⟨b, 0, none⟩)] w fun e w' => e = .returned (.tuple #[]) ∧ Lib.BuilderAt 58 5 B b (.pointer (some ⟨b, 0, none⟩)) bs w' ∧ Below B w w' ∧ BKept 5 b w w' := by
  rcases h with h | h
  · refine (bi_check_fresh b w h.cell0 h.shape h.frozen0).mono ?_
    rintro e w' ⟨rfl, rfl⟩
    exact ⟨rfl, h.used _, (Below.refl B w).setCell (p := ⟨b, 0, none⟩) h.1 _, (BKept.refl _ _ _).setCell _ _⟩
  · refine (bi_check_used b w h.cell0).mono ?_
    rintro e w' ⟨rfl, rfl⟩
    exact ⟨rfl, h, Below.refl B _, BKept.refl _ _ _⟩
set_option maxHeartbeats 1000000 in
set_option maxRecDepth 100000 in
theorem bi_byte (B b : Nat) (bs : List Value) (c : Int) (w : World) (h : Lib.IsBuilder 58 5 B b bs w) (hlen : bs.length + 1 ≤ 140737488355328) (hBw : B ≤ w.heap.size) :
    Calls Try.prog 56 #[.pointer (some ⟨b, 0, none⟩), .int .u8 c] w fun e w' => e = .returned .nilIface ∧ Lib.IsBuilder 58 5 B b (bs ++ [.int .u8 c]) w' ∧ Below B w w' ∧ BKept 5 b w w' := by
  obtain ⟨i0, hi, hz0, hz1, hz2⟩ := info_parts bi_info
  have e240 : ∀ args w, (callFunc 46 args).run Try.prog w = .ok (.enter 46 args) w := enters_of Try.func46 (by kernel_rfl) rfl
  go_enter Try.func56, Try.ntmps56
  go_wp2_with (go_at_call 46; refine (bi_check B b bs _ h).mono ?_)
  rintro e w1 ⟨rfl, h1, hb1, hk1⟩
  obtain ⟨hB, v, hbk, hown, hne⟩ := h1
  have c0 : w1.cell? ⟨b, 0, none⟩ = some (.pointer (some ⟨b, 0, none⟩)) := by rw [Lib.cell_of_heap hbk]; rfl
  have c1 : w1.cell? ⟨b, 1, none⟩ = some v := by rw [Lib.cell_of_heap hbk]; rfl
  replace hk1 := Aside0.mk hk1
  go_wp2_with (at_builtin; refine wpList_append_own _ rfl _ _ 56 rfl B 5 i0 (.int .u8 0) 1 1 Try.underlying56 hi hz0 hz1 hz2 rfl (by decide) _ _ _ rfl (hown.alloc _) ⟨w1.heap.size, 0, none⟩ 1 1 [.int .u8 c] rfl rfl ?c1 ?c2 ?c3 ?c4 ?c5 ?_)
  case c1 =>
    intro j u hj
    match j, hj with
    | 0, hj => simp at hj; subst hj; simp [Addr.add]
  case c2 => intro u hu; simp at hu; subst hu; rfl
  case c3 => unfold maxLen; omega
  case c4 => omega
  case c5 => have := hb1.size; simp; omega
  intro v' w2 hown' hgrow _
  have hlt : b < w1.heap.size := (Array.getElem?_eq_some_iff.1 hbk).1
  have hb2 : w2.heap[b]? = some (.cells #[.pointer (some ⟨b, 0, none⟩), v] 58 (0, 0)) := by
    rw [hgrow.block b (by simp; omega) (fun e => hne e.symm), my_alloc_old w1 _ b hlt]
    exact hbk
  have d0 : w2.cell? ⟨b, 0, none⟩ = some (.pointer (some ⟨b, 0, none⟩)) := by rw [Lib.cell_of_heap hb2]; rfl
  have d1 : w2.cell? ⟨b, 1, none⟩ = some v := by rw [Lib.cell_of_heap hb2]; rfl
  have f1 : w2.frozen? ⟨b, 1, none⟩ = false := Lib.frozen_of_heap hb2 1
  have hkk := Aside0.mk ((hk1.out.trans ((BKept.alloc (e := 5) (g := b) w1 _).trans (BKept.grown (g := b) (hown.alloc _) hgrow) (by rw [my_alloc_size]; omega)) hb1.size).setCell 1 v')
  obtain ⟨g, cap, rfl⟩ : ∃ g cap, v' = .slice (some ⟨g, 0, none⟩) (bs.length + 1) cap := by
    rcases hown'.2 with ⟨_, h0⟩ | ⟨g, cap, cur, hv, _⟩
    · omega
    · exact ⟨g, cap, hv⟩
  go_wp2
  go_ret
  refine ⟨rfl, .inr ?_, ?_, hkk.out⟩
  · exact Lib.BuilderAt.put (T := 58) (e := 5) hB hb2 (bs' := bs ++ [.int .u8 c]) (by simpa using hown') (by decide)
  · exact ((hb1.alloc (by have := hb1.size; omega) _).grown hgrow (by have := hb1.size; simp; omega) (fun k hk => (hown.lt k hk).1)).setCell (p := ⟨b, 1, none⟩) hB _
set_option maxHeartbeats 1000000 in
set_option maxRecDepth 100000 in
theorem bi_str (B b : Nat) (bs : List Value) (s : ByteArray) (w : World) (h : Lib.IsBuilder 58 5 B b bs w) (hlen : bs.length + s.size ≤ 140737488355328) (hBw : B ≤ w.heap.size) :
    Calls Try.prog 26 #[.pointer (some ⟨b, 0, none⟩), .string s] w fun e w' => e = .returned (.tuple #[.int .i64 s.size, .nilIface]) ∧ Lib.IsBuilder 58 5 B b (bs ++ Lib.strCells s) w' ∧ Below B w w' ∧ BKept 5 b w w' := by
  obtain ⟨i0, hi, hz0, hz1, hz2⟩ := info_parts bi_info
  have e240 : ∀ args w, (callFunc 46 args).run Try.prog w = .ok (.enter 46 args) w := enters_of Try.func46 (by kernel_rfl) rfl
  go_enter Try.func26, Try.ntmps26
  go_wp2_with (go_at_call 46; refine (bi_check B b bs _ h).mono ?_)
  rintro e w1 ⟨rfl, h1, hb1, hk1⟩
  obtain ⟨hB, v, hbk, hown, hne⟩ := h1
  have c0 : w1.cell? ⟨b, 0, none⟩ = some (.pointer (some ⟨b, 0, none⟩)) := by rw [Lib.cell_of_heap hbk]; rfl
  have c1 : w1.cell? ⟨b, 1, none⟩ = some v := by rw [Lib.cell_of_heap hbk]; rfl
  replace hk1 := Aside0.mk hk1
  go_wp2_with (at_builtin; refine Lib.wpList_append_own_string _ rfl _ _ 56 9 rfl B 5 i0 Try.underlying56 Try.underlying9 hi hz0 hz1 hz2 _ _ _ rfl hown s rfl ?c3 ?c4 ?c5 ?_)
  case c3 => unfold maxLen; omega
  case c4 => omega
  case c5 => have := hb1.size; omega
  intro v' w2 hown' hgrow _
  have hlt : b < w1.heap.size := (Array.getElem?_eq_some_iff.1 hbk).1
  have hb2 : w2.heap[b]? = some (.cells #[.pointer (some ⟨b, 0, none⟩), v] 58 (0, 0)) := by
    rw [hgrow.block b hlt (fun e => hne e.symm)]
    exact hbk
  have d0 : w2.cell? ⟨b, 0, none⟩ = some (.pointer (some ⟨b, 0, none⟩)) := by rw [Lib.cell_of_heap hb2]; rfl
  have d1 : w2.cell? ⟨b, 1, none⟩ = some v := by rw [Lib.cell_of_heap hb2]; rfl
  have f1 : w2.frozen? ⟨b, 1, none⟩ = false := Lib.frozen_of_heap hb2 1
  have hkk := Aside0.mk ((hk1.out.trans (BKept.grown (g := b) hown hgrow) hb1.size).setCell 1 v')
  obtain ⟨ao, n', cap, rfl⟩ : ∃ ao n' cap, v' = .slice ao n' cap := by
    rcases hown'.2 with ⟨hv, _⟩ | ⟨g, cap, cur, hv, _⟩
    · exact ⟨_, _, _, hv⟩
    · exact ⟨_, _, _, hv⟩
  go_wp2
  go_ret2
  refine ⟨rfl, .inr ?_, ?_, hkk.out⟩
  · exact Lib.BuilderAt.put (T := 58) (e := 5) hB hb2 (bs' := bs ++ Lib.strCells s) (by simpa [Lib.strCells_length] using hown') (by decide)
  · exact (hb1.grown hgrow (by have := hb1.size; omega) (fun k hk => (hown.lt k hk).1)).setCell (p := ⟨b, 1, none⟩) hB _
theorem bi_new (B : Nat) (w : World) (h : B ≤ w.heap.size) : Lib.IsBuilder 58 5 B w.heap.size [] (w.alloc (.cells #[.pointer none, .slice none 0 0] 58)) := .inl ⟨h, _, my_alloc_new w _, ⟨rfl, .inl ⟨rfl, rfl⟩⟩, by simp [Value.ownBlock]⟩
theorem bi_below {B b : Nat} {bs : List Value} {w w1 : World} (h : Lib.IsBuilder 58 5 B b bs w) (hb : Below w.heap.size w w1) : Lib.IsBuilder 58 5 B b bs w1 := by
  have one : ∀ p, Lib.BuilderAt 58 5 B b p bs w → Lib.BuilderAt 58 5 B b p bs w1 := by
    rintro p ⟨h1, v, h2, h3, h4⟩
    exact ⟨h1, v, (hb.block b (Array.getElem?_eq_some_iff.1 h2).1).trans h2, pw_own_below h3 hb, h4⟩
  exact h.elim (fun x => .inl (one _ x)) (fun x => .inr (one _ x))

/-! ### words: strfn.inc -/
/-- A hexadecimal digit's byte. -/
def hexU (n : Nat) : UInt8 := if n < 10 then UInt8.ofNat (48 + n) else UInt8.ofNat (87 + n)
theorem byteCells_snoc (l : List UInt8) (c : UInt8) : Lib.byteCells (l ++ [c]) = Lib.byteCells l ++ [.int .u8 (c.toNat : Int)] := by simp [Lib.byteCells]
theorem byteCells_app (l m : List UInt8) : Lib.byteCells (l ++ m) = Lib.byteCells l ++ Lib.byteCells m := by simp [Lib.byteCells]
theorem strCells_app (l : List UInt8) (s : ByteArray) : Lib.byteCells l ++ Lib.strCells s = Lib.byteCells (l ++ s.toList) := by rw [Lib.strCells_eq, byteCells_app, ByteArray.toList_eq]
theorem hexU_at (n : Nat) (h : n < 16) (hn : n < (⟨#[48, 49, 50, 51, 52, 53, 54, 55, 56, 57, 97, 98, 99, 100, 101, 102]⟩ : ByteArray).size) : (⟨#[48, 49, 50, 51, 52, 53, 54, 55, 56, 57, 97, 98, 99, 100, 101, 102]⟩ : ByteArray)[n] = hexU n := by
  rcases n with _|_|_|_|_|_|_|_|_|_|_|_|_|_|_|_|n
  all_goals (first | rfl | (exfalso; omega))
theorem bi_byteU (B b : Nat) (l : List UInt8) (c : UInt8) (w : World) (h : Lib.IsBuilder 58 5 B b (Lib.byteCells l) w) (hlen : l.length + 1 ≤ 140737488355328) (hBw : B ≤ w.heap.size) :
    Calls Try.prog 56 #[.pointer (some ⟨b, 0, none⟩), .int .u8 (c.toNat : Int)] w fun e w' => e = .returned .nilIface ∧ Lib.IsBuilder 58 5 B b (Lib.byteCells (l ++ [c])) w' ∧ Below B w w' ∧ BKept 5 b w w' := by
  rw [byteCells_snoc]
  exact bi_byte B b _ _ w h (by rw [Lib.byteCells_length]; exact hlen) hBw
theorem bi_strU (B b : Nat) (l : List UInt8) (s : ByteArray) (w : World) (h : Lib.IsBuilder 58 5 B b (Lib.byteCells l) w) (hlen : l.length + s.size ≤ 140737488355328) (hBw : B ≤ w.heap.size) :
    Calls Try.prog 26 #[.pointer (some ⟨b, 0, none⟩), .string s] w fun e w' => e = .returned (.tuple #[.int .i64 s.size, .nilIface]) ∧ Lib.IsBuilder 58 5 B b (Lib.byteCells (l ++ s.toList)) w' ∧ Below B w w' ∧ BKept 5 b w w' := by
  rw [← strCells_app]
  exact bi_str B b _ s w h (by rw [Lib.byteCells_length]; exact hlen) hBw

/-! ### script_Put: function 10 -/
/-- The lines of steps, behind what is there already. -/
def script_Put.go (k : Nat) : List S54 → ByteArray → Option (ByteArray × Int)
  | [], acc => some (acc, 0)
  | a :: l, acc => (script_of.f k a.f0 a.f1 a.f2 a.f3).bind fun s => if s.isNone = true then some (⟨#[]⟩, 1) else if (a.f2.size : Int) > 65536 then some (⟨#[]⟩, 4) else (script_text.f k s).bind fun t => if acc.size + (t.size + 1) ≤ 140737488355328 then script_Put.go k l (acc ++ (t ++ (⟨#[10]⟩ : ByteArray))) else none
def script_Put.f (k : Nat) (l0 : List S54) : Option (ByteArray × Int) := if (l0.length : Int) > 256 then some (⟨#[]⟩, 4) else script_Put.go k l0 ⟨#[]⟩
theorem script_Put.go_mono (k : Nat) : ∀ (l : List S54) (acc : ByteArray), LeO (script_Put.go k l acc) (script_Put.go (k + 1) l acc)
  | [], _ => LeO.refl _
  | a :: l, acc => by
    have ih := script_Put.go_mono k l
    simp only [script_Put.go]
    refine LeO.bind (script_of.mono _ _ _ _ _) (fun s => ?_)
    refine LeO.ite (LeO.refl _) (LeO.ite (LeO.refl _) ?_)
    refine LeO.bind (script_text.mono _ _) (fun t => ?_)
    exact LeO.ite (ih _) (LeO.refl _)
theorem script_Put.mono : ∀ a0 k, LeO (script_Put.f k a0) (script_Put.f (k + 1) a0) := fun a0 k => by
  unfold script_Put.f
  exact LeO.ite (LeO.refl _) (script_Put.go_mono k _ _)
set_option maxHeartbeats 4000000 in
set_option maxRecDepth 100000 in
theorem script_Put.calls (k : Nat) (A0 : Option Addr) (c0 : Nat) (l0 : List (S54)) (r1 : ByteArray) (r2 : Int) (w : World) (hr0 : Kd.C k54 w A0 l0.length l0) (hc0 : l0.length ≤ c0) (h : script_Put.f k l0 = some (r1, r2)) :
    Calls Try.prog 10 #[.slice A0 l0.length c0] w fun e w' => e = .returned (.tuple #[.string r1, .int .i64 r2]) ∧ Below w.heap.size w w' := by
  have hu0 := Try.underlying54
  have HR0 := Aside0.mk hr0
  clear hr0 hc0
  have HB := Aside0.mk (Below.refl w.heap.size w)
  unfold script_Put.f at h
  by_cases c2 : (l0.length : Int) > 256
  · rw [if_pos c2] at h
    have c2b0 : decide (256 < (l0.length : Int)) = true := decide_eq_true c2
    simp only [Option.some.injEq, Prod.mk.injEq] at h
    obtain ⟨rfl, rfl⟩ := h
    go_enter Try.func10, Try.ntmps10
    go_wp2
    go_ret2
    exact ⟨rfl, by repeat (first | exact HB.out | apply pw_below_drewN)⟩
  · rw [if_neg c2] at h
    have c2b0 : decide (256 < (l0.length : Int)) = false := decide_eq_false c2
    replace h := Aside0.mk h
    have h0 := Aside0.mk (bi_new w.heap.size w (Nat.le_refl _))
    have hb0 := Aside0.mk ((Below.refl w.heap.size w).alloc (Nat.le_refl _) (.cells #[.pointer none, .slice none 0 0] 58))
    go_enter Try.func10, Try.ntmps10
    go_wp2_with fail
    go_loopw [13] (fun i wr => ∃ (x : Int) (acc : ByteArray), 0 ≤ x ∧ x ≤ l0.length ∧ i = .int .i64 x ∧ Aside0 (script_Put.go k (l0.drop x.toNat) acc = some (r1, r2)) ∧ Aside0 (Lib.IsBuilder 58 5 w.heap.size w.heap.size (Lib.byteCells acc.toList) wr) ∧ Aside0 (Below w.heap.size w wr)) (fun i _ => l0.length - (intOf i).toNat)
    case atStart => exact ⟨0, ⟨#[]⟩, by omega, by omega, rfl, h, ⟨by rw [ByteArray.toList_eq]; exact h0.out⟩, hb0⟩
    case round =>
      clear h h0 hb0
      obtain ⟨x, acc, hx0, hx1, rfl, hgo, hB, HB⟩ := hrel
      have hxw : wrap64 (x + 1) = x + 1 := IntWalk.wrap64_in _ (by omega)
      by_cases hkl : x < l0.length
      · have hdr : l0.drop x.toNat = rd_T54 l0 x :: l0.drop (x.toNat + 1) := by
          have hl : x.toNat < l0.length := by omega
          rw [List.drop_eq_getElem_cons hl]
          unfold rd_T54
          rw [List.getD_eq_getElem?_getD, List.getElem?_eq_getElem hl]
          rfl
        have h1 := hgo.out
        rw [hdr] at h1
        simp only [script_Put.go] at h1
        obtain ⟨s, A10, h2⟩ := Option.bind_eq_some_iff.mp h1
        have A1 := Aside0.mk A10
        replace h2 := Aside0.mk h2
        clear hgo h1 A10 hdr
        obtain ⟨ad, e1, hy0, hy1, hy2, hy3⟩ := at_T54 HR0.out x hx0 hkl
        cases e1
        replace hy0 := (HB.out.cell (World.block_lt_of_cell? w _ hy0)).trans hy0
        replace hy1 := (HB.out.cell (World.block_lt_of_cell? w _ hy1)).trans hy1
        replace hy2 := (HB.out.cell (World.block_lt_of_cell? w _ hy2)).trans hy2
        replace hy3 := (HB.out.cell (World.block_lt_of_cell? w _ hy3)).trans hy3
        have p0 := eq_true hx0
        have q0 := eq_true hkl
        have q1 : decide (x < (l0.length : Int)) = true := decide_eq_true hkl
        have HW := Aside0.mk (Below.refl wr.heap.size wr)
        go_wp2_with (first | ((with_reducible refine gate_dst (N := 6) rfl ?_); (try (refine gate_guard (by rfl) ?_; dsimp only)); refine box_event ?hg (N := 6) ?hd (cs := #[.int .i64 0, .int .i64 0, .string (⟨#[]⟩ : ByteArray), .int .i64 0]) (t := 54) ?hr ?_; (case hd => rfl); (case hg => rfl); (case hr => first | (go_simp; done) | (go_simp; rfl)); intro gb hg w8 hbox hb; have n0_ := Aside0.mk (below_step (by repeat (first | exact HW.out | apply pw_below_drewN | apply below_drew1)) hb); have BK := Aside0.mk hbox; have GE := Aside0.mk ((by rw [hg]; exact (below_size (by repeat (first | exact HW.out | apply pw_below_drewN | apply below_drew1))) : wr.heap.size ≤ gb)); clear HW; have HW := n0_; clear n0_; clear hb hbox hg; have hz0 : w8.cell? ⟨gb, 0, none⟩ = some (.int .i64 0) := (blk_cell BK.out 0).trans rfl; have hz1 : w8.cell? ⟨gb, 1, none⟩ = some (.int .i64 0) := (blk_cell BK.out 1).trans rfl; have hz2 : w8.cell? ⟨gb, 2, none⟩ = some (.string (⟨#[]⟩ : ByteArray)) := (blk_cell BK.out 2).trans rfl; have hz3 : w8.cell? ⟨gb, 3, none⟩ = some (.int .i64 0) := (blk_cell BK.out 3).trans rfl; have hf0 := blk_frozen BK.out 0; have hf1 := blk_frozen BK.out 1; have hf2 := blk_frozen BK.out 2; have hf3 := blk_frozen BK.out 3) | fail)
        refine (script_of.calls k _ _ _ _ s _ A1.out).mono ?_
        rintro e w2 ⟨rfl, hb2⟩
        have HW2 := Aside0.mk (below_step (by repeat (first | exact HW.out | refine below_set ?_ GE.out)) hb2)
        have BK2 := Aside0.mk (blk_below (g := gb) (o := .cells #[.int .i64 (rd_T54 l0 x).f0, .int .i64 (rd_T54 l0 x).f1, .string (rd_T54 l0 x).f2, .int .i64 (rd_T54 l0 x).f3] 54 (0, 0)) (by
          refine blk_put (cs := #[.int .i64 (rd_T54 l0 x).f0, .int .i64 (rd_T54 l0 x).f1, .string (rd_T54 l0 x).f2, .int .i64 0]) ?_ 3 _ rfl
          refine blk_put (cs := #[.int .i64 (rd_T54 l0 x).f0, .int .i64 (rd_T54 l0 x).f1, .string (⟨#[]⟩ : ByteArray), .int .i64 0]) ?_ 2 _ rfl
          refine blk_put (cs := #[.int .i64 (rd_T54 l0 x).f0, .int .i64 0, .string (⟨#[]⟩ : ByteArray), .int .i64 0]) ?_ 1 _ rfl
          exact blk_put BK.out 0 _ rfl) hb2)
        have hB2 := Aside0.mk (bi_below hB.out HW2.out)
        have HB2 := Aside0.mk (below_step HB.out HW2.out)
        have hv2 : w2.cell? ⟨gb, 2, none⟩ = some (.string (rd_T54 l0 x).f2) := (blk_cell BK2.out 2).trans rfl
        clear hb2 HW HW2 BK hz0 hz1 hz2 hz3 hf0 hf1 hf2 hf3 hB HB hy0 hy1 hy2 hy3 GE A1
        have h3 := h2.out
        clear h2
        rcases s with _ | st
        · rw [if_pos (by rfl)] at h3
          simp only [Option.some.injEq, Prod.mk.injEq] at h3
          obtain ⟨rfl, rfl⟩ := h3
          simp only [errW_none]
          go_wp2
          go_ret2
          exact ⟨rfl, HB2.out⟩
        · rw [if_neg (by simp)] at h3
          by_cases c5 : ((rd_T54 l0 x).f2.size : Int) > 65536
          · rw [if_pos c5] at h3
            simp only [Option.some.injEq, Prod.mk.injEq] at h3
            obtain ⟨rfl, rfl⟩ := h3
            simp only [errW_some]
            have c5b : decide (65536 < ((rd_T54 l0 x).f2.size : Int)) = true := decide_eq_true c5
            go_wp2
            go_ret2
            exact ⟨rfl, HB2.out⟩
          · rw [if_neg c5] at h3
            have c5b : decide (65536 < ((rd_T54 l0 x).f2.size : Int)) = false := decide_eq_false c5
            obtain ⟨tx, A2, h4⟩ := Option.bind_eq_some_iff.mp h3
            replace A2 := Aside0.mk A2
            clear h3
            by_cases c6 : acc.size + (tx.size + 1) ≤ 140737488355328
            case neg => rw [if_neg c6] at h4; exact absurd h4 (by simp)
            rw [if_pos c6] at h4
            replace h4 := Aside0.mk h4
            have c7 : (9223372036854775807 < tx.size + 1) = False := eq_false (by omega)
            have hs1 : (tx ++ (⟨#[10]⟩ : ByteArray)).size = tx.size + 1 := by rw [ByteArray.size_append]; rfl
            replace hs1 := Aside0.mk hs1
            simp only [errW_some]
            go_wp2_with fail
            refine (script_text.calls k (some st) tx _ A2.out).mono ?_
            rintro e w3 ⟨rfl, hb3⟩
            have hB3 := Aside0.mk (bi_below hB2.out hb3)
            have HB3 := Aside0.mk (below_step HB2.out hb3)
            clear hB2 HB2 hb3 BK2 hv2
            go_wp2_with fail
            refine (bi_strU w.heap.size w.heap.size _ (tx ++ (⟨#[10]⟩ : ByteArray)) _ hB3.out (by rw [hs1.out, ← ba_size]; exact c6) HB3.out.size).mono ?_
            rintro e w4 ⟨rfl, hB4, hb4, hk4⟩
            replace hB4 := Aside0.mk hB4
            replace HB4 := Aside0.mk (HB3.out.trans hb4)
            clear hB3 HB3 hb4 hk4
            go_wp2
            go_roundw
            case rel => exact ⟨x + 1, acc ++ (tx ++ (⟨#[10]⟩ : ByteArray)), by omega, by omega, by first | rfl | rw [hxw], ⟨by rw [show (x + 1).toNat = x.toNat + 1 by omega]; exact h4.out⟩, ⟨by rw [ba_append]; exact hB4.out⟩, HB4⟩
            case measure => simp [intOf]; omega
      · have hdr : l0.drop x.toNat = [] := List.drop_eq_nil_iff.2 (by omega)
        have q1 : decide (x < (l0.length : Int)) = false := decide_eq_false hkl
        have h1 := hgo.out
        rw [hdr] at h1
        simp only [script_Put.go, Option.some.injEq, Prod.mk.injEq] at h1
        obtain ⟨rfl, rfl⟩ := h1
        clear hgo hdr
        go_wp2_with fail
        refine (Try.Builder_String_any w.heap.size w.heap.size _ _ hB.out HB.out.size).mono ?_
        rintro e w3 ⟨rfl, hb3⟩
        replace hb3 := Aside0.mk (HB.out.trans hb3)
        have hq : (⟨acc.toList.toArray⟩ : ByteArray) = acc := ba_ext (by rw [ByteArray.toList_eq])
        rw [hq]
        go_wp2
        go_ret2
        exact ⟨rfl, hb3.out⟩

/-! ### stringslite_Index: function 69 -/
/-- The place of a byte; asked at a text of one byte alone. -/
def stringslite_Index.f (a0 : ByteArray) (a1 : ByteArray) : Option Int := match a1.toList with
  | [c] => some (Lib.indexByte a0.toList c)
  | _ => none
set_option maxHeartbeats 1000000 in
set_option maxRecDepth 100000 in
theorem my_IndexByte (s : ByteArray) (c : Int) (w : World) :
    Calls Try.prog 75 #[.string s, .int .u8 c] w fun e w' => e = .returned (.int .i64 (Lib.indexByte s.data.toList c.toNat.toUInt8)) ∧ w' = w := by
  go_enter Try.func75, Try.ntmps75
  go_wp2
  rw [run_callFunc_extern Try.func82 (by kernel_rfl) (by kernel_rfl) (by kernel_rfl) (e := Extern.BytealgIndexByte.indexByte) (by kernel_rfl), Lib.run_indexByteString]
  simp only [Result.andThen]
  rw [Oper.upon_value]
  go_wp2
  go_ret
  exact ⟨rfl, rfl⟩
set_option maxHeartbeats 2000000 in
set_option maxRecDepth 100000 in
theorem stringslite_Index.calls (a0 : ByteArray) (a1 : ByteArray) (r : Int) (w : World) (h : stringslite_Index.f a0 a1 = some r) :
    Calls Try.prog 69 #[.string a0, .string a1] w fun e w' => e = .returned (.int .i64 r) ∧ Drawn0 w w' := by
  obtain ⟨c, hc⟩ : ∃ c, a1.toList = [c] := by
    unfold stringslite_Index.f at h
    split at h
    · rename_i c hc; exact ⟨c, hc⟩
    · exact absurd h (by simp)
  unfold stringslite_Index.f at h
  rw [hc] at h
  obtain rfl := Option.some.inj h
  have he : a1 = ⟨#[c]⟩ := ba_ext (by rw [hc, ByteArray.toList_eq])
  subst he
  clear h hc
  go_enter Try.func69, Try.ntmps69
  go_wp2_with (go_at_call 75; refine (my_IndexByte _ _ _).mono ?_; rintro e w' ⟨rfl, rfl⟩)
  · have h : ([c] == a0.toList) = true := by assumption
    go_ret
    refine ⟨?_, Drawn0.refl _⟩
    have e : a0.toList = [c] := (beq_iff_eq.1 h).symm
    rw [e]
    simp [Lib.indexByte]
  · go_ret
    refine ⟨?_, Drawn0.refl _⟩
    rw [ByteArray.toList_eq]
    first | rfl | simp

end Go.Proofs.Ytcgmododeiocpaa.PScr
