-- written by wip/myprint.py over the kit's print; not a printed text of print.sh
import Derived.Test.YtjappgjpikbdeaaGreatDoorPTkkx0
import Derived.Test.YtjappgjpikbdeaaGreatDoorPTkkx17
namespace Go.Proofs.YtjappgjpikbdeaaGreatDoor.PTkk
open Go.RowKit Go.Proofs.YtjappgjpikbdeaaGreatDoorW.PrintWords Go.Proofs.YtjappgjpikbdeaaGreatDoorW.PrintLast Go.Proofs.YtjappgjpikbdeaaGreatDoorW.PrintMore
attribute [local go_sem] max2_int min2_int max_two min_two max_three min_three max_four min_four   -- for this text's walks alone
set_option linter.unusedVariables false
set_option linter.unusedSimpArgs false

/-! ### names_Number: function 82 -/
/-- The number of digits from place i on, n so far. -/
def names_Number.go (s : ByteArray) : Nat → Nat → Int → Option Int
  | 0, _, _ => none
  | d + 1, i, n => if i < s.size then (if bt s i < 48 then none else if bt s i > 57 then none else if n * 10 + (bt s i - 48) > 1099511627776 then none else names_Number.go s d (i + 1) (n * 10 + (bt s i - 48))) else some n
theorem names_Number.go_step (s : ByteArray) (i : Nat) (n : Int) (hi : i < s.size) : names_Number.go s (s.size + 1 - i) i n = (if bt s i < 48 then none else if bt s i > 57 then none else if n * 10 + (bt s i - 48) > 1099511627776 then none else names_Number.go s (s.size + 1 - (i + 1)) (i + 1) (n * 10 + (bt s i - 48))) := by
  obtain ⟨d, hd⟩ : ∃ d, s.size + 1 - i = d + 1 := ⟨s.size - i, by omega⟩
  have hd2 : s.size + 1 - (i + 1) = d := by omega
  rw [hd, hd2]
  simp only [names_Number.go]
  rw [if_pos hi]
theorem names_Number.go_end (s : ByteArray) (i : Nat) (n : Int) (hi : i = s.size) : names_Number.go s (s.size + 1 - i) i n = some n := by
  subst hi
  rw [show s.size + 1 - s.size = 0 + 1 by omega]
  simp only [names_Number.go]
  rw [if_neg (by omega)]
def names_Number.f (a0 : Int) (a1 : ByteArray) : Option (Int × Int) :=
  if a1.size ≤ 140737488351232 then (names_head.f a0).bind fun h => if h.toList = [] then some (0, 1) else (strings_CutPrefix.f a1 h).bind fun p =>
    if p.2 = false then some (0, 7) else if p.1.toList = [] then some (0, 7) else if 1 < p.1.size ∧ bt p.1 0 = 48 then some (0, 7) else
    if p.1.size ≤ 140737488351232 then (match names_Number.go p.1 (p.1.size + 1) 0 0 with
    | none => some (0, 7)
    | some n => some (n, 0)) else none
  else none
set_option maxHeartbeats 1000000 in
set_option maxRecDepth 100000 in
theorem names_Number.calls (a0 : Int) (a1 : ByteArray) (r1 : Int) (r2 : Int) (w : World) (h : names_Number.f a0 a1 = some (r1, r2)) :
    Calls Tryz.prog 82 #[.int .i64 a0, .string a1] w fun e w' => e = .returned (.tuple #[.int .i64 r1, .int .i64 r2]) ∧ Below w.heap.size w w' := by
  unfold names_Number.f at h
  by_cases hs : a1.size ≤ 140737488351232
  case neg => rw [if_neg hs] at h; exact absurd h (by simp)
  rw [if_pos hs] at h
  obtain ⟨hd, A1, h⟩ := Option.bind_eq_some_iff.mp h
  replace A1 := Aside0.mk A1
  have hbd := Aside0.mk (Below.refl w.heap.size w)
  by_cases c1 : hd.toList = []
  · rw [if_pos c1] at h
    simp only [Option.some.injEq, Prod.mk.injEq] at h
    obtain ⟨rfl, rfl⟩ := h
    go_enter Tryz.func82, Tryz.ntmps82
    go_wp2_with (go_at_call 81; refine (names_head.calls a0 hd _ A1.out).mono ?_; rintro e w1 ⟨rfl, ⟨nd, rfl⟩⟩)
    go_ret2
    exact ⟨rfl, by repeat (first | exact hbd.out | apply pw_below_drewN)⟩
  · rw [if_neg c1] at h
    have c1b : hd.toList.isEmpty = false := by simpa using c1
    clear c1
    obtain ⟨⟨p, ok⟩, A2, h⟩ := Option.bind_eq_some_iff.mp h
    replace A2 := Aside0.mk A2
    simp only at h
    cases ok with
    | false =>
      simp only [if_true] at h
      simp only [Option.some.injEq, Prod.mk.injEq] at h
      obtain ⟨rfl, rfl⟩ := h
      go_enter Tryz.func82, Tryz.ntmps82
      go_wp2_with (first | (go_at_call 81; refine (names_head.calls a0 hd _ A1.out).mono ?_; rintro e w1 ⟨rfl, ⟨nd, rfl⟩⟩) | (go_at_call 101; refine (strings_CutPrefix.calls a1 hd p false _ A2.out).mono ?_; rintro e w2 ⟨rfl, ⟨nd2, rfl⟩⟩))
      go_ret2
      exact ⟨rfl, by repeat (first | exact hbd.out | apply pw_below_drewN)⟩
    | true =>
      rw [if_neg (by simp)] at h
      by_cases c2 : p.toList = []
      · rw [if_pos c2] at h
        simp only [Option.some.injEq, Prod.mk.injEq] at h
        obtain ⟨rfl, rfl⟩ := h
        go_enter Tryz.func82, Tryz.ntmps82
        go_wp2_with (first | (go_at_call 81; refine (names_head.calls a0 hd _ A1.out).mono ?_; rintro e w1 ⟨rfl, ⟨nd, rfl⟩⟩) | (go_at_call 101; refine (strings_CutPrefix.calls a1 hd p true _ A2.out).mono ?_; rintro e w2 ⟨rfl, ⟨nd2, rfl⟩⟩))
        go_ret2
        exact ⟨rfl, by repeat (first | exact hbd.out | apply pw_below_drewN)⟩
      · rw [if_neg c2] at h
        have c2b : p.toList.isEmpty = false := by simpa using c2
        have hp : 0 < p.size := by
          rcases Nat.eq_zero_or_pos p.size with h0 | h0
          · exact absurd (List.eq_nil_of_length_eq_zero (by rw [ByteArray.toList_eq, data_length]; exact h0)) c2
          · exact h0
        clear c2
        by_cases c3 : 1 < p.size ∧ bt p 0 = 48
        · rw [if_pos c3] at h
          simp only [Option.some.injEq, Prod.mk.injEq] at h
          obtain ⟨rfl, rfl⟩ := h
          obtain ⟨c3, c4⟩ := c3
          have hx : ((p[0]'hp).toNat : Int) = bt p 0 := bt_at p 0 hp
          have c4b := beq_iff_eq.mpr c4
          clear c4
          have c3b : decide (1 < p.size) = true := by simp; omega
          go_enter Tryz.func82, Tryz.ntmps82
          go_wp2_with (first | (go_at_call 81; refine (names_head.calls a0 hd _ A1.out).mono ?_; rintro e w1 ⟨rfl, ⟨nd, rfl⟩⟩) | (go_at_call 101; refine (strings_CutPrefix.calls a1 hd p true _ A2.out).mono ?_; rintro e w2 ⟨rfl, ⟨nd2, rfl⟩⟩))
          go_ret2
          exact ⟨rfl, by repeat (first | exact hbd.out | apply pw_below_drewN)⟩
        · rw [if_neg c3] at h
          by_cases hps : p.size ≤ 140737488351232
          case neg => rw [if_neg hps] at h; exact absurd h (by simp)
          rw [if_pos hps] at h
          have hx : ((p[0]'hp).toNat : Int) = bt p 0 := bt_at p 0 hp
          have kb := fun W => print_bytes (P := Tryz.prog) 9 124 5 Tryz.underlying9 Tryz.underlying124 Tryz.underlying5 p W
          replace h := Aside0.mk h
          have c45 : (decide ((1 : Int) < (p.size : Int)) = true ∧ (bt p 0 == 48) = false) ∨ decide ((1 : Int) < (p.size : Int)) = false := by
            by_cases c5 : 1 < p.size
            · exact .inl ⟨decide_eq_true (by omega), beq_eq_false_iff_ne.mpr (fun e => c3 ⟨c5, e⟩)⟩
            · exact .inr (decide_eq_false (by omega))
          clear c3
          rcases c45 with ⟨c3b, c4b⟩ | c3b
          all_goals
            go_enter Tryz.func82, Tryz.ntmps82
            go_wp2_with (first | (go_at_call 81; refine (names_head.calls a0 hd _ A1.out).mono ?_; rintro e w1 ⟨rfl, ⟨nd, rfl⟩⟩) | (go_at_call 101; refine (strings_CutPrefix.calls a1 hd p true _ A2.out).mono ?_; rintro e w2 ⟨rfl, ⟨nd2, rfl⟩⟩))
            have hbw : Aside0 (Below w.heap.size w (Lib.bytesWorld (w.drewN (nd + nd2)) 5 p)) := ⟨bytes_below (pw_below_drewN hbd.out _) (by simp) 5 p⟩
            go_loop [9, 41] (fun n9 i => ∃ (k : Nat) (n : Int), k ≤ p.size ∧ i = .int .i64 k ∧ n9 = .int .i64 n ∧ 0 ≤ n ∧ n ≤ 1099511627776 ∧ Aside0 (names_Number.go p (p.size + 1 - k) k n = names_Number.go p (p.size + 1) 0 0)) (fun _ i => p.size - (intOf i).toNat)
            case atStart => exact ⟨0, 0, Nat.zero_le _, rfl, rfl, by omega, by omega, ⟨rfl⟩⟩
            case round =>
              obtain ⟨k, n, hk, rfl, rfl, hn0, hn1, hgo⟩ := hrel
              by_cases hlt : k < p.size
              · have hcell := my_bytes_cell (w.drewN (nd + nd2)) 5 p k w.heap.size (by simp) hlt
                have hbt := bt_range p k
                replace hgo := Aside0.mk ((names_Number.go_step p k n hlt).symm.trans hgo.out)
                by_cases d1 : bt p k < 48
                · have h1 := h.out
                  rw [← hgo.out, if_pos d1] at h1
                  simp only [Option.some.injEq, Prod.mk.injEq] at h1
                  obtain ⟨rfl, rfl⟩ := h1
                  clear h hgo
                  go_wp2
                  go_ret2
                  exact ⟨rfl, hbw.out⟩
                · by_cases d2 : bt p k > 57
                  · have h1 := h.out
                    rw [← hgo.out, if_neg d1, if_pos d2] at h1
                    simp only [Option.some.injEq, Prod.mk.injEq] at h1
                    obtain ⟨rfl, rfl⟩ := h1
                    clear h hgo
                    go_wp2
                    go_ret2
                    exact ⟨rfl, hbw.out⟩
                  · by_cases d3 : n * 10 + (bt p k - 48) > 1099511627776
                    · have h1 := h.out
                      rw [← hgo.out, if_neg d1, if_neg d2, if_pos d3] at h1
                      simp only [Option.some.injEq, Prod.mk.injEq] at h1
                      obtain ⟨rfl, rfl⟩ := h1
                      clear h hgo
                      go_wp2
                      go_ret2
                      exact ⟨rfl, hbw.out⟩
                    · have hgo2 := hgo.out
                      rw [if_neg d1, if_neg d2, if_neg d3] at hgo2
                      replace hgo2 := Aside0.mk hgo2
                      clear hgo h
                      go_wp2
                      go_round
                      case rel => exact ⟨k + 1, _, by omega, by go_num, rfl, by omega, by omega, hgo2⟩
                      case measure => simp [intOf]; omega
              · have h1 := h.out
                rw [← hgo.out, names_Number.go_end p k n (by omega)] at h1
                simp only [Option.some.injEq, Prod.mk.injEq] at h1
                obtain ⟨rfl, rfl⟩ := h1
                clear h hgo
                go_wp2
                go_ret2
                exact ⟨rfl, hbw.out⟩

end Go.Proofs.YtjappgjpikbdeaaGreatDoor.PTkk
