-- written by wip/myprint.py over the kit's print; not a printed text of print.sh
import Derived.Test.YtjappgjpikbdeaaGreatDoorPTkkx0
import Derived.Test.YtjappgjpikbdeaaGreatDoorPTkkx3
import Derived.Test.YtjappgjpikbdeaaGreatDoorPTkkx7
import Derived.Test.YtjappgjpikbdeaaGreatDoorPTkkx14
import Derived.Test.YtjappgjpikbdeaaGreatDoorPTkkx15
import Derived.Test.YtjappgjpikbdeaaGreatDoorPTkkx17
import Derived.Test.YtjappgjpikbdeaaGreatDoorPTkkx18
import Derived.Test.YtjappgjpikbdeaaGreatDoorPTkkx19
import Derived.Test.YtjappgjpikbdeaaGreatDoorPTkkx20
namespace Go.Proofs.YtjappgjpikbdeaaGreatDoor.PTkk
open Go.RowKit Go.Proofs.YtjappgjpikbdeaaGreatDoorW.PrintWords Go.Proofs.YtjappgjpikbdeaaGreatDoorW.PrintLast Go.Proofs.YtjappgjpikbdeaaGreatDoorW.PrintMore
attribute [local go_sem] max2_int min2_int max_two min_two max_three min_three max_four min_four   -- for this text's walks alone
set_option linter.unusedVariables false
set_option linter.unusedSimpArgs false

/-! ### token_value: function 58 -/
def token_value.l0 : Nat → ByteArray → List ByteArray → Int → Int → Option (ByteArray)
  | 0, _, _, _, _ => none
  | k + 1, x3, x14, x15, x16 => if x16 < x15 then (if 0 ≤ x16 then (if x16 < (x14.length : Int) then ((wire_Text.f (rdOf ByteArray.empty x14 x16)).bind fun bt164 => (if x3.size + bt164.1.size ≤ 9223372036854775807 then (token_value.l0 k (x3 ++ bt164.1) x14 x15 (wrap64 (x16 + 1))) else (none))) else (none)) else (none)) else (some x3)
def token_value.f (k : Nat) (a0_0 : ByteArray) (a0_1 : ByteArray) (a0_2 : ByteArray) (a0_3 : ByteArray) (a0_4 : ByteArray) : Option (ByteArray) := (some (([a0_2, a0_3, a0_4] : List ByteArray) : List ByteArray)).bind fun y160 => (token_value.l0 k (⟨#[]⟩ : ByteArray) y160 (y160.length : Int) 0)
theorem token_value.mono_l : ∀ k, (∀ y0 y1 y2 y3, LeO (token_value.l0 k y0 y1 y2 y3) (token_value.l0 (k + 1) y0 y1 y2 y3))
  | 0 => fun _ _ _ _ r h => by simp [token_value.l0] at h
  | k + 1 => by
    have ih0 := token_value.mono_l k
    · intro y0 y1 y2 y3
      unfold token_value.l0
      repeat' first
      | (with_reducible exact ih0 _ _ _ _)
      | (with_reducible exact LeO.refl _)
      | (with_reducible exact LeO.none _)
      | (with_reducible refine LeO.ite ?_ ?_)
      | (with_reducible refine LeO.bind ?_ (fun _ => ?_))
      | exact ih0 _ _ _ _
      | exact LeO.none _
      | refine LeO.ite ?_ ?_
      | refine LeO.bind ?_ (fun _ => ?_)
theorem token_value.mono : ∀ a0 a1 a2 a3 a4 k, LeO (token_value.f k a0 a1 a2 a3 a4) (token_value.f (k + 1) a0 a1 a2 a3 a4) := by
  intro a0 a1 a2 a3 a4 k
  have ih0 := token_value.mono_l k
  unfold token_value.f
  repeat' first
      | (with_reducible exact ih0 _ _ _ _)
      | (with_reducible exact LeO.refl _)
      | (with_reducible exact LeO.none _)
      | (with_reducible refine LeO.ite ?_ ?_)
      | (with_reducible refine LeO.bind ?_ (fun _ => ?_))
      | exact ih0 _ _ _ _
      | exact LeO.none _
      | refine LeO.ite ?_ ?_
      | refine LeO.bind ?_ (fun _ => ?_)
set_option maxHeartbeats 8000000 in
set_option maxRecDepth 100000 in
theorem token_value.calls (k : Nat) (a0_0 : ByteArray) (a0_1 : ByteArray) (a0_2 : ByteArray) (a0_3 : ByteArray) (a0_4 : ByteArray) (r : ByteArray) (w : World) (h : token_value.f k a0_0 a0_1 a0_2 a0_3 a0_4 = some r) :
    Calls Tryz.prog 58 #[.agg #[.string a0_0, .string a0_1, .string a0_2, .string a0_3, .string a0_4]] w fun e w' => e = .returned (.string r) ∧ Below w.heap.size w w' := by
  have hu23 := Tryz.underlying23
  have HB := Aside0.mk (Below.refl w.heap.size w)
  have H : ((some (([a0_2, a0_3, a0_4] : List ByteArray) : List ByteArray)).bind fun y160 => (token_value.l0 k (⟨#[]⟩ : ByteArray) y160 (y160.length : Int) 0)) = some r := h
  clear h
  obtain ⟨y160, hy160⟩ : ∃ y_ : List ByteArray, y_ = (([a0_2, a0_3, a0_4] : List ByteArray)) := ⟨_, rfl⟩
  replace H : (token_value.l0 k (⟨#[]⟩ : ByteArray) y160 (y160.length : Int) 0) = some r := by first | (rw [hy160]; with_reducible exact H) | (have H2_ := (Option.bind_some _ _).symm.trans H; rw [hy160]; with_reducible exact H2_) | (have H2_ := (Option.bind_some _ _).symm.trans H; with_reducible exact H2_) | with_reducible exact H | (rw [hy160]; exact H) | exact H
  have Ny160 := Aside0.mk hy160
  clear hy160
  have H' := Aside0.mk H
  clear H
  go_enter Tryz.func58, Tryz.ntmps58
  go_wp2_with (first | ((with_reducible refine gate_dst (N := 1) rfl ?_); refine box_event ?hg (N := 1) ?hd (cs := #[.string a0_0, .string a0_1, .string a0_2, .string a0_3, .string a0_4]) (t := 23) ?hr ?_; (case hd => rfl); (case hg => rfl); (case hr => first | (go_simp; done) | (go_simp; rfl)); intro gb159 hg w2 hbox hb; have n0_ := Aside0.mk (below_step (by repeat (first | (with_reducible first | exact HB.out | apply below_alloc | apply pw_below_drewN | apply below_drew1) | exact HB.out)) hb); have n1_ := Aside0.mk (hbox); have n2_ := Aside0.mk ((by rw [hg]; exact (below_size (by repeat (first | (with_reducible first | exact HB.out | apply below_alloc | apply pw_below_drewN | apply below_drew1) | exact HB.out))) : w.heap.size ≤ gb159)); have n3_ := Aside0.mk ((by rw [hg]; exact (below_size (by repeat (first | (with_reducible first | exact HB.out | apply below_alloc | apply pw_below_drewN | apply below_drew1) | exact HB.out))) : w.heap.size ≤ gb159)); clear HB; have HB := n0_; have BK159 := n1_; have GW159 := n2_; have GE159 := n3_; clear n0_ n1_ n2_ n3_; clear hb hbox hg; have hcz3_0 : w2.cell? ⟨gb159, 0, none⟩ = some (.string a0_0) := (blk_cell BK159.out 0).trans rfl; have hcz3_1 : w2.cell? ⟨gb159, 1, none⟩ = some (.string a0_1) := (blk_cell BK159.out 1).trans rfl; have hcz3_2 : w2.cell? ⟨gb159, 2, none⟩ = some (.string a0_2) := (blk_cell BK159.out 2).trans rfl; have hcz3_3 : w2.cell? ⟨gb159, 3, none⟩ = some (.string a0_3) := (blk_cell BK159.out 3).trans rfl; have hcz3_4 : w2.cell? ⟨gb159, 4, none⟩ = some (.string a0_4) := (blk_cell BK159.out 4).trans rfl; have hfz3_0 := blk_frozen BK159.out 0; have hfz3_1 := blk_frozen BK159.out 1; have hfz3_2 := blk_frozen BK159.out 2; have hfz3_3 := blk_frozen BK159.out 3; have hfz3_4 := blk_frozen BK159.out 4) | ((with_reducible refine gate_dst (N := 14) rfl ?_); refine Kd.R_lit Kd.string _ 9 ?hg (N := 14) ?hd (xs := ([a0_2, a0_3, a0_4] : List ByteArray)) (inner := [.string a0_2, .string a0_3, .string a0_4]) (ok := fun _ => True) (okp := fun _ => True) ?hr ?hp (fun _ hk => hk) trivial (Below.refl _ _) (Nat.le_refl _) (by simp) ?_; (case hd => rfl); (case hg => rfl); (case hr => first | (go_simp; done) | (go_simp; rfl)); (case hp => exact (Reps.one (show Kd.M Kd.string _ _ _ a0_2 [.string a0_2] from rfl) (Reps.one (show Kd.M Kd.string _ _ _ a0_3 [.string a0_3] from rfl) (Reps.one (show Kd.M Kd.string _ _ _ a0_4 [.string a0_4] from rfl) (Reps.none _ _))))); intro v161 w4 ho5 hb hg_ hnew_; clear hg_ hnew_; (first | rw [← Ny160.out] at ho5 | (simp only [Int.reduceToNat] at ho5; rw [← Ny160.out] at ho5)); have n0_ := Aside0.mk (Kd.R_lower ho5 (below_size (by repeat (first | (with_reducible first | exact HB.out | apply below_alloc | apply pw_below_drewN | apply below_drew1 | refine below_set ?_ GE159.out) | exact HB.out)))); have n1_ := Aside0.mk (blk_below (g := gb159) (o := .cells #[.string a0_0, .string a0_1, .string a0_2, .string a0_3, .string a0_4] 23 (0, 0)) (by (with_reducible repeat (first | refine blk_drewN ?_ _ | refine blk_drew ?_ | refine blk_alloc ?_ _)); exact BK159.out) hb); have n2_ := Aside0.mk (below_step (by repeat (first | (with_reducible first | exact HB.out | apply below_alloc | apply pw_below_drewN | apply below_drew1 | refine below_set ?_ GE159.out) | exact HB.out)) hb); clear BK159; clear HB; have HO162 := n0_; have BK159 := n1_; have HB := n2_; clear n0_ n1_ n2_; clear hb ho5; obtain ⟨Ao6, co6, eo6⟩ := Kd.R_slice HO162.out; subst eo6))
  go_loopg [3, 16] k (fun kq v3 v16 w' => ∃ (x3_1 : ByteArray) (x16_1 : Int), v3 = .string x3_1 ∧ v16 = .int .i64 x16_1 ∧ Aside0 (token_value.l0 kq x3_1 y160 (y160.length : Int) x16_1 = some r) ∧ Aside0 (kq ≤ k) ∧ Aside0 (Kd.R Kd.string 9 w' w.heap.size (fun _ => True) (.slice Ao6 y160.length co6) y160) ∧ Aside0 (w'.heap[gb159]? = some (.cells #[.string a0_0, .string a0_1, .string a0_2, .string a0_3, .string a0_4] 23 (0, 0))) ∧ Aside0 (Below w.heap.size w w'))
  case atStart => exact ⟨((⟨#[]⟩ : ByteArray)), (0), (by first | rfl | (simp; done) | (simp [*]; done)), (by first | rfl | (simp; done) | (simp [*]; done)), H', ⟨Nat.le_refl _⟩, ⟨by (with_reducible repeat (first | apply Kd.R_alloc | apply Kd.R_drewN | apply Kd.R_drew)); exact HO162.out⟩, ⟨by (with_reducible repeat (first | refine blk_drewN ?_ _ | refine blk_drew ?_ | refine blk_alloc ?_ _)); exact BK159.out⟩, ⟨by repeat (first | (with_reducible first | exact HB.out | apply below_alloc | apply pw_below_drewN | apply below_drew1 | refine below_set ?_ GE159.out) | exact HB.out)⟩⟩
  case round =>
    clear H'
    try clear p2
    try clear c5
    try clear hcz3_0
    try clear hcz3_1
    try clear hcz3_2
    try clear hcz3_3
    try clear hcz3_4
    try clear hfz3_0
    try clear hfz3_1
    try clear hfz3_2
    try clear hfz3_3
    try clear hfz3_4
    obtain ⟨x3_1, x16_1, rfl, rfl, HA, HK1, HO_14, BK159, HB⟩ := hrel
    cases gk with
    | zero => exact absurd HA.out (by simp [token_value.l0])
    | succ k1 =>
      have H := HA.out
      clear HA
      simp only [token_value.l0] at H
      by_cases c7 : x16_1 < (y160.length : Int)
      · rw [if_pos c7] at H
        have c7b0 : decide (x16_1 < (y160.length : Int)) = true := decide_eq_true c7
        clear c7
        by_cases c8 : 0 ≤ x16_1
        · rw [if_pos c8] at H
          have c8b0 : decide (0 ≤ x16_1) = true := decide_eq_true c8
          clear c8
          by_cases c9 : x16_1 < (y160.length : Int)
          · rw [if_pos c9] at H
            have c9b0 : decide (x16_1 < (y160.length : Int)) = true := decide_eq_true c9
            clear c9
            replace H := Option.bind_eq_some_iff.mp H
            obtain ⟨⟨t164, t165⟩, A100, H⟩ := H
            replace H : (if x3_1.size + t164.size ≤ 9223372036854775807 then (token_value.l0 k1 (x3_1 ++ t164) y160 (y160.length : Int) (wrap64 (x16_1 + 1))) else (none)) = some r := H
            have A10 := Aside0.mk A100
            clear A100
            by_cases c11 : x3_1.size + t164.size ≤ 9223372036854775807
            · rw [if_pos c11] at H
              have c11b0 := eq_true c11
              have c11b1 : decide (x3_1.size + t164.size ≤ 9223372036854775807) = true := decide_eq_true c11
              try have c11b2 : (9223372036854775807 < x3_1.size + t164.size) = False := eq_false (Nat.not_lt.2 c11)
              have H' := Aside0.mk H
              clear H
              have p163 : 0 ≤ (x16_1 : Int) := of_decide_eq_true (by first | (with_reducible assumption) | assumption)
              have q163 : x16_1 < (y160.length : Int) := of_decide_eq_true (by first | (with_reducible assumption) | assumption)
              obtain ⟨ad163, e163, hx163_0⟩ := Kd.at_string (Kd.R_reads' HO_14.out).2.2 x16_1 p163 q163
              cases e163
              replace p163 := eq_true p163
              replace q163 := eq_true q163
              go_wp2_with (first | ((with_reducible refine gate_callee (f := 64) rfl ?_); refine goesL_ (some 22) rfl rfl Tryz.func64 (by kernel_rfl) rfl #[.string (rdOf ByteArray.empty y160 x16_1)] rfl (by (try simp only [List.map_toArray, List.map_cons, List.map_nil]); first | done | rfl | (simp only [List.length_drop, List.length_take]; rfl)) ?_; (with_reducible refine (wire_Text.calls (rdOf ByteArray.empty y160 x16_1) t164 t165 _ A10.out).mono ?_); rintro e w12 ⟨rfl, hb⟩; refine ⟨_, rfl, ?_⟩; have n0_ := Aside0.mk (Kd.R_below (by (with_reducible repeat (first | apply Kd.R_alloc | apply Kd.R_drewN | apply Kd.R_drew)); exact HO_14.out) hb); have n1_ := Aside0.mk (blk_below (g := gb159) (o := .cells #[.string a0_0, .string a0_1, .string a0_2, .string a0_3, .string a0_4] 23 (0, 0)) (by (with_reducible repeat (first | refine blk_drewN ?_ _ | refine blk_drew ?_ | refine blk_alloc ?_ _)); exact BK159.out) hb); have n2_ := Aside0.mk (below_step (by repeat (first | (with_reducible first | exact HB.out | apply below_alloc | apply pw_below_drewN | apply below_drew1 | refine below_set ?_ GE159.out) | exact HB.out)) hb); clear HO_14; clear BK159; clear HB; have HO_14 := n0_; have BK159 := n1_; have HB := n2_; clear n0_ n1_ n2_; (try clear hb); (try clear hb2); (try clear hk); (try clear hi)))
              go_roundg k1
              case measure => have := HK1.out; omega
              case rel => exact ⟨(x3_1 ++ t164), (wrap64 (x16_1 + 1)), (by first | rfl | (simp; done) | (simp [*]; done)), (by first | rfl | (simp; done) | (simp [*]; done)), H', ⟨by have := HK1.out; omega⟩, ⟨by (with_reducible repeat (first | apply Kd.R_alloc | apply Kd.R_drewN | apply Kd.R_drew)); exact HO_14.out⟩, ⟨by (with_reducible repeat (first | refine blk_drewN ?_ _ | refine blk_drew ?_ | refine blk_alloc ?_ _)); exact BK159.out⟩, ⟨by repeat (first | (with_reducible first | exact HB.out | apply below_alloc | apply pw_below_drewN | apply below_drew1 | refine below_set ?_ GE159.out) | exact HB.out)⟩⟩
            · rw [if_neg c11] at H
              exact absurd H (by simp)
          · rw [if_neg c9] at H
            exact absurd H (by simp)
        · rw [if_neg c8] at H
          exact absurd H (by simp)
      · rw [if_neg c7] at H
        have c7b0 : decide (x16_1 < (y160.length : Int)) = false := decide_eq_false c7
        clear c7
        obtain rfl := Option.some.inj H
        go_wp2
        go_ret
        exact ⟨by first | rfl | (simp [errW_none, errW_some] <;> rfl) | (simp [*, errW_none, errW_some] <;> rfl), by repeat (first | (with_reducible first | exact HB.out | apply below_alloc | apply pw_below_drewN | apply below_drew1 | refine below_set ?_ GE159.out) | exact HB.out)⟩

/-! ### words: names.inc -/
def nm_headL (a : Int) : List UInt8 := if a = 1 then [99, 104, 97, 110, 110, 101, 108, 45] else if a = 2 then [99, 111, 110, 110, 101, 99, 116, 105, 111, 110, 45] else if a = 3 then [99, 108, 105, 101, 110, 116, 45] else []
theorem nm_head_is (a : Int) : names_head.f a = some (ofL (nm_headL a)) := by
  unfold names_head.f nm_headL
  split
  · rfl
  · split
    · rfl
    · split <;> rfl
theorem nm_hasPrefix_is (s h : ByteArray) : stringslite_HasPrefix.f s h = some (decide (h.toList <+: s.toList)) := by
  unfold stringslite_HasPrefix.f
  by_cases hs : (s.size : Int) ≥ (h.size : Int)
  · rw [if_pos hs, if_pos (by omega), if_pos hs]
    congr 1
    rw [ba_extract, List.drop_zero, Int.toNat_natCast, Bool.eq_iff_iff, beq_iff_eq, decide_eq_true_iff, List.prefix_iff_eq_take, ba_size h]
    exact eq_comm
  · rw [if_neg hs]
    congr 1
    symm
    rw [decide_eq_false_iff_not]
    intro hp
    have := hp.length_le
    rw [← ba_size, ← ba_size] at this
    omega
theorem nm_cutPrefix_is (s h : ByteArray) : strings_CutPrefix.f s h = some (if h.toList <+: s.toList then (ofL (s.toList.drop h.size), true) else (s, false)) := by
  unfold strings_CutPrefix.f stringslite_CutPrefix.f
  rw [nm_hasPrefix_is, Option.bind_some]
  by_cases hp : h.toList <+: s.toList
  · have hl := hp.length_le
    rw [← ba_size, ← ba_size] at hl
    rw [decide_eq_true hp, if_pos rfl, if_pos (by omega), if_pos (by omega), Option.bind_some, if_pos hp]
    congr 2
    apply ba_ext
    rw [ba_extract, ofL_toList, Int.toNat_natCast, ba_size s, List.take_length]
  · rw [decide_eq_false hp, if_neg (by simp), Option.bind_some, if_neg hp]
theorem nm_go_is (s : ByteArray) (d : Nat) : ∀ (i n : Nat), i ≤ s.size → d = s.size + 1 - i → n ≤ 1099511627776 → names_Number.go s d i (n : Int) = if (∀ c ∈ s.toList.drop i, isDig c) ∧ (s.toList.drop i).foldl dstep n ≤ 1099511627776 then some (((s.toList.drop i).foldl dstep n : Nat) : Int) else none := by
  induction d with
  | zero => intro i n hi hd; omega
  | succ d ih =>
    intro i n hi hd hn
    unfold names_Number.go
    by_cases h : i < s.size
    · have hl : i < s.toList.length := by rw [← ba_size]; exact h
      have hb := bt_get s i hl
      rw [if_pos h, List.drop_eq_getElem_cons hl]
      generalize s.toList[i] = c at *
      simp only [List.mem_cons, List.foldl_cons, forall_eq_or_imp]
      by_cases h1 : bt s i < 48
      · rw [if_pos h1, if_neg]
        rintro ⟨⟨hc, _⟩, _⟩
        unfold isDig at hc; omega
      · rw [if_neg h1]
        by_cases h2 : bt s i > 57
        · rw [if_pos h2, if_neg]
          rintro ⟨⟨hc, _⟩, _⟩
          unfold isDig at hc; omega
        · rw [if_neg h2]
          have hc : isDig c := by unfold isDig; omega
          have he : (n : Int) * 10 + (bt s i - 48) = ((dstep n c : Nat) : Int) := by unfold dstep; rw [hb]; unfold isDig at hc; omega
          rw [he]
          by_cases h3 : ((dstep n c : Nat) : Int) > 1099511627776
          · rw [if_pos h3, if_neg]
            rintro ⟨_, hle⟩
            have := foldl_dstep_ge (s.toList.drop (i + 1)) (dstep n c)
            omega
          · rw [if_neg h3, ih (i + 1) (dstep n c) (by omega) (by omega) (by omega)]
            simp only [hc, true_and]
    · rw [if_neg h]
      have : s.toList.drop i = [] := by rw [List.drop_eq_nil_iff, ← ba_size]; omega
      rw [this]
      simp [hn]
/-- What Number answers: of a kind's head and a name. -/
def nm_numOk (h l : List UInt8) : Prop := h <+: l ∧ l.drop h.length ≠ [] ∧ plainDec (l.drop h.length) ∧ (∀ c ∈ l.drop h.length, isDig c) ∧ dval (l.drop h.length) ≤ 1099511627776
open Classical in
noncomputable def nm_numSpec (h l : List UInt8) : Int × Int := if h = [] then (0, 1) else if nm_numOk h l then ((dval (l.drop h.length) : Nat), 0) else (0, 7)
theorem nm_plainDec_iff (l : List UInt8) (hn : l ≠ []) : plainDec l ↔ ¬ (1 < (ofL l).size ∧ bt (ofL l) 0 = 48) := by
  obtain ⟨c, t, rfl⟩ := List.exists_cons_of_ne_nil hn
  have hb : bt (ofL (c :: t)) 0 = ((c.toNat : Nat) : Int) := by
    have := bt_get (ofL (c :: t)) 0 (by rw [ofL_toList]; simp)
    simp only [ofL_toList] at this
    exact this
  rw [hb, ofL_size]
  unfold plainDec
  simp only [List.length_cons, List.head?_cons, ne_eq, Option.some.injEq]
  constructor
  · rintro (h | h) ⟨h1, h2⟩
    · omega
    · exact h (UInt8.toNat_inj.1 (by have : (48 : UInt8).toNat = 48 := rfl; omega))
  · intro h
    by_cases hl : t.length = 0
    · exact .inl (by omega)
    · right
      intro he
      apply h
      rw [he]
      exact ⟨by omega, rfl⟩
theorem nm_number_is (a : Int) (s : ByteArray) (hs : s.size ≤ 140737488351232) : names_Number.f a s = some (nm_numSpec (nm_headL a) s.toList) := by
  unfold names_Number.f nm_numSpec
  rw [if_pos hs, nm_head_is, Option.bind_some, ofL_toList]
  by_cases hh : nm_headL a = []
  · rw [if_pos hh, if_pos hh]
  · rw [if_neg hh, if_neg hh, nm_cutPrefix_is, Option.bind_some, ofL_toList, ofL_size]
    by_cases hp : nm_headL a <+: s.toList
    · rw [if_pos hp]
      simp only [Bool.true_eq_false, if_false, ofL_toList]
      by_cases he : s.toList.drop (nm_headL a).length = []
      · rw [if_pos he, if_neg]
        rintro ⟨_, h2, _⟩
        exact h2 he
      · rw [if_neg he]
        have hpi := nm_plainDec_iff _ he
        by_cases hz : 1 < (ofL (s.toList.drop (nm_headL a).length)).size ∧ bt (ofL (s.toList.drop (nm_headL a).length)) 0 = 48
        · rw [if_pos hz, if_neg]
          rintro ⟨_, _, h3, _⟩
          exact hpi.1 h3 hz
        · rw [if_neg hz]
          have hsz : (ofL (s.toList.drop (nm_headL a).length)).size ≤ 140737488351232 := by
            rw [ofL_size, List.length_drop, ← ba_size]; omega
          rw [if_pos hsz]
          have hg := nm_go_is (ofL (s.toList.drop (nm_headL a).length)) _ 0 0 (by omega) rfl (by omega)
          rw [show (((0 : Nat) : Int)) = 0 from rfl] at hg
          rw [Nat.sub_zero, List.drop_zero, ofL_toList] at hg
          rw [hg]
          by_cases hd : (∀ c ∈ s.toList.drop (nm_headL a).length, isDig c) ∧ (s.toList.drop (nm_headL a).length).foldl dstep 0 ≤ 1099511627776
          · rw [if_pos hd, if_pos]
            · rfl
            · exact ⟨hp, he, hpi.2 hz, hd.1, hd.2⟩
          · rw [if_neg hd, if_neg]
            rintro ⟨_, _, _, h4, h5⟩
            exact hd ⟨h4, h5⟩
    · rw [if_neg hp, if_pos rfl, if_neg (fun h : nm_numOk _ _ => hp h.1)]
def nm_letP (c : Int) : Prop := (97 ≤ c ∧ c ≤ 122) ∨ (65 ≤ c ∧ c ≤ 90) ∨ (48 ≤ c ∧ c ≤ 57) ∨ c = 46 ∨ c = 95 ∨ c = 45
instance (c : Int) : Decidable (nm_letP c) := by unfold nm_letP; infer_instance
theorem nm_letter_is (c : Int) (k : Nat) : names_letter.f (k + 3) c = some (decide (nm_letP c)) := by
  unfold names_letter.f
  simp only [names_letter.j0, names_letter.j1, names_letter.j2]
  repeat' split
  all_goals (try simp only [decide_eq_true_iff, Bool.false_eq_true] at *)
  all_goals (first | exact congrArg some (decide_eq_true (by unfold nm_letP; omega)).symm | exact congrArg some (decide_eq_false (by unfold nm_letP; omega)).symm)
theorem nm_letter_at (c : Int) (k : Nat) (h : 3 ≤ k) : names_letter.f k c = some (decide (nm_letP c)) := by
  obtain ⟨m, rfl⟩ : ∃ m, k = m + 3 := ⟨k - 3, by omega⟩
  exact nm_letter_is c m
def nm_plainP (s : ByteArray) : Prop := 1 ≤ s.size ∧ s.size ≤ 64 ∧ ∀ i : Nat, i < s.size → nm_letP (bt s i)
open Classical in
theorem nm_plain_is (s : ByteArray) (hs : s.size ≤ 140737488351232) : Ev (fun k => names_plain.f k s) (decide (nm_plainP s)) := by
  have loop : ∀ (d i : Nat) (b : Bool), d = s.size - i → i ≤ s.size → ∀ k, d + 5 ≤ k → names_plain.l0 k s b (s.size : Int) (i : Int) = some (b && decide (∀ j : Nat, i ≤ j → j < s.size → nm_letP (bt s j))) := by
    intro d
    induction d with
    | zero =>
      intro i b hd hi k hk
      obtain ⟨k, rfl⟩ : ∃ m, k = m + 1 := ⟨k - 1, by omega⟩
      simp only [names_plain.l0]
      rw [if_neg (by omega), decide_eq_true (fun j h1 h2 => by omega), Bool.and_true]
    | succ d ih =>
      intro i b hd hi k hk
      obtain ⟨k, rfl⟩ : ∃ m, k = m + 1 := ⟨k - 1, by omega⟩
      simp only [names_plain.l0]
      rw [if_pos (by omega), if_pos (by omega), if_pos (by omega), nm_letter_at _ _ (by omega), Option.bind_some]
      by_cases hl : nm_letP (bt s i)
      · rw [decide_eq_true hl, if_pos rfl, w64 (by omega) (by omega), show ((i : Int) + 1) = ((i + 1 : Nat) : Int) from rfl, ih (i + 1) b (by omega) (by omega) _ (by omega)]
        congr 2
        rw [decide_eq_decide]
        constructor
        · intro h j h1 h2
          by_cases he : j = i
          · rw [he]; exact hl
          · exact h j (by omega) h2
        · intro h j h1 h2
          exact h j (by omega) h2
      · rw [decide_eq_false hl, if_neg (by simp), decide_eq_false (fun h => hl (h i (Nat.le_refl _) (by omega))), Bool.and_false]
  refine ⟨s.size + 6, fun k hk => ?_⟩
  obtain ⟨k, rfl⟩ : ∃ m, k = m + 1 := ⟨k - 1, by omega⟩
  have hl := fun b => loop s.size 0 b (by omega) (by omega) k (by omega)
  unfold names_plain.f
  simp only [names_plain.j0]
  by_cases h0 : s.toList = []
  · rw [if_pos h0]
    have hz : s.size = 0 := by rw [ba_size, h0]; rfl
    have := hl false
    rw [show ((0 : Nat) : Int) = 0 from rfl] at this
    rw [this, Bool.false_and, decide_eq_false (fun h : nm_plainP s => by have := h.1; omega)]
  · rw [if_neg h0]
    have hz : 1 ≤ s.size := by rw [ba_size]; exact List.length_pos_iff.2 h0
    have := hl (decide ((s.size : Int) ≤ 64))
    rw [show ((0 : Nat) : Int) = 0 from rfl] at this
    rw [this]
    congr 1
    rw [Bool.eq_iff_iff, Bool.and_eq_true, decide_eq_true_iff, decide_eq_true_iff, decide_eq_true_iff]
    constructor
    · rintro ⟨h1, h2⟩
      exact ⟨hz, by omega, fun i hi => h2 i (Nat.zero_le _) hi⟩
    · rintro ⟨_, h1, h2⟩
      exact ⟨by omega, fun i _ hi => h2 i hi⟩
open Classical in
noncomputable def nm_checkSpec (a : Int) (s : ByteArray) : Int := if a < 0 then 1 else if a > 6 then 1 else if nm_headL a = [] then (if nm_plainP s then 0 else 7) else (nm_numSpec (nm_headL a) s.toList).2
open Classical in
theorem nm_check_ev (a : Int) (s : ByteArray) (hs : s.size ≤ 140737488351232) : Ev (fun k => names_Check.f k a s) (nm_checkSpec a s) := by
  obtain ⟨K, hK⟩ := nm_plain_is s hs
  refine ⟨K + 1, fun k hk => ?_⟩
  obtain ⟨k, rfl⟩ : ∃ m, k = m + 1 := ⟨k - 1, by omega⟩
  have hp : names_plain.f k s = _ := hK k (by omega)
  show names_Check.f _ a s = _
  unfold names_Check.f nm_checkSpec
  by_cases h1 : a < 0
  · rw [if_pos h1, if_pos h1]
    simp only [names_Check.j0]
    rw [if_pos trivial]
  · rw [if_neg h1, if_neg h1]
    simp only [names_Check.j0]
    by_cases h2 : a > 6
    · rw [if_pos h2, decide_eq_true h2, if_pos rfl]
    · rw [if_neg h2, decide_eq_false h2, if_neg (by simp), nm_head_is, Option.bind_some, ofL_toList]
      by_cases h3 : nm_headL a = []
      · rw [if_pos h3, if_pos h3, hp, Option.bind_some]
        by_cases h4 : nm_plainP s
        · rw [decide_eq_true h4, if_pos rfl, if_pos h4]
        · rw [decide_eq_false h4, if_neg (by simp), if_neg h4]
      · rw [if_neg h3, if_neg h3, nm_number_is a s hs, Option.bind_some]
theorem nm_eq (a : Int) (s : ByteArray) (hs : s.size ≤ 140737488351232) (k : Nat) (n : Int) (h : names_Check.f k a s = some n) : nm_checkSpec a s = n := by
  obtain ⟨K, hK⟩ := nm_check_ev a s hs
  obtain ⟨K2, hK2⟩ := Ev.of (g := fun k => names_Check.f k a s) (names_Check.mono a s) h
  exact Option.some.inj ((hK (max K K2) (by omega)).symm.trans (hK2 (max K K2) (by omega)))

/-! ### words: bk.inc -/
/-! ### bank: plain -/
/-- A number's bytes; none, if it has none. -/
def bkNum (n : Int) : ByteArray := if n < 0 ∨ 9007199254740992 < n then (⟨#[]⟩ : ByteArray) else numB n.toNat
def bkSet (cur : List S82) (key : ByteArray) (n : Int) : List S82 := if n = 0 then delK cur key else setC cur key (bkNum n)
theorem bkSet_KV {m : Nat} {cur : List S82} (h : KV m cur) (key : ByteArray) (n : Int) : KV (m + 1) (bkSet cur key n) := by
  unfold bkSet
  split
  · exact (h.del _).mono (Nat.le_succ _)
  · exact h.put _ _
def bkOf (cur : List S82) (owner : ByteArray) : Int := numK cur (keyB (⟨#[99, 111, 105, 110, 115]⟩ : ByteArray) [owner])
def bkAll (cur : List S82) : Int := numK cur (⟨#[97, 108, 108, 45, 99, 111, 105, 110, 115]⟩ : ByteArray)
noncomputable def bkChk (n : Int) (owners : List ByteArray) : Int := if (∀ s ∈ owners, nm_checkSpec 6 s = 0) then (if n < 1 ∨ n > 1099511627776 then 3 else 0) else 7
noncomputable def bkGiveE (cur : List S82) (owner : ByteArray) (n : Int) : Int := if bkChk n [owner] = 0 then (if n > 1099511627776 - bkAll cur then 3 else 0) else bkChk n [owner]
noncomputable def bkGive (cur : List S82) (owner : ByteArray) (n : Int) : List S82 := if bkGiveE cur owner n = 0 then bkSet (bkSet cur (keyB (⟨#[99, 111, 105, 110, 115]⟩ : ByteArray) [owner]) (bkOf cur owner + n)) (⟨#[97, 108, 108, 45, 99, 111, 105, 110, 115]⟩ : ByteArray) (bkAll cur + n) else cur
noncomputable def bkTakeE (cur : List S82) (owner : ByteArray) (n : Int) : Int := if bkChk n [owner] = 0 then (if bkOf cur owner < n then 21 else 0) else bkChk n [owner]
noncomputable def bkTake (cur : List S82) (owner : ByteArray) (n : Int) : List S82 := if bkTakeE cur owner n = 0 then bkSet (bkSet cur (keyB (⟨#[99, 111, 105, 110, 115]⟩ : ByteArray) [owner]) (bkOf cur owner - n)) (⟨#[97, 108, 108, 45, 99, 111, 105, 110, 115]⟩ : ByteArray) (bkAll cur - n) else cur
noncomputable def bkPayE (cur : List S82) (a b : ByteArray) (n : Int) : Int := if bkChk n [a, b] = 0 then (if bkOf cur a < n then 21 else 0) else bkChk n [a, b]
noncomputable def bkPay1 (cur : List S82) (a : ByteArray) (n : Int) : List S82 := bkSet cur (keyB (⟨#[99, 111, 105, 110, 115]⟩ : ByteArray) [a]) (bkOf cur a - n)
noncomputable def bkPay (cur : List S82) (a b : ByteArray) (n : Int) : List S82 := if bkPayE cur a b n = 0 then bkSet (bkPay1 cur a n) (keyB (⟨#[99, 111, 105, 110, 115]⟩ : ByteArray) [b]) (bkOf (bkPay1 cur a n) b + n) else cur

end Go.Proofs.YtjappgjpikbdeaaGreatDoor.PTkk
