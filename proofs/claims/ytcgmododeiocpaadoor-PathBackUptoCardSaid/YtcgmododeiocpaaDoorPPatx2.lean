-- written by wip/myprint.py over the kit's print; not a printed text of print.sh
import Derived.Test.YtcgmododeiocpaaDoorPPatx0
import Derived.Test.YtcgmododeiocpaaDoorPPatx1
namespace Go.Proofs.YtcgmododeiocpaaDoor.PPat
open Go.RowKit Go.Proofs.YtcgmododeiocpaaDoorW.PrintWords Go.Proofs.YtcgmododeiocpaaDoorW.PrintLast Go.Proofs.YtcgmododeiocpaaDoorW.PrintMore
attribute [local go_sem] max2_int min2_int max_two min_two max_three min_three max_four min_four   -- for this text's walks alone
set_option linter.unusedVariables false
set_option linter.unusedSimpArgs false

/-! ### strings_ReplaceAll: function 91 -/
/-- A byte's instances, replaced. -/
def repl1 (c : UInt8) (new : List UInt8) (l : List UInt8) : List UInt8 := l.flatMap fun x => if x = c then new else [x]
theorem repl1_no {c : UInt8} {new : List UInt8} : ∀ {l : List UInt8}, c ∉ l → repl1 c new l = l
  | [], _ => rfl
  | x :: t, h => by
    simp only [List.mem_cons, not_or] at h
    have ih := repl1_no (new := new) h.2
    unfold repl1 at ih ⊢
    rw [List.flatMap_cons, if_neg (fun e => h.1 e.symm), ih]; rfl
theorem repl1_at {c : UInt8} {new : List UInt8} (a b : List UInt8) (h : c ∉ a) : repl1 c new (a ++ c :: b) = a ++ (new ++ repl1 c new b) := by
  have h1 := repl1_no (new := new) h
  unfold repl1 at h1 ⊢
  rw [List.flatMap_append, h1, List.flatMap_cons, if_pos rfl]
theorem first_at (c : UInt8) : ∀ (l : List UInt8), 0 < l.count c → ∃ a b, l = a ++ c :: b ∧ c ∉ a ∧ Lib.indexByte l c = (a.length : Int)
  | [], h => by simp at h
  | x :: t, h => by
    by_cases hx : x = c
    · exact ⟨[], t, by rw [hx]; rfl, by simp, by unfold Lib.indexByte; rw [if_pos (by simp [hx])]; rfl⟩
    · rw [List.count_cons_of_ne (fun e => hx e)] at h
      obtain ⟨a, b, h1, h2, h3⟩ := first_at c t h
      refine ⟨x :: a, b, by rw [h1]; rfl, by simp only [List.mem_cons, not_or]; exact ⟨fun e => hx e.symm, h2⟩, ?_⟩
      unfold Lib.indexByte
      rw [if_neg (by simpa using hx), h3, if_neg (by simp), List.length_cons]
      omega
set_option maxHeartbeats 4000000 in
set_option maxRecDepth 1000000 in
theorem strings_Replace1 (s old new : ByteArray) (c : UInt8) (w : World) (hs : s.size ≤ 100000000) (hold : old = (⟨#[c]⟩ : ByteArray)) (hnew : new.size = 2) :
    Calls Tryd.prog 125 #[.string s, .string old, .string new, .int .i64 (-1)] w fun e w' => e = .returned (.string (ofL (repl1 c new.toList s.toList))) ∧ Below w.heap.size w w' := by
  have hC : Calls Tryd.prog 121 #[.string s, .string old] w fun e w' => e = .returned (.int .i64 ((s.toList.count c : Nat) : Int)) ∧ w' = w := by
    rw [hold, ByteArray.toList_eq]
    exact Tryd.strings_Count_one s c w
  have hI : ∀ (x : ByteArray) (W : World), Calls Tryd.prog 122 #[.string x, .string old] W fun e w' => e = .returned (.int .i64 (Lib.indexByte x.toList c)) ∧ w' = W := by
    intro x W
    rw [hold, ByteArray.toList_eq]
    exact Tryd.strings_Index_one x c W
  have ho1 : old.size = 1 := by rw [hold]; rfl
  have hbeq : (old.toList == new.toList) = false := by
    apply beq_eq_false_iff_ne.2
    intro e
    have h1 := congrArg List.length e
    rw [← ba_size, ← ba_size] at h1
    omega
  have hcs : s.toList.count c ≤ s.size := by rw [ba_size]; exact List.count_le_length
  have ho0 : (0 : Int) < (old.size : Int) := by omega
  have hod : decide (0 < old.size) = true := decide_eq_true (by omega)
  by_cases hz : s.toList.count c = 0
  · have hr : repl1 c new.toList s.toList = s.toList := repl1_no (List.count_eq_zero.1 hz)
    rw [hr, ofL_of]
    rw [hz] at hC
    replace hC := Aside0.mk hC
    clear hI hr hnew hz hcs hold ho1
    go_enter Tryd.func125, Tryd.ntmps125
    go_wp2_with fail
    refine hC.out.mono ?_
    rintro e w' ⟨rfl, rfl⟩
    go_wp2
    go_ret
    exact ⟨rfl, by repeat (first | exact Below.refl _ _ | apply pw_below_drewN)⟩
  · obtain ⟨K, hK⟩ : ∃ K : Nat, s.toList.count c = K := ⟨_, rfl⟩
    rw [hK] at hC hz hcs
    have hcz : ((K : Int) == 0) = false := beq_eq_false_iff_ne.2 (by omega)
    have hga := Lib.grow_arg s.size K new.size old.size (by omega) (by rw [ho1]; omega) (by rw [hnew]; omega)
    have hgn : s.size + K * new.size - K * old.size ≤ 281474976710656 := by rw [hnew, ho1]; omega
    replace hC := Aside0.mk hC
    replace hI := Aside0.mk hI
    replace ho1 := Aside0.mk ho1
    replace hnew := Aside0.mk hnew
    replace hgn := Aside0.mk hgn
    replace hK := Aside0.mk hK
    replace hold := Aside0.mk hold
    go_enter Tryd.func125, Tryd.ntmps125
    go_wp2_with fail
    refine hC.out.mono ?_
    rintro e w' ⟨rfl, rfl⟩
    go_wp2_with fail
    try rw [hga]
    refine (Tryd.Builder_Grow_fresh w'.heap.size w'.heap.size _ _ (Nat.le_refl _) (my_alloc_new w' _) (by simp) hgn.out).mono ?_
    rintro e w1 ⟨rfl, hb0, hb1⟩
    have H1 := Aside0.mk (Or.inr hb0 : Lib.IsBuilder 95 5 w'.heap.size w'.heap.size (Lib.byteCells []) w1)
    have Hb1 := Aside0.mk (((Below.refl w'.heap.size w').alloc (Nat.le_refl _) _).trans hb1)
    clear hb0 hb1 hga hC
    go_wp2_with fail
    go_loopg [11, 53] K (fun g s11 s53 wx => ∃ (i start : Nat) (acc : List UInt8), s53 = .int .i64 i ∧ s11 = .int .i64 start ∧ i + g = K ∧ start ≤ s.size ∧ Aside0 (Lib.IsBuilder 95 5 w'.heap.size w'.heap.size (Lib.byteCells acc) wx) ∧ Aside0 (Below w'.heap.size w' wx) ∧ Aside0 (acc ++ repl1 c new.toList (s.toList.drop start) = repl1 c new.toList s.toList) ∧ Aside0 (g = (s.toList.drop start).count c) ∧ Aside0 (acc.length ≤ 2 * start))
    case atStart => exact ⟨0, 0, [], rfl, rfl, by omega, Nat.zero_le _, H1, Hb1, ⟨by simp⟩, ⟨by rw [List.drop_zero, hK.out]⟩, ⟨by simp⟩⟩
    case round =>
      clear H1 Hb1
      obtain ⟨i, start, acc, rfl, rfl, hig, hst, HB, HW, HR, hgc, hbd⟩ := hrel
      have hBw := Aside0.mk HW.out.size
      have c1 : (0 : Int) ≤ (start : Int) := by omega
      have c2 : (start : Int) ≤ (s.size : Int) := by omega
      have hsl : s.toList.length = s.size := (ba_size s).symm
      cases gk with
      | zero =>
        have hiK : ¬ ((i : Int) < (K : Int)) := by omega
        have hno : repl1 c new.toList (s.toList.drop start) = s.toList.drop start := repl1_no (List.count_eq_zero.1 hgc.out.symm)
        have hfin := Aside0.mk (HR.out.symm.trans (by rw [hno]))
        have hex : (s.extract start s.size).toList = s.toList.drop start := by rw [ba_extract, ← hsl, List.take_length]
        replace hex := Aside0.mk hex
        clear hno
        go_wp2_with fail
        refine (bi_strU w'.heap.size w'.heap.size _ (s.extract start s.size) wr HB.out (by have := hbd.out; rw [ByteArray.size_extract]; omega) hBw.out).mono ?_
        rintro e w3 ⟨rfl, h3, hb3, hk3⟩
        rw [hex.out, ← hfin.out] at h3
        have H3 := Aside0.mk h3
        have Hb3 := Aside0.mk (HW.out.trans hb3)
        clear h3 hb3 hk3
        go_wp2_with fail
        refine (Tryd.Builder_String_any w'.heap.size w'.heap.size _ w3 H3.out Hb3.out.size).mono ?_
        rintro e w5 ⟨rfl, hb5⟩
        have Hb5 := Aside0.mk (Hb3.out.trans hb5)
        clear hb5
        go_wp2
        go_ret
        exact ⟨rfl, Hb5.out⟩
      | succ g =>
        have hiK : (i : Int) < (K : Int) := by omega
        obtain ⟨a, b, hd, ha, hj⟩ := first_at c (s.toList.drop start) (by rw [← hgc.out]; omega)
        have hdl : (s.toList.drop start).length = a.length + (b.length + 1) := by rw [hd, List.length_append, List.length_cons]
        rw [List.length_drop, hsl] at hdl
        have c3 : (start : Int) ≤ (start : Int) + (a.length : Int) := by omega
        have c4 : (start : Int) + (a.length : Int) ≤ (s.size : Int) := by omega
        have hext : (s.extract start (start + a.length)).toList = a := by
          rw [ba_extract, List.drop_take, hd, Nat.add_sub_cancel_left]
          exact List.take_left
        have hb' : b = s.toList.drop (start + a.length + 1) := by
          rw [show start + a.length + 1 = start + (a.length + 1) by omega, ← List.drop_drop, hd]
          simp
        have hjx : Lib.indexByte (s.extract start s.size).toList c = (a.length : Int) := by rw [ba_extract, ← hsl, List.take_length]; exact hj
        have hrep : Aside0 ((acc ++ a ++ new.toList) ++ repl1 c new.toList (s.toList.drop (start + a.length + 1)) = repl1 c new.toList s.toList) := ⟨by rw [← HR.out, hd, repl1_at a b ha, ← hb']; simp only [List.append_assoc]⟩
        have hcnt : Aside0 (g = (s.toList.drop (start + a.length + 1)).count c) := ⟨by
          have h := hgc.out
          rw [hd, List.count_append, List.count_eq_zero.2 ha, List.count_cons_self, ← hb'] at *
          omega⟩
        replace hext := Aside0.mk hext
        replace hjx := Aside0.mk hjx
        clear hd ha hj hb' HR hgc
        go_wp2_with fail
        refine (hI.out (s.extract start s.size) _).mono ?_
        rintro e w6 ⟨rfl, rfl⟩
        rw [hjx.out]
        go_wp2_with fail
        refine (bi_strU w'.heap.size w'.heap.size _ (s.extract start (start + a.length)) _ HB.out (by have := hbd.out; rw [ByteArray.size_extract]; omega) hBw.out).mono ?_
        rintro e w3 ⟨rfl, h3, hb3, hk3⟩
        rw [hext.out] at h3
        have H3 := Aside0.mk h3
        have Hb3 := Aside0.mk (HW.out.trans hb3)
        clear h3 hb3 hk3
        go_wp2_with fail
        refine (bi_strU w'.heap.size w'.heap.size _ new w3 H3.out (by have := hbd.out; have := hnew.out; rw [List.length_append]; omega) Hb3.out.size).mono ?_
        rintro e w4 ⟨rfl, h4, hb4, hk4⟩
        have H4 := Aside0.mk h4
        have Hb4 := Aside0.mk (Hb3.out.trans hb4)
        clear h4 hb4 hk4
        go_wp2
        go_roundg g
        case measure => omega
        case rel => exact ⟨i + 1, start + a.length + 1, acc ++ a ++ new.toList, by first | rfl | (simp; unfold wrap64; omega), by have := ho1.out; first | rfl | (simp; done) | (simp; rw [w64 (by omega) (by omega)]; omega), by omega, by omega, H4, Hb4, hrep, hcnt, ⟨by have h1 := hbd.out; have h2 := hnew.out; rw [ba_size] at h2; rw [List.length_append, List.length_append]; omega⟩⟩
def strings_ReplaceAll.f (a0 a1 a2 : ByteArray) : Option ByteArray := match a1.toList with
  | [c] => if a0.size ≤ 100000000 ∧ a2.size = 2 then some (ofL (repl1 c a2.toList a0.toList)) else none
  | _ => none
set_option maxHeartbeats 1000000 in
set_option maxRecDepth 100000 in
theorem strings_ReplaceAll.calls (a0 a1 a2 : ByteArray) (r : ByteArray) (w : World) (h : strings_ReplaceAll.f a0 a1 a2 = some r) :
    Calls Tryd.prog 91 #[.string a0, .string a1, .string a2] w fun e w' => e = .returned (.string r) ∧ Below w.heap.size w w' := by
  unfold strings_ReplaceAll.f at h
  split at h
  case h_2 => exact absurd h (by simp)
  case h_1 c hc =>
    by_cases hh : a0.size ≤ 100000000 ∧ a2.size = 2
    case neg => rw [if_neg hh] at h; exact absurd h (by simp)
    rw [if_pos hh] at h
    obtain rfl := Option.some.inj h
    have hold : a1 = (⟨#[c]⟩ : ByteArray) := ba_ext (by rw [hc, ByteArray.toList_eq])
    have R := Aside0.mk (fun W => strings_Replace1 a0 a1 a2 c W hh.1 hold hh.2)
    clear h hh hold hc
    go_enter Tryd.func91, Tryd.ntmps91
    go_wp2_with fail
    refine (R.out _).mono ?_
    rintro e w' ⟨rfl, hb⟩
    go_wp2
    go_ret
    exact ⟨rfl, hb⟩

/-! ### path_hidden: function 56 -/
def path_hidden.f (a0 : ByteArray) : Option (ByteArray) := (strings_ReplaceAll.f a0 (⟨#[37]⟩ : ByteArray) (⟨#[37, 112]⟩ : ByteArray)).bind fun t106 => ((strings_ReplaceAll.f t106 (⟨#[47]⟩ : ByteArray) (⟨#[37, 115]⟩ : ByteArray)).bind fun t107 => (some t107))
set_option maxHeartbeats 8000000 in
set_option maxRecDepth 100000 in
theorem path_hidden.calls (a0 : ByteArray) (r : ByteArray) (w : World) (h : path_hidden.f a0 = some r) :
    Calls Tryd.prog 56 #[.string a0] w fun e w' => e = .returned (.string r) ∧ Below w.heap.size w w' := by
  have HB := Aside0.mk (Below.refl w.heap.size w)
  have H : ((strings_ReplaceAll.f a0 (⟨#[37]⟩ : ByteArray) (⟨#[37, 112]⟩ : ByteArray)).bind fun t106 => ((strings_ReplaceAll.f t106 (⟨#[47]⟩ : ByteArray) (⟨#[37, 115]⟩ : ByteArray)).bind fun t107 => (some t107))) = some r := h
  clear h
  replace H := Option.bind_eq_some_iff.mp H
  obtain ⟨t106, A20, H⟩ := H
  replace H : ((strings_ReplaceAll.f t106 (⟨#[47]⟩ : ByteArray) (⟨#[37, 115]⟩ : ByteArray)).bind fun t107 => (some t107)) = some r := H
  have A2 := Aside0.mk A20
  clear A20
  replace H := Option.bind_eq_some_iff.mp H
  obtain ⟨t107, A30, H⟩ := H
  replace H : (some t107) = some r := H
  have A3 := Aside0.mk A30
  clear A30
  obtain rfl := Option.some.inj H
  go_enter Tryd.func56, Tryd.ntmps56
  go_wp2_with (first | ((with_reducible refine gate_callee (f := 91) rfl ?_); refine goesL_ (some 4) rfl rfl Tryd.func91 (by kernel_rfl) rfl #[.string a0, .string (⟨#[37]⟩ : ByteArray), .string (⟨#[37, 112]⟩ : ByteArray)] rfl (by (try simp only [List.map_toArray, List.map_cons, List.map_nil]); first | done | rfl | (simp only [List.length_drop, List.length_take]; rfl)) ?_; (with_reducible refine (strings_ReplaceAll.calls a0 (⟨#[37]⟩ : ByteArray) (⟨#[37, 112]⟩ : ByteArray) t106 _ A2.out).mono ?_); rintro e w4 ⟨rfl, hb⟩; refine ⟨_, rfl, ?_⟩; have n0_ := Aside0.mk (below_step (by repeat (first | (with_reducible first | exact HB.out | apply below_alloc | apply pw_below_drewN | apply below_drew1) | exact HB.out)) hb); clear HB; have HB := n0_; clear n0_; (try clear hb); (try clear hb2); (try clear hk); (try clear hi)) | ((with_reducible refine gate_callee (f := 91) rfl ?_); refine goesL_ (some 5) rfl rfl Tryd.func91 (by kernel_rfl) rfl #[.string t106, .string (⟨#[47]⟩ : ByteArray), .string (⟨#[37, 115]⟩ : ByteArray)] rfl (by (try simp only [List.map_toArray, List.map_cons, List.map_nil]); first | done | rfl | (simp only [List.length_drop, List.length_take]; rfl)) ?_; (with_reducible refine (strings_ReplaceAll.calls t106 (⟨#[47]⟩ : ByteArray) (⟨#[37, 115]⟩ : ByteArray) t107 _ A3.out).mono ?_); rintro e w5 ⟨rfl, hb⟩; refine ⟨_, rfl, ?_⟩; have n0_ := Aside0.mk (below_step (by repeat (first | (with_reducible first | exact HB.out | apply below_alloc | apply pw_below_drewN | apply below_drew1) | exact HB.out)) hb); clear HB; have HB := n0_; clear n0_; (try clear hb); (try clear hb2); (try clear hk); (try clear hi)))
  go_ret
  exact ⟨by first | rfl | (simp [errW_none, errW_some] <;> rfl) | (simp [*, errW_none, errW_some] <;> rfl), by repeat (first | (with_reducible first | exact HB.out | apply below_alloc | apply pw_below_drewN | apply below_drew1) | exact HB.out)⟩

/-! ### path_Join: function 16 -/
def path_Join.l0 : Nat → ByteArray → List ByteArray → Int → Int → Option (ByteArray)
  | 0, _, _, _, _ => none
  | k + 1, x5, x10, x11, x12 => if x12 < x11 then (if 0 ≤ x12 then (if x12 < (x10.length : Int) then ((path_hidden.f (rdOf ByteArray.empty x10 x12)).bind fun t110 => (if 1 + t110.size ≤ 9223372036854775807 then (if x5.size + ((⟨#[47]⟩ : ByteArray) ++ t110).size ≤ 9223372036854775807 then (path_Join.l0 k (x5 ++ ((⟨#[47]⟩ : ByteArray) ++ t110)) x10 x11 (wrap64 (x12 + 1))) else (none)) else (none))) else (none)) else (none)) else (some x5)
def path_Join.f (k : Nat) (a0 : ByteArray) (l1 : List ByteArray) : Option (ByteArray) := (path_hidden.f a0).bind fun t108 => (path_Join.l0 k t108 l1 (l1.length : Int) 0)
theorem path_Join.mono_l : ∀ k, (∀ y0 y1 y2 y3, LeO (path_Join.l0 k y0 y1 y2 y3) (path_Join.l0 (k + 1) y0 y1 y2 y3))
  | 0 => fun _ _ _ _ r h => by simp [path_Join.l0] at h
  | k + 1 => by
    have ih0 := path_Join.mono_l k
    · intro y0 y1 y2 y3
      unfold path_Join.l0
      repeat' first
      | (with_reducible exact ih0 _ _ _ _)
      | (with_reducible exact LeO.refl _)
      | (with_reducible exact LeO.none _)
      | (with_reducible refine LeO.ite ?_ ?_)
      | (with_reducible refine LeO.bind ?_ (fun _ => ?_))
      | exact ih0 _ _ _ _
      | exact LeO.none _
      | refine LeO.ite ?_ ?_
      | refine LeO.bind ?_ (fun _ => ?_)
theorem path_Join.mono : ∀ a0 a1 k, LeO (path_Join.f k a0 a1) (path_Join.f (k + 1) a0 a1) := by
  intro a0 a1 k
  have ih0 := path_Join.mono_l k
  unfold path_Join.f
  repeat' first
      | (with_reducible exact ih0 _ _ _ _)
      | (with_reducible exact LeO.refl _)
      | (with_reducible exact LeO.none _)
      | (with_reducible refine LeO.ite ?_ ?_)
      | (with_reducible refine LeO.bind ?_ (fun _ => ?_))
      | exact ih0 _ _ _ _
      | exact LeO.none _
      | refine LeO.ite ?_ ?_
      | refine LeO.bind ?_ (fun _ => ?_)
set_option maxHeartbeats 8000000 in
set_option maxRecDepth 100000 in
theorem path_Join.calls (k : Nat) (a0 : ByteArray) (A1 : Option Addr) (c1 : Nat) (l1 : List ByteArray) (r : ByteArray) (w : World) (hr1 : Kd.C Kd.string w A1 l1.length l1) (hc1 : l1.length ≤ c1) (h : path_Join.f k a0 l1 = some r) :
    Calls Tryd.prog 16 #[.string a0, .slice A1 l1.length c1] w fun e w' => e = .returned (.string r) ∧ Below w.heap.size w w' := by
  have HR1 := Aside0.mk hr1
  have HC1 := Aside0.mk hc1
  clear hr1 hc1
  have HB := Aside0.mk (Below.refl w.heap.size w)
  have H : ((path_hidden.f a0).bind fun t108 => (path_Join.l0 k t108 l1 (l1.length : Int) 0)) = some r := h
  clear h
  replace H := Option.bind_eq_some_iff.mp H
  obtain ⟨t108, A30, H⟩ := H
  replace H : (path_Join.l0 k t108 l1 (l1.length : Int) 0) = some r := H
  have A3 := Aside0.mk A30
  clear A30
  have H' := Aside0.mk H
  clear H
  go_enter Tryd.func16, Tryd.ntmps16
  go_wp2_with (first | ((with_reducible refine gate_callee (f := 56) rfl ?_); refine goesL_ (some 9) rfl rfl Tryd.func56 (by kernel_rfl) rfl #[.string a0] rfl (by (try simp only [List.map_toArray, List.map_cons, List.map_nil]); first | done | rfl | (simp only [List.length_drop, List.length_take]; rfl)) ?_; (with_reducible refine (path_hidden.calls a0 t108 _ A3.out).mono ?_); rintro e w4 ⟨rfl, hb⟩; refine ⟨_, rfl, ?_⟩; have n0_ := Aside0.mk (below_step (by repeat (first | (with_reducible first | exact HB.out | apply below_alloc | apply pw_below_drewN | apply below_drew1) | exact HB.out)) hb); clear HB; have HB := n0_; clear n0_; (try clear hb); (try clear hb2); (try clear hk); (try clear hi)))
  go_loopg [5, 12] k (fun kq v5 v12 w' => ∃ (x5_1 : ByteArray) (x12_1 : Int), v5 = .string x5_1 ∧ v12 = .int .i64 x12_1 ∧ Aside0 (path_Join.l0 kq x5_1 l1 (l1.length : Int) x12_1 = some r) ∧ Aside0 (kq ≤ k) ∧ Aside0 (Below w.heap.size w w'))
  case atStart => exact ⟨(t108), (0), (by first | rfl | (simp; done) | (simp [*]; done)), (by first | rfl | (simp; done) | (simp [*]; done)), H', ⟨Nat.le_refl _⟩, ⟨by repeat (first | (with_reducible first | exact HB.out | apply below_alloc | apply pw_below_drewN | apply below_drew1) | exact HB.out)⟩⟩
  case round =>
    clear H'
    try clear c1
    try clear p2
    obtain ⟨x5_1, x12_1, rfl, rfl, HA, HK1, HB⟩ := hrel
    cases gk with
    | zero => exact absurd HA.out (by simp [path_Join.l0])
    | succ k1 =>
      have H := HA.out
      clear HA
      simp only [path_Join.l0] at H
      by_cases c5 : x12_1 < (l1.length : Int)
      · rw [if_pos c5] at H
        have c5b0 : decide (x12_1 < (l1.length : Int)) = true := decide_eq_true c5
        clear c5
        by_cases c6 : 0 ≤ x12_1
        · rw [if_pos c6] at H
          have c6b0 : decide (0 ≤ x12_1) = true := decide_eq_true c6
          clear c6
          by_cases c7 : x12_1 < (l1.length : Int)
          · rw [if_pos c7] at H
            have c7b0 : decide (x12_1 < (l1.length : Int)) = true := decide_eq_true c7
            clear c7
            replace H := Option.bind_eq_some_iff.mp H
            obtain ⟨t110, A80, H⟩ := H
            replace H : (if 1 + t110.size ≤ 9223372036854775807 then (if x5_1.size + ((⟨#[47]⟩ : ByteArray) ++ t110).size ≤ 9223372036854775807 then (path_Join.l0 k1 (x5_1 ++ ((⟨#[47]⟩ : ByteArray) ++ t110)) l1 (l1.length : Int) (wrap64 (x12_1 + 1))) else (none)) else (none)) = some r := H
            have A8 := Aside0.mk A80
            clear A80
            by_cases c9 : 1 + t110.size ≤ 9223372036854775807
            · rw [if_pos c9] at H
              have c9b0 := eq_true c9
              have c9b1 : decide (1 + t110.size ≤ 9223372036854775807) = true := decide_eq_true c9
              try have c9b2 : (9223372036854775807 < 1 + t110.size) = False := eq_false (Nat.not_lt.2 c9)
              by_cases c10 : x5_1.size + ((⟨#[47]⟩ : ByteArray) ++ t110).size ≤ 9223372036854775807
              · rw [if_pos c10] at H
                have c10b0 := eq_true c10
                have c10b1 : decide (x5_1.size + ((⟨#[47]⟩ : ByteArray) ++ t110).size ≤ 9223372036854775807) = true := decide_eq_true c10
                try have c10b2 : (9223372036854775807 < x5_1.size + ((⟨#[47]⟩ : ByteArray) ++ t110).size) = False := eq_false (Nat.not_lt.2 c10)
                try (have c10b2_ := c10b2; simp only [ByteArray.size_append, my_lit_size, List.length_cons, List.length_nil, Nat.reduceAdd] at c10b2_)
                have H' := Aside0.mk H
                clear H
                have p109 : 0 ≤ (x12_1 : Int) := of_decide_eq_true (by first | (with_reducible assumption) | assumption)
                have q109 : x12_1 < (l1.length : Int) := of_decide_eq_true (by first | (with_reducible assumption) | assumption)
                obtain ⟨ad109, e109, hx109_0⟩ := Kd.at_string HR1.out x12_1 p109 q109
                cases e109
                replace hx109_0 := (HB.out.cell (World.block_lt_of_cell? w _ hx109_0)).trans hx109_0
                replace p109 := eq_true p109
                replace q109 := eq_true q109
                go_wp2_with (first | ((with_reducible refine gate_callee (f := 56) rfl ?_); refine goesL_ (some 18) rfl rfl Tryd.func56 (by kernel_rfl) rfl #[.string (rdOf ByteArray.empty l1 x12_1)] rfl (by (try simp only [List.map_toArray, List.map_cons, List.map_nil]); first | done | rfl | (simp only [List.length_drop, List.length_take]; rfl)) ?_; (with_reducible refine (path_hidden.calls (rdOf ByteArray.empty l1 x12_1) t110 _ A8.out).mono ?_); rintro e w11 ⟨rfl, hb⟩; refine ⟨_, rfl, ?_⟩; have n0_ := Aside0.mk (below_step (by repeat (first | (with_reducible first | exact HB.out | apply below_alloc | apply pw_below_drewN | apply below_drew1) | exact HB.out)) hb); clear HB; have HB := n0_; clear n0_; (try clear hb); (try clear hb2); (try clear hk); (try clear hi)))
                go_roundg k1
                case measure => have := HK1.out; omega
                case rel => exact ⟨(x5_1 ++ ((⟨#[47]⟩ : ByteArray) ++ t110)), (wrap64 (x12_1 + 1)), (by first | rfl | (simp; done) | (simp [*]; done)), (by first | rfl | (simp; done) | (simp [*]; done)), H', ⟨by have := HK1.out; omega⟩, ⟨by repeat (first | (with_reducible first | exact HB.out | apply below_alloc | apply pw_below_drewN | apply below_drew1) | exact HB.out)⟩⟩
              · rw [if_neg c10] at H
                exact absurd H (by simp)
            · rw [if_neg c9] at H
              exact absurd H (by simp)
          · rw [if_neg c7] at H
            exact absurd H (by simp)
        · rw [if_neg c6] at H
          exact absurd H (by simp)
      · rw [if_neg c5] at H
        have c5b0 : decide (x12_1 < (l1.length : Int)) = false := decide_eq_false c5
        clear c5
        obtain rfl := Option.some.inj H
        go_wp2
        go_ret
        exact ⟨by first | rfl | (simp [errW_none, errW_some] <;> rfl) | (simp [*, errW_none, errW_some] <;> rfl), by repeat (first | (with_reducible first | exact HB.out | apply below_alloc | apply pw_below_drewN | apply below_drew1) | exact HB.out)⟩

/-! ### footbridgeref01_Texts: function 18 -/
def footbridgeref01_Texts.l0 : Nat → List ByteArray → List ByteArray → Int → Option (Bool)
  | 0, _, _, _ => none
  | k + 1, x0, x1, x5 => if x5 < (x0.length : Int) then (if 0 ≤ x5 then (if x5 < (x1.length : Int) then (if (rdOf ByteArray.empty x0 x5).toList = (rdOf ByteArray.empty x1 x5).toList then (footbridgeref01_Texts.l0 k x0 x1 (wrap64 (x5 + 1))) else (some false)) else (none)) else (none)) else (some true)
def footbridgeref01_Texts.f (k : Nat) (l0 : List ByteArray) (l1 : List ByteArray) : Option (Bool) := if (l0.length : Int) = (l1.length : Int) then (footbridgeref01_Texts.l0 k l0 l1 0) else (some false)
theorem footbridgeref01_Texts.mono_l : ∀ k, (∀ y0 y1 y2, LeO (footbridgeref01_Texts.l0 k y0 y1 y2) (footbridgeref01_Texts.l0 (k + 1) y0 y1 y2))
  | 0 => fun _ _ _ r h => by simp [footbridgeref01_Texts.l0] at h
  | k + 1 => by
    have ih0 := footbridgeref01_Texts.mono_l k
    · intro y0 y1 y2
      unfold footbridgeref01_Texts.l0
      repeat' first
      | (with_reducible exact ih0 _ _ _)
      | (with_reducible exact LeO.refl _)
      | (with_reducible exact LeO.none _)
      | (with_reducible refine LeO.ite ?_ ?_)
      | (with_reducible refine LeO.bind ?_ (fun _ => ?_))
      | exact ih0 _ _ _
      | exact LeO.none _
      | refine LeO.ite ?_ ?_
      | refine LeO.bind ?_ (fun _ => ?_)
theorem footbridgeref01_Texts.mono : ∀ a0 a1 k, LeO (footbridgeref01_Texts.f k a0 a1) (footbridgeref01_Texts.f (k + 1) a0 a1) := by
  intro a0 a1 k
  have ih0 := footbridgeref01_Texts.mono_l k
  unfold footbridgeref01_Texts.f
  repeat' first
      | (with_reducible exact ih0 _ _ _)
      | (with_reducible exact LeO.refl _)
      | (with_reducible exact LeO.none _)
      | (with_reducible refine LeO.ite ?_ ?_)
      | (with_reducible refine LeO.bind ?_ (fun _ => ?_))
      | exact ih0 _ _ _
      | exact LeO.none _
      | refine LeO.ite ?_ ?_
      | refine LeO.bind ?_ (fun _ => ?_)
set_option maxHeartbeats 8000000 in
set_option maxRecDepth 100000 in
theorem footbridgeref01_Texts.calls (k : Nat) (A0 : Option Addr) (c0 : Nat) (l0 : List ByteArray) (A1 : Option Addr) (c1 : Nat) (l1 : List ByteArray) (r : Bool) (w : World) (hr0 : Kd.C Kd.string w A0 l0.length l0) (hc0 : l0.length ≤ c0) (hr1 : Kd.C Kd.string w A1 l1.length l1) (hc1 : l1.length ≤ c1) (h : footbridgeref01_Texts.f k l0 l1 = some r) :
    Calls Tryd.prog 18 #[.slice A0 l0.length c0, .slice A1 l1.length c1] w fun e w' => e = .returned (.bool r) ∧ Drawn0 w w' := by
  have HR0 := Aside0.mk hr0
  have HC0 := Aside0.mk hc0
  clear hr0 hc0
  have HR1 := Aside0.mk hr1
  have HC1 := Aside0.mk hc1
  clear hr1 hc1
  have H : (if (l0.length : Int) = (l1.length : Int) then (footbridgeref01_Texts.l0 k l0 l1 0) else (some false)) = some r := h
  clear h
  by_cases c3 : (l0.length : Int) = (l1.length : Int)
  · rw [if_pos c3] at H
    have c3b0 : ((l0.length : Int) == (l1.length : Int)) = true := beq_iff_eq.mpr c3
    have c3b1 : ((l0.length : Int) != (l1.length : Int)) = false := bne_eq_false_iff_eq.mpr c3
    have c3b2 : (l0.length == l1.length) = true := by first | simpa using c3 | (simp at c3 ⊢; omega)
    clear c3
    have H' := Aside0.mk H
    clear H
    go_enter Tryd.func18, Tryd.ntmps18
    go_wp2
    repeat (go_quiet (fail); try go_wp2)
    go_loopg [5] k (fun kq v5 w' => ∃ (x5_1 : Int), v5 = .int .i64 x5_1 ∧ Aside0 (footbridgeref01_Texts.l0 kq l0 l1 x5_1 = some r) ∧ Aside0 (kq ≤ k) ∧ Drawn0 w w')
    case atStart => exact ⟨(0), (by first | rfl | (simp; done) | (simp [*]; done)), H', ⟨Nat.le_refl _⟩, by repeat (first | exact Drawn0.refl _ | apply Drawn0.step)⟩
    case round =>
      clear H'
      try clear c1
      try clear p2
      try clear c3
      try clear c3b0
      try clear c3b1
      try clear c3b2
      obtain ⟨x5_1, rfl, HA, HK1, ⟨m1, rfl⟩⟩ := hrel
      cases gk with
      | zero => exact absurd HA.out (by simp [footbridgeref01_Texts.l0])
      | succ k1 =>
        have H := HA.out
        clear HA
        simp only [footbridgeref01_Texts.l0] at H
        by_cases c4 : x5_1 < (l0.length : Int)
        · rw [if_pos c4] at H
          have c4b0 : decide (x5_1 < (l0.length : Int)) = true := decide_eq_true c4
          clear c4
          by_cases c5 : 0 ≤ x5_1
          · rw [if_pos c5] at H
            have c5b0 : decide (0 ≤ x5_1) = true := decide_eq_true c5
            clear c5
            by_cases c6 : x5_1 < (l1.length : Int)
            · rw [if_pos c6] at H
              have c6b0 : decide (x5_1 < (l1.length : Int)) = true := decide_eq_true c6
              clear c6
              by_cases c7 : (rdOf ByteArray.empty l0 x5_1).toList = (rdOf ByteArray.empty l1 x5_1).toList
              · rw [if_pos c7] at H
                have c7b0 : ((rdOf ByteArray.empty l0 x5_1).toList == (rdOf ByteArray.empty l1 x5_1).toList) = true := beq_iff_eq.mpr c7
                have c7b1 : ((rdOf ByteArray.empty l0 x5_1).toList != (rdOf ByteArray.empty l1 x5_1).toList) = false := bne_eq_false_iff_eq.mpr c7
                clear c7
                have H' := Aside0.mk H
                clear H
                have p111 : 0 ≤ (x5_1 : Int) := of_decide_eq_true (by first | (with_reducible assumption) | assumption)
                have q111 : x5_1 < (l0.length : Int) := of_decide_eq_true (by first | (with_reducible assumption) | assumption)
                obtain ⟨ad111, e111, hx111_0⟩ := Kd.at_string HR0.out x5_1 p111 q111
                cases e111
                replace p111 := eq_true p111
                replace q111 := eq_true q111
                have p112 : 0 ≤ (x5_1 : Int) := of_decide_eq_true (by first | (with_reducible assumption) | assumption)
                have q112 : x5_1 < (l1.length : Int) := of_decide_eq_true (by first | (with_reducible assumption) | assumption)
                obtain ⟨ad112, e112, hx112_0⟩ := Kd.at_string HR1.out x5_1 p112 q112
                cases e112
                replace p112 := eq_true p112
                replace q112 := eq_true q112
                go_wp2
                repeat (go_quiet (fail); try go_wp2)
                go_roundg k1
                case measure => have := HK1.out; omega
                case rel => exact ⟨(wrap64 (x5_1 + 1)), (by first | rfl | (simp; done) | (simp [*]; done)), H', ⟨by have := HK1.out; omega⟩, by repeat (first | exact Drawn0.refl _ | apply Drawn0.step)⟩
              · rw [if_neg c7] at H
                have c7b0 : ((rdOf ByteArray.empty l0 x5_1).toList == (rdOf ByteArray.empty l1 x5_1).toList) = false := beq_eq_false_iff_ne.mpr c7
                have c7b1 : ((rdOf ByteArray.empty l0 x5_1).toList != (rdOf ByteArray.empty l1 x5_1).toList) = true := bne_iff_ne.mpr c7
                obtain rfl := Option.some.inj H
                have p111 : 0 ≤ (x5_1 : Int) := of_decide_eq_true (by first | (with_reducible assumption) | assumption)
                have q111 : x5_1 < (l0.length : Int) := of_decide_eq_true (by first | (with_reducible assumption) | assumption)
                obtain ⟨ad111, e111, hx111_0⟩ := Kd.at_string HR0.out x5_1 p111 q111
                cases e111
                replace p111 := eq_true p111
                replace q111 := eq_true q111
                have p112 : 0 ≤ (x5_1 : Int) := of_decide_eq_true (by first | (with_reducible assumption) | assumption)
                have q112 : x5_1 < (l1.length : Int) := of_decide_eq_true (by first | (with_reducible assumption) | assumption)
                obtain ⟨ad112, e112, hx112_0⟩ := Kd.at_string HR1.out x5_1 p112 q112
                cases e112
                replace p112 := eq_true p112
                replace q112 := eq_true q112
                go_wp2
                repeat (go_quiet (fail); try go_wp2)
                go_ret
                exact ⟨by first | rfl | (simp; done) | (simp [*]; done), by repeat (first | exact Drawn0.refl _ | apply Drawn0.step)⟩
            · rw [if_neg c6] at H
              exact absurd H (by simp)
          · rw [if_neg c5] at H
            exact absurd H (by simp)
        · rw [if_neg c4] at H
          have c4b0 : decide (x5_1 < (l0.length : Int)) = false := decide_eq_false c4
          clear c4
          obtain rfl := Option.some.inj H
          go_wp2
          repeat (go_quiet (fail); try go_wp2)
          go_ret
          exact ⟨by first | rfl | (simp; done) | (simp [*]; done), by repeat (first | exact Drawn0.refl _ | apply Drawn0.step)⟩
  · rw [if_neg c3] at H
    have c3b0 : ((l0.length : Int) == (l1.length : Int)) = false := beq_eq_false_iff_ne.mpr c3
    have c3b1 : ((l0.length : Int) != (l1.length : Int)) = true := bne_iff_ne.mpr c3
    have c3b2 : (l0.length == l1.length) = false := by first | simpa using c3 | (simp at c3 ⊢; omega)
    obtain rfl := Option.some.inj H
    go_enter Tryd.func18, Tryd.ntmps18
    go_wp2
    repeat (go_quiet (fail); try go_wp2)
    go_ret
    exact ⟨by first | rfl | (simp; done) | (simp [*]; done), by repeat (first | exact Drawn0.refl _ | apply Drawn0.step)⟩

/-! ### path_Number: function 19 -/
/-- A number's last k digits, in decimal. -/
def numL : Nat → Nat → List Int
  | 0, _ => []
  | k + 1, n => numL k (n / 10) ++ [((48 + n % 10 : Nat) : Int)]
def path_Number.f (a0 : Int) : Option ByteArray := some (strOfNums (numL 14 (if a0 < 0 then 0 else if 99999999999999 < a0 then 99999999999999 else a0.toNat)))
theorem numRow_set (j : Nat) (t : List Int) (v : Int) : ((List.replicate (j + 1) (Value.int .u8 0) ++ nums .u8 t).toArray).setIfInBounds j (.int .u8 v) = (List.replicate j (Value.int .u8 0) ++ nums .u8 (v :: t)).toArray := by
  rw [List.setIfInBounds_toArray, List.replicate_succ', List.append_assoc]
  congr 1
  rw [List.set_append_right _ _ (by simp)]
  simp [nums]
set_option maxHeartbeats 1000000 in
set_option maxRecDepth 100000 in
theorem path_Number.calls (a0 : Int) (r : ByteArray) (w : World) (h : path_Number.f a0 = some r) :
    Calls Tryd.prog 19 #[.int .i64 a0] w fun e w' => e = .returned (.string r) ∧ Below w.heap.size w w' := by
  unfold path_Number.f at h
  obtain rfl := Option.some.inj h
  clear h
  have HB := Aside0.mk (Below.refl w.heap.size w)
  obtain ⟨n0, hn0, hn1⟩ : ∃ n0 : Nat, (if a0 < 0 then 0 else if 99999999999999 < a0 then 99999999999999 else a0.toNat) = n0 ∧ n0 ≤ 99999999999999 := ⟨_, rfl, by split <;> (try split) <;> omega⟩
  have hmm : mx 0 (mn a0 99999999999999) = (n0 : Int) := by
    unfold mx mn
    rw [← hn0]
    split <;> split <;> (try split) <;> (try split) <;> omega
  rw [hn0]
  clear hn0
  have hmm2 : (if 0 < (if 99999999999999 < a0 then 99999999999999 else a0) then (if 99999999999999 < a0 then 99999999999999 else a0) else 0) = (n0 : Int) := hmm
  replace hmm := Aside0.mk hmm
  go_enter Tryd.func19, Tryd.ntmps19
  go_wp2_with (first | ((with_reducible refine gate_dst (N := 3) rfl ?_); (try (refine gate_guard (by rfl) ?_; dsimp only)); refine box_event ?hg (N := 3) ?hd (cs := (List.replicate 14 (Value.int .u8 0)).toArray) (t := 90) ?hr ?_; (case hd => rfl); (case hg => rfl); (case hr => first | (go_simp; done) | (go_simp; rfl)); intro gb hg w1 hbox hb; have n0_ := Aside0.mk (below_step (by repeat (first | exact HB.out | apply pw_below_drewN | apply below_drew1)) hb); have BK := Aside0.mk hbox; have GE := Aside0.mk ((by rw [hg]; exact (below_size (by repeat (first | exact HB.out | apply pw_below_drewN | apply below_drew1))) : w.heap.size ≤ gb)); clear HB; have HB := n0_; clear n0_ hb hbox hg) | fail)
  all_goals
    clear hmm2
    go_loopg [0, 4] 14 (fun g s0 s4 wx => ∃ (n : Nat) (i : Int) (t : List Int), s0 = .int .i64 n ∧ s4 = .int .i64 i ∧ i + 1 = g ∧ g ≤ 14 ∧ n ≤ 99999999999999 ∧ Aside0 (wx.heap[gb]? = some (.cells (List.replicate g (Value.int .u8 0) ++ nums .u8 t).toArray 90 (0, 0))) ∧ Aside0 (Below w.heap.size w wx) ∧ Aside0 (numL g n ++ t = numL 14 n0))
    case atStart => exact ⟨n0, 13, [], rfl, rfl, rfl, Nat.le_refl _, hn1, ⟨by rw [BK.out]; rfl⟩, HB, ⟨by simp⟩⟩
    case round =>
      clear BK HB
      obtain ⟨n, i, t, rfl, rfl, hig, hg14, hn, BK, HB, HR⟩ := hrel
      cases gk with
      | zero =>
        have hi : i = -1 := by omega
        subst hi
        have hlen : (numL 14 n0).length = 14 := rfl
        have ht : t = numL 14 n0 := HR.out
        have kc := run_convert_bytes_arg (P := Tryd.prog) wr 91 5 Tryd.underlying91 Tryd.underlying5 gb 0 14 14 (numL 14 n0) hlen (fun i hi => by
          rw [Nat.zero_add]
          refine (blk_cell BK.out i).trans ?_
          subst ht
          rw [List.replicate_zero, List.nil_append, List.getElem?_toArray]
          unfold nums
          rw [List.getElem?_map, List.getElem?_eq_getElem (by omega), List.getD_eq_getElem?_getD, List.getElem?_eq_getElem (by omega)]
          rfl) 9 Tryd.underlying9
        go_wp2
        go_ret
        exact ⟨rfl, HB.out⟩
      | succ g =>
        have hi : i = (g : Int) := by omega
        subst hi
        have hg0 : (0 : Int) ≤ (g : Int) := by omega
        have hg1 : (g : Int) < 14 := by omega
        have hz := blk_frozen BK.out g
        have hcell : wr.cell? ⟨gb, g, none⟩ = some (.int .u8 0) := (blk_cell BK.out g).trans (by rw [List.getElem?_toArray, List.getElem?_append_left (by simp), List.getElem?_replicate, if_pos (by omega)])
        go_wp2
        go_roundg g
        case measure => omega
        case rel => exact ⟨n / 10, (g : Int) - 1, (48 + (n : Int) % 10) :: t, by first | rfl | (simp; done), rfl, by omega, by omega, by omega, ⟨blk_put BK.out g _ (numRow_set g t _)⟩, ⟨below_set HB.out GE.out⟩, ⟨by rw [← HR.out, numL, List.append_assoc]; simp⟩⟩

/-! ### footbridgelaw08_awake: function 13 -/
def footbridgelaw08_awake.f (k : Nat)  : Option (Bool) := (path_Split.f (⟨#[116, 111, 107, 101, 110, 47, 97, 37, 115, 98, 47, 99]⟩ : ByteArray)).bind fun bt113 => ((path_Split.f (⟨#[97, 37]⟩ : ByteArray)).bind fun bt118 => ((path_Split.f (⟨#[]⟩ : ByteArray)).bind fun bt123 => ((path_Join.f k (⟨#[116, 111, 107, 101, 110]⟩ : ByteArray) (([(⟨#[97, 47, 98]⟩ : ByteArray), (⟨#[99]⟩ : ByteArray)] : List ByteArray))).bind fun t131 => (if t131.toList = ([116, 111, 107, 101, 110, 47, 97, 37, 115, 98, 47, 99] : List UInt8) then (if bt113.1.toList = ([116, 111, 107, 101, 110] : List UInt8) then ((footbridgeref01_Texts.f k bt113.2.1 (([(⟨#[97, 47, 98]⟩ : ByteArray), (⟨#[99]⟩ : ByteArray)] : List ByteArray))).bind fun t135 => (if t135 = true then (if bt113.2.2 = 0 then (if bt118.2.2 = 6 then (if bt123.1.toList = ([] : List UInt8) then (if (bt123.2.1.length : Int) = 0 then (if bt123.2.2 = 0 then ((path_Join.f k (⟨#[37]⟩ : ByteArray) ([] : List ByteArray)).bind fun t136 => (if t136.toList = ([37, 112] : List UInt8) then ((path_Number.f 7).bind fun t137 => (if t137.toList = ([48, 48, 48, 48, 48, 48, 48, 48, 48, 48, 48, 48, 48, 55] : List UInt8) then ((path_Number.f (-1)).bind fun t138 => (some (t138.toList == ([48, 48, 48, 48, 48, 48, 48, 48, 48, 48, 48, 48, 48, 48] : List UInt8)))) else (none))) else (none))) else (none)) else (none)) else (none)) else (none)) else (none)) else (none))) else (none)) else (none)))))
theorem footbridgelaw08_awake.mono : ∀ k, LeO (footbridgelaw08_awake.f k ) (footbridgelaw08_awake.f (k + 1) ) := by
  intro  k
  unfold footbridgelaw08_awake.f
  repeat' first
      | (with_reducible exact footbridgeref01_Texts.mono _ _ _)
      | (with_reducible exact path_Join.mono _ _ _)
      | (with_reducible exact LeO.refl _)
      | (with_reducible exact LeO.none _)
      | (with_reducible refine LeO.ite ?_ ?_)
      | (with_reducible refine LeO.bind ?_ (fun _ => ?_))
      | exact footbridgeref01_Texts.mono _ _ _
      | exact path_Join.mono _ _ _
      | exact LeO.none _
      | refine LeO.ite ?_ ?_
      | refine LeO.bind ?_ (fun _ => ?_)
set_option maxHeartbeats 8000000 in
set_option maxRecDepth 100000 in
theorem footbridgelaw08_awake.calls (k : Nat)  (r : Bool) (w : World) (h : footbridgelaw08_awake.f k  = some r) :
    Calls Tryd.prog 13 #[] w fun e w' => e = .returned (.bool r) ∧ Below w.heap.size w w' := by
  have HB := Aside0.mk (Below.refl w.heap.size w)
  have H : ((path_Split.f (⟨#[116, 111, 107, 101, 110, 47, 97, 37, 115, 98, 47, 99]⟩ : ByteArray)).bind fun bt113 => ((path_Split.f (⟨#[97, 37]⟩ : ByteArray)).bind fun bt118 => ((path_Split.f (⟨#[]⟩ : ByteArray)).bind fun bt123 => ((path_Join.f k (⟨#[116, 111, 107, 101, 110]⟩ : ByteArray) (([(⟨#[97, 47, 98]⟩ : ByteArray), (⟨#[99]⟩ : ByteArray)] : List ByteArray))).bind fun t131 => (if t131.toList = ([116, 111, 107, 101, 110, 47, 97, 37, 115, 98, 47, 99] : List UInt8) then (if bt113.1.toList = ([116, 111, 107, 101, 110] : List UInt8) then ((footbridgeref01_Texts.f k bt113.2.1 (([(⟨#[97, 47, 98]⟩ : ByteArray), (⟨#[99]⟩ : ByteArray)] : List ByteArray))).bind fun t135 => (if t135 = true then (if bt113.2.2 = 0 then (if bt118.2.2 = 6 then (if bt123.1.toList = ([] : List UInt8) then (if (bt123.2.1.length : Int) = 0 then (if bt123.2.2 = 0 then ((path_Join.f k (⟨#[37]⟩ : ByteArray) ([] : List ByteArray)).bind fun t136 => (if t136.toList = ([37, 112] : List UInt8) then ((path_Number.f 7).bind fun t137 => (if t137.toList = ([48, 48, 48, 48, 48, 48, 48, 48, 48, 48, 48, 48, 48, 55] : List UInt8) then ((path_Number.f (-1)).bind fun t138 => (some (t138.toList == ([48, 48, 48, 48, 48, 48, 48, 48, 48, 48, 48, 48, 48, 48] : List UInt8)))) else (none))) else (none))) else (none)) else (none)) else (none)) else (none)) else (none)) else (none))) else (none)) else (none)))))) = some r := h
  clear h
  replace H := Option.bind_eq_some_iff.mp H
  obtain ⟨⟨t113, t114, t115⟩, A10, H⟩ := H
  replace H : ((path_Split.f (⟨#[97, 37]⟩ : ByteArray)).bind fun bt118 => ((path_Split.f (⟨#[]⟩ : ByteArray)).bind fun bt123 => ((path_Join.f k (⟨#[116, 111, 107, 101, 110]⟩ : ByteArray) (([(⟨#[97, 47, 98]⟩ : ByteArray), (⟨#[99]⟩ : ByteArray)] : List ByteArray))).bind fun t131 => (if t131.toList = ([116, 111, 107, 101, 110, 47, 97, 37, 115, 98, 47, 99] : List UInt8) then (if t113.toList = ([116, 111, 107, 101, 110] : List UInt8) then ((footbridgeref01_Texts.f k t114 (([(⟨#[97, 47, 98]⟩ : ByteArray), (⟨#[99]⟩ : ByteArray)] : List ByteArray))).bind fun t135 => (if t135 = true then (if t115 = 0 then (if bt118.2.2 = 6 then (if bt123.1.toList = ([] : List UInt8) then (if (bt123.2.1.length : Int) = 0 then (if bt123.2.2 = 0 then ((path_Join.f k (⟨#[37]⟩ : ByteArray) ([] : List ByteArray)).bind fun t136 => (if t136.toList = ([37, 112] : List UInt8) then ((path_Number.f 7).bind fun t137 => (if t137.toList = ([48, 48, 48, 48, 48, 48, 48, 48, 48, 48, 48, 48, 48, 55] : List UInt8) then ((path_Number.f (-1)).bind fun t138 => (some (t138.toList == ([48, 48, 48, 48, 48, 48, 48, 48, 48, 48, 48, 48, 48, 48] : List UInt8)))) else (none))) else (none))) else (none)) else (none)) else (none)) else (none)) else (none)) else (none))) else (none)) else (none))))) = some r := H
  have A1 := Aside0.mk A10
  clear A10
  replace H := Option.bind_eq_some_iff.mp H
  obtain ⟨⟨t118, t119, t120⟩, A20, H⟩ := H
  replace H : ((path_Split.f (⟨#[]⟩ : ByteArray)).bind fun bt123 => ((path_Join.f k (⟨#[116, 111, 107, 101, 110]⟩ : ByteArray) (([(⟨#[97, 47, 98]⟩ : ByteArray), (⟨#[99]⟩ : ByteArray)] : List ByteArray))).bind fun t131 => (if t131.toList = ([116, 111, 107, 101, 110, 47, 97, 37, 115, 98, 47, 99] : List UInt8) then (if t113.toList = ([116, 111, 107, 101, 110] : List UInt8) then ((footbridgeref01_Texts.f k t114 (([(⟨#[97, 47, 98]⟩ : ByteArray), (⟨#[99]⟩ : ByteArray)] : List ByteArray))).bind fun t135 => (if t135 = true then (if t115 = 0 then (if t120 = 6 then (if bt123.1.toList = ([] : List UInt8) then (if (bt123.2.1.length : Int) = 0 then (if bt123.2.2 = 0 then ((path_Join.f k (⟨#[37]⟩ : ByteArray) ([] : List ByteArray)).bind fun t136 => (if t136.toList = ([37, 112] : List UInt8) then ((path_Number.f 7).bind fun t137 => (if t137.toList = ([48, 48, 48, 48, 48, 48, 48, 48, 48, 48, 48, 48, 48, 55] : List UInt8) then ((path_Number.f (-1)).bind fun t138 => (some (t138.toList == ([48, 48, 48, 48, 48, 48, 48, 48, 48, 48, 48, 48, 48, 48] : List UInt8)))) else (none))) else (none))) else (none)) else (none)) else (none)) else (none)) else (none)) else (none))) else (none)) else (none)))) = some r := H
  have A2 := Aside0.mk A20
  clear A20
  replace H := Option.bind_eq_some_iff.mp H
  obtain ⟨⟨t123, t124, t125⟩, A30, H⟩ := H
  replace H : ((path_Join.f k (⟨#[116, 111, 107, 101, 110]⟩ : ByteArray) (([(⟨#[97, 47, 98]⟩ : ByteArray), (⟨#[99]⟩ : ByteArray)] : List ByteArray))).bind fun t131 => (if t131.toList = ([116, 111, 107, 101, 110, 47, 97, 37, 115, 98, 47, 99] : List UInt8) then (if t113.toList = ([116, 111, 107, 101, 110] : List UInt8) then ((footbridgeref01_Texts.f k t114 (([(⟨#[97, 47, 98]⟩ : ByteArray), (⟨#[99]⟩ : ByteArray)] : List ByteArray))).bind fun t135 => (if t135 = true then (if t115 = 0 then (if t120 = 6 then (if t123.toList = ([] : List UInt8) then (if (t124.length : Int) = 0 then (if t125 = 0 then ((path_Join.f k (⟨#[37]⟩ : ByteArray) ([] : List ByteArray)).bind fun t136 => (if t136.toList = ([37, 112] : List UInt8) then ((path_Number.f 7).bind fun t137 => (if t137.toList = ([48, 48, 48, 48, 48, 48, 48, 48, 48, 48, 48, 48, 48, 55] : List UInt8) then ((path_Number.f (-1)).bind fun t138 => (some (t138.toList == ([48, 48, 48, 48, 48, 48, 48, 48, 48, 48, 48, 48, 48, 48] : List UInt8)))) else (none))) else (none))) else (none)) else (none)) else (none)) else (none)) else (none)) else (none))) else (none)) else (none))) = some r := H
  have A3 := Aside0.mk A30
  clear A30
  obtain ⟨y128, hy128⟩ : ∃ y_ : List ByteArray, y_ = (([(⟨#[97, 47, 98]⟩ : ByteArray), (⟨#[99]⟩ : ByteArray)] : List ByteArray)) := ⟨_, rfl⟩
  replace H : ((path_Join.f k (⟨#[116, 111, 107, 101, 110]⟩ : ByteArray) y128).bind fun t131 => (if t131.toList = ([116, 111, 107, 101, 110, 47, 97, 37, 115, 98, 47, 99] : List UInt8) then (if t113.toList = ([116, 111, 107, 101, 110] : List UInt8) then ((footbridgeref01_Texts.f k t114 (([(⟨#[97, 47, 98]⟩ : ByteArray), (⟨#[99]⟩ : ByteArray)] : List ByteArray))).bind fun t135 => (if t135 = true then (if t115 = 0 then (if t120 = 6 then (if t123.toList = ([] : List UInt8) then (if (t124.length : Int) = 0 then (if t125 = 0 then ((path_Join.f k (⟨#[37]⟩ : ByteArray) ([] : List ByteArray)).bind fun t136 => (if t136.toList = ([37, 112] : List UInt8) then ((path_Number.f 7).bind fun t137 => (if t137.toList = ([48, 48, 48, 48, 48, 48, 48, 48, 48, 48, 48, 48, 48, 55] : List UInt8) then ((path_Number.f (-1)).bind fun t138 => (some (t138.toList == ([48, 48, 48, 48, 48, 48, 48, 48, 48, 48, 48, 48, 48, 48] : List UInt8)))) else (none))) else (none))) else (none)) else (none)) else (none)) else (none)) else (none)) else (none))) else (none)) else (none))) = some r := by first | (rw [hy128]; with_reducible exact H) | (have H2_ := (Option.bind_some _ _).symm.trans H; rw [hy128]; with_reducible exact H2_) | (have H2_ := (Option.bind_some _ _).symm.trans H; with_reducible exact H2_) | with_reducible exact H | (rw [hy128]; exact H) | exact H
  have Ny128 := Aside0.mk hy128
  clear hy128
  replace H := Option.bind_eq_some_iff.mp H
  obtain ⟨t131, A40, H⟩ := H
  replace H : (if t131.toList = ([116, 111, 107, 101, 110, 47, 97, 37, 115, 98, 47, 99] : List UInt8) then (if t113.toList = ([116, 111, 107, 101, 110] : List UInt8) then ((footbridgeref01_Texts.f k t114 (([(⟨#[97, 47, 98]⟩ : ByteArray), (⟨#[99]⟩ : ByteArray)] : List ByteArray))).bind fun t135 => (if t135 = true then (if t115 = 0 then (if t120 = 6 then (if t123.toList = ([] : List UInt8) then (if (t124.length : Int) = 0 then (if t125 = 0 then ((path_Join.f k (⟨#[37]⟩ : ByteArray) ([] : List ByteArray)).bind fun t136 => (if t136.toList = ([37, 112] : List UInt8) then ((path_Number.f 7).bind fun t137 => (if t137.toList = ([48, 48, 48, 48, 48, 48, 48, 48, 48, 48, 48, 48, 48, 55] : List UInt8) then ((path_Number.f (-1)).bind fun t138 => (some (t138.toList == ([48, 48, 48, 48, 48, 48, 48, 48, 48, 48, 48, 48, 48, 48] : List UInt8)))) else (none))) else (none))) else (none)) else (none)) else (none)) else (none)) else (none)) else (none))) else (none)) else (none)) = some r := H
  have A4 := Aside0.mk A40
  clear A40
  by_cases c5 : t131.toList = ([116, 111, 107, 101, 110, 47, 97, 37, 115, 98, 47, 99] : List UInt8)
  · rw [if_pos c5] at H
    have c5b0 : (t131.toList == ([116, 111, 107, 101, 110, 47, 97, 37, 115, 98, 47, 99] : List UInt8)) = true := beq_iff_eq.mpr c5
    have c5b1 : (t131.toList != ([116, 111, 107, 101, 110, 47, 97, 37, 115, 98, 47, 99] : List UInt8)) = false := bne_eq_false_iff_eq.mpr c5
    clear c5
    by_cases c6 : t113.toList = ([116, 111, 107, 101, 110] : List UInt8)
    · rw [if_pos c6] at H
      have c6b0 : (t113.toList == ([116, 111, 107, 101, 110] : List UInt8)) = true := beq_iff_eq.mpr c6
      have c6b1 : (t113.toList != ([116, 111, 107, 101, 110] : List UInt8)) = false := bne_eq_false_iff_eq.mpr c6
      clear c6
      obtain ⟨y132, hy132⟩ : ∃ y_ : List ByteArray, y_ = (([(⟨#[97, 47, 98]⟩ : ByteArray), (⟨#[99]⟩ : ByteArray)] : List ByteArray)) := ⟨_, rfl⟩
      replace H : ((footbridgeref01_Texts.f k t114 y132).bind fun t135 => (if t135 = true then (if t115 = 0 then (if t120 = 6 then (if t123.toList = ([] : List UInt8) then (if (t124.length : Int) = 0 then (if t125 = 0 then ((path_Join.f k (⟨#[37]⟩ : ByteArray) ([] : List ByteArray)).bind fun t136 => (if t136.toList = ([37, 112] : List UInt8) then ((path_Number.f 7).bind fun t137 => (if t137.toList = ([48, 48, 48, 48, 48, 48, 48, 48, 48, 48, 48, 48, 48, 55] : List UInt8) then ((path_Number.f (-1)).bind fun t138 => (some (t138.toList == ([48, 48, 48, 48, 48, 48, 48, 48, 48, 48, 48, 48, 48, 48] : List UInt8)))) else (none))) else (none))) else (none)) else (none)) else (none)) else (none)) else (none)) else (none))) = some r := by first | (rw [hy132]; with_reducible exact H) | (have H2_ := (Option.bind_some _ _).symm.trans H; rw [hy132]; with_reducible exact H2_) | (have H2_ := (Option.bind_some _ _).symm.trans H; with_reducible exact H2_) | with_reducible exact H | (rw [hy132]; exact H) | exact H
      have Ny132 := Aside0.mk hy132
      clear hy132
      replace H := Option.bind_eq_some_iff.mp H
      obtain ⟨t135, A70, H⟩ := H
      replace H : (if t135 = true then (if t115 = 0 then (if t120 = 6 then (if t123.toList = ([] : List UInt8) then (if (t124.length : Int) = 0 then (if t125 = 0 then ((path_Join.f k (⟨#[37]⟩ : ByteArray) ([] : List ByteArray)).bind fun t136 => (if t136.toList = ([37, 112] : List UInt8) then ((path_Number.f 7).bind fun t137 => (if t137.toList = ([48, 48, 48, 48, 48, 48, 48, 48, 48, 48, 48, 48, 48, 55] : List UInt8) then ((path_Number.f (-1)).bind fun t138 => (some (t138.toList == ([48, 48, 48, 48, 48, 48, 48, 48, 48, 48, 48, 48, 48, 48] : List UInt8)))) else (none))) else (none))) else (none)) else (none)) else (none)) else (none)) else (none)) else (none)) = some r := H
      have A7 := Aside0.mk A70
      clear A70
      by_cases c8 : t135 = true
      · subst c8
        have H1 : (if t115 = 0 then (if t120 = 6 then (if t123.toList = ([] : List UInt8) then (if (t124.length : Int) = 0 then (if t125 = 0 then ((path_Join.f k (⟨#[37]⟩ : ByteArray) ([] : List ByteArray)).bind fun t136 => (if t136.toList = ([37, 112] : List UInt8) then ((path_Number.f 7).bind fun t137 => (if t137.toList = ([48, 48, 48, 48, 48, 48, 48, 48, 48, 48, 48, 48, 48, 55] : List UInt8) then ((path_Number.f (-1)).bind fun t138 => (some (t138.toList == ([48, 48, 48, 48, 48, 48, 48, 48, 48, 48, 48, 48, 48, 48] : List UInt8)))) else (none))) else (none))) else (none)) else (none)) else (none)) else (none)) else (none)) = some r := by rw [if_pos rfl] at H; exact H
        clear H
        have H := H1
        clear H1
        by_cases c9 : t115 = 0
        · rw [if_pos c9] at H
          have c9b0 : (t115 == 0) = true := beq_iff_eq.mpr c9
          have c9b1 : (t115 != 0) = false := bne_eq_false_iff_eq.mpr c9
          clear c9
          by_cases c10 : t120 = 6
          · rw [if_pos c10] at H
            have c10b0 : (t120 == 6) = true := beq_iff_eq.mpr c10
            have c10b1 : (t120 != 6) = false := bne_eq_false_iff_eq.mpr c10
            clear c10
            by_cases c11 : t123.toList = ([] : List UInt8)
            · rw [if_pos c11] at H
              have c11b0 : (t123.toList == ([] : List UInt8)) = true := beq_iff_eq.mpr c11
              have c11b1 : (t123.toList != ([] : List UInt8)) = false := bne_eq_false_iff_eq.mpr c11
              clear c11
              by_cases c12 : (t124.length : Int) = 0
              · rw [if_pos c12] at H
                have c12b0 : ((t124.length : Int) == 0) = true := beq_iff_eq.mpr c12
                have c12b1 : ((t124.length : Int) != 0) = false := bne_eq_false_iff_eq.mpr c12
                clear c12
                by_cases c13 : t125 = 0
                · rw [if_pos c13] at H
                  have c13b0 : (t125 == 0) = true := beq_iff_eq.mpr c13
                  have c13b1 : (t125 != 0) = false := bne_eq_false_iff_eq.mpr c13
                  clear c13
                  replace H := Option.bind_eq_some_iff.mp H
                  obtain ⟨t136, A140, H⟩ := H
                  replace H : (if t136.toList = ([37, 112] : List UInt8) then ((path_Number.f 7).bind fun t137 => (if t137.toList = ([48, 48, 48, 48, 48, 48, 48, 48, 48, 48, 48, 48, 48, 55] : List UInt8) then ((path_Number.f (-1)).bind fun t138 => (some (t138.toList == ([48, 48, 48, 48, 48, 48, 48, 48, 48, 48, 48, 48, 48, 48] : List UInt8)))) else (none))) else (none)) = some r := H
                  have A14 := Aside0.mk A140
                  clear A140
                  by_cases c15 : t136.toList = ([37, 112] : List UInt8)
                  · rw [if_pos c15] at H
                    have c15b0 : (t136.toList == ([37, 112] : List UInt8)) = true := beq_iff_eq.mpr c15
                    have c15b1 : (t136.toList != ([37, 112] : List UInt8)) = false := bne_eq_false_iff_eq.mpr c15
                    clear c15
                    replace H := Option.bind_eq_some_iff.mp H
                    obtain ⟨t137, A160, H⟩ := H
                    replace H : (if t137.toList = ([48, 48, 48, 48, 48, 48, 48, 48, 48, 48, 48, 48, 48, 55] : List UInt8) then ((path_Number.f (-1)).bind fun t138 => (some (t138.toList == ([48, 48, 48, 48, 48, 48, 48, 48, 48, 48, 48, 48, 48, 48] : List UInt8)))) else (none)) = some r := H
                    have A16 := Aside0.mk A160
                    clear A160
                    by_cases c17 : t137.toList = ([48, 48, 48, 48, 48, 48, 48, 48, 48, 48, 48, 48, 48, 55] : List UInt8)
                    · rw [if_pos c17] at H
                      have c17b0 : (t137.toList == ([48, 48, 48, 48, 48, 48, 48, 48, 48, 48, 48, 48, 48, 55] : List UInt8)) = true := beq_iff_eq.mpr c17
                      have c17b1 : (t137.toList != ([48, 48, 48, 48, 48, 48, 48, 48, 48, 48, 48, 48, 48, 55] : List UInt8)) = false := bne_eq_false_iff_eq.mpr c17
                      clear c17
                      replace H := Option.bind_eq_some_iff.mp H
                      obtain ⟨t138, A180, H⟩ := H
                      replace H : (some (t138.toList == ([48, 48, 48, 48, 48, 48, 48, 48, 48, 48, 48, 48, 48, 48] : List UInt8))) = some r := H
                      have A18 := Aside0.mk A180
                      clear A180
                      obtain rfl := Option.some.inj H
                      go_enter Tryd.func13, Tryd.ntmps13
                      go_wp2_with (first | ((with_reducible refine gate_callee (f := 14) rfl ?_); refine goesL_ (some 11) rfl rfl Tryd.func14 (by kernel_rfl) rfl #[.string (⟨#[116, 111, 107, 101, 110, 47, 97, 37, 115, 98, 47, 99]⟩ : ByteArray)] rfl (by (try simp only [List.map_toArray, List.map_cons, List.map_nil]); first | done | rfl | (simp only [List.length_drop, List.length_take]; rfl)) ?_; (with_reducible refine (path_Split.calls (⟨#[116, 111, 107, 101, 110, 47, 97, 37, 115, 98, 47, 99]⟩ : ByteArray) t113 t114 t115 _ A1.out).mono ?_); rintro e w19 ⟨v116, rfl, ho0, hb⟩; refine ⟨_, rfl, ?_⟩; have n0_ := Aside0.mk (Kd.Q_lower ho0 (below_size (by repeat (first | (with_reducible first | exact HB.out | apply below_alloc | apply pw_below_drewN | apply below_drew1) | exact HB.out)))); have n1_ := Aside0.mk (below_step (by repeat (first | (with_reducible first | exact HB.out | apply below_alloc | apply pw_below_drewN | apply below_drew1) | exact HB.out)) hb); clear HB; have HO117 := n0_; have HB := n1_; clear n0_ n1_; (try clear hb); (try clear hb2); (try clear hk); (try clear hi); (try clear ho0)) | ((with_reducible refine gate_callee (f := 14) rfl ?_); refine goesL_ (some 16) rfl rfl Tryd.func14 (by kernel_rfl) rfl #[.string (⟨#[97, 37]⟩ : ByteArray)] rfl (by (try simp only [List.map_toArray, List.map_cons, List.map_nil]); first | done | rfl | (simp only [List.length_drop, List.length_take]; rfl)) ?_; (with_reducible refine (path_Split.calls (⟨#[97, 37]⟩ : ByteArray) t118 t119 t120 _ A2.out).mono ?_); rintro e w20 ⟨v121, rfl, ho0, hb⟩; refine ⟨_, rfl, ?_⟩; have n0_ := Aside0.mk (Kd.Q_elder' (by (with_reducible repeat (first | apply Kd.Q_alloc | apply Kd.Q_drewN | apply Kd.Q_drew)); exact HO117.out) (Kd.Q_base ho0) hb); have n1_ := Aside0.mk (Kd.Q_lower (Kd.Q_new' ho0 (Kd.Q_lt (by (with_reducible repeat (first | apply Kd.Q_alloc | apply Kd.Q_drewN | apply Kd.Q_drew)); exact HO117.out))) (below_size (by repeat (first | (with_reducible first | exact HB.out | apply below_alloc | apply pw_below_drewN | apply below_drew1) | exact HB.out)))); have n2_ := Aside0.mk (below_step (by repeat (first | (with_reducible first | exact HB.out | apply below_alloc | apply pw_below_drewN | apply below_drew1) | exact HB.out)) hb); clear HO117; clear HB; have HO117 := n0_; have HO122 := n1_; have HB := n2_; clear n0_ n1_ n2_; (try clear hb); (try clear hb2); (try clear hk); (try clear hi); (try clear ho0)) | ((with_reducible refine gate_callee (f := 14) rfl ?_); refine goesL_ (some 21) rfl rfl Tryd.func14 (by kernel_rfl) rfl #[.string (⟨#[]⟩ : ByteArray)] rfl (by (try simp only [List.map_toArray, List.map_cons, List.map_nil]); first | done | rfl | (simp only [List.length_drop, List.length_take]; rfl)) ?_; (with_reducible refine (path_Split.calls (⟨#[]⟩ : ByteArray) t123 t124 t125 _ A3.out).mono ?_); rintro e w21 ⟨v126, rfl, ho0, hb⟩; refine ⟨_, rfl, ?_⟩; have n0_ := Aside0.mk (Kd.Q_elder' (by (with_reducible repeat (first | apply Kd.Q_alloc | apply Kd.Q_drewN | apply Kd.Q_drew)); exact HO117.out) (Kd.Q_base ho0) hb); have n1_ := Aside0.mk (Kd.Q_elder' (by (with_reducible repeat (first | apply Kd.Q_alloc | apply Kd.Q_drewN | apply Kd.Q_drew)); exact HO122.out) (Kd.Q_base ho0) hb); have n2_ := Aside0.mk (Kd.Q_lower (Kd.Q_new' (Kd.Q_new' ho0 (Kd.Q_lt (by (with_reducible repeat (first | apply Kd.Q_alloc | apply Kd.Q_drewN | apply Kd.Q_drew)); exact HO117.out))) (Kd.Q_lt (by (with_reducible repeat (first | apply Kd.Q_alloc | apply Kd.Q_drewN | apply Kd.Q_drew)); exact HO122.out))) (below_size (by repeat (first | (with_reducible first | exact HB.out | apply below_alloc | apply pw_below_drewN | apply below_drew1) | exact HB.out)))); have n3_ := Aside0.mk (below_step (by repeat (first | (with_reducible first | exact HB.out | apply below_alloc | apply pw_below_drewN | apply below_drew1) | exact HB.out)) hb); clear HO117; clear HO122; clear HB; have HO117 := n0_; have HO122 := n1_; have HO127 := n2_; have HB := n3_; clear n0_ n1_ n2_ n3_; (try clear hb); (try clear hb2); (try clear hk); (try clear hi); (try clear ho0)) | ((with_reducible refine gate_dst (N := 25) rfl ?_); (try (refine gate_guard (by rfl) ?_; dsimp only)); refine Kd.R_lit Kd.string _ 9 ?hg (N := 25) ?hd (xs := ([(⟨#[97, 47, 98]⟩ : ByteArray), (⟨#[99]⟩ : ByteArray)] : List ByteArray)) (inner := [.string (⟨#[97, 47, 98]⟩ : ByteArray), .string (⟨#[99]⟩ : ByteArray)]) (ok := fun _ => True) (okp := fun _ => True) ?hr ?hp (fun _ hk => hk) trivial (Below.refl _ _) (Nat.le_refl _) (by simp) ?_; (case hd => rfl); (case hg => rfl); (case hr => first | (go_simp; done) | (go_simp; rfl)); (case hp => exact (Reps.one (show Kd.M Kd.string _ _ _ (⟨#[97, 47, 98]⟩ : ByteArray) [.string (⟨#[97, 47, 98]⟩ : ByteArray)] from rfl) (Reps.one (show Kd.M Kd.string _ _ _ (⟨#[99]⟩ : ByteArray) [.string (⟨#[99]⟩ : ByteArray)] from rfl) (Reps.none _ _)))); intro v129 w22 ho23 hb hg_ hnew_; clear hg_ hnew_; (first | rw [← Ny128.out] at ho23 | (simp only [Int.reduceToNat] at ho23; rw [← Ny128.out] at ho23)); have n0_ := Aside0.mk (Kd.Q_elder' (by (with_reducible repeat (first | apply Kd.Q_alloc | apply Kd.Q_drewN | apply Kd.Q_drew)); exact HO117.out) (Kd.R_base ho23) hb); have n1_ := Aside0.mk (Kd.Q_elder' (by (with_reducible repeat (first | apply Kd.Q_alloc | apply Kd.Q_drewN | apply Kd.Q_drew)); exact HO122.out) (Kd.R_base ho23) hb); have n2_ := Aside0.mk (Kd.Q_elder' (by (with_reducible repeat (first | apply Kd.Q_alloc | apply Kd.Q_drewN | apply Kd.Q_drew)); exact HO127.out) (Kd.R_base ho23) hb); have n3_ := Aside0.mk (Kd.R_lower (Kd.R_new' (Kd.R_new' (Kd.R_new' ho23 (Kd.Q_lt (by (with_reducible repeat (first | apply Kd.Q_alloc | apply Kd.Q_drewN | apply Kd.Q_drew)); exact HO117.out))) (Kd.Q_lt (by (with_reducible repeat (first | apply Kd.Q_alloc | apply Kd.Q_drewN | apply Kd.Q_drew)); exact HO122.out))) (Kd.Q_lt (by (with_reducible repeat (first | apply Kd.Q_alloc | apply Kd.Q_drewN | apply Kd.Q_drew)); exact HO127.out))) (below_size (by repeat (first | (with_reducible first | exact HB.out | apply below_alloc | apply pw_below_drewN | apply below_drew1) | exact HB.out)))); have n4_ := Aside0.mk (below_step (by repeat (first | (with_reducible first | exact HB.out | apply below_alloc | apply pw_below_drewN | apply below_drew1) | exact HB.out)) hb); clear HO117; clear HO122; clear HO127; clear HB; have HO117 := n0_; have HO122 := n1_; have HO127 := n2_; have HO130 := n3_; have HB := n4_; clear n0_ n1_ n2_ n3_ n4_; clear hb ho23; obtain ⟨Ao24, co24, eo24⟩ := Kd.R_slice HO130.out; subst eo24) | ((with_reducible refine gate_callee (f := 16) rfl ?_); refine goesL_ (some 26) rfl rfl Tryd.func16 (by kernel_rfl) rfl #[.string (⟨#[116, 111, 107, 101, 110]⟩ : ByteArray), .slice Ao24 y128.length co24] rfl (by (try simp only [List.map_toArray, List.map_cons, List.map_nil]); first | done | rfl | (simp only [List.length_drop, List.length_take]; rfl)) ?_; (with_reducible refine (path_Join.calls k (⟨#[116, 111, 107, 101, 110]⟩ : ByteArray) _ _ y128 t131 _ ?side1 ?side2 A4.out).mono ?_); (case side1 => repeat (first | exact (Kd.R_reads' HO130.out).2.2 | (with_reducible refine Kd.C_alloc ?_ _) | (with_reducible refine Kd.C_drewN ?_ _) | (with_reducible refine Kd.C_drew ?_))); (case side2 => exact (Kd.R_reads' HO130.out).2.1); rintro e w25 ⟨rfl, hb⟩; refine ⟨_, rfl, ?_⟩; have n0_ := Aside0.mk (Kd.Q_below (by (with_reducible repeat (first | apply Kd.Q_alloc | apply Kd.Q_drewN | apply Kd.Q_drew)); exact HO117.out) hb); have n1_ := Aside0.mk (Kd.Q_below (by (with_reducible repeat (first | apply Kd.Q_alloc | apply Kd.Q_drewN | apply Kd.Q_drew)); exact HO122.out) hb); have n2_ := Aside0.mk (Kd.Q_below (by (with_reducible repeat (first | apply Kd.Q_alloc | apply Kd.Q_drewN | apply Kd.Q_drew)); exact HO127.out) hb); have n3_ := Aside0.mk (Kd.R_below (by (with_reducible repeat (first | apply Kd.R_alloc | apply Kd.R_drewN | apply Kd.R_drew)); exact HO130.out) hb); have n4_ := Aside0.mk (below_step (by repeat (first | (with_reducible first | exact HB.out | apply below_alloc | apply pw_below_drewN | apply below_drew1) | exact HB.out)) hb); clear HO117; clear HO122; clear HO127; clear HO130; clear HB; have HO117 := n0_; have HO122 := n1_; have HO127 := n2_; have HO130 := n3_; have HB := n4_; clear n0_ n1_ n2_ n3_ n4_; (try clear hb); (try clear hb2); (try clear hk); (try clear hi)) | ((with_reducible refine gate_dst (N := 34) rfl ?_); (try (refine gate_guard (by rfl) ?_; dsimp only)); refine Kd.R_lit Kd.string _ 9 ?hg (N := 34) ?hd (xs := ([(⟨#[97, 47, 98]⟩ : ByteArray), (⟨#[99]⟩ : ByteArray)] : List ByteArray)) (inner := [.string (⟨#[97, 47, 98]⟩ : ByteArray), .string (⟨#[99]⟩ : ByteArray)]) (ok := fun _ => True) (okp := fun _ => True) ?hr ?hp (fun _ hk => hk) trivial (Below.refl _ _) (Nat.le_refl _) (by simp) ?_; (case hd => rfl); (case hg => rfl); (case hr => first | (go_simp; done) | (go_simp; rfl)); (case hp => exact (Reps.one (show Kd.M Kd.string _ _ _ (⟨#[97, 47, 98]⟩ : ByteArray) [.string (⟨#[97, 47, 98]⟩ : ByteArray)] from rfl) (Reps.one (show Kd.M Kd.string _ _ _ (⟨#[99]⟩ : ByteArray) [.string (⟨#[99]⟩ : ByteArray)] from rfl) (Reps.none _ _)))); intro v133 w26 ho27 hb hg_ hnew_; clear hg_ hnew_; (first | rw [← Ny132.out] at ho27 | (simp only [Int.reduceToNat] at ho27; rw [← Ny132.out] at ho27)); have n0_ := Aside0.mk (Kd.Q_elder' (by (with_reducible repeat (first | apply Kd.Q_alloc | apply Kd.Q_drewN | apply Kd.Q_drew)); exact HO117.out) (Kd.R_base ho27) hb); have n1_ := Aside0.mk (Kd.Q_elder' (by (with_reducible repeat (first | apply Kd.Q_alloc | apply Kd.Q_drewN | apply Kd.Q_drew)); exact HO122.out) (Kd.R_base ho27) hb); have n2_ := Aside0.mk (Kd.Q_elder' (by (with_reducible repeat (first | apply Kd.Q_alloc | apply Kd.Q_drewN | apply Kd.Q_drew)); exact HO127.out) (Kd.R_base ho27) hb); have n3_ := Aside0.mk (Kd.R_elder' (by (with_reducible repeat (first | apply Kd.R_alloc | apply Kd.R_drewN | apply Kd.R_drew)); exact HO130.out) (Kd.R_base ho27) hb); have n4_ := Aside0.mk (Kd.R_lower (Kd.R_new' (Kd.R_new' (Kd.R_new' (Kd.R_new' ho27 (Kd.Q_lt (by (with_reducible repeat (first | apply Kd.Q_alloc | apply Kd.Q_drewN | apply Kd.Q_drew)); exact HO117.out))) (Kd.Q_lt (by (with_reducible repeat (first | apply Kd.Q_alloc | apply Kd.Q_drewN | apply Kd.Q_drew)); exact HO122.out))) (Kd.Q_lt (by (with_reducible repeat (first | apply Kd.Q_alloc | apply Kd.Q_drewN | apply Kd.Q_drew)); exact HO127.out))) (Kd.R_lt (by (with_reducible repeat (first | apply Kd.R_alloc | apply Kd.R_drewN | apply Kd.R_drew)); exact HO130.out))) (below_size (by repeat (first | (with_reducible first | exact HB.out | apply below_alloc | apply pw_below_drewN | apply below_drew1) | exact HB.out)))); have n5_ := Aside0.mk (below_step (by repeat (first | (with_reducible first | exact HB.out | apply below_alloc | apply pw_below_drewN | apply below_drew1) | exact HB.out)) hb); clear HO117; clear HO122; clear HO127; clear HO130; clear HB; have HO117 := n0_; have HO122 := n1_; have HO127 := n2_; have HO130 := n3_; have HO134 := n4_; have HB := n5_; clear n0_ n1_ n2_ n3_ n4_ n5_; clear hb ho27; obtain ⟨Ao28, co28, eo28, _⟩ := Kd.Q_slice HO117.out; subst eo28; obtain ⟨Ao29, co29, eo29⟩ := Kd.R_slice HO134.out; subst eo29) | (go_at_call 18; (with_reducible refine (footbridgeref01_Texts.calls k _ _ t114 _ _ y132 true _ ?side1 ?side2 ?side3 ?side4 A7.out).mono ?_); (case side1 => repeat (first | exact (Kd.Q_reads' HO117.out).2.2 | (with_reducible refine Kd.C_alloc ?_ _) | (with_reducible refine Kd.C_drewN ?_ _) | (with_reducible refine Kd.C_drew ?_))); (case side2 => exact (Kd.Q_reads' HO117.out).2.1); (case side3 => repeat (first | exact (Kd.R_reads' HO134.out).2.2 | (with_reducible refine Kd.C_alloc ?_ _) | (with_reducible refine Kd.C_drewN ?_ _) | (with_reducible refine Kd.C_drew ?_))); (case side4 => exact (Kd.R_reads' HO134.out).2.1); rintro e w' ⟨rfl, ⟨nd, rfl⟩⟩; obtain ⟨Ao30, co30, eo30, _⟩ := Kd.Q_slice HO127.out; subst eo30) | (go_at_call 16; (refine (path_Join.calls k (⟨#[37]⟩ : ByteArray) _ _ ([] : List ByteArray) t136 _ ?side1 ?side2 A14.out).mono ?_); (case side1 => exact Kd.C_nil _ _); (case side2 => exact Nat.le_refl _); rintro e w31 ⟨rfl, hb⟩; have n0_ := Aside0.mk (Kd.Q_below (by (with_reducible repeat (first | apply Kd.Q_alloc | apply Kd.Q_drewN | apply Kd.Q_drew)); exact HO117.out) hb); have n1_ := Aside0.mk (Kd.Q_below (by (with_reducible repeat (first | apply Kd.Q_alloc | apply Kd.Q_drewN | apply Kd.Q_drew)); exact HO122.out) hb); have n2_ := Aside0.mk (Kd.Q_below (by (with_reducible repeat (first | apply Kd.Q_alloc | apply Kd.Q_drewN | apply Kd.Q_drew)); exact HO127.out) hb); have n3_ := Aside0.mk (Kd.R_below (by (with_reducible repeat (first | apply Kd.R_alloc | apply Kd.R_drewN | apply Kd.R_drew)); exact HO130.out) hb); have n4_ := Aside0.mk (Kd.R_below (by (with_reducible repeat (first | apply Kd.R_alloc | apply Kd.R_drewN | apply Kd.R_drew)); exact HO134.out) hb); have n5_ := Aside0.mk (below_step (by repeat (first | (with_reducible first | exact HB.out | apply below_alloc | apply pw_below_drewN | apply below_drew1) | exact HB.out)) hb); clear HO117; clear HO122; clear HO127; clear HO130; clear HO134; clear HB; have HO117 := n0_; have HO122 := n1_; have HO127 := n2_; have HO130 := n3_; have HO134 := n4_; have HB := n5_; clear n0_ n1_ n2_ n3_ n4_ n5_; (try clear hb); (try clear hb2); (try clear hk); (try clear hi)) | (go_at_call 19; (with_reducible refine (path_Number.calls 7 t137 _ A16.out).mono ?_); rintro e w32 ⟨rfl, hb⟩; have n0_ := Aside0.mk (Kd.Q_below (by (with_reducible repeat (first | apply Kd.Q_alloc | apply Kd.Q_drewN | apply Kd.Q_drew)); exact HO117.out) hb); have n1_ := Aside0.mk (Kd.Q_below (by (with_reducible repeat (first | apply Kd.Q_alloc | apply Kd.Q_drewN | apply Kd.Q_drew)); exact HO122.out) hb); have n2_ := Aside0.mk (Kd.Q_below (by (with_reducible repeat (first | apply Kd.Q_alloc | apply Kd.Q_drewN | apply Kd.Q_drew)); exact HO127.out) hb); have n3_ := Aside0.mk (Kd.R_below (by (with_reducible repeat (first | apply Kd.R_alloc | apply Kd.R_drewN | apply Kd.R_drew)); exact HO130.out) hb); have n4_ := Aside0.mk (Kd.R_below (by (with_reducible repeat (first | apply Kd.R_alloc | apply Kd.R_drewN | apply Kd.R_drew)); exact HO134.out) hb); have n5_ := Aside0.mk (below_step (by repeat (first | (with_reducible first | exact HB.out | apply below_alloc | apply pw_below_drewN | apply below_drew1) | exact HB.out)) hb); clear HO117; clear HO122; clear HO127; clear HO130; clear HO134; clear HB; have HO117 := n0_; have HO122 := n1_; have HO127 := n2_; have HO130 := n3_; have HO134 := n4_; have HB := n5_; clear n0_ n1_ n2_ n3_ n4_ n5_; (try clear hb); (try clear hb2); (try clear hk); (try clear hi)) | (go_at_call 19; (with_reducible refine (path_Number.calls (-1) t138 _ A18.out).mono ?_); rintro e w33 ⟨rfl, hb⟩; have n0_ := Aside0.mk (Kd.Q_below (by (with_reducible repeat (first | apply Kd.Q_alloc | apply Kd.Q_drewN | apply Kd.Q_drew)); exact HO117.out) hb); have n1_ := Aside0.mk (Kd.Q_below (by (with_reducible repeat (first | apply Kd.Q_alloc | apply Kd.Q_drewN | apply Kd.Q_drew)); exact HO122.out) hb); have n2_ := Aside0.mk (Kd.Q_below (by (with_reducible repeat (first | apply Kd.Q_alloc | apply Kd.Q_drewN | apply Kd.Q_drew)); exact HO127.out) hb); have n3_ := Aside0.mk (Kd.R_below (by (with_reducible repeat (first | apply Kd.R_alloc | apply Kd.R_drewN | apply Kd.R_drew)); exact HO130.out) hb); have n4_ := Aside0.mk (Kd.R_below (by (with_reducible repeat (first | apply Kd.R_alloc | apply Kd.R_drewN | apply Kd.R_drew)); exact HO134.out) hb); have n5_ := Aside0.mk (below_step (by repeat (first | (with_reducible first | exact HB.out | apply below_alloc | apply pw_below_drewN | apply below_drew1) | exact HB.out)) hb); clear HO117; clear HO122; clear HO127; clear HO130; clear HO134; clear HB; have HO117 := n0_; have HO122 := n1_; have HO127 := n2_; have HO130 := n3_; have HO134 := n4_; have HB := n5_; clear n0_ n1_ n2_ n3_ n4_ n5_; (try clear hb); (try clear hb2); (try clear hk); (try clear hi)))
                      go_ret
                      exact ⟨by first | rfl | (simp [errW_none, errW_some] <;> rfl) | (simp [*, errW_none, errW_some] <;> rfl), by repeat (first | (with_reducible first | exact HB.out | apply below_alloc | apply pw_below_drewN | apply below_drew1) | exact HB.out)⟩
                    · rw [if_neg c17] at H
                      exact absurd H (by simp)
                  · rw [if_neg c15] at H
                    exact absurd H (by simp)
                · rw [if_neg c13] at H
                  exact absurd H (by simp)
              · rw [if_neg c12] at H
                exact absurd H (by simp)
            · rw [if_neg c11] at H
              exact absurd H (by simp)
          · rw [if_neg c10] at H
            exact absurd H (by simp)
        · rw [if_neg c9] at H
          exact absurd H (by simp)
      · replace c8 := Bool.eq_false_iff.mpr c8
        subst c8
        have H1 : (none) = some r := by rw [if_neg (show ¬ (false = true) by decide)] at H; exact H
        clear H
        have H := H1
        clear H1
        exact absurd H (by simp)
    · rw [if_neg c6] at H
      exact absurd H (by simp)
  · rw [if_neg c5] at H
    exact absurd H (by simp)

/-! ### footbridgelaw08_PathRises: function 5 -/
def footbridgelaw08_PathRises.f (k : Nat) (a0 : Int) (a1 : Int) : Option (Bool) := (path_Number.f (wrap64 (a0))).bind fun t139 => ((path_Number.f (wrap64 (a1))).bind fun t140 => (if (t139.size : Int) = 14 then (if (t140.size : Int) = 14 then (if ((decide (a0 < a1)) == (Op.bytesLess t139.toList t140.toList)) = true then ((footbridgelaw08_awake.f k).bind fun t141 => (some t141)) else (none)) else (none)) else (none)))
theorem footbridgelaw08_PathRises.mono : ∀ a0 a1 k, LeO (footbridgelaw08_PathRises.f k a0 a1) (footbridgelaw08_PathRises.f (k + 1) a0 a1) := by
  intro a0 a1 k
  unfold footbridgelaw08_PathRises.f
  repeat' first
      | (with_reducible exact footbridgelaw08_awake.mono _)
      | (with_reducible exact LeO.refl _)
      | (with_reducible exact LeO.none _)
      | (with_reducible refine LeO.ite ?_ ?_)
      | (with_reducible refine LeO.bind ?_ (fun _ => ?_))
      | exact footbridgelaw08_awake.mono _
      | exact LeO.none _
      | refine LeO.ite ?_ ?_
      | refine LeO.bind ?_ (fun _ => ?_)
set_option maxHeartbeats 8000000 in
set_option maxRecDepth 100000 in
theorem footbridgelaw08_PathRises.calls (k : Nat) (a0 : Int) (a1 : Int) (r : Bool) (w : World) (h : footbridgelaw08_PathRises.f k a0 a1 = some r) :
    Calls Tryd.prog 5 #[.int .u32 a0, .int .u32 a1] w fun e w' => e = .returned (.bool r) ∧ Below w.heap.size w w' := by
  have HB := Aside0.mk (Below.refl w.heap.size w)
  have H : ((path_Number.f (wrap64 (a0))).bind fun t139 => ((path_Number.f (wrap64 (a1))).bind fun t140 => (if (t139.size : Int) = 14 then (if (t140.size : Int) = 14 then (if ((decide (a0 < a1)) == (Op.bytesLess t139.toList t140.toList)) = true then ((footbridgelaw08_awake.f k).bind fun t141 => (some t141)) else (none)) else (none)) else (none)))) = some r := h
  clear h
  replace H := Option.bind_eq_some_iff.mp H
  obtain ⟨t139, A30, H⟩ := H
  replace H : ((path_Number.f (wrap64 (a1))).bind fun t140 => (if (t139.size : Int) = 14 then (if (t140.size : Int) = 14 then (if ((decide (a0 < a1)) == (Op.bytesLess t139.toList t140.toList)) = true then ((footbridgelaw08_awake.f k).bind fun t141 => (some t141)) else (none)) else (none)) else (none))) = some r := H
  have A3 := Aside0.mk A30
  clear A30
  replace H := Option.bind_eq_some_iff.mp H
  obtain ⟨t140, A40, H⟩ := H
  replace H : (if (t139.size : Int) = 14 then (if (t140.size : Int) = 14 then (if ((decide (a0 < a1)) == (Op.bytesLess t139.toList t140.toList)) = true then ((footbridgelaw08_awake.f k).bind fun t141 => (some t141)) else (none)) else (none)) else (none)) = some r := H
  have A4 := Aside0.mk A40
  clear A40
  by_cases c5 : (t139.size : Int) = 14
  · rw [if_pos c5] at H
    have c5b0 : ((t139.size : Int) == 14) = true := beq_iff_eq.mpr c5
    have c5b1 : ((t139.size : Int) != 14) = false := bne_eq_false_iff_eq.mpr c5
    clear c5
    by_cases c6 : (t140.size : Int) = 14
    · rw [if_pos c6] at H
      have c6b0 : ((t140.size : Int) == 14) = true := beq_iff_eq.mpr c6
      have c6b1 : ((t140.size : Int) != 14) = false := bne_eq_false_iff_eq.mpr c6
      clear c6
      by_cases c7 : ((decide (a0 < a1)) == (Op.bytesLess t139.toList t140.toList)) = true
      · rw [if_pos c7] at H
        have c7b0 : ((decide (a0 < a1)) == (Op.bytesLess t139.toList t140.toList)) = true := c7
        (try (have c7b1 : decide ((decide (a0 < a1)) = (Op.bytesLess t139.toList t140.toList)) = true := by simpa using c7))
        (try (have c7b2 : ((decide (a0 < a1)) == (Op.bytesLess t139.toList t140.toList)) = true := by simpa using c7))
        clear c7
        replace H := Option.bind_eq_some_iff.mp H
        obtain ⟨t141, A80, H⟩ := H
        replace H : (some t141) = some r := H
        have A8 := Aside0.mk A80
        clear A80
        obtain rfl := Option.some.inj H
        go_enter Tryd.func5, Tryd.ntmps5
        go_wp2_with (first | ((with_reducible refine gate_callee (f := 19) rfl ?_); refine goesL_ (some 9) rfl rfl Tryd.func19 (by kernel_rfl) rfl #[.int .i64 (wrap64 (a0))] rfl (by (try simp only [List.map_toArray, List.map_cons, List.map_nil]); first | done | rfl | (simp only [List.length_drop, List.length_take]; rfl)) ?_; (with_reducible refine (path_Number.calls (wrap64 (a0)) t139 _ A3.out).mono ?_); rintro e w9 ⟨rfl, hb⟩; refine ⟨_, rfl, ?_⟩; have n0_ := Aside0.mk (below_step (by repeat (first | (with_reducible first | exact HB.out | apply below_alloc | apply pw_below_drewN | apply below_drew1) | exact HB.out)) hb); clear HB; have HB := n0_; clear n0_; (try clear hb); (try clear hb2); (try clear hk); (try clear hi)) | ((with_reducible refine gate_callee (f := 19) rfl ?_); refine goesL_ (some 12) rfl rfl Tryd.func19 (by kernel_rfl) rfl #[.int .i64 (wrap64 (a1))] rfl (by (try simp only [List.map_toArray, List.map_cons, List.map_nil]); first | done | rfl | (simp only [List.length_drop, List.length_take]; rfl)) ?_; (with_reducible refine (path_Number.calls (wrap64 (a1)) t140 _ A4.out).mono ?_); rintro e w10 ⟨rfl, hb⟩; refine ⟨_, rfl, ?_⟩; have n0_ := Aside0.mk (below_step (by repeat (first | (with_reducible first | exact HB.out | apply below_alloc | apply pw_below_drewN | apply below_drew1) | exact HB.out)) hb); clear HB; have HB := n0_; clear n0_; (try clear hb); (try clear hb2); (try clear hk); (try clear hi)) | (go_at_call 13; (with_reducible refine (footbridgelaw08_awake.calls k  t141 _ A8.out).mono ?_); rintro e w11 ⟨rfl, hb⟩; have n0_ := Aside0.mk (below_step (by repeat (first | (with_reducible first | exact HB.out | apply below_alloc | apply pw_below_drewN | apply below_drew1) | exact HB.out)) hb); clear HB; have HB := n0_; clear n0_; (try clear hb); (try clear hb2); (try clear hk); (try clear hi)))
        go_ret
        exact ⟨by first | rfl | (simp [errW_none, errW_some] <;> rfl) | (simp [*, errW_none, errW_some] <;> rfl), by repeat (first | (with_reducible first | exact HB.out | apply below_alloc | apply pw_below_drewN | apply below_drew1) | exact HB.out)⟩
      · rw [if_neg c7] at H
        exact absurd H (by simp)
    · rw [if_neg c6] at H
      exact absurd H (by simp)
  · rw [if_neg c5] at H
    exact absurd H (by simp)

/-- THE ONE PURE STATEMENT of footbridgelaw08_PathRises: yours. -/
def footbridgelaw08_PathRises.Pure : Prop := ∀ (a0 : Int) (a1 : Int), (Lit.int .u32 a0).wf = true → (Lit.int .u32 a1).wf = true → ∃ k, footbridgelaw08_PathRises.f k a0 a1 = some true
theorem footbridgelaw08_PathRises.walk (P : footbridgelaw08_PathRises.Pure) (a0 : Int) (a1 : Int) (w : World) (w0 : (Lit.int .u32 a0).wf = true) (w1 : (Lit.int .u32 a1).wf = true) :
    Calls Tryd.prog 5 #[.int .u32 a0, .int .u32 a1] w fun e w' => e = .returned (.bool true) ∧ Below w.heap.size w w' := by
  obtain ⟨k, h⟩ := P a0 a1 w0 w1
  refine (footbridgelaw08_PathRises.calls k a0 a1 true w h).mono ?_
  rintro e w' ⟨rfl, hd⟩
  exact ⟨rfl, hd⟩

end Go.Proofs.YtcgmododeiocpaaDoor.PPat
