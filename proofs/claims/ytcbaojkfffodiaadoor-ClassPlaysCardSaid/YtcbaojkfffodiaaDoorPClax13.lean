-- written by wip/myprint.py over the kit's print; not a printed text of print.sh
import Derived.Test.YtcbaojkfffodiaaDoorPClax0
import Derived.Test.YtcbaojkfffodiaaDoorPClax10
import Derived.Test.YtcbaojkfffodiaaDoorPClax11
import Derived.Test.YtcbaojkfffodiaaDoorPClax12
namespace Go.Proofs.YtcbaojkfffodiaaDoor.PCla
open Go.RowKit Go.Proofs.YtcbaojkfffodiaaDoorW.PrintWords Go.Proofs.YtcbaojkfffodiaaDoorW.PrintLast Go.Proofs.YtcbaojkfffodiaaDoorW.PrintMore
attribute [local go_sem] max2_int min2_int max_two min_two max_three min_three max_four min_four   -- for this text's walks alone
set_option linter.unusedVariables false
set_option linter.unusedSimpArgs false

/-! ### strings_ReplaceAll: function 117 -/
/-- A byte's instances, replaced. -/
def repl1 (c : UInt8) (new : List UInt8) (l : List UInt8) : List UInt8 := l.flatMap fun x => if x = c then new else [x]
theorem repl1_no {c : UInt8} {new : List UInt8} : ∀ {l : List UInt8}, c ∉ l → repl1 c new l = l
  | [], _ => rfl
  | x :: t, h => by
    simp only [List.mem_cons, not_or] at h
    have ih := repl1_no (new := new) h.2
    unfold repl1 at ih ⊢
    rw [List.flatMap_cons, if_neg (fun e => h.1 e.symm), ih]; rfl
theorem repl1_at {c : UInt8} {new : List UInt8} (a b : List UInt8) (h : c ∉ a) : repl1 c new (a ++ c :: b) = a ++ (new ++ repl1 c new b) := by
  have h1 := repl1_no (new := new) h
  unfold repl1 at h1 ⊢
  rw [List.flatMap_append, h1, List.flatMap_cons, if_pos rfl]
theorem first_at (c : UInt8) : ∀ (l : List UInt8), 0 < l.count c → ∃ a b, l = a ++ c :: b ∧ c ∉ a ∧ Lib.indexByte l c = (a.length : Int)
  | [], h => by simp at h
  | x :: t, h => by
    by_cases hx : x = c
    · exact ⟨[], t, by rw [hx]; rfl, by simp, by unfold Lib.indexByte; rw [if_pos (by simp [hx])]; rfl⟩
    · rw [List.count_cons_of_ne (fun e => hx e)] at h
      obtain ⟨a, b, h1, h2, h3⟩ := first_at c t h
      refine ⟨x :: a, b, by rw [h1]; rfl, by simp only [List.mem_cons, not_or]; exact ⟨fun e => hx e.symm, h2⟩, ?_⟩
      unfold Lib.indexByte
      rw [if_neg (by simpa using hx), h3, if_neg (by simp), List.length_cons]
      omega
set_option maxHeartbeats 4000000 in
set_option maxRecDepth 1000000 in
theorem strings_Replace1 (s old new : ByteArray) (c : UInt8) (w : World) (hs : s.size ≤ 100000000) (hold : old = (⟨#[c]⟩ : ByteArray)) (hnew : new.size = 2) :
    Calls Tryd.prog 140 #[.string s, .string old, .string new, .int .i64 (-1)] w fun e w' => e = .returned (.string (ofL (repl1 c new.toList s.toList))) ∧ Below w.heap.size w w' := by
  have hC : Calls Tryd.prog 146 #[.string s, .string old] w fun e w' => e = .returned (.int .i64 ((s.toList.count c : Nat) : Int)) ∧ w' = w := by
    rw [hold, ByteArray.toList_eq]
    exact Tryd.strings_Count_one s c w
  have hI : ∀ (x : ByteArray) (W : World), Calls Tryd.prog 147 #[.string x, .string old] W fun e w' => e = .returned (.int .i64 (Lib.indexByte x.toList c)) ∧ w' = W := by
    intro x W
    rw [hold, ByteArray.toList_eq]
    exact Tryd.strings_Index_one x c W
  have ho1 : old.size = 1 := by rw [hold]; rfl
  have hbeq : (old.toList == new.toList) = false := by
    apply beq_eq_false_iff_ne.2
    intro e
    have h1 := congrArg List.length e
    rw [← ba_size, ← ba_size] at h1
    omega
  have hcs : s.toList.count c ≤ s.size := by rw [ba_size]; exact List.count_le_length
  have ho0 : (0 : Int) < (old.size : Int) := by omega
  have hod : decide (0 < old.size) = true := decide_eq_true (by omega)
  by_cases hz : s.toList.count c = 0
  · have hr : repl1 c new.toList s.toList = s.toList := repl1_no (List.count_eq_zero.1 hz)
    rw [hr, ofL_of]
    rw [hz] at hC
    replace hC := Aside0.mk hC
    clear hI hr hnew hz hcs hold ho1
    go_enter Tryd.func140, Tryd.ntmps140
    go_wp2_with fail
    refine hC.out.mono ?_
    rintro e w' ⟨rfl, rfl⟩
    go_wp2
    go_ret
    exact ⟨rfl, by repeat (first | exact Below.refl _ _ | apply pw_below_drewN)⟩
  · obtain ⟨K, hK⟩ : ∃ K : Nat, s.toList.count c = K := ⟨_, rfl⟩
    rw [hK] at hC hz hcs
    have hcz : ((K : Int) == 0) = false := beq_eq_false_iff_ne.2 (by omega)
    have hga := Lib.grow_arg s.size K new.size old.size (by omega) (by rw [ho1]; omega) (by rw [hnew]; omega)
    have hgn : s.size + K * new.size - K * old.size ≤ 281474976710656 := by rw [hnew, ho1]; omega
    replace hC := Aside0.mk hC
    replace hI := Aside0.mk hI
    replace ho1 := Aside0.mk ho1
    replace hnew := Aside0.mk hnew
    replace hgn := Aside0.mk hgn
    replace hK := Aside0.mk hK
    replace hold := Aside0.mk hold
    go_enter Tryd.func140, Tryd.ntmps140
    go_wp2_with fail
    refine hC.out.mono ?_
    rintro e w' ⟨rfl, rfl⟩
    go_wp2_with fail
    try rw [hga]
    refine (Tryd.Builder_Grow_fresh w'.heap.size w'.heap.size _ _ (Nat.le_refl _) (my_alloc_new w' _) (by simp) hgn.out).mono ?_
    rintro e w1 ⟨rfl, hb0, hb1⟩
    have H1 := Aside0.mk (Or.inr hb0 : Lib.IsBuilder 193 5 w'.heap.size w'.heap.size (Lib.byteCells []) w1)
    have Hb1 := Aside0.mk (((Below.refl w'.heap.size w').alloc (Nat.le_refl _) _).trans hb1)
    clear hb0 hb1 hga hC
    go_wp2_with fail
    go_loopg [11, 53] K (fun g s11 s53 wx => ∃ (i start : Nat) (acc : List UInt8), s53 = .int .i64 i ∧ s11 = .int .i64 start ∧ i + g = K ∧ start ≤ s.size ∧ Aside0 (Lib.IsBuilder 193 5 w'.heap.size w'.heap.size (Lib.byteCells acc) wx) ∧ Aside0 (Below w'.heap.size w' wx) ∧ Aside0 (acc ++ repl1 c new.toList (s.toList.drop start) = repl1 c new.toList s.toList) ∧ Aside0 (g = (s.toList.drop start).count c) ∧ Aside0 (acc.length ≤ 2 * start))
    case atStart => exact ⟨0, 0, [], rfl, rfl, by omega, Nat.zero_le _, H1, Hb1, ⟨by simp⟩, ⟨by rw [List.drop_zero, hK.out]⟩, ⟨by simp⟩⟩
    case round =>
      clear H1 Hb1
      obtain ⟨i, start, acc, rfl, rfl, hig, hst, HB, HW, HR, hgc, hbd⟩ := hrel
      have hBw := Aside0.mk HW.out.size
      have c1 : (0 : Int) ≤ (start : Int) := by omega
      have c2 : (start : Int) ≤ (s.size : Int) := by omega
      have hsl : s.toList.length = s.size := (ba_size s).symm
      cases gk with
      | zero =>
        have hiK : ¬ ((i : Int) < (K : Int)) := by omega
        have hno : repl1 c new.toList (s.toList.drop start) = s.toList.drop start := repl1_no (List.count_eq_zero.1 hgc.out.symm)
        have hfin := Aside0.mk (HR.out.symm.trans (by rw [hno]))
        have hex : (s.extract start s.size).toList = s.toList.drop start := by rw [ba_extract, ← hsl, List.take_length]
        replace hex := Aside0.mk hex
        clear hno
        go_wp2_with fail
        refine (bi_strU w'.heap.size w'.heap.size _ (s.extract start s.size) wr HB.out (by have := hbd.out; rw [ByteArray.size_extract]; omega) hBw.out).mono ?_
        rintro e w3 ⟨rfl, h3, hb3, hk3⟩
        rw [hex.out, ← hfin.out] at h3
        have H3 := Aside0.mk h3
        have Hb3 := Aside0.mk (HW.out.trans hb3)
        clear h3 hb3 hk3
        go_wp2_with fail
        refine (Tryd.Builder_String_any w'.heap.size w'.heap.size _ w3 H3.out Hb3.out.size).mono ?_
        rintro e w5 ⟨rfl, hb5⟩
        have Hb5 := Aside0.mk (Hb3.out.trans hb5)
        clear hb5
        go_wp2
        go_ret
        exact ⟨rfl, Hb5.out⟩
      | succ g =>
        have hiK : (i : Int) < (K : Int) := by omega
        obtain ⟨a, b, hd, ha, hj⟩ := first_at c (s.toList.drop start) (by rw [← hgc.out]; omega)
        have hdl : (s.toList.drop start).length = a.length + (b.length + 1) := by rw [hd, List.length_append, List.length_cons]
        rw [List.length_drop, hsl] at hdl
        have c3 : (start : Int) ≤ (start : Int) + (a.length : Int) := by omega
        have c4 : (start : Int) + (a.length : Int) ≤ (s.size : Int) := by omega
        have hext : (s.extract start (start + a.length)).toList = a := by
          rw [ba_extract, List.drop_take, hd, Nat.add_sub_cancel_left]
          exact List.take_left
        have hb' : b = s.toList.drop (start + a.length + 1) := by
          rw [show start + a.length + 1 = start + (a.length + 1) by omega, ← List.drop_drop, hd]
          simp
        have hjx : Lib.indexByte (s.extract start s.size).toList c = (a.length : Int) := by rw [ba_extract, ← hsl, List.take_length]; exact hj
        have hrep : Aside0 ((acc ++ a ++ new.toList) ++ repl1 c new.toList (s.toList.drop (start + a.length + 1)) = repl1 c new.toList s.toList) := ⟨by rw [← HR.out, hd, repl1_at a b ha, ← hb']; simp only [List.append_assoc]⟩
        have hcnt : Aside0 (g = (s.toList.drop (start + a.length + 1)).count c) := ⟨by
          have h := hgc.out
          rw [hd, List.count_append, List.count_eq_zero.2 ha, List.count_cons_self, ← hb'] at *
          omega⟩
        replace hext := Aside0.mk hext
        replace hjx := Aside0.mk hjx
        clear hd ha hj hb' HR hgc
        go_wp2_with fail
        refine (hI.out (s.extract start s.size) _).mono ?_
        rintro e w6 ⟨rfl, rfl⟩
        rw [hjx.out]
        go_wp2_with fail
        refine (bi_strU w'.heap.size w'.heap.size _ (s.extract start (start + a.length)) _ HB.out (by have := hbd.out; rw [ByteArray.size_extract]; omega) hBw.out).mono ?_
        rintro e w3 ⟨rfl, h3, hb3, hk3⟩
        rw [hext.out] at h3
        have H3 := Aside0.mk h3
        have Hb3 := Aside0.mk (HW.out.trans hb3)
        clear h3 hb3 hk3
        go_wp2_with fail
        refine (bi_strU w'.heap.size w'.heap.size _ new w3 H3.out (by have := hbd.out; have := hnew.out; rw [List.length_append]; omega) Hb3.out.size).mono ?_
        rintro e w4 ⟨rfl, h4, hb4, hk4⟩
        have H4 := Aside0.mk h4
        have Hb4 := Aside0.mk (Hb3.out.trans hb4)
        clear h4 hb4 hk4
        go_wp2
        go_roundg g
        case measure => omega
        case rel => exact ⟨i + 1, start + a.length + 1, acc ++ a ++ new.toList, by first | rfl | (simp; unfold wrap64; omega), by have := ho1.out; first | rfl | (simp; done) | (simp; rw [w64 (by omega) (by omega)]; omega), by omega, by omega, H4, Hb4, hrep, hcnt, ⟨by have h1 := hbd.out; have h2 := hnew.out; rw [ba_size] at h2; rw [List.length_append, List.length_append]; omega⟩⟩
def strings_ReplaceAll.f (a0 a1 a2 : ByteArray) : Option ByteArray := match a1.toList with
  | [c] => if a0.size ≤ 100000000 ∧ a2.size = 2 then some (ofL (repl1 c a2.toList a0.toList)) else none
  | _ => none
set_option maxHeartbeats 1000000 in
set_option maxRecDepth 100000 in
theorem strings_ReplaceAll.calls (a0 a1 a2 : ByteArray) (r : ByteArray) (w : World) (h : strings_ReplaceAll.f a0 a1 a2 = some r) :
    Calls Tryd.prog 117 #[.string a0, .string a1, .string a2] w fun e w' => e = .returned (.string r) ∧ Below w.heap.size w w' := by
  unfold strings_ReplaceAll.f at h
  split at h
  case h_2 => exact absurd h (by simp)
  case h_1 c hc =>
    by_cases hh : a0.size ≤ 100000000 ∧ a2.size = 2
    case neg => rw [if_neg hh] at h; exact absurd h (by simp)
    rw [if_pos hh] at h
    obtain rfl := Option.some.inj h
    have hold : a1 = (⟨#[c]⟩ : ByteArray) := ba_ext (by rw [hc, ByteArray.toList_eq])
    have R := Aside0.mk (fun W => strings_Replace1 a0 a1 a2 c W hh.1 hold hh.2)
    clear h hh hold hc
    go_enter Tryd.func117, Tryd.ntmps117
    go_wp2_with fail
    refine (R.out _).mono ?_
    rintro e w' ⟨rfl, hb⟩
    go_wp2
    go_ret
    exact ⟨rfl, hb⟩

/-! ### path_hidden: function 92 -/
def path_hidden.f (a0 : ByteArray) : Option (ByteArray) := (strings_ReplaceAll.f a0 (⟨#[37]⟩ : ByteArray) (⟨#[37, 112]⟩ : ByteArray)).bind fun t120 => ((strings_ReplaceAll.f t120 (⟨#[47]⟩ : ByteArray) (⟨#[37, 115]⟩ : ByteArray)).bind fun t121 => (some t121))
set_option maxHeartbeats 8000000 in
set_option maxRecDepth 100000 in
theorem path_hidden.calls (a0 : ByteArray) (r : ByteArray) (w : World) (h : path_hidden.f a0 = some r) :
    Calls Tryd.prog 92 #[.string a0] w fun e w' => e = .returned (.string r) ∧ Below w.heap.size w w' := by
  have HB := Aside0.mk (Below.refl w.heap.size w)
  have H : ((strings_ReplaceAll.f a0 (⟨#[37]⟩ : ByteArray) (⟨#[37, 112]⟩ : ByteArray)).bind fun t120 => ((strings_ReplaceAll.f t120 (⟨#[47]⟩ : ByteArray) (⟨#[37, 115]⟩ : ByteArray)).bind fun t121 => (some t121))) = some r := h
  clear h
  replace H := Option.bind_eq_some_iff.mp H
  obtain ⟨t120, A20, H⟩ := H
  replace H : ((strings_ReplaceAll.f t120 (⟨#[47]⟩ : ByteArray) (⟨#[37, 115]⟩ : ByteArray)).bind fun t121 => (some t121)) = some r := H
  have A2 := Aside0.mk A20
  clear A20
  replace H := Option.bind_eq_some_iff.mp H
  obtain ⟨t121, A30, H⟩ := H
  replace H : (some t121) = some r := H
  have A3 := Aside0.mk A30
  clear A30
  obtain rfl := Option.some.inj H
  go_enter Tryd.func92, Tryd.ntmps92
  go_wp2_with (first | ((with_reducible refine gate_callee (f := 117) rfl ?_); refine goesL_ (some 4) rfl rfl Tryd.func117 (by kernel_rfl) rfl #[.string a0, .string (⟨#[37]⟩ : ByteArray), .string (⟨#[37, 112]⟩ : ByteArray)] rfl (by (try simp only [List.map_toArray, List.map_cons, List.map_nil]); first | done | rfl | (simp only [List.length_drop, List.length_take]; rfl)) ?_; (with_reducible refine (strings_ReplaceAll.calls a0 (⟨#[37]⟩ : ByteArray) (⟨#[37, 112]⟩ : ByteArray) t120 _ A2.out).mono ?_); rintro e w4 ⟨rfl, hb⟩; refine ⟨_, rfl, ?_⟩; have n0_ := Aside0.mk (below_step (by repeat (first | (with_reducible first | exact HB.out | apply below_alloc | apply pw_below_drewN | apply below_drew1) | exact HB.out)) hb); clear HB; have HB := n0_; clear n0_; (try clear hb); (try clear hb2); (try clear hk); (try clear hi)) | ((with_reducible refine gate_callee (f := 117) rfl ?_); refine goesL_ (some 5) rfl rfl Tryd.func117 (by kernel_rfl) rfl #[.string t120, .string (⟨#[47]⟩ : ByteArray), .string (⟨#[37, 115]⟩ : ByteArray)] rfl (by (try simp only [List.map_toArray, List.map_cons, List.map_nil]); first | done | rfl | (simp only [List.length_drop, List.length_take]; rfl)) ?_; (with_reducible refine (strings_ReplaceAll.calls t120 (⟨#[47]⟩ : ByteArray) (⟨#[37, 115]⟩ : ByteArray) t121 _ A3.out).mono ?_); rintro e w5 ⟨rfl, hb⟩; refine ⟨_, rfl, ?_⟩; have n0_ := Aside0.mk (below_step (by repeat (first | (with_reducible first | exact HB.out | apply below_alloc | apply pw_below_drewN | apply below_drew1) | exact HB.out)) hb); clear HB; have HB := n0_; clear n0_; (try clear hb); (try clear hb2); (try clear hk); (try clear hi)))
  go_ret
  exact ⟨by first | rfl | (simp [errW_none, errW_some] <;> rfl) | (simp [*, errW_none, errW_some] <;> rfl), by repeat (first | (with_reducible first | exact HB.out | apply below_alloc | apply pw_below_drewN | apply below_drew1) | exact HB.out)⟩

/-! ### path_Join: function 50 -/
def path_Join.l0 : Nat → ByteArray → List ByteArray → Int → Int → Option (ByteArray)
  | 0, _, _, _, _ => none
  | k + 1, x5, x10, x11, x12 => if x12 < x11 then (if 0 ≤ x12 then (if x12 < (x10.length : Int) then ((path_hidden.f (rdOf ByteArray.empty x10 x12)).bind fun t124 => (if 1 + t124.size ≤ 9223372036854775807 then (if x5.size + ((⟨#[47]⟩ : ByteArray) ++ t124).size ≤ 9223372036854775807 then (path_Join.l0 k (x5 ++ ((⟨#[47]⟩ : ByteArray) ++ t124)) x10 x11 (wrap64 (x12 + 1))) else (none)) else (none))) else (none)) else (none)) else (some x5)
def path_Join.f (k : Nat) (a0 : ByteArray) (l1 : List ByteArray) : Option (ByteArray) := (path_hidden.f a0).bind fun t122 => (path_Join.l0 k t122 l1 (l1.length : Int) 0)
theorem path_Join.mono_l : ∀ k, (∀ y0 y1 y2 y3, LeO (path_Join.l0 k y0 y1 y2 y3) (path_Join.l0 (k + 1) y0 y1 y2 y3))
  | 0 => fun _ _ _ _ r h => by simp [path_Join.l0] at h
  | k + 1 => by
    have ih0 := path_Join.mono_l k
    · intro y0 y1 y2 y3
      unfold path_Join.l0
      repeat' first
      | (with_reducible exact ih0 _ _ _ _)
      | (with_reducible exact LeO.refl _)
      | (with_reducible exact LeO.none _)
      | (with_reducible refine LeO.ite ?_ ?_)
      | (with_reducible refine LeO.bind ?_ (fun _ => ?_))
      | exact ih0 _ _ _ _
      | exact LeO.none _
      | refine LeO.ite ?_ ?_
      | refine LeO.bind ?_ (fun _ => ?_)
theorem path_Join.mono : ∀ a0 a1 k, LeO (path_Join.f k a0 a1) (path_Join.f (k + 1) a0 a1) := by
  intro a0 a1 k
  have ih0 := path_Join.mono_l k
  unfold path_Join.f
  repeat' first
      | (with_reducible exact ih0 _ _ _ _)
      | (with_reducible exact LeO.refl _)
      | (with_reducible exact LeO.none _)
      | (with_reducible refine LeO.ite ?_ ?_)
      | (with_reducible refine LeO.bind ?_ (fun _ => ?_))
      | exact ih0 _ _ _ _
      | exact LeO.none _
      | refine LeO.ite ?_ ?_
      | refine LeO.bind ?_ (fun _ => ?_)
set_option maxHeartbeats 8000000 in
set_option maxRecDepth 100000 in
theorem path_Join.calls (k : Nat) (a0 : ByteArray) (A1 : Option Addr) (c1 : Nat) (l1 : List ByteArray) (r : ByteArray) (w : World) (hr1 : Kd.C Kd.string w A1 l1.length l1) (hc1 : l1.length ≤ c1) (h : path_Join.f k a0 l1 = some r) :
    Calls Tryd.prog 50 #[.string a0, .slice A1 l1.length c1] w fun e w' => e = .returned (.string r) ∧ Below w.heap.size w w' := by
  have HR1 := Aside0.mk hr1
  have HC1 := Aside0.mk hc1
  clear hr1 hc1
  have HB := Aside0.mk (Below.refl w.heap.size w)
  have H : ((path_hidden.f a0).bind fun t122 => (path_Join.l0 k t122 l1 (l1.length : Int) 0)) = some r := h
  clear h
  replace H := Option.bind_eq_some_iff.mp H
  obtain ⟨t122, A30, H⟩ := H
  replace H : (path_Join.l0 k t122 l1 (l1.length : Int) 0) = some r := H
  have A3 := Aside0.mk A30
  clear A30
  have H' := Aside0.mk H
  clear H
  go_enter Tryd.func50, Tryd.ntmps50
  go_wp2_with (first | ((with_reducible refine gate_callee (f := 92) rfl ?_); refine goesL_ (some 9) rfl rfl Tryd.func92 (by kernel_rfl) rfl #[.string a0] rfl (by (try simp only [List.map_toArray, List.map_cons, List.map_nil]); first | done | rfl | (simp only [List.length_drop, List.length_take]; rfl)) ?_; (with_reducible refine (path_hidden.calls a0 t122 _ A3.out).mono ?_); rintro e w4 ⟨rfl, hb⟩; refine ⟨_, rfl, ?_⟩; have n0_ := Aside0.mk (below_step (by repeat (first | (with_reducible first | exact HB.out | apply below_alloc | apply pw_below_drewN | apply below_drew1) | exact HB.out)) hb); clear HB; have HB := n0_; clear n0_; (try clear hb); (try clear hb2); (try clear hk); (try clear hi)))
  go_loopg [5, 12] k (fun kq v5 v12 w' => ∃ (x5_1 : ByteArray) (x12_1 : Int), v5 = .string x5_1 ∧ v12 = .int .i64 x12_1 ∧ Aside0 (path_Join.l0 kq x5_1 l1 (l1.length : Int) x12_1 = some r) ∧ Aside0 (kq ≤ k) ∧ Aside0 (Below w.heap.size w w'))
  case atStart => exact ⟨(t122), (0), (by first | rfl | (simp; done) | (simp [*]; done)), (by first | rfl | (simp; done) | (simp [*]; done)), H', ⟨Nat.le_refl _⟩, ⟨by repeat (first | (with_reducible first | exact HB.out | apply below_alloc | apply pw_below_drewN | apply below_drew1) | exact HB.out)⟩⟩
  case round =>
    clear H'
    try clear c1
    try clear p2
    obtain ⟨x5_1, x12_1, rfl, rfl, HA, HK1, HB⟩ := hrel
    cases gk with
    | zero => exact absurd HA.out (by simp [path_Join.l0])
    | succ k1 =>
      have H := HA.out
      clear HA
      simp only [path_Join.l0] at H
      by_cases c5 : x12_1 < (l1.length : Int)
      · rw [if_pos c5] at H
        have c5b0 : decide (x12_1 < (l1.length : Int)) = true := decide_eq_true c5
        clear c5
        by_cases c6 : 0 ≤ x12_1
        · rw [if_pos c6] at H
          have c6b0 : decide (0 ≤ x12_1) = true := decide_eq_true c6
          clear c6
          by_cases c7 : x12_1 < (l1.length : Int)
          · rw [if_pos c7] at H
            have c7b0 : decide (x12_1 < (l1.length : Int)) = true := decide_eq_true c7
            clear c7
            replace H := Option.bind_eq_some_iff.mp H
            obtain ⟨t124, A80, H⟩ := H
            replace H : (if 1 + t124.size ≤ 9223372036854775807 then (if x5_1.size + ((⟨#[47]⟩ : ByteArray) ++ t124).size ≤ 9223372036854775807 then (path_Join.l0 k1 (x5_1 ++ ((⟨#[47]⟩ : ByteArray) ++ t124)) l1 (l1.length : Int) (wrap64 (x12_1 + 1))) else (none)) else (none)) = some r := H
            have A8 := Aside0.mk A80
            clear A80
            by_cases c9 : 1 + t124.size ≤ 9223372036854775807
            · rw [if_pos c9] at H
              have c9b0 := eq_true c9
              have c9b1 : decide (1 + t124.size ≤ 9223372036854775807) = true := decide_eq_true c9
              try have c9b2 : (9223372036854775807 < 1 + t124.size) = False := eq_false (Nat.not_lt.2 c9)
              by_cases c10 : x5_1.size + ((⟨#[47]⟩ : ByteArray) ++ t124).size ≤ 9223372036854775807
              · rw [if_pos c10] at H
                have c10b0 := eq_true c10
                have c10b1 : decide (x5_1.size + ((⟨#[47]⟩ : ByteArray) ++ t124).size ≤ 9223372036854775807) = true := decide_eq_true c10
                try have c10b2 : (9223372036854775807 < x5_1.size + ((⟨#[47]⟩ : ByteArray) ++ t124).size) = False := eq_false (Nat.not_lt.2 c10)
                try (have c10b2_ := c10b2; simp only [ByteArray.size_append, my_lit_size, List.length_cons, List.length_nil, Nat.reduceAdd] at c10b2_)
                have H' := Aside0.mk H
                clear H
                have p123 : 0 ≤ (x12_1 : Int) := of_decide_eq_true (by first | (with_reducible assumption) | assumption)
                have q123 : x12_1 < (l1.length : Int) := of_decide_eq_true (by first | (with_reducible assumption) | assumption)
                obtain ⟨ad123, e123, hx123_0⟩ := Kd.at_string HR1.out x12_1 p123 q123
                cases e123
                replace hx123_0 := (HB.out.cell (World.block_lt_of_cell? w _ hx123_0)).trans hx123_0
                replace p123 := eq_true p123
                replace q123 := eq_true q123
                go_wp2_with (first | ((with_reducible refine gate_callee (f := 92) rfl ?_); refine goesL_ (some 18) rfl rfl Tryd.func92 (by kernel_rfl) rfl #[.string (rdOf ByteArray.empty l1 x12_1)] rfl (by (try simp only [List.map_toArray, List.map_cons, List.map_nil]); first | done | rfl | (simp only [List.length_drop, List.length_take]; rfl)) ?_; (with_reducible refine (path_hidden.calls (rdOf ByteArray.empty l1 x12_1) t124 _ A8.out).mono ?_); rintro e w11 ⟨rfl, hb⟩; refine ⟨_, rfl, ?_⟩; have n0_ := Aside0.mk (below_step (by repeat (first | (with_reducible first | exact HB.out | apply below_alloc | apply pw_below_drewN | apply below_drew1) | exact HB.out)) hb); clear HB; have HB := n0_; clear n0_; (try clear hb); (try clear hb2); (try clear hk); (try clear hi)))
                go_roundg k1
                case measure => have := HK1.out; omega
                case rel => exact ⟨(x5_1 ++ ((⟨#[47]⟩ : ByteArray) ++ t124)), (wrap64 (x12_1 + 1)), (by first | rfl | (simp; done) | (simp [*]; done)), (by first | rfl | (simp; done) | (simp [*]; done)), H', ⟨by have := HK1.out; omega⟩, ⟨by repeat (first | (with_reducible first | exact HB.out | apply below_alloc | apply pw_below_drewN | apply below_drew1) | exact HB.out)⟩⟩
              · rw [if_neg c10] at H
                exact absurd H (by simp)
            · rw [if_neg c9] at H
              exact absurd H (by simp)
          · rw [if_neg c7] at H
            exact absurd H (by simp)
        · rw [if_neg c6] at H
          exact absurd H (by simp)
      · rw [if_neg c5] at H
        have c5b0 : decide (x12_1 < (l1.length : Int)) = false := decide_eq_false c5
        clear c5
        obtain rfl := Option.some.inj H
        go_wp2
        go_ret
        exact ⟨by first | rfl | (simp [errW_none, errW_some] <;> rfl) | (simp [*, errW_none, errW_some] <;> rfl), by repeat (first | (with_reducible first | exact HB.out | apply below_alloc | apply pw_below_drewN | apply below_drew1) | exact HB.out)⟩

/-! ### wire_Reader_Num: function 51 -/
def wire_Reader_Num.f (s0_0 : ByteArray) (s0_1 : Int) : Option (Int × ByteArray × Int) := (wire_Reader_stopped.f s0_0 s0_1).bind fun bt125 => (if bt125.1 = true then (some (0, bt125.2.1, bt125.2.2)) else ((wire_number.f bt125.2.1).bind fun bt128 => ((wire_Reader_take.f bt125.2.1 bt125.2.2 bt128.2.1 bt128.2.2).bind fun bt131 => (some (bt128.1, bt131.2.1, bt131.2.2)))))
set_option maxHeartbeats 8000000 in
set_option maxRecDepth 100000 in
theorem wire_Reader_Num.calls (g : Nat) (s0_0 : ByteArray) (s0_1 : Int) (r1 : Int) (r2 : ByteArray) (r3 : Int) (w0 w : World) (hI : IsS123 w0 w g s0_0 s0_1) (hB : Below w0.heap.size w0 w) (h : wire_Reader_Num.f s0_0 s0_1 = some (r1, r2, r3)) :
    Calls Tryd.prog 51 #[.pointer (some ⟨g, 0, none⟩)] w fun e w' => e = .returned (.int .i64 r1) ∧ IsS123 w0 w' g r2 r3 ∧ Below w0.heap.size w0 w' ∧ KeepBut w w' g none := by
  have HI0 := Aside0.mk hI
  have HK := Aside0.mk (KeepBut.refl w g none)
  have HL := Aside0.mk hB.size
  clear hI
  have HW0 := Aside0.mk hB.size
  have HB := Aside0.mk hB
  clear hB
  have H : ((wire_Reader_stopped.f s0_0 s0_1).bind fun bt125 => (if bt125.1 = true then (some (0, bt125.2.1, bt125.2.2)) else ((wire_number.f bt125.2.1).bind fun bt128 => ((wire_Reader_take.f bt125.2.1 bt125.2.2 bt128.2.1 bt128.2.2).bind fun bt131 => (some (bt128.1, bt131.2.1, bt131.2.2)))))) = some (r1, r2, r3) := h
  clear h
  replace H := Option.bind_eq_some_iff.mp H
  obtain ⟨⟨t125, t126, t127⟩, A20, H⟩ := H
  replace H : (if t125 = true then (some (0, t126, t127)) else ((wire_number.f t126).bind fun bt128 => ((wire_Reader_take.f t126 t127 bt128.2.1 bt128.2.2).bind fun bt131 => (some (bt128.1, bt131.2.1, bt131.2.2))))) = some (r1, r2, r3) := H
  have A2 := Aside0.mk A20
  clear A20
  by_cases c3 : t125 = true
  · subst c3
    have H1 : (some (0, t126, t127)) = some (r1, r2, r3) := by rw [if_pos rfl] at H; exact H
    clear H
    have H := H1
    clear H1
    simp only [Option.some.injEq, Prod.mk.injEq] at H
    obtain ⟨rfl, rfl, rfl⟩ := H
    go_enter Tryd.func51, Tryd.ntmps51
    go_wp2_with (first | ((with_reducible refine gate_callee (f := 86) rfl ?_); refine goesL_ (some 7) rfl rfl Tryd.func86 (by kernel_rfl) rfl #[.pointer (some ⟨g, 0, none⟩)] rfl (by (try simp only [List.map_toArray, List.map_cons, List.map_nil]); first | done | rfl | (simp only [List.length_drop, List.length_take]; rfl)) ?_; (with_reducible refine (wire_Reader_stopped.calls g s0_0 s0_1 true t126 t127 w0 _ ?side1 ?side2 A2.out).mono ?_); (case side1 => repeat (first | (with_reducible first | exact HI0.out | apply IsS123.alloc | apply IsS123.drewN | apply IsS123.drew | apply IsS123.set_0 | apply IsS123.set_1) | exact HI0.out)); (case side2 => repeat (first | (with_reducible first | exact HB.out | apply below_alloc | apply pw_below_drewN | apply below_drew1 | refine below_set ?_ (IsS123.ge HI0.out)) | exact HB.out)); rintro e w4 ⟨rfl, hi, hb, hk⟩; refine ⟨_, rfl, ?_⟩; have n0_ := Aside0.mk (KeepBut.trans (by repeat (first | (with_reducible first | exact HK.out | apply KeepBut.set_ | apply keep_drewN | apply keep_drew | apply keep_alloc) | exact HK.out)) hk (.inl rfl)); have n1_ := Aside0.mk (hb); have n2_ := Aside0.mk (hi); clear HK; clear HB; clear HI0; have HK := n0_; have HB := n1_; have HI0 := n2_; clear n0_ n1_ n2_; (try clear hb); (try clear hb2); (try clear hk); (try clear hi)))
    go_ret
    exact ⟨by first | rfl | (simp [errW_none, errW_some] <;> rfl) | (simp [*, errW_none, errW_some] <;> rfl), by repeat (first | (with_reducible first | exact HI0.out | apply IsS123.alloc | apply IsS123.drewN | apply IsS123.drew | apply IsS123.set_0 | apply IsS123.set_1) | exact HI0.out), by repeat (first | (with_reducible first | exact HB.out | apply below_alloc | apply pw_below_drewN | apply below_drew1 | refine below_set ?_ (IsS123.ge HI0.out)) | exact HB.out), by repeat (first | (with_reducible first | exact HK.out | apply KeepBut.set_ | apply keep_drewN | apply keep_drew | apply keep_alloc) | exact HK.out)⟩
  · replace c3 := Bool.eq_false_iff.mpr c3
    subst c3
    have H1 : ((wire_number.f t126).bind fun bt128 => ((wire_Reader_take.f t126 t127 bt128.2.1 bt128.2.2).bind fun bt131 => (some (bt128.1, bt131.2.1, bt131.2.2)))) = some (r1, r2, r3) := by rw [if_neg (show ¬ (false = true) by decide)] at H; exact H
    clear H
    have H := H1
    clear H1
    replace H := Option.bind_eq_some_iff.mp H
    obtain ⟨⟨t128, t129, t130⟩, A50, H⟩ := H
    replace H : ((wire_Reader_take.f t126 t127 t129 t130).bind fun bt131 => (some (t128, bt131.2.1, bt131.2.2))) = some (r1, r2, r3) := H
    have A5 := Aside0.mk A50
    clear A50
    replace H := Option.bind_eq_some_iff.mp H
    obtain ⟨⟨t131, t132, t133⟩, A60, H⟩ := H
    replace H : (some (t128, t132, t133)) = some (r1, r2, r3) := H
    have A6 := Aside0.mk A60
    clear A60
    simp only [Option.some.injEq, Prod.mk.injEq] at H
    obtain ⟨rfl, rfl, rfl⟩ := H
    go_enter Tryd.func51, Tryd.ntmps51
    go_wp2_with (first | ((with_reducible refine gate_callee (f := 86) rfl ?_); refine goesL_ (some 7) rfl rfl Tryd.func86 (by kernel_rfl) rfl #[.pointer (some ⟨g, 0, none⟩)] rfl (by (try simp only [List.map_toArray, List.map_cons, List.map_nil]); first | done | rfl | (simp only [List.length_drop, List.length_take]; rfl)) ?_; (with_reducible refine (wire_Reader_stopped.calls g s0_0 s0_1 false t126 t127 w0 _ ?side1 ?side2 A2.out).mono ?_); (case side1 => repeat (first | (with_reducible first | exact HI0.out | apply IsS123.alloc | apply IsS123.drewN | apply IsS123.drew | apply IsS123.set_0 | apply IsS123.set_1) | exact HI0.out)); (case side2 => repeat (first | (with_reducible first | exact HB.out | apply below_alloc | apply pw_below_drewN | apply below_drew1 | refine below_set ?_ (IsS123.ge HI0.out)) | exact HB.out)); rintro e w7 ⟨rfl, hi, hb, hk⟩; refine ⟨_, rfl, ?_⟩; have n0_ := Aside0.mk (KeepBut.trans (by repeat (first | (with_reducible first | exact HK.out | apply KeepBut.set_ | apply keep_drewN | apply keep_drew | apply keep_alloc) | exact HK.out)) hk (.inl rfl)); have n1_ := Aside0.mk (hb); have n2_ := Aside0.mk (hi); clear HK; clear HB; clear HI0; have HK := n0_; have HB := n1_; have HI0 := n2_; clear n0_ n1_ n2_; (try clear hb); (try clear hb2); (try clear hk); (try clear hi); obtain ⟨HGz8, hgz8⟩ := HI0.out; have hcz8_0 := cellS123_0 HGz8; have hcz8_1 := cellS123_1 HGz8; have hfz8_0 := blk_frozen HGz8 0; have hfz8_1 := blk_frozen HGz8 1; clear HGz8 hgz8) | ((with_reducible refine gate_callee (f := 93) rfl ?_); refine goesL_ (some 13) rfl rfl Tryd.func93 (by kernel_rfl) rfl #[.string t126] rfl (by (try simp only [List.map_toArray, List.map_cons, List.map_nil]); first | done | rfl | (simp only [List.length_drop, List.length_take]; rfl)) ?_; (with_reducible refine (wire_number.calls t126 t128 t129 t130 _ A5.out).mono ?_); rintro e w' ⟨rfl, ⟨nd, rfl⟩⟩; refine ⟨_, rfl, ?_⟩) | ((with_reducible refine gate_callee (f := 88) rfl ?_); refine goesL_ (some 20) rfl rfl Tryd.func88 (by kernel_rfl) rfl #[.pointer (some ⟨g, 0, none⟩), .int .i64 t129, .int .i64 t130] rfl (by (try simp only [List.map_toArray, List.map_cons, List.map_nil]); first | done | rfl | (simp only [List.length_drop, List.length_take]; rfl)) ?_; (with_reducible refine (wire_Reader_take.calls g t126 t127 t129 t130 t131 t132 t133 w0 _ ?side1 ?side2 A6.out).mono ?_); (case side1 => repeat (first | (with_reducible first | exact HI0.out | apply IsS123.alloc | apply IsS123.drewN | apply IsS123.drew | apply IsS123.set_0 | apply IsS123.set_1) | exact HI0.out)); (case side2 => repeat (first | (with_reducible first | exact HB.out | apply below_alloc | apply pw_below_drewN | apply below_drew1 | refine below_set ?_ (IsS123.ge HI0.out)) | exact HB.out)); rintro e w9 ⟨rfl, hi, hb, hk⟩; refine ⟨_, rfl, ?_⟩; have n0_ := Aside0.mk (KeepBut.trans (by repeat (first | (with_reducible first | exact HK.out | apply KeepBut.set_ | apply keep_drewN | apply keep_drew | apply keep_alloc) | exact HK.out)) hk (.inl rfl)); have n1_ := Aside0.mk (hb); have n2_ := Aside0.mk (hi); clear HK; clear HB; clear HI0; have HK := n0_; have HB := n1_; have HI0 := n2_; clear n0_ n1_ n2_; (try clear hb); (try clear hb2); (try clear hk); (try clear hi)))
    go_ret
    exact ⟨by first | rfl | (simp [errW_none, errW_some] <;> rfl) | (simp [*, errW_none, errW_some] <;> rfl), by repeat (first | (with_reducible first | exact HI0.out | apply IsS123.alloc | apply IsS123.drewN | apply IsS123.drew | apply IsS123.set_0 | apply IsS123.set_1) | exact HI0.out), by repeat (first | (with_reducible first | exact HB.out | apply below_alloc | apply pw_below_drewN | apply below_drew1 | refine below_set ?_ (IsS123.ge HI0.out)) | exact HB.out), by repeat (first | (with_reducible first | exact HK.out | apply KeepBut.set_ | apply keep_drewN | apply keep_drew | apply keep_alloc) | exact HK.out)⟩

end Go.Proofs.YtcbaojkfffodiaaDoor.PCla
