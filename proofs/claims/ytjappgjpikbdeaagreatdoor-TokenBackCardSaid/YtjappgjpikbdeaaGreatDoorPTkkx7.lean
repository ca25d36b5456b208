-- written by wip/myprint.py over the kit's print; not a printed text of print.sh
import Derived.Test.YtjappgjpikbdeaaGreatDoorPTkkx0
import Derived.Test.YtjappgjpikbdeaaGreatDoorPTkkx3
import Derived.Test.YtjappgjpikbdeaaGreatDoorPTkkx5
import Derived.Test.YtjappgjpikbdeaaGreatDoorPTkkx6
namespace Go.Proofs.YtjappgjpikbdeaaGreatDoor.PTkk
open Go.RowKit Go.Proofs.YtjappgjpikbdeaaGreatDoorW.PrintWords Go.Proofs.YtjappgjpikbdeaaGreatDoorW.PrintLast Go.Proofs.YtjappgjpikbdeaaGreatDoorW.PrintMore
attribute [local go_sem] max2_int min2_int max_two min_two max_three min_three max_four min_four   -- for this text's walks alone
set_option linter.unusedVariables false
set_option linter.unusedSimpArgs false

/-! ### pairs_Store_Del: function 60 -/
set_option maxHeartbeats 4000000 in
set_option maxRecDepth 100000 in
theorem st_del_no (base g : Nat) (v : Value) (l : List S82) (key : ByteArray) (w : World) (h : StoreIs base g v l w) (hl : l.length ≤ 1000000000) (hh : hasK l key = false) :
    Calls Tryz.prog 60 #[.pointer (some ⟨g, 0, none⟩), .string key] w (StPost base g v (delK l key) (.bool false) w) := by
  have hdel : delK l key = l := by unfold delK; rw [hh, if_neg (by simp)]
  rw [hdel]
  go_enter Tryz.func60, Tryz.ntmps60
  go_wp2_with fail
  refine (st_at base g l key _ h.at_ hl).mono ?_
  rintro e w2 ⟨rfl, hb2⟩
  rw [hh]
  have hfin : StPost base g v l (.bool false) w (.returned (.bool false)) w2 := ⟨rfl, v, ⟨h.1, h.2.1, blk_below h.2.2.1 hb2, own_below h.2.2.2 hb2⟩, StoreW.of_below hb2, .inl rfl⟩
  replace hfin := Aside0.mk hfin
  clear h hb2 hdel
  go_wp2
  go_ret
  exact hfin.out
set_option maxHeartbeats 4000000 in
set_option maxRecDepth 100000 in
theorem st_del_has (base g : Nat) (v : Value) (l : List S82) (key : ByteArray) (w : World) (h : StoreIs base g v l w) (hl : l.length ≤ 1000000000) (hh : hasK l key = true) :
    Calls Tryz.prog 60 #[.pointer (some ⟨g, 0, none⟩), .string key] w (StPost base g v (delK l key) (.bool true) w) := by
  obtain ⟨hp, _⟩ := hasK_lt hh
  obtain ⟨h0, h1, h2, h3⟩ := id h
  have hdel : delK l key = l.take (posK l key) ++ l.drop (posK l key + 1) := by unfold delK; rw [hh, if_pos rfl]
  have hsort := sortK_del h1 key
  rw [hdel] at hsort ⊢
  obtain ⟨A, c, rfl, hnc, hc63⟩ := row_slice h3
  go_enter Tryz.func60, Tryz.ntmps60
  go_wp2_with fail
  refine (st_at base g l key _ h.at_ hl).mono ?_
  rintro e w2 ⟨rfl, hb2⟩
  rw [hh]
  have g2 := blk_below h2 hb2
  have o2 := own_below h3 hb2
  have y0 : w2.cell? ⟨g, 0, none⟩ = some (.slice A l.length c) := (blk_cell g2 0).trans rfl
  have W2 := Aside0.mk (StoreW.of_below hb2 : StoreW g (.slice A l.length c) w w2)
  have hsz := hb2.size
  have G2 := Aside0.mk g2
  have O2 := Aside0.mk o2
  clear h h2 h3 hb2 hdel g2 o2
  go_wp2_with fail
  refine (del_calls base (.slice A l.length c) l (posK l key) _ hl hp O2.out).mono ?_
  rintro e w3 ⟨v3, rfl, o3, gr3, at3⟩
  obtain ⟨A3, c3, e3, _, _⟩ := row_slice o3
  subst e3
  have ng : some g ≠ (Value.slice A l.length c).ownBlock := own_ne O2.out G2.out (by decide)
  have g3 := blk_grown G2.out gr3 ng
  have y3 : w3.cell? ⟨g, 0, none⟩ = some (.slice A l.length c) := (blk_cell g3 0).trans rfl
  have z3 := blk_frozen g3 0
  have at4 : (Value.slice A3 (l.take (posK l key) ++ l.drop (posK l key + 1)).length c3).ownBlock = (Value.slice A l.length c).ownBlock ∨ ∃ b, (Value.slice A3 (l.take (posK l key) ++ l.drop (posK l key + 1)).length c3).ownBlock = some b ∧ w.heap.size ≤ b := at3.imp_right (fun ⟨b, h1, h2⟩ => ⟨b, h1, by omega⟩)
  have hfin : StPost base g (.slice A l.length c) (l.take (posK l key) ++ l.drop (posK l key + 1)) (.bool true) w (.returned (.bool true)) (w3.setCell ⟨g, 0, none⟩ (.slice A3 (l.take (posK l key) ++ l.drop (posK l key + 1)).length c3)) :=
    ⟨rfl, _, ⟨h0, hsort, blk_put g3 0 _ rfl, own_setCell o3 (p := ⟨g, 0, none⟩) (own_ne o3 g3 (by decide)) _⟩, (W2.out.trans (StoreW.of_grown gr3) (.inl rfl)).trans (StoreW.set g _ w3 0 _) at4, at4⟩
  replace hfin := Aside0.mk hfin
  clear g3 o3 gr3 at3 at4 hsort W2 G2 O2 y0 ng
  go_wp2
  go_ret
  have h2 := hfin.out
  simp only [List.length_append, List.length_take, List.length_drop] at h2
  exact h2
theorem st_set (base g : Nat) (v : Value) (l : List S82) (key value : ByteArray) (w : World) (h : StoreIs base g v l w) (hl : l.length ≤ 1000000000) (hb : base ≤ w.heap.size) :
    Calls Tryz.prog 84 #[.pointer (some ⟨g, 0, none⟩), .string key, .string value] w (StPost base g v (setK l key value) (.bool (!hasK l key)) w) := by
  cases hh : hasK l key with
  | true => exact st_set_has base g v l key value w h hl hb hh
  | false => exact st_set_new base g v l key value w h hl hb hh
theorem st_del (base g : Nat) (v : Value) (l : List S82) (key : ByteArray) (w : World) (h : StoreIs base g v l w) (hl : l.length ≤ 1000000000) :
    Calls Tryz.prog 60 #[.pointer (some ⟨g, 0, none⟩), .string key] w (StPost base g v (delK l key) (.bool (hasK l key)) w) := by
  cases hh : hasK l key with
  | true => exact st_del_has base g v l key w h hl hh
  | false => exact st_del_no base g v l key w h hl hh
set_option maxHeartbeats 1000000 in
set_option maxRecDepth 100000 in
theorem clone_calls (A : Option Addr) (c : Nat) (l : List S82) (w : World) (hl : l.length ≤ 1000000000) (hn : A = none → l = [])
    (hc : ∀ a, A = some a → ∀ j u, (encP l)[j]? = some u → w.cell? (a.add j) = some u) :
    Calls Tryz.prog 86 #[.slice A l.length c] w fun e w' => ∃ v', e = .returned v' ∧ w'.ownsRow w.heap.size 82 2 v' l.length (encP l) ∧ Below w.heap.size w w' := by
  have e0 : ∀ (n c : Nat) w, (binOp .eql 35 (.slice A n c) (.slice none 0 0)).run Tryz.prog w = .ok (.bool A.isNone) w := fun n c w => Lib.run_eql_slice_nil w 35 82 A n c 0 0 Tryz.underlying35
  cases A with
  | none =>
    obtain rfl := hn rfl
    have e0 := fun w => e0 0 c w
    go_enter Tryz.func86, Tryz.ntmps86
    go_wp2
    go_ret
    exact ⟨_, rfl, World.ownsRow_nil _ _ _ _, Below.refl _ _⟩
  | some a =>
    have e0 := fun w => e0 l.length c w
    obtain ⟨i0, hi0, hz⟩ := Option.map_eq_some_iff.1 info82
    simp only [Prod.mk.injEq] at hz
    obtain ⟨hz0, hzs, hzb⟩ := hz
    have hown : (w.alloc (.cells #[] 82)).ownsRow w.heap.size 82 2 (.slice (some ⟨w.heap.size, 0, none⟩) 0 0) 0 [] := World.ownsRow_made w #[] 0 (Nat.le_refl _) (by unfold maxLen; omega) rfl
    obtain ⟨v1, w1, hrun, h1, h2, _, h3⟩ := run_append_own_at (P := Tryz.prog) (w := w.alloc (.cells #[] 82)) w.heap.size 35 35 82 i0 _ 2 32 Tryz.underlying35 hi0 hz0 hzs hzb rfl (by decide) _ 0 [] hown a l.length c (encP l) (encP_len l)
      (fun j u hj => by
        have h := hc a rfl j u hj
        exact Lib.cell?_alloc_some _ h) (encP_one l) (by unfold maxLen; omega) (by omega) (by rw [my_alloc_size]; omega)
    rw [Nat.zero_add, List.nil_append] at h1
    have hfin : ∃ v', Ending.returned v1 = .returned v' ∧ w1.ownsRow w.heap.size 82 2 v' l.length (encP l) ∧ Below w.heap.size w w1 := ⟨v1, rfl, h1, ((Below.refl _ w).alloc (Nat.le_refl _) _).grown h2 (by rw [my_alloc_size]; omega) (fun k hk => by have hk : w.heap.size = k := Option.some.inj hk; omega)⟩
    replace hfin := Aside0.mk hfin
    obtain ⟨A1, c1, rfl, _, _⟩ := row_slice h1
    clear h1 h2 h3 hown hc hz0 hzs hzb hi0
    go_enter Tryz.func86, Tryz.ntmps86
    go_wp2_with (at_builtin; refine Lib.wpList_append_run _ rfl _ _ _ _ rfl _ _ rfl rfl _ _ hrun ?_)
    go_ret
    exact hfin.out

/-! ### stringslite_HasPrefix: function 109 -/
def stringslite_HasPrefix.f (a0 : ByteArray) (a1 : ByteArray) : Option (Bool) := if (a0.size : Int) ≥ (a1.size : Int) then (if 0 ≤ (a1.size : Int) then (if (a1.size : Int) ≤ (a0.size : Int) then (some ((a0.extract 0 ((a1.size : Int) : Int).toNat).toList == a1.toList)) else (none)) else (none)) else (some false)
set_option maxHeartbeats 8000000 in
set_option maxRecDepth 100000 in
theorem stringslite_HasPrefix.calls (a0 : ByteArray) (a1 : ByteArray) (r : Bool) (w : World) (h : stringslite_HasPrefix.f a0 a1 = some r) :
    Calls Tryz.prog 109 #[.string a0, .string a1] w fun e w' => e = .returned (.bool r) ∧ Drawn0 w w' := by
  have H : (if (a0.size : Int) ≥ (a1.size : Int) then (if 0 ≤ (a1.size : Int) then (if (a1.size : Int) ≤ (a0.size : Int) then (some ((a0.extract 0 ((a1.size : Int) : Int).toNat).toList == a1.toList)) else (none)) else (none)) else (some false)) = some r := h
  clear h
  by_cases c3 : (a0.size : Int) ≥ (a1.size : Int)
  · rw [if_pos c3] at H
    have c3b0 : decide ((a1.size : Int) ≤ (a0.size : Int)) = true := decide_eq_true c3
    have c3b1 : decide (a1.size ≤ a0.size) = true := decide_eq_true (Int.ofNat_le.mp c3)
    clear c3
    by_cases c4 : 0 ≤ (a1.size : Int)
    · rw [if_pos c4] at H
      have c4b0 := eq_true c4
      have c4b1 : decide (0 ≤ (a1.size : Int)) = true := decide_eq_true c4
      clear c4
      by_cases c5 : (a1.size : Int) ≤ (a0.size : Int)
      · rw [if_pos c5] at H
        have c5b0 := eq_true c5
        have c5b1 : decide ((a1.size : Int) ≤ (a0.size : Int)) = true := decide_eq_true c5
        clear c5
        obtain rfl := Option.some.inj H
        go_enter Tryz.func109, Tryz.ntmps109
        go_wp2
        go_ret
        exact ⟨by first | rfl | (simp; done) | (simp [*]; done), by repeat (first | exact Drawn0.refl _ | apply Drawn0.step)⟩
      · rw [if_neg c5] at H
        exact absurd H (by simp)
    · rw [if_neg c4] at H
      exact absurd H (by simp)
  · rw [if_neg c3] at H
    have c3b0 : decide ((a1.size : Int) ≤ (a0.size : Int)) = false := decide_eq_false c3
    have c3b1 : decide (a1.size ≤ a0.size) = false := decide_eq_false (fun h => c3 (Int.ofNat_le.mpr h))
    clear c3
    obtain rfl := Option.some.inj H
    go_enter Tryz.func109, Tryz.ntmps109
    go_wp2
    go_ret
    exact ⟨by first | rfl | (simp; done) | (simp [*]; done), by repeat (first | exact Drawn0.refl _ | apply Drawn0.step)⟩

/-! ### strings_HasPrefix: function 97 -/
def strings_HasPrefix.f (a0 : ByteArray) (a1 : ByteArray) : Option (Bool) := (stringslite_HasPrefix.f a0 a1).bind fun t119 => (some t119)
set_option maxHeartbeats 8000000 in
set_option maxRecDepth 100000 in
theorem strings_HasPrefix.calls (a0 : ByteArray) (a1 : ByteArray) (r : Bool) (w : World) (h : strings_HasPrefix.f a0 a1 = some r) :
    Calls Tryz.prog 97 #[.string a0, .string a1] w fun e w' => e = .returned (.bool r) ∧ Drawn0 w w' := by
  have H : ((stringslite_HasPrefix.f a0 a1).bind fun t119 => (some t119)) = some r := h
  clear h
  replace H := Option.bind_eq_some_iff.mp H
  obtain ⟨t119, A30, H⟩ := H
  replace H : (some t119) = some r := H
  have A3 := Aside0.mk A30
  clear A30
  obtain rfl := Option.some.inj H
  go_enter Tryz.func97, Tryz.ntmps97
  go_wp2_with (first | ((with_reducible refine gate_callee (f := 109) rfl ?_); refine goesL_ (some 7) rfl rfl Tryz.func109 (by kernel_rfl) rfl #[.string a0, .string a1] rfl (by (try simp only [List.map_toArray, List.map_cons, List.map_nil]); first | done | rfl | (simp only [List.length_drop, List.length_take]; rfl)) ?_; (with_reducible refine (stringslite_HasPrefix.calls a0 a1 t119 _ A3.out).mono ?_); rintro e w' ⟨rfl, ⟨nd, rfl⟩⟩; refine ⟨_, rfl, ?_⟩))
  go_ret
  exact ⟨by first | rfl | (simp; done) | (simp [*]; done), by repeat (first | exact Drawn0.refl _ | apply Drawn0.step)⟩

end Go.Proofs.YtjappgjpikbdeaaGreatDoor.PTkk
