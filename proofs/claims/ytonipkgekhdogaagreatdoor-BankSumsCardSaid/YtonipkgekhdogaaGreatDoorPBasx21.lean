-- written by wip/myprint.py over the kit's print; not a printed text of print.sh
import Derived.Test.YtonipkgekhdogaaGreatDoorPBasx0
import Derived.Test.YtonipkgekhdogaaGreatDoorPBasx11
import Derived.Test.YtonipkgekhdogaaGreatDoorPBasx17
import Derived.Test.YtonipkgekhdogaaGreatDoorPBasx18
import Derived.Test.YtonipkgekhdogaaGreatDoorPBasx19
import Derived.Test.YtonipkgekhdogaaGreatDoorPBasx20
namespace Go.Proofs.YtonipkgekhdogaaGreatDoor.PBas
open Go.RowKit Go.Proofs.YtonipkgekhdogaaGreatDoorW.PrintWords Go.Proofs.YtonipkgekhdogaaGreatDoorW.PrintLast Go.Proofs.YtonipkgekhdogaaGreatDoorW.PrintMore
attribute [local go_sem] max2_int min2_int max_two min_two max_three min_three max_four min_four   -- for this text's walks alone
set_option linter.unusedVariables false
set_option linter.unusedSimpArgs false

/-! ### bank_Give: function 22 -/
-- @break
theorem bkChk_0 {n : Int} {l : List ByteArray} (h : bkChk n l = 0) : 1 ≤ n ∧ n ≤ 1099511627776 := by
  unfold bkChk at h
  split at h
  · split at h
    · exact absurd h (by decide)
    · omega
  · exact absurd h (by decide)
theorem door0 {P : Program} {fn : Func} {tmps : Array Value} {R : Ending → World → Prop} {w : World} {v : Value} (h : (results fn tmps).run P w = .ok v w) (hr : R (.returned v) w) : Leaves P fn tmps R [] .returning w := ⟨v, h, hr⟩
theorem leaves_tmps {P : Program} {fn : Func} {t1 t2 : Array Value} {R : Ending → World → Prop} (h : ∀ w, (results fn t1).run P w = (results fn t2).run P w) : ∀ (ds : List Deferred) (u : FrameMode) (w : World), Leaves P fn t1 R ds u w → Leaves P fn t2 R ds u w
  | [], .returning, w, ⟨v, h1, h2⟩ => ⟨v, (h w).symm.trans h1, h2⟩
  | [], .panicking _, _, hr => hr
  | [], .run, _, hr => hr
  | _ :: ds, _, _, ⟨hu, fv, cap, f, args, ht, hi, hC⟩ => ⟨hu, fv, cap, f, args, ht, hi, hC.mono (fun e u' w' hx => by
      cases e with
      | returned v => exact leaves_tmps h ds _ _ hx
      | panicked c => exact leaves_tmps h ds _ _ hx
      | outgrown => exact hx)⟩
theorem put_other {a : Act} {N t : Nat} (hn : N ≠ t) (v : Value) : (a.put (some N) v).tmps.getD t undef = a.tmps.getD t undef := by
  show (a.tmps.setIfInBounds N v).getD t undef = _
  simp [Array.getD_eq_getD_getElem?, Array.getElem?_setIfInBounds, hn]
theorem panic_put {P : Program} {fn : Func} {R : Ending → World → Prop} {t N : Nat} (hr : fn.results = #[.tmp t]) (hn : N ≠ t) (c : List PanicEntry) (a : Act) (v : Value) (w : World) (h : bodyPostD P fn R (.panic c) (a.put (some N) v) w) : bodyPostD P fn R (.panic c) a w := by
  have hd : (a.put (some N) v).defers = a.defers := rfl
  refine leaves_tmps (t1 := (a.put (some N) v).tmps) (fun w => ?_) _ _ _ (hd ▸ h)
  rw [results_tmp hr, results_tmp hr, put_other hn]
theorem hmf_ (fn : Fn) (first cap : Array Value) (w : World) : (Instr.makeFunc fn first cap).run Tryz.prog w = .ok (.func fn first cap) w := rfl
set_option maxHeartbeats 4000000 in
set_option maxRecDepth 100000 in
theorem bk_give1 {base g : Nat} {ok : Nat → Prop} {w0 : World} {cur : List S73} (gj ga gm : Nat) (A n : Int) {w : World} {u : FrameMode} (h : JS base ok w0 g cur w) (hk : KV 1000000 cur) (z0 : w.heap[gj]? = some (.cells #[.pointer (some ⟨g, 0, none⟩)] 24 (0, 0))) (z1 : w.heap[ga]? = some (.cells #[.int .i64 A] 3 (0, 0))) (z2 : w.heap[gm]? = some (.cells #[.int .i64 n] 3 (0, 0))) (hw : wrap64 (A + n) = A + n) :
    CallsD Tryz.prog 52 #[.pointer (some ⟨gj, 0, none⟩), .pointer (some ⟨ga, 0, none⟩), .pointer (some ⟨gm, 0, none⟩)] u w fun e u' w' => u' = u ∧ e = .returned (.tuple #[]) ∧ JS base ok w0 g (bkSet cur (⟨#[97, 108, 108, 45, 99, 111, 105, 110, 115]⟩ : ByteArray) (A + n)) w' ∧ JK w w' := by
  have q0 : w.cell? ⟨gj, 0, none⟩ = some (.pointer (some ⟨g, 0, none⟩)) := (blk_cell z0 0).trans rfl
  have q1 : w.cell? ⟨ga, 0, none⟩ = some (.int .i64 A) := (blk_cell z1 0).trans rfl
  have q2 : w.cell? ⟨gm, 0, none⟩ = some (.int .i64 n) := (blk_cell z2 0).trans rfl
  have HJ := Aside0.mk h
  have HW := Aside0.mk hw
  clear h hw z0 z1 z2
  go_enter_d Tryz.func52, Tryz.ntmps52
  go_wp2_with fail
  refine (bk_set (⟨#[97, 108, 108, 45, 99, 111, 105, 110, 115]⟩ : ByteArray) _ HJ.out hk).mono ?_
  rintro e w1 ⟨rfl, hj, hk1⟩
  rw [HW.out] at hj
  have HJ1 := Aside0.mk hj
  have HK1 := Aside0.mk hk1
  clear hj hk1
  go_wp2
  go_end0
  exact ⟨rfl, HJ1.out, HK1.out⟩
set_option maxHeartbeats 4000000 in
set_option maxRecDepth 100000 in
theorem bk_take1 {base g : Nat} {ok : Nat → Prop} {w0 : World} {cur : List S73} (gj ga gm : Nat) (A n : Int) {w : World} {u : FrameMode} (h : JS base ok w0 g cur w) (hk : KV 1000000 cur) (z0 : w.heap[gj]? = some (.cells #[.pointer (some ⟨g, 0, none⟩)] 24 (0, 0))) (z1 : w.heap[ga]? = some (.cells #[.int .i64 A] 3 (0, 0))) (z2 : w.heap[gm]? = some (.cells #[.int .i64 n] 3 (0, 0))) (hw : wrap64 (A - n) = A - n) :
    CallsD Tryz.prog 54 #[.pointer (some ⟨gj, 0, none⟩), .pointer (some ⟨ga, 0, none⟩), .pointer (some ⟨gm, 0, none⟩)] u w fun e u' w' => u' = u ∧ e = .returned (.tuple #[]) ∧ JS base ok w0 g (bkSet cur (⟨#[97, 108, 108, 45, 99, 111, 105, 110, 115]⟩ : ByteArray) (A - n)) w' ∧ JK w w' := by
  have q0 : w.cell? ⟨gj, 0, none⟩ = some (.pointer (some ⟨g, 0, none⟩)) := (blk_cell z0 0).trans rfl
  have q1 : w.cell? ⟨ga, 0, none⟩ = some (.int .i64 A) := (blk_cell z1 0).trans rfl
  have q2 : w.cell? ⟨gm, 0, none⟩ = some (.int .i64 n) := (blk_cell z2 0).trans rfl
  have HJ := Aside0.mk h
  have HW := Aside0.mk hw
  clear h hw z0 z1 z2
  go_enter_d Tryz.func54, Tryz.ntmps54
  go_wp2_with fail
  refine (bk_set (⟨#[97, 108, 108, 45, 99, 111, 105, 110, 115]⟩ : ByteArray) _ HJ.out hk).mono ?_
  rintro e w1 ⟨rfl, hj, hk1⟩
  rw [HW.out] at hj
  have HJ1 := Aside0.mk hj
  have HK1 := Aside0.mk hk1
  clear hj hk1
  go_wp2
  go_end0
  exact ⟨rfl, HJ1.out, HK1.out⟩
set_option maxHeartbeats 4000000 in
set_option maxRecDepth 100000 in
theorem bk_pay {base g : Nat} {ok : Nat → Prop} {w0 : World} {cur : List S73} (a b : ByteArray) (n x : Int) (cur' : List S73) {w : World} (h : JS base ok w0 g cur w) (hk : KV 100000 cur) (ha : a.size ≤ 50000) (hb0 : b.size ≤ 50000) (hx : bkPayE cur a b n = x) (hcur : bkPay cur a b n = cur') :
    Calls Tryz.prog 23 #[.pointer (some ⟨g, 0, none⟩), .string a, .string b, .int .i64 n] w fun e w' => e = .returned (.int .i64 x) ∧ JS base ok w0 g cur' w' ∧ JK w w' := by
  unfold bkPay at hcur
  rw [hx] at hcur
  obtain ⟨k0, hc⟩ : ∃ z, bkChk n [a, b] = z := ⟨_, rfl⟩
  obtain ⟨O, hO⟩ : ∃ z, bkOf cur a = z := ⟨_, rfl⟩
  have bdO : 0 ≤ O ∧ O ≤ 9007199254740992 := by rw [← hO]; exact numK_bd _ _
  unfold bkPayE at hx
  rw [hc, hO] at hx
  have hk1 := hk.mono (show 100000 ≤ 1000000 by omega)
  have hp1 : bkPay1 cur a n = bkSet cur (keyB (⟨#[99, 111, 105, 110, 115]⟩ : ByteArray) [a]) (O - n) := by unfold bkPay1; rw [hO]
  rw [hp1] at hcur
  obtain ⟨ka, keya⟩ := bkKey_ev a (Nat.le_trans ha (by decide))
  obtain ⟨kb, keyb⟩ := bkKey_ev b (Nat.le_trans hb0 (by decide))
  have hkA := (bkSet_KV hk (keyB (⟨#[99, 111, 105, 110, 115]⟩ : ByteArray) [a]) (O - n)).mono (show 100001 ≤ 1000000 by omega)
  generalize keyB (⟨#[99, 111, 105, 110, 115]⟩ : ByteArray) [a] = kA at keya hcur hkA
  generalize hkb : keyB (⟨#[99, 111, 105, 110, 115]⟩ : ByteArray) [b] = kB at keyb hcur
  generalize hcA : bkSet cur kA (O - n) = cA at hcur hkA
  have HC := Aside0.mk hcA
  clear hcA
  obtain ⟨Q, hQ⟩ : ∃ z, bkOf cA b = z := ⟨_, rfl⟩
  have bdQ : 0 ≤ Q ∧ Q ≤ 9007199254740992 := by rw [← hQ]; exact numK_bd _ _
  rw [hQ] at hcur
  obtain ⟨y1, hy1⟩ : ∃ y : List ByteArray, y = [a, b] := ⟨_, rfl⟩
  rw [← hy1] at hc
  have hys : ∀ s ∈ y1, s.size ≤ 140737488351232 := by
    rw [hy1]
    intro s hs
    simp only [List.mem_cons, List.not_mem_nil, or_false] at hs
    rcases hs with rfl | rfl <;> omega
  have hyl : y1.length ≤ 1000 := by rw [hy1]; show 2 ≤ 1000; omega
  have Ny1 := Aside0.mk hy1
  clear hy1 hp1 hkb
  have HJ := Aside0.mk h
  have HK := Aside0.mk (JK.of_below (Below.refl w.heap.size w))
  clear h
  go_enter Tryz.func23, Tryz.ntmps23
  go_wp2_with (first | ((with_reducible refine gate_dst (N := 15) rfl ?_); (try (refine gate_guard (by rfl) ?_; dsimp only)); refine Kd.R_lit Kd.string _ 9 ?hg (N := 15) ?hd (xs := ([a, b] : List ByteArray)) (inner := [.string a, .string b]) (ok := fun _ => True) (okp := fun _ => True) ?hr ?hp (fun _ hk => hk) trivial (Below.refl _ _) (Nat.le_refl _) (by simp) ?_; (case hd => rfl); (case hg => rfl); (case hr => first | (go_simp; done) | (go_simp; rfl)); (case hp => exact (Reps.one (show Kd.M Kd.string _ _ _ a [.string a] from rfl) (Reps.one (show Kd.M Kd.string _ _ _ b [.string b] from rfl) (Reps.none _ _)))); intro vlit wy1 hlit hb hg_ hnew_; clear hg_ hnew_; rw [← Ny1.out] at hlit; obtain ⟨Ay1, cy1, el_⟩ := Kd.R_slice hlit; subst el_; have Ry1 := Aside0.mk hlit; clear hlit; have n_HK := Aside0.mk (HK.out.trans (JK.of_below hb)); have n_HJ := Aside0.mk (JS.below (base := base) (ok := ok) (w0 := w0) (g := g) (cur := cur) (by first | exact HJ.out | ((with_reducible repeat (first | apply JS.drewN | apply JS.drew | apply JS.alloc)); exact HJ.out)) hb); clear HK HJ; have HK := n_HK; have HJ := n_HJ; clear n_HK n_HJ; clear hb))
  refine (bk_check g n Ay1 cy1 y1 k0 (Kd.R_reads' Ry1.out).2.2 (Kd.R_reads' Ry1.out).2.1 hys hyl hc).mono ?_
  rintro e w1 ⟨rfl, hb⟩
  have n_HK := Aside0.mk (HK.out.trans (JK.of_below hb))
  have n_HJ := Aside0.mk (JS.below (base := base) (ok := ok) (w0 := w0) (g := g) (cur := cur) (by first | exact HJ.out | ((with_reducible repeat (first | apply JS.drewN | apply JS.drew | apply JS.alloc)); exact HJ.out)) hb)
  clear HK HJ
  have HK := n_HK
  have HJ := n_HJ
  clear n_HK n_HJ
  clear hb
  clear Ry1 Ny1
  by_cases z0 : k0 = 0
  · subst z0
    rw [if_pos rfl] at hx
    have bdn := bkChk_0 hc
    go_wp2_with fail
    refine (bk_of a O HJ.out hk1 (Nat.le_trans ha (by decide)) hO).mono ?_
    rintro e w2 ⟨rfl, hb⟩
    have n_HK := Aside0.mk (HK.out.trans (JK.of_below hb))
    have n_HJ := Aside0.mk (JS.below (base := base) (ok := ok) (w0 := w0) (g := g) (cur := cur) (by first | exact HJ.out | ((with_reducible repeat (first | apply JS.drewN | apply JS.drew | apply JS.alloc)); exact HJ.out)) hb)
    clear HK HJ
    have HK := n_HK
    have HJ := n_HJ
    clear n_HK n_HJ
    clear hb
    by_cases hlt : O < n
    · rw [if_pos hlt] at hx
      subst hx
      rw [if_neg (by decide)] at hcur
      subst hcur
      go_wp2
      go_ret
      exact ⟨rfl, HJ.out, HK.out⟩
    · rw [if_neg hlt] at hx
      subst hx
      rw [if_pos rfl] at hcur
      subst hcur
      have HW1 := Aside0.mk (show wrap64 (O - n) = O - n from w64 (by omega) (by omega))
      have HW2 := Aside0.mk (show wrap64 (Q + n) = Q + n from w64 (by omega) (by omega))
      clear bdO bdQ bdn
      go_wp2_with fail
      refine (bank_key.calls ka a kA _ keya).mono ?_
      rintro e w3 ⟨rfl, hb⟩
      have n_HK := Aside0.mk (HK.out.trans (JK.of_below hb))
      have n_HJ := Aside0.mk (JS.below (base := base) (ok := ok) (w0 := w0) (g := g) (cur := cur) (by first | exact HJ.out | ((with_reducible repeat (first | apply JS.drewN | apply JS.drew | apply JS.alloc)); exact HJ.out)) hb)
      clear HK HJ
      have HK := n_HK
      have HJ := n_HJ
      clear n_HK n_HJ
      clear hb
      go_wp2_with fail
      refine (bk_set kA _ HJ.out hk1).mono ?_
      rintro e w4 ⟨rfl, hj, hk⟩
      rw [HW1.out, HC.out] at hj
      have n_HK := Aside0.mk (HK.out.trans hk)
      have n_HJ := Aside0.mk (hj)
      clear HK HJ
      have HK := n_HK
      have HJ := n_HJ
      clear n_HK n_HJ
      clear hj hk
      go_wp2_with fail
      refine (bank_key.calls kb b kB _ keyb).mono ?_
      rintro e w5 ⟨rfl, hb⟩
      have n_HK := Aside0.mk (HK.out.trans (JK.of_below hb))
      have n_HJ := Aside0.mk (JS.below (base := base) (ok := ok) (w0 := w0) (g := g) (cur := cA) (by first | exact HJ.out | ((with_reducible repeat (first | apply JS.drewN | apply JS.drew | apply JS.alloc)); exact HJ.out)) hb)
      clear HK HJ
      have HK := n_HK
      have HJ := n_HJ
      clear n_HK n_HJ
      clear hb
      go_wp2_with fail
      refine (bk_of b Q HJ.out hkA (Nat.le_trans hb0 (by decide)) hQ).mono ?_
      rintro e w6 ⟨rfl, hb⟩
      have n_HK := Aside0.mk (HK.out.trans (JK.of_below hb))
      have n_HJ := Aside0.mk (JS.below (base := base) (ok := ok) (w0 := w0) (g := g) (cur := cA) (by first | exact HJ.out | ((with_reducible repeat (first | apply JS.drewN | apply JS.drew | apply JS.alloc)); exact HJ.out)) hb)
      clear HK HJ
      have HK := n_HK
      have HJ := n_HJ
      clear n_HK n_HJ
      clear hb
      go_wp2_with fail
      refine (bk_set kB _ HJ.out hkA).mono ?_
      rintro e w7 ⟨rfl, hj, hk⟩
      rw [HW2.out] at hj
      have n_HK := Aside0.mk (HK.out.trans hk)
      have n_HJ := Aside0.mk (hj)
      clear HK HJ
      have HK := n_HK
      have HJ := n_HJ
      clear n_HK n_HJ
      clear hj hk
      go_wp2
      go_ret
      exact ⟨rfl, HJ.out, HK.out⟩
  · rw [if_neg z0] at hx
    subst hx
    rw [if_neg z0] at hcur
    subst hcur
    go_wp2
    go_ret
    exact ⟨rfl, HJ.out, HK.out⟩
set_option maxHeartbeats 4000000 in
set_option maxRecDepth 100000 in
theorem bkn_pay (a b : ByteArray) (n : Int) (w : World) :
    Calls Tryz.prog 23 #[.pointer none, .string a, .string b, .int .i64 n] w fun e w' => e = .returned (.int .i64 2) ∧ Below w.heap.size w w' := by
  have HB := Aside0.mk (Below.refl w.heap.size w)
  go_enter Tryz.func23, Tryz.ntmps23
  go_wp2_with fail
  refine (bkn_check n _ _).mono ?_
  rintro e w1 ⟨rfl, hw⟩
  replace hw := hw.symm
  subst hw
  go_wp2
  go_ret
  exact ⟨rfl, by repeat (first | (with_reducible first | exact HB.out | apply below_alloc | apply pw_below_drewN | apply below_drew1) | exact HB.out)⟩
set_option maxHeartbeats 4000000 in
set_option maxRecDepth 100000 in
theorem bk_give {base g : Nat} {ok : Nat → Prop} {w0 : World} {cur : List S73} (owner : ByteArray) (n x : Int) (cur' : List S73) {w : World} (h : JS base ok w0 g cur w) (hk : KV 100000 cur) (ho : owner.size ≤ 50000) (hx : bkGiveE cur owner n = x) (hcur : bkGive cur owner n = cur') :
    Calls Tryz.prog 22 #[.pointer (some ⟨g, 0, none⟩), .string owner, .int .i64 n] w fun e w' => e = .returned (.int .i64 x) ∧ JS base ok w0 g cur' w' ∧ JK w w' := by
  unfold bkGive at hcur
  rw [hx] at hcur
  obtain ⟨k0, hc⟩ : ∃ z, bkChk n [owner] = z := ⟨_, rfl⟩
  obtain ⟨O, hO⟩ : ∃ z, bkOf cur owner = z := ⟨_, rfl⟩
  obtain ⟨A, hA⟩ : ∃ z, bkAll cur = z := ⟨_, rfl⟩
  have bdO : 0 ≤ O ∧ O ≤ 9007199254740992 := by rw [← hO]; exact numK_bd _ _
  have bdA : 0 ≤ A ∧ A ≤ 9007199254740992 := by rw [← hA]; exact numK_bd _ _
  unfold bkGiveE at hx
  rw [hc, hA] at hx
  rw [hA, hO] at hcur
  have hk1 := hk.mono (show 100000 ≤ 1000000 by omega)
  obtain ⟨ka, keya⟩ := bkKey_ev owner (Nat.le_trans ho (by decide))
  have hkA := (bkSet_KV hk (keyB (⟨#[99, 111, 105, 110, 115]⟩ : ByteArray) [owner]) (O + n)).mono (show 100001 ≤ 1000000 by omega)
  generalize keyB (⟨#[99, 111, 105, 110, 115]⟩ : ByteArray) [owner] = kA at keya hcur hkA
  obtain ⟨y1, hy1⟩ : ∃ y : List ByteArray, y = [owner] := ⟨_, rfl⟩
  rw [← hy1] at hc
  have hys : ∀ s ∈ y1, s.size ≤ 140737488351232 := by
    rw [hy1]
    intro s hs
    obtain rfl := List.mem_singleton.1 hs
    omega
  have hyl : y1.length ≤ 1000 := by rw [hy1]; show 1 ≤ 1000; omega
  have Ny1 := Aside0.mk hy1
  clear hy1
  have hmf := hmf_
  have HJ := Aside0.mk h
  have HK := Aside0.mk (JK.of_below (Below.refl w.heap.size w))
  clear h
  go_enter_defers Tryz.func22, Tryz.ntmps22
  go_wp2_with (first | ((with_reducible refine gate_dst (N := 3) rfl ?_); refine box_event ?hg (N := 3) ?hd (cs := #[.pointer (some ⟨g, 0, none⟩)]) (t := 24) ?hr ?_; (case hd => rfl); (case hg => rfl); (case hr => first | (go_simp; done) | (go_simp; rfl)); intro gbj hg wj hbox hb; have GKj := Aside0.mk ((by rw [hg]; exact JK.size (by first | exact HK.out | ((with_reducible repeat (first | apply JK.drewN | apply JK.drew | apply JK.alloc)); exact HK.out)) : w.heap.size ≤ gbj)); have GJj := Aside0.mk ((by rw [hg]; exact JS.size0 (base := base) (ok := ok) (w0 := w0) (g := g) (cur := cur) (by first | exact HJ.out | ((with_reducible repeat (first | apply JS.drewN | apply JS.drew | apply JS.alloc)); exact HJ.out)) : w0.heap.size ≤ gbj)); have n_HK := Aside0.mk (HK.out.trans (JK.of_below hb)); have n_HJ := Aside0.mk (JS.below (base := base) (ok := ok) (w0 := w0) (g := g) (cur := cur) (by first | exact HJ.out | ((with_reducible repeat (first | apply JS.drewN | apply JS.drew | apply JS.alloc)); exact HJ.out)) hb); clear HK HJ; have HK := n_HK; have HJ := n_HJ; clear n_HK n_HJ; have BKj := Aside0.mk hbox; clear hb hbox hg; have zj_0 : World.cell? _ ⟨gbj, 0, none⟩ = some (.pointer (some ⟨g, 0, none⟩)) := (blk_cell BKj.out 0).trans rfl; have fj_0 := blk_frozen BKj.out 0) | ((with_reducible refine gate_dst (N := 5) rfl ?_); refine box_event ?hg (N := 5) ?hd (cs := #[.int .i64 n]) (t := 3) ?hr ?_; (case hd => rfl); (case hg => rfl); (case hr => first | (go_simp; done) | (go_simp; rfl)); intro gbm hg wm hbox hb; have GKm := Aside0.mk ((by rw [hg]; exact JK.size (by first | exact HK.out | ((with_reducible repeat (first | apply JK.drewN | apply JK.drew | apply JK.alloc)); exact HK.out)) : w.heap.size ≤ gbm)); have GJm := Aside0.mk ((by rw [hg]; exact JS.size0 (base := base) (ok := ok) (w0 := w0) (g := g) (cur := cur) (by first | exact HJ.out | ((with_reducible repeat (first | apply JS.drewN | apply JS.drew | apply JS.alloc)); exact HJ.out)) : w0.heap.size ≤ gbm)); have NBj_m := Aside0.mk ((by rw [hg]; exact Nat.ne_of_lt (blk_lt (g := gbj) (o := .cells #[.pointer (some ⟨g, 0, none⟩)] 24 (0, 0)) (by first | exact BKj.out | ((with_reducible repeat (first | refine blk_drewN ?_ _ | refine blk_drew ?_ | refine blk_alloc ?_ _)); exact BKj.out))) : gbj ≠ gbm)); have NBm_j := Aside0.mk ((by rw [hg]; exact Nat.ne_of_gt (blk_lt (g := gbj) (o := .cells #[.pointer (some ⟨g, 0, none⟩)] 24 (0, 0)) (by first | exact BKj.out | ((with_reducible repeat (first | refine blk_drewN ?_ _ | refine blk_drew ?_ | refine blk_alloc ?_ _)); exact BKj.out))) : gbm ≠ gbj)); have n_HK := Aside0.mk (HK.out.trans (JK.of_below hb)); have n_HJ := Aside0.mk (JS.below (base := base) (ok := ok) (w0 := w0) (g := g) (cur := cur) (by first | exact HJ.out | ((with_reducible repeat (first | apply JS.drewN | apply JS.drew | apply JS.alloc)); exact HJ.out)) hb); have n_BKj := Aside0.mk (blk_below (g := gbj) (o := .cells #[.pointer (some ⟨g, 0, none⟩)] 24 (0, 0)) (by first | exact BKj.out | ((with_reducible repeat (first | refine blk_drewN ?_ _ | refine blk_drew ?_ | refine blk_alloc ?_ _)); exact BKj.out)) hb); clear HK HJ BKj; have HK := n_HK; have HJ := n_HJ; have BKj := n_BKj; clear n_HK n_HJ n_BKj; have BKm := Aside0.mk hbox; clear hb hbox hg; have zm_0 : World.cell? _ ⟨gbm, 0, none⟩ = some (.int .i64 n) := (blk_cell BKm.out 0).trans rfl; have fm_0 := blk_frozen BKm.out 0; have hnmj := NBm_j.out; have hmmj := NBj_m.out; have zj_0 : World.cell? _ ⟨gbj, 0, none⟩ = some (.pointer (some ⟨g, 0, none⟩)) := (blk_cell BKj.out 0).trans rfl; have fj_0 := blk_frozen BKj.out 0; have hnjm := NBj_m.out; have hmjm := NBm_j.out) | ((with_reducible refine gate_dst (N := 12) rfl ?_); (try (refine gate_guard (by rfl) ?_; dsimp only)); refine Kd.R_lit Kd.string _ 9 ?hg (N := 12) ?hd (xs := ([owner] : List ByteArray)) (inner := [.string owner]) (ok := fun _ => True) (okp := fun _ => True) ?hr ?hp (fun _ hk => hk) trivial (Below.refl _ _) (Nat.le_refl _) (by simp) ?_; (case hd => rfl); (case hg => rfl); (case hr => first | (go_simp; done) | (go_simp; rfl)); (case hp => exact (Reps.one (show Kd.M Kd.string _ _ _ owner [.string owner] from rfl) (Reps.none _ _))); intro vlit wy1 hlit hb hg_ hnew_; clear hg_ hnew_; rw [← Ny1.out] at hlit; obtain ⟨Ay1, cy1, el_⟩ := Kd.R_slice hlit; subst el_; have Ry1 := Aside0.mk hlit; clear hlit; have n_HK := Aside0.mk (HK.out.trans (JK.of_below hb)); have n_HJ := Aside0.mk (JS.below (base := base) (ok := ok) (w0 := w0) (g := g) (cur := cur) (by first | exact HJ.out | ((with_reducible repeat (first | apply JS.drewN | apply JS.drew | apply JS.alloc)); exact HJ.out)) hb); have n_BKj := Aside0.mk (blk_below (g := gbj) (o := .cells #[.pointer (some ⟨g, 0, none⟩)] 24 (0, 0)) (by first | exact BKj.out | ((with_reducible repeat (first | refine blk_drewN ?_ _ | refine blk_drew ?_ | refine blk_alloc ?_ _)); exact BKj.out)) hb); have n_BKm := Aside0.mk (blk_below (g := gbm) (o := .cells #[.int .i64 n] 3 (0, 0)) (by first | exact BKm.out | ((with_reducible repeat (first | refine blk_drewN ?_ _ | refine blk_drew ?_ | refine blk_alloc ?_ _)); exact BKm.out)) hb); clear HK HJ BKj BKm; have HK := n_HK; have HJ := n_HJ; have BKj := n_BKj; have BKm := n_BKm; clear n_HK n_HJ n_BKj n_BKm; clear hb))
  refine (bk_check g n Ay1 cy1 y1 k0 (Kd.R_reads' Ry1.out).2.2 (Kd.R_reads' Ry1.out).2.1 hys hyl hc).mono ?_
  rintro e w1 ⟨rfl, hb⟩
  have n_HK := Aside0.mk (HK.out.trans (JK.of_below hb))
  have n_HJ := Aside0.mk (JS.below (base := base) (ok := ok) (w0 := w0) (g := g) (cur := cur) (by first | exact HJ.out | ((with_reducible repeat (first | apply JS.drewN | apply JS.drew | apply JS.alloc)); exact HJ.out)) hb)
  have n_BKj := Aside0.mk (blk_below (g := gbj) (o := .cells #[.pointer (some ⟨g, 0, none⟩)] 24 (0, 0)) (by first | exact BKj.out | ((with_reducible repeat (first | refine blk_drewN ?_ _ | refine blk_drew ?_ | refine blk_alloc ?_ _)); exact BKj.out)) hb)
  have n_BKm := Aside0.mk (blk_below (g := gbm) (o := .cells #[.int .i64 n] 3 (0, 0)) (by first | exact BKm.out | ((with_reducible repeat (first | refine blk_drewN ?_ _ | refine blk_drew ?_ | refine blk_alloc ?_ _)); exact BKm.out)) hb)
  clear HK HJ BKj BKm
  have HK := n_HK
  have HJ := n_HJ
  have BKj := n_BKj
  have BKm := n_BKm
  clear n_HK n_HJ n_BKj n_BKm
  clear hb
  have zj_0 : World.cell? _ ⟨gbj, 0, none⟩ = some (.pointer (some ⟨g, 0, none⟩)) := (blk_cell BKj.out 0).trans rfl
  have fj_0 := blk_frozen BKj.out 0
  have hnjm := NBj_m.out
  have hmjm := NBm_j.out
  have zm_0 : World.cell? _ ⟨gbm, 0, none⟩ = some (.int .i64 n) := (blk_cell BKm.out 0).trans rfl
  have fm_0 := blk_frozen BKm.out 0
  have hnmj := NBm_j.out
  have hmmj := NBj_m.out
  clear Ry1 Ny1
  by_cases z0 : k0 = 0
  · subst z0
    rw [if_pos rfl] at hx
    have bdn := bkChk_0 hc
    go_wp2_with fail
    refine (bk_all A HJ.out hk1 hA).mono ?_
    rintro e w2 ⟨rfl, hb⟩
    have n_HK := Aside0.mk (HK.out.trans (JK.of_below hb))
    have n_HJ := Aside0.mk (JS.below (base := base) (ok := ok) (w0 := w0) (g := g) (cur := cur) (by first | exact HJ.out | ((with_reducible repeat (first | apply JS.drewN | apply JS.drew | apply JS.alloc)); exact HJ.out)) hb)
    have n_BKj := Aside0.mk (blk_below (g := gbj) (o := .cells #[.pointer (some ⟨g, 0, none⟩)] 24 (0, 0)) (by first | exact BKj.out | ((with_reducible repeat (first | refine blk_drewN ?_ _ | refine blk_drew ?_ | refine blk_alloc ?_ _)); exact BKj.out)) hb)
    have n_BKm := Aside0.mk (blk_below (g := gbm) (o := .cells #[.int .i64 n] 3 (0, 0)) (by first | exact BKm.out | ((with_reducible repeat (first | refine blk_drewN ?_ _ | refine blk_drew ?_ | refine blk_alloc ?_ _)); exact BKm.out)) hb)
    clear HK HJ BKj BKm
    have HK := n_HK
    have HJ := n_HJ
    have BKj := n_BKj
    have BKm := n_BKm
    clear n_HK n_HJ n_BKj n_BKm
    clear hb
    have zj_0 : World.cell? _ ⟨gbj, 0, none⟩ = some (.pointer (some ⟨g, 0, none⟩)) := (blk_cell BKj.out 0).trans rfl
    have fj_0 := blk_frozen BKj.out 0
    have hnjm := NBj_m.out
    have hmjm := NBm_j.out
    have zm_0 : World.cell? _ ⟨gbm, 0, none⟩ = some (.int .i64 n) := (blk_cell BKm.out 0).trans rfl
    have fm_0 := blk_frozen BKm.out 0
    have hnmj := NBm_j.out
    have hmmj := NBj_m.out
    have hws : wrap64 (1099511627776 - A) = 1099511627776 - A := w64 (by omega) (by omega)
    have hws2 : IntKind.i64.wrap (1099511627776 - A) = 1099511627776 - A := (i64_w _).trans hws
    have HW1 := Aside0.mk (show wrap64 (O + n) = O + n from w64 (by omega) (by omega))
    have HW2 := Aside0.mk (show wrap64 (A + n) = A + n from w64 (by omega) (by omega))
    clear bdO bdA bdn
    by_cases hgt : 1099511627776 - A < n
    · rw [if_pos hgt] at hx
      subst hx
      rw [if_neg (by decide)] at hcur
      subst hcur
      go_wp2_with (first | ((with_reducible refine gate_dst (N := 8) rfl ?_); refine box_event ?hg (N := 8) ?hd (cs := #[.int .i64 0]) (t := 3) ?hr ?_; (case hd => rfl); (case hg => rfl); (case hr => first | (go_simp; done) | (go_simp; rfl)); intro gba hg wa hbox hb; have GKa := Aside0.mk ((by rw [hg]; exact JK.size (by first | exact HK.out | ((with_reducible repeat (first | apply JK.drewN | apply JK.drew | apply JK.alloc)); exact HK.out)) : w.heap.size ≤ gba)); have GJa := Aside0.mk ((by rw [hg]; exact JS.size0 (base := base) (ok := ok) (w0 := w0) (g := g) (cur := cur) (by first | exact HJ.out | ((with_reducible repeat (first | apply JS.drewN | apply JS.drew | apply JS.alloc)); exact HJ.out)) : w0.heap.size ≤ gba)); have NBj_a := Aside0.mk ((by rw [hg]; exact Nat.ne_of_lt (blk_lt (g := gbj) (o := .cells #[.pointer (some ⟨g, 0, none⟩)] 24 (0, 0)) (by first | exact BKj.out | ((with_reducible repeat (first | refine blk_drewN ?_ _ | refine blk_drew ?_ | refine blk_alloc ?_ _)); exact BKj.out))) : gbj ≠ gba)); have NBa_j := Aside0.mk ((by rw [hg]; exact Nat.ne_of_gt (blk_lt (g := gbj) (o := .cells #[.pointer (some ⟨g, 0, none⟩)] 24 (0, 0)) (by first | exact BKj.out | ((with_reducible repeat (first | refine blk_drewN ?_ _ | refine blk_drew ?_ | refine blk_alloc ?_ _)); exact BKj.out))) : gba ≠ gbj)); have NBm_a := Aside0.mk ((by rw [hg]; exact Nat.ne_of_lt (blk_lt (g := gbm) (o := .cells #[.int .i64 n] 3 (0, 0)) (by first | exact BKm.out | ((with_reducible repeat (first | refine blk_drewN ?_ _ | refine blk_drew ?_ | refine blk_alloc ?_ _)); exact BKm.out))) : gbm ≠ gba)); have NBa_m := Aside0.mk ((by rw [hg]; exact Nat.ne_of_gt (blk_lt (g := gbm) (o := .cells #[.int .i64 n] 3 (0, 0)) (by first | exact BKm.out | ((with_reducible repeat (first | refine blk_drewN ?_ _ | refine blk_drew ?_ | refine blk_alloc ?_ _)); exact BKm.out))) : gba ≠ gbm)); have n_HK := Aside0.mk (HK.out.trans (JK.of_below hb)); have n_HJ := Aside0.mk (JS.below (base := base) (ok := ok) (w0 := w0) (g := g) (cur := cur) (by first | exact HJ.out | ((with_reducible repeat (first | apply JS.drewN | apply JS.drew | apply JS.alloc)); exact HJ.out)) hb); have n_BKj := Aside0.mk (blk_below (g := gbj) (o := .cells #[.pointer (some ⟨g, 0, none⟩)] 24 (0, 0)) (by first | exact BKj.out | ((with_reducible repeat (first | refine blk_drewN ?_ _ | refine blk_drew ?_ | refine blk_alloc ?_ _)); exact BKj.out)) hb); have n_BKm := Aside0.mk (blk_below (g := gbm) (o := .cells #[.int .i64 n] 3 (0, 0)) (by first | exact BKm.out | ((with_reducible repeat (first | refine blk_drewN ?_ _ | refine blk_drew ?_ | refine blk_alloc ?_ _)); exact BKm.out)) hb); clear HK HJ BKj BKm; have HK := n_HK; have HJ := n_HJ; have BKj := n_BKj; have BKm := n_BKm; clear n_HK n_HJ n_BKj n_BKm; have BKa := Aside0.mk hbox; clear hb hbox hg; have za_0 : World.cell? _ ⟨gba, 0, none⟩ = some (.int .i64 0) := (blk_cell BKa.out 0).trans rfl; have fa_0 := blk_frozen BKa.out 0; have hnaj := NBa_j.out; have hmaj := NBj_a.out; have hnam := NBa_m.out; have hmam := NBm_a.out; have zj_0 : World.cell? _ ⟨gbj, 0, none⟩ = some (.pointer (some ⟨g, 0, none⟩)) := (blk_cell BKj.out 0).trans rfl; have fj_0 := blk_frozen BKj.out 0; have hnjm := NBj_m.out; have hmjm := NBm_j.out; have hnja := NBj_a.out; have hmja := NBa_j.out; have zm_0 : World.cell? _ ⟨gbm, 0, none⟩ = some (.int .i64 n) := (blk_cell BKm.out 0).trans rfl; have fm_0 := blk_frozen BKm.out 0; have hnmj := NBm_j.out; have hmmj := NBj_m.out; have hnma := NBm_a.out; have hmma := NBa_m.out))
      first | exact ⟨_, results_tmp rfl _ _ _, rfl, by (with_reducible repeat (first | apply JS.drewN | apply JS.drew | apply JS.alloc)); refine JS.setb (q := 3) ?_ GJa.out (by first | exact BKa.out | ((with_reducible repeat (first | refine blk_drewN ?_ _ | refine blk_drew ?_ | refine blk_alloc ?_ _)); exact BKa.out)) _ (by decide); (with_reducible repeat (first | apply JS.drewN | apply JS.drew | apply JS.alloc)); exact HJ.out, by (with_reducible repeat (first | apply JK.drewN | apply JK.drew | apply JK.alloc)); refine JK.setb ?_ GKa.out _; (with_reducible repeat (first | apply JK.drewN | apply JK.drew | apply JK.alloc)); exact HK.out⟩ | (go_ret; exact ⟨rfl, by (with_reducible repeat (first | apply JS.drewN | apply JS.drew | apply JS.alloc)); refine JS.setb (q := 3) ?_ GJa.out (by first | exact BKa.out | ((with_reducible repeat (first | refine blk_drewN ?_ _ | refine blk_drew ?_ | refine blk_alloc ?_ _)); exact BKa.out)) _ (by decide); (with_reducible repeat (first | apply JS.drewN | apply JS.drew | apply JS.alloc)); exact HJ.out, by (with_reducible repeat (first | apply JK.drewN | apply JK.drew | apply JK.alloc)); refine JK.setb ?_ GKa.out _; (with_reducible repeat (first | apply JK.drewN | apply JK.drew | apply JK.alloc)); exact HK.out⟩)
    · rw [if_neg hgt] at hx
      subst hx
      rw [if_pos rfl] at hcur
      subst hcur
      go_upto_region 8 with (first | ((with_reducible refine gate_dst (N := 8) rfl ?_); refine box_event ?hg (N := 8) ?hd (cs := #[.int .i64 0]) (t := 3) ?hr ?_; (case hd => rfl); (case hg => rfl); (case hr => first | (go_simp; done) | (go_simp; rfl)); intro gba hg wa hbox hb; have GKa := Aside0.mk ((by rw [hg]; exact JK.size (by first | exact HK.out | ((with_reducible repeat (first | apply JK.drewN | apply JK.drew | apply JK.alloc)); exact HK.out)) : w.heap.size ≤ gba)); have GJa := Aside0.mk ((by rw [hg]; exact JS.size0 (base := base) (ok := ok) (w0 := w0) (g := g) (cur := cur) (by first | exact HJ.out | ((with_reducible repeat (first | apply JS.drewN | apply JS.drew | apply JS.alloc)); exact HJ.out)) : w0.heap.size ≤ gba)); have NBj_a := Aside0.mk ((by rw [hg]; exact Nat.ne_of_lt (blk_lt (g := gbj) (o := .cells #[.pointer (some ⟨g, 0, none⟩)] 24 (0, 0)) (by first | exact BKj.out | ((with_reducible repeat (first | refine blk_drewN ?_ _ | refine blk_drew ?_ | refine blk_alloc ?_ _)); exact BKj.out))) : gbj ≠ gba)); have NBa_j := Aside0.mk ((by rw [hg]; exact Nat.ne_of_gt (blk_lt (g := gbj) (o := .cells #[.pointer (some ⟨g, 0, none⟩)] 24 (0, 0)) (by first | exact BKj.out | ((with_reducible repeat (first | refine blk_drewN ?_ _ | refine blk_drew ?_ | refine blk_alloc ?_ _)); exact BKj.out))) : gba ≠ gbj)); have NBm_a := Aside0.mk ((by rw [hg]; exact Nat.ne_of_lt (blk_lt (g := gbm) (o := .cells #[.int .i64 n] 3 (0, 0)) (by first | exact BKm.out | ((with_reducible repeat (first | refine blk_drewN ?_ _ | refine blk_drew ?_ | refine blk_alloc ?_ _)); exact BKm.out))) : gbm ≠ gba)); have NBa_m := Aside0.mk ((by rw [hg]; exact Nat.ne_of_gt (blk_lt (g := gbm) (o := .cells #[.int .i64 n] 3 (0, 0)) (by first | exact BKm.out | ((with_reducible repeat (first | refine blk_drewN ?_ _ | refine blk_drew ?_ | refine blk_alloc ?_ _)); exact BKm.out))) : gba ≠ gbm)); have n_HK := Aside0.mk (HK.out.trans (JK.of_below hb)); have n_HJ := Aside0.mk (JS.below (base := base) (ok := ok) (w0 := w0) (g := g) (cur := cur) (by first | exact HJ.out | ((with_reducible repeat (first | apply JS.drewN | apply JS.drew | apply JS.alloc)); exact HJ.out)) hb); have n_BKj := Aside0.mk (blk_below (g := gbj) (o := .cells #[.pointer (some ⟨g, 0, none⟩)] 24 (0, 0)) (by first | exact BKj.out | ((with_reducible repeat (first | refine blk_drewN ?_ _ | refine blk_drew ?_ | refine blk_alloc ?_ _)); exact BKj.out)) hb); have n_BKm := Aside0.mk (blk_below (g := gbm) (o := .cells #[.int .i64 n] 3 (0, 0)) (by first | exact BKm.out | ((with_reducible repeat (first | refine blk_drewN ?_ _ | refine blk_drew ?_ | refine blk_alloc ?_ _)); exact BKm.out)) hb); clear HK HJ BKj BKm; have HK := n_HK; have HJ := n_HJ; have BKj := n_BKj; have BKm := n_BKm; clear n_HK n_HJ n_BKj n_BKm; have BKa := Aside0.mk hbox; clear hb hbox hg; have za_0 : World.cell? _ ⟨gba, 0, none⟩ = some (.int .i64 0) := (blk_cell BKa.out 0).trans rfl; have fa_0 := blk_frozen BKa.out 0; have hnaj := NBa_j.out; have hmaj := NBj_a.out; have hnam := NBa_m.out; have hmam := NBm_a.out; have zj_0 : World.cell? _ ⟨gbj, 0, none⟩ = some (.pointer (some ⟨g, 0, none⟩)) := (blk_cell BKj.out 0).trans rfl; have fj_0 := blk_frozen BKj.out 0; have hnjm := NBj_m.out; have hmjm := NBm_j.out; have hnja := NBj_a.out; have hmja := NBa_j.out; have zm_0 : World.cell? _ ⟨gbm, 0, none⟩ = some (.int .i64 n) := (blk_cell BKm.out 0).trans rfl; have fm_0 := blk_frozen BKm.out 0; have hnmj := NBm_j.out; have hmmj := NBj_m.out; have hnma := NBm_a.out; have hmma := NBa_m.out))
      refine start_ (n := 9) (S := fun w' => HeldC gbj #[.pointer (some ⟨g, 0, none⟩)] 24 w' ∧ HeldC gbm #[.int .i64 n] 3 w') (ds := []) #[false, false, false, false, false, false, false, false, false] (by kernel_rfl) rfl rfl ⟨HeldC.of (by (with_reducible repeat (first | refine blk_drewN ?_ _ | refine blk_drew ?_ | refine blk_alloc ?_ _)); refine blk_far ?_ NBj_a.out _; (with_reducible repeat (first | refine blk_drewN ?_ _ | refine blk_drew ?_ | refine blk_alloc ?_ _)); exact BKj.out), HeldC.of (by (with_reducible repeat (first | refine blk_drewN ?_ _ | refine blk_drew ?_ | refine blk_alloc ?_ _)); refine blk_far ?_ NBm_a.out _; (with_reducible repeat (first | refine blk_drewN ?_ _ | refine blk_drew ?_ | refine blk_alloc ?_ _)); exact BKm.out)⟩ (fun hHeld => ?_)
      have n_HJ := at_world hHeld.1 (F := fun Y => JS base ok w0 g cur Y) (by (with_reducible repeat (first | apply JS.drewN | apply JS.drew | apply JS.alloc)); refine JS.setb (q := 3) ?_ GJa.out (by first | exact BKa.out | ((with_reducible repeat (first | refine blk_drewN ?_ _ | refine blk_drew ?_ | refine blk_alloc ?_ _)); exact BKa.out)) _ (by decide); (with_reducible repeat (first | apply JS.drewN | apply JS.drew | apply JS.alloc)); exact HJ.out)
      have n_HK := at_world hHeld.1 (F := fun Y => JK w Y) (by (with_reducible repeat (first | apply JK.drewN | apply JK.drew | apply JK.alloc)); refine JK.setb ?_ GKa.out _; (with_reducible repeat (first | apply JK.drewN | apply JK.drew | apply JK.alloc)); exact HK.out)
      have n_BKj := at_world hHeld.1 (F := fun Y => Y.heap[gbj]? = some (.cells #[.pointer (some ⟨g, 0, none⟩)] 24 (0, 0))) (by (with_reducible repeat (first | refine blk_drewN ?_ _ | refine blk_drew ?_ | refine blk_alloc ?_ _)); refine blk_far ?_ NBj_a.out _; (with_reducible repeat (first | refine blk_drewN ?_ _ | refine blk_drew ?_ | refine blk_alloc ?_ _)); exact BKj.out)
      have n_BKm := at_world hHeld.1 (F := fun Y => Y.heap[gbm]? = some (.cells #[.int .i64 n] 3 (0, 0))) (by (with_reducible repeat (first | refine blk_drewN ?_ _ | refine blk_drew ?_ | refine blk_alloc ?_ _)); refine blk_far ?_ NBm_a.out _; (with_reducible repeat (first | refine blk_drewN ?_ _ | refine blk_drew ?_ | refine blk_alloc ?_ _)); exact BKm.out)
      have n_BKa := at_world hHeld.1 (F := fun Y => Y.heap[gba]? = some (.cells #[.int .i64 A] 3 (0, 0))) (by (with_reducible repeat (first | refine blk_drewN ?_ _ | refine blk_drew ?_ | refine blk_alloc ?_ _)); refine blk_put (cs := #[.int .i64 0]) ?_ 0 _ rfl; (with_reducible repeat (first | refine blk_drewN ?_ _ | refine blk_drew ?_ | refine blk_alloc ?_ _)); exact BKa.out)
      clear HJ HK BKj BKm BKa
      have HJ := n_HJ
      have HK := n_HK
      have BKj := n_BKj
      have BKm := n_BKm
      have BKa := n_BKa
      clear n_HJ n_HK n_BKj n_BKm n_BKa
      refine take_ (i := 0) (N := some 24) (v := ?_) (a' := ?_) #[true, false, false, false, false, false, false, false, false] rfl rfl (by kernel_rfl) (fun c a w h => panic_put (t := 6) (N := 24) rfl (by decide) c a _ w h) (Or.inl ⟨by rfl, ?_⟩) hHeld ?_ ?_
      rotate_left
      · rintro w' ⟨s0, s1⟩
        have t0 : w'.cell? ⟨gbj, 0, none⟩ = some (.pointer (some ⟨g, 0, none⟩)) := (blk_cell (HeldC.blk s0) 0).trans rfl
        have t1 : w'.cell? ⟨gbm, 0, none⟩ = some (.int .i64 n) := (blk_cell (HeldC.blk s1) 0).trans rfl
        go_simp
        with_reducible rfl
      rotate_left
      · simp only [Act.put, List.setIfInBounds_toArray, List.set_cons_zero, List.set_cons_succ, i64_w, i32_w]
        rfl
      refine pure_ (i := 1) (N := some 25) (v := ?_) (a' := ?_) #[true, true, false, false, false, false, false, false, false] rfl rfl (by kernel_rfl) (fun c a w h => panic_put (t := 6) (N := 25) rfl (by decide) c a _ w h) (Or.inl ⟨by rfl, ?_⟩) ?_ ?_
      rotate_left
      · intro w'
        go_simp
        with_reducible rfl
      rotate_left
      · simp only [Act.put, List.setIfInBounds_toArray, List.set_cons_zero, List.set_cons_succ, i64_w, i32_w]
        rfl
      refine take_ (i := 3) (N := some 27) (v := ?_) (a' := ?_) #[true, true, false, true, false, false, false, false, false] rfl rfl (by kernel_rfl) (fun c a w h => panic_put (t := 6) (N := 27) rfl (by decide) c a _ w h) (Or.inl ⟨by rfl, ?_⟩) hHeld ?_ ?_
      rotate_left
      · rintro w' ⟨s0, s1⟩
        have t0 : w'.cell? ⟨gbj, 0, none⟩ = some (.pointer (some ⟨g, 0, none⟩)) := (blk_cell (HeldC.blk s0) 0).trans rfl
        have t1 : w'.cell? ⟨gbm, 0, none⟩ = some (.int .i64 n) := (blk_cell (HeldC.blk s1) 0).trans rfl
        go_simp
        with_reducible rfl
      rotate_left
      · simp only [Act.put, List.setIfInBounds_toArray, List.set_cons_zero, List.set_cons_succ, i64_w, i32_w]
        rfl
      refine pure_ (i := 4) (N := some 28) (v := ?_) (a' := ?_) #[true, true, false, true, true, false, false, false, false] rfl rfl (by kernel_rfl) (fun c a w h => panic_put (t := 6) (N := 28) rfl (by decide) c a _ w h) (Or.inl ⟨by rfl, ?_⟩) ?_ ?_
      rotate_left
      · intro w'
        go_simp
        with_reducible rfl
      rotate_left
      · simp only [Act.put, List.setIfInBounds_toArray, List.set_cons_zero, List.set_cons_succ, i64_w, i32_w]
        rfl
      refine take_ (i := 6) (N := some 30) (v := ?_) (a' := ?_) #[true, true, false, true, true, false, true, false, false] rfl rfl (by kernel_rfl) (fun c a w h => panic_put (t := 6) (N := 30) rfl (by decide) c a _ w h) (Or.inl ⟨by rfl, ?_⟩) hHeld ?_ ?_
      rotate_left
      · rintro w' ⟨s0, s1⟩
        have t0 : w'.cell? ⟨gbj, 0, none⟩ = some (.pointer (some ⟨g, 0, none⟩)) := (blk_cell (HeldC.blk s0) 0).trans rfl
        have t1 : w'.cell? ⟨gbm, 0, none⟩ = some (.int .i64 n) := (blk_cell (HeldC.blk s1) 0).trans rfl
        go_simp
        with_reducible rfl
      rotate_left
      · simp only [Act.put, List.setIfInBounds_toArray, List.set_cons_zero, List.set_cons_succ, i64_w, i32_w]
        rfl
      refine one_ (i := 2) (N := some 26) #[true, true, true, true, true, false, true, false, false] rfl rfl (by kernel_rfl) (by decide) (fun K hK => ?_)
      refine goes_ Tryz.func31 (by kernel_rfl) rfl #[.string owner] (by rfl) rfl rfl (by (try simp only [List.map_toArray, List.map_cons, List.map_nil]); first | done | rfl) ?_
      refine (bank_key.calls ka owner kA _ keya).mono ?_
      rintro e w5 ⟨rfl, hb⟩
      refine ⟨_, rfl, ?_⟩
      have n_HK := Aside0.mk (HK.out.trans (JK.of_below hb))
      have n_HJ := Aside0.mk (JS.below (base := base) (ok := ok) (w0 := w0) (g := g) (cur := cur) (by first | exact HJ.out | ((with_reducible repeat (first | apply JS.drewN | apply JS.drew | apply JS.alloc)); exact HJ.out)) hb)
      have n_BKj := Aside0.mk (blk_below (g := gbj) (o := .cells #[.pointer (some ⟨g, 0, none⟩)] 24 (0, 0)) (by first | exact BKj.out | ((with_reducible repeat (first | refine blk_drewN ?_ _ | refine blk_drew ?_ | refine blk_alloc ?_ _)); exact BKj.out)) hb)
      have n_BKm := Aside0.mk (blk_below (g := gbm) (o := .cells #[.int .i64 n] 3 (0, 0)) (by first | exact BKm.out | ((with_reducible repeat (first | refine blk_drewN ?_ _ | refine blk_drew ?_ | refine blk_alloc ?_ _)); exact BKm.out)) hb)
      have n_BKa := Aside0.mk (blk_below (g := gba) (o := .cells #[.int .i64 A] 3 (0, 0)) (by first | exact BKa.out | ((with_reducible repeat (first | refine blk_drewN ?_ _ | refine blk_drew ?_ | refine blk_alloc ?_ _)); exact BKa.out)) hb)
      clear HK HJ BKj BKm BKa
      have HK := n_HK
      have HJ := n_HJ
      have BKj := n_BKj
      have BKm := n_BKm
      have BKa := n_BKa
      clear n_HK n_HJ n_BKj n_BKm n_BKa
      clear hb
      refine hK.out _ _ ⟨HeldC.of BKj.out, HeldC.of BKm.out⟩ (fun hHeld => ?_)
      clear hK K
      refine norm_ (a' := ?_) ?_ ?_
      rotate_left
      · show Act.put _ (some 26) _ = _
        simp only [Act.put, List.setIfInBounds_toArray, List.set_cons_zero, List.set_cons_succ, i64_w, i32_w]
        rfl
      refine one_ (i := 5) (N := some 29) #[true, true, true, true, true, true, true, false, false] rfl rfl (by kernel_rfl) (by decide) (fun K hK => ?_)
      refine goes_ Tryz.func11 (by kernel_rfl) rfl #[.pointer (some ⟨g, 0, none⟩), .string owner] (by rfl) rfl rfl (by (try simp only [List.map_toArray, List.map_cons, List.map_nil]); first | done | rfl) ?_
      refine (bk_of owner O HJ.out hk1 (Nat.le_trans ho (by decide)) hO).mono ?_
      rintro e w6 ⟨rfl, hb⟩
      refine ⟨_, rfl, ?_⟩
      have n_HK := Aside0.mk (HK.out.trans (JK.of_below hb))
      have n_HJ := Aside0.mk (JS.below (base := base) (ok := ok) (w0 := w0) (g := g) (cur := cur) (by first | exact HJ.out | ((with_reducible repeat (first | apply JS.drewN | apply JS.drew | apply JS.alloc)); exact HJ.out)) hb)
      have n_BKj := Aside0.mk (blk_below (g := gbj) (o := .cells #[.pointer (some ⟨g, 0, none⟩)] 24 (0, 0)) (by first | exact BKj.out | ((with_reducible repeat (first | refine blk_drewN ?_ _ | refine blk_drew ?_ | refine blk_alloc ?_ _)); exact BKj.out)) hb)
      have n_BKm := Aside0.mk (blk_below (g := gbm) (o := .cells #[.int .i64 n] 3 (0, 0)) (by first | exact BKm.out | ((with_reducible repeat (first | refine blk_drewN ?_ _ | refine blk_drew ?_ | refine blk_alloc ?_ _)); exact BKm.out)) hb)
      have n_BKa := Aside0.mk (blk_below (g := gba) (o := .cells #[.int .i64 A] 3 (0, 0)) (by first | exact BKa.out | ((with_reducible repeat (first | refine blk_drewN ?_ _ | refine blk_drew ?_ | refine blk_alloc ?_ _)); exact BKa.out)) hb)
      clear HK HJ BKj BKm BKa
      have HK := n_HK
      have HJ := n_HJ
      have BKj := n_BKj
      have BKm := n_BKm
      have BKa := n_BKa
      clear n_HK n_HJ n_BKj n_BKm n_BKa
      clear hb
      refine hK.out _ _ ⟨HeldC.of BKj.out, HeldC.of BKm.out⟩ (fun hHeld => ?_)
      clear hK K
      refine norm_ (a' := ?_) ?_ ?_
      rotate_left
      · show Act.put _ (some 29) _ = _
        simp only [Act.put, List.setIfInBounds_toArray, List.set_cons_zero, List.set_cons_succ, i64_w, i32_w]
        rfl
      refine pure_ (i := 7) (N := some 31) (v := ?_) (a' := ?_) #[true, true, true, true, true, true, true, true, false] rfl rfl (by kernel_rfl) (fun c a w h => panic_put (t := 6) (N := 31) rfl (by decide) c a _ w h) (Or.inl ⟨by rfl, ?_⟩) ?_ ?_
      rotate_left
      · intro w'
        go_simp
        with_reducible rfl
      rotate_left
      · simp only [Act.put, List.setIfInBounds_toArray, List.set_cons_zero, List.set_cons_succ, i64_w, i32_w]
        rfl
      refine one_ (i := 8) (N := some 32) #[true, true, true, true, true, true, true, true, true] rfl rfl (by kernel_rfl) (by decide) (fun K hK => ?_)
      refine goes_ Tryz.func53 (by kernel_rfl) rfl #[.pointer (some ⟨g, 0, none⟩), .string kA, .int .i64 (wrap64 (O + n))] (by rfl) rfl rfl (by (try simp only [List.map_toArray, List.map_cons, List.map_nil]); first | done | rfl) ?_
      refine (bk_set kA (wrap64 (O + n)) HJ.out hk1).mono ?_
      rintro e w7 ⟨rfl, hj, hk⟩
      rw [HW1.out] at hj
      refine ⟨_, rfl, ?_⟩
      have n_HK := Aside0.mk (HK.out.trans hk)
      have n_HJ := Aside0.mk (hj)
      have n_BKj := Aside0.mk (JK.blk (b := gbj) (c := #[.pointer (some ⟨g, 0, none⟩)]) (q := 24) (x := (0, 0)) hk (by first | exact BKj.out | ((with_reducible repeat (first | refine blk_drewN ?_ _ | refine blk_drew ?_ | refine blk_alloc ?_ _)); exact BKj.out)) (by decide))
      have n_BKm := Aside0.mk (JK.blk (b := gbm) (c := #[.int .i64 n]) (q := 3) (x := (0, 0)) hk (by first | exact BKm.out | ((with_reducible repeat (first | refine blk_drewN ?_ _ | refine blk_drew ?_ | refine blk_alloc ?_ _)); exact BKm.out)) (by decide))
      have n_BKa := Aside0.mk (JK.blk (b := gba) (c := #[.int .i64 A]) (q := 3) (x := (0, 0)) hk (by first | exact BKa.out | ((with_reducible repeat (first | refine blk_drewN ?_ _ | refine blk_drew ?_ | refine blk_alloc ?_ _)); exact BKa.out)) (by decide))
      clear HK HJ BKj BKm BKa
      have HK := n_HK
      have HJ := n_HJ
      have BKj := n_BKj
      have BKm := n_BKm
      have BKa := n_BKa
      clear n_HK n_HJ n_BKj n_BKm n_BKa
      clear hj hk
      refine hK.out _ _ ⟨HeldC.of BKj.out, HeldC.of BKm.out⟩ (fun hHeld => ?_)
      clear hK K
      refine norm_ (a' := ?_) ?_ ?_
      rotate_left
      · show Act.put _ (some 32) _ = _
        simp only [Act.put, List.setIfInBounds_toArray, List.set_cons_zero, List.set_cons_succ, i64_w, i32_w]
        rfl
      refine done_ (by kernel_rfl) ?_
      clear hHeld
      go_wp2
      refine leaves_cons (f := 52) (args := #[.pointer (some ⟨gbj, 0, none⟩), .pointer (some ⟨gba, 0, none⟩), .pointer (some ⟨gbm, 0, none⟩)]) (by simp) (by simp [go_sem]) ?_
      refine (bk_give1 gbj gba gbm A n HJ.out hkA BKj.out BKa.out BKm.out HW2.out).mono ?_
      rintro e u' w9 ⟨rfl, rfl, hj, hk⟩
      exact ⟨_, results_tmp rfl _ _ _, rfl, hj, HK.out.trans hk⟩
  · rw [if_neg z0] at hx
    subst hx
    rw [if_neg z0] at hcur
    subst hcur
    go_wp2
    first | exact ⟨_, results_tmp rfl _ _ _, rfl, by first | exact HJ.out | ((with_reducible repeat (first | apply JS.drewN | apply JS.drew | apply JS.alloc)); exact HJ.out), by first | exact HK.out | ((with_reducible repeat (first | apply JK.drewN | apply JK.drew | apply JK.alloc)); exact HK.out)⟩ | (go_ret; exact ⟨rfl, by first | exact HJ.out | ((with_reducible repeat (first | apply JS.drewN | apply JS.drew | apply JS.alloc)); exact HJ.out), by first | exact HK.out | ((with_reducible repeat (first | apply JK.drewN | apply JK.drew | apply JK.alloc)); exact HK.out)⟩)
set_option maxHeartbeats 4000000 in
set_option maxRecDepth 100000 in
theorem bkn_give (owner : ByteArray) (n : Int) (w : World) :
    Calls Tryz.prog 22 #[.pointer none, .string owner, .int .i64 n] w fun e w' => e = .returned (.int .i64 2) ∧ Below w.heap.size w w' := by
  have HB := Aside0.mk (Below.refl w.heap.size w)
  have hmf := hmf_
  go_enter_defers Tryz.func22, Tryz.ntmps22
  go_wp2_with (first | ((with_reducible refine gate_dst (N := 3) rfl ?_); refine box_event ?hg (N := 3) ?hd (cs := #[.pointer none]) (t := 24) ?hr ?_; (case hd => rfl); (case hg => rfl); (case hr => first | (go_simp; done) | (go_simp; rfl)); intro gbj hg wj hbox hb; have GEj := Aside0.mk ((by rw [hg]; exact (below_size (by repeat (first | (with_reducible first | exact HB.out | apply below_alloc | apply pw_below_drewN | apply below_drew1) | exact HB.out))) : w.heap.size ≤ gbj)); have n_HB := Aside0.mk (below_step (by repeat (first | (with_reducible first | exact HB.out | apply below_alloc | apply pw_below_drewN | apply below_drew1) | exact HB.out)) hb); clear HB; have HB := n_HB; clear n_HB; have BKj := Aside0.mk hbox; clear hb hbox hg; have zj_0 : World.cell? _ ⟨gbj, 0, none⟩ = some (.pointer none) := (blk_cell BKj.out 0).trans rfl; have fj_0 := blk_frozen BKj.out 0) | ((with_reducible refine gate_dst (N := 5) rfl ?_); refine box_event ?hg (N := 5) ?hd (cs := #[.int .i64 n]) (t := 3) ?hr ?_; (case hd => rfl); (case hg => rfl); (case hr => first | (go_simp; done) | (go_simp; rfl)); intro gbm hg wm hbox hb; have GEm := Aside0.mk ((by rw [hg]; exact (below_size (by repeat (first | (with_reducible first | exact HB.out | apply below_alloc | apply pw_below_drewN | apply below_drew1 | refine below_set ?_ GEj.out) | exact HB.out))) : w.heap.size ≤ gbm)); have NBj_m := Aside0.mk ((by rw [hg]; exact Nat.ne_of_lt (blk_lt (g := gbj) (o := .cells #[.pointer none] 24 (0, 0)) (by first | exact BKj.out | ((with_reducible repeat (first | refine blk_drewN ?_ _ | refine blk_drew ?_ | refine blk_alloc ?_ _)); exact BKj.out))) : gbj ≠ gbm)); have NBm_j := Aside0.mk ((by rw [hg]; exact Nat.ne_of_gt (blk_lt (g := gbj) (o := .cells #[.pointer none] 24 (0, 0)) (by first | exact BKj.out | ((with_reducible repeat (first | refine blk_drewN ?_ _ | refine blk_drew ?_ | refine blk_alloc ?_ _)); exact BKj.out))) : gbm ≠ gbj)); have n_HB := Aside0.mk (below_step (by repeat (first | (with_reducible first | exact HB.out | apply below_alloc | apply pw_below_drewN | apply below_drew1 | refine below_set ?_ GEj.out) | exact HB.out)) hb); have n_BKj := Aside0.mk (blk_below (g := gbj) (o := .cells #[.pointer none] 24 (0, 0)) (by first | exact BKj.out | ((with_reducible repeat (first | refine blk_drewN ?_ _ | refine blk_drew ?_ | refine blk_alloc ?_ _)); exact BKj.out)) hb); clear HB BKj; have HB := n_HB; have BKj := n_BKj; clear n_HB n_BKj; have BKm := Aside0.mk hbox; clear hb hbox hg; have zm_0 : World.cell? _ ⟨gbm, 0, none⟩ = some (.int .i64 n) := (blk_cell BKm.out 0).trans rfl; have fm_0 := blk_frozen BKm.out 0; have hnmj := NBm_j.out; have hmmj := NBj_m.out; have zj_0 : World.cell? _ ⟨gbj, 0, none⟩ = some (.pointer none) := (blk_cell BKj.out 0).trans rfl; have fj_0 := blk_frozen BKj.out 0; have hnjm := NBj_m.out; have hmjm := NBm_j.out))
  refine (bkn_check n _ _).mono ?_
  rintro e w1 ⟨rfl, hw⟩
  replace hw := hw.symm
  subst hw
  go_wp2
  first | exact ⟨_, results_tmp rfl _ _ _, rfl, by repeat (first | (with_reducible first | exact HB.out | apply below_alloc | apply pw_below_drewN | apply below_drew1 | refine below_set ?_ GEj.out | refine below_set ?_ GEm.out) | exact HB.out)⟩ | (go_ret; exact ⟨rfl, by repeat (first | (with_reducible first | exact HB.out | apply below_alloc | apply pw_below_drewN | apply below_drew1 | refine below_set ?_ GEj.out | refine below_set ?_ GEm.out) | exact HB.out)⟩)

end Go.Proofs.YtonipkgekhdogaaGreatDoor.PBas
