-- written by wip/myprint.py over the kit's print; not a printed text of print.sh
import Derived.Test.YtonipkgekhdogaaGreatDoorPBasx0
import Derived.Test.YtonipkgekhdogaaGreatDoorPBasx2
import Derived.Test.YtonipkgekhdogaaGreatDoorPBasx10
import Derived.Test.YtonipkgekhdogaaGreatDoorPBasx11
import Derived.Test.YtonipkgekhdogaaGreatDoorPBasx12
import Derived.Test.YtonipkgekhdogaaGreatDoorPBasx16
import Derived.Test.YtonipkgekhdogaaGreatDoorPBasx17
import Derived.Test.YtonipkgekhdogaaGreatDoorPBasx18
namespace Go.Proofs.YtonipkgekhdogaaGreatDoor.PBas
open Go.RowKit Go.Proofs.YtonipkgekhdogaaGreatDoorW.PrintWords Go.Proofs.YtonipkgekhdogaaGreatDoorW.PrintLast Go.Proofs.YtonipkgekhdogaaGreatDoorW.PrintMore
attribute [local go_sem] max2_int min2_int max_two min_two max_three min_three max_four min_four   -- for this text's walks alone
set_option linter.unusedVariables false
set_option linter.unusedSimpArgs false

/-! ### bank_Total: function 8 -/
-- @break
theorem bkNum_is (n : Int) : ∃ er, wire_Num.f n = some (bkNum n, er) := by
  unfold bkNum
  by_cases h : n < 0 ∨ 9007199254740992 < n
  · rw [if_pos h]; unfold wire_Num.f; rw [if_pos h]; exact ⟨_, rfl⟩
  · rw [if_neg h]
    obtain ⟨m, rfl⟩ : ∃ m : Nat, n = (m : Int) := ⟨n.toNat, by omega⟩
    rw [Int.toNat_natCast]; exact ⟨_, wNum_is m (by omega)⟩
theorem numK_bd (cur : List S73) (key : ByteArray) : 0 ≤ numK cur key ∧ numK cur key ≤ 9007199254740992 := by
  unfold numK
  split
  · exact rNum_bd _ _
  · exact ⟨Int.le_refl _, by omega⟩
theorem bkKey_ev (owner : ByteArray) (h : owner.size ≤ 50000000) : ∃ k, bank_key.f k owner = some (keyB (⟨#[99, 111, 105, 110, 115]⟩ : ByteArray) [owner]) := by
  obtain ⟨k, e⟩ := key_ev (⟨#[99, 111, 105, 110, 115]⟩ : ByteArray) [owner] (by decide) (by simp) (by simpa using h)
  exact ⟨k, by unfold bank_key.f; rw [e]; rfl⟩
set_option maxHeartbeats 4000000 in
set_option maxRecDepth 100000 in
theorem bk_count {base g : Nat} {ok : Nat → Prop} {w0 : World} {cur : List S73} (key : ByteArray) (x : Int) {w : World} (h : JS base ok w0 g cur w) (hk : KV 1000000 cur) (hx : numK cur key = x) :
    Calls Tryz.prog 27 #[.pointer (some ⟨g, 0, none⟩), .string key] w fun e w' => e = .returned (.int .i64 x) ∧ Below w.heap.size w w' := by
  obtain ⟨v, hv⟩ : ∃ v, (getK cur key).1 = v := ⟨_, rfl⟩
  obtain ⟨q1, q2, q3, hq⟩ : ∃ a b c, rNum v 0 = (a, b, c) := ⟨_, _, _, rfl⟩
  have hnum : wire_Reader_Num.f v 0 = some (q1, q2, q3) := by rw [rNum_is, hq]
  have hres : numK cur key = if rDone q2 q3 = 0 then q1 else 0 := by unfold numK; rw [hv, hq]
  rw [hres] at hx
  have HJ := Aside0.mk h
  have HB := Aside0.mk (Below.refl w.heap.size w)
  clear h hq hres
  go_enter Tryz.func27, Tryz.ntmps27
  go_wp2_with fail
  refine (js_get key v _ HJ.out hk hv rfl).mono ?_
  rintro e w1 ⟨rfl, hb⟩
  have n_HB := Aside0.mk (below_step (by repeat (first | (with_reducible first | exact HB.out | apply below_alloc | apply pw_below_drewN | apply below_drew1) | exact HB.out)) hb)
  have n_HJ := Aside0.mk (JS.below (base := base) (ok := ok) (w0 := w0) (g := g) (cur := cur) (by (with_reducible repeat (first | apply JS.drewN | apply JS.drew | apply JS.alloc)); exact HJ.out) hb)
  clear HB HJ
  have HB := n_HB
  have HJ := n_HJ
  clear n_HB n_HJ
  clear hb
  clear HJ
  go_wp2_with fail
  refine (wire_New.calls v v 0 w _ (by repeat (first | (with_reducible first | exact HB.out | apply below_alloc | apply pw_below_drewN | apply below_drew1) | exact HB.out)) rfl).mono ?_
  rintro e w_1 ⟨grr, rfl, hI, _, hb⟩
  have n_HB := Aside0.mk (below_step (by repeat (first | (with_reducible first | exact HB.out | apply below_alloc | apply pw_below_drewN | apply below_drew1) | exact HB.out)) hb)
  clear HB
  have HB := n_HB
  clear n_HB
  clear hb
  have HIr := Aside0.mk hI
  clear hI
  go_wp2_with fail
  refine (wire_Reader_Num.calls grr v 0 _ _ _ w _ (by (with_reducible repeat (first | apply IsS110.drewN | apply IsS110.drew | apply IsS110.alloc)); exact HIr.out) (by repeat (first | (with_reducible first | exact HB.out | apply below_alloc | apply pw_below_drewN | apply below_drew1) | exact HB.out)) hnum).mono ?_
  rintro e w_2 ⟨rfl, hI, hB, hK⟩
  have n_HB := Aside0.mk (hB)
  have n_HIr := Aside0.mk (hI)
  clear HB HIr
  have HB := n_HB
  have HIr := n_HIr
  clear n_HB n_HIr
  clear hI hB hK
  go_wp2_with fail
  refine (wire_Reader_Done.calls grr q2 q3 _ _ _ w _ (by (with_reducible repeat (first | apply IsS110.drewN | apply IsS110.drew | apply IsS110.alloc)); exact HIr.out) (by repeat (first | (with_reducible first | exact HB.out | apply below_alloc | apply pw_below_drewN | apply below_drew1) | exact HB.out)) (rDone_is q2 q3)).mono ?_
  rintro e w_3 ⟨rfl, hI, hB, hK⟩
  have n_HB := Aside0.mk (hB)
  have n_HIr := Aside0.mk (hI)
  clear HB HIr
  have HB := n_HB
  have HIr := n_HIr
  clear n_HB n_HIr
  clear hI hB hK
  by_cases hd : rDone q2 q3 = 0
  · rw [if_pos hd] at hx
    subst hx
    go_wp2
    go_ret
    exact ⟨rfl, HB.out⟩
  · rw [if_neg hd] at hx
    subst hx
    go_wp2
    go_ret
    exact ⟨rfl, HB.out⟩
set_option maxHeartbeats 4000000 in
set_option maxRecDepth 100000 in
theorem bkn_count (key : ByteArray) (w : World) :
    Calls Tryz.prog 27 #[.pointer none, .string key] w fun e w' => e = .returned (.int .i64 0) ∧ Below w.heap.size w w' := by
  have hnum : wire_Reader_Num.f (⟨#[]⟩ : ByteArray) 0 = some (0, (⟨#[]⟩ : ByteArray), 5) := by rw [rNum_is]; rfl
  have HB := Aside0.mk (Below.refl w.heap.size w)
  go_enter Tryz.func27, Tryz.ntmps27
  go_wp2_with fail
  refine (jn_get key _).mono ?_
  rintro e w2 ⟨rfl, hb⟩
  replace hb := hb.symm
  subst hb
  go_wp2_with fail
  refine (wire_New.calls (⟨#[]⟩ : ByteArray) (⟨#[]⟩ : ByteArray) 0 w _ (by repeat (first | (with_reducible first | exact HB.out | apply below_alloc | apply pw_below_drewN | apply below_drew1) | exact HB.out)) rfl).mono ?_
  rintro e w_4 ⟨grr, rfl, hI, _, hb⟩
  have n_HB := Aside0.mk (below_step (by repeat (first | (with_reducible first | exact HB.out | apply below_alloc | apply pw_below_drewN | apply below_drew1) | exact HB.out)) hb)
  clear HB
  have HB := n_HB
  clear n_HB
  clear hb
  have HIr := Aside0.mk hI
  clear hI
  go_wp2_with fail
  refine (wire_Reader_Num.calls grr (⟨#[]⟩ : ByteArray) 0 _ _ _ w _ (by (with_reducible repeat (first | apply IsS110.drewN | apply IsS110.drew | apply IsS110.alloc)); exact HIr.out) (by repeat (first | (with_reducible first | exact HB.out | apply below_alloc | apply pw_below_drewN | apply below_drew1) | exact HB.out)) hnum).mono ?_
  rintro e w_5 ⟨rfl, hI, hB, hK⟩
  have n_HB := Aside0.mk (hB)
  have n_HIr := Aside0.mk (hI)
  clear HB HIr
  have HB := n_HB
  have HIr := n_HIr
  clear n_HB n_HIr
  clear hI hB hK
  go_wp2_with fail
  refine (wire_Reader_Done.calls grr (⟨#[]⟩ : ByteArray) 5 _ _ _ w _ (by (with_reducible repeat (first | apply IsS110.drewN | apply IsS110.drew | apply IsS110.alloc)); exact HIr.out) (by repeat (first | (with_reducible first | exact HB.out | apply below_alloc | apply pw_below_drewN | apply below_drew1) | exact HB.out)) (rDone_is (⟨#[]⟩ : ByteArray) 5)).mono ?_
  rintro e w_6 ⟨rfl, hI, hB, hK⟩
  have n_HB := Aside0.mk (hB)
  have n_HIr := Aside0.mk (hI)
  clear HB HIr
  have HB := n_HB
  have HIr := n_HIr
  clear n_HB n_HIr
  clear hI hB hK
  go_wp2
  go_ret
  exact ⟨rfl, HB.out⟩
set_option maxHeartbeats 4000000 in
set_option maxRecDepth 100000 in
theorem bk_set {base g : Nat} {ok : Nat → Prop} {w0 : World} {cur : List S73} (key : ByteArray) (n : Int) {w : World} (h : JS base ok w0 g cur w) (hk : KV 1000000 cur) :
    Calls Tryz.prog 53 #[.pointer (some ⟨g, 0, none⟩), .string key, .int .i64 n] w fun e w' => e = .returned (.tuple #[]) ∧ JS base ok w0 g (bkSet cur key n) w' ∧ JK w w' := by
  obtain ⟨cur', hcur⟩ : ∃ c, bkSet cur key n = c := ⟨_, rfl⟩
  obtain ⟨er, hnum⟩ := bkNum_is n
  obtain ⟨V, hV⟩ : ∃ V, bkNum n = V := ⟨_, rfl⟩
  rw [hcur]
  rw [hV] at hnum
  unfold bkSet at hcur
  rw [hV] at hcur
  have HJ := Aside0.mk h
  have HK := Aside0.mk (JK.of_below (Below.refl w.heap.size w))
  clear h hV
  by_cases hz : n = 0
  · subst hz
    rw [if_pos rfl] at hcur
    subst hcur
    go_enter Tryz.func53, Tryz.ntmps53
    go_wp2_with fail
    refine (js_del key HJ.out hk).mono ?_
    rintro e w1 ⟨rfl, hj, hk1⟩
    have HJ1 := Aside0.mk hj
    have HK1 := Aside0.mk hk1
    clear hj hk1
    go_wp2
    first | go_end0 | refine bodyPost_ret (results_none rfl _ _ _) rfl ?_
    exact ⟨rfl, HJ1.out, HK1.out⟩
  · rw [if_neg hz] at hcur
    subst hcur
    go_enter Tryz.func53, Tryz.ntmps53
    go_wp2_with fail
    refine (wire_Num.calls n V er _ hnum).mono ?_
    rintro e w1 ⟨rfl, hb⟩
    have HJ1 := Aside0.mk (HJ.out.below hb)
    have HK1 := Aside0.mk (JK.of_below hb)
    clear HJ HK hb
    go_wp2_with fail
    refine (js_set key V HJ1.out hk).mono ?_
    rintro e w2 ⟨rfl, hj, hk2⟩
    have HJ2 := Aside0.mk hj
    have HK2 := Aside0.mk (HK1.out.trans hk2)
    clear hj hk2
    go_wp2
    first | go_end0 | refine bodyPost_ret (results_none rfl _ _ _) rfl ?_
    exact ⟨rfl, HJ2.out, HK2.out⟩
set_option maxHeartbeats 4000000 in
set_option maxRecDepth 100000 in
theorem bk_of {base g : Nat} {ok : Nat → Prop} {w0 : World} {cur : List S73} (owner : ByteArray) (x : Int) {w : World} (h : JS base ok w0 g cur w) (hk : KV 1000000 cur) (ho : owner.size ≤ 50000000) (hx : bkOf cur owner = x) :
    Calls Tryz.prog 11 #[.pointer (some ⟨g, 0, none⟩), .string owner] w fun e w' => e = .returned (.int .i64 x) ∧ Below w.heap.size w w' := by
  obtain ⟨k1, key1⟩ := bkKey_ev owner ho
  unfold bkOf at hx
  generalize keyB (⟨#[99, 111, 105, 110, 115]⟩ : ByteArray) [owner] = key at key1 hx
  have HJ := Aside0.mk h
  have HB := Aside0.mk (Below.refl w.heap.size w)
  clear h
  go_enter Tryz.func11, Tryz.ntmps11
  go_wp2_with fail
  refine (bank_key.calls k1 owner key _ key1).mono ?_
  rintro e w1 ⟨rfl, hb⟩
  have n_HB := Aside0.mk (below_step (by repeat (first | (with_reducible first | exact HB.out | apply below_alloc | apply pw_below_drewN | apply below_drew1) | exact HB.out)) hb)
  have n_HJ := Aside0.mk (JS.below (base := base) (ok := ok) (w0 := w0) (g := g) (cur := cur) (by (with_reducible repeat (first | apply JS.drewN | apply JS.drew | apply JS.alloc)); exact HJ.out) hb)
  clear HB HJ
  have HB := n_HB
  have HJ := n_HJ
  clear n_HB n_HJ
  clear hb
  go_wp2_with fail
  refine (bk_count key x HJ.out hk hx).mono ?_
  rintro e w2 ⟨rfl, hb⟩
  have n_HB := Aside0.mk (below_step (by repeat (first | (with_reducible first | exact HB.out | apply below_alloc | apply pw_below_drewN | apply below_drew1) | exact HB.out)) hb)
  have n_HJ := Aside0.mk (JS.below (base := base) (ok := ok) (w0 := w0) (g := g) (cur := cur) (by (with_reducible repeat (first | apply JS.drewN | apply JS.drew | apply JS.alloc)); exact HJ.out) hb)
  clear HB HJ
  have HB := n_HB
  have HJ := n_HJ
  clear n_HB n_HJ
  clear hb
  go_wp2
  go_ret
  exact ⟨rfl, HB.out⟩
set_option maxHeartbeats 4000000 in
set_option maxRecDepth 100000 in
theorem bkn_of (owner : ByteArray) (ho : owner.size ≤ 50000000) (w : World) :
    Calls Tryz.prog 11 #[.pointer none, .string owner] w fun e w' => e = .returned (.int .i64 0) ∧ Below w.heap.size w w' := by
  obtain ⟨k1, key1⟩ := bkKey_ev owner ho
  generalize keyB (⟨#[99, 111, 105, 110, 115]⟩ : ByteArray) [owner] = key at key1
  have HB := Aside0.mk (Below.refl w.heap.size w)
  go_enter Tryz.func11, Tryz.ntmps11
  go_wp2_with fail
  refine (bank_key.calls k1 owner key _ key1).mono ?_
  rintro e w1 ⟨rfl, hb⟩
  have n_HB := Aside0.mk (below_step (by repeat (first | (with_reducible first | exact HB.out | apply below_alloc | apply pw_below_drewN | apply below_drew1) | exact HB.out)) hb)
  clear HB
  have HB := n_HB
  clear n_HB
  clear hb
  go_wp2_with fail
  refine (bkn_count key _).mono ?_
  rintro e w2 ⟨rfl, hb⟩
  have n_HB := Aside0.mk (below_step (by repeat (first | (with_reducible first | exact HB.out | apply below_alloc | apply pw_below_drewN | apply below_drew1) | exact HB.out)) hb)
  clear HB
  have HB := n_HB
  clear n_HB
  clear hb
  go_wp2
  go_ret
  exact ⟨rfl, HB.out⟩
set_option maxHeartbeats 4000000 in
set_option maxRecDepth 100000 in
theorem bk_all {base g : Nat} {ok : Nat → Prop} {w0 : World} {cur : List S73} (x : Int) {w : World} (h : JS base ok w0 g cur w) (hk : KV 1000000 cur) (hx : bkAll cur = x) :
    Calls Tryz.prog 8 #[.pointer (some ⟨g, 0, none⟩)] w fun e w' => e = .returned (.int .i64 x) ∧ Below w.heap.size w w' := by
  have HJ := Aside0.mk h
  have HB := Aside0.mk (Below.refl w.heap.size w)
  clear h
  go_enter Tryz.func8, Tryz.ntmps8
  go_wp2_with fail
  refine (bk_count (⟨#[97, 108, 108, 45, 99, 111, 105, 110, 115]⟩ : ByteArray) x HJ.out hk hx).mono ?_
  rintro e w2 ⟨rfl, hb⟩
  have n_HB := Aside0.mk (below_step (by repeat (first | (with_reducible first | exact HB.out | apply below_alloc | apply pw_below_drewN | apply below_drew1) | exact HB.out)) hb)
  have n_HJ := Aside0.mk (JS.below (base := base) (ok := ok) (w0 := w0) (g := g) (cur := cur) (by (with_reducible repeat (first | apply JS.drewN | apply JS.drew | apply JS.alloc)); exact HJ.out) hb)
  clear HB HJ
  have HB := n_HB
  have HJ := n_HJ
  clear n_HB n_HJ
  clear hb
  go_wp2
  go_ret
  exact ⟨rfl, HB.out⟩
set_option maxHeartbeats 4000000 in
set_option maxRecDepth 100000 in
theorem bkn_all (w : World) :
    Calls Tryz.prog 8 #[.pointer none] w fun e w' => e = .returned (.int .i64 0) ∧ Below w.heap.size w w' := by
  have HB := Aside0.mk (Below.refl w.heap.size w)
  go_enter Tryz.func8, Tryz.ntmps8
  go_wp2_with fail
  refine (bkn_count (⟨#[97, 108, 108, 45, 99, 111, 105, 110, 115]⟩ : ByteArray) _).mono ?_
  rintro e w2 ⟨rfl, hb⟩
  have n_HB := Aside0.mk (below_step (by repeat (first | (with_reducible first | exact HB.out | apply below_alloc | apply pw_below_drewN | apply below_drew1) | exact HB.out)) hb)
  clear HB
  have HB := n_HB
  clear n_HB
  clear hb
  go_wp2
  go_ret
  exact ⟨rfl, HB.out⟩

/-! ### bank_Of: function 11 -/

/-! ### bank_count: function 27 -/

end Go.Proofs.YtonipkgekhdogaaGreatDoor.PBas
