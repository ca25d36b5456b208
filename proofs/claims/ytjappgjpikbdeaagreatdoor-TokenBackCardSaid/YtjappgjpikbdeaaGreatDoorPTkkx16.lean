-- written by wip/myprint.py over the kit's print; not a printed text of print.sh
import Derived.Test.YtjappgjpikbdeaaGreatDoorPTkkx0
import Derived.Test.YtjappgjpikbdeaaGreatDoorPTkkx3
import Derived.Test.YtjappgjpikbdeaaGreatDoorPTkkx11
import Derived.Test.YtjappgjpikbdeaaGreatDoorPTkkx12
import Derived.Test.YtjappgjpikbdeaaGreatDoorPTkkx13
import Derived.Test.YtjappgjpikbdeaaGreatDoorPTkkx15
namespace Go.Proofs.YtjappgjpikbdeaaGreatDoor.PTkk
open Go.RowKit Go.Proofs.YtjappgjpikbdeaaGreatDoorW.PrintWords Go.Proofs.YtjappgjpikbdeaaGreatDoorW.PrintLast Go.Proofs.YtjappgjpikbdeaaGreatDoorW.PrintMore
attribute [local go_sem] max2_int min2_int max_two min_two max_three min_three max_four min_four   -- for this text's walks alone
set_option linter.unusedVariables false
set_option linter.unusedSimpArgs false

/-! ### class_Supply: function 15 -/
set_option maxHeartbeats 2000000 in
set_option maxRecDepth 100000 in
theorem cl_supply {base g : Nat} {ok : Nat → Prop} {w0 : World} {cur : List S82} (id : ByteArray) {w : World} (h : JS base ok w0 g cur w) (hk : KV 1000000 cur) (hid : id.size ≤ 50000000) :
    Calls Tryz.prog 15 #[.pointer (some ⟨g, 0, none⟩), .string id] w fun e w' => e = .returned (.int .i64 (numK cur (keyB (⟨#[115, 117, 112, 112, 108, 121]⟩ : ByteArray) [id]))) ∧ Below w.heap.size w w' := by
  obtain ⟨y1, hy1⟩ : ∃ y : List ByteArray, y = [id] := ⟨_, rfl⟩
  obtain ⟨k1, key1⟩ := key_ev (⟨#[115, 117, 112, 112, 108, 121]⟩ : ByteArray) y1 (by decide) (by rw [hy1]; simp) (by rw [hy1]; simpa using hid)
  have Ny1 := Aside0.mk hy1
  have HJ := Aside0.mk h
  have HB := Aside0.mk (Below.refl w.heap.size w)
  clear h
  generalize hkey : keyB (⟨#[115, 117, 112, 112, 108, 121]⟩ : ByteArray) y1 = key at key1
  have ekey : keyB (⟨#[115, 117, 112, 112, 108, 121]⟩ : ByteArray) [id] = key := by rw [← hy1]; exact hkey
  rw [ekey]
  clear hy1 hkey ekey
  obtain ⟨v, hv⟩ : ∃ v, (getK cur key).1 = v := ⟨_, rfl⟩
  obtain ⟨q1, q2, q3, hq⟩ : ∃ a b c, rNum v 0 = (a, b, c) := ⟨_, _, _, rfl⟩
  have hnum : wire_Reader_Num.f v 0 = some (q1, q2, q3) := by rw [rNum_is, hq]
  have hres : numK cur key = if rDone q2 q3 = 0 then q1 else 0 := by unfold numK; rw [hv, hq]
  rw [hres]
  clear hq hres
  go_enter Tryz.func15, Tryz.ntmps15
  go_wp2_with (first | ((with_reducible refine gate_dst (N := 12) rfl ?_); (try (refine gate_guard (by rfl) ?_; dsimp only)); refine Kd.R_lit Kd.string _ 9 ?hg (N := 12) ?hd (xs := ([id] : List ByteArray)) (inner := [.string id]) (ok := fun _ => True) (okp := fun _ => True) ?hr ?hp (fun _ hk => hk) trivial (Below.refl _ _) (Nat.le_refl _) (by simp) ?_; (case hd => rfl); (case hg => rfl); (case hr => first | (go_simp; done) | (go_simp; rfl)); (case hp => exact (Reps.one (show Kd.M Kd.string _ _ _ id [.string id] from rfl) (Reps.none _ _))); intro vlit wy1 hlit hb hg_ hnew_; clear hg_ hnew_; rw [← Ny1.out] at hlit; obtain ⟨Ay1, cy1, el_⟩ := Kd.R_slice hlit; subst el_; have Ry1 := Aside0.mk hlit; clear hlit; have n_HB := Aside0.mk (below_step (by repeat (first | (with_reducible first | exact HB.out | apply below_alloc | apply pw_below_drewN | apply below_drew1) | exact HB.out)) hb); have n_HJ := Aside0.mk (JS.below (base := base) (ok := ok) (w0 := w0) (g := g) (cur := cur) (by (with_reducible repeat (first | apply JS.drewN | apply JS.drew | apply JS.alloc)); exact HJ.out) hb); clear HB HJ; have HB := n_HB; have HJ := n_HJ; clear n_HB n_HJ; clear hb))
  refine (path_Join.calls k1 (⟨#[115, 117, 112, 112, 108, 121]⟩ : ByteArray) Ay1 cy1 y1 key _ (Kd.R_reads' Ry1.out).2.2 (Kd.R_reads' Ry1.out).2.1 key1).mono ?_
  rintro e w1 ⟨rfl, hb⟩
  have n_HB := Aside0.mk (below_step (by repeat (first | (with_reducible first | exact HB.out | apply below_alloc | apply pw_below_drewN | apply below_drew1) | exact HB.out)) hb)
  have n_HJ := Aside0.mk (JS.below (base := base) (ok := ok) (w0 := w0) (g := g) (cur := cur) (by (with_reducible repeat (first | apply JS.drewN | apply JS.drew | apply JS.alloc)); exact HJ.out) hb)
  clear HB HJ
  have HB := n_HB
  have HJ := n_HJ
  clear n_HB n_HJ
  clear hb
  clear Ry1 Ny1
  go_wp2_with fail
  refine (js_get key v _ HJ.out hk hv rfl).mono ?_
  rintro e w2 ⟨rfl, hb⟩
  have n_HB := Aside0.mk (below_step (by repeat (first | (with_reducible first | exact HB.out | apply below_alloc | apply pw_below_drewN | apply below_drew1) | exact HB.out)) hb)
  have n_HJ := Aside0.mk (JS.below (base := base) (ok := ok) (w0 := w0) (g := g) (cur := cur) (by (with_reducible repeat (first | apply JS.drewN | apply JS.drew | apply JS.alloc)); exact HJ.out) hb)
  clear HB HJ
  have HB := n_HB
  have HJ := n_HJ
  clear n_HB n_HJ
  clear hb
  go_wp2_with fail
  refine (wire_New.calls v v 0 w _ (by repeat (first | (with_reducible first | exact HB.out | apply below_alloc | apply pw_below_drewN | apply below_drew1) | exact HB.out)) rfl).mono ?_
  rintro e w_1 ⟨grr, rfl, hI, _, hb⟩
  have n_HB := Aside0.mk (below_step (by repeat (first | (with_reducible first | exact HB.out | apply below_alloc | apply pw_below_drewN | apply below_drew1) | exact HB.out)) hb)
  clear HB
  have HB := n_HB
  clear n_HB
  clear hb
  have HIr := Aside0.mk hI
  clear hI
  go_wp2_with fail
  refine (wire_Reader_Num.calls grr v 0 _ _ _ w _ (by (with_reducible repeat (first | apply IsS88.drewN | apply IsS88.drew | apply IsS88.alloc)); exact HIr.out) (by repeat (first | (with_reducible first | exact HB.out | apply below_alloc | apply pw_below_drewN | apply below_drew1) | exact HB.out)) hnum).mono ?_
  rintro e w_2 ⟨rfl, hI, hB, hK⟩
  have n_HB := Aside0.mk (hB)
  have n_HIr := Aside0.mk (hI)
  clear HB HIr
  have HB := n_HB
  have HIr := n_HIr
  clear n_HB n_HIr
  clear hI hB hK
  go_wp2_with fail
  refine (wire_Reader_Done.calls grr q2 q3 _ _ _ w _ (by (with_reducible repeat (first | apply IsS88.drewN | apply IsS88.drew | apply IsS88.alloc)); exact HIr.out) (by repeat (first | (with_reducible first | exact HB.out | apply below_alloc | apply pw_below_drewN | apply below_drew1) | exact HB.out)) (rDone_is q2 q3)).mono ?_
  rintro e w_3 ⟨rfl, hI, hB, hK⟩
  have n_HB := Aside0.mk (hB)
  have n_HIr := Aside0.mk (hI)
  clear HB HIr
  have HB := n_HB
  have HIr := n_HIr
  clear n_HB n_HIr
  clear hI hB hK
  by_cases hd : rDone q2 q3 = 0
  · go_wp2
    go_ret
    exact ⟨rfl, HB.out⟩
  · go_wp2
    go_ret
    exact ⟨rfl, HB.out⟩
theorem cln_supply (id : ByteArray) (hid : id.size ≤ 50000000) (w : World) :
    Calls Tryz.prog 15 #[.pointer none, .string id] w fun e w' => e = .returned (.int .i64 0) ∧ Below w.heap.size w w' := by
  obtain ⟨y1, hy1⟩ : ∃ y : List ByteArray, y = [id] := ⟨_, rfl⟩
  obtain ⟨k1, key1⟩ := key_ev (⟨#[115, 117, 112, 112, 108, 121]⟩ : ByteArray) y1 (by decide) (by rw [hy1]; simp) (by rw [hy1]; simpa using hid)
  have Ny1 := Aside0.mk hy1
  have HB := Aside0.mk (Below.refl w.heap.size w)
  clear hy1
  generalize keyB (⟨#[115, 117, 112, 112, 108, 121]⟩ : ByteArray) y1 = key at key1
  have hnum : wire_Reader_Num.f (⟨#[]⟩ : ByteArray) 0 = some (0, (⟨#[]⟩ : ByteArray), 5) := by rw [rNum_is]; rfl
  go_enter Tryz.func15, Tryz.ntmps15
  go_wp2_with (first | ((with_reducible refine gate_dst (N := 12) rfl ?_); (try (refine gate_guard (by rfl) ?_; dsimp only)); refine Kd.R_lit Kd.string _ 9 ?hg (N := 12) ?hd (xs := ([id] : List ByteArray)) (inner := [.string id]) (ok := fun _ => True) (okp := fun _ => True) ?hr ?hp (fun _ hk => hk) trivial (Below.refl _ _) (Nat.le_refl _) (by simp) ?_; (case hd => rfl); (case hg => rfl); (case hr => first | (go_simp; done) | (go_simp; rfl)); (case hp => exact (Reps.one (show Kd.M Kd.string _ _ _ id [.string id] from rfl) (Reps.none _ _))); intro vlit wy1 hlit hb hg_ hnew_; clear hg_ hnew_; rw [← Ny1.out] at hlit; obtain ⟨Ay1, cy1, el_⟩ := Kd.R_slice hlit; subst el_; have Ry1 := Aside0.mk hlit; clear hlit; have n_HB := Aside0.mk (below_step (by repeat (first | (with_reducible first | exact HB.out | apply below_alloc | apply pw_below_drewN | apply below_drew1) | exact HB.out)) hb); clear HB; have HB := n_HB; clear n_HB; clear hb))
  refine (path_Join.calls k1 (⟨#[115, 117, 112, 112, 108, 121]⟩ : ByteArray) Ay1 cy1 y1 key _ (Kd.R_reads' Ry1.out).2.2 (Kd.R_reads' Ry1.out).2.1 key1).mono ?_
  rintro e w1 ⟨rfl, hb⟩
  have n_HB := Aside0.mk (below_step (by repeat (first | (with_reducible first | exact HB.out | apply below_alloc | apply pw_below_drewN | apply below_drew1) | exact HB.out)) hb)
  clear HB
  have HB := n_HB
  clear n_HB
  clear hb
  clear Ry1 Ny1
  go_wp2_with fail
  refine (jn_get key _).mono ?_
  rintro e w2 ⟨rfl, hb⟩
  subst hb
  go_wp2_with fail
  refine (wire_New.calls (⟨#[]⟩ : ByteArray) (⟨#[]⟩ : ByteArray) 0 w _ (by repeat (first | (with_reducible first | exact HB.out | apply below_alloc | apply pw_below_drewN | apply below_drew1) | exact HB.out)) rfl).mono ?_
  rintro e w_4 ⟨grr, rfl, hI, _, hb⟩
  have n_HB := Aside0.mk (below_step (by repeat (first | (with_reducible first | exact HB.out | apply below_alloc | apply pw_below_drewN | apply below_drew1) | exact HB.out)) hb)
  clear HB
  have HB := n_HB
  clear n_HB
  clear hb
  have HIr := Aside0.mk hI
  clear hI
  go_wp2_with fail
  refine (wire_Reader_Num.calls grr (⟨#[]⟩ : ByteArray) 0 _ _ _ w _ (by (with_reducible repeat (first | apply IsS88.drewN | apply IsS88.drew | apply IsS88.alloc)); exact HIr.out) (by repeat (first | (with_reducible first | exact HB.out | apply below_alloc | apply pw_below_drewN | apply below_drew1) | exact HB.out)) hnum).mono ?_
  rintro e w_5 ⟨rfl, hI, hB, hK⟩
  have n_HB := Aside0.mk (hB)
  have n_HIr := Aside0.mk (hI)
  clear HB HIr
  have HB := n_HB
  have HIr := n_HIr
  clear n_HB n_HIr
  clear hI hB hK
  go_wp2_with fail
  refine (wire_Reader_Done.calls grr (⟨#[]⟩ : ByteArray) 5 _ _ _ w _ (by (with_reducible repeat (first | apply IsS88.drewN | apply IsS88.drew | apply IsS88.alloc)); exact HIr.out) (by repeat (first | (with_reducible first | exact HB.out | apply below_alloc | apply pw_below_drewN | apply below_drew1) | exact HB.out)) (rDone_is (⟨#[]⟩ : ByteArray) 5)).mono ?_
  rintro e w_6 ⟨rfl, hI, hB, hK⟩
  have n_HB := Aside0.mk (hB)
  have n_HIr := Aside0.mk (hI)
  clear HB HIr
  have HB := n_HB
  have HIr := n_HIr
  clear n_HB n_HIr
  clear hI hB hK
  go_wp2
  go_ret
  exact ⟨rfl, HB.out⟩

/-! ### class_key: function 63 -/
def class_key.f (k : Nat) (a0 : ByteArray) : Option (ByteArray) := (path_Join.f k (⟨#[99, 108, 97, 115, 115]⟩ : ByteArray) (([a0] : List ByteArray))).bind fun t150 => (some t150)
theorem class_key.mono : ∀ a0 k, LeO (class_key.f k a0) (class_key.f (k + 1) a0) := by
  intro a0 k
  unfold class_key.f
  repeat' first
      | (with_reducible exact path_Join.mono _ _ _)
      | (with_reducible exact LeO.refl _)
      | (with_reducible exact LeO.none _)
      | (with_reducible refine LeO.ite ?_ ?_)
      | (with_reducible refine LeO.bind ?_ (fun _ => ?_))
      | exact path_Join.mono _ _ _
      | exact LeO.none _
      | refine LeO.ite ?_ ?_
      | refine LeO.bind ?_ (fun _ => ?_)
set_option maxHeartbeats 8000000 in
set_option maxRecDepth 100000 in
theorem class_key.calls (k : Nat) (a0 : ByteArray) (r : ByteArray) (w : World) (h : class_key.f k a0 = some r) :
    Calls Tryz.prog 63 #[.string a0] w fun e w' => e = .returned (.string r) ∧ Below w.heap.size w w' := by
  have HB := Aside0.mk (Below.refl w.heap.size w)
  have H : ((path_Join.f k (⟨#[99, 108, 97, 115, 115]⟩ : ByteArray) (([a0] : List ByteArray))).bind fun t150 => (some t150)) = some r := h
  clear h
  obtain ⟨y147, hy147⟩ : ∃ y_ : List ByteArray, y_ = (([a0] : List ByteArray)) := ⟨_, rfl⟩
  replace H : ((path_Join.f k (⟨#[99, 108, 97, 115, 115]⟩ : ByteArray) y147).bind fun t150 => (some t150)) = some r := by first | (rw [hy147]; with_reducible exact H) | (have H2_ := (Option.bind_some _ _).symm.trans H; rw [hy147]; with_reducible exact H2_) | (have H2_ := (Option.bind_some _ _).symm.trans H; with_reducible exact H2_) | with_reducible exact H | (rw [hy147]; exact H) | exact H
  have Ny147 := Aside0.mk hy147
  clear hy147
  replace H := Option.bind_eq_some_iff.mp H
  obtain ⟨t150, A20, H⟩ := H
  replace H : (some t150) = some r := H
  have A2 := Aside0.mk A20
  clear A20
  obtain rfl := Option.some.inj H
  go_enter Tryz.func63, Tryz.ntmps63
  go_wp2_with (first | ((with_reducible refine gate_dst (N := 4) rfl ?_); refine Kd.R_lit Kd.string _ 9 ?hg (N := 4) ?hd (xs := ([a0] : List ByteArray)) (inner := [.string a0]) (ok := fun _ => True) (okp := fun _ => True) ?hr ?hp (fun _ hk => hk) trivial (Below.refl _ _) (Nat.le_refl _) (by simp) ?_; (case hd => rfl); (case hg => rfl); (case hr => first | (go_simp; done) | (go_simp; rfl)); (case hp => exact (Reps.one (show Kd.M Kd.string _ _ _ a0 [.string a0] from rfl) (Reps.none _ _))); intro v148 w3 ho4 hb hg_ hnew_; clear hg_ hnew_; (first | rw [← Ny147.out] at ho4 | (simp only [Int.reduceToNat] at ho4; rw [← Ny147.out] at ho4)); have n0_ := Aside0.mk (Kd.R_lower ho4 (below_size (by repeat (first | (with_reducible first | exact HB.out | apply below_alloc | apply pw_below_drewN | apply below_drew1) | exact HB.out)))); have n1_ := Aside0.mk (below_step (by repeat (first | (with_reducible first | exact HB.out | apply below_alloc | apply pw_below_drewN | apply below_drew1) | exact HB.out)) hb); clear HB; have HO149 := n0_; have HB := n1_; clear n0_ n1_; clear hb ho4; obtain ⟨Ao5, co5, eo5⟩ := Kd.R_slice HO149.out; subst eo5) | ((with_reducible refine gate_callee (f := 44) rfl ?_); refine goesL_ (some 5) rfl rfl Tryz.func44 (by kernel_rfl) rfl #[.string (⟨#[99, 108, 97, 115, 115]⟩ : ByteArray), .slice Ao5 y147.length co5] rfl (by (try simp only [List.map_toArray, List.map_cons, List.map_nil]); first | done | rfl | (simp only [List.length_drop, List.length_take]; rfl)) ?_; (with_reducible refine (path_Join.calls k (⟨#[99, 108, 97, 115, 115]⟩ : ByteArray) _ _ y147 t150 _ ?side1 ?side2 A2.out).mono ?_); (case side1 => repeat (first | exact (Kd.R_reads' HO149.out).2.2 | (with_reducible refine Kd.C_alloc ?_ _) | (with_reducible refine Kd.C_drewN ?_ _) | (with_reducible refine Kd.C_drew ?_))); (case side2 => exact (Kd.R_reads' HO149.out).2.1); rintro e w6 ⟨rfl, hb⟩; refine ⟨_, rfl, ?_⟩; have n0_ := Aside0.mk (Kd.R_below (by (with_reducible repeat (first | apply Kd.R_alloc | apply Kd.R_drewN | apply Kd.R_drew)); exact HO149.out) hb); have n1_ := Aside0.mk (below_step (by repeat (first | (with_reducible first | exact HB.out | apply below_alloc | apply pw_below_drewN | apply below_drew1) | exact HB.out)) hb); clear HO149; clear HB; have HO149 := n0_; have HB := n1_; clear n0_ n1_; (try clear hb); (try clear hb2); (try clear hk); (try clear hi)))
  go_ret
  exact ⟨by first | rfl | (simp [errW_none, errW_some] <;> rfl) | (simp [*, errW_none, errW_some] <;> rfl), by repeat (first | (with_reducible first | exact HB.out | apply below_alloc | apply pw_below_drewN | apply below_drew1) | exact HB.out)⟩

/-! ### class_Get: function 54 -/
theorem clKey_ev (id : ByteArray) (hid : id.size ≤ 50000000) : ∃ k, class_key.f k id = some (keyB (⟨#[99, 108, 97, 115, 115]⟩ : ByteArray) [id]) := by
  obtain ⟨k, e⟩ := key_ev (⟨#[99, 108, 97, 115, 115]⟩ : ByteArray) [id] (by decide) (by simp) (by simpa using hid)
  exact ⟨k, by unfold class_key.f; rw [e]; rfl⟩
/-- A class's texts, read. -/
def txt3 (v : ByteArray) : ByteArray × ByteArray × ByteArray × Int :=
  ((rText v 0).1, (rText (rText v 0).2.1 (rText v 0).2.2).1, (rText (rText (rText v 0).2.1 (rText v 0).2.2).2.1 (rText (rText v 0).2.1 (rText v 0).2.2).2.2).1,
   rDone (rText (rText (rText v 0).2.1 (rText v 0).2.2).2.1 (rText (rText v 0).2.1 (rText v 0).2.2).2.2).2.1 (rText (rText (rText v 0).2.1 (rText v 0).2.2).2.1 (rText (rText v 0).2.1 (rText v 0).2.2).2.2).2.2)
def clGet (cur : List S82) (id : ByteArray) : ByteArray × ByteArray × ByteArray × ByteArray × Int :=
  if hasK cur (keyB (⟨#[99, 108, 97, 115, 115]⟩ : ByteArray) [id]) = true ∧ (txt3 (getK cur (keyB (⟨#[99, 108, 97, 115, 115]⟩ : ByteArray) [id])).1).2.2.2 = 0 then (id, (txt3 (getK cur (keyB (⟨#[99, 108, 97, 115, 115]⟩ : ByteArray) [id])).1).1, (txt3 (getK cur (keyB (⟨#[99, 108, 97, 115, 115]⟩ : ByteArray) [id])).1).2.1, (txt3 (getK cur (keyB (⟨#[99, 108, 97, 115, 115]⟩ : ByteArray) [id])).1).2.2.1, 0) else ((⟨#[]⟩ : ByteArray), (⟨#[]⟩ : ByteArray), (⟨#[]⟩ : ByteArray), (⟨#[]⟩ : ByteArray), 8)
set_option maxHeartbeats 2000000 in
set_option maxRecDepth 100000 in
theorem cl_get {base g : Nat} {ok : Nat → Prop} {w0 : World} {cur : List S82} (id : ByteArray) (x0 x1 x2 x3 : ByteArray) (x4 : Int) {w : World} (h : JS base ok w0 g cur w) (hk : KV 1000000 cur) (hid : id.size ≤ 50000000) (hres : clGet cur id = (x0, x1, x2, x3, x4)) :
    Calls Tryz.prog 54 #[.pointer (some ⟨g, 0, none⟩), .string id] w fun e w' => e = .returned (.tuple #[.agg #[.string x0, .string x1, .string x2, .string x3], .int .i64 x4]) ∧ Below w.heap.size w w' := by
  obtain ⟨k1, key1⟩ := clKey_ev id hid
  have HJ := Aside0.mk h
  have HB := Aside0.mk (Below.refl w.heap.size w)
  clear h
  unfold clGet at hres
  generalize keyB (⟨#[99, 108, 97, 115, 115]⟩ : ByteArray) [id] = key at key1 hres
  have hvs := hk.get key
  obtain ⟨v, hv⟩ : ∃ v, (getK cur key).1 = v := ⟨_, rfl⟩
  obtain ⟨b, hb0⟩ : ∃ b, hasK cur key = b := ⟨_, rfl⟩
  unfold txt3 at hres
  rw [hv] at hvs
  rw [hv, hb0] at hres
  obtain ⟨t1, s1, e1, hq1⟩ : ∃ a b c, rText v 0 = (a, b, c) := ⟨_, _, _, rfl⟩
  obtain ⟨t2, s2, e2, hq2⟩ : ∃ a b c, rText s1 e1 = (a, b, c) := ⟨_, _, _, rfl⟩
  obtain ⟨t3, s3, e3, hq3⟩ : ∃ a b c, rText s2 e2 = (a, b, c) := ⟨_, _, _, rfl⟩
  have hz1 := rText_sz v 0
  have hz2 := rText_sz s1 e1
  rw [hq1] at hz1
  rw [hq2] at hz2
  dsimp only at hz1 hz2
  have hT1 : wire_Reader_Text.f v 0 = some (t1, s1, e1) := by rw [rText_is _ _ (by omega), hq1]
  have hT2 : wire_Reader_Text.f s1 e1 = some (t2, s2, e2) := by rw [rText_is _ _ (by omega), hq2]
  have hT3 : wire_Reader_Text.f s2 e2 = some (t3, s3, e3) := by rw [rText_is _ _ (by omega), hq3]
  rw [hq1] at hres
  dsimp only at hres
  rw [hq2] at hres
  dsimp only at hres
  rw [hq3] at hres
  dsimp only at hres
  clear hq1 hq2 hq3 hz1 hz2
  go_enter Tryz.func54, Tryz.ntmps54
  go_wp2_with (first | ((with_reducible refine gate_dst (N := 4) rfl ?_); refine box_event ?hg (N := 4) ?hd (cs := #[.string (⟨#[]⟩ : ByteArray), .string (⟨#[]⟩ : ByteArray), .string (⟨#[]⟩ : ByteArray), .string (⟨#[]⟩ : ByteArray)]) (t := 66) ?hr ?_; (case hd => rfl); (case hg => rfl); (case hr => first | (go_simp; done) | (go_simp; rfl)); intro gbq hg wq hbox hb; have GEq := Aside0.mk ((by rw [hg]; exact (below_size (by repeat (first | (with_reducible first | exact HB.out | apply below_alloc | apply pw_below_drewN | apply below_drew1) | exact HB.out))) : w.heap.size ≤ gbq)); have GJq := Aside0.mk ((by rw [hg]; exact JS.size0 (base := base) (ok := ok) (w0 := w0) (g := g) (cur := cur) (by (with_reducible repeat (first | apply JS.drewN | apply JS.drew | apply JS.alloc)); exact HJ.out) : w0.heap.size ≤ gbq)); have n_HB := Aside0.mk (below_step (by repeat (first | (with_reducible first | exact HB.out | apply below_alloc | apply pw_below_drewN | apply below_drew1) | exact HB.out)) hb); have n_HJ := Aside0.mk (JS.below (base := base) (ok := ok) (w0 := w0) (g := g) (cur := cur) (by (with_reducible repeat (first | apply JS.drewN | apply JS.drew | apply JS.alloc)); exact HJ.out) hb); clear HB HJ; have HB := n_HB; have HJ := n_HJ; clear n_HB n_HJ; have BKq := Aside0.mk hbox; clear hb hbox hg; have zq_0 : World.cell? _ ⟨gbq, 0, none⟩ = some (.string (⟨#[]⟩ : ByteArray)) := (blk_cell BKq.out 0).trans rfl; have fq_0 := blk_frozen BKq.out 0; have zq_1 : World.cell? _ ⟨gbq, 1, none⟩ = some (.string (⟨#[]⟩ : ByteArray)) := (blk_cell BKq.out 1).trans rfl; have fq_1 := blk_frozen BKq.out 1; have zq_2 : World.cell? _ ⟨gbq, 2, none⟩ = some (.string (⟨#[]⟩ : ByteArray)) := (blk_cell BKq.out 2).trans rfl; have fq_2 := blk_frozen BKq.out 2; have zq_3 : World.cell? _ ⟨gbq, 3, none⟩ = some (.string (⟨#[]⟩ : ByteArray)) := (blk_cell BKq.out 3).trans rfl; have fq_3 := blk_frozen BKq.out 3))
  refine (class_key.calls k1 id key _ key1).mono ?_
  rintro e w1 ⟨rfl, hb⟩
  have n_HB := Aside0.mk (below_step (by repeat (first | (with_reducible first | exact HB.out | apply below_alloc | apply pw_below_drewN | apply below_drew1 | refine below_set ?_ GEq.out) | exact HB.out)) hb)
  have n_HJ := Aside0.mk (JS.below (base := base) (ok := ok) (w0 := w0) (g := g) (cur := cur) (by (with_reducible repeat (first | apply JS.drewN | apply JS.drew | apply JS.alloc)); exact HJ.out) hb)
  have n_BKq := Aside0.mk (blk_below (g := gbq) (o := .cells #[.string (⟨#[]⟩ : ByteArray), .string (⟨#[]⟩ : ByteArray), .string (⟨#[]⟩ : ByteArray), .string (⟨#[]⟩ : ByteArray)] 66 (0, 0)) (by (with_reducible repeat (first | refine blk_drewN ?_ _ | refine blk_drew ?_ | refine blk_alloc ?_ _)); exact BKq.out) hb)
  clear HB HJ BKq
  have HB := n_HB
  have HJ := n_HJ
  have BKq := n_BKq
  clear n_HB n_HJ n_BKq
  clear hb
  go_wp2_with fail
  refine (js_get key v b HJ.out hk hv hb0).mono ?_
  rintro e w2 ⟨rfl, hb⟩
  have n_HB := Aside0.mk (below_step (by repeat (first | (with_reducible first | exact HB.out | apply below_alloc | apply pw_below_drewN | apply below_drew1 | refine below_set ?_ GEq.out) | exact HB.out)) hb)
  have n_HJ := Aside0.mk (JS.below (base := base) (ok := ok) (w0 := w0) (g := g) (cur := cur) (by (with_reducible repeat (first | apply JS.drewN | apply JS.drew | apply JS.alloc)); exact HJ.out) hb)
  have n_BKq := Aside0.mk (blk_below (g := gbq) (o := .cells #[.string (⟨#[]⟩ : ByteArray), .string (⟨#[]⟩ : ByteArray), .string (⟨#[]⟩ : ByteArray), .string (⟨#[]⟩ : ByteArray)] 66 (0, 0)) (by (with_reducible repeat (first | refine blk_drewN ?_ _ | refine blk_drew ?_ | refine blk_alloc ?_ _)); exact BKq.out) hb)
  clear HB HJ BKq
  have HB := n_HB
  have HJ := n_HJ
  have BKq := n_BKq
  clear n_HB n_HJ n_BKq
  clear hb
  go_wp2_with fail
  refine (wire_New.calls v v 0 w _ (by repeat (first | (with_reducible first | exact HB.out | apply below_alloc | apply pw_below_drewN | apply below_drew1 | refine below_set ?_ GEq.out) | exact HB.out)) rfl).mono ?_
  rintro e w_7 ⟨grr, rfl, hI, _, hb⟩
  have n_HB := Aside0.mk (below_step (by repeat (first | (with_reducible first | exact HB.out | apply below_alloc | apply pw_below_drewN | apply below_drew1 | refine below_set ?_ GEq.out) | exact HB.out)) hb)
  have n_BKq := Aside0.mk (blk_below (g := gbq) (o := .cells #[.string (⟨#[]⟩ : ByteArray), .string (⟨#[]⟩ : ByteArray), .string (⟨#[]⟩ : ByteArray), .string (⟨#[]⟩ : ByteArray)] 66 (0, 0)) (by (with_reducible repeat (first | refine blk_drewN ?_ _ | refine blk_drew ?_ | refine blk_alloc ?_ _)); exact BKq.out) hb)
  clear HB BKq
  have HB := n_HB
  have BKq := n_BKq
  clear n_HB n_BKq
  clear hb
  have HIr := Aside0.mk hI
  clear hI
  have NRr_q := Aside0.mk (IsS88.ne_blk HIr.out BKq.out (by decide) : grr ≠ gbq)
  go_wp2_with fail
  refine (wire_Reader_Text.calls grr v 0 _ _ _ w _ (by (with_reducible repeat (first | apply IsS88.drewN | apply IsS88.drew | apply IsS88.alloc)); exact HIr.out) (by repeat (first | (with_reducible first | exact HB.out | apply below_alloc | apply pw_below_drewN | apply below_drew1 | refine below_set ?_ GEq.out) | exact HB.out)) hT1).mono ?_
  rintro e w_8 ⟨rfl, hI, hB, hK⟩
  have n_HB := Aside0.mk (hB)
  have n_HIr := Aside0.mk (hI)
  have n_BKq := Aside0.mk (KeepBut.blk (g' := gbq) hK (o := .cells #[.string (⟨#[]⟩ : ByteArray), .string (⟨#[]⟩ : ByteArray), .string (⟨#[]⟩ : ByteArray), .string (⟨#[]⟩ : ByteArray)] 66 (0, 0)) (by (with_reducible repeat (first | refine blk_drewN ?_ _ | refine blk_drew ?_ | refine blk_alloc ?_ _)); exact BKq.out) NRr_q.out.symm (by simp))
  clear HB HIr BKq
  have HB := n_HB
  have HIr := n_HIr
  have BKq := n_BKq
  clear n_HB n_HIr n_BKq
  clear hI hB hK
  go_wp2_with fail
  refine (wire_Reader_Text.calls grr s1 e1 _ _ _ w _ (by (with_reducible repeat (first | apply IsS88.drewN | apply IsS88.drew | apply IsS88.alloc)); exact HIr.out) (by repeat (first | (with_reducible first | exact HB.out | apply below_alloc | apply pw_below_drewN | apply below_drew1 | refine below_set ?_ GEq.out) | exact HB.out)) hT2).mono ?_
  rintro e w_9 ⟨rfl, hI, hB, hK⟩
  have n_HB := Aside0.mk (hB)
  have n_HIr := Aside0.mk (hI)
  have n_BKq := Aside0.mk (KeepBut.blk (g' := gbq) hK (o := .cells #[.string (⟨#[]⟩ : ByteArray), .string (⟨#[]⟩ : ByteArray), .string (⟨#[]⟩ : ByteArray), .string (⟨#[]⟩ : ByteArray)] 66 (0, 0)) (by (with_reducible repeat (first | refine blk_drewN ?_ _ | refine blk_drew ?_ | refine blk_alloc ?_ _)); exact BKq.out) NRr_q.out.symm (by simp))
  clear HB HIr BKq
  have HB := n_HB
  have HIr := n_HIr
  have BKq := n_BKq
  clear n_HB n_HIr n_BKq
  clear hI hB hK
  go_wp2_with fail
  refine (wire_Reader_Text.calls grr s2 e2 _ _ _ w _ (by (with_reducible repeat (first | apply IsS88.drewN | apply IsS88.drew | apply IsS88.alloc)); exact HIr.out) (by repeat (first | (with_reducible first | exact HB.out | apply below_alloc | apply pw_below_drewN | apply below_drew1 | refine below_set ?_ GEq.out) | exact HB.out)) hT3).mono ?_
  rintro e w_10 ⟨rfl, hI, hB, hK⟩
  have n_HB := Aside0.mk (hB)
  have n_HIr := Aside0.mk (hI)
  have n_BKq := Aside0.mk (KeepBut.blk (g' := gbq) hK (o := .cells #[.string (⟨#[]⟩ : ByteArray), .string (⟨#[]⟩ : ByteArray), .string (⟨#[]⟩ : ByteArray), .string (⟨#[]⟩ : ByteArray)] 66 (0, 0)) (by (with_reducible repeat (first | refine blk_drewN ?_ _ | refine blk_drew ?_ | refine blk_alloc ?_ _)); exact BKq.out) NRr_q.out.symm (by simp))
  clear HB HIr BKq
  have HB := n_HB
  have HIr := n_HIr
  have BKq := n_BKq
  clear n_HB n_HIr n_BKq
  clear hI hB hK
  cases b with
  | false =>
    rw [if_neg (by simp)] at hres
    simp only [Prod.mk.injEq] at hres
    obtain ⟨rfl, rfl, rfl, rfl, rfl⟩ := hres
    go_wp2_with (first | ((with_reducible refine gate_dst (N := 9) rfl ?_); refine box_event ?hg (N := 9) ?hd (cs := #[.string (⟨#[]⟩ : ByteArray), .string (⟨#[]⟩ : ByteArray), .string (⟨#[]⟩ : ByteArray), .string (⟨#[]⟩ : ByteArray)]) (t := 66) ?hr ?_; (case hd => rfl); (case hg => rfl); (case hr => first | (go_simp; done) | (go_simp; rfl)); intro gbc hg wc hbox hb; have GEc := Aside0.mk ((by rw [hg]; exact (below_size (by repeat (first | (with_reducible first | exact HB.out | apply below_alloc | apply pw_below_drewN | apply below_drew1 | refine below_set ?_ GEq.out) | exact HB.out))) : w.heap.size ≤ gbc)); have NBq_c := Aside0.mk ((by rw [hg]; exact Nat.ne_of_lt (blk_lt (g := gbq) (o := .cells #[.string (⟨#[]⟩ : ByteArray), .string (⟨#[]⟩ : ByteArray), .string (⟨#[]⟩ : ByteArray), .string (⟨#[]⟩ : ByteArray)] 66 (0, 0)) (by (with_reducible repeat (first | refine blk_drewN ?_ _ | refine blk_drew ?_ | refine blk_alloc ?_ _)); exact BKq.out)) : gbq ≠ gbc)); have NBc_q := Aside0.mk ((by rw [hg]; exact Nat.ne_of_gt (blk_lt (g := gbq) (o := .cells #[.string (⟨#[]⟩ : ByteArray), .string (⟨#[]⟩ : ByteArray), .string (⟨#[]⟩ : ByteArray), .string (⟨#[]⟩ : ByteArray)] 66 (0, 0)) (by (with_reducible repeat (first | refine blk_drewN ?_ _ | refine blk_drew ?_ | refine blk_alloc ?_ _)); exact BKq.out)) : gbc ≠ gbq)); have n_HB := Aside0.mk (below_step (by repeat (first | (with_reducible first | exact HB.out | apply below_alloc | apply pw_below_drewN | apply below_drew1 | refine below_set ?_ GEq.out) | exact HB.out)) hb); have n_BKq := Aside0.mk (blk_below (g := gbq) (o := .cells #[.string (⟨#[]⟩ : ByteArray), .string (⟨#[]⟩ : ByteArray), .string (⟨#[]⟩ : ByteArray), .string (⟨#[]⟩ : ByteArray)] 66 (0, 0)) (by (with_reducible repeat (first | refine blk_drewN ?_ _ | refine blk_drew ?_ | refine blk_alloc ?_ _)); exact BKq.out) hb); have n_HIr := Aside0.mk (IsS88.below (by (with_reducible repeat (first | apply IsS88.drewN | apply IsS88.drew | apply IsS88.alloc)); exact HIr.out) hb); clear HB BKq HIr; have HB := n_HB; have BKq := n_BKq; have HIr := n_HIr; clear n_HB n_BKq n_HIr; have BKc := Aside0.mk hbox; have NRr_c := Aside0.mk (IsS88.ne_blk HIr.out hbox (by decide) : grr ≠ gbc); clear hb hbox hg; have zc_0 : World.cell? _ ⟨gbc, 0, none⟩ = some (.string (⟨#[]⟩ : ByteArray)) := (blk_cell BKc.out 0).trans rfl; have fc_0 := blk_frozen BKc.out 0; have zc_1 : World.cell? _ ⟨gbc, 1, none⟩ = some (.string (⟨#[]⟩ : ByteArray)) := (blk_cell BKc.out 1).trans rfl; have fc_1 := blk_frozen BKc.out 1; have zc_2 : World.cell? _ ⟨gbc, 2, none⟩ = some (.string (⟨#[]⟩ : ByteArray)) := (blk_cell BKc.out 2).trans rfl; have fc_2 := blk_frozen BKc.out 2; have zc_3 : World.cell? _ ⟨gbc, 3, none⟩ = some (.string (⟨#[]⟩ : ByteArray)) := (blk_cell BKc.out 3).trans rfl; have fc_3 := blk_frozen BKc.out 3; have hncq := NBc_q.out; have hmcq := NBq_c.out; have zq_0 : World.cell? _ ⟨gbq, 0, none⟩ = some (.string (⟨#[]⟩ : ByteArray)) := (blk_cell BKq.out 0).trans rfl; have fq_0 := blk_frozen BKq.out 0; have zq_1 : World.cell? _ ⟨gbq, 1, none⟩ = some (.string (⟨#[]⟩ : ByteArray)) := (blk_cell BKq.out 1).trans rfl; have fq_1 := blk_frozen BKq.out 1; have zq_2 : World.cell? _ ⟨gbq, 2, none⟩ = some (.string (⟨#[]⟩ : ByteArray)) := (blk_cell BKq.out 2).trans rfl; have fq_2 := blk_frozen BKq.out 2; have zq_3 : World.cell? _ ⟨gbq, 3, none⟩ = some (.string (⟨#[]⟩ : ByteArray)) := (blk_cell BKq.out 3).trans rfl; have fq_3 := blk_frozen BKq.out 3; have hnqc := NBq_c.out; have hmqc := NBc_q.out))
    refine bodyPost_ret (results_ct rfl _ _ gbq 66 #[.string (⟨#[]⟩ : ByteArray), .string (⟨#[]⟩ : ByteArray), .string (⟨#[]⟩ : ByteArray), .string (⟨#[]⟩ : ByteArray)] (0, 0) _ rfl (by (with_reducible repeat (first | refine blk_drewN ?_ _ | refine blk_drew ?_ | refine blk_alloc ?_ _)); refine blk_put (cs := #[.string (⟨#[]⟩ : ByteArray), .string (⟨#[]⟩ : ByteArray), .string (⟨#[]⟩ : ByteArray), .string (⟨#[]⟩ : ByteArray)]) ?_ 3 _ rfl; (with_reducible repeat (first | refine blk_drewN ?_ _ | refine blk_drew ?_ | refine blk_alloc ?_ _)); refine blk_put (cs := #[.string (⟨#[]⟩ : ByteArray), .string (⟨#[]⟩ : ByteArray), .string (⟨#[]⟩ : ByteArray), .string (⟨#[]⟩ : ByteArray)]) ?_ 2 _ rfl; (with_reducible repeat (first | refine blk_drewN ?_ _ | refine blk_drew ?_ | refine blk_alloc ?_ _)); refine blk_put (cs := #[.string (⟨#[]⟩ : ByteArray), .string (⟨#[]⟩ : ByteArray), .string (⟨#[]⟩ : ByteArray), .string (⟨#[]⟩ : ByteArray)]) ?_ 1 _ rfl; (with_reducible repeat (first | refine blk_drewN ?_ _ | refine blk_drew ?_ | refine blk_alloc ?_ _)); refine blk_put (cs := #[.string (⟨#[]⟩ : ByteArray), .string (⟨#[]⟩ : ByteArray), .string (⟨#[]⟩ : ByteArray), .string (⟨#[]⟩ : ByteArray)]) ?_ 0 _ rfl; (with_reducible repeat (first | refine blk_drewN ?_ _ | refine blk_drew ?_ | refine blk_alloc ?_ _)); refine blk_far ?_ NBq_c.out _; (with_reducible repeat (first | refine blk_drewN ?_ _ | refine blk_drew ?_ | refine blk_alloc ?_ _)); refine blk_far ?_ NBq_c.out _; (with_reducible repeat (first | refine blk_drewN ?_ _ | refine blk_drew ?_ | refine blk_alloc ?_ _)); refine blk_far ?_ NBq_c.out _; (with_reducible repeat (first | refine blk_drewN ?_ _ | refine blk_drew ?_ | refine blk_alloc ?_ _)); refine blk_far ?_ NBq_c.out _; (with_reducible repeat (first | refine blk_drewN ?_ _ | refine blk_drew ?_ | refine blk_alloc ?_ _)); exact BKq.out) Tryz.underlying66 rfl (by kernel_rfl)) rfl ?_
    exact ⟨by first | rfl | trivial, by repeat (first | (with_reducible first | exact HB.out | apply below_alloc | apply pw_below_drewN | apply below_drew1 | refine below_set ?_ GEq.out | refine below_set ?_ GEc.out) | exact HB.out)⟩
  | true =>
    go_wp2_with (first | ((with_reducible refine gate_dst (N := 9) rfl ?_); refine box_event ?hg (N := 9) ?hd (cs := #[.string (⟨#[]⟩ : ByteArray), .string (⟨#[]⟩ : ByteArray), .string (⟨#[]⟩ : ByteArray), .string (⟨#[]⟩ : ByteArray)]) (t := 66) ?hr ?_; (case hd => rfl); (case hg => rfl); (case hr => first | (go_simp; done) | (go_simp; rfl)); intro gbc hg wc hbox hb; have GEc := Aside0.mk ((by rw [hg]; exact (below_size (by repeat (first | (with_reducible first | exact HB.out | apply below_alloc | apply pw_below_drewN | apply below_drew1 | refine below_set ?_ GEq.out) | exact HB.out))) : w.heap.size ≤ gbc)); have NBq_c := Aside0.mk ((by rw [hg]; exact Nat.ne_of_lt (blk_lt (g := gbq) (o := .cells #[.string (⟨#[]⟩ : ByteArray), .string (⟨#[]⟩ : ByteArray), .string (⟨#[]⟩ : ByteArray), .string (⟨#[]⟩ : ByteArray)] 66 (0, 0)) (by (with_reducible repeat (first | refine blk_drewN ?_ _ | refine blk_drew ?_ | refine blk_alloc ?_ _)); exact BKq.out)) : gbq ≠ gbc)); have NBc_q := Aside0.mk ((by rw [hg]; exact Nat.ne_of_gt (blk_lt (g := gbq) (o := .cells #[.string (⟨#[]⟩ : ByteArray), .string (⟨#[]⟩ : ByteArray), .string (⟨#[]⟩ : ByteArray), .string (⟨#[]⟩ : ByteArray)] 66 (0, 0)) (by (with_reducible repeat (first | refine blk_drewN ?_ _ | refine blk_drew ?_ | refine blk_alloc ?_ _)); exact BKq.out)) : gbc ≠ gbq)); have n_HB := Aside0.mk (below_step (by repeat (first | (with_reducible first | exact HB.out | apply below_alloc | apply pw_below_drewN | apply below_drew1 | refine below_set ?_ GEq.out) | exact HB.out)) hb); have n_BKq := Aside0.mk (blk_below (g := gbq) (o := .cells #[.string (⟨#[]⟩ : ByteArray), .string (⟨#[]⟩ : ByteArray), .string (⟨#[]⟩ : ByteArray), .string (⟨#[]⟩ : ByteArray)] 66 (0, 0)) (by (with_reducible repeat (first | refine blk_drewN ?_ _ | refine blk_drew ?_ | refine blk_alloc ?_ _)); exact BKq.out) hb); have n_HIr := Aside0.mk (IsS88.below (by (with_reducible repeat (first | apply IsS88.drewN | apply IsS88.drew | apply IsS88.alloc)); exact HIr.out) hb); clear HB BKq HIr; have HB := n_HB; have BKq := n_BKq; have HIr := n_HIr; clear n_HB n_BKq n_HIr; have BKc := Aside0.mk hbox; have NRr_c := Aside0.mk (IsS88.ne_blk HIr.out hbox (by decide) : grr ≠ gbc); clear hb hbox hg; have zc_0 : World.cell? _ ⟨gbc, 0, none⟩ = some (.string (⟨#[]⟩ : ByteArray)) := (blk_cell BKc.out 0).trans rfl; have fc_0 := blk_frozen BKc.out 0; have zc_1 : World.cell? _ ⟨gbc, 1, none⟩ = some (.string (⟨#[]⟩ : ByteArray)) := (blk_cell BKc.out 1).trans rfl; have fc_1 := blk_frozen BKc.out 1; have zc_2 : World.cell? _ ⟨gbc, 2, none⟩ = some (.string (⟨#[]⟩ : ByteArray)) := (blk_cell BKc.out 2).trans rfl; have fc_2 := blk_frozen BKc.out 2; have zc_3 : World.cell? _ ⟨gbc, 3, none⟩ = some (.string (⟨#[]⟩ : ByteArray)) := (blk_cell BKc.out 3).trans rfl; have fc_3 := blk_frozen BKc.out 3; have hncq := NBc_q.out; have hmcq := NBq_c.out; have zq_0 : World.cell? _ ⟨gbq, 0, none⟩ = some (.string (⟨#[]⟩ : ByteArray)) := (blk_cell BKq.out 0).trans rfl; have fq_0 := blk_frozen BKq.out 0; have zq_1 : World.cell? _ ⟨gbq, 1, none⟩ = some (.string (⟨#[]⟩ : ByteArray)) := (blk_cell BKq.out 1).trans rfl; have fq_1 := blk_frozen BKq.out 1; have zq_2 : World.cell? _ ⟨gbq, 2, none⟩ = some (.string (⟨#[]⟩ : ByteArray)) := (blk_cell BKq.out 2).trans rfl; have fq_2 := blk_frozen BKq.out 2; have zq_3 : World.cell? _ ⟨gbq, 3, none⟩ = some (.string (⟨#[]⟩ : ByteArray)) := (blk_cell BKq.out 3).trans rfl; have fq_3 := blk_frozen BKq.out 3; have hnqc := NBq_c.out; have hmqc := NBc_q.out))
    refine (wire_Reader_Done.calls grr s3 e3 _ _ _ w _ (by (with_reducible repeat (first | apply IsS88.drewN | apply IsS88.drew | apply IsS88.alloc)); refine IsS88.far ?_ NRr_c.out _; (with_reducible repeat (first | apply IsS88.drewN | apply IsS88.drew | apply IsS88.alloc)); refine IsS88.far ?_ NRr_c.out _; (with_reducible repeat (first | apply IsS88.drewN | apply IsS88.drew | apply IsS88.alloc)); refine IsS88.far ?_ NRr_c.out _; (with_reducible repeat (first | apply IsS88.drewN | apply IsS88.drew | apply IsS88.alloc)); refine IsS88.far ?_ NRr_c.out _; (with_reducible repeat (first | apply IsS88.drewN | apply IsS88.drew | apply IsS88.alloc)); exact HIr.out) (by repeat (first | (with_reducible first | exact HB.out | apply below_alloc | apply pw_below_drewN | apply below_drew1 | refine below_set ?_ GEq.out | refine below_set ?_ GEc.out) | exact HB.out)) (rDone_is s3 e3)).mono ?_
    rintro e w_11 ⟨rfl, hI, hB, hK⟩
    have n_HB := Aside0.mk (hB)
    have n_HIr := Aside0.mk (hI)
    have n_BKq := Aside0.mk (KeepBut.blk (g' := gbq) hK (o := .cells #[.string (⟨#[]⟩ : ByteArray), .string (⟨#[]⟩ : ByteArray), .string (⟨#[]⟩ : ByteArray), .string (⟨#[]⟩ : ByteArray)] 66 (0, 0)) (by (with_reducible repeat (first | refine blk_drewN ?_ _ | refine blk_drew ?_ | refine blk_alloc ?_ _)); refine blk_far ?_ NBq_c.out _; (with_reducible repeat (first | refine blk_drewN ?_ _ | refine blk_drew ?_ | refine blk_alloc ?_ _)); refine blk_far ?_ NBq_c.out _; (with_reducible repeat (first | refine blk_drewN ?_ _ | refine blk_drew ?_ | refine blk_alloc ?_ _)); refine blk_far ?_ NBq_c.out _; (with_reducible repeat (first | refine blk_drewN ?_ _ | refine blk_drew ?_ | refine blk_alloc ?_ _)); refine blk_far ?_ NBq_c.out _; (with_reducible repeat (first | refine blk_drewN ?_ _ | refine blk_drew ?_ | refine blk_alloc ?_ _)); exact BKq.out) NRr_q.out.symm (by simp))
    have n_BKc := Aside0.mk (KeepBut.blk (g' := gbc) hK (o := .cells #[.string id, .string t1, .string t2, .string t3] 66 (0, 0)) (by (with_reducible repeat (first | refine blk_drewN ?_ _ | refine blk_drew ?_ | refine blk_alloc ?_ _)); refine blk_put (cs := #[.string id, .string t1, .string t2, .string (⟨#[]⟩ : ByteArray)]) ?_ 3 _ rfl; (with_reducible repeat (first | refine blk_drewN ?_ _ | refine blk_drew ?_ | refine blk_alloc ?_ _)); refine blk_put (cs := #[.string id, .string t1, .string (⟨#[]⟩ : ByteArray), .string (⟨#[]⟩ : ByteArray)]) ?_ 2 _ rfl; (with_reducible repeat (first | refine blk_drewN ?_ _ | refine blk_drew ?_ | refine blk_alloc ?_ _)); refine blk_put (cs := #[.string id, .string (⟨#[]⟩ : ByteArray), .string (⟨#[]⟩ : ByteArray), .string (⟨#[]⟩ : ByteArray)]) ?_ 1 _ rfl; (with_reducible repeat (first | refine blk_drewN ?_ _ | refine blk_drew ?_ | refine blk_alloc ?_ _)); refine blk_put (cs := #[.string (⟨#[]⟩ : ByteArray), .string (⟨#[]⟩ : ByteArray), .string (⟨#[]⟩ : ByteArray), .string (⟨#[]⟩ : ByteArray)]) ?_ 0 _ rfl; (with_reducible repeat (first | refine blk_drewN ?_ _ | refine blk_drew ?_ | refine blk_alloc ?_ _)); exact BKc.out) NRr_c.out.symm (by simp))
    clear HB HIr BKq BKc
    have HB := n_HB
    have HIr := n_HIr
    have BKq := n_BKq
    have BKc := n_BKc
    clear n_HB n_HIr n_BKq n_BKc
    clear hI hB hK
    by_cases hd : rDone s3 e3 = 0
    · replace hres : (id, t1, t2, t3, (0 : Int)) = (x0, x1, x2, x3, x4) := by simpa [hd] using hres
      simp only [Prod.mk.injEq] at hres
      obtain ⟨rfl, rfl, rfl, rfl, rfl⟩ := hres
      have zq_0 : World.cell? _ ⟨gbq, 0, none⟩ = some (.string (⟨#[]⟩ : ByteArray)) := (blk_cell BKq.out 0).trans rfl
      have fq_0 := blk_frozen BKq.out 0
      have zq_1 : World.cell? _ ⟨gbq, 1, none⟩ = some (.string (⟨#[]⟩ : ByteArray)) := (blk_cell BKq.out 1).trans rfl
      have fq_1 := blk_frozen BKq.out 1
      have zq_2 : World.cell? _ ⟨gbq, 2, none⟩ = some (.string (⟨#[]⟩ : ByteArray)) := (blk_cell BKq.out 2).trans rfl
      have fq_2 := blk_frozen BKq.out 2
      have zq_3 : World.cell? _ ⟨gbq, 3, none⟩ = some (.string (⟨#[]⟩ : ByteArray)) := (blk_cell BKq.out 3).trans rfl
      have fq_3 := blk_frozen BKq.out 3
      have hnqc := NBq_c.out
      have hmqc := NBc_q.out
      have zc_0 : World.cell? _ ⟨gbc, 0, none⟩ = some (.string id) := (blk_cell BKc.out 0).trans rfl
      have fc_0 := blk_frozen BKc.out 0
      have zc_1 : World.cell? _ ⟨gbc, 1, none⟩ = some (.string t1) := (blk_cell BKc.out 1).trans rfl
      have fc_1 := blk_frozen BKc.out 1
      have zc_2 : World.cell? _ ⟨gbc, 2, none⟩ = some (.string t2) := (blk_cell BKc.out 2).trans rfl
      have fc_2 := blk_frozen BKc.out 2
      have zc_3 : World.cell? _ ⟨gbc, 3, none⟩ = some (.string t3) := (blk_cell BKc.out 3).trans rfl
      have fc_3 := blk_frozen BKc.out 3
      have hncq := NBc_q.out
      have hmcq := NBq_c.out
      go_wp2
      refine bodyPost_ret (results_ct rfl _ _ gbq 66 #[.string id, .string t1, .string t2, .string t3] (0, 0) _ rfl (by (with_reducible repeat (first | refine blk_drewN ?_ _ | refine blk_drew ?_ | refine blk_alloc ?_ _)); refine blk_put (cs := #[.string id, .string t1, .string t2, .string (⟨#[]⟩ : ByteArray)]) ?_ 3 _ rfl; (with_reducible repeat (first | refine blk_drewN ?_ _ | refine blk_drew ?_ | refine blk_alloc ?_ _)); refine blk_put (cs := #[.string id, .string t1, .string (⟨#[]⟩ : ByteArray), .string (⟨#[]⟩ : ByteArray)]) ?_ 2 _ rfl; (with_reducible repeat (first | refine blk_drewN ?_ _ | refine blk_drew ?_ | refine blk_alloc ?_ _)); refine blk_put (cs := #[.string id, .string (⟨#[]⟩ : ByteArray), .string (⟨#[]⟩ : ByteArray), .string (⟨#[]⟩ : ByteArray)]) ?_ 1 _ rfl; (with_reducible repeat (first | refine blk_drewN ?_ _ | refine blk_drew ?_ | refine blk_alloc ?_ _)); refine blk_put (cs := #[.string (⟨#[]⟩ : ByteArray), .string (⟨#[]⟩ : ByteArray), .string (⟨#[]⟩ : ByteArray), .string (⟨#[]⟩ : ByteArray)]) ?_ 0 _ rfl; (with_reducible repeat (first | refine blk_drewN ?_ _ | refine blk_drew ?_ | refine blk_alloc ?_ _)); exact BKq.out) Tryz.underlying66 rfl (by kernel_rfl)) rfl ?_
      exact ⟨by first | rfl | trivial, by repeat (first | (with_reducible first | exact HB.out | apply below_alloc | apply pw_below_drewN | apply below_drew1 | refine below_set ?_ GEq.out | refine below_set ?_ GEc.out) | exact HB.out)⟩
    · replace hres : ((⟨#[]⟩ : ByteArray), (⟨#[]⟩ : ByteArray), (⟨#[]⟩ : ByteArray), (⟨#[]⟩ : ByteArray), (8 : Int)) = (x0, x1, x2, x3, x4) := by simpa [hd] using hres
      simp only [Prod.mk.injEq] at hres
      obtain ⟨rfl, rfl, rfl, rfl, rfl⟩ := hres
      have zq_0 : World.cell? _ ⟨gbq, 0, none⟩ = some (.string (⟨#[]⟩ : ByteArray)) := (blk_cell BKq.out 0).trans rfl
      have fq_0 := blk_frozen BKq.out 0
      have zq_1 : World.cell? _ ⟨gbq, 1, none⟩ = some (.string (⟨#[]⟩ : ByteArray)) := (blk_cell BKq.out 1).trans rfl
      have fq_1 := blk_frozen BKq.out 1
      have zq_2 : World.cell? _ ⟨gbq, 2, none⟩ = some (.string (⟨#[]⟩ : ByteArray)) := (blk_cell BKq.out 2).trans rfl
      have fq_2 := blk_frozen BKq.out 2
      have zq_3 : World.cell? _ ⟨gbq, 3, none⟩ = some (.string (⟨#[]⟩ : ByteArray)) := (blk_cell BKq.out 3).trans rfl
      have fq_3 := blk_frozen BKq.out 3
      have hnqc := NBq_c.out
      have hmqc := NBc_q.out
      have zc_0 : World.cell? _ ⟨gbc, 0, none⟩ = some (.string id) := (blk_cell BKc.out 0).trans rfl
      have fc_0 := blk_frozen BKc.out 0
      have zc_1 : World.cell? _ ⟨gbc, 1, none⟩ = some (.string t1) := (blk_cell BKc.out 1).trans rfl
      have fc_1 := blk_frozen BKc.out 1
      have zc_2 : World.cell? _ ⟨gbc, 2, none⟩ = some (.string t2) := (blk_cell BKc.out 2).trans rfl
      have fc_2 := blk_frozen BKc.out 2
      have zc_3 : World.cell? _ ⟨gbc, 3, none⟩ = some (.string t3) := (blk_cell BKc.out 3).trans rfl
      have fc_3 := blk_frozen BKc.out 3
      have hncq := NBc_q.out
      have hmcq := NBq_c.out
      go_wp2
      refine bodyPost_ret (results_ct rfl _ _ gbq 66 #[.string (⟨#[]⟩ : ByteArray), .string (⟨#[]⟩ : ByteArray), .string (⟨#[]⟩ : ByteArray), .string (⟨#[]⟩ : ByteArray)] (0, 0) _ rfl (by (with_reducible repeat (first | refine blk_drewN ?_ _ | refine blk_drew ?_ | refine blk_alloc ?_ _)); refine blk_put (cs := #[.string (⟨#[]⟩ : ByteArray), .string (⟨#[]⟩ : ByteArray), .string (⟨#[]⟩ : ByteArray), .string (⟨#[]⟩ : ByteArray)]) ?_ 3 _ rfl; (with_reducible repeat (first | refine blk_drewN ?_ _ | refine blk_drew ?_ | refine blk_alloc ?_ _)); refine blk_put (cs := #[.string (⟨#[]⟩ : ByteArray), .string (⟨#[]⟩ : ByteArray), .string (⟨#[]⟩ : ByteArray), .string (⟨#[]⟩ : ByteArray)]) ?_ 2 _ rfl; (with_reducible repeat (first | refine blk_drewN ?_ _ | refine blk_drew ?_ | refine blk_alloc ?_ _)); refine blk_put (cs := #[.string (⟨#[]⟩ : ByteArray), .string (⟨#[]⟩ : ByteArray), .string (⟨#[]⟩ : ByteArray), .string (⟨#[]⟩ : ByteArray)]) ?_ 1 _ rfl; (with_reducible repeat (first | refine blk_drewN ?_ _ | refine blk_drew ?_ | refine blk_alloc ?_ _)); refine blk_put (cs := #[.string (⟨#[]⟩ : ByteArray), .string (⟨#[]⟩ : ByteArray), .string (⟨#[]⟩ : ByteArray), .string (⟨#[]⟩ : ByteArray)]) ?_ 0 _ rfl; (with_reducible repeat (first | refine blk_drewN ?_ _ | refine blk_drew ?_ | refine blk_alloc ?_ _)); exact BKq.out) Tryz.underlying66 rfl (by kernel_rfl)) rfl ?_
      exact ⟨by first | rfl | trivial, by repeat (first | (with_reducible first | exact HB.out | apply below_alloc | apply pw_below_drewN | apply below_drew1 | refine below_set ?_ GEq.out | refine below_set ?_ GEc.out) | exact HB.out)⟩
set_option maxHeartbeats 2000000 in
set_option maxRecDepth 100000 in
theorem cln_get (id : ByteArray) (w : World) :
    Calls Tryz.prog 54 #[.pointer none, .string id] w fun e w' => e = .returned (.tuple #[.agg #[.string (⟨#[]⟩ : ByteArray), .string (⟨#[]⟩ : ByteArray), .string (⟨#[]⟩ : ByteArray), .string (⟨#[]⟩ : ByteArray)], .int .i64 2]) ∧ Below w.heap.size w w' := by
  have HB := Aside0.mk (Below.refl w.heap.size w)
  go_enter Tryz.func54, Tryz.ntmps54
  go_wp2_with (first | ((with_reducible refine gate_dst (N := 4) rfl ?_); refine box_event ?hg (N := 4) ?hd (cs := #[.string (⟨#[]⟩ : ByteArray), .string (⟨#[]⟩ : ByteArray), .string (⟨#[]⟩ : ByteArray), .string (⟨#[]⟩ : ByteArray)]) (t := 66) ?hr ?_; (case hd => rfl); (case hg => rfl); (case hr => first | (go_simp; done) | (go_simp; rfl)); intro gbq hg wq hbox hb; have GEq := Aside0.mk ((by rw [hg]; exact (below_size (by repeat (first | (with_reducible first | exact HB.out | apply below_alloc | apply pw_below_drewN | apply below_drew1) | exact HB.out))) : w.heap.size ≤ gbq)); have n_HB := Aside0.mk (below_step (by repeat (first | (with_reducible first | exact HB.out | apply below_alloc | apply pw_below_drewN | apply below_drew1) | exact HB.out)) hb); clear HB; have HB := n_HB; clear n_HB; have BKq := Aside0.mk hbox; clear hb hbox hg; have zq_0 : World.cell? _ ⟨gbq, 0, none⟩ = some (.string (⟨#[]⟩ : ByteArray)) := (blk_cell BKq.out 0).trans rfl; have fq_0 := blk_frozen BKq.out 0; have zq_1 : World.cell? _ ⟨gbq, 1, none⟩ = some (.string (⟨#[]⟩ : ByteArray)) := (blk_cell BKq.out 1).trans rfl; have fq_1 := blk_frozen BKq.out 1; have zq_2 : World.cell? _ ⟨gbq, 2, none⟩ = some (.string (⟨#[]⟩ : ByteArray)) := (blk_cell BKq.out 2).trans rfl; have fq_2 := blk_frozen BKq.out 2; have zq_3 : World.cell? _ ⟨gbq, 3, none⟩ = some (.string (⟨#[]⟩ : ByteArray)) := (blk_cell BKq.out 3).trans rfl; have fq_3 := blk_frozen BKq.out 3; have zq_0 : World.cell? _ ⟨gbq, 0, none⟩ = some (.string (⟨#[]⟩ : ByteArray)) := (blk_cell BKq.out 0).trans rfl; have fq_0 := blk_frozen BKq.out 0; have zq_1 : World.cell? _ ⟨gbq, 1, none⟩ = some (.string (⟨#[]⟩ : ByteArray)) := (blk_cell BKq.out 1).trans rfl; have fq_1 := blk_frozen BKq.out 1; have zq_2 : World.cell? _ ⟨gbq, 2, none⟩ = some (.string (⟨#[]⟩ : ByteArray)) := (blk_cell BKq.out 2).trans rfl; have fq_2 := blk_frozen BKq.out 2; have zq_3 : World.cell? _ ⟨gbq, 3, none⟩ = some (.string (⟨#[]⟩ : ByteArray)) := (blk_cell BKq.out 3).trans rfl; have fq_3 := blk_frozen BKq.out 3))
  refine bodyPost_ret (results_ct rfl _ _ gbq 66 #[.string (⟨#[]⟩ : ByteArray), .string (⟨#[]⟩ : ByteArray), .string (⟨#[]⟩ : ByteArray), .string (⟨#[]⟩ : ByteArray)] (0, 0) _ rfl (by (with_reducible repeat (first | refine blk_drewN ?_ _ | refine blk_drew ?_ | refine blk_alloc ?_ _)); refine blk_put (cs := #[.string (⟨#[]⟩ : ByteArray), .string (⟨#[]⟩ : ByteArray), .string (⟨#[]⟩ : ByteArray), .string (⟨#[]⟩ : ByteArray)]) ?_ 3 _ rfl; (with_reducible repeat (first | refine blk_drewN ?_ _ | refine blk_drew ?_ | refine blk_alloc ?_ _)); refine blk_put (cs := #[.string (⟨#[]⟩ : ByteArray), .string (⟨#[]⟩ : ByteArray), .string (⟨#[]⟩ : ByteArray), .string (⟨#[]⟩ : ByteArray)]) ?_ 2 _ rfl; (with_reducible repeat (first | refine blk_drewN ?_ _ | refine blk_drew ?_ | refine blk_alloc ?_ _)); refine blk_put (cs := #[.string (⟨#[]⟩ : ByteArray), .string (⟨#[]⟩ : ByteArray), .string (⟨#[]⟩ : ByteArray), .string (⟨#[]⟩ : ByteArray)]) ?_ 1 _ rfl; (with_reducible repeat (first | refine blk_drewN ?_ _ | refine blk_drew ?_ | refine blk_alloc ?_ _)); refine blk_put (cs := #[.string (⟨#[]⟩ : ByteArray), .string (⟨#[]⟩ : ByteArray), .string (⟨#[]⟩ : ByteArray), .string (⟨#[]⟩ : ByteArray)]) ?_ 0 _ rfl; (with_reducible repeat (first | refine blk_drewN ?_ _ | refine blk_drew ?_ | refine blk_alloc ?_ _)); exact BKq.out) Tryz.underlying66 rfl (by kernel_rfl)) rfl ?_
  exact ⟨by first | rfl | trivial, by repeat (first | (with_reducible first | exact HB.out | apply below_alloc | apply pw_below_drewN | apply below_drew1 | refine below_set ?_ GEq.out) | exact HB.out)⟩

end Go.Proofs.YtjappgjpikbdeaaGreatDoor.PTkk
