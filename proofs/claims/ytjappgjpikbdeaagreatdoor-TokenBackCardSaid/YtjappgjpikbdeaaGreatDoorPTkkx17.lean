-- written by wip/myprint.py over the kit's print; not a printed text of print.sh
import Derived.Test.YtjappgjpikbdeaaGreatDoorPTkkx0
import Derived.Test.YtjappgjpikbdeaaGreatDoorPTkkx3
import Derived.Test.YtjappgjpikbdeaaGreatDoorPTkkx7
import Derived.Test.YtjappgjpikbdeaaGreatDoorPTkkx10
import Derived.Test.YtjappgjpikbdeaaGreatDoorPTkkx14
import Derived.Test.YtjappgjpikbdeaaGreatDoorPTkkx15
import Derived.Test.YtjappgjpikbdeaaGreatDoorPTkkx16
namespace Go.Proofs.YtjappgjpikbdeaaGreatDoor.PTkk
open Go.RowKit Go.Proofs.YtjappgjpikbdeaaGreatDoorW.PrintWords Go.Proofs.YtjappgjpikbdeaaGreatDoorW.PrintLast Go.Proofs.YtjappgjpikbdeaaGreatDoorW.PrintMore
attribute [local go_sem] max2_int min2_int max_two min_two max_three min_three max_four min_four   -- for this text's walks alone
set_option linter.unusedVariables false
set_option linter.unusedSimpArgs false

/-! ### class_New: function 35 -/
-- @break
theorem eqB66 (d : Nat) (w : World) (x0 y0 : ByteArray) (x1 y1 : ByteArray) (x2 y2 : ByteArray) (x3 y3 : ByteArray) :
    (Op.equalIn (d + 2) 66 (.agg #[.string x0, .string x1, .string x2, .string x3]) (.agg #[.string y0, .string y1, .string y2, .string y3])).run Tryz.prog w = .ok (x0.toList == y0.toList && (x1.toList == y1.toList && (x2.toList == y2.toList && (x3.toList == y3.toList)))) w := by
  refine eqA_of Tryz.underlying66 (by kernel_rfl) ?_
  refine eqf_cons (by rfl) (by go_simp; rfl) (by go_simp; rfl) (by go_simp) ?_
  refine eqf_cons (by rfl) (by go_simp; rfl) (by go_simp; rfl) (by go_simp) ?_
  refine eqf_cons (by rfl) (by go_simp; rfl) (by go_simp; rfl) (by go_simp) ?_
  exact eqf_last (by rfl) (by go_simp; rfl) (by go_simp; rfl) (by go_simp)
attribute [local go_sem high] eqB66
def clNewE (cur : List S82) (c0 c1 c2 c3 : ByteArray) : Int :=
  if c0.size = 0 ∨ c0.size > 512 ∨ c3.size > 512 then 7 else if c1.size > 32768 ∨ c2.size > 16384 then 4 else if hasK cur (keyB (⟨#[99, 108, 97, 115, 115]⟩ : ByteArray) [c0]) = true then 9 else setE (keyB (⟨#[99, 108, 97, 115, 115]⟩ : ByteArray) [c0]) (valB [c1, c2, c3])
def clNew (cur : List S82) (c0 c1 c2 c3 : ByteArray) : List S82 :=
  if c0.size = 0 ∨ c0.size > 512 ∨ c3.size > 512 then cur else if c1.size > 32768 ∨ c2.size > 16384 then cur else if hasK cur (keyB (⟨#[99, 108, 97, 115, 115]⟩ : ByteArray) [c0]) = true then cur else setC cur (keyB (⟨#[99, 108, 97, 115, 115]⟩ : ByteArray) [c0]) (valB [c1, c2, c3])
theorem no_list {s : ByteArray} (h : ¬ s.size = 0) : (s.toList == ([] : List UInt8)) = false := by
  rw [beq_eq_false_iff_ne]; intro e; exact h (by rw [ba_size, e]; rfl)
set_option maxHeartbeats 2000000 in
set_option maxRecDepth 100000 in
theorem cl_newB {base g : Nat} {ok : Nat → Prop} {w0 : World} {cur : List S82} (c0 c1 c2 c3 : ByteArray) {w : World} (h : JS base ok w0 g cur w) (hk : KV 1000000 cur) (hid : c0.size ≤ 50000000) (h0 : ¬ c0.size = 0) (hA : ¬ 512 < c0.size) (hB : ¬ 512 < c3.size) (hC : ¬ 32768 < c1.size) (hD : ¬ 16384 < c2.size) (hb0 : hasK cur (keyB (⟨#[99, 108, 97, 115, 115]⟩ : ByteArray) [c0]) = false) :
    Calls Tryz.prog 35 #[.pointer (some ⟨g, 0, none⟩), .agg #[.string c0, .string c1, .string c2, .string c3]] w fun e w' => e = .returned (.int .i64 (setE (keyB (⟨#[99, 108, 97, 115, 115]⟩ : ByteArray) [c0]) (valB [c1, c2, c3]))) ∧ JS base ok w0 g (setC cur (keyB (⟨#[99, 108, 97, 115, 115]⟩ : ByteArray) [c0]) (valB [c1, c2, c3])) w' ∧ JK w w' := by
  obtain ⟨k1, key1⟩ := clKey_ev c0 hid
  have HJ := Aside0.mk h
  have HK := Aside0.mk (JK.of_below (Below.refl w.heap.size w))
  clear h
  generalize keyB (⟨#[99, 108, 97, 115, 115]⟩ : ByteArray) [c0] = key at key1 hb0 ⊢
  obtain ⟨v, hv⟩ : ∃ v, (getK cur key).1 = v := ⟨_, rfl⟩
  have h0b := no_list h0
  obtain ⟨y2, hy2⟩ : ∃ y : List ByteArray, y = [c1, c2, c3] := ⟨_, rfl⟩
  rw [← hy2]
  have hly2 : y2.length = 3 := by rw [hy2]; rfl
  have hsy2 : ∀ s ∈ y2, s.size ≤ 32768 := by
    rw [hy2]
    intro s hs
    simp only [List.mem_cons, List.not_mem_nil, or_false] at hs
    rcases hs with rfl | rfl | rfl <;> omega
  have Ny2 := Aside0.mk hy2
  clear hy2
  go_enter Tryz.func35, Tryz.ntmps35
  go_wp2_with (first | ((with_reducible refine gate_dst (N := 3) rfl ?_); refine box_event ?hg (N := 3) ?hd (cs := #[.string c0, .string c1, .string c2, .string c3]) (t := 66) ?hr ?_; (case hd => rfl); (case hg => rfl); (case hr => first | (go_simp; done) | (go_simp; rfl)); intro gbc hg wc hbox hb; have GKc := Aside0.mk ((by rw [hg]; exact JK.size (by (with_reducible repeat (first | apply JK.drewN | apply JK.drew | apply JK.alloc)); exact HK.out) : w.heap.size ≤ gbc)); have GJc := Aside0.mk ((by rw [hg]; exact JS.size0 (base := base) (ok := ok) (w0 := w0) (g := g) (cur := cur) (by (with_reducible repeat (first | apply JS.drewN | apply JS.drew | apply JS.alloc)); exact HJ.out) : w0.heap.size ≤ gbc)); have n_HK := Aside0.mk (HK.out.trans (JK.of_below hb)); have n_HJ := Aside0.mk (JS.below (base := base) (ok := ok) (w0 := w0) (g := g) (cur := cur) (by (with_reducible repeat (first | apply JS.drewN | apply JS.drew | apply JS.alloc)); exact HJ.out) hb); clear HK HJ; have HK := n_HK; have HJ := n_HJ; clear n_HK n_HJ; have BKc := Aside0.mk hbox; clear hb hbox hg; have zc_0 : World.cell? _ ⟨gbc, 0, none⟩ = some (.string c0) := (blk_cell BKc.out 0).trans rfl; have fc_0 := blk_frozen BKc.out 0; have zc_1 : World.cell? _ ⟨gbc, 1, none⟩ = some (.string c1) := (blk_cell BKc.out 1).trans rfl; have fc_1 := blk_frozen BKc.out 1; have zc_2 : World.cell? _ ⟨gbc, 2, none⟩ = some (.string c2) := (blk_cell BKc.out 2).trans rfl; have fc_2 := blk_frozen BKc.out 2; have zc_3 : World.cell? _ ⟨gbc, 3, none⟩ = some (.string c3) := (blk_cell BKc.out 3).trans rfl; have fc_3 := blk_frozen BKc.out 3))
  refine (class_key.calls k1 c0 key _ key1).mono ?_
  rintro e w1 ⟨rfl, hb⟩
  have n_HK := Aside0.mk (HK.out.trans (JK.of_below hb))
  have n_HJ := Aside0.mk (JS.below (base := base) (ok := ok) (w0 := w0) (g := g) (cur := cur) (by (with_reducible repeat (first | apply JS.drewN | apply JS.drew | apply JS.alloc)); exact HJ.out) hb)
  have n_BKc := Aside0.mk (blk_below (g := gbc) (o := .cells #[.string c0, .string c1, .string c2, .string c3] 66 (0, 0)) (by (with_reducible repeat (first | refine blk_drewN ?_ _ | refine blk_drew ?_ | refine blk_alloc ?_ _)); exact BKc.out) hb)
  clear HK HJ BKc
  have HK := n_HK
  have HJ := n_HJ
  have BKc := n_BKc
  clear n_HK n_HJ n_BKc
  clear hb
  go_wp2_with fail
  refine (js_get key v false HJ.out hk hv hb0).mono ?_
  rintro e w2 ⟨rfl, hb⟩
  have n_HK := Aside0.mk (HK.out.trans (JK.of_below hb))
  have n_HJ := Aside0.mk (JS.below (base := base) (ok := ok) (w0 := w0) (g := g) (cur := cur) (by (with_reducible repeat (first | apply JS.drewN | apply JS.drew | apply JS.alloc)); exact HJ.out) hb)
  have n_BKc := Aside0.mk (blk_below (g := gbc) (o := .cells #[.string c0, .string c1, .string c2, .string c3] 66 (0, 0)) (by (with_reducible repeat (first | refine blk_drewN ?_ _ | refine blk_drew ?_ | refine blk_alloc ?_ _)); exact BKc.out) hb)
  clear HK HJ BKc
  have HK := n_HK
  have HJ := n_HJ
  have BKc := n_BKc
  clear n_HK n_HJ n_BKc
  clear hb
  have zc_0 : World.cell? _ ⟨gbc, 0, none⟩ = some (.string c0) := (blk_cell BKc.out 0).trans rfl
  have fc_0 := blk_frozen BKc.out 0
  have zc_1 : World.cell? _ ⟨gbc, 1, none⟩ = some (.string c1) := (blk_cell BKc.out 1).trans rfl
  have fc_1 := blk_frozen BKc.out 1
  have zc_2 : World.cell? _ ⟨gbc, 2, none⟩ = some (.string c2) := (blk_cell BKc.out 2).trans rfl
  have fc_2 := blk_frozen BKc.out 2
  have zc_3 : World.cell? _ ⟨gbc, 3, none⟩ = some (.string c3) := (blk_cell BKc.out 3).trans rfl
  have fc_3 := blk_frozen BKc.out 3
  go_wp2_with (first | ((with_reducible refine gate_dst (N := 60) rfl ?_); (try (refine gate_guard (by rfl) ?_; dsimp only)); refine Kd.R_lit Kd.string _ 9 ?hg (N := 60) ?hd (xs := ([c1, c2, c3] : List ByteArray)) (inner := [.string c1, .string c2, .string c3]) (ok := fun _ => True) (okp := fun _ => True) ?hr ?hp (fun _ hk => hk) trivial (Below.refl _ _) (Nat.le_refl _) (by simp) ?_; (case hd => rfl); (case hg => rfl); (case hr => first | (go_simp; done) | (go_simp; rfl)); (case hp => exact (Reps.one (show Kd.M Kd.string _ _ _ c1 [.string c1] from rfl) (Reps.one (show Kd.M Kd.string _ _ _ c2 [.string c2] from rfl) (Reps.one (show Kd.M Kd.string _ _ _ c3 [.string c3] from rfl) (Reps.none _ _))))); intro vlit wy2 hlit hb hg_ hnew_; clear hg_ hnew_; rw [← Ny2.out] at hlit; obtain ⟨Ay2, cy2, el_⟩ := Kd.R_slice hlit; subst el_; have Ry2 := Aside0.mk hlit; clear hlit; have n_HK := Aside0.mk (HK.out.trans (JK.of_below hb)); have n_HJ := Aside0.mk (JS.below (base := base) (ok := ok) (w0 := w0) (g := g) (cur := cur) (by (with_reducible repeat (first | apply JS.drewN | apply JS.drew | apply JS.alloc)); exact HJ.out) hb); have n_BKc := Aside0.mk (blk_below (g := gbc) (o := .cells #[.string c0, .string c1, .string c2, .string c3] 66 (0, 0)) (by (with_reducible repeat (first | refine blk_drewN ?_ _ | refine blk_drew ?_ | refine blk_alloc ?_ _)); exact BKc.out) hb); clear HK HJ BKc; have HK := n_HK; have HJ := n_HJ; have BKc := n_BKc; clear n_HK n_HJ n_BKc; clear hb))
  clear h0 h0b hA hB hC hD hv hb0
  iterate 6 (try clear zc_0 zc_1 zc_2 zc_3 fc_0 fc_1 fc_2 fc_3)
  have Cy2 := Aside0.mk (Kd.R_reads' Ry2.out).2.2
  clear Ry2
  go_loopg [7, 62] y2.length (fun gg sa si wx => ∃ i : Nat, sa = .string (valB (y2.take i)) ∧ si = .int .i64 (i : Int) ∧ i + gg = y2.length ∧ Aside0 (Below wy2.heap.size wy2 wx))
  case atStart => exact ⟨0, rfl, rfl, by omega, ⟨Below.refl _ _⟩⟩
  case round =>
    obtain ⟨i, rfl, rfl, hi, HL⟩ := hrel
    by_cases hlt : i < y2.length
    · have p1 : (0 : Int) ≤ (i : Int) := by omega
      have q1 : (i : Int) < (y2.length : Int) := by omega
      obtain ⟨ad, e1, hx1⟩ := Kd.at_string Cy2.out (i : Int) p1 q1
      cases e1
      replace hx1 := (HL.out.cell (World.block_lt_of_cell? _ _ hx1)).trans hx1
      rw [rdOf_get y2 i hlt] at hx1
      simp only [Int.toNat_natCast] at hx1
      have hsi := hsy2 _ (List.getElem_mem hlt)
      have hstep := valB_take y2 i hlt
      have hva := valB_len hsy2 (by omega) i
      have htb := textB_len y2[i]
      generalize y2[i] = d at hx1 hsi hstep htb
      have c9 : (valB (y2.take i)).size + (textB d).size ≤ 9223372036854775807 := by omega
      have A9 := Aside0.mk c9
      have AS9 := Aside0.mk hstep
      have AW9 := Aside0.mk (w_one i (by omega))
      clear hsi hstep hva htb c9
      go_wp2_with fail
      obtain ⟨er9, hT9⟩ : ∃ er, wire_Text.f d = some (textB d, er) := ⟨_, wText_is d⟩
      refine (wire_Text.calls d _ _ _ hT9).mono ?_
      rintro e w_t ⟨rfl, hb⟩
      clear hT9
      have HL2 := Aside0.mk (below_then HL.out HL.out.size hb)
      clear hb HL hx1
      have c9b0 := eq_true A9.out
      have c9b2 : (9223372036854775807 < (valB (y2.take i)).size + (textB d).size) = False := eq_false (Nat.not_lt.2 A9.out)
      have hwi : wrap64 ((i : Int) + 1) = ((i + 1 : Nat) : Int) := AW9.out
      go_wp2
      go_roundg (y2.length - (i + 1))
      case measure => omega
      case rel => exact ⟨i + 1, by rw [AS9.out], by first | rfl | (rw [hwi]) | (simp; done), by omega, HL2⟩
    · obtain rfl : i = y2.length := by omega
      rw [List.take_length]
      have n_HK := Aside0.mk (HK.out.trans (JK.of_below HL.out))
      have n_HJ := Aside0.mk (JS.below (base := base) (ok := ok) (w0 := w0) (g := g) (cur := cur) (by (with_reducible repeat (first | apply JS.drewN | apply JS.drew | apply JS.alloc)); exact HJ.out) HL.out)
      have n_BKc := Aside0.mk (blk_below (g := gbc) (o := .cells #[.string c0, .string c1, .string c2, .string c3] 66 (0, 0)) (by (with_reducible repeat (first | refine blk_drewN ?_ _ | refine blk_drew ?_ | refine blk_alloc ?_ _)); exact BKc.out) HL.out)
      clear HK HJ BKc
      have HK := n_HK
      have HJ := n_HJ
      have BKc := n_BKc
      clear n_HK n_HJ n_BKc
      clear HL
      have zc_0 : World.cell? _ ⟨gbc, 0, none⟩ = some (.string c0) := (blk_cell BKc.out 0).trans rfl
      have fc_0 := blk_frozen BKc.out 0
      have zc_1 : World.cell? _ ⟨gbc, 1, none⟩ = some (.string c1) := (blk_cell BKc.out 1).trans rfl
      have fc_1 := blk_frozen BKc.out 1
      have zc_2 : World.cell? _ ⟨gbc, 2, none⟩ = some (.string c2) := (blk_cell BKc.out 2).trans rfl
      have fc_2 := blk_frozen BKc.out 2
      have zc_3 : World.cell? _ ⟨gbc, 3, none⟩ = some (.string c3) := (blk_cell BKc.out 3).trans rfl
      have fc_3 := blk_frozen BKc.out 3
      go_wp2_with fail
      refine (class_key.calls k1 c0 key _ key1).mono ?_
      rintro e w5 ⟨rfl, hb⟩
      have n_HK := Aside0.mk (HK.out.trans (JK.of_below hb))
      have n_HJ := Aside0.mk (JS.below (base := base) (ok := ok) (w0 := w0) (g := g) (cur := cur) (by (with_reducible repeat (first | apply JS.drewN | apply JS.drew | apply JS.alloc)); exact HJ.out) hb)
      have n_BKc := Aside0.mk (blk_below (g := gbc) (o := .cells #[.string c0, .string c1, .string c2, .string c3] 66 (0, 0)) (by (with_reducible repeat (first | refine blk_drewN ?_ _ | refine blk_drew ?_ | refine blk_alloc ?_ _)); exact BKc.out) hb)
      clear HK HJ BKc
      have HK := n_HK
      have HJ := n_HJ
      have BKc := n_BKc
      clear n_HK n_HJ n_BKc
      clear hb
      go_wp2_with fail
      refine (js_set key (valB y2) HJ.out hk).mono ?_
      rintro e w6 ⟨rfl, hj, hk2⟩
      have HJ6 := Aside0.mk hj
      have HK6 := Aside0.mk (HK.out.trans hk2)
      clear hj hk2
      go_wp2
      go_ret
      exact ⟨rfl, HJ6.out, HK6.out⟩
set_option maxHeartbeats 2000000 in
set_option maxRecDepth 100000 in
theorem cl_newA {base g : Nat} {ok : Nat → Prop} {w0 : World} {cur : List S82} (c0 c1 c2 c3 : ByteArray) (x : Int) (cur' : List S82) {w : World} (h : JS base ok w0 g cur w) (hk : KV 1000000 cur) (hid : c0.size ≤ 50000000) (hbad : c0.size = 0 ∨ c0.size > 512 ∨ c3.size > 512 ∨ c1.size > 32768 ∨ c2.size > 16384 ∨ hasK cur (keyB (⟨#[99, 108, 97, 115, 115]⟩ : ByteArray) [c0]) = true) (hx : clNewE cur c0 c1 c2 c3 = x) (hcur : clNew cur c0 c1 c2 c3 = cur') :
    Calls Tryz.prog 35 #[.pointer (some ⟨g, 0, none⟩), .agg #[.string c0, .string c1, .string c2, .string c3]] w fun e w' => e = .returned (.int .i64 x) ∧ JS base ok w0 g cur' w' ∧ JK w w' := by
  obtain ⟨k1, key1⟩ := clKey_ev c0 hid
  have HJ := Aside0.mk h
  have HK := Aside0.mk (JK.of_below (Below.refl w.heap.size w))
  clear h
  unfold clNewE at hx
  unfold clNew at hcur
  generalize keyB (⟨#[99, 108, 97, 115, 115]⟩ : ByteArray) [c0] = key at key1 hx hcur hbad
  obtain ⟨v, hv⟩ : ∃ v, (getK cur key).1 = v := ⟨_, rfl⟩
  obtain ⟨b, hb0⟩ : ∃ b, hasK cur key = b := ⟨_, rfl⟩
  rw [hb0] at hx hcur hbad
  go_enter Tryz.func35, Tryz.ntmps35
  go_wp2_with (first | ((with_reducible refine gate_dst (N := 3) rfl ?_); refine box_event ?hg (N := 3) ?hd (cs := #[.string c0, .string c1, .string c2, .string c3]) (t := 66) ?hr ?_; (case hd => rfl); (case hg => rfl); (case hr => first | (go_simp; done) | (go_simp; rfl)); intro gbc hg wc hbox hb; have GKc := Aside0.mk ((by rw [hg]; exact JK.size (by (with_reducible repeat (first | apply JK.drewN | apply JK.drew | apply JK.alloc)); exact HK.out) : w.heap.size ≤ gbc)); have GJc := Aside0.mk ((by rw [hg]; exact JS.size0 (base := base) (ok := ok) (w0 := w0) (g := g) (cur := cur) (by (with_reducible repeat (first | apply JS.drewN | apply JS.drew | apply JS.alloc)); exact HJ.out) : w0.heap.size ≤ gbc)); have n_HK := Aside0.mk (HK.out.trans (JK.of_below hb)); have n_HJ := Aside0.mk (JS.below (base := base) (ok := ok) (w0 := w0) (g := g) (cur := cur) (by (with_reducible repeat (first | apply JS.drewN | apply JS.drew | apply JS.alloc)); exact HJ.out) hb); clear HK HJ; have HK := n_HK; have HJ := n_HJ; clear n_HK n_HJ; have BKc := Aside0.mk hbox; clear hb hbox hg; have zc_0 : World.cell? _ ⟨gbc, 0, none⟩ = some (.string c0) := (blk_cell BKc.out 0).trans rfl; have fc_0 := blk_frozen BKc.out 0; have zc_1 : World.cell? _ ⟨gbc, 1, none⟩ = some (.string c1) := (blk_cell BKc.out 1).trans rfl; have fc_1 := blk_frozen BKc.out 1; have zc_2 : World.cell? _ ⟨gbc, 2, none⟩ = some (.string c2) := (blk_cell BKc.out 2).trans rfl; have fc_2 := blk_frozen BKc.out 2; have zc_3 : World.cell? _ ⟨gbc, 3, none⟩ = some (.string c3) := (blk_cell BKc.out 3).trans rfl; have fc_3 := blk_frozen BKc.out 3))
  refine (class_key.calls k1 c0 key _ key1).mono ?_
  rintro e w1 ⟨rfl, hb⟩
  have n_HK := Aside0.mk (HK.out.trans (JK.of_below hb))
  have n_HJ := Aside0.mk (JS.below (base := base) (ok := ok) (w0 := w0) (g := g) (cur := cur) (by (with_reducible repeat (first | apply JS.drewN | apply JS.drew | apply JS.alloc)); exact HJ.out) hb)
  have n_BKc := Aside0.mk (blk_below (g := gbc) (o := .cells #[.string c0, .string c1, .string c2, .string c3] 66 (0, 0)) (by (with_reducible repeat (first | refine blk_drewN ?_ _ | refine blk_drew ?_ | refine blk_alloc ?_ _)); exact BKc.out) hb)
  clear HK HJ BKc
  have HK := n_HK
  have HJ := n_HJ
  have BKc := n_BKc
  clear n_HK n_HJ n_BKc
  clear hb
  go_wp2_with fail
  refine (js_get key v b HJ.out hk hv hb0).mono ?_
  rintro e w2 ⟨rfl, hb⟩
  have n_HK := Aside0.mk (HK.out.trans (JK.of_below hb))
  have n_HJ := Aside0.mk (JS.below (base := base) (ok := ok) (w0 := w0) (g := g) (cur := cur) (by (with_reducible repeat (first | apply JS.drewN | apply JS.drew | apply JS.alloc)); exact HJ.out) hb)
  have n_BKc := Aside0.mk (blk_below (g := gbc) (o := .cells #[.string c0, .string c1, .string c2, .string c3] 66 (0, 0)) (by (with_reducible repeat (first | refine blk_drewN ?_ _ | refine blk_drew ?_ | refine blk_alloc ?_ _)); exact BKc.out) hb)
  clear HK HJ BKc
  have HK := n_HK
  have HJ := n_HJ
  have BKc := n_BKc
  clear n_HK n_HJ n_BKc
  clear hb
  have zc_0 : World.cell? _ ⟨gbc, 0, none⟩ = some (.string c0) := (blk_cell BKc.out 0).trans rfl
  have fc_0 := blk_frozen BKc.out 0
  have zc_1 : World.cell? _ ⟨gbc, 1, none⟩ = some (.string c1) := (blk_cell BKc.out 1).trans rfl
  have fc_1 := blk_frozen BKc.out 1
  have zc_2 : World.cell? _ ⟨gbc, 2, none⟩ = some (.string c2) := (blk_cell BKc.out 2).trans rfl
  have fc_2 := blk_frozen BKc.out 2
  have zc_3 : World.cell? _ ⟨gbc, 3, none⟩ = some (.string c3) := (blk_cell BKc.out 3).trans rfl
  have fc_3 := blk_frozen BKc.out 3
  by_cases h0 : c0.size = 0
  · rw [if_pos (.inl h0)] at hx hcur
    obtain rfl : c0 = (⟨#[]⟩ : ByteArray) := ByteArray.size_eq_zero_iff.1 h0
    by_cases h1 : c1.size = 0
    · obtain rfl : c1 = (⟨#[]⟩ : ByteArray) := ByteArray.size_eq_zero_iff.1 h1
      by_cases h2 : c2.size = 0
      · obtain rfl : c2 = (⟨#[]⟩ : ByteArray) := ByteArray.size_eq_zero_iff.1 h2
        by_cases h3 : c3.size = 0
        · obtain rfl : c3 = (⟨#[]⟩ : ByteArray) := ByteArray.size_eq_zero_iff.1 h3
          subst hx hcur
          go_wp2
          go_ret
          exact ⟨rfl, by (with_reducible repeat (first | apply JS.drewN | apply JS.drew | apply JS.alloc)); exact HJ.out, by (with_reducible repeat (first | apply JK.drewN | apply JK.drew | apply JK.alloc)); exact HK.out⟩
        · have h3b := no_list h3
          subst hx hcur
          go_wp2
          go_ret
          exact ⟨rfl, by (with_reducible repeat (first | apply JS.drewN | apply JS.drew | apply JS.alloc)); exact HJ.out, by (with_reducible repeat (first | apply JK.drewN | apply JK.drew | apply JK.alloc)); exact HK.out⟩
      · have h2b := no_list h2
        subst hx hcur
        go_wp2
        go_ret
        exact ⟨rfl, by (with_reducible repeat (first | apply JS.drewN | apply JS.drew | apply JS.alloc)); exact HJ.out, by (with_reducible repeat (first | apply JK.drewN | apply JK.drew | apply JK.alloc)); exact HK.out⟩
    · have h1b := no_list h1
      subst hx hcur
      go_wp2
      go_ret
      exact ⟨rfl, by (with_reducible repeat (first | apply JS.drewN | apply JS.drew | apply JS.alloc)); exact HJ.out, by (with_reducible repeat (first | apply JK.drewN | apply JK.drew | apply JK.alloc)); exact HK.out⟩
  · have h0b := no_list h0
    by_cases hA : 512 < c0.size
    · rw [if_pos (.inr (.inl hA))] at hx hcur
      subst hx hcur
      go_wp2
      go_ret
      exact ⟨rfl, by (with_reducible repeat (first | apply JS.drewN | apply JS.drew | apply JS.alloc)); exact HJ.out, by (with_reducible repeat (first | apply JK.drewN | apply JK.drew | apply JK.alloc)); exact HK.out⟩
    · by_cases hB : 512 < c3.size
      · rw [if_pos (.inr (.inr hB))] at hx hcur
        subst hx hcur
        go_wp2
        go_ret
        exact ⟨rfl, by (with_reducible repeat (first | apply JS.drewN | apply JS.drew | apply JS.alloc)); exact HJ.out, by (with_reducible repeat (first | apply JK.drewN | apply JK.drew | apply JK.alloc)); exact HK.out⟩
      · rw [if_neg (by omega)] at hx hcur
        by_cases hC : 32768 < c1.size
        · rw [if_pos (.inl hC)] at hx hcur
          subst hx hcur
          go_wp2
          go_ret
          exact ⟨rfl, by (with_reducible repeat (first | apply JS.drewN | apply JS.drew | apply JS.alloc)); exact HJ.out, by (with_reducible repeat (first | apply JK.drewN | apply JK.drew | apply JK.alloc)); exact HK.out⟩
        · by_cases hD : 16384 < c2.size
          · rw [if_pos (.inr hD)] at hx hcur
            subst hx hcur
            go_wp2
            go_ret
            exact ⟨rfl, by (with_reducible repeat (first | apply JS.drewN | apply JS.drew | apply JS.alloc)); exact HJ.out, by (with_reducible repeat (first | apply JK.drewN | apply JK.drew | apply JK.alloc)); exact HK.out⟩
          · rw [if_neg (by omega)] at hx hcur
            cases b with
            | false =>
              exact absurd hbad (by rintro (h | h | h | h | h | h) <;> first | omega | cases h)
            | true =>
              rw [if_pos rfl] at hx hcur
              subst hx hcur
              go_wp2
              go_ret
              exact ⟨rfl, by (with_reducible repeat (first | apply JS.drewN | apply JS.drew | apply JS.alloc)); exact HJ.out, by (with_reducible repeat (first | apply JK.drewN | apply JK.drew | apply JK.alloc)); exact HK.out⟩
theorem cl_new {base g : Nat} {ok : Nat → Prop} {w0 : World} {cur : List S82} (c0 c1 c2 c3 : ByteArray) (x : Int) (cur' : List S82) {w : World} (h : JS base ok w0 g cur w) (hk : KV 1000000 cur) (hid : c0.size ≤ 50000000) (hx : clNewE cur c0 c1 c2 c3 = x) (hcur : clNew cur c0 c1 c2 c3 = cur') :
    Calls Tryz.prog 35 #[.pointer (some ⟨g, 0, none⟩), .agg #[.string c0, .string c1, .string c2, .string c3]] w fun e w' => e = .returned (.int .i64 x) ∧ JS base ok w0 g cur' w' ∧ JK w w' := by
  by_cases hbad : c0.size = 0 ∨ c0.size > 512 ∨ c3.size > 512 ∨ c1.size > 32768 ∨ c2.size > 16384 ∨ hasK cur (keyB (⟨#[99, 108, 97, 115, 115]⟩ : ByteArray) [c0]) = true
  · exact cl_newA c0 c1 c2 c3 x cur' h hk hid hbad hx hcur
  · have h0 : ¬ c0.size = 0 := fun e => hbad (.inl e)
    have hA : ¬ 512 < c0.size := fun e => hbad (.inr (.inl e))
    have hB : ¬ 512 < c3.size := fun e => hbad (.inr (.inr (.inl e)))
    have hC : ¬ 32768 < c1.size := fun e => hbad (.inr (.inr (.inr (.inl e))))
    have hD : ¬ 16384 < c2.size := fun e => hbad (.inr (.inr (.inr (.inr (.inl e)))))
    have hb0 : hasK cur (keyB (⟨#[99, 108, 97, 115, 115]⟩ : ByteArray) [c0]) = false := Bool.eq_false_iff.2 (fun e => hbad (.inr (.inr (.inr (.inr (.inr e))))))
    unfold clNewE at hx
    unfold clNew at hcur
    rw [if_neg (by omega), if_neg (by omega), if_neg (by rw [hb0]; decide)] at hx hcur
    subst hx hcur
    exact cl_newB c0 c1 c2 c3 h hk hid h0 hA hB hC hD hb0
theorem cln_new (c0 c1 c2 c3 : ByteArray) (w : World) :
    Calls Tryz.prog 35 #[.pointer none, .agg #[.string c0, .string c1, .string c2, .string c3]] w fun e w' => e = .returned (.int .i64 2) ∧ Below w.heap.size w w' := by
  have HB := Aside0.mk (Below.refl w.heap.size w)
  go_enter Tryz.func35, Tryz.ntmps35
  go_wp2_with (first | ((with_reducible refine gate_dst (N := 3) rfl ?_); refine box_event ?hg (N := 3) ?hd (cs := #[.string c0, .string c1, .string c2, .string c3]) (t := 66) ?hr ?_; (case hd => rfl); (case hg => rfl); (case hr => first | (go_simp; done) | (go_simp; rfl)); intro gbc hg wc hbox hb; have GEc := Aside0.mk ((by rw [hg]; exact (below_size (by repeat (first | (with_reducible first | exact HB.out | apply below_alloc | apply pw_below_drewN | apply below_drew1) | exact HB.out))) : w.heap.size ≤ gbc)); have n_HB := Aside0.mk (below_step (by repeat (first | (with_reducible first | exact HB.out | apply below_alloc | apply pw_below_drewN | apply below_drew1) | exact HB.out)) hb); clear HB; have HB := n_HB; clear n_HB; have BKc := Aside0.mk hbox; clear hb hbox hg; have zc_0 : World.cell? _ ⟨gbc, 0, none⟩ = some (.string c0) := (blk_cell BKc.out 0).trans rfl; have fc_0 := blk_frozen BKc.out 0; have zc_1 : World.cell? _ ⟨gbc, 1, none⟩ = some (.string c1) := (blk_cell BKc.out 1).trans rfl; have fc_1 := blk_frozen BKc.out 1; have zc_2 : World.cell? _ ⟨gbc, 2, none⟩ = some (.string c2) := (blk_cell BKc.out 2).trans rfl; have fc_2 := blk_frozen BKc.out 2; have zc_3 : World.cell? _ ⟨gbc, 3, none⟩ = some (.string c3) := (blk_cell BKc.out 3).trans rfl; have fc_3 := blk_frozen BKc.out 3))
  go_ret
  exact ⟨rfl, by repeat (first | (with_reducible first | exact HB.out | apply below_alloc | apply pw_below_drewN | apply below_drew1 | refine below_set ?_ GEc.out) | exact HB.out)⟩

/-! ### names_head: function 81 -/
def names_head.f (a0 : Int) : Option (ByteArray) := if a0 = 1 then (some (⟨#[99, 104, 97, 110, 110, 101, 108, 45]⟩ : ByteArray)) else (if a0 = 2 then (some (⟨#[99, 111, 110, 110, 101, 99, 116, 105, 111, 110, 45]⟩ : ByteArray)) else (if a0 = 3 then (some (⟨#[99, 108, 105, 101, 110, 116, 45]⟩ : ByteArray)) else (some (⟨#[]⟩ : ByteArray))))
set_option maxHeartbeats 8000000 in
set_option maxRecDepth 100000 in
theorem names_head.calls (a0 : Int) (r : ByteArray) (w : World) (h : names_head.f a0 = some r) :
    Calls Tryz.prog 81 #[.int .i64 a0] w fun e w' => e = .returned (.string r) ∧ Drawn0 w w' := by
  have H : (if a0 = 1 then (some (⟨#[99, 104, 97, 110, 110, 101, 108, 45]⟩ : ByteArray)) else (if a0 = 2 then (some (⟨#[99, 111, 110, 110, 101, 99, 116, 105, 111, 110, 45]⟩ : ByteArray)) else (if a0 = 3 then (some (⟨#[99, 108, 105, 101, 110, 116, 45]⟩ : ByteArray)) else (some (⟨#[]⟩ : ByteArray))))) = some r := h
  clear h
  by_cases c2 : a0 = 1
  · rw [if_pos c2] at H
    have c2b0 : (a0 == 1) = true := beq_iff_eq.mpr c2
    have c2b1 : (a0 != 1) = false := bne_eq_false_iff_eq.mpr c2
    clear c2
    obtain rfl := Option.some.inj H
    go_enter Tryz.func81, Tryz.ntmps81
    go_wp2
    go_ret
    exact ⟨by first | rfl | (simp; done) | (simp [*]; done), by repeat (first | exact Drawn0.refl _ | apply Drawn0.step)⟩
  · rw [if_neg c2] at H
    have c2b0 : (a0 == 1) = false := beq_eq_false_iff_ne.mpr c2
    have c2b1 : (a0 != 1) = true := bne_iff_ne.mpr c2
    by_cases c3 : a0 = 2
    · rw [if_pos c3] at H
      have c3b0 : (a0 == 2) = true := beq_iff_eq.mpr c3
      have c3b1 : (a0 != 2) = false := bne_eq_false_iff_eq.mpr c3
      clear c3
      obtain rfl := Option.some.inj H
      go_enter Tryz.func81, Tryz.ntmps81
      go_wp2
      go_ret
      exact ⟨by first | rfl | (simp; done) | (simp [*]; done), by repeat (first | exact Drawn0.refl _ | apply Drawn0.step)⟩
    · rw [if_neg c3] at H
      have c3b0 : (a0 == 2) = false := beq_eq_false_iff_ne.mpr c3
      have c3b1 : (a0 != 2) = true := bne_iff_ne.mpr c3
      by_cases c4 : a0 = 3
      · rw [if_pos c4] at H
        have c4b0 : (a0 == 3) = true := beq_iff_eq.mpr c4
        have c4b1 : (a0 != 3) = false := bne_eq_false_iff_eq.mpr c4
        clear c4
        obtain rfl := Option.some.inj H
        go_enter Tryz.func81, Tryz.ntmps81
        go_wp2
        go_ret
        exact ⟨by first | rfl | (simp; done) | (simp [*]; done), by repeat (first | exact Drawn0.refl _ | apply Drawn0.step)⟩
      · rw [if_neg c4] at H
        have c4b0 : (a0 == 3) = false := beq_eq_false_iff_ne.mpr c4
        have c4b1 : (a0 != 3) = true := bne_iff_ne.mpr c4
        obtain rfl := Option.some.inj H
        go_enter Tryz.func81, Tryz.ntmps81
        go_wp2
        go_ret
        exact ⟨by first | rfl | (simp; done) | (simp [*]; done), by repeat (first | exact Drawn0.refl _ | apply Drawn0.step)⟩

/-! ### stringslite_CutPrefix: function 111 -/
def stringslite_CutPrefix.f (a0 : ByteArray) (a1 : ByteArray) : Option (ByteArray × Bool) := (stringslite_HasPrefix.f a0 a1).bind fun t151 => (if t151 = true then (if 0 ≤ (a1.size : Int) then (if (a1.size : Int) ≤ (a0.size : Int) then (some (a0.extract ((a1.size : Int) : Int).toNat a0.size, true)) else (none)) else (none)) else (some (a0, false)))
set_option maxHeartbeats 8000000 in
set_option maxRecDepth 100000 in
theorem stringslite_CutPrefix.calls (a0 : ByteArray) (a1 : ByteArray) (r1 : ByteArray) (r2 : Bool) (w : World) (h : stringslite_CutPrefix.f a0 a1 = some (r1, r2)) :
    Calls Tryz.prog 111 #[.string a0, .string a1] w fun e w' => e = .returned (.tuple #[.string r1, .bool r2]) ∧ Drawn0 w w' := by
  have H : ((stringslite_HasPrefix.f a0 a1).bind fun t151 => (if t151 = true then (if 0 ≤ (a1.size : Int) then (if (a1.size : Int) ≤ (a0.size : Int) then (some (a0.extract ((a1.size : Int) : Int).toNat a0.size, true)) else (none)) else (none)) else (some (a0, false)))) = some (r1, r2) := h
  clear h
  replace H := Option.bind_eq_some_iff.mp H
  obtain ⟨t151, A30, H⟩ := H
  replace H : (if t151 = true then (if 0 ≤ (a1.size : Int) then (if (a1.size : Int) ≤ (a0.size : Int) then (some (a0.extract ((a1.size : Int) : Int).toNat a0.size, true)) else (none)) else (none)) else (some (a0, false))) = some (r1, r2) := H
  have A3 := Aside0.mk A30
  clear A30
  by_cases c4 : t151 = true
  · subst c4
    have H1 : (if 0 ≤ (a1.size : Int) then (if (a1.size : Int) ≤ (a0.size : Int) then (some (a0.extract ((a1.size : Int) : Int).toNat a0.size, true)) else (none)) else (none)) = some (r1, r2) := by rw [if_pos rfl] at H; exact H
    clear H
    have H := H1
    clear H1
    by_cases c5 : 0 ≤ (a1.size : Int)
    · rw [if_pos c5] at H
      have c5b0 := eq_true c5
      have c5b1 : decide (0 ≤ (a1.size : Int)) = true := decide_eq_true c5
      clear c5
      by_cases c6 : (a1.size : Int) ≤ (a0.size : Int)
      · rw [if_pos c6] at H
        have c6b0 := eq_true c6
        have c6b1 : decide ((a1.size : Int) ≤ (a0.size : Int)) = true := decide_eq_true c6
        clear c6
        simp only [Option.some.injEq, Prod.mk.injEq] at H
        obtain ⟨rfl, rfl⟩ := H
        go_enter Tryz.func111, Tryz.ntmps111
        go_wp2_with (first | ((with_reducible refine gate_callee (f := 109) rfl ?_); refine goesL_ (some 8) rfl rfl Tryz.func109 (by kernel_rfl) rfl #[.string a0, .string a1] rfl (by (try simp only [List.map_toArray, List.map_cons, List.map_nil]); first | done | rfl | (simp only [List.length_drop, List.length_take]; rfl)) ?_; (with_reducible refine (stringslite_HasPrefix.calls a0 a1 true _ A3.out).mono ?_); rintro e w' ⟨rfl, ⟨nd, rfl⟩⟩; refine ⟨_, rfl, ?_⟩))
        go_ret2
        exact ⟨by first | rfl | (simp; done) | (simp [*]; done), by repeat (first | exact Drawn0.refl _ | apply Drawn0.step)⟩
      · rw [if_neg c6] at H
        exact absurd H (by simp)
    · rw [if_neg c5] at H
      exact absurd H (by simp)
  · replace c4 := Bool.eq_false_iff.mpr c4
    subst c4
    have H1 : (some (a0, false)) = some (r1, r2) := by rw [if_neg (show ¬ (false = true) by decide)] at H; exact H
    clear H
    have H := H1
    clear H1
    simp only [Option.some.injEq, Prod.mk.injEq] at H
    obtain ⟨rfl, rfl⟩ := H
    go_enter Tryz.func111, Tryz.ntmps111
    go_wp2_with (first | ((with_reducible refine gate_callee (f := 109) rfl ?_); refine goesL_ (some 8) rfl rfl Tryz.func109 (by kernel_rfl) rfl #[.string a0, .string a1] rfl (by (try simp only [List.map_toArray, List.map_cons, List.map_nil]); first | done | rfl | (simp only [List.length_drop, List.length_take]; rfl)) ?_; (with_reducible refine (stringslite_HasPrefix.calls a0 a1 false _ A3.out).mono ?_); rintro e w' ⟨rfl, ⟨nd, rfl⟩⟩; refine ⟨_, rfl, ?_⟩))
    go_ret2
    exact ⟨by first | rfl | (simp; done) | (simp [*]; done), by repeat (first | exact Drawn0.refl _ | apply Drawn0.step)⟩

/-! ### strings_CutPrefix: function 101 -/
def strings_CutPrefix.f (a0 : ByteArray) (a1 : ByteArray) : Option (ByteArray × Bool) := (stringslite_CutPrefix.f a0 a1).bind fun bt152 => (some (bt152.1, bt152.2))
set_option maxHeartbeats 8000000 in
set_option maxRecDepth 100000 in
theorem strings_CutPrefix.calls (a0 : ByteArray) (a1 : ByteArray) (r1 : ByteArray) (r2 : Bool) (w : World) (h : strings_CutPrefix.f a0 a1 = some (r1, r2)) :
    Calls Tryz.prog 101 #[.string a0, .string a1] w fun e w' => e = .returned (.tuple #[.string r1, .bool r2]) ∧ Drawn0 w w' := by
  have H : ((stringslite_CutPrefix.f a0 a1).bind fun bt152 => (some (bt152.1, bt152.2))) = some (r1, r2) := h
  clear h
  replace H := Option.bind_eq_some_iff.mp H
  obtain ⟨⟨t152, t153⟩, A30, H⟩ := H
  replace H : (some (t152, t153)) = some (r1, r2) := H
  have A3 := Aside0.mk A30
  clear A30
  simp only [Option.some.injEq, Prod.mk.injEq] at H
  obtain ⟨rfl, rfl⟩ := H
  go_enter Tryz.func101, Tryz.ntmps101
  go_wp2_with (first | ((with_reducible refine gate_callee (f := 111) rfl ?_); refine goesL_ (some 8) rfl rfl Tryz.func111 (by kernel_rfl) rfl #[.string a0, .string a1] rfl (by (try simp only [List.map_toArray, List.map_cons, List.map_nil]); first | done | rfl | (simp only [List.length_drop, List.length_take]; rfl)) ?_; (with_reducible refine (stringslite_CutPrefix.calls a0 a1 t152 t153 _ A3.out).mono ?_); rintro e w' ⟨rfl, ⟨nd, rfl⟩⟩; refine ⟨_, rfl, ?_⟩))
  go_ret2
  exact ⟨by first | rfl | (simp; done) | (simp [*]; done), by repeat (first | exact Drawn0.refl _ | apply Drawn0.step)⟩

end Go.Proofs.YtjappgjpikbdeaaGreatDoor.PTkk
