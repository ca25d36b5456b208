-- written by wip/myprint.py over the kit's print; not a printed text of print.sh
import Derived.Test.YtjappgjpikbdeaaGreatDoorPTkkx0
import Derived.Test.YtjappgjpikbdeaaGreatDoorPTkkx13
import Derived.Test.YtjappgjpikbdeaaGreatDoorPTkkx15
import Derived.Test.YtjappgjpikbdeaaGreatDoorPTkkx17
import Derived.Test.YtjappgjpikbdeaaGreatDoorPTkkx22
import Derived.Test.YtjappgjpikbdeaaGreatDoorPTkkx30
import Derived.Test.YtjappgjpikbdeaaGreatDoorPTkkx31
import Derived.Test.YtjappgjpikbdeaaGreatDoorPTkkx32
namespace Go.Proofs.YtjappgjpikbdeaaGreatDoor.PTkk
open Go.RowKit Go.Proofs.YtjappgjpikbdeaaGreatDoorW.PrintWords Go.Proofs.YtjappgjpikbdeaaGreatDoorW.PrintLast Go.Proofs.YtjappgjpikbdeaaGreatDoorW.PrintMore
attribute [local go_sem] max2_int min2_int max_two min_two max_three min_three max_four min_four   -- for this text's walks alone
set_option linter.unusedVariables false
set_option linter.unusedSimpArgs false

/-! ### footbridgelaw23_Begin: function 11 -/
-- @break
set_option maxHeartbeats 8000000 in
set_option maxRecDepth 100000 in
theorem tk_begin (A : Option Addr) (c : Nat) (l : List ByteArray) {w : World} (hr : Kd.C Kd.string w A l.length l) (hc : l.length ≤ c) (hl : l.length ≤ 6) (hs : ∀ s ∈ l, s.size ≤ 600) :
    Calls Tryz.prog 11 #[.slice A l.length c] w fun e w' => ∃ g v, e = .returned (.tuple #[.pointer (some ⟨g, 0, none⟩), v]) ∧ J1 w.heap.size g (begK l) v (begK l) w' ∧ Below w.heap.size w w' := by
  have HR0 := Aside0.mk hr
  clear hr
  go_enter Tryz.func11, Tryz.ntmps11
  go_wp2_with fail
  refine (j_new_nil w).mono ?_
  rintro e w1 ⟨g, rfl, hm, hb⟩
  have J0 : Aside0 (J1 w.heap.size g [] (.slice none 0 0) [] w1) := Aside0.mk (J1.of hm (Kd.V_nil _ _ _ _ _))
  have HB0 := Aside0.mk hb
  have hn0 := hb.size
  clear hm hb
  go_wp2_with fail
  go_loopg [5, 6] l.length (fun gg s5 s6 wx => ∃ (j : Nat), s6 = .int .i64 j ∧ j + gg = l.length ∧ w.heap.size ≤ wx.heap.size ∧ Aside0 (J1 w.heap.size g (begK (l.take j)) s5 (begK (l.take j)) wx) ∧ Aside0 (Below w.heap.size w wx))
  case atStart => exact ⟨0, rfl, by omega, hn0, J0, HB0⟩
  case round =>
    clear J0 HB0 hn0
    obtain ⟨j, rfl, hj, hnr, JLr, HBr⟩ := hrel
    by_cases hlt : j < l.length
    · have hx0 : (0 : Int) ≤ ((j : Nat) : Int) := by omega
      have hkl : ((j : Nat) : Int) < (l.length : Int) := by omega
      obtain ⟨ad, e1, zw⟩ := Kd.at_string HR0.out (j : Int) hx0 hkl
      subst e1
      rw [rdOf_get l j hlt] at zw
      simp only [Int.toNat_natCast] at zw
      have z0 := (HBr.out.cell (World.block_lt_of_cell? _ _ zw)).trans zw
      have hsz := hs _ (List.getElem_mem hlt)
      have AT := Aside0.mk (begK_take l j hlt)
      have AW := Aside0.mk (w_one j (by omega))
      have hkv := begK_KV (l.take j)
      have hkl2 : (l.take j).length ≤ 6 := by rw [List.length_take]; omega
      generalize l[j] = d at zw z0 hsz AT
      obtain ⟨cur, hcur⟩ : ∃ z, begK (l.take j) = z := ⟨_, rfl⟩
      rw [hcur] at JLr AT hkv
      clear hcur
      have hkv6 := hkv.mono (show (l.take j).length ≤ 1000000 by omega)
      have hkv3 := hkv.mono (show (l.take j).length ≤ 1000 by omega)
      obtain ⟨E, hE⟩ : ∃ z, clNewE cur d (⟨#[117]⟩ : ByteArray) (⟨#[]⟩ : ByteArray) (⟨#[97, 108]⟩ : ByteArray) = z := ⟨_, rfl⟩
      obtain ⟨K1, hK1⟩ := ref22New_ev cur d (⟨#[117]⟩ : ByteArray) (⟨#[]⟩ : ByteArray) (⟨#[97, 108]⟩ : ByteArray) hkv3 (by omega) (by decide) (by decide) (by decide)
      obtain ⟨cur', hcur'⟩ : ∃ z, clNew cur d (⟨#[117]⟩ : ByteArray) (⟨#[]⟩ : ByteArray) (⟨#[97, 108]⟩ : ByteArray) = z := ⟨_, rfl⟩
      rw [hE, hcur'] at hK1
      rw [hcur'] at AT
      obtain ⟨ok, hlt2, hm2, hv2⟩ := id JLr.out
      obtain ⟨A4, c4, rfl, hc4, _⟩ := id hv2
      have hok : ∀ k, ok k → w.heap.size ≤ k := fun k hk => (hlt2 k hk).1
      have HV := Aside0.mk hv2
      have HJ := Aside0.mk (JS.start hm2 hnr)
      have HK := Aside0.mk (JK.of_below (HBr.out : Below w.heap.size w wr))
      have hid : d.size ≤ 50000000 := by omega
      clear JLr hm2 hv2 hlt2 hsz
      go_wp2_with (first | ((with_reducible refine gate_dst (N := 7) rfl ?_); refine box_event ?hg (N := 7) ?hd (cs := #[.string (⟨#[]⟩ : ByteArray), .string (⟨#[]⟩ : ByteArray), .string (⟨#[]⟩ : ByteArray), .string (⟨#[]⟩ : ByteArray)]) (t := 66) ?hr ?_; (case hd => rfl); (case hg => rfl); (case hr => first | (go_simp; done) | (go_simp; rfl)); intro gbc hg wc hbox hb; have GKc := Aside0.mk ((by rw [hg]; exact JK.size (by first | exact HK.out | ((with_reducible repeat (first | apply JK.drewN | apply JK.drew | apply JK.alloc)); exact HK.out)) : w.heap.size ≤ gbc)); have GJc := Aside0.mk ((by rw [hg]; exact JS.size0 (base := w.heap.size) (ok := ok) (w0 := wr) (g := g) (cur := cur) (by first | exact HJ.out | ((with_reducible repeat (first | apply JS.drewN | apply JS.drew | apply JS.alloc)); exact HJ.out)) : wr.heap.size ≤ gbc)); have n_HK := Aside0.mk (HK.out.trans (JK.of_below hb)); have n_HJ := Aside0.mk (JS.below (base := w.heap.size) (ok := ok) (w0 := wr) (g := g) (cur := cur) (by first | exact HJ.out | ((with_reducible repeat (first | apply JS.drewN | apply JS.drew | apply JS.alloc)); exact HJ.out)) hb); clear HK HJ; have HK := n_HK; have HJ := n_HJ; clear n_HK n_HJ; have BKc := Aside0.mk hbox; clear hb hbox hg; have zc_0 : World.cell? _ ⟨gbc, 0, none⟩ = some (.string (⟨#[]⟩ : ByteArray)) := (blk_cell BKc.out 0).trans rfl; have fc_0 := blk_frozen BKc.out 0; have zc_1 : World.cell? _ ⟨gbc, 1, none⟩ = some (.string (⟨#[]⟩ : ByteArray)) := (blk_cell BKc.out 1).trans rfl; have fc_1 := blk_frozen BKc.out 1; have zc_2 : World.cell? _ ⟨gbc, 2, none⟩ = some (.string (⟨#[]⟩ : ByteArray)) := (blk_cell BKc.out 2).trans rfl; have fc_2 := blk_frozen BKc.out 2; have zc_3 : World.cell? _ ⟨gbc, 3, none⟩ = some (.string (⟨#[]⟩ : ByteArray)) := (blk_cell BKc.out 3).trans rfl; have fc_3 := blk_frozen BKc.out 3; have zc_0 : World.cell? _ ⟨gbc, 0, none⟩ = some (.string (⟨#[]⟩ : ByteArray)) := (blk_cell BKc.out 0).trans rfl; have fc_0 := blk_frozen BKc.out 0; have zc_1 : World.cell? _ ⟨gbc, 1, none⟩ = some (.string (⟨#[]⟩ : ByteArray)) := (blk_cell BKc.out 1).trans rfl; have fc_1 := blk_frozen BKc.out 1; have zc_2 : World.cell? _ ⟨gbc, 2, none⟩ = some (.string (⟨#[]⟩ : ByteArray)) := (blk_cell BKc.out 2).trans rfl; have fc_2 := blk_frozen BKc.out 2; have zc_3 : World.cell? _ ⟨gbc, 3, none⟩ = some (.string (⟨#[]⟩ : ByteArray)) := (blk_cell BKc.out 3).trans rfl; have fc_3 := blk_frozen BKc.out 3))
      refine (cl_new (base := w.heap.size) (ok := ok) (w0 := wr) (g := g) (cur := cur) d (⟨#[117]⟩ : ByteArray) (⟨#[]⟩ : ByteArray) (⟨#[97, 108]⟩ : ByteArray) E cur' (by (with_reducible repeat (first | apply JS.drewN | apply JS.drew | apply JS.alloc)); refine JS.setb (q := 66) ?_ GJc.out (by (with_reducible repeat (first | refine blk_drewN ?_ _ | refine blk_drew ?_ | refine blk_alloc ?_ _)); refine blk_put (cs := #[.string d, .string (⟨#[117]⟩ : ByteArray), .string (⟨#[]⟩ : ByteArray), .string (⟨#[]⟩ : ByteArray)]) ?_ 2 _ rfl; (with_reducible repeat (first | refine blk_drewN ?_ _ | refine blk_drew ?_ | refine blk_alloc ?_ _)); refine blk_put (cs := #[.string d, .string (⟨#[]⟩ : ByteArray), .string (⟨#[]⟩ : ByteArray), .string (⟨#[]⟩ : ByteArray)]) ?_ 1 _ rfl; (with_reducible repeat (first | refine blk_drewN ?_ _ | refine blk_drew ?_ | refine blk_alloc ?_ _)); refine blk_put (cs := #[.string (⟨#[]⟩ : ByteArray), .string (⟨#[]⟩ : ByteArray), .string (⟨#[]⟩ : ByteArray), .string (⟨#[]⟩ : ByteArray)]) ?_ 0 _ rfl; (with_reducible repeat (first | refine blk_drewN ?_ _ | refine blk_drew ?_ | refine blk_alloc ?_ _)); exact BKc.out) _ (by decide); (with_reducible repeat (first | apply JS.drewN | apply JS.drew | apply JS.alloc)); refine JS.setb (q := 66) ?_ GJc.out (by (with_reducible repeat (first | refine blk_drewN ?_ _ | refine blk_drew ?_ | refine blk_alloc ?_ _)); refine blk_put (cs := #[.string d, .string (⟨#[]⟩ : ByteArray), .string (⟨#[]⟩ : ByteArray), .string (⟨#[]⟩ : ByteArray)]) ?_ 1 _ rfl; (with_reducible repeat (first | refine blk_drewN ?_ _ | refine blk_drew ?_ | refine blk_alloc ?_ _)); refine blk_put (cs := #[.string (⟨#[]⟩ : ByteArray), .string (⟨#[]⟩ : ByteArray), .string (⟨#[]⟩ : ByteArray), .string (⟨#[]⟩ : ByteArray)]) ?_ 0 _ rfl; (with_reducible repeat (first | refine blk_drewN ?_ _ | refine blk_drew ?_ | refine blk_alloc ?_ _)); exact BKc.out) _ (by decide); (with_reducible repeat (first | apply JS.drewN | apply JS.drew | apply JS.alloc)); refine JS.setb (q := 66) ?_ GJc.out (by (with_reducible repeat (first | refine blk_drewN ?_ _ | refine blk_drew ?_ | refine blk_alloc ?_ _)); refine blk_put (cs := #[.string (⟨#[]⟩ : ByteArray), .string (⟨#[]⟩ : ByteArray), .string (⟨#[]⟩ : ByteArray), .string (⟨#[]⟩ : ByteArray)]) ?_ 0 _ rfl; (with_reducible repeat (first | refine blk_drewN ?_ _ | refine blk_drew ?_ | refine blk_alloc ?_ _)); exact BKc.out) _ (by decide); (with_reducible repeat (first | apply JS.drewN | apply JS.drew | apply JS.alloc)); refine JS.setb (q := 66) ?_ GJc.out (by first | exact BKc.out | ((with_reducible repeat (first | refine blk_drewN ?_ _ | refine blk_drew ?_ | refine blk_alloc ?_ _)); exact BKc.out)) _ (by decide); (with_reducible repeat (first | apply JS.drewN | apply JS.drew | apply JS.alloc)); exact HJ.out) hkv6 hid hE hcur').mono ?_
      rintro e w4 ⟨rfl, hj4, hk4⟩
      have n_HK := Aside0.mk ((by (with_reducible repeat (first | apply JK.drewN | apply JK.drew | apply JK.alloc)); refine JK.setb ?_ GKc.out _; (with_reducible repeat (first | apply JK.drewN | apply JK.drew | apply JK.alloc)); refine JK.setb ?_ GKc.out _; (with_reducible repeat (first | apply JK.drewN | apply JK.drew | apply JK.alloc)); refine JK.setb ?_ GKc.out _; (with_reducible repeat (first | apply JK.drewN | apply JK.drew | apply JK.alloc)); refine JK.setb ?_ GKc.out _; (with_reducible repeat (first | apply JK.drewN | apply JK.drew | apply JK.alloc)); exact HK.out : JK _ _).trans hk4)
      have n_HJ := Aside0.mk (hj4)
      have n_BKc := Aside0.mk (JK.blk (b := gbc) (c := #[.string d, .string (⟨#[117]⟩ : ByteArray), .string (⟨#[]⟩ : ByteArray), .string (⟨#[97, 108]⟩ : ByteArray)]) (q := 66) (x := (0, 0)) hk4 (by (with_reducible repeat (first | refine blk_drewN ?_ _ | refine blk_drew ?_ | refine blk_alloc ?_ _)); refine blk_put (cs := #[.string d, .string (⟨#[117]⟩ : ByteArray), .string (⟨#[]⟩ : ByteArray), .string (⟨#[]⟩ : ByteArray)]) ?_ 3 _ rfl; (with_reducible repeat (first | refine blk_drewN ?_ _ | refine blk_drew ?_ | refine blk_alloc ?_ _)); refine blk_put (cs := #[.string d, .string (⟨#[117]⟩ : ByteArray), .string (⟨#[]⟩ : ByteArray), .string (⟨#[]⟩ : ByteArray)]) ?_ 2 _ rfl; (with_reducible repeat (first | refine blk_drewN ?_ _ | refine blk_drew ?_ | refine blk_alloc ?_ _)); refine blk_put (cs := #[.string d, .string (⟨#[]⟩ : ByteArray), .string (⟨#[]⟩ : ByteArray), .string (⟨#[]⟩ : ByteArray)]) ?_ 1 _ rfl; (with_reducible repeat (first | refine blk_drewN ?_ _ | refine blk_drew ?_ | refine blk_alloc ?_ _)); refine blk_put (cs := #[.string (⟨#[]⟩ : ByteArray), .string (⟨#[]⟩ : ByteArray), .string (⟨#[]⟩ : ByteArray), .string (⟨#[]⟩ : ByteArray)]) ?_ 0 _ rfl; (with_reducible repeat (first | refine blk_drewN ?_ _ | refine blk_drew ?_ | refine blk_alloc ?_ _)); exact BKc.out) (by decide))
      clear HK HJ BKc
      have HK := n_HK
      have HJ := n_HJ
      have BKc := n_BKc
      clear n_HK n_HJ n_BKc
      clear hj4 hk4
      have zc_0 : World.cell? _ ⟨gbc, 0, none⟩ = some (.string d) := (blk_cell BKc.out 0).trans rfl
      have fc_0 := blk_frozen BKc.out 0
      have zc_1 : World.cell? _ ⟨gbc, 1, none⟩ = some (.string (⟨#[117]⟩ : ByteArray)) := (blk_cell BKc.out 1).trans rfl
      have fc_1 := blk_frozen BKc.out 1
      have zc_2 : World.cell? _ ⟨gbc, 2, none⟩ = some (.string (⟨#[]⟩ : ByteArray)) := (blk_cell BKc.out 2).trans rfl
      have fc_2 := blk_frozen BKc.out 2
      have zc_3 : World.cell? _ ⟨gbc, 3, none⟩ = some (.string (⟨#[97, 108]⟩ : ByteArray)) := (blk_cell BKc.out 3).trans rfl
      have fc_3 := blk_frozen BKc.out 3
      have hN := footbridgeref22_New.calls K1 (fun k => ¬ ok k ∧ k < wr.heap.size) A4 c4 cur d (⟨#[117]⟩ : ByteArray) (⟨#[]⟩ : ByteArray) (⟨#[97, 108]⟩ : ByteArray) _ _ w4 (V_js HJ.out HV.out) (hK1 K1 (Nat.le_refl _))
      clear hK1
      go_wp2_with fail
      refine hN.mono ?_
      rintro e w5 ⟨v5, rfl, hv5, hb⟩
      have Jn := Aside0.mk (J1.of (HJ.out.m.bound.below hb) (Kd.V_mono (Kd.V_lower hv5 (Nat.zero_le _)) (fun k hk h => by rcases hk with ⟨a, b⟩ | a; (rcases h.1 with h1 | h1; exact a h1; omega); (have := h.2.2.1; omega))))
      have HBn := Aside0.mk ((HJ.out.old HBr.out hnr hok).trans (hb.mono (HJ.out.old HBr.out hnr hok).size))
      have hnn := Nat.le_trans (HJ.out.old HBr.out hnr hok).size hb.size
      rw [← AT.out] at Jn
      clear HJ HK HV hN hv5 hb HBr
      go_wp2
      go_roundg (l.length - (j + 1))
      case measure => omega
      case rel => exact ⟨j + 1, by first | rfl | (rw [AW.out]) | (simp; done), by omega, hnn, Jn, HBn⟩
    · obtain rfl : j = l.length := by omega
      rw [List.take_length] at JLr
      go_wp2
      go_ret2
      exact ⟨g, _, rfl, JLr.out, HBr.out⟩

end Go.Proofs.YtjappgjpikbdeaaGreatDoor.PTkk
