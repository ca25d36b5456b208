-- written by wip/myprint.py over the kit's print; not a printed text of print.sh
import Derived.Test.YtjappgjpikbdeaaGreatDoorPTkkx0
import Derived.Test.YtjappgjpikbdeaaGreatDoorPTkkx3
import Derived.Test.YtjappgjpikbdeaaGreatDoorPTkkx15
import Derived.Test.YtjappgjpikbdeaaGreatDoorPTkkx16
import Derived.Test.YtjappgjpikbdeaaGreatDoorPTkkx21
import Derived.Test.YtjappgjpikbdeaaGreatDoorPTkkx22
import Derived.Test.YtjappgjpikbdeaaGreatDoorPTkkx23
namespace Go.Proofs.YtjappgjpikbdeaaGreatDoor.PTkk
open Go.RowKit Go.Proofs.YtjappgjpikbdeaaGreatDoorW.PrintWords Go.Proofs.YtjappgjpikbdeaaGreatDoorW.PrintLast Go.Proofs.YtjappgjpikbdeaaGreatDoorW.PrintMore
attribute [local go_sem] max2_int min2_int max_two min_two max_three min_three max_four min_four   -- for this text's walks alone
set_option linter.unusedVariables false
set_option linter.unusedSimpArgs false

/-! ### token_Mint: function 7 -/
-- @break
theorem door0 {P : Program} {fn : Func} {tmps : Array Value} {R : Ending → World → Prop} {w : World} {v : Value} (h : (results fn tmps).run P w = .ok v w) (hr : R (.returned v) w) : Leaves P fn tmps R [] .returning w := ⟨v, h, hr⟩
theorem leaves_tmps {P : Program} {fn : Func} {t1 t2 : Array Value} {R : Ending → World → Prop} (h : ∀ w, (results fn t1).run P w = (results fn t2).run P w) : ∀ (ds : List Deferred) (u : FrameMode) (w : World), Leaves P fn t1 R ds u w → Leaves P fn t2 R ds u w
  | [], .returning, w, ⟨v, h1, h2⟩ => ⟨v, (h w).symm.trans h1, h2⟩
  | [], .panicking _, _, hr => hr
  | [], .run, _, hr => hr
  | _ :: ds, _, _, ⟨hu, fv, cap, f, args, ht, hi, hC⟩ => ⟨hu, fv, cap, f, args, ht, hi, hC.mono (fun e u' w' hx => by
      cases e with
      | returned v => exact leaves_tmps h ds _ _ hx
      | panicked c => exact leaves_tmps h ds _ _ hx
      | outgrown => exact hx)⟩
theorem put_other {a : Act} {N t : Nat} (hn : N ≠ t) (v : Value) : (a.put (some N) v).tmps.getD t undef = a.tmps.getD t undef := by
  show (a.tmps.setIfInBounds N v).getD t undef = _
  simp [Array.getD_eq_getD_getElem?, Array.getElem?_setIfInBounds, hn]
theorem panic_put {P : Program} {fn : Func} {R : Ending → World → Prop} {t N : Nat} (hr : fn.results = #[.tmp t]) (hn : N ≠ t) (c : List PanicEntry) (a : Act) (v : Value) (w : World) (h : bodyPostD P fn R (.panic c) (a.put (some N) v) w) : bodyPostD P fn R (.panic c) a w := by
  have hd : (a.put (some N) v).defers = a.defers := rfl
  refine leaves_tmps (t1 := (a.put (some N) v).tmps) (fun w => ?_) _ _ _ (hd ▸ h)
  rw [results_tmp hr, results_tmp hr, put_other hn]
theorem hmf_ (fn : Fn) (first cap : Array Value) (w : World) : (Instr.makeFunc fn first cap).run Tryz.prog w = .ok (.func fn first cap) w := rfl
theorem tk_supply {base g : Nat} {ok : Nat → Prop} {w0 : World} {cur : List S82} (id : ByteArray) (x : Int) {w : World} (h : JS base ok w0 g cur w) (hk : KV 1000000 cur) (hid : id.size ≤ 50000000) (hx : numK cur (tkSup id) = x) :
    Calls Tryz.prog 15 #[.pointer (some ⟨g, 0, none⟩), .string id] w fun e w' => e = .returned (.int .i64 x) ∧ Below w.heap.size w w' := by
  subst hx
  exact cl_supply id h hk hid
theorem rText_fst (s : ByteArray) (e : Int) : (rText s e).1.size ≤ 65536 := by
  have ⟨⟨a1, a2⟩, b1, b2⟩ := numW_bd s
  unfold rText
  split
  · split
    · split
      · exact Nat.zero_le _
      · split
        · exact Nat.zero_le _
        · show (s.extract _ _).size ≤ _
          rw [ByteArray.size_extract]
          omega
    · exact Nat.zero_le _
  · exact Nat.zero_le _
theorem tkGet_ok {cur : List S82} {c i x0 x1 x2 x3 x4 : ByteArray} {x5 : Int} (h : tkGet cur c i = (x0, x1, x2, x3, x4, x5)) (h5 : x5 = 0) : x0 = c ∧ x1 = i := by
  unfold tkGet at h
  split at h
  · simp only [Prod.mk.injEq] at h
    exact ⟨h.1.symm, h.2.1.symm⟩
  · simp only [Prod.mk.injEq] at h
    omega
theorem tkGet_sz {cur : List S82} {c i x0 x1 x2 x3 x4 : ByteArray} {x5 : Int} (h : tkGet cur c i = (x0, x1, x2, x3, x4, x5)) : x2.size ≤ 65536 ∧ x3.size ≤ 65536 ∧ x4.size ≤ 65536 := by
  unfold tkGet at h
  split at h
  · simp only [Prod.mk.injEq] at h
    obtain ⟨_, _, rfl, rfl, rfl, _⟩ := h
    unfold txt3
    exact ⟨rText_fst _ _, rText_fst _ _, rText_fst _ _⟩
  · simp only [Prod.mk.injEq] at h
    obtain ⟨_, _, rfl, rfl, rfl, _⟩ := h
    exact ⟨Nat.zero_le _, Nat.zero_le _, Nat.zero_le _⟩
set_option maxHeartbeats 8000000 in
set_option maxRecDepth 100000 in
theorem tk_mint1 {base g : Nat} {ok : Nat → Prop} {w0 : World} {cur : List S82} (gj gt gn : Nat) (c i u d o : ByteArray) (N : Int) {w : World} {um : FrameMode} (h : JS base ok w0 g cur w) (hk : KV 1000000 cur) (hid : c.size ≤ 50000000) (zj : w.heap[gj]? = some (.cells #[.pointer (some ⟨g, 0, none⟩)] 34 (0, 0))) (zt : w.heap[gt]? = some (.cells #[.string c, .string i, .string u, .string d, .string o] 23 (0, 0))) (zn : w.heap[gn]? = some (.cells #[.int .i64 N] 3 (0, 0))) (hw : wrap64 (N + 1) = N + 1) :
    CallsD Tryz.prog 26 #[.pointer (some ⟨gj, 0, none⟩), .pointer (some ⟨gt, 0, none⟩), .pointer (some ⟨gn, 0, none⟩)] um w fun e u' w' => u' = um ∧ e = .returned (.tuple #[]) ∧ JS base ok w0 g (bkSet cur (tkSup c) (N + 1)) w' ∧ JK w w' := by
  have qj0 : w.cell? ⟨gj, 0, none⟩ = some (.pointer (some ⟨g, 0, none⟩)) := (blk_cell zj 0).trans rfl
  have qt0 : w.cell? ⟨gt, 0, none⟩ = some (.string c) := (blk_cell zt 0).trans rfl
  have qt1 : w.cell? ⟨gt, 1, none⟩ = some (.string i) := (blk_cell zt 1).trans rfl
  have qt2 : w.cell? ⟨gt, 2, none⟩ = some (.string u) := (blk_cell zt 2).trans rfl
  have qt3 : w.cell? ⟨gt, 3, none⟩ = some (.string d) := (blk_cell zt 3).trans rfl
  have qt4 : w.cell? ⟨gt, 4, none⟩ = some (.string o) := (blk_cell zt 4).trans rfl
  have qn0 : w.cell? ⟨gn, 0, none⟩ = some (.int .i64 N) := (blk_cell zn 0).trans rfl
  have HJ := Aside0.mk h
  have HW := Aside0.mk hw
  clear h hw zj zt zn
  go_enter_d Tryz.func26, Tryz.ntmps26
  go_wp2_with fail
  refine (tk_counted c _ HJ.out hk hid).mono ?_
  rintro e w1 ⟨rfl, hj, hk1⟩
  rw [HW.out] at hj
  have HJ1 := Aside0.mk hj
  have HK1 := Aside0.mk hk1
  clear hj hk1
  go_wp2
  go_end0
  exact ⟨rfl, HJ1.out, HK1.out⟩
set_option maxHeartbeats 8000000 in
set_option maxRecDepth 100000 in
theorem tk_burn1 {base g : Nat} {ok : Nat → Prop} {w0 : World} {cur : List S82} (gj gt gn : Nat) (c : ByteArray) (N : Int) {w : World} {um : FrameMode} (h : JS base ok w0 g cur w) (hk : KV 1000000 cur) (hid : c.size ≤ 50000000) (zj : w.heap[gj]? = some (.cells #[.pointer (some ⟨g, 0, none⟩)] 34 (0, 0))) (zt : w.heap[gt]? = some (.cells #[.string c] 9 (0, 0))) (zn : w.heap[gn]? = some (.cells #[.int .i64 N] 3 (0, 0))) (hw : wrap64 (N - 1) = N - 1) :
    CallsD Tryz.prog 29 #[.pointer (some ⟨gj, 0, none⟩), .pointer (some ⟨gt, 0, none⟩), .pointer (some ⟨gn, 0, none⟩)] um w fun e u' w' => u' = um ∧ e = .returned (.tuple #[]) ∧ JS base ok w0 g (bkSet cur (tkSup c) (N - 1)) w' ∧ JK w w' := by
  have qj0 : w.cell? ⟨gj, 0, none⟩ = some (.pointer (some ⟨g, 0, none⟩)) := (blk_cell zj 0).trans rfl
  have qt0 : w.cell? ⟨gt, 0, none⟩ = some (.string c) := (blk_cell zt 0).trans rfl
  have qn0 : w.cell? ⟨gn, 0, none⟩ = some (.int .i64 N) := (blk_cell zn 0).trans rfl
  have HJ := Aside0.mk h
  have HW := Aside0.mk hw
  clear h hw zj zt zn
  go_enter_d Tryz.func29, Tryz.ntmps29
  go_wp2_with fail
  refine (tk_counted c _ HJ.out hk hid).mono ?_
  rintro e w1 ⟨rfl, hj, hk1⟩
  rw [HW.out] at hj
  have HJ1 := Aside0.mk hj
  have HK1 := Aside0.mk hk1
  clear hj hk1
  go_wp2
  go_end0
  exact ⟨rfl, HJ1.out, HK1.out⟩
set_option maxHeartbeats 8000000 in
set_option maxRecDepth 100000 in
theorem tk_mint {base g : Nat} {ok : Nat → Prop} {w0 : World} {cur : List S82} (c i u d o : ByteArray) (x : Int) (cur' : List S82) {w : World} (h : JS base ok w0 g cur w) (hk1 : KV 100000 cur) (hc : c.size ≤ 50000) (hi : i.size ≤ 50000) (hu : u.size ≤ 1000000) (hd : d.size ≤ 1000000) (ho : o.size ≤ 1000000) (hx : tkMintE cur c i u d o = x) (hcur : tkMint cur c i u d o = cur') :
    Calls Tryz.prog 7 #[.pointer (some ⟨g, 0, none⟩), .agg #[.string c, .string i, .string u, .string d, .string o]] w fun e w' => e = .returned (.int .i64 x) ∧ JS base ok w0 g cur' w' ∧ JK w w' := by
  unfold tkMint at hcur
  rw [hx] at hcur
  obtain ⟨N, hN⟩ : ∃ z, numK cur (tkSup c) = z := ⟨_, rfl⟩
  have bdN : 0 ≤ N ∧ N ≤ 9007199254740992 := by rw [← hN]; exact numK_bd _ _
  rw [hN] at hcur
  have hk2 := hk1.mono (show 100000 ≤ 1000000 by omega)
  have hk3 := hk1.mono (show 100000 ≤ 900000 by omega)
  have hkK := (tkKeep_KV hk1 c i u d o).mono (show 100002 ≤ 1000000 by omega)
  have hid : c.size ≤ 50000000 := Nat.le_trans hc (by decide)
  have hid2 : i.size ≤ 50000000 := Nat.le_trans hi (by decide)
  have HW := Aside0.mk (show wrap64 (N + 1) = N + 1 from w64 (by omega) (by omega))
  have hmf := hmf_
  have HJ := Aside0.mk h
  have HK := Aside0.mk (JK.of_below (Below.refl w.heap.size w))
  have AX := Aside0.mk hx
  clear h bdN hx
  go_enter_defers Tryz.func7, Tryz.ntmps7
  go_wp2_with (first | ((with_reducible refine gate_dst (N := 2) rfl ?_); refine box_event ?hg (N := 2) ?hd (cs := #[.pointer (some ⟨g, 0, none⟩)]) (t := 34) ?hr ?_; (case hd => rfl); (case hg => rfl); (case hr => first | (go_simp; done) | (go_simp; rfl)); intro gbj hg wj hbox hb; have GKj := Aside0.mk ((by rw [hg]; exact JK.size (by first | exact HK.out | ((with_reducible repeat (first | apply JK.drewN | apply JK.drew | apply JK.alloc)); exact HK.out)) : w.heap.size ≤ gbj)); have GJj := Aside0.mk ((by rw [hg]; exact JS.size0 (base := base) (ok := ok) (w0 := w0) (g := g) (cur := cur) (by first | exact HJ.out | ((with_reducible repeat (first | apply JS.drewN | apply JS.drew | apply JS.alloc)); exact HJ.out)) : w0.heap.size ≤ gbj)); have n_HK := Aside0.mk (HK.out.trans (JK.of_below hb)); have n_HJ := Aside0.mk (JS.below (base := base) (ok := ok) (w0 := w0) (g := g) (cur := cur) (by first | exact HJ.out | ((with_reducible repeat (first | apply JS.drewN | apply JS.drew | apply JS.alloc)); exact HJ.out)) hb); clear HK HJ; have HK := n_HK; have HJ := n_HJ; clear n_HK n_HJ; have BKj := Aside0.mk hbox; clear hb hbox hg; have zj_0 : World.cell? _ ⟨gbj, 0, none⟩ = some (.pointer (some ⟨g, 0, none⟩)) := (blk_cell BKj.out 0).trans rfl; have fj_0 := blk_frozen BKj.out 0) | ((with_reducible refine gate_dst (N := 3) rfl ?_); refine box_event ?hg (N := 3) ?hd (cs := #[.string c, .string i, .string u, .string d, .string o]) (t := 23) ?hr ?_; (case hd => rfl); (case hg => rfl); (case hr => first | (go_simp; done) | (go_simp; rfl)); intro gbt hg wt hbox hb; have GKt := Aside0.mk ((by rw [hg]; exact JK.size (by first | exact HK.out | ((with_reducible repeat (first | apply JK.drewN | apply JK.drew | apply JK.alloc)); exact HK.out)) : w.heap.size ≤ gbt)); have GJt := Aside0.mk ((by rw [hg]; exact JS.size0 (base := base) (ok := ok) (w0 := w0) (g := g) (cur := cur) (by first | exact HJ.out | ((with_reducible repeat (first | apply JS.drewN | apply JS.drew | apply JS.alloc)); exact HJ.out)) : w0.heap.size ≤ gbt)); have NBj_t := Aside0.mk ((by rw [hg]; exact Nat.ne_of_lt (blk_lt (g := gbj) (o := .cells #[.pointer (some ⟨g, 0, none⟩)] 34 (0, 0)) (by first | exact BKj.out | ((with_reducible repeat (first | refine blk_drewN ?_ _ | refine blk_drew ?_ | refine blk_alloc ?_ _)); exact BKj.out))) : gbj ≠ gbt)); have NBt_j := Aside0.mk ((by rw [hg]; exact Nat.ne_of_gt (blk_lt (g := gbj) (o := .cells #[.pointer (some ⟨g, 0, none⟩)] 34 (0, 0)) (by first | exact BKj.out | ((with_reducible repeat (first | refine blk_drewN ?_ _ | refine blk_drew ?_ | refine blk_alloc ?_ _)); exact BKj.out))) : gbt ≠ gbj)); have n_HK := Aside0.mk (HK.out.trans (JK.of_below hb)); have n_HJ := Aside0.mk (JS.below (base := base) (ok := ok) (w0 := w0) (g := g) (cur := cur) (by first | exact HJ.out | ((with_reducible repeat (first | apply JS.drewN | apply JS.drew | apply JS.alloc)); exact HJ.out)) hb); have n_BKj := Aside0.mk (blk_below (g := gbj) (o := .cells #[.pointer (some ⟨g, 0, none⟩)] 34 (0, 0)) (by first | exact BKj.out | ((with_reducible repeat (first | refine blk_drewN ?_ _ | refine blk_drew ?_ | refine blk_alloc ?_ _)); exact BKj.out)) hb); clear HK HJ BKj; have HK := n_HK; have HJ := n_HJ; have BKj := n_BKj; clear n_HK n_HJ n_BKj; have BKt := Aside0.mk hbox; clear hb hbox hg; have zt_0 : World.cell? _ ⟨gbt, 0, none⟩ = some (.string c) := (blk_cell BKt.out 0).trans rfl; have ft_0 := blk_frozen BKt.out 0; have zt_1 : World.cell? _ ⟨gbt, 1, none⟩ = some (.string i) := (blk_cell BKt.out 1).trans rfl; have ft_1 := blk_frozen BKt.out 1; have zt_2 : World.cell? _ ⟨gbt, 2, none⟩ = some (.string u) := (blk_cell BKt.out 2).trans rfl; have ft_2 := blk_frozen BKt.out 2; have zt_3 : World.cell? _ ⟨gbt, 3, none⟩ = some (.string d) := (blk_cell BKt.out 3).trans rfl; have ft_3 := blk_frozen BKt.out 3; have zt_4 : World.cell? _ ⟨gbt, 4, none⟩ = some (.string o) := (blk_cell BKt.out 4).trans rfl; have ft_4 := blk_frozen BKt.out 4; have hntj := NBt_j.out; have hmtj := NBj_t.out; have zj_0 : World.cell? _ ⟨gbj, 0, none⟩ = some (.pointer (some ⟨g, 0, none⟩)) := (blk_cell BKj.out 0).trans rfl; have fj_0 := blk_frozen BKj.out 0; have hnjt := NBj_t.out; have hmjt := NBt_j.out; have zt_0 : World.cell? _ ⟨gbt, 0, none⟩ = some (.string c) := (blk_cell BKt.out 0).trans rfl; have ft_0 := blk_frozen BKt.out 0; have zt_1 : World.cell? _ ⟨gbt, 1, none⟩ = some (.string i) := (blk_cell BKt.out 1).trans rfl; have ft_1 := blk_frozen BKt.out 1; have zt_2 : World.cell? _ ⟨gbt, 2, none⟩ = some (.string u) := (blk_cell BKt.out 2).trans rfl; have ft_2 := blk_frozen BKt.out 2; have zt_3 : World.cell? _ ⟨gbt, 3, none⟩ = some (.string d) := (blk_cell BKt.out 3).trans rfl; have ft_3 := blk_frozen BKt.out 3; have zt_4 : World.cell? _ ⟨gbt, 4, none⟩ = some (.string o) := (blk_cell BKt.out 4).trans rfl; have ft_4 := blk_frozen BKt.out 4; have hntj := NBt_j.out; have hmtj := NBj_t.out))
  refine (tk_check c i u d o x HJ.out hk2 hc hi AX.out).mono ?_
  rintro e w1 ⟨rfl, hb⟩
  have n_HK := Aside0.mk (HK.out.trans (JK.of_below hb))
  have n_HJ := Aside0.mk (JS.below (base := base) (ok := ok) (w0 := w0) (g := g) (cur := cur) (by first | exact HJ.out | ((with_reducible repeat (first | apply JS.drewN | apply JS.drew | apply JS.alloc)); exact HJ.out)) hb)
  have n_BKj := Aside0.mk (blk_below (g := gbj) (o := .cells #[.pointer (some ⟨g, 0, none⟩)] 34 (0, 0)) (by first | exact BKj.out | ((with_reducible repeat (first | refine blk_drewN ?_ _ | refine blk_drew ?_ | refine blk_alloc ?_ _)); exact BKj.out)) hb)
  have n_BKt := Aside0.mk (blk_below (g := gbt) (o := .cells #[.string c, .string i, .string u, .string d, .string o] 23 (0, 0)) (by first | exact BKt.out | ((with_reducible repeat (first | refine blk_drewN ?_ _ | refine blk_drew ?_ | refine blk_alloc ?_ _)); exact BKt.out)) hb)
  clear HK HJ BKj BKt
  have HK := n_HK
  have HJ := n_HJ
  have BKj := n_BKj
  have BKt := n_BKt
  clear n_HK n_HJ n_BKj n_BKt
  clear hb
  have zj_0 : World.cell? _ ⟨gbj, 0, none⟩ = some (.pointer (some ⟨g, 0, none⟩)) := (blk_cell BKj.out 0).trans rfl
  have fj_0 := blk_frozen BKj.out 0
  have hnjt := NBj_t.out
  have hmjt := NBt_j.out
  have zt_0 : World.cell? _ ⟨gbt, 0, none⟩ = some (.string c) := (blk_cell BKt.out 0).trans rfl
  have ft_0 := blk_frozen BKt.out 0
  have zt_1 : World.cell? _ ⟨gbt, 1, none⟩ = some (.string i) := (blk_cell BKt.out 1).trans rfl
  have ft_1 := blk_frozen BKt.out 1
  have zt_2 : World.cell? _ ⟨gbt, 2, none⟩ = some (.string u) := (blk_cell BKt.out 2).trans rfl
  have ft_2 := blk_frozen BKt.out 2
  have zt_3 : World.cell? _ ⟨gbt, 3, none⟩ = some (.string d) := (blk_cell BKt.out 3).trans rfl
  have ft_3 := blk_frozen BKt.out 3
  have zt_4 : World.cell? _ ⟨gbt, 4, none⟩ = some (.string o) := (blk_cell BKt.out 4).trans rfl
  have ft_4 := blk_frozen BKt.out 4
  have hntj := NBt_j.out
  have hmtj := NBj_t.out
  clear AX
  by_cases z0 : x = 0
  · subst z0
    rw [if_pos rfl] at hcur
    subst hcur
    go_wp2_with fail
    refine (tk_supply c N HJ.out hk2 hid hN).mono ?_
    rintro e w2 ⟨rfl, hb⟩
    have n_HK := Aside0.mk (HK.out.trans (JK.of_below hb))
    have n_HJ := Aside0.mk (JS.below (base := base) (ok := ok) (w0 := w0) (g := g) (cur := cur) (by first | exact HJ.out | ((with_reducible repeat (first | apply JS.drewN | apply JS.drew | apply JS.alloc)); exact HJ.out)) hb)
    have n_BKj := Aside0.mk (blk_below (g := gbj) (o := .cells #[.pointer (some ⟨g, 0, none⟩)] 34 (0, 0)) (by first | exact BKj.out | ((with_reducible repeat (first | refine blk_drewN ?_ _ | refine blk_drew ?_ | refine blk_alloc ?_ _)); exact BKj.out)) hb)
    have n_BKt := Aside0.mk (blk_below (g := gbt) (o := .cells #[.string c, .string i, .string u, .string d, .string o] 23 (0, 0)) (by first | exact BKt.out | ((with_reducible repeat (first | refine blk_drewN ?_ _ | refine blk_drew ?_ | refine blk_alloc ?_ _)); exact BKt.out)) hb)
    clear HK HJ BKj BKt
    have HK := n_HK
    have HJ := n_HJ
    have BKj := n_BKj
    have BKt := n_BKt
    clear n_HK n_HJ n_BKj n_BKt
    clear hb
    have zj_0 : World.cell? _ ⟨gbj, 0, none⟩ = some (.pointer (some ⟨g, 0, none⟩)) := (blk_cell BKj.out 0).trans rfl
    have fj_0 := blk_frozen BKj.out 0
    have hnjt := NBj_t.out
    have hmjt := NBt_j.out
    have zt_0 : World.cell? _ ⟨gbt, 0, none⟩ = some (.string c) := (blk_cell BKt.out 0).trans rfl
    have ft_0 := blk_frozen BKt.out 0
    have zt_1 : World.cell? _ ⟨gbt, 1, none⟩ = some (.string i) := (blk_cell BKt.out 1).trans rfl
    have ft_1 := blk_frozen BKt.out 1
    have zt_2 : World.cell? _ ⟨gbt, 2, none⟩ = some (.string u) := (blk_cell BKt.out 2).trans rfl
    have ft_2 := blk_frozen BKt.out 2
    have zt_3 : World.cell? _ ⟨gbt, 3, none⟩ = some (.string d) := (blk_cell BKt.out 3).trans rfl
    have ft_3 := blk_frozen BKt.out 3
    have zt_4 : World.cell? _ ⟨gbt, 4, none⟩ = some (.string o) := (blk_cell BKt.out 4).trans rfl
    have ft_4 := blk_frozen BKt.out 4
    have hntj := NBt_j.out
    have hmtj := NBj_t.out
    go_wp2_with (first | ((with_reducible refine gate_dst (N := 6) rfl ?_); refine box_event ?hg (N := 6) ?hd (cs := #[.int .i64 0]) (t := 3) ?hr ?_; (case hd => rfl); (case hg => rfl); (case hr => first | (go_simp; done) | (go_simp; rfl)); intro gbn hg wn hbox hb; have GKn := Aside0.mk ((by rw [hg]; exact JK.size (by first | exact HK.out | ((with_reducible repeat (first | apply JK.drewN | apply JK.drew | apply JK.alloc)); exact HK.out)) : w.heap.size ≤ gbn)); have GJn := Aside0.mk ((by rw [hg]; exact JS.size0 (base := base) (ok := ok) (w0 := w0) (g := g) (cur := cur) (by first | exact HJ.out | ((with_reducible repeat (first | apply JS.drewN | apply JS.drew | apply JS.alloc)); exact HJ.out)) : w0.heap.size ≤ gbn)); have NBj_n := Aside0.mk ((by rw [hg]; exact Nat.ne_of_lt (blk_lt (g := gbj) (o := .cells #[.pointer (some ⟨g, 0, none⟩)] 34 (0, 0)) (by first | exact BKj.out | ((with_reducible repeat (first | refine blk_drewN ?_ _ | refine blk_drew ?_ | refine blk_alloc ?_ _)); exact BKj.out))) : gbj ≠ gbn)); have NBn_j := Aside0.mk ((by rw [hg]; exact Nat.ne_of_gt (blk_lt (g := gbj) (o := .cells #[.pointer (some ⟨g, 0, none⟩)] 34 (0, 0)) (by first | exact BKj.out | ((with_reducible repeat (first | refine blk_drewN ?_ _ | refine blk_drew ?_ | refine blk_alloc ?_ _)); exact BKj.out))) : gbn ≠ gbj)); have NBt_n := Aside0.mk ((by rw [hg]; exact Nat.ne_of_lt (blk_lt (g := gbt) (o := .cells #[.string c, .string i, .string u, .string d, .string o] 23 (0, 0)) (by first | exact BKt.out | ((with_reducible repeat (first | refine blk_drewN ?_ _ | refine blk_drew ?_ | refine blk_alloc ?_ _)); exact BKt.out))) : gbt ≠ gbn)); have NBn_t := Aside0.mk ((by rw [hg]; exact Nat.ne_of_gt (blk_lt (g := gbt) (o := .cells #[.string c, .string i, .string u, .string d, .string o] 23 (0, 0)) (by first | exact BKt.out | ((with_reducible repeat (first | refine blk_drewN ?_ _ | refine blk_drew ?_ | refine blk_alloc ?_ _)); exact BKt.out))) : gbn ≠ gbt)); have n_HK := Aside0.mk (HK.out.trans (JK.of_below hb)); have n_HJ := Aside0.mk (JS.below (base := base) (ok := ok) (w0 := w0) (g := g) (cur := cur) (by first | exact HJ.out | ((with_reducible repeat (first | apply JS.drewN | apply JS.drew | apply JS.alloc)); exact HJ.out)) hb); have n_BKj := Aside0.mk (blk_below (g := gbj) (o := .cells #[.pointer (some ⟨g, 0, none⟩)] 34 (0, 0)) (by first | exact BKj.out | ((with_reducible repeat (first | refine blk_drewN ?_ _ | refine blk_drew ?_ | refine blk_alloc ?_ _)); exact BKj.out)) hb); have n_BKt := Aside0.mk (blk_below (g := gbt) (o := .cells #[.string c, .string i, .string u, .string d, .string o] 23 (0, 0)) (by first | exact BKt.out | ((with_reducible repeat (first | refine blk_drewN ?_ _ | refine blk_drew ?_ | refine blk_alloc ?_ _)); exact BKt.out)) hb); clear HK HJ BKj BKt; have HK := n_HK; have HJ := n_HJ; have BKj := n_BKj; have BKt := n_BKt; clear n_HK n_HJ n_BKj n_BKt; have BKn := Aside0.mk hbox; clear hb hbox hg; have zn_0 : World.cell? _ ⟨gbn, 0, none⟩ = some (.int .i64 0) := (blk_cell BKn.out 0).trans rfl; have fn_0 := blk_frozen BKn.out 0; have hnnj := NBn_j.out; have hmnj := NBj_n.out; have hnnt := NBn_t.out; have hmnt := NBt_n.out; have zj_0 : World.cell? _ ⟨gbj, 0, none⟩ = some (.pointer (some ⟨g, 0, none⟩)) := (blk_cell BKj.out 0).trans rfl; have fj_0 := blk_frozen BKj.out 0; have hnjt := NBj_t.out; have hmjt := NBt_j.out; have hnjn := NBj_n.out; have hmjn := NBn_j.out; have zt_0 : World.cell? _ ⟨gbt, 0, none⟩ = some (.string c) := (blk_cell BKt.out 0).trans rfl; have ft_0 := blk_frozen BKt.out 0; have zt_1 : World.cell? _ ⟨gbt, 1, none⟩ = some (.string i) := (blk_cell BKt.out 1).trans rfl; have ft_1 := blk_frozen BKt.out 1; have zt_2 : World.cell? _ ⟨gbt, 2, none⟩ = some (.string u) := (blk_cell BKt.out 2).trans rfl; have ft_2 := blk_frozen BKt.out 2; have zt_3 : World.cell? _ ⟨gbt, 3, none⟩ = some (.string d) := (blk_cell BKt.out 3).trans rfl; have ft_3 := blk_frozen BKt.out 3; have zt_4 : World.cell? _ ⟨gbt, 4, none⟩ = some (.string o) := (blk_cell BKt.out 4).trans rfl; have ft_4 := blk_frozen BKt.out 4; have hntj := NBt_j.out; have hmtj := NBj_t.out; have hntn := NBt_n.out; have hmtn := NBn_t.out))
    refine (tk_keep (base := base) (ok := ok) (w0 := w0) (g := g) (cur := cur) c i u d o (by (with_reducible repeat (first | apply JS.drewN | apply JS.drew | apply JS.alloc)); refine JS.setb (q := 3) ?_ GJn.out (by first | exact BKn.out | ((with_reducible repeat (first | refine blk_drewN ?_ _ | refine blk_drew ?_ | refine blk_alloc ?_ _)); exact BKn.out)) _ (by decide); (with_reducible repeat (first | apply JS.drewN | apply JS.drew | apply JS.alloc)); exact HJ.out) hk3 hid hid2 hu hd ho).mono ?_
    rintro e w3 ⟨rfl, hj, hk⟩
    have n_HK := Aside0.mk ((by (with_reducible repeat (first | apply JK.drewN | apply JK.drew | apply JK.alloc)); refine JK.setb ?_ GKn.out _; (with_reducible repeat (first | apply JK.drewN | apply JK.drew | apply JK.alloc)); exact HK.out : JK _ _).trans hk)
    have n_HJ := Aside0.mk (hj)
    have n_BKj := Aside0.mk (JK.blk (b := gbj) (c := #[.pointer (some ⟨g, 0, none⟩)]) (q := 34) (x := (0, 0)) hk (by (with_reducible repeat (first | refine blk_drewN ?_ _ | refine blk_drew ?_ | refine blk_alloc ?_ _)); refine blk_far ?_ NBj_n.out _; (with_reducible repeat (first | refine blk_drewN ?_ _ | refine blk_drew ?_ | refine blk_alloc ?_ _)); exact BKj.out) (by decide))
    have n_BKt := Aside0.mk (JK.blk (b := gbt) (c := #[.string c, .string i, .string u, .string d, .string o]) (q := 23) (x := (0, 0)) hk (by (with_reducible repeat (first | refine blk_drewN ?_ _ | refine blk_drew ?_ | refine blk_alloc ?_ _)); refine blk_far ?_ NBt_n.out _; (with_reducible repeat (first | refine blk_drewN ?_ _ | refine blk_drew ?_ | refine blk_alloc ?_ _)); exact BKt.out) (by decide))
    have n_BKn := Aside0.mk (JK.blk (b := gbn) (c := #[.int .i64 N]) (q := 3) (x := (0, 0)) hk (by (with_reducible repeat (first | refine blk_drewN ?_ _ | refine blk_drew ?_ | refine blk_alloc ?_ _)); refine blk_put (cs := #[.int .i64 0]) ?_ 0 _ rfl; (with_reducible repeat (first | refine blk_drewN ?_ _ | refine blk_drew ?_ | refine blk_alloc ?_ _)); exact BKn.out) (by decide))
    clear HK HJ BKj BKt BKn
    have HK := n_HK
    have HJ := n_HJ
    have BKj := n_BKj
    have BKt := n_BKt
    have BKn := n_BKn
    clear n_HK n_HJ n_BKj n_BKt n_BKn
    clear hj hk
    go_wp2
    refine leaves_cons (f := 26) (args := #[.pointer (some ⟨gbj, 0, none⟩), .pointer (some ⟨gbt, 0, none⟩), .pointer (some ⟨gbn, 0, none⟩)]) (by simp) (by simp [go_sem]) ?_
    refine (tk_mint1 gbj gbt gbn c i u d o N HJ.out hkK hid BKj.out BKt.out BKn.out HW.out).mono ?_
    rintro e u' w9 ⟨rfl, rfl, hj, hk⟩
    exact ⟨_, results_tmp rfl _ _ _, rfl, hj, HK.out.trans hk⟩
  · rw [if_neg z0] at hcur
    subst hcur
    go_wp2
    first | exact ⟨_, results_tmp rfl _ _ _, rfl, by first | exact HJ.out | ((with_reducible repeat (first | apply JS.drewN | apply JS.drew | apply JS.alloc)); exact HJ.out), by first | exact HK.out | ((with_reducible repeat (first | apply JK.drewN | apply JK.drew | apply JK.alloc)); exact HK.out)⟩ | (go_ret; exact ⟨rfl, by first | exact HJ.out | ((with_reducible repeat (first | apply JS.drewN | apply JS.drew | apply JS.alloc)); exact HJ.out), by first | exact HK.out | ((with_reducible repeat (first | apply JK.drewN | apply JK.drew | apply JK.alloc)); exact HK.out)⟩)
set_option maxHeartbeats 8000000 in
set_option maxRecDepth 100000 in
theorem tkn_mint (c i u d o : ByteArray) (w : World) :
    Calls Tryz.prog 7 #[.pointer none, .agg #[.string c, .string i, .string u, .string d, .string o]] w fun e w' => e = .returned (.int .i64 2) ∧ Below w.heap.size w w' := by
  have HB := Aside0.mk (Below.refl w.heap.size w)
  have hmf := hmf_
  go_enter_defers Tryz.func7, Tryz.ntmps7
  go_wp2_with (first | ((with_reducible refine gate_dst (N := 2) rfl ?_); refine box_event ?hg (N := 2) ?hd (cs := #[.pointer none]) (t := 34) ?hr ?_; (case hd => rfl); (case hg => rfl); (case hr => first | (go_simp; done) | (go_simp; rfl)); intro gbj hg wj hbox hb; have GEj := Aside0.mk ((by rw [hg]; exact (below_size (by repeat (first | (with_reducible first | exact HB.out | apply below_alloc | apply pw_below_drewN | apply below_drew1) | exact HB.out))) : w.heap.size ≤ gbj)); have n_HB := Aside0.mk (below_step (by repeat (first | (with_reducible first | exact HB.out | apply below_alloc | apply pw_below_drewN | apply below_drew1) | exact HB.out)) hb); clear HB; have HB := n_HB; clear n_HB; have BKj := Aside0.mk hbox; clear hb hbox hg; have zj_0 : World.cell? _ ⟨gbj, 0, none⟩ = some (.pointer none) := (blk_cell BKj.out 0).trans rfl; have fj_0 := blk_frozen BKj.out 0) | ((with_reducible refine gate_dst (N := 3) rfl ?_); refine box_event ?hg (N := 3) ?hd (cs := #[.string c, .string i, .string u, .string d, .string o]) (t := 23) ?hr ?_; (case hd => rfl); (case hg => rfl); (case hr => first | (go_simp; done) | (go_simp; rfl)); intro gbt hg wt hbox hb; have GEt := Aside0.mk ((by rw [hg]; exact (below_size (by repeat (first | (with_reducible first | exact HB.out | apply below_alloc | apply pw_below_drewN | apply below_drew1 | refine below_set ?_ GEj.out) | exact HB.out))) : w.heap.size ≤ gbt)); have NBj_t := Aside0.mk ((by rw [hg]; exact Nat.ne_of_lt (blk_lt (g := gbj) (o := .cells #[.pointer none] 34 (0, 0)) (by first | exact BKj.out | ((with_reducible repeat (first | refine blk_drewN ?_ _ | refine blk_drew ?_ | refine blk_alloc ?_ _)); exact BKj.out))) : gbj ≠ gbt)); have NBt_j := Aside0.mk ((by rw [hg]; exact Nat.ne_of_gt (blk_lt (g := gbj) (o := .cells #[.pointer none] 34 (0, 0)) (by first | exact BKj.out | ((with_reducible repeat (first | refine blk_drewN ?_ _ | refine blk_drew ?_ | refine blk_alloc ?_ _)); exact BKj.out))) : gbt ≠ gbj)); have n_HB := Aside0.mk (below_step (by repeat (first | (with_reducible first | exact HB.out | apply below_alloc | apply pw_below_drewN | apply below_drew1 | refine below_set ?_ GEj.out) | exact HB.out)) hb); have n_BKj := Aside0.mk (blk_below (g := gbj) (o := .cells #[.pointer none] 34 (0, 0)) (by first | exact BKj.out | ((with_reducible repeat (first | refine blk_drewN ?_ _ | refine blk_drew ?_ | refine blk_alloc ?_ _)); exact BKj.out)) hb); clear HB BKj; have HB := n_HB; have BKj := n_BKj; clear n_HB n_BKj; have BKt := Aside0.mk hbox; clear hb hbox hg; have zt_0 : World.cell? _ ⟨gbt, 0, none⟩ = some (.string c) := (blk_cell BKt.out 0).trans rfl; have ft_0 := blk_frozen BKt.out 0; have zt_1 : World.cell? _ ⟨gbt, 1, none⟩ = some (.string i) := (blk_cell BKt.out 1).trans rfl; have ft_1 := blk_frozen BKt.out 1; have zt_2 : World.cell? _ ⟨gbt, 2, none⟩ = some (.string u) := (blk_cell BKt.out 2).trans rfl; have ft_2 := blk_frozen BKt.out 2; have zt_3 : World.cell? _ ⟨gbt, 3, none⟩ = some (.string d) := (blk_cell BKt.out 3).trans rfl; have ft_3 := blk_frozen BKt.out 3; have zt_4 : World.cell? _ ⟨gbt, 4, none⟩ = some (.string o) := (blk_cell BKt.out 4).trans rfl; have ft_4 := blk_frozen BKt.out 4; have hntj := NBt_j.out; have hmtj := NBj_t.out; have zj_0 : World.cell? _ ⟨gbj, 0, none⟩ = some (.pointer none) := (blk_cell BKj.out 0).trans rfl; have fj_0 := blk_frozen BKj.out 0; have hnjt := NBj_t.out; have hmjt := NBt_j.out; have zt_0 : World.cell? _ ⟨gbt, 0, none⟩ = some (.string c) := (blk_cell BKt.out 0).trans rfl; have ft_0 := blk_frozen BKt.out 0; have zt_1 : World.cell? _ ⟨gbt, 1, none⟩ = some (.string i) := (blk_cell BKt.out 1).trans rfl; have ft_1 := blk_frozen BKt.out 1; have zt_2 : World.cell? _ ⟨gbt, 2, none⟩ = some (.string u) := (blk_cell BKt.out 2).trans rfl; have ft_2 := blk_frozen BKt.out 2; have zt_3 : World.cell? _ ⟨gbt, 3, none⟩ = some (.string d) := (blk_cell BKt.out 3).trans rfl; have ft_3 := blk_frozen BKt.out 3; have zt_4 : World.cell? _ ⟨gbt, 4, none⟩ = some (.string o) := (blk_cell BKt.out 4).trans rfl; have ft_4 := blk_frozen BKt.out 4; have hntj := NBt_j.out; have hmtj := NBj_t.out))
  refine (tkn_check c i u d o _).mono ?_
  rintro e w1 ⟨rfl, hb⟩
  have n_HB := Aside0.mk (below_step (by repeat (first | (with_reducible first | exact HB.out | apply below_alloc | apply pw_below_drewN | apply below_drew1 | refine below_set ?_ GEj.out | refine below_set ?_ GEt.out) | exact HB.out)) hb)
  have n_BKj := Aside0.mk (blk_below (g := gbj) (o := .cells #[.pointer none] 34 (0, 0)) (by first | exact BKj.out | ((with_reducible repeat (first | refine blk_drewN ?_ _ | refine blk_drew ?_ | refine blk_alloc ?_ _)); exact BKj.out)) hb)
  have n_BKt := Aside0.mk (blk_below (g := gbt) (o := .cells #[.string c, .string i, .string u, .string d, .string o] 23 (0, 0)) (by first | exact BKt.out | ((with_reducible repeat (first | refine blk_drewN ?_ _ | refine blk_drew ?_ | refine blk_alloc ?_ _)); exact BKt.out)) hb)
  clear HB BKj BKt
  have HB := n_HB
  have BKj := n_BKj
  have BKt := n_BKt
  clear n_HB n_BKj n_BKt
  clear hb
  have zj_0 : World.cell? _ ⟨gbj, 0, none⟩ = some (.pointer none) := (blk_cell BKj.out 0).trans rfl
  have fj_0 := blk_frozen BKj.out 0
  have hnjt := NBj_t.out
  have hmjt := NBt_j.out
  have zt_0 : World.cell? _ ⟨gbt, 0, none⟩ = some (.string c) := (blk_cell BKt.out 0).trans rfl
  have ft_0 := blk_frozen BKt.out 0
  have zt_1 : World.cell? _ ⟨gbt, 1, none⟩ = some (.string i) := (blk_cell BKt.out 1).trans rfl
  have ft_1 := blk_frozen BKt.out 1
  have zt_2 : World.cell? _ ⟨gbt, 2, none⟩ = some (.string u) := (blk_cell BKt.out 2).trans rfl
  have ft_2 := blk_frozen BKt.out 2
  have zt_3 : World.cell? _ ⟨gbt, 3, none⟩ = some (.string d) := (blk_cell BKt.out 3).trans rfl
  have ft_3 := blk_frozen BKt.out 3
  have zt_4 : World.cell? _ ⟨gbt, 4, none⟩ = some (.string o) := (blk_cell BKt.out 4).trans rfl
  have ft_4 := blk_frozen BKt.out 4
  have hntj := NBt_j.out
  have hmtj := NBj_t.out
  go_wp2
  first | exact ⟨_, results_tmp rfl _ _ _, rfl, by repeat (first | (with_reducible first | exact HB.out | apply below_alloc | apply pw_below_drewN | apply below_drew1 | refine below_set ?_ GEj.out | refine below_set ?_ GEt.out) | exact HB.out)⟩ | (go_ret; exact ⟨rfl, by repeat (first | (with_reducible first | exact HB.out | apply below_alloc | apply pw_below_drewN | apply below_drew1 | refine below_set ?_ GEj.out | refine below_set ?_ GEt.out) | exact HB.out)⟩)
set_option maxHeartbeats 8000000 in
set_option maxRecDepth 100000 in
theorem tk_burn {base g : Nat} {ok : Nat → Prop} {w0 : World} {cur : List S82} (c i : ByteArray) (x : Int) (cur' : List S82) {w : World} (h : JS base ok w0 g cur w) (hk1 : KV 100000 cur) (hc : c.size ≤ 50000) (hi : i.size ≤ 50000) (hx : tkE (tkGet cur c i) = x) (hcur : tkBurn cur c i = cur') :
    Calls Tryz.prog 8 #[.pointer (some ⟨g, 0, none⟩), .string c, .string i] w fun e w' => e = .returned (.int .i64 x) ∧ JS base ok w0 g cur' w' ∧ JK w w' := by
  obtain ⟨x0, x1, x2, x3, x4, x5, hg⟩ : ∃ a0 a1 a2 a3 a4 a5, tkGet cur c i = (a0, a1, a2, a3, a4, a5) := ⟨_, _, _, _, _, _, rfl⟩
  unfold tkBurn at hcur
  rw [hg] at hx hcur
  simp only [tkE, tkO] at hx
  subst hx
  replace hcur : (if x5 = 0 then bkSet (tkBurn3 cur c i x4) (tkSup c) (numK cur (tkSup c) - 1) else cur) = cur' := hcur
  obtain ⟨N, hN⟩ : ∃ z, numK cur (tkSup c) = z := ⟨_, rfl⟩
  have bdN : 0 ≤ N ∧ N ≤ 9007199254740992 := by rw [← hN]; exact numK_bd _ _
  rw [hN] at hcur
  have hsz := tkGet_sz hg
  have hk2 := hk1.mono (show 100000 ≤ 1000000 by omega)
  have hid : c.size ≤ 50000000 := Nat.le_trans hc (by decide)
  have hid2 : i.size ≤ 50000000 := Nat.le_trans hi (by decide)
  obtain ⟨k1, key1⟩ := tkKey_ev c i hid hid2
  obtain ⟨k3, key3⟩ := tkMay_ev c i hid hid2
  have AO := Aside0.mk (fun h5 : x5 = 0 => tkGet_ok hg h5)
  have A4 := Aside0.mk hsz.2.2
  have AG := Aside0.mk hg
  have HW := Aside0.mk (show wrap64 (N - 1) = N - 1 from w64 (by omega) (by omega))
  have hmf := hmf_
  have HJ := Aside0.mk h
  have HK := Aside0.mk (JK.of_below (Below.refl w.heap.size w))
  clear h bdN hg hsz
  go_enter_defers Tryz.func8, Tryz.ntmps8
  go_wp2_with (first | ((with_reducible refine gate_dst (N := 3) rfl ?_); refine box_event ?hg (N := 3) ?hd (cs := #[.pointer (some ⟨g, 0, none⟩)]) (t := 34) ?hr ?_; (case hd => rfl); (case hg => rfl); (case hr => first | (go_simp; done) | (go_simp; rfl)); intro gbj hg wj hbox hb; have GKj := Aside0.mk ((by rw [hg]; exact JK.size (by first | exact HK.out | ((with_reducible repeat (first | apply JK.drewN | apply JK.drew | apply JK.alloc)); exact HK.out)) : w.heap.size ≤ gbj)); have GJj := Aside0.mk ((by rw [hg]; exact JS.size0 (base := base) (ok := ok) (w0 := w0) (g := g) (cur := cur) (by first | exact HJ.out | ((with_reducible repeat (first | apply JS.drewN | apply JS.drew | apply JS.alloc)); exact HJ.out)) : w0.heap.size ≤ gbj)); have n_HK := Aside0.mk (HK.out.trans (JK.of_below hb)); have n_HJ := Aside0.mk (JS.below (base := base) (ok := ok) (w0 := w0) (g := g) (cur := cur) (by first | exact HJ.out | ((with_reducible repeat (first | apply JS.drewN | apply JS.drew | apply JS.alloc)); exact HJ.out)) hb); clear HK HJ; have HK := n_HK; have HJ := n_HJ; clear n_HK n_HJ; have BKj := Aside0.mk hbox; clear hb hbox hg; have zj_0 : World.cell? _ ⟨gbj, 0, none⟩ = some (.pointer (some ⟨g, 0, none⟩)) := (blk_cell BKj.out 0).trans rfl; have fj_0 := blk_frozen BKj.out 0) | ((with_reducible refine gate_dst (N := 4) rfl ?_); refine box_event ?hg (N := 4) ?hd (cs := #[.string c]) (t := 9) ?hr ?_; (case hd => rfl); (case hg => rfl); (case hr => first | (go_simp; done) | (go_simp; rfl)); intro gbd hg wd hbox hb; have GKd := Aside0.mk ((by rw [hg]; exact JK.size (by first | exact HK.out | ((with_reducible repeat (first | apply JK.drewN | apply JK.drew | apply JK.alloc)); exact HK.out)) : w.heap.size ≤ gbd)); have GJd := Aside0.mk ((by rw [hg]; exact JS.size0 (base := base) (ok := ok) (w0 := w0) (g := g) (cur := cur) (by first | exact HJ.out | ((with_reducible repeat (first | apply JS.drewN | apply JS.drew | apply JS.alloc)); exact HJ.out)) : w0.heap.size ≤ gbd)); have NBj_d := Aside0.mk ((by rw [hg]; exact Nat.ne_of_lt (blk_lt (g := gbj) (o := .cells #[.pointer (some ⟨g, 0, none⟩)] 34 (0, 0)) (by first | exact BKj.out | ((with_reducible repeat (first | refine blk_drewN ?_ _ | refine blk_drew ?_ | refine blk_alloc ?_ _)); exact BKj.out))) : gbj ≠ gbd)); have NBd_j := Aside0.mk ((by rw [hg]; exact Nat.ne_of_gt (blk_lt (g := gbj) (o := .cells #[.pointer (some ⟨g, 0, none⟩)] 34 (0, 0)) (by first | exact BKj.out | ((with_reducible repeat (first | refine blk_drewN ?_ _ | refine blk_drew ?_ | refine blk_alloc ?_ _)); exact BKj.out))) : gbd ≠ gbj)); have n_HK := Aside0.mk (HK.out.trans (JK.of_below hb)); have n_HJ := Aside0.mk (JS.below (base := base) (ok := ok) (w0 := w0) (g := g) (cur := cur) (by first | exact HJ.out | ((with_reducible repeat (first | apply JS.drewN | apply JS.drew | apply JS.alloc)); exact HJ.out)) hb); have n_BKj := Aside0.mk (blk_below (g := gbj) (o := .cells #[.pointer (some ⟨g, 0, none⟩)] 34 (0, 0)) (by first | exact BKj.out | ((with_reducible repeat (first | refine blk_drewN ?_ _ | refine blk_drew ?_ | refine blk_alloc ?_ _)); exact BKj.out)) hb); clear HK HJ BKj; have HK := n_HK; have HJ := n_HJ; have BKj := n_BKj; clear n_HK n_HJ n_BKj; have BKd := Aside0.mk hbox; clear hb hbox hg; have zd_0 : World.cell? _ ⟨gbd, 0, none⟩ = some (.string c) := (blk_cell BKd.out 0).trans rfl; have fd_0 := blk_frozen BKd.out 0; have hndj := NBd_j.out; have hmdj := NBj_d.out; have zj_0 : World.cell? _ ⟨gbj, 0, none⟩ = some (.pointer (some ⟨g, 0, none⟩)) := (blk_cell BKj.out 0).trans rfl; have fj_0 := blk_frozen BKj.out 0; have hnjd := NBj_d.out; have hmjd := NBd_j.out; have zd_0 : World.cell? _ ⟨gbd, 0, none⟩ = some (.string c) := (blk_cell BKd.out 0).trans rfl; have fd_0 := blk_frozen BKd.out 0; have hndj := NBd_j.out; have hmdj := NBj_d.out))
  refine (tk_get c i x0 x1 x2 x3 x4 x5 HJ.out hk2 hid hid2 AG.out).mono ?_
  rintro e w1 ⟨rfl, hb⟩
  have n_HK := Aside0.mk (HK.out.trans (JK.of_below hb))
  have n_HJ := Aside0.mk (JS.below (base := base) (ok := ok) (w0 := w0) (g := g) (cur := cur) (by first | exact HJ.out | ((with_reducible repeat (first | apply JS.drewN | apply JS.drew | apply JS.alloc)); exact HJ.out)) hb)
  have n_BKj := Aside0.mk (blk_below (g := gbj) (o := .cells #[.pointer (some ⟨g, 0, none⟩)] 34 (0, 0)) (by first | exact BKj.out | ((with_reducible repeat (first | refine blk_drewN ?_ _ | refine blk_drew ?_ | refine blk_alloc ?_ _)); exact BKj.out)) hb)
  have n_BKd := Aside0.mk (blk_below (g := gbd) (o := .cells #[.string c] 9 (0, 0)) (by first | exact BKd.out | ((with_reducible repeat (first | refine blk_drewN ?_ _ | refine blk_drew ?_ | refine blk_alloc ?_ _)); exact BKd.out)) hb)
  clear HK HJ BKj BKd
  have HK := n_HK
  have HJ := n_HJ
  have BKj := n_BKj
  have BKd := n_BKd
  clear n_HK n_HJ n_BKj n_BKd
  clear hb
  have zj_0 : World.cell? _ ⟨gbj, 0, none⟩ = some (.pointer (some ⟨g, 0, none⟩)) := (blk_cell BKj.out 0).trans rfl
  have fj_0 := blk_frozen BKj.out 0
  have hnjd := NBj_d.out
  have hmjd := NBd_j.out
  have zd_0 : World.cell? _ ⟨gbd, 0, none⟩ = some (.string c) := (blk_cell BKd.out 0).trans rfl
  have fd_0 := blk_frozen BKd.out 0
  have hndj := NBd_j.out
  have hmdj := NBj_d.out
  clear AG
  by_cases z0 : x5 = 0
  · subst z0
    rw [if_pos rfl] at hcur
    obtain ⟨rfl, rfl⟩ := AO.out rfl
    clear AO
    obtain ⟨k2, key2⟩ := tkOwn_ev x0 x1 x2 x3 x4 hid hid2 (Nat.le_trans A4.out (by decide))
    unfold tkBurn3 at hcur
    have hkA := hk1.del (tkKey x0 x1)
    have hkB := hkA.del (tkOwn x4 x0 x1)
    have hkC := (hkB.del (tkMay x0 x1)).mono (show 100000 ≤ 1000000 by omega)
    replace hkA := hkA.mono (show 100000 ≤ 1000000 by omega)
    replace hkB := hkB.mono (show 100000 ≤ 1000000 by omega)
    generalize tkKey x0 x1 = kA at key1 hcur hkA hkB hkC
    generalize tkOwn x4 x0 x1 = kB at key2 hcur hkB hkC
    generalize tkMay x0 x1 = kC at key3 hcur hkC
    go_wp2_with (first | ((with_reducible refine gate_dst (N := 7) rfl ?_); refine box_event ?hg (N := 7) ?hd (cs := #[.string (⟨#[]⟩ : ByteArray), .string (⟨#[]⟩ : ByteArray), .string (⟨#[]⟩ : ByteArray), .string (⟨#[]⟩ : ByteArray), .string (⟨#[]⟩ : ByteArray)]) (t := 23) ?hr ?_; (case hd => rfl); (case hg => rfl); (case hr => first | (go_simp; done) | (go_simp; rfl)); intro gbt hg wt hbox hb; have GKt := Aside0.mk ((by rw [hg]; exact JK.size (by first | exact HK.out | ((with_reducible repeat (first | apply JK.drewN | apply JK.drew | apply JK.alloc)); exact HK.out)) : w.heap.size ≤ gbt)); have GJt := Aside0.mk ((by rw [hg]; exact JS.size0 (base := base) (ok := ok) (w0 := w0) (g := g) (cur := cur) (by first | exact HJ.out | ((with_reducible repeat (first | apply JS.drewN | apply JS.drew | apply JS.alloc)); exact HJ.out)) : w0.heap.size ≤ gbt)); have NBj_t := Aside0.mk ((by rw [hg]; exact Nat.ne_of_lt (blk_lt (g := gbj) (o := .cells #[.pointer (some ⟨g, 0, none⟩)] 34 (0, 0)) (by first | exact BKj.out | ((with_reducible repeat (first | refine blk_drewN ?_ _ | refine blk_drew ?_ | refine blk_alloc ?_ _)); exact BKj.out))) : gbj ≠ gbt)); have NBt_j := Aside0.mk ((by rw [hg]; exact Nat.ne_of_gt (blk_lt (g := gbj) (o := .cells #[.pointer (some ⟨g, 0, none⟩)] 34 (0, 0)) (by first | exact BKj.out | ((with_reducible repeat (first | refine blk_drewN ?_ _ | refine blk_drew ?_ | refine blk_alloc ?_ _)); exact BKj.out))) : gbt ≠ gbj)); have NBd_t := Aside0.mk ((by rw [hg]; exact Nat.ne_of_lt (blk_lt (g := gbd) (o := .cells #[.string x0] 9 (0, 0)) (by first | exact BKd.out | ((with_reducible repeat (first | refine blk_drewN ?_ _ | refine blk_drew ?_ | refine blk_alloc ?_ _)); exact BKd.out))) : gbd ≠ gbt)); have NBt_d := Aside0.mk ((by rw [hg]; exact Nat.ne_of_gt (blk_lt (g := gbd) (o := .cells #[.string x0] 9 (0, 0)) (by first | exact BKd.out | ((with_reducible repeat (first | refine blk_drewN ?_ _ | refine blk_drew ?_ | refine blk_alloc ?_ _)); exact BKd.out))) : gbt ≠ gbd)); have n_HK := Aside0.mk (HK.out.trans (JK.of_below hb)); have n_HJ := Aside0.mk (JS.below (base := base) (ok := ok) (w0 := w0) (g := g) (cur := cur) (by first | exact HJ.out | ((with_reducible repeat (first | apply JS.drewN | apply JS.drew | apply JS.alloc)); exact HJ.out)) hb); have n_BKj := Aside0.mk (blk_below (g := gbj) (o := .cells #[.pointer (some ⟨g, 0, none⟩)] 34 (0, 0)) (by first | exact BKj.out | ((with_reducible repeat (first | refine blk_drewN ?_ _ | refine blk_drew ?_ | refine blk_alloc ?_ _)); exact BKj.out)) hb); have n_BKd := Aside0.mk (blk_below (g := gbd) (o := .cells #[.string x0] 9 (0, 0)) (by first | exact BKd.out | ((with_reducible repeat (first | refine blk_drewN ?_ _ | refine blk_drew ?_ | refine blk_alloc ?_ _)); exact BKd.out)) hb); clear HK HJ BKj BKd; have HK := n_HK; have HJ := n_HJ; have BKj := n_BKj; have BKd := n_BKd; clear n_HK n_HJ n_BKj n_BKd; have BKt := Aside0.mk hbox; clear hb hbox hg; have zt_0 : World.cell? _ ⟨gbt, 0, none⟩ = some (.string (⟨#[]⟩ : ByteArray)) := (blk_cell BKt.out 0).trans rfl; have ft_0 := blk_frozen BKt.out 0; have zt_1 : World.cell? _ ⟨gbt, 1, none⟩ = some (.string (⟨#[]⟩ : ByteArray)) := (blk_cell BKt.out 1).trans rfl; have ft_1 := blk_frozen BKt.out 1; have zt_2 : World.cell? _ ⟨gbt, 2, none⟩ = some (.string (⟨#[]⟩ : ByteArray)) := (blk_cell BKt.out 2).trans rfl; have ft_2 := blk_frozen BKt.out 2; have zt_3 : World.cell? _ ⟨gbt, 3, none⟩ = some (.string (⟨#[]⟩ : ByteArray)) := (blk_cell BKt.out 3).trans rfl; have ft_3 := blk_frozen BKt.out 3; have zt_4 : World.cell? _ ⟨gbt, 4, none⟩ = some (.string (⟨#[]⟩ : ByteArray)) := (blk_cell BKt.out 4).trans rfl; have ft_4 := blk_frozen BKt.out 4; have hntj := NBt_j.out; have hmtj := NBj_t.out; have hntd := NBt_d.out; have hmtd := NBd_t.out; have zj_0 : World.cell? _ ⟨gbj, 0, none⟩ = some (.pointer (some ⟨g, 0, none⟩)) := (blk_cell BKj.out 0).trans rfl; have fj_0 := blk_frozen BKj.out 0; have hnjd := NBj_d.out; have hmjd := NBd_j.out; have hnjt := NBj_t.out; have hmjt := NBt_j.out; have zd_0 : World.cell? _ ⟨gbd, 0, none⟩ = some (.string x0) := (blk_cell BKd.out 0).trans rfl; have fd_0 := blk_frozen BKd.out 0; have hndj := NBd_j.out; have hmdj := NBj_d.out; have hndt := NBd_t.out; have hmdt := NBt_d.out; have zt_0 : World.cell? _ ⟨gbt, 0, none⟩ = some (.string (⟨#[]⟩ : ByteArray)) := (blk_cell BKt.out 0).trans rfl; have ft_0 := blk_frozen BKt.out 0; have zt_1 : World.cell? _ ⟨gbt, 1, none⟩ = some (.string (⟨#[]⟩ : ByteArray)) := (blk_cell BKt.out 1).trans rfl; have ft_1 := blk_frozen BKt.out 1; have zt_2 : World.cell? _ ⟨gbt, 2, none⟩ = some (.string (⟨#[]⟩ : ByteArray)) := (blk_cell BKt.out 2).trans rfl; have ft_2 := blk_frozen BKt.out 2; have zt_3 : World.cell? _ ⟨gbt, 3, none⟩ = some (.string (⟨#[]⟩ : ByteArray)) := (blk_cell BKt.out 3).trans rfl; have ft_3 := blk_frozen BKt.out 3; have zt_4 : World.cell? _ ⟨gbt, 4, none⟩ = some (.string (⟨#[]⟩ : ByteArray)) := (blk_cell BKt.out 4).trans rfl; have ft_4 := blk_frozen BKt.out 4; have hntj := NBt_j.out; have hmtj := NBj_t.out; have hntd := NBt_d.out; have hmtd := NBd_t.out))
    refine (tk_supply (base := base) (ok := ok) (w0 := w0) (g := g) (cur := cur) x0 N (by (with_reducible repeat (first | apply JS.drewN | apply JS.drew | apply JS.alloc)); refine JS.setb (q := 23) ?_ GJt.out (by (with_reducible repeat (first | refine blk_drewN ?_ _ | refine blk_drew ?_ | refine blk_alloc ?_ _)); refine blk_put (cs := #[.string x0, .string x1, .string x2, .string (⟨#[]⟩ : ByteArray), .string (⟨#[]⟩ : ByteArray)]) ?_ 3 _ rfl; (with_reducible repeat (first | refine blk_drewN ?_ _ | refine blk_drew ?_ | refine blk_alloc ?_ _)); refine blk_put (cs := #[.string x0, .string x1, .string (⟨#[]⟩ : ByteArray), .string (⟨#[]⟩ : ByteArray), .string (⟨#[]⟩ : ByteArray)]) ?_ 2 _ rfl; (with_reducible repeat (first | refine blk_drewN ?_ _ | refine blk_drew ?_ | refine blk_alloc ?_ _)); refine blk_put (cs := #[.string x0, .string (⟨#[]⟩ : ByteArray), .string (⟨#[]⟩ : ByteArray), .string (⟨#[]⟩ : ByteArray), .string (⟨#[]⟩ : ByteArray)]) ?_ 1 _ rfl; (with_reducible repeat (first | refine blk_drewN ?_ _ | refine blk_drew ?_ | refine blk_alloc ?_ _)); refine blk_put (cs := #[.string (⟨#[]⟩ : ByteArray), .string (⟨#[]⟩ : ByteArray), .string (⟨#[]⟩ : ByteArray), .string (⟨#[]⟩ : ByteArray), .string (⟨#[]⟩ : ByteArray)]) ?_ 0 _ rfl; (with_reducible repeat (first | refine blk_drewN ?_ _ | refine blk_drew ?_ | refine blk_alloc ?_ _)); exact BKt.out) _ (by decide); (with_reducible repeat (first | apply JS.drewN | apply JS.drew | apply JS.alloc)); refine JS.setb (q := 23) ?_ GJt.out (by (with_reducible repeat (first | refine blk_drewN ?_ _ | refine blk_drew ?_ | refine blk_alloc ?_ _)); refine blk_put (cs := #[.string x0, .string x1, .string (⟨#[]⟩ : ByteArray), .string (⟨#[]⟩ : ByteArray), .string (⟨#[]⟩ : ByteArray)]) ?_ 2 _ rfl; (with_reducible repeat (first | refine blk_drewN ?_ _ | refine blk_drew ?_ | refine blk_alloc ?_ _)); refine blk_put (cs := #[.string x0, .string (⟨#[]⟩ : ByteArray), .string (⟨#[]⟩ : ByteArray), .string (⟨#[]⟩ : ByteArray), .string (⟨#[]⟩ : ByteArray)]) ?_ 1 _ rfl; (with_reducible repeat (first | refine blk_drewN ?_ _ | refine blk_drew ?_ | refine blk_alloc ?_ _)); refine blk_put (cs := #[.string (⟨#[]⟩ : ByteArray), .string (⟨#[]⟩ : ByteArray), .string (⟨#[]⟩ : ByteArray), .string (⟨#[]⟩ : ByteArray), .string (⟨#[]⟩ : ByteArray)]) ?_ 0 _ rfl; (with_reducible repeat (first | refine blk_drewN ?_ _ | refine blk_drew ?_ | refine blk_alloc ?_ _)); exact BKt.out) _ (by decide); (with_reducible repeat (first | apply JS.drewN | apply JS.drew | apply JS.alloc)); refine JS.setb (q := 23) ?_ GJt.out (by (with_reducible repeat (first | refine blk_drewN ?_ _ | refine blk_drew ?_ | refine blk_alloc ?_ _)); refine blk_put (cs := #[.string x0, .string (⟨#[]⟩ : ByteArray), .string (⟨#[]⟩ : ByteArray), .string (⟨#[]⟩ : ByteArray), .string (⟨#[]⟩ : ByteArray)]) ?_ 1 _ rfl; (with_reducible repeat (first | refine blk_drewN ?_ _ | refine blk_drew ?_ | refine blk_alloc ?_ _)); refine blk_put (cs := #[.string (⟨#[]⟩ : ByteArray), .string (⟨#[]⟩ : ByteArray), .string (⟨#[]⟩ : ByteArray), .string (⟨#[]⟩ : ByteArray), .string (⟨#[]⟩ : ByteArray)]) ?_ 0 _ rfl; (with_reducible repeat (first | refine blk_drewN ?_ _ | refine blk_drew ?_ | refine blk_alloc ?_ _)); exact BKt.out) _ (by decide); (with_reducible repeat (first | apply JS.drewN | apply JS.drew | apply JS.alloc)); refine JS.setb (q := 23) ?_ GJt.out (by (with_reducible repeat (first | refine blk_drewN ?_ _ | refine blk_drew ?_ | refine blk_alloc ?_ _)); refine blk_put (cs := #[.string (⟨#[]⟩ : ByteArray), .string (⟨#[]⟩ : ByteArray), .string (⟨#[]⟩ : ByteArray), .string (⟨#[]⟩ : ByteArray), .string (⟨#[]⟩ : ByteArray)]) ?_ 0 _ rfl; (with_reducible repeat (first | refine blk_drewN ?_ _ | refine blk_drew ?_ | refine blk_alloc ?_ _)); exact BKt.out) _ (by decide); (with_reducible repeat (first | apply JS.drewN | apply JS.drew | apply JS.alloc)); refine JS.setb (q := 23) ?_ GJt.out (by first | exact BKt.out | ((with_reducible repeat (first | refine blk_drewN ?_ _ | refine blk_drew ?_ | refine blk_alloc ?_ _)); exact BKt.out)) _ (by decide); (with_reducible repeat (first | apply JS.drewN | apply JS.drew | apply JS.alloc)); exact HJ.out) hk2 hid hN).mono ?_
    rintro e w2 ⟨rfl, hb⟩
    have n_HK := Aside0.mk ((by (with_reducible repeat (first | apply JK.drewN | apply JK.drew | apply JK.alloc)); refine JK.setb ?_ GKt.out _; (with_reducible repeat (first | apply JK.drewN | apply JK.drew | apply JK.alloc)); refine JK.setb ?_ GKt.out _; (with_reducible repeat (first | apply JK.drewN | apply JK.drew | apply JK.alloc)); refine JK.setb ?_ GKt.out _; (with_reducible repeat (first | apply JK.drewN | apply JK.drew | apply JK.alloc)); refine JK.setb ?_ GKt.out _; (with_reducible repeat (first | apply JK.drewN | apply JK.drew | apply JK.alloc)); refine JK.setb ?_ GKt.out _; (with_reducible repeat (first | apply JK.drewN | apply JK.drew | apply JK.alloc)); exact HK.out : JK _ _).trans (JK.of_below hb))
    have n_HJ := Aside0.mk (JS.below (base := base) (ok := ok) (w0 := w0) (g := g) (cur := cur) (by (with_reducible repeat (first | apply JS.drewN | apply JS.drew | apply JS.alloc)); refine JS.setb (q := 23) ?_ GJt.out (by (with_reducible repeat (first | refine blk_drewN ?_ _ | refine blk_drew ?_ | refine blk_alloc ?_ _)); refine blk_put (cs := #[.string x0, .string x1, .string x2, .string (⟨#[]⟩ : ByteArray), .string (⟨#[]⟩ : ByteArray)]) ?_ 3 _ rfl; (with_reducible repeat (first | refine blk_drewN ?_ _ | refine blk_drew ?_ | refine blk_alloc ?_ _)); refine blk_put (cs := #[.string x0, .string x1, .string (⟨#[]⟩ : ByteArray), .string (⟨#[]⟩ : ByteArray), .string (⟨#[]⟩ : ByteArray)]) ?_ 2 _ rfl; (with_reducible repeat (first | refine blk_drewN ?_ _ | refine blk_drew ?_ | refine blk_alloc ?_ _)); refine blk_put (cs := #[.string x0, .string (⟨#[]⟩ : ByteArray), .string (⟨#[]⟩ : ByteArray), .string (⟨#[]⟩ : ByteArray), .string (⟨#[]⟩ : ByteArray)]) ?_ 1 _ rfl; (with_reducible repeat (first | refine blk_drewN ?_ _ | refine blk_drew ?_ | refine blk_alloc ?_ _)); refine blk_put (cs := #[.string (⟨#[]⟩ : ByteArray), .string (⟨#[]⟩ : ByteArray), .string (⟨#[]⟩ : ByteArray), .string (⟨#[]⟩ : ByteArray), .string (⟨#[]⟩ : ByteArray)]) ?_ 0 _ rfl; (with_reducible repeat (first | refine blk_drewN ?_ _ | refine blk_drew ?_ | refine blk_alloc ?_ _)); exact BKt.out) _ (by decide); (with_reducible repeat (first | apply JS.drewN | apply JS.drew | apply JS.alloc)); refine JS.setb (q := 23) ?_ GJt.out (by (with_reducible repeat (first | refine blk_drewN ?_ _ | refine blk_drew ?_ | refine blk_alloc ?_ _)); refine blk_put (cs := #[.string x0, .string x1, .string (⟨#[]⟩ : ByteArray), .string (⟨#[]⟩ : ByteArray), .string (⟨#[]⟩ : ByteArray)]) ?_ 2 _ rfl; (with_reducible repeat (first | refine blk_drewN ?_ _ | refine blk_drew ?_ | refine blk_alloc ?_ _)); refine blk_put (cs := #[.string x0, .string (⟨#[]⟩ : ByteArray), .string (⟨#[]⟩ : ByteArray), .string (⟨#[]⟩ : ByteArray), .string (⟨#[]⟩ : ByteArray)]) ?_ 1 _ rfl; (with_reducible repeat (first | refine blk_drewN ?_ _ | refine blk_drew ?_ | refine blk_alloc ?_ _)); refine blk_put (cs := #[.string (⟨#[]⟩ : ByteArray), .string (⟨#[]⟩ : ByteArray), .string (⟨#[]⟩ : ByteArray), .string (⟨#[]⟩ : ByteArray), .string (⟨#[]⟩ : ByteArray)]) ?_ 0 _ rfl; (with_reducible repeat (first | refine blk_drewN ?_ _ | refine blk_drew ?_ | refine blk_alloc ?_ _)); exact BKt.out) _ (by decide); (with_reducible repeat (first | apply JS.drewN | apply JS.drew | apply JS.alloc)); refine JS.setb (q := 23) ?_ GJt.out (by (with_reducible repeat (first | refine blk_drewN ?_ _ | refine blk_drew ?_ | refine blk_alloc ?_ _)); refine blk_put (cs := #[.string x0, .string (⟨#[]⟩ : ByteArray), .string (⟨#[]⟩ : ByteArray), .string (⟨#[]⟩ : ByteArray), .string (⟨#[]⟩ : ByteArray)]) ?_ 1 _ rfl; (with_reducible repeat (first | refine blk_drewN ?_ _ | refine blk_drew ?_ | refine blk_alloc ?_ _)); refine blk_put (cs := #[.string (⟨#[]⟩ : ByteArray), .string (⟨#[]⟩ : ByteArray), .string (⟨#[]⟩ : ByteArray), .string (⟨#[]⟩ : ByteArray), .string (⟨#[]⟩ : ByteArray)]) ?_ 0 _ rfl; (with_reducible repeat (first | refine blk_drewN ?_ _ | refine blk_drew ?_ | refine blk_alloc ?_ _)); exact BKt.out) _ (by decide); (with_reducible repeat (first | apply JS.drewN | apply JS.drew | apply JS.alloc)); refine JS.setb (q := 23) ?_ GJt.out (by (with_reducible repeat (first | refine blk_drewN ?_ _ | refine blk_drew ?_ | refine blk_alloc ?_ _)); refine blk_put (cs := #[.string (⟨#[]⟩ : ByteArray), .string (⟨#[]⟩ : ByteArray), .string (⟨#[]⟩ : ByteArray), .string (⟨#[]⟩ : ByteArray), .string (⟨#[]⟩ : ByteArray)]) ?_ 0 _ rfl; (with_reducible repeat (first | refine blk_drewN ?_ _ | refine blk_drew ?_ | refine blk_alloc ?_ _)); exact BKt.out) _ (by decide); (with_reducible repeat (first | apply JS.drewN | apply JS.drew | apply JS.alloc)); refine JS.setb (q := 23) ?_ GJt.out (by first | exact BKt.out | ((with_reducible repeat (first | refine blk_drewN ?_ _ | refine blk_drew ?_ | refine blk_alloc ?_ _)); exact BKt.out)) _ (by decide); (with_reducible repeat (first | apply JS.drewN | apply JS.drew | apply JS.alloc)); exact HJ.out) hb)
    have n_BKj := Aside0.mk (blk_below (g := gbj) (o := .cells #[.pointer (some ⟨g, 0, none⟩)] 34 (0, 0)) (by (with_reducible repeat (first | refine blk_drewN ?_ _ | refine blk_drew ?_ | refine blk_alloc ?_ _)); refine blk_far ?_ NBj_t.out _; (with_reducible repeat (first | refine blk_drewN ?_ _ | refine blk_drew ?_ | refine blk_alloc ?_ _)); refine blk_far ?_ NBj_t.out _; (with_reducible repeat (first | refine blk_drewN ?_ _ | refine blk_drew ?_ | refine blk_alloc ?_ _)); refine blk_far ?_ NBj_t.out _; (with_reducible repeat (first | refine blk_drewN ?_ _ | refine blk_drew ?_ | refine blk_alloc ?_ _)); refine blk_far ?_ NBj_t.out _; (with_reducible repeat (first | refine blk_drewN ?_ _ | refine blk_drew ?_ | refine blk_alloc ?_ _)); refine blk_far ?_ NBj_t.out _; (with_reducible repeat (first | refine blk_drewN ?_ _ | refine blk_drew ?_ | refine blk_alloc ?_ _)); exact BKj.out) hb)
    have n_BKd := Aside0.mk (blk_below (g := gbd) (o := .cells #[.string x0] 9 (0, 0)) (by (with_reducible repeat (first | refine blk_drewN ?_ _ | refine blk_drew ?_ | refine blk_alloc ?_ _)); refine blk_far ?_ NBd_t.out _; (with_reducible repeat (first | refine blk_drewN ?_ _ | refine blk_drew ?_ | refine blk_alloc ?_ _)); refine blk_far ?_ NBd_t.out _; (with_reducible repeat (first | refine blk_drewN ?_ _ | refine blk_drew ?_ | refine blk_alloc ?_ _)); refine blk_far ?_ NBd_t.out _; (with_reducible repeat (first | refine blk_drewN ?_ _ | refine blk_drew ?_ | refine blk_alloc ?_ _)); refine blk_far ?_ NBd_t.out _; (with_reducible repeat (first | refine blk_drewN ?_ _ | refine blk_drew ?_ | refine blk_alloc ?_ _)); refine blk_far ?_ NBd_t.out _; (with_reducible repeat (first | refine blk_drewN ?_ _ | refine blk_drew ?_ | refine blk_alloc ?_ _)); exact BKd.out) hb)
    have n_BKt := Aside0.mk (blk_below (g := gbt) (o := .cells #[.string x0, .string x1, .string x2, .string x3, .string x4] 23 (0, 0)) (by (with_reducible repeat (first | refine blk_drewN ?_ _ | refine blk_drew ?_ | refine blk_alloc ?_ _)); refine blk_put (cs := #[.string x0, .string x1, .string x2, .string x3, .string (⟨#[]⟩ : ByteArray)]) ?_ 4 _ rfl; (with_reducible repeat (first | refine blk_drewN ?_ _ | refine blk_drew ?_ | refine blk_alloc ?_ _)); refine blk_put (cs := #[.string x0, .string x1, .string x2, .string (⟨#[]⟩ : ByteArray), .string (⟨#[]⟩ : ByteArray)]) ?_ 3 _ rfl; (with_reducible repeat (first | refine blk_drewN ?_ _ | refine blk_drew ?_ | refine blk_alloc ?_ _)); refine blk_put (cs := #[.string x0, .string x1, .string (⟨#[]⟩ : ByteArray), .string (⟨#[]⟩ : ByteArray), .string (⟨#[]⟩ : ByteArray)]) ?_ 2 _ rfl; (with_reducible repeat (first | refine blk_drewN ?_ _ | refine blk_drew ?_ | refine blk_alloc ?_ _)); refine blk_put (cs := #[.string x0, .string (⟨#[]⟩ : ByteArray), .string (⟨#[]⟩ : ByteArray), .string (⟨#[]⟩ : ByteArray), .string (⟨#[]⟩ : ByteArray)]) ?_ 1 _ rfl; (with_reducible repeat (first | refine blk_drewN ?_ _ | refine blk_drew ?_ | refine blk_alloc ?_ _)); refine blk_put (cs := #[.string (⟨#[]⟩ : ByteArray), .string (⟨#[]⟩ : ByteArray), .string (⟨#[]⟩ : ByteArray), .string (⟨#[]⟩ : ByteArray), .string (⟨#[]⟩ : ByteArray)]) ?_ 0 _ rfl; (with_reducible repeat (first | refine blk_drewN ?_ _ | refine blk_drew ?_ | refine blk_alloc ?_ _)); exact BKt.out) hb)
    clear HK HJ BKj BKd BKt
    have HK := n_HK
    have HJ := n_HJ
    have BKj := n_BKj
    have BKd := n_BKd
    have BKt := n_BKt
    clear n_HK n_HJ n_BKj n_BKd n_BKt
    clear hb
    have zj_0 : World.cell? _ ⟨gbj, 0, none⟩ = some (.pointer (some ⟨g, 0, none⟩)) := (blk_cell BKj.out 0).trans rfl
    have fj_0 := blk_frozen BKj.out 0
    have hnjd := NBj_d.out
    have hmjd := NBd_j.out
    have hnjt := NBj_t.out
    have hmjt := NBt_j.out
    have zd_0 : World.cell? _ ⟨gbd, 0, none⟩ = some (.string x0) := (blk_cell BKd.out 0).trans rfl
    have fd_0 := blk_frozen BKd.out 0
    have hndj := NBd_j.out
    have hmdj := NBj_d.out
    have hndt := NBd_t.out
    have hmdt := NBt_d.out
    have zt_0 : World.cell? _ ⟨gbt, 0, none⟩ = some (.string x0) := (blk_cell BKt.out 0).trans rfl
    have ft_0 := blk_frozen BKt.out 0
    have zt_1 : World.cell? _ ⟨gbt, 1, none⟩ = some (.string x1) := (blk_cell BKt.out 1).trans rfl
    have ft_1 := blk_frozen BKt.out 1
    have zt_2 : World.cell? _ ⟨gbt, 2, none⟩ = some (.string x2) := (blk_cell BKt.out 2).trans rfl
    have ft_2 := blk_frozen BKt.out 2
    have zt_3 : World.cell? _ ⟨gbt, 3, none⟩ = some (.string x3) := (blk_cell BKt.out 3).trans rfl
    have ft_3 := blk_frozen BKt.out 3
    have zt_4 : World.cell? _ ⟨gbt, 4, none⟩ = some (.string x4) := (blk_cell BKt.out 4).trans rfl
    have ft_4 := blk_frozen BKt.out 4
    have hntj := NBt_j.out
    have hmtj := NBj_t.out
    have hntd := NBt_d.out
    have hmtd := NBd_t.out
    go_upto_region 6 with (first | ((with_reducible refine gate_dst (N := 9) rfl ?_); refine box_event ?hg (N := 9) ?hd (cs := #[.int .i64 0]) (t := 3) ?hr ?_; (case hd => rfl); (case hg => rfl); (case hr => first | (go_simp; done) | (go_simp; rfl)); intro gbn hg wn hbox hb; have GKn := Aside0.mk ((by rw [hg]; exact JK.size (by first | exact HK.out | ((with_reducible repeat (first | apply JK.drewN | apply JK.drew | apply JK.alloc)); exact HK.out)) : w.heap.size ≤ gbn)); have GJn := Aside0.mk ((by rw [hg]; exact JS.size0 (base := base) (ok := ok) (w0 := w0) (g := g) (cur := cur) (by first | exact HJ.out | ((with_reducible repeat (first | apply JS.drewN | apply JS.drew | apply JS.alloc)); exact HJ.out)) : w0.heap.size ≤ gbn)); have NBj_n := Aside0.mk ((by rw [hg]; exact Nat.ne_of_lt (blk_lt (g := gbj) (o := .cells #[.pointer (some ⟨g, 0, none⟩)] 34 (0, 0)) (by first | exact BKj.out | ((with_reducible repeat (first | refine blk_drewN ?_ _ | refine blk_drew ?_ | refine blk_alloc ?_ _)); exact BKj.out))) : gbj ≠ gbn)); have NBn_j := Aside0.mk ((by rw [hg]; exact Nat.ne_of_gt (blk_lt (g := gbj) (o := .cells #[.pointer (some ⟨g, 0, none⟩)] 34 (0, 0)) (by first | exact BKj.out | ((with_reducible repeat (first | refine blk_drewN ?_ _ | refine blk_drew ?_ | refine blk_alloc ?_ _)); exact BKj.out))) : gbn ≠ gbj)); have NBd_n := Aside0.mk ((by rw [hg]; exact Nat.ne_of_lt (blk_lt (g := gbd) (o := .cells #[.string x0] 9 (0, 0)) (by first | exact BKd.out | ((with_reducible repeat (first | refine blk_drewN ?_ _ | refine blk_drew ?_ | refine blk_alloc ?_ _)); exact BKd.out))) : gbd ≠ gbn)); have NBn_d := Aside0.mk ((by rw [hg]; exact Nat.ne_of_gt (blk_lt (g := gbd) (o := .cells #[.string x0] 9 (0, 0)) (by first | exact BKd.out | ((with_reducible repeat (first | refine blk_drewN ?_ _ | refine blk_drew ?_ | refine blk_alloc ?_ _)); exact BKd.out))) : gbn ≠ gbd)); have NBt_n := Aside0.mk ((by rw [hg]; exact Nat.ne_of_lt (blk_lt (g := gbt) (o := .cells #[.string x0, .string x1, .string x2, .string x3, .string x4] 23 (0, 0)) (by first | exact BKt.out | ((with_reducible repeat (first | refine blk_drewN ?_ _ | refine blk_drew ?_ | refine blk_alloc ?_ _)); exact BKt.out))) : gbt ≠ gbn)); have NBn_t := Aside0.mk ((by rw [hg]; exact Nat.ne_of_gt (blk_lt (g := gbt) (o := .cells #[.string x0, .string x1, .string x2, .string x3, .string x4] 23 (0, 0)) (by first | exact BKt.out | ((with_reducible repeat (first | refine blk_drewN ?_ _ | refine blk_drew ?_ | refine blk_alloc ?_ _)); exact BKt.out))) : gbn ≠ gbt)); have n_HK := Aside0.mk (HK.out.trans (JK.of_below hb)); have n_HJ := Aside0.mk (JS.below (base := base) (ok := ok) (w0 := w0) (g := g) (cur := cur) (by first | exact HJ.out | ((with_reducible repeat (first | apply JS.drewN | apply JS.drew | apply JS.alloc)); exact HJ.out)) hb); have n_BKj := Aside0.mk (blk_below (g := gbj) (o := .cells #[.pointer (some ⟨g, 0, none⟩)] 34 (0, 0)) (by first | exact BKj.out | ((with_reducible repeat (first | refine blk_drewN ?_ _ | refine blk_drew ?_ | refine blk_alloc ?_ _)); exact BKj.out)) hb); have n_BKd := Aside0.mk (blk_below (g := gbd) (o := .cells #[.string x0] 9 (0, 0)) (by first | exact BKd.out | ((with_reducible repeat (first | refine blk_drewN ?_ _ | refine blk_drew ?_ | refine blk_alloc ?_ _)); exact BKd.out)) hb); have n_BKt := Aside0.mk (blk_below (g := gbt) (o := .cells #[.string x0, .string x1, .string x2, .string x3, .string x4] 23 (0, 0)) (by first | exact BKt.out | ((with_reducible repeat (first | refine blk_drewN ?_ _ | refine blk_drew ?_ | refine blk_alloc ?_ _)); exact BKt.out)) hb); clear HK HJ BKj BKd BKt; have HK := n_HK; have HJ := n_HJ; have BKj := n_BKj; have BKd := n_BKd; have BKt := n_BKt; clear n_HK n_HJ n_BKj n_BKd n_BKt; have BKn := Aside0.mk hbox; clear hb hbox hg; have zn_0 : World.cell? _ ⟨gbn, 0, none⟩ = some (.int .i64 0) := (blk_cell BKn.out 0).trans rfl; have fn_0 := blk_frozen BKn.out 0; have hnnj := NBn_j.out; have hmnj := NBj_n.out; have hnnd := NBn_d.out; have hmnd := NBd_n.out; have hnnt := NBn_t.out; have hmnt := NBt_n.out; have zj_0 : World.cell? _ ⟨gbj, 0, none⟩ = some (.pointer (some ⟨g, 0, none⟩)) := (blk_cell BKj.out 0).trans rfl; have fj_0 := blk_frozen BKj.out 0; have hnjd := NBj_d.out; have hmjd := NBd_j.out; have hnjt := NBj_t.out; have hmjt := NBt_j.out; have hnjn := NBj_n.out; have hmjn := NBn_j.out; have zd_0 : World.cell? _ ⟨gbd, 0, none⟩ = some (.string x0) := (blk_cell BKd.out 0).trans rfl; have fd_0 := blk_frozen BKd.out 0; have hndj := NBd_j.out; have hmdj := NBj_d.out; have hndt := NBd_t.out; have hmdt := NBt_d.out; have hndn := NBd_n.out; have hmdn := NBn_d.out; have zt_0 : World.cell? _ ⟨gbt, 0, none⟩ = some (.string x0) := (blk_cell BKt.out 0).trans rfl; have ft_0 := blk_frozen BKt.out 0; have zt_1 : World.cell? _ ⟨gbt, 1, none⟩ = some (.string x1) := (blk_cell BKt.out 1).trans rfl; have ft_1 := blk_frozen BKt.out 1; have zt_2 : World.cell? _ ⟨gbt, 2, none⟩ = some (.string x2) := (blk_cell BKt.out 2).trans rfl; have ft_2 := blk_frozen BKt.out 2; have zt_3 : World.cell? _ ⟨gbt, 3, none⟩ = some (.string x3) := (blk_cell BKt.out 3).trans rfl; have ft_3 := blk_frozen BKt.out 3; have zt_4 : World.cell? _ ⟨gbt, 4, none⟩ = some (.string x4) := (blk_cell BKt.out 4).trans rfl; have ft_4 := blk_frozen BKt.out 4; have hntj := NBt_j.out; have hmtj := NBj_t.out; have hntd := NBt_d.out; have hmtd := NBd_t.out; have hntn := NBt_n.out; have hmtn := NBn_t.out))
    refine start_ (n := 5) (S := fun w' => HeldC gbj #[.pointer (some ⟨g, 0, none⟩)] 34 w' ∧ HeldC gbd #[.string x0] 9 w') (ds := []) #[false, false, false, false, false] (by kernel_rfl) rfl rfl ⟨HeldC.of (by (with_reducible repeat (first | refine blk_drewN ?_ _ | refine blk_drew ?_ | refine blk_alloc ?_ _)); refine blk_far ?_ NBj_n.out _; (with_reducible repeat (first | refine blk_drewN ?_ _ | refine blk_drew ?_ | refine blk_alloc ?_ _)); exact BKj.out), HeldC.of (by (with_reducible repeat (first | refine blk_drewN ?_ _ | refine blk_drew ?_ | refine blk_alloc ?_ _)); refine blk_far ?_ NBd_n.out _; (with_reducible repeat (first | refine blk_drewN ?_ _ | refine blk_drew ?_ | refine blk_alloc ?_ _)); exact BKd.out)⟩ (fun hHeld => ?_)
    have n_HJ := at_world hHeld.1 (F := fun Y => JS base ok w0 g cur Y) (by (with_reducible repeat (first | apply JS.drewN | apply JS.drew | apply JS.alloc)); refine JS.setb (q := 3) ?_ GJn.out (by first | exact BKn.out | ((with_reducible repeat (first | refine blk_drewN ?_ _ | refine blk_drew ?_ | refine blk_alloc ?_ _)); exact BKn.out)) _ (by decide); (with_reducible repeat (first | apply JS.drewN | apply JS.drew | apply JS.alloc)); exact HJ.out)
    have n_HK := at_world hHeld.1 (F := fun Y => JK w Y) (by (with_reducible repeat (first | apply JK.drewN | apply JK.drew | apply JK.alloc)); refine JK.setb ?_ GKn.out _; (with_reducible repeat (first | apply JK.drewN | apply JK.drew | apply JK.alloc)); exact HK.out)
    have n_BKj := at_world hHeld.1 (F := fun Y => Y.heap[gbj]? = some (.cells #[.pointer (some ⟨g, 0, none⟩)] 34 (0, 0))) (by (with_reducible repeat (first | refine blk_drewN ?_ _ | refine blk_drew ?_ | refine blk_alloc ?_ _)); refine blk_far ?_ NBj_n.out _; (with_reducible repeat (first | refine blk_drewN ?_ _ | refine blk_drew ?_ | refine blk_alloc ?_ _)); exact BKj.out)
    have n_BKd := at_world hHeld.1 (F := fun Y => Y.heap[gbd]? = some (.cells #[.string x0] 9 (0, 0))) (by (with_reducible repeat (first | refine blk_drewN ?_ _ | refine blk_drew ?_ | refine blk_alloc ?_ _)); refine blk_far ?_ NBd_n.out _; (with_reducible repeat (first | refine blk_drewN ?_ _ | refine blk_drew ?_ | refine blk_alloc ?_ _)); exact BKd.out)
    have n_BKt := at_world hHeld.1 (F := fun Y => Y.heap[gbt]? = some (.cells #[.string x0, .string x1, .string x2, .string x3, .string x4] 23 (0, 0))) (by (with_reducible repeat (first | refine blk_drewN ?_ _ | refine blk_drew ?_ | refine blk_alloc ?_ _)); refine blk_far ?_ NBt_n.out _; (with_reducible repeat (first | refine blk_drewN ?_ _ | refine blk_drew ?_ | refine blk_alloc ?_ _)); exact BKt.out)
    have n_BKn := at_world hHeld.1 (F := fun Y => Y.heap[gbn]? = some (.cells #[.int .i64 N] 3 (0, 0))) (by (with_reducible repeat (first | refine blk_drewN ?_ _ | refine blk_drew ?_ | refine blk_alloc ?_ _)); refine blk_put (cs := #[.int .i64 0]) ?_ 0 _ rfl; (with_reducible repeat (first | refine blk_drewN ?_ _ | refine blk_drew ?_ | refine blk_alloc ?_ _)); exact BKn.out)
    clear HJ HK BKj BKd BKt BKn
    have HJ := n_HJ
    have HK := n_HK
    have BKj := n_BKj
    have BKd := n_BKd
    have BKt := n_BKt
    have BKn := n_BKn
    clear n_HJ n_HK n_BKj n_BKd n_BKt n_BKn
    refine take_ (i := 0) (N := some 24) (v := ?_) (a' := ?_) #[true, false, false, false, false] rfl rfl (by kernel_rfl) (fun c a w h => panic_put (t := 6) (N := 24) rfl (by decide) c a _ w h) (Or.inl ⟨by rfl, ?_⟩) hHeld ?_ ?_
    rotate_left
    · rintro w' ⟨s0, s1⟩
      have t0_0 : w'.cell? ⟨gbj, 0, none⟩ = some (.pointer (some ⟨g, 0, none⟩)) := (blk_cell (HeldC.blk s0) 0).trans rfl
      have t1_0 : w'.cell? ⟨gbd, 0, none⟩ = some (.string x0) := (blk_cell (HeldC.blk s1) 0).trans rfl
      go_simp
      with_reducible rfl
    rotate_left
    · simp only [Act.put, List.setIfInBounds_toArray, List.set_cons_zero, List.set_cons_succ, i64_w, i32_w]
      rfl
    refine take_ (i := 1) (N := some 25) (v := ?_) (a' := ?_) #[true, true, false, false, false] rfl rfl (by kernel_rfl) (fun c a w h => panic_put (t := 6) (N := 25) rfl (by decide) c a _ w h) (Or.inl ⟨by rfl, ?_⟩) hHeld ?_ ?_
    rotate_left
    · rintro w' ⟨s0, s1⟩
      have t0_0 : w'.cell? ⟨gbj, 0, none⟩ = some (.pointer (some ⟨g, 0, none⟩)) := (blk_cell (HeldC.blk s0) 0).trans rfl
      have t1_0 : w'.cell? ⟨gbd, 0, none⟩ = some (.string x0) := (blk_cell (HeldC.blk s1) 0).trans rfl
      go_simp
      with_reducible rfl
    rotate_left
    · simp only [Act.put, List.setIfInBounds_toArray, List.set_cons_zero, List.set_cons_succ, i64_w, i32_w]
      rfl
    refine pure_ (i := 2) (N := some 26) (v := ?_) (a' := ?_) #[true, true, true, false, false] rfl rfl (by kernel_rfl) (fun c a w h => panic_put (t := 6) (N := 26) rfl (by decide) c a _ w h) (Or.inl ⟨by rfl, ?_⟩) ?_ ?_
    rotate_left
    · intro w'
      go_simp
      with_reducible rfl
    rotate_left
    · simp only [Act.put, List.setIfInBounds_toArray, List.set_cons_zero, List.set_cons_succ, i64_w, i32_w]
      rfl
    refine one_ (i := 3) (N := some 27) #[true, true, true, true, false] rfl rfl (by kernel_rfl) (by decide) (fun K hK => ?_)
    refine goes_ Tryz.func21 (by kernel_rfl) rfl #[.string x0, .string x1] (by rfl) rfl rfl (by (try simp only [List.map_toArray, List.map_cons, List.map_nil]); first | done | rfl) ?_
    refine (token_key.calls k1 x0 x1 kA _ key1).mono ?_
    rintro e w3 ⟨rfl, hb⟩
    refine ⟨_, rfl, ?_⟩
    have n_HK := Aside0.mk (HK.out.trans (JK.of_below hb))
    have n_HJ := Aside0.mk (JS.below (base := base) (ok := ok) (w0 := w0) (g := g) (cur := cur) (by first | exact HJ.out | ((with_reducible repeat (first | apply JS.drewN | apply JS.drew | apply JS.alloc)); exact HJ.out)) hb)
    have n_BKj := Aside0.mk (blk_below (g := gbj) (o := .cells #[.pointer (some ⟨g, 0, none⟩)] 34 (0, 0)) (by first | exact BKj.out | ((with_reducible repeat (first | refine blk_drewN ?_ _ | refine blk_drew ?_ | refine blk_alloc ?_ _)); exact BKj.out)) hb)
    have n_BKd := Aside0.mk (blk_below (g := gbd) (o := .cells #[.string x0] 9 (0, 0)) (by first | exact BKd.out | ((with_reducible repeat (first | refine blk_drewN ?_ _ | refine blk_drew ?_ | refine blk_alloc ?_ _)); exact BKd.out)) hb)
    have n_BKt := Aside0.mk (blk_below (g := gbt) (o := .cells #[.string x0, .string x1, .string x2, .string x3, .string x4] 23 (0, 0)) (by first | exact BKt.out | ((with_reducible repeat (first | refine blk_drewN ?_ _ | refine blk_drew ?_ | refine blk_alloc ?_ _)); exact BKt.out)) hb)
    have n_BKn := Aside0.mk (blk_below (g := gbn) (o := .cells #[.int .i64 N] 3 (0, 0)) (by first | exact BKn.out | ((with_reducible repeat (first | refine blk_drewN ?_ _ | refine blk_drew ?_ | refine blk_alloc ?_ _)); exact BKn.out)) hb)
    clear HK HJ BKj BKd BKt BKn
    have HK := n_HK
    have HJ := n_HJ
    have BKj := n_BKj
    have BKd := n_BKd
    have BKt := n_BKt
    have BKn := n_BKn
    clear n_HK n_HJ n_BKj n_BKd n_BKt n_BKn
    clear hb
    refine hK.out _ _ ⟨HeldC.of BKj.out, HeldC.of BKd.out⟩ (fun hHeld => ?_)
    clear hK K
    refine norm_ (a' := ?_) ?_ ?_
    rotate_left
    · show Act.put _ (some 27) _ = _
      simp only [Act.put, List.setIfInBounds_toArray, List.set_cons_zero, List.set_cons_succ, i64_w, i32_w]
      rfl
    refine one_ (i := 4) (N := some 28) #[true, true, true, true, true] rfl rfl (by kernel_rfl) (by decide) (fun K hK => ?_)
    refine goes_ Tryz.func30 (by kernel_rfl) rfl #[.pointer (some ⟨g, 0, none⟩), .string kA] (by rfl) rfl rfl (by (try simp only [List.map_toArray, List.map_cons, List.map_nil]); first | done | rfl) ?_
    refine (js_del kA HJ.out hk2).mono ?_
    rintro e w4 ⟨rfl, hj, hk⟩
    refine ⟨_, rfl, ?_⟩
    have n_HK := Aside0.mk (HK.out.trans hk)
    have n_HJ := Aside0.mk (hj)
    have n_BKj := Aside0.mk (JK.blk (b := gbj) (c := #[.pointer (some ⟨g, 0, none⟩)]) (q := 34) (x := (0, 0)) hk (by first | exact BKj.out | ((with_reducible repeat (first | refine blk_drewN ?_ _ | refine blk_drew ?_ | refine blk_alloc ?_ _)); exact BKj.out)) (by decide))
    have n_BKd := Aside0.mk (JK.blk (b := gbd) (c := #[.string x0]) (q := 9) (x := (0, 0)) hk (by first | exact BKd.out | ((with_reducible repeat (first | refine blk_drewN ?_ _ | refine blk_drew ?_ | refine blk_alloc ?_ _)); exact BKd.out)) (by decide))
    have n_BKt := Aside0.mk (JK.blk (b := gbt) (c := #[.string x0, .string x1, .string x2, .string x3, .string x4]) (q := 23) (x := (0, 0)) hk (by first | exact BKt.out | ((with_reducible repeat (first | refine blk_drewN ?_ _ | refine blk_drew ?_ | refine blk_alloc ?_ _)); exact BKt.out)) (by decide))
    have n_BKn := Aside0.mk (JK.blk (b := gbn) (c := #[.int .i64 N]) (q := 3) (x := (0, 0)) hk (by first | exact BKn.out | ((with_reducible repeat (first | refine blk_drewN ?_ _ | refine blk_drew ?_ | refine blk_alloc ?_ _)); exact BKn.out)) (by decide))
    clear HK HJ BKj BKd BKt BKn
    have HK := n_HK
    have HJ := n_HJ
    have BKj := n_BKj
    have BKd := n_BKd
    have BKt := n_BKt
    have BKn := n_BKn
    clear n_HK n_HJ n_BKj n_BKd n_BKt n_BKn
    clear hj hk
    refine hK.out _ _ ⟨HeldC.of BKj.out, HeldC.of BKd.out⟩ (fun hHeld => ?_)
    clear hK K
    refine norm_ (a' := ?_) ?_ ?_
    rotate_left
    · show Act.put _ (some 28) _ = _
      simp only [Act.put, List.setIfInBounds_toArray, List.set_cons_zero, List.set_cons_succ, i64_w, i32_w]
      rfl
    refine done_ (by kernel_rfl) ?_
    clear hHeld
    go_upto_region 7 with (fail)
    refine start_ (n := 4) (S := fun w' => HeldC gbj #[.pointer (some ⟨g, 0, none⟩)] 34 w' ∧ HeldC gbt #[.string x0, .string x1, .string x2, .string x3, .string x4] 23 w') (ds := []) #[false, false, false, false] (by kernel_rfl) rfl rfl ⟨HeldC.of (by first | exact BKj.out | ((with_reducible repeat (first | refine blk_drewN ?_ _ | refine blk_drew ?_ | refine blk_alloc ?_ _)); exact BKj.out)), HeldC.of (by first | exact BKt.out | ((with_reducible repeat (first | refine blk_drewN ?_ _ | refine blk_drew ?_ | refine blk_alloc ?_ _)); exact BKt.out))⟩ (fun hHeld => ?_)
    have n_HJ := at_world hHeld.1 (F := fun Y => JS base ok w0 g (delK cur kA) Y) (by first | exact HJ.out | ((with_reducible repeat (first | apply JS.drewN | apply JS.drew | apply JS.alloc)); exact HJ.out))
    have n_HK := at_world hHeld.1 (F := fun Y => JK w Y) (by first | exact HK.out | ((with_reducible repeat (first | apply JK.drewN | apply JK.drew | apply JK.alloc)); exact HK.out))
    have n_BKj := at_world hHeld.1 (F := fun Y => Y.heap[gbj]? = some (.cells #[.pointer (some ⟨g, 0, none⟩)] 34 (0, 0))) (by first | exact BKj.out | ((with_reducible repeat (first | refine blk_drewN ?_ _ | refine blk_drew ?_ | refine blk_alloc ?_ _)); exact BKj.out))
    have n_BKd := at_world hHeld.1 (F := fun Y => Y.heap[gbd]? = some (.cells #[.string x0] 9 (0, 0))) (by first | exact BKd.out | ((with_reducible repeat (first | refine blk_drewN ?_ _ | refine blk_drew ?_ | refine blk_alloc ?_ _)); exact BKd.out))
    have n_BKt := at_world hHeld.1 (F := fun Y => Y.heap[gbt]? = some (.cells #[.string x0, .string x1, .string x2, .string x3, .string x4] 23 (0, 0))) (by first | exact BKt.out | ((with_reducible repeat (first | refine blk_drewN ?_ _ | refine blk_drew ?_ | refine blk_alloc ?_ _)); exact BKt.out))
    have n_BKn := at_world hHeld.1 (F := fun Y => Y.heap[gbn]? = some (.cells #[.int .i64 N] 3 (0, 0))) (by first | exact BKn.out | ((with_reducible repeat (first | refine blk_drewN ?_ _ | refine blk_drew ?_ | refine blk_alloc ?_ _)); exact BKn.out))
    clear HJ HK BKj BKd BKt BKn
    have HJ := n_HJ
    have HK := n_HK
    have BKj := n_BKj
    have BKd := n_BKd
    have BKt := n_BKt
    have BKn := n_BKn
    clear n_HJ n_HK n_BKj n_BKd n_BKt n_BKn
    refine take_ (i := 0) (N := some 29) (v := ?_) (a' := ?_) #[true, false, false, false] rfl rfl (by kernel_rfl) (fun c a w h => panic_put (t := 6) (N := 29) rfl (by decide) c a _ w h) (Or.inl ⟨by rfl, ?_⟩) hHeld ?_ ?_
    rotate_left
    · rintro w' ⟨s0, s1⟩
      have t0_0 : w'.cell? ⟨gbj, 0, none⟩ = some (.pointer (some ⟨g, 0, none⟩)) := (blk_cell (HeldC.blk s0) 0).trans rfl
      have t1_0 : w'.cell? ⟨gbt, 0, none⟩ = some (.string x0) := (blk_cell (HeldC.blk s1) 0).trans rfl
      have t1_1 : w'.cell? ⟨gbt, 1, none⟩ = some (.string x1) := (blk_cell (HeldC.blk s1) 1).trans rfl
      have t1_2 : w'.cell? ⟨gbt, 2, none⟩ = some (.string x2) := (blk_cell (HeldC.blk s1) 2).trans rfl
      have t1_3 : w'.cell? ⟨gbt, 3, none⟩ = some (.string x3) := (blk_cell (HeldC.blk s1) 3).trans rfl
      have t1_4 : w'.cell? ⟨gbt, 4, none⟩ = some (.string x4) := (blk_cell (HeldC.blk s1) 4).trans rfl
      go_simp
      with_reducible rfl
    rotate_left
    · simp only [Act.put, List.setIfInBounds_toArray, List.set_cons_zero, List.set_cons_succ, i64_w, i32_w]
      rfl
    refine take_ (i := 1) (N := some 30) (v := ?_) (a' := ?_) #[true, true, false, false] rfl rfl (by kernel_rfl) (fun c a w h => panic_put (t := 6) (N := 30) rfl (by decide) c a _ w h) (Or.inl ⟨by rfl, ?_⟩) hHeld ?_ ?_
    rotate_left
    · rintro w' ⟨s0, s1⟩
      have t0_0 : w'.cell? ⟨gbj, 0, none⟩ = some (.pointer (some ⟨g, 0, none⟩)) := (blk_cell (HeldC.blk s0) 0).trans rfl
      have t1_0 : w'.cell? ⟨gbt, 0, none⟩ = some (.string x0) := (blk_cell (HeldC.blk s1) 0).trans rfl
      have t1_1 : w'.cell? ⟨gbt, 1, none⟩ = some (.string x1) := (blk_cell (HeldC.blk s1) 1).trans rfl
      have t1_2 : w'.cell? ⟨gbt, 2, none⟩ = some (.string x2) := (blk_cell (HeldC.blk s1) 2).trans rfl
      have t1_3 : w'.cell? ⟨gbt, 3, none⟩ = some (.string x3) := (blk_cell (HeldC.blk s1) 3).trans rfl
      have t1_4 : w'.cell? ⟨gbt, 4, none⟩ = some (.string x4) := (blk_cell (HeldC.blk s1) 4).trans rfl
      go_simp
      with_reducible rfl
    rotate_left
    · simp only [Act.put, List.setIfInBounds_toArray, List.set_cons_zero, List.set_cons_succ, i64_w, i32_w]
      rfl
    refine one_ (i := 2) (N := some 31) #[true, true, true, false] rfl rfl (by kernel_rfl) (by decide) (fun K hK => ?_)
    refine goes_ Tryz.func31 (by kernel_rfl) rfl #[.agg #[.string x0, .string x1, .string x2, .string x3, .string x4]] (by rfl) rfl rfl (by (try simp only [List.map_toArray, List.map_cons, List.map_nil]); first | done | rfl) ?_
    refine (token_own.calls k2 x0 x1 x2 x3 x4 kB _ key2).mono ?_
    rintro e w5 ⟨rfl, hb⟩
    refine ⟨_, rfl, ?_⟩
    have n_HK := Aside0.mk (HK.out.trans (JK.of_below hb))
    have n_HJ := Aside0.mk (JS.below (base := base) (ok := ok) (w0 := w0) (g := g) (cur := (delK cur kA)) (by first | exact HJ.out | ((with_reducible repeat (first | apply JS.drewN | apply JS.drew | apply JS.alloc)); exact HJ.out)) hb)
    have n_BKj := Aside0.mk (blk_below (g := gbj) (o := .cells #[.pointer (some ⟨g, 0, none⟩)] 34 (0, 0)) (by first | exact BKj.out | ((with_reducible repeat (first | refine blk_drewN ?_ _ | refine blk_drew ?_ | refine blk_alloc ?_ _)); exact BKj.out)) hb)
    have n_BKd := Aside0.mk (blk_below (g := gbd) (o := .cells #[.string x0] 9 (0, 0)) (by first | exact BKd.out | ((with_reducible repeat (first | refine blk_drewN ?_ _ | refine blk_drew ?_ | refine blk_alloc ?_ _)); exact BKd.out)) hb)
    have n_BKt := Aside0.mk (blk_below (g := gbt) (o := .cells #[.string x0, .string x1, .string x2, .string x3, .string x4] 23 (0, 0)) (by first | exact BKt.out | ((with_reducible repeat (first | refine blk_drewN ?_ _ | refine blk_drew ?_ | refine blk_alloc ?_ _)); exact BKt.out)) hb)
    have n_BKn := Aside0.mk (blk_below (g := gbn) (o := .cells #[.int .i64 N] 3 (0, 0)) (by first | exact BKn.out | ((with_reducible repeat (first | refine blk_drewN ?_ _ | refine blk_drew ?_ | refine blk_alloc ?_ _)); exact BKn.out)) hb)
    clear HK HJ BKj BKd BKt BKn
    have HK := n_HK
    have HJ := n_HJ
    have BKj := n_BKj
    have BKd := n_BKd
    have BKt := n_BKt
    have BKn := n_BKn
    clear n_HK n_HJ n_BKj n_BKd n_BKt n_BKn
    clear hb
    refine hK.out _ _ ⟨HeldC.of BKj.out, HeldC.of BKt.out⟩ (fun hHeld => ?_)
    clear hK K
    refine norm_ (a' := ?_) ?_ ?_
    rotate_left
    · show Act.put _ (some 31) _ = _
      simp only [Act.put, List.setIfInBounds_toArray, List.set_cons_zero, List.set_cons_succ, i64_w, i32_w]
      rfl
    refine one_ (i := 3) (N := some 32) #[true, true, true, true] rfl rfl (by kernel_rfl) (by decide) (fun K hK => ?_)
    refine goes_ Tryz.func30 (by kernel_rfl) rfl #[.pointer (some ⟨g, 0, none⟩), .string kB] (by rfl) rfl rfl (by (try simp only [List.map_toArray, List.map_cons, List.map_nil]); first | done | rfl) ?_
    refine (js_del kB HJ.out hkA).mono ?_
    rintro e w6 ⟨rfl, hj, hk⟩
    refine ⟨_, rfl, ?_⟩
    have n_HK := Aside0.mk (HK.out.trans hk)
    have n_HJ := Aside0.mk (hj)
    have n_BKj := Aside0.mk (JK.blk (b := gbj) (c := #[.pointer (some ⟨g, 0, none⟩)]) (q := 34) (x := (0, 0)) hk (by first | exact BKj.out | ((with_reducible repeat (first | refine blk_drewN ?_ _ | refine blk_drew ?_ | refine blk_alloc ?_ _)); exact BKj.out)) (by decide))
    have n_BKd := Aside0.mk (JK.blk (b := gbd) (c := #[.string x0]) (q := 9) (x := (0, 0)) hk (by first | exact BKd.out | ((with_reducible repeat (first | refine blk_drewN ?_ _ | refine blk_drew ?_ | refine blk_alloc ?_ _)); exact BKd.out)) (by decide))
    have n_BKt := Aside0.mk (JK.blk (b := gbt) (c := #[.string x0, .string x1, .string x2, .string x3, .string x4]) (q := 23) (x := (0, 0)) hk (by first | exact BKt.out | ((with_reducible repeat (first | refine blk_drewN ?_ _ | refine blk_drew ?_ | refine blk_alloc ?_ _)); exact BKt.out)) (by decide))
    have n_BKn := Aside0.mk (JK.blk (b := gbn) (c := #[.int .i64 N]) (q := 3) (x := (0, 0)) hk (by first | exact BKn.out | ((with_reducible repeat (first | refine blk_drewN ?_ _ | refine blk_drew ?_ | refine blk_alloc ?_ _)); exact BKn.out)) (by decide))
    clear HK HJ BKj BKd BKt BKn
    have HK := n_HK
    have HJ := n_HJ
    have BKj := n_BKj
    have BKd := n_BKd
    have BKt := n_BKt
    have BKn := n_BKn
    clear n_HK n_HJ n_BKj n_BKd n_BKt n_BKn
    clear hj hk
    refine hK.out _ _ ⟨HeldC.of BKj.out, HeldC.of BKt.out⟩ (fun hHeld => ?_)
    clear hK K
    refine norm_ (a' := ?_) ?_ ?_
    rotate_left
    · show Act.put _ (some 32) _ = _
      simp only [Act.put, List.setIfInBounds_toArray, List.set_cons_zero, List.set_cons_succ, i64_w, i32_w]
      rfl
    refine done_ (by kernel_rfl) ?_
    clear hHeld
    go_upto_region 8 with (fail)
    refine start_ (n := 5) (S := fun w' => HeldC gbj #[.pointer (some ⟨g, 0, none⟩)] 34 w' ∧ HeldC gbd #[.string x0] 9 w') (ds := []) #[false, false, false, false, false] (by kernel_rfl) rfl rfl ⟨HeldC.of (by first | exact BKj.out | ((with_reducible repeat (first | refine blk_drewN ?_ _ | refine blk_drew ?_ | refine blk_alloc ?_ _)); exact BKj.out)), HeldC.of (by first | exact BKd.out | ((with_reducible repeat (first | refine blk_drewN ?_ _ | refine blk_drew ?_ | refine blk_alloc ?_ _)); exact BKd.out))⟩ (fun hHeld => ?_)
    have n_HJ := at_world hHeld.1 (F := fun Y => JS base ok w0 g (delK (delK cur kA) kB) Y) (by first | exact HJ.out | ((with_reducible repeat (first | apply JS.drewN | apply JS.drew | apply JS.alloc)); exact HJ.out))
    have n_HK := at_world hHeld.1 (F := fun Y => JK w Y) (by first | exact HK.out | ((with_reducible repeat (first | apply JK.drewN | apply JK.drew | apply JK.alloc)); exact HK.out))
    have n_BKj := at_world hHeld.1 (F := fun Y => Y.heap[gbj]? = some (.cells #[.pointer (some ⟨g, 0, none⟩)] 34 (0, 0))) (by first | exact BKj.out | ((with_reducible repeat (first | refine blk_drewN ?_ _ | refine blk_drew ?_ | refine blk_alloc ?_ _)); exact BKj.out))
    have n_BKd := at_world hHeld.1 (F := fun Y => Y.heap[gbd]? = some (.cells #[.string x0] 9 (0, 0))) (by first | exact BKd.out | ((with_reducible repeat (first | refine blk_drewN ?_ _ | refine blk_drew ?_ | refine blk_alloc ?_ _)); exact BKd.out))
    have n_BKt := at_world hHeld.1 (F := fun Y => Y.heap[gbt]? = some (.cells #[.string x0, .string x1, .string x2, .string x3, .string x4] 23 (0, 0))) (by first | exact BKt.out | ((with_reducible repeat (first | refine blk_drewN ?_ _ | refine blk_drew ?_ | refine blk_alloc ?_ _)); exact BKt.out))
    have n_BKn := at_world hHeld.1 (F := fun Y => Y.heap[gbn]? = some (.cells #[.int .i64 N] 3 (0, 0))) (by first | exact BKn.out | ((with_reducible repeat (first | refine blk_drewN ?_ _ | refine blk_drew ?_ | refine blk_alloc ?_ _)); exact BKn.out))
    clear HJ HK BKj BKd BKt BKn
    have HJ := n_HJ
    have HK := n_HK
    have BKj := n_BKj
    have BKd := n_BKd
    have BKt := n_BKt
    have BKn := n_BKn
    clear n_HJ n_HK n_BKj n_BKd n_BKt n_BKn
    refine take_ (i := 0) (N := some 33) (v := ?_) (a' := ?_) #[true, false, false, false, false] rfl rfl (by kernel_rfl) (fun c a w h => panic_put (t := 6) (N := 33) rfl (by decide) c a _ w h) (Or.inl ⟨by rfl, ?_⟩) hHeld ?_ ?_
    rotate_left
    · rintro w' ⟨s0, s1⟩
      have t0_0 : w'.cell? ⟨gbj, 0, none⟩ = some (.pointer (some ⟨g, 0, none⟩)) := (blk_cell (HeldC.blk s0) 0).trans rfl
      have t1_0 : w'.cell? ⟨gbd, 0, none⟩ = some (.string x0) := (blk_cell (HeldC.blk s1) 0).trans rfl
      go_simp
      with_reducible rfl
    rotate_left
    · simp only [Act.put, List.setIfInBounds_toArray, List.set_cons_zero, List.set_cons_succ, i64_w, i32_w]
      rfl
    refine take_ (i := 1) (N := some 34) (v := ?_) (a' := ?_) #[true, true, false, false, false] rfl rfl (by kernel_rfl) (fun c a w h => panic_put (t := 6) (N := 34) rfl (by decide) c a _ w h) (Or.inl ⟨by rfl, ?_⟩) hHeld ?_ ?_
    rotate_left
    · rintro w' ⟨s0, s1⟩
      have t0_0 : w'.cell? ⟨gbj, 0, none⟩ = some (.pointer (some ⟨g, 0, none⟩)) := (blk_cell (HeldC.blk s0) 0).trans rfl
      have t1_0 : w'.cell? ⟨gbd, 0, none⟩ = some (.string x0) := (blk_cell (HeldC.blk s1) 0).trans rfl
      go_simp
      with_reducible rfl
    rotate_left
    · simp only [Act.put, List.setIfInBounds_toArray, List.set_cons_zero, List.set_cons_succ, i64_w, i32_w]
      rfl
    refine pure_ (i := 2) (N := some 35) (v := ?_) (a' := ?_) #[true, true, true, false, false] rfl rfl (by kernel_rfl) (fun c a w h => panic_put (t := 6) (N := 35) rfl (by decide) c a _ w h) (Or.inl ⟨by rfl, ?_⟩) ?_ ?_
    rotate_left
    · intro w'
      go_simp
      with_reducible rfl
    rotate_left
    · simp only [Act.put, List.setIfInBounds_toArray, List.set_cons_zero, List.set_cons_succ, i64_w, i32_w]
      rfl
    refine one_ (i := 3) (N := some 36) #[true, true, true, true, false] rfl rfl (by kernel_rfl) (by decide) (fun K hK => ?_)
    refine goes_ Tryz.func32 (by kernel_rfl) rfl #[.string x0, .string x1] (by rfl) rfl rfl (by (try simp only [List.map_toArray, List.map_cons, List.map_nil]); first | done | rfl) ?_
    refine (token_may.calls k3 x0 x1 kC _ key3).mono ?_
    rintro e w7 ⟨rfl, hb⟩
    refine ⟨_, rfl, ?_⟩
    have n_HK := Aside0.mk (HK.out.trans (JK.of_below hb))
    have n_HJ := Aside0.mk (JS.below (base := base) (ok := ok) (w0 := w0) (g := g) (cur := (delK (delK cur kA) kB)) (by first | exact HJ.out | ((with_reducible repeat (first | apply JS.drewN | apply JS.drew | apply JS.alloc)); exact HJ.out)) hb)
    have n_BKj := Aside0.mk (blk_below (g := gbj) (o := .cells #[.pointer (some ⟨g, 0, none⟩)] 34 (0, 0)) (by first | exact BKj.out | ((with_reducible repeat (first | refine blk_drewN ?_ _ | refine blk_drew ?_ | refine blk_alloc ?_ _)); exact BKj.out)) hb)
    have n_BKd := Aside0.mk (blk_below (g := gbd) (o := .cells #[.string x0] 9 (0, 0)) (by first | exact BKd.out | ((with_reducible repeat (first | refine blk_drewN ?_ _ | refine blk_drew ?_ | refine blk_alloc ?_ _)); exact BKd.out)) hb)
    have n_BKt := Aside0.mk (blk_below (g := gbt) (o := .cells #[.string x0, .string x1, .string x2, .string x3, .string x4] 23 (0, 0)) (by first | exact BKt.out | ((with_reducible repeat (first | refine blk_drewN ?_ _ | refine blk_drew ?_ | refine blk_alloc ?_ _)); exact BKt.out)) hb)
    have n_BKn := Aside0.mk (blk_below (g := gbn) (o := .cells #[.int .i64 N] 3 (0, 0)) (by first | exact BKn.out | ((with_reducible repeat (first | refine blk_drewN ?_ _ | refine blk_drew ?_ | refine blk_alloc ?_ _)); exact BKn.out)) hb)
    clear HK HJ BKj BKd BKt BKn
    have HK := n_HK
    have HJ := n_HJ
    have BKj := n_BKj
    have BKd := n_BKd
    have BKt := n_BKt
    have BKn := n_BKn
    clear n_HK n_HJ n_BKj n_BKd n_BKt n_BKn
    clear hb
    refine hK.out _ _ ⟨HeldC.of BKj.out, HeldC.of BKd.out⟩ (fun hHeld => ?_)
    clear hK K
    refine norm_ (a' := ?_) ?_ ?_
    rotate_left
    · show Act.put _ (some 36) _ = _
      simp only [Act.put, List.setIfInBounds_toArray, List.set_cons_zero, List.set_cons_succ, i64_w, i32_w]
      rfl
    refine one_ (i := 4) (N := some 37) #[true, true, true, true, true] rfl rfl (by kernel_rfl) (by decide) (fun K hK => ?_)
    refine goes_ Tryz.func30 (by kernel_rfl) rfl #[.pointer (some ⟨g, 0, none⟩), .string kC] (by rfl) rfl rfl (by (try simp only [List.map_toArray, List.map_cons, List.map_nil]); first | done | rfl) ?_
    refine (js_del kC HJ.out hkB).mono ?_
    rintro e w8 ⟨rfl, hj, hk⟩
    refine ⟨_, rfl, ?_⟩
    have n_HK := Aside0.mk (HK.out.trans hk)
    have n_HJ := Aside0.mk (hj)
    have n_BKj := Aside0.mk (JK.blk (b := gbj) (c := #[.pointer (some ⟨g, 0, none⟩)]) (q := 34) (x := (0, 0)) hk (by first | exact BKj.out | ((with_reducible repeat (first | refine blk_drewN ?_ _ | refine blk_drew ?_ | refine blk_alloc ?_ _)); exact BKj.out)) (by decide))
    have n_BKd := Aside0.mk (JK.blk (b := gbd) (c := #[.string x0]) (q := 9) (x := (0, 0)) hk (by first | exact BKd.out | ((with_reducible repeat (first | refine blk_drewN ?_ _ | refine blk_drew ?_ | refine blk_alloc ?_ _)); exact BKd.out)) (by decide))
    have n_BKt := Aside0.mk (JK.blk (b := gbt) (c := #[.string x0, .string x1, .string x2, .string x3, .string x4]) (q := 23) (x := (0, 0)) hk (by first | exact BKt.out | ((with_reducible repeat (first | refine blk_drewN ?_ _ | refine blk_drew ?_ | refine blk_alloc ?_ _)); exact BKt.out)) (by decide))
    have n_BKn := Aside0.mk (JK.blk (b := gbn) (c := #[.int .i64 N]) (q := 3) (x := (0, 0)) hk (by first | exact BKn.out | ((with_reducible repeat (first | refine blk_drewN ?_ _ | refine blk_drew ?_ | refine blk_alloc ?_ _)); exact BKn.out)) (by decide))
    clear HK HJ BKj BKd BKt BKn
    have HK := n_HK
    have HJ := n_HJ
    have BKj := n_BKj
    have BKd := n_BKd
    have BKt := n_BKt
    have BKn := n_BKn
    clear n_HK n_HJ n_BKj n_BKd n_BKt n_BKn
    clear hj hk
    refine hK.out _ _ ⟨HeldC.of BKj.out, HeldC.of BKd.out⟩ (fun hHeld => ?_)
    clear hK K
    refine norm_ (a' := ?_) ?_ ?_
    rotate_left
    · show Act.put _ (some 37) _ = _
      simp only [Act.put, List.setIfInBounds_toArray, List.set_cons_zero, List.set_cons_succ, i64_w, i32_w]
      rfl
    refine done_ (by kernel_rfl) ?_
    clear hHeld
    subst hcur
    go_wp2
    refine leaves_cons (f := 29) (args := #[.pointer (some ⟨gbj, 0, none⟩), .pointer (some ⟨gbd, 0, none⟩), .pointer (some ⟨gbn, 0, none⟩)]) (by simp) (by simp [go_sem]) ?_
    refine (tk_burn1 gbj gbd gbn x0 N HJ.out hkC hid BKj.out BKd.out BKn.out HW.out).mono ?_
    rintro e u' w9 ⟨rfl, rfl, hj, hk⟩
    exact ⟨_, results_tmp rfl _ _ _, rfl, hj, HK.out.trans hk⟩
  · rw [if_neg z0] at hcur
    subst hcur
    go_wp2_with (first | ((with_reducible refine gate_dst (N := 7) rfl ?_); refine box_event ?hg (N := 7) ?hd (cs := #[.string (⟨#[]⟩ : ByteArray), .string (⟨#[]⟩ : ByteArray), .string (⟨#[]⟩ : ByteArray), .string (⟨#[]⟩ : ByteArray), .string (⟨#[]⟩ : ByteArray)]) (t := 23) ?hr ?_; (case hd => rfl); (case hg => rfl); (case hr => first | (go_simp; done) | (go_simp; rfl)); intro gbt hg wt hbox hb; have GKt := Aside0.mk ((by rw [hg]; exact JK.size (by first | exact HK.out | ((with_reducible repeat (first | apply JK.drewN | apply JK.drew | apply JK.alloc)); exact HK.out)) : w.heap.size ≤ gbt)); have GJt := Aside0.mk ((by rw [hg]; exact JS.size0 (base := base) (ok := ok) (w0 := w0) (g := g) (cur := cur) (by first | exact HJ.out | ((with_reducible repeat (first | apply JS.drewN | apply JS.drew | apply JS.alloc)); exact HJ.out)) : w0.heap.size ≤ gbt)); have NBj_t := Aside0.mk ((by rw [hg]; exact Nat.ne_of_lt (blk_lt (g := gbj) (o := .cells #[.pointer (some ⟨g, 0, none⟩)] 34 (0, 0)) (by first | exact BKj.out | ((with_reducible repeat (first | refine blk_drewN ?_ _ | refine blk_drew ?_ | refine blk_alloc ?_ _)); exact BKj.out))) : gbj ≠ gbt)); have NBt_j := Aside0.mk ((by rw [hg]; exact Nat.ne_of_gt (blk_lt (g := gbj) (o := .cells #[.pointer (some ⟨g, 0, none⟩)] 34 (0, 0)) (by first | exact BKj.out | ((with_reducible repeat (first | refine blk_drewN ?_ _ | refine blk_drew ?_ | refine blk_alloc ?_ _)); exact BKj.out))) : gbt ≠ gbj)); have NBd_t := Aside0.mk ((by rw [hg]; exact Nat.ne_of_lt (blk_lt (g := gbd) (o := .cells #[.string c] 9 (0, 0)) (by first | exact BKd.out | ((with_reducible repeat (first | refine blk_drewN ?_ _ | refine blk_drew ?_ | refine blk_alloc ?_ _)); exact BKd.out))) : gbd ≠ gbt)); have NBt_d := Aside0.mk ((by rw [hg]; exact Nat.ne_of_gt (blk_lt (g := gbd) (o := .cells #[.string c] 9 (0, 0)) (by first | exact BKd.out | ((with_reducible repeat (first | refine blk_drewN ?_ _ | refine blk_drew ?_ | refine blk_alloc ?_ _)); exact BKd.out))) : gbt ≠ gbd)); have n_HK := Aside0.mk (HK.out.trans (JK.of_below hb)); have n_HJ := Aside0.mk (JS.below (base := base) (ok := ok) (w0 := w0) (g := g) (cur := cur) (by first | exact HJ.out | ((with_reducible repeat (first | apply JS.drewN | apply JS.drew | apply JS.alloc)); exact HJ.out)) hb); have n_BKj := Aside0.mk (blk_below (g := gbj) (o := .cells #[.pointer (some ⟨g, 0, none⟩)] 34 (0, 0)) (by first | exact BKj.out | ((with_reducible repeat (first | refine blk_drewN ?_ _ | refine blk_drew ?_ | refine blk_alloc ?_ _)); exact BKj.out)) hb); have n_BKd := Aside0.mk (blk_below (g := gbd) (o := .cells #[.string c] 9 (0, 0)) (by first | exact BKd.out | ((with_reducible repeat (first | refine blk_drewN ?_ _ | refine blk_drew ?_ | refine blk_alloc ?_ _)); exact BKd.out)) hb); clear HK HJ BKj BKd; have HK := n_HK; have HJ := n_HJ; have BKj := n_BKj; have BKd := n_BKd; clear n_HK n_HJ n_BKj n_BKd; have BKt := Aside0.mk hbox; clear hb hbox hg; have zt_0 : World.cell? _ ⟨gbt, 0, none⟩ = some (.string (⟨#[]⟩ : ByteArray)) := (blk_cell BKt.out 0).trans rfl; have ft_0 := blk_frozen BKt.out 0; have zt_1 : World.cell? _ ⟨gbt, 1, none⟩ = some (.string (⟨#[]⟩ : ByteArray)) := (blk_cell BKt.out 1).trans rfl; have ft_1 := blk_frozen BKt.out 1; have zt_2 : World.cell? _ ⟨gbt, 2, none⟩ = some (.string (⟨#[]⟩ : ByteArray)) := (blk_cell BKt.out 2).trans rfl; have ft_2 := blk_frozen BKt.out 2; have zt_3 : World.cell? _ ⟨gbt, 3, none⟩ = some (.string (⟨#[]⟩ : ByteArray)) := (blk_cell BKt.out 3).trans rfl; have ft_3 := blk_frozen BKt.out 3; have zt_4 : World.cell? _ ⟨gbt, 4, none⟩ = some (.string (⟨#[]⟩ : ByteArray)) := (blk_cell BKt.out 4).trans rfl; have ft_4 := blk_frozen BKt.out 4; have hntj := NBt_j.out; have hmtj := NBj_t.out; have hntd := NBt_d.out; have hmtd := NBd_t.out; have zj_0 : World.cell? _ ⟨gbj, 0, none⟩ = some (.pointer (some ⟨g, 0, none⟩)) := (blk_cell BKj.out 0).trans rfl; have fj_0 := blk_frozen BKj.out 0; have hnjd := NBj_d.out; have hmjd := NBd_j.out; have hnjt := NBj_t.out; have hmjt := NBt_j.out; have zd_0 : World.cell? _ ⟨gbd, 0, none⟩ = some (.string c) := (blk_cell BKd.out 0).trans rfl; have fd_0 := blk_frozen BKd.out 0; have hndj := NBd_j.out; have hmdj := NBj_d.out; have hndt := NBd_t.out; have hmdt := NBt_d.out; have zt_0 : World.cell? _ ⟨gbt, 0, none⟩ = some (.string (⟨#[]⟩ : ByteArray)) := (blk_cell BKt.out 0).trans rfl; have ft_0 := blk_frozen BKt.out 0; have zt_1 : World.cell? _ ⟨gbt, 1, none⟩ = some (.string (⟨#[]⟩ : ByteArray)) := (blk_cell BKt.out 1).trans rfl; have ft_1 := blk_frozen BKt.out 1; have zt_2 : World.cell? _ ⟨gbt, 2, none⟩ = some (.string (⟨#[]⟩ : ByteArray)) := (blk_cell BKt.out 2).trans rfl; have ft_2 := blk_frozen BKt.out 2; have zt_3 : World.cell? _ ⟨gbt, 3, none⟩ = some (.string (⟨#[]⟩ : ByteArray)) := (blk_cell BKt.out 3).trans rfl; have ft_3 := blk_frozen BKt.out 3; have zt_4 : World.cell? _ ⟨gbt, 4, none⟩ = some (.string (⟨#[]⟩ : ByteArray)) := (blk_cell BKt.out 4).trans rfl; have ft_4 := blk_frozen BKt.out 4; have hntj := NBt_j.out; have hmtj := NBj_t.out; have hntd := NBt_d.out; have hmtd := NBd_t.out))
    first | exact ⟨_, results_tmp rfl _ _ _, rfl, by (with_reducible repeat (first | apply JS.drewN | apply JS.drew | apply JS.alloc)); refine JS.setb (q := 23) ?_ GJt.out (by (with_reducible repeat (first | refine blk_drewN ?_ _ | refine blk_drew ?_ | refine blk_alloc ?_ _)); refine blk_put (cs := #[.string x0, .string x1, .string x2, .string (⟨#[]⟩ : ByteArray), .string (⟨#[]⟩ : ByteArray)]) ?_ 3 _ rfl; (with_reducible repeat (first | refine blk_drewN ?_ _ | refine blk_drew ?_ | refine blk_alloc ?_ _)); refine blk_put (cs := #[.string x0, .string x1, .string (⟨#[]⟩ : ByteArray), .string (⟨#[]⟩ : ByteArray), .string (⟨#[]⟩ : ByteArray)]) ?_ 2 _ rfl; (with_reducible repeat (first | refine blk_drewN ?_ _ | refine blk_drew ?_ | refine blk_alloc ?_ _)); refine blk_put (cs := #[.string x0, .string (⟨#[]⟩ : ByteArray), .string (⟨#[]⟩ : ByteArray), .string (⟨#[]⟩ : ByteArray), .string (⟨#[]⟩ : ByteArray)]) ?_ 1 _ rfl; (with_reducible repeat (first | refine blk_drewN ?_ _ | refine blk_drew ?_ | refine blk_alloc ?_ _)); refine blk_put (cs := #[.string (⟨#[]⟩ : ByteArray), .string (⟨#[]⟩ : ByteArray), .string (⟨#[]⟩ : ByteArray), .string (⟨#[]⟩ : ByteArray), .string (⟨#[]⟩ : ByteArray)]) ?_ 0 _ rfl; (with_reducible repeat (first | refine blk_drewN ?_ _ | refine blk_drew ?_ | refine blk_alloc ?_ _)); exact BKt.out) _ (by decide); (with_reducible repeat (first | apply JS.drewN | apply JS.drew | apply JS.alloc)); refine JS.setb (q := 23) ?_ GJt.out (by (with_reducible repeat (first | refine blk_drewN ?_ _ | refine blk_drew ?_ | refine blk_alloc ?_ _)); refine blk_put (cs := #[.string x0, .string x1, .string (⟨#[]⟩ : ByteArray), .string (⟨#[]⟩ : ByteArray), .string (⟨#[]⟩ : ByteArray)]) ?_ 2 _ rfl; (with_reducible repeat (first | refine blk_drewN ?_ _ | refine blk_drew ?_ | refine blk_alloc ?_ _)); refine blk_put (cs := #[.string x0, .string (⟨#[]⟩ : ByteArray), .string (⟨#[]⟩ : ByteArray), .string (⟨#[]⟩ : ByteArray), .string (⟨#[]⟩ : ByteArray)]) ?_ 1 _ rfl; (with_reducible repeat (first | refine blk_drewN ?_ _ | refine blk_drew ?_ | refine blk_alloc ?_ _)); refine blk_put (cs := #[.string (⟨#[]⟩ : ByteArray), .string (⟨#[]⟩ : ByteArray), .string (⟨#[]⟩ : ByteArray), .string (⟨#[]⟩ : ByteArray), .string (⟨#[]⟩ : ByteArray)]) ?_ 0 _ rfl; (with_reducible repeat (first | refine blk_drewN ?_ _ | refine blk_drew ?_ | refine blk_alloc ?_ _)); exact BKt.out) _ (by decide); (with_reducible repeat (first | apply JS.drewN | apply JS.drew | apply JS.alloc)); refine JS.setb (q := 23) ?_ GJt.out (by (with_reducible repeat (first | refine blk_drewN ?_ _ | refine blk_drew ?_ | refine blk_alloc ?_ _)); refine blk_put (cs := #[.string x0, .string (⟨#[]⟩ : ByteArray), .string (⟨#[]⟩ : ByteArray), .string (⟨#[]⟩ : ByteArray), .string (⟨#[]⟩ : ByteArray)]) ?_ 1 _ rfl; (with_reducible repeat (first | refine blk_drewN ?_ _ | refine blk_drew ?_ | refine blk_alloc ?_ _)); refine blk_put (cs := #[.string (⟨#[]⟩ : ByteArray), .string (⟨#[]⟩ : ByteArray), .string (⟨#[]⟩ : ByteArray), .string (⟨#[]⟩ : ByteArray), .string (⟨#[]⟩ : ByteArray)]) ?_ 0 _ rfl; (with_reducible repeat (first | refine blk_drewN ?_ _ | refine blk_drew ?_ | refine blk_alloc ?_ _)); exact BKt.out) _ (by decide); (with_reducible repeat (first | apply JS.drewN | apply JS.drew | apply JS.alloc)); refine JS.setb (q := 23) ?_ GJt.out (by (with_reducible repeat (first | refine blk_drewN ?_ _ | refine blk_drew ?_ | refine blk_alloc ?_ _)); refine blk_put (cs := #[.string (⟨#[]⟩ : ByteArray), .string (⟨#[]⟩ : ByteArray), .string (⟨#[]⟩ : ByteArray), .string (⟨#[]⟩ : ByteArray), .string (⟨#[]⟩ : ByteArray)]) ?_ 0 _ rfl; (with_reducible repeat (first | refine blk_drewN ?_ _ | refine blk_drew ?_ | refine blk_alloc ?_ _)); exact BKt.out) _ (by decide); (with_reducible repeat (first | apply JS.drewN | apply JS.drew | apply JS.alloc)); refine JS.setb (q := 23) ?_ GJt.out (by first | exact BKt.out | ((with_reducible repeat (first | refine blk_drewN ?_ _ | refine blk_drew ?_ | refine blk_alloc ?_ _)); exact BKt.out)) _ (by decide); (with_reducible repeat (first | apply JS.drewN | apply JS.drew | apply JS.alloc)); exact HJ.out, by (with_reducible repeat (first | apply JK.drewN | apply JK.drew | apply JK.alloc)); refine JK.setb ?_ GKt.out _; (with_reducible repeat (first | apply JK.drewN | apply JK.drew | apply JK.alloc)); refine JK.setb ?_ GKt.out _; (with_reducible repeat (first | apply JK.drewN | apply JK.drew | apply JK.alloc)); refine JK.setb ?_ GKt.out _; (with_reducible repeat (first | apply JK.drewN | apply JK.drew | apply JK.alloc)); refine JK.setb ?_ GKt.out _; (with_reducible repeat (first | apply JK.drewN | apply JK.drew | apply JK.alloc)); refine JK.setb ?_ GKt.out _; (with_reducible repeat (first | apply JK.drewN | apply JK.drew | apply JK.alloc)); exact HK.out⟩ | (go_ret; exact ⟨rfl, by (with_reducible repeat (first | apply JS.drewN | apply JS.drew | apply JS.alloc)); refine JS.setb (q := 23) ?_ GJt.out (by (with_reducible repeat (first | refine blk_drewN ?_ _ | refine blk_drew ?_ | refine blk_alloc ?_ _)); refine blk_put (cs := #[.string x0, .string x1, .string x2, .string (⟨#[]⟩ : ByteArray), .string (⟨#[]⟩ : ByteArray)]) ?_ 3 _ rfl; (with_reducible repeat (first | refine blk_drewN ?_ _ | refine blk_drew ?_ | refine blk_alloc ?_ _)); refine blk_put (cs := #[.string x0, .string x1, .string (⟨#[]⟩ : ByteArray), .string (⟨#[]⟩ : ByteArray), .string (⟨#[]⟩ : ByteArray)]) ?_ 2 _ rfl; (with_reducible repeat (first | refine blk_drewN ?_ _ | refine blk_drew ?_ | refine blk_alloc ?_ _)); refine blk_put (cs := #[.string x0, .string (⟨#[]⟩ : ByteArray), .string (⟨#[]⟩ : ByteArray), .string (⟨#[]⟩ : ByteArray), .string (⟨#[]⟩ : ByteArray)]) ?_ 1 _ rfl; (with_reducible repeat (first | refine blk_drewN ?_ _ | refine blk_drew ?_ | refine blk_alloc ?_ _)); refine blk_put (cs := #[.string (⟨#[]⟩ : ByteArray), .string (⟨#[]⟩ : ByteArray), .string (⟨#[]⟩ : ByteArray), .string (⟨#[]⟩ : ByteArray), .string (⟨#[]⟩ : ByteArray)]) ?_ 0 _ rfl; (with_reducible repeat (first | refine blk_drewN ?_ _ | refine blk_drew ?_ | refine blk_alloc ?_ _)); exact BKt.out) _ (by decide); (with_reducible repeat (first | apply JS.drewN | apply JS.drew | apply JS.alloc)); refine JS.setb (q := 23) ?_ GJt.out (by (with_reducible repeat (first | refine blk_drewN ?_ _ | refine blk_drew ?_ | refine blk_alloc ?_ _)); refine blk_put (cs := #[.string x0, .string x1, .string (⟨#[]⟩ : ByteArray), .string (⟨#[]⟩ : ByteArray), .string (⟨#[]⟩ : ByteArray)]) ?_ 2 _ rfl; (with_reducible repeat (first | refine blk_drewN ?_ _ | refine blk_drew ?_ | refine blk_alloc ?_ _)); refine blk_put (cs := #[.string x0, .string (⟨#[]⟩ : ByteArray), .string (⟨#[]⟩ : ByteArray), .string (⟨#[]⟩ : ByteArray), .string (⟨#[]⟩ : ByteArray)]) ?_ 1 _ rfl; (with_reducible repeat (first | refine blk_drewN ?_ _ | refine blk_drew ?_ | refine blk_alloc ?_ _)); refine blk_put (cs := #[.string (⟨#[]⟩ : ByteArray), .string (⟨#[]⟩ : ByteArray), .string (⟨#[]⟩ : ByteArray), .string (⟨#[]⟩ : ByteArray), .string (⟨#[]⟩ : ByteArray)]) ?_ 0 _ rfl; (with_reducible repeat (first | refine blk_drewN ?_ _ | refine blk_drew ?_ | refine blk_alloc ?_ _)); exact BKt.out) _ (by decide); (with_reducible repeat (first | apply JS.drewN | apply JS.drew | apply JS.alloc)); refine JS.setb (q := 23) ?_ GJt.out (by (with_reducible repeat (first | refine blk_drewN ?_ _ | refine blk_drew ?_ | refine blk_alloc ?_ _)); refine blk_put (cs := #[.string x0, .string (⟨#[]⟩ : ByteArray), .string (⟨#[]⟩ : ByteArray), .string (⟨#[]⟩ : ByteArray), .string (⟨#[]⟩ : ByteArray)]) ?_ 1 _ rfl; (with_reducible repeat (first | refine blk_drewN ?_ _ | refine blk_drew ?_ | refine blk_alloc ?_ _)); refine blk_put (cs := #[.string (⟨#[]⟩ : ByteArray), .string (⟨#[]⟩ : ByteArray), .string (⟨#[]⟩ : ByteArray), .string (⟨#[]⟩ : ByteArray), .string (⟨#[]⟩ : ByteArray)]) ?_ 0 _ rfl; (with_reducible repeat (first | refine blk_drewN ?_ _ | refine blk_drew ?_ | refine blk_alloc ?_ _)); exact BKt.out) _ (by decide); (with_reducible repeat (first | apply JS.drewN | apply JS.drew | apply JS.alloc)); refine JS.setb (q := 23) ?_ GJt.out (by (with_reducible repeat (first | refine blk_drewN ?_ _ | refine blk_drew ?_ | refine blk_alloc ?_ _)); refine blk_put (cs := #[.string (⟨#[]⟩ : ByteArray), .string (⟨#[]⟩ : ByteArray), .string (⟨#[]⟩ : ByteArray), .string (⟨#[]⟩ : ByteArray), .string (⟨#[]⟩ : ByteArray)]) ?_ 0 _ rfl; (with_reducible repeat (first | refine blk_drewN ?_ _ | refine blk_drew ?_ | refine blk_alloc ?_ _)); exact BKt.out) _ (by decide); (with_reducible repeat (first | apply JS.drewN | apply JS.drew | apply JS.alloc)); refine JS.setb (q := 23) ?_ GJt.out (by first | exact BKt.out | ((with_reducible repeat (first | refine blk_drewN ?_ _ | refine blk_drew ?_ | refine blk_alloc ?_ _)); exact BKt.out)) _ (by decide); (with_reducible repeat (first | apply JS.drewN | apply JS.drew | apply JS.alloc)); exact HJ.out, by (with_reducible repeat (first | apply JK.drewN | apply JK.drew | apply JK.alloc)); refine JK.setb ?_ GKt.out _; (with_reducible repeat (first | apply JK.drewN | apply JK.drew | apply JK.alloc)); refine JK.setb ?_ GKt.out _; (with_reducible repeat (first | apply JK.drewN | apply JK.drew | apply JK.alloc)); refine JK.setb ?_ GKt.out _; (with_reducible repeat (first | apply JK.drewN | apply JK.drew | apply JK.alloc)); refine JK.setb ?_ GKt.out _; (with_reducible repeat (first | apply JK.drewN | apply JK.drew | apply JK.alloc)); refine JK.setb ?_ GKt.out _; (with_reducible repeat (first | apply JK.drewN | apply JK.drew | apply JK.alloc)); exact HK.out⟩)
set_option maxHeartbeats 8000000 in
set_option maxRecDepth 100000 in
theorem tkn_burn (c i : ByteArray) (w : World) :
    Calls Tryz.prog 8 #[.pointer none, .string c, .string i] w fun e w' => e = .returned (.int .i64 2) ∧ Below w.heap.size w w' := by
  have HB := Aside0.mk (Below.refl w.heap.size w)
  have hmf := hmf_
  go_enter_defers Tryz.func8, Tryz.ntmps8
  go_wp2_with (first | ((with_reducible refine gate_dst (N := 3) rfl ?_); refine box_event ?hg (N := 3) ?hd (cs := #[.pointer none]) (t := 34) ?hr ?_; (case hd => rfl); (case hg => rfl); (case hr => first | (go_simp; done) | (go_simp; rfl)); intro gbj hg wj hbox hb; have GEj := Aside0.mk ((by rw [hg]; exact (below_size (by repeat (first | (with_reducible first | exact HB.out | apply below_alloc | apply pw_below_drewN | apply below_drew1) | exact HB.out))) : w.heap.size ≤ gbj)); have n_HB := Aside0.mk (below_step (by repeat (first | (with_reducible first | exact HB.out | apply below_alloc | apply pw_below_drewN | apply below_drew1) | exact HB.out)) hb); clear HB; have HB := n_HB; clear n_HB; have BKj := Aside0.mk hbox; clear hb hbox hg; have zj_0 : World.cell? _ ⟨gbj, 0, none⟩ = some (.pointer none) := (blk_cell BKj.out 0).trans rfl; have fj_0 := blk_frozen BKj.out 0) | ((with_reducible refine gate_dst (N := 4) rfl ?_); refine box_event ?hg (N := 4) ?hd (cs := #[.string c]) (t := 9) ?hr ?_; (case hd => rfl); (case hg => rfl); (case hr => first | (go_simp; done) | (go_simp; rfl)); intro gbd hg wd hbox hb; have GEd := Aside0.mk ((by rw [hg]; exact (below_size (by repeat (first | (with_reducible first | exact HB.out | apply below_alloc | apply pw_below_drewN | apply below_drew1 | refine below_set ?_ GEj.out) | exact HB.out))) : w.heap.size ≤ gbd)); have NBj_d := Aside0.mk ((by rw [hg]; exact Nat.ne_of_lt (blk_lt (g := gbj) (o := .cells #[.pointer none] 34 (0, 0)) (by first | exact BKj.out | ((with_reducible repeat (first | refine blk_drewN ?_ _ | refine blk_drew ?_ | refine blk_alloc ?_ _)); exact BKj.out))) : gbj ≠ gbd)); have NBd_j := Aside0.mk ((by rw [hg]; exact Nat.ne_of_gt (blk_lt (g := gbj) (o := .cells #[.pointer none] 34 (0, 0)) (by first | exact BKj.out | ((with_reducible repeat (first | refine blk_drewN ?_ _ | refine blk_drew ?_ | refine blk_alloc ?_ _)); exact BKj.out))) : gbd ≠ gbj)); have n_HB := Aside0.mk (below_step (by repeat (first | (with_reducible first | exact HB.out | apply below_alloc | apply pw_below_drewN | apply below_drew1 | refine below_set ?_ GEj.out) | exact HB.out)) hb); have n_BKj := Aside0.mk (blk_below (g := gbj) (o := .cells #[.pointer none] 34 (0, 0)) (by first | exact BKj.out | ((with_reducible repeat (first | refine blk_drewN ?_ _ | refine blk_drew ?_ | refine blk_alloc ?_ _)); exact BKj.out)) hb); clear HB BKj; have HB := n_HB; have BKj := n_BKj; clear n_HB n_BKj; have BKd := Aside0.mk hbox; clear hb hbox hg; have zd_0 : World.cell? _ ⟨gbd, 0, none⟩ = some (.string c) := (blk_cell BKd.out 0).trans rfl; have fd_0 := blk_frozen BKd.out 0; have hndj := NBd_j.out; have hmdj := NBj_d.out; have zj_0 : World.cell? _ ⟨gbj, 0, none⟩ = some (.pointer none) := (blk_cell BKj.out 0).trans rfl; have fj_0 := blk_frozen BKj.out 0; have hnjd := NBj_d.out; have hmjd := NBd_j.out; have zd_0 : World.cell? _ ⟨gbd, 0, none⟩ = some (.string c) := (blk_cell BKd.out 0).trans rfl; have fd_0 := blk_frozen BKd.out 0; have hndj := NBd_j.out; have hmdj := NBj_d.out))
  refine (tkn_get c i _).mono ?_
  rintro e w1 ⟨rfl, hb⟩
  have n_HB := Aside0.mk (below_step (by repeat (first | (with_reducible first | exact HB.out | apply below_alloc | apply pw_below_drewN | apply below_drew1 | refine below_set ?_ GEj.out | refine below_set ?_ GEd.out) | exact HB.out)) hb)
  have n_BKj := Aside0.mk (blk_below (g := gbj) (o := .cells #[.pointer none] 34 (0, 0)) (by first | exact BKj.out | ((with_reducible repeat (first | refine blk_drewN ?_ _ | refine blk_drew ?_ | refine blk_alloc ?_ _)); exact BKj.out)) hb)
  have n_BKd := Aside0.mk (blk_below (g := gbd) (o := .cells #[.string c] 9 (0, 0)) (by first | exact BKd.out | ((with_reducible repeat (first | refine blk_drewN ?_ _ | refine blk_drew ?_ | refine blk_alloc ?_ _)); exact BKd.out)) hb)
  clear HB BKj BKd
  have HB := n_HB
  have BKj := n_BKj
  have BKd := n_BKd
  clear n_HB n_BKj n_BKd
  clear hb
  have zj_0 : World.cell? _ ⟨gbj, 0, none⟩ = some (.pointer none) := (blk_cell BKj.out 0).trans rfl
  have fj_0 := blk_frozen BKj.out 0
  have hnjd := NBj_d.out
  have hmjd := NBd_j.out
  have zd_0 : World.cell? _ ⟨gbd, 0, none⟩ = some (.string c) := (blk_cell BKd.out 0).trans rfl
  have fd_0 := blk_frozen BKd.out 0
  have hndj := NBd_j.out
  have hmdj := NBj_d.out
  go_wp2_with (first | ((with_reducible refine gate_dst (N := 7) rfl ?_); refine box_event ?hg (N := 7) ?hd (cs := #[.string (⟨#[]⟩ : ByteArray), .string (⟨#[]⟩ : ByteArray), .string (⟨#[]⟩ : ByteArray), .string (⟨#[]⟩ : ByteArray), .string (⟨#[]⟩ : ByteArray)]) (t := 23) ?hr ?_; (case hd => rfl); (case hg => rfl); (case hr => first | (go_simp; done) | (go_simp; rfl)); intro gbt hg wt hbox hb; have GEt := Aside0.mk ((by rw [hg]; exact (below_size (by repeat (first | (with_reducible first | exact HB.out | apply below_alloc | apply pw_below_drewN | apply below_drew1 | refine below_set ?_ GEj.out | refine below_set ?_ GEd.out) | exact HB.out))) : w.heap.size ≤ gbt)); have NBj_t := Aside0.mk ((by rw [hg]; exact Nat.ne_of_lt (blk_lt (g := gbj) (o := .cells #[.pointer none] 34 (0, 0)) (by first | exact BKj.out | ((with_reducible repeat (first | refine blk_drewN ?_ _ | refine blk_drew ?_ | refine blk_alloc ?_ _)); exact BKj.out))) : gbj ≠ gbt)); have NBt_j := Aside0.mk ((by rw [hg]; exact Nat.ne_of_gt (blk_lt (g := gbj) (o := .cells #[.pointer none] 34 (0, 0)) (by first | exact BKj.out | ((with_reducible repeat (first | refine blk_drewN ?_ _ | refine blk_drew ?_ | refine blk_alloc ?_ _)); exact BKj.out))) : gbt ≠ gbj)); have NBd_t := Aside0.mk ((by rw [hg]; exact Nat.ne_of_lt (blk_lt (g := gbd) (o := .cells #[.string c] 9 (0, 0)) (by first | exact BKd.out | ((with_reducible repeat (first | refine blk_drewN ?_ _ | refine blk_drew ?_ | refine blk_alloc ?_ _)); exact BKd.out))) : gbd ≠ gbt)); have NBt_d := Aside0.mk ((by rw [hg]; exact Nat.ne_of_gt (blk_lt (g := gbd) (o := .cells #[.string c] 9 (0, 0)) (by first | exact BKd.out | ((with_reducible repeat (first | refine blk_drewN ?_ _ | refine blk_drew ?_ | refine blk_alloc ?_ _)); exact BKd.out))) : gbt ≠ gbd)); have n_HB := Aside0.mk (below_step (by repeat (first | (with_reducible first | exact HB.out | apply below_alloc | apply pw_below_drewN | apply below_drew1 | refine below_set ?_ GEj.out | refine below_set ?_ GEd.out) | exact HB.out)) hb); have n_BKj := Aside0.mk (blk_below (g := gbj) (o := .cells #[.pointer none] 34 (0, 0)) (by first | exact BKj.out | ((with_reducible repeat (first | refine blk_drewN ?_ _ | refine blk_drew ?_ | refine blk_alloc ?_ _)); exact BKj.out)) hb); have n_BKd := Aside0.mk (blk_below (g := gbd) (o := .cells #[.string c] 9 (0, 0)) (by first | exact BKd.out | ((with_reducible repeat (first | refine blk_drewN ?_ _ | refine blk_drew ?_ | refine blk_alloc ?_ _)); exact BKd.out)) hb); clear HB BKj BKd; have HB := n_HB; have BKj := n_BKj; have BKd := n_BKd; clear n_HB n_BKj n_BKd; have BKt := Aside0.mk hbox; clear hb hbox hg; have zt_0 : World.cell? _ ⟨gbt, 0, none⟩ = some (.string (⟨#[]⟩ : ByteArray)) := (blk_cell BKt.out 0).trans rfl; have ft_0 := blk_frozen BKt.out 0; have zt_1 : World.cell? _ ⟨gbt, 1, none⟩ = some (.string (⟨#[]⟩ : ByteArray)) := (blk_cell BKt.out 1).trans rfl; have ft_1 := blk_frozen BKt.out 1; have zt_2 : World.cell? _ ⟨gbt, 2, none⟩ = some (.string (⟨#[]⟩ : ByteArray)) := (blk_cell BKt.out 2).trans rfl; have ft_2 := blk_frozen BKt.out 2; have zt_3 : World.cell? _ ⟨gbt, 3, none⟩ = some (.string (⟨#[]⟩ : ByteArray)) := (blk_cell BKt.out 3).trans rfl; have ft_3 := blk_frozen BKt.out 3; have zt_4 : World.cell? _ ⟨gbt, 4, none⟩ = some (.string (⟨#[]⟩ : ByteArray)) := (blk_cell BKt.out 4).trans rfl; have ft_4 := blk_frozen BKt.out 4; have hntj := NBt_j.out; have hmtj := NBj_t.out; have hntd := NBt_d.out; have hmtd := NBd_t.out; have zj_0 : World.cell? _ ⟨gbj, 0, none⟩ = some (.pointer none) := (blk_cell BKj.out 0).trans rfl; have fj_0 := blk_frozen BKj.out 0; have hnjd := NBj_d.out; have hmjd := NBd_j.out; have hnjt := NBj_t.out; have hmjt := NBt_j.out; have zd_0 : World.cell? _ ⟨gbd, 0, none⟩ = some (.string c) := (blk_cell BKd.out 0).trans rfl; have fd_0 := blk_frozen BKd.out 0; have hndj := NBd_j.out; have hmdj := NBj_d.out; have hndt := NBd_t.out; have hmdt := NBt_d.out; have zt_0 : World.cell? _ ⟨gbt, 0, none⟩ = some (.string (⟨#[]⟩ : ByteArray)) := (blk_cell BKt.out 0).trans rfl; have ft_0 := blk_frozen BKt.out 0; have zt_1 : World.cell? _ ⟨gbt, 1, none⟩ = some (.string (⟨#[]⟩ : ByteArray)) := (blk_cell BKt.out 1).trans rfl; have ft_1 := blk_frozen BKt.out 1; have zt_2 : World.cell? _ ⟨gbt, 2, none⟩ = some (.string (⟨#[]⟩ : ByteArray)) := (blk_cell BKt.out 2).trans rfl; have ft_2 := blk_frozen BKt.out 2; have zt_3 : World.cell? _ ⟨gbt, 3, none⟩ = some (.string (⟨#[]⟩ : ByteArray)) := (blk_cell BKt.out 3).trans rfl; have ft_3 := blk_frozen BKt.out 3; have zt_4 : World.cell? _ ⟨gbt, 4, none⟩ = some (.string (⟨#[]⟩ : ByteArray)) := (blk_cell BKt.out 4).trans rfl; have ft_4 := blk_frozen BKt.out 4; have hntj := NBt_j.out; have hmtj := NBj_t.out; have hntd := NBt_d.out; have hmtd := NBd_t.out))
  first | exact ⟨_, results_tmp rfl _ _ _, rfl, by repeat (first | (with_reducible first | exact HB.out | apply below_alloc | apply pw_below_drewN | apply below_drew1 | refine below_set ?_ GEj.out | refine below_set ?_ GEd.out | refine below_set ?_ GEt.out) | exact HB.out)⟩ | (go_ret; exact ⟨rfl, by repeat (first | (with_reducible first | exact HB.out | apply below_alloc | apply pw_below_drewN | apply below_drew1 | refine below_set ?_ GEj.out | refine below_set ?_ GEd.out | refine below_set ?_ GEt.out) | exact HB.out)⟩)
set_option maxHeartbeats 8000000 in
set_option maxRecDepth 100000 in
theorem tk_move {base g : Nat} {ok : Nat → Prop} {w0 : World} {cur : List S82} (c i p : ByteArray) (x : Int) (cur' : List S82) {w : World} (h : JS base ok w0 g cur w) (hk1 : KV 100000 cur) (hc : c.size ≤ 50000) (hi : i.size ≤ 50000) (hp : p.size ≤ 1000000) (hx : tkMoveE cur c i p = x) (hcur : tkMove cur c i p = cur') :
    Calls Tryz.prog 9 #[.pointer (some ⟨g, 0, none⟩), .string c, .string i, .string p] w fun e w' => e = .returned (.int .i64 x) ∧ JS base ok w0 g cur' w' ∧ JK w w' := by
  obtain ⟨x0, x1, x2, x3, x4, x5, hg⟩ : ∃ a0 a1 a2 a3 a4 a5, tkGet cur c i = (a0, a1, a2, a3, a4, a5) := ⟨_, _, _, _, _, _, rfl⟩
  unfold tkMove at hcur
  rw [hx] at hcur
  unfold tkMoveE at hx
  rw [hg] at hx hcur
  replace hx : (if x5 ≠ 0 then x5 else if p.size = 0 ∨ p.size > 512 then 7 else 0) = x := hx
  replace hcur : (if x = 0 then tkKeep (delK (delK cur (tkOwn x4 c i)) (tkMay c i)) c i x2 x3 p else cur) = cur' := hcur
  have hsz := tkGet_sz hg
  have hk2 := hk1.mono (show 100000 ≤ 1000000 by omega)
  have hid : c.size ≤ 50000000 := Nat.le_trans hc (by decide)
  have hid2 : i.size ≤ 50000000 := Nat.le_trans hi (by decide)
  obtain ⟨k3, key3⟩ := tkMay_ev c i hid hid2
  have hnm := tkNamed_is p
  obtain ⟨nb, hnb⟩ : ∃ z, decide (¬ (p.size = 0 ∨ p.size > 512)) = z := ⟨_, rfl⟩
  rw [hnb] at hnm
  have AO := Aside0.mk (fun h5 : x5 = 0 => tkGet_ok hg h5)
  have A4 := Aside0.mk hsz
  have AG := Aside0.mk hg
  have HJ := Aside0.mk h
  have HK := Aside0.mk (JK.of_below (Below.refl w.heap.size w))
  clear h hg hsz
  go_enter Tryz.func9, Tryz.ntmps9
  go_wp2_with fail
  refine (tk_get c i x0 x1 x2 x3 x4 x5 HJ.out hk2 hid hid2 AG.out).mono ?_
  rintro e w1 ⟨rfl, hb⟩
  have n_HK := Aside0.mk (HK.out.trans (JK.of_below hb))
  have n_HJ := Aside0.mk (JS.below (base := base) (ok := ok) (w0 := w0) (g := g) (cur := cur) (by first | exact HJ.out | ((with_reducible repeat (first | apply JS.drewN | apply JS.drew | apply JS.alloc)); exact HJ.out)) hb)
  clear HK HJ
  have HK := n_HK
  have HJ := n_HJ
  clear n_HK n_HJ
  clear hb
  clear AG
  by_cases z0 : x5 = 0
  · rw [if_neg (fun e => e z0)] at hx
    subst z0
    obtain ⟨rfl, rfl⟩ := AO.out rfl
    clear AO
    go_wp2_with (first | ((with_reducible refine gate_dst (N := 9) rfl ?_); refine box_event ?hg (N := 9) ?hd (cs := #[.string (⟨#[]⟩ : ByteArray), .string (⟨#[]⟩ : ByteArray), .string (⟨#[]⟩ : ByteArray), .string (⟨#[]⟩ : ByteArray), .string (⟨#[]⟩ : ByteArray)]) (t := 23) ?hr ?_; (case hd => rfl); (case hg => rfl); (case hr => first | (go_simp; done) | (go_simp; rfl)); intro gbt hg wt hbox hb; have GKt := Aside0.mk ((by rw [hg]; exact JK.size (by first | exact HK.out | ((with_reducible repeat (first | apply JK.drewN | apply JK.drew | apply JK.alloc)); exact HK.out)) : w.heap.size ≤ gbt)); have GJt := Aside0.mk ((by rw [hg]; exact JS.size0 (base := base) (ok := ok) (w0 := w0) (g := g) (cur := cur) (by first | exact HJ.out | ((with_reducible repeat (first | apply JS.drewN | apply JS.drew | apply JS.alloc)); exact HJ.out)) : w0.heap.size ≤ gbt)); have n_HK := Aside0.mk (HK.out.trans (JK.of_below hb)); have n_HJ := Aside0.mk (JS.below (base := base) (ok := ok) (w0 := w0) (g := g) (cur := cur) (by first | exact HJ.out | ((with_reducible repeat (first | apply JS.drewN | apply JS.drew | apply JS.alloc)); exact HJ.out)) hb); clear HK HJ; have HK := n_HK; have HJ := n_HJ; clear n_HK n_HJ; have BKt := Aside0.mk hbox; clear hb hbox hg; have zt_0 : World.cell? _ ⟨gbt, 0, none⟩ = some (.string (⟨#[]⟩ : ByteArray)) := (blk_cell BKt.out 0).trans rfl; have ft_0 := blk_frozen BKt.out 0; have zt_1 : World.cell? _ ⟨gbt, 1, none⟩ = some (.string (⟨#[]⟩ : ByteArray)) := (blk_cell BKt.out 1).trans rfl; have ft_1 := blk_frozen BKt.out 1; have zt_2 : World.cell? _ ⟨gbt, 2, none⟩ = some (.string (⟨#[]⟩ : ByteArray)) := (blk_cell BKt.out 2).trans rfl; have ft_2 := blk_frozen BKt.out 2; have zt_3 : World.cell? _ ⟨gbt, 3, none⟩ = some (.string (⟨#[]⟩ : ByteArray)) := (blk_cell BKt.out 3).trans rfl; have ft_3 := blk_frozen BKt.out 3; have zt_4 : World.cell? _ ⟨gbt, 4, none⟩ = some (.string (⟨#[]⟩ : ByteArray)) := (blk_cell BKt.out 4).trans rfl; have ft_4 := blk_frozen BKt.out 4; have zt_0 : World.cell? _ ⟨gbt, 0, none⟩ = some (.string (⟨#[]⟩ : ByteArray)) := (blk_cell BKt.out 0).trans rfl; have ft_0 := blk_frozen BKt.out 0; have zt_1 : World.cell? _ ⟨gbt, 1, none⟩ = some (.string (⟨#[]⟩ : ByteArray)) := (blk_cell BKt.out 1).trans rfl; have ft_1 := blk_frozen BKt.out 1; have zt_2 : World.cell? _ ⟨gbt, 2, none⟩ = some (.string (⟨#[]⟩ : ByteArray)) := (blk_cell BKt.out 2).trans rfl; have ft_2 := blk_frozen BKt.out 2; have zt_3 : World.cell? _ ⟨gbt, 3, none⟩ = some (.string (⟨#[]⟩ : ByteArray)) := (blk_cell BKt.out 3).trans rfl; have ft_3 := blk_frozen BKt.out 3; have zt_4 : World.cell? _ ⟨gbt, 4, none⟩ = some (.string (⟨#[]⟩ : ByteArray)) := (blk_cell BKt.out 4).trans rfl; have ft_4 := blk_frozen BKt.out 4))
    refine (token_named.calls p nb _ hnm).mono ?_
    rintro e w2 ⟨rfl, hdr⟩
    have hb := hdr.below
    clear hdr
    have n_HK := Aside0.mk ((by (with_reducible repeat (first | apply JK.drewN | apply JK.drew | apply JK.alloc)); refine JK.setb ?_ GKt.out _; (with_reducible repeat (first | apply JK.drewN | apply JK.drew | apply JK.alloc)); refine JK.setb ?_ GKt.out _; (with_reducible repeat (first | apply JK.drewN | apply JK.drew | apply JK.alloc)); refine JK.setb ?_ GKt.out _; (with_reducible repeat (first | apply JK.drewN | apply JK.drew | apply JK.alloc)); refine JK.setb ?_ GKt.out _; (with_reducible repeat (first | apply JK.drewN | apply JK.drew | apply JK.alloc)); refine JK.setb ?_ GKt.out _; (with_reducible repeat (first | apply JK.drewN | apply JK.drew | apply JK.alloc)); exact HK.out : JK _ _).trans (JK.of_below hb))
    have n_HJ := Aside0.mk (JS.below (base := base) (ok := ok) (w0 := w0) (g := g) (cur := cur) (by (with_reducible repeat (first | apply JS.drewN | apply JS.drew | apply JS.alloc)); refine JS.setb (q := 23) ?_ GJt.out (by (with_reducible repeat (first | refine blk_drewN ?_ _ | refine blk_drew ?_ | refine blk_alloc ?_ _)); refine blk_put (cs := #[.string x0, .string x1, .string x2, .string (⟨#[]⟩ : ByteArray), .string (⟨#[]⟩ : ByteArray)]) ?_ 3 _ rfl; (with_reducible repeat (first | refine blk_drewN ?_ _ | refine blk_drew ?_ | refine blk_alloc ?_ _)); refine blk_put (cs := #[.string x0, .string x1, .string (⟨#[]⟩ : ByteArray), .string (⟨#[]⟩ : ByteArray), .string (⟨#[]⟩ : ByteArray)]) ?_ 2 _ rfl; (with_reducible repeat (first | refine blk_drewN ?_ _ | refine blk_drew ?_ | refine blk_alloc ?_ _)); refine blk_put (cs := #[.string x0, .string (⟨#[]⟩ : ByteArray), .string (⟨#[]⟩ : ByteArray), .string (⟨#[]⟩ : ByteArray), .string (⟨#[]⟩ : ByteArray)]) ?_ 1 _ rfl; (with_reducible repeat (first | refine blk_drewN ?_ _ | refine blk_drew ?_ | refine blk_alloc ?_ _)); refine blk_put (cs := #[.string (⟨#[]⟩ : ByteArray), .string (⟨#[]⟩ : ByteArray), .string (⟨#[]⟩ : ByteArray), .string (⟨#[]⟩ : ByteArray), .string (⟨#[]⟩ : ByteArray)]) ?_ 0 _ rfl; (with_reducible repeat (first | refine blk_drewN ?_ _ | refine blk_drew ?_ | refine blk_alloc ?_ _)); exact BKt.out) _ (by decide); (with_reducible repeat (first | apply JS.drewN | apply JS.drew | apply JS.alloc)); refine JS.setb (q := 23) ?_ GJt.out (by (with_reducible repeat (first | refine blk_drewN ?_ _ | refine blk_drew ?_ | refine blk_alloc ?_ _)); refine blk_put (cs := #[.string x0, .string x1, .string (⟨#[]⟩ : ByteArray), .string (⟨#[]⟩ : ByteArray), .string (⟨#[]⟩ : ByteArray)]) ?_ 2 _ rfl; (with_reducible repeat (first | refine blk_drewN ?_ _ | refine blk_drew ?_ | refine blk_alloc ?_ _)); refine blk_put (cs := #[.string x0, .string (⟨#[]⟩ : ByteArray), .string (⟨#[]⟩ : ByteArray), .string (⟨#[]⟩ : ByteArray), .string (⟨#[]⟩ : ByteArray)]) ?_ 1 _ rfl; (with_reducible repeat (first | refine blk_drewN ?_ _ | refine blk_drew ?_ | refine blk_alloc ?_ _)); refine blk_put (cs := #[.string (⟨#[]⟩ : ByteArray), .string (⟨#[]⟩ : ByteArray), .string (⟨#[]⟩ : ByteArray), .string (⟨#[]⟩ : ByteArray), .string (⟨#[]⟩ : ByteArray)]) ?_ 0 _ rfl; (with_reducible repeat (first | refine blk_drewN ?_ _ | refine blk_drew ?_ | refine blk_alloc ?_ _)); exact BKt.out) _ (by decide); (with_reducible repeat (first | apply JS.drewN | apply JS.drew | apply JS.alloc)); refine JS.setb (q := 23) ?_ GJt.out (by (with_reducible repeat (first | refine blk_drewN ?_ _ | refine blk_drew ?_ | refine blk_alloc ?_ _)); refine blk_put (cs := #[.string x0, .string (⟨#[]⟩ : ByteArray), .string (⟨#[]⟩ : ByteArray), .string (⟨#[]⟩ : ByteArray), .string (⟨#[]⟩ : ByteArray)]) ?_ 1 _ rfl; (with_reducible repeat (first | refine blk_drewN ?_ _ | refine blk_drew ?_ | refine blk_alloc ?_ _)); refine blk_put (cs := #[.string (⟨#[]⟩ : ByteArray), .string (⟨#[]⟩ : ByteArray), .string (⟨#[]⟩ : ByteArray), .string (⟨#[]⟩ : ByteArray), .string (⟨#[]⟩ : ByteArray)]) ?_ 0 _ rfl; (with_reducible repeat (first | refine blk_drewN ?_ _ | refine blk_drew ?_ | refine blk_alloc ?_ _)); exact BKt.out) _ (by decide); (with_reducible repeat (first | apply JS.drewN | apply JS.drew | apply JS.alloc)); refine JS.setb (q := 23) ?_ GJt.out (by (with_reducible repeat (first | refine blk_drewN ?_ _ | refine blk_drew ?_ | refine blk_alloc ?_ _)); refine blk_put (cs := #[.string (⟨#[]⟩ : ByteArray), .string (⟨#[]⟩ : ByteArray), .string (⟨#[]⟩ : ByteArray), .string (⟨#[]⟩ : ByteArray), .string (⟨#[]⟩ : ByteArray)]) ?_ 0 _ rfl; (with_reducible repeat (first | refine blk_drewN ?_ _ | refine blk_drew ?_ | refine blk_alloc ?_ _)); exact BKt.out) _ (by decide); (with_reducible repeat (first | apply JS.drewN | apply JS.drew | apply JS.alloc)); refine JS.setb (q := 23) ?_ GJt.out (by first | exact BKt.out | ((with_reducible repeat (first | refine blk_drewN ?_ _ | refine blk_drew ?_ | refine blk_alloc ?_ _)); exact BKt.out)) _ (by decide); (with_reducible repeat (first | apply JS.drewN | apply JS.drew | apply JS.alloc)); exact HJ.out) hb)
    have n_BKt := Aside0.mk (blk_below (g := gbt) (o := .cells #[.string x0, .string x1, .string x2, .string x3, .string x4] 23 (0, 0)) (by (with_reducible repeat (first | refine blk_drewN ?_ _ | refine blk_drew ?_ | refine blk_alloc ?_ _)); refine blk_put (cs := #[.string x0, .string x1, .string x2, .string x3, .string (⟨#[]⟩ : ByteArray)]) ?_ 4 _ rfl; (with_reducible repeat (first | refine blk_drewN ?_ _ | refine blk_drew ?_ | refine blk_alloc ?_ _)); refine blk_put (cs := #[.string x0, .string x1, .string x2, .string (⟨#[]⟩ : ByteArray), .string (⟨#[]⟩ : ByteArray)]) ?_ 3 _ rfl; (with_reducible repeat (first | refine blk_drewN ?_ _ | refine blk_drew ?_ | refine blk_alloc ?_ _)); refine blk_put (cs := #[.string x0, .string x1, .string (⟨#[]⟩ : ByteArray), .string (⟨#[]⟩ : ByteArray), .string (⟨#[]⟩ : ByteArray)]) ?_ 2 _ rfl; (with_reducible repeat (first | refine blk_drewN ?_ _ | refine blk_drew ?_ | refine blk_alloc ?_ _)); refine blk_put (cs := #[.string x0, .string (⟨#[]⟩ : ByteArray), .string (⟨#[]⟩ : ByteArray), .string (⟨#[]⟩ : ByteArray), .string (⟨#[]⟩ : ByteArray)]) ?_ 1 _ rfl; (with_reducible repeat (first | refine blk_drewN ?_ _ | refine blk_drew ?_ | refine blk_alloc ?_ _)); refine blk_put (cs := #[.string (⟨#[]⟩ : ByteArray), .string (⟨#[]⟩ : ByteArray), .string (⟨#[]⟩ : ByteArray), .string (⟨#[]⟩ : ByteArray), .string (⟨#[]⟩ : ByteArray)]) ?_ 0 _ rfl; (with_reducible repeat (first | refine blk_drewN ?_ _ | refine blk_drew ?_ | refine blk_alloc ?_ _)); exact BKt.out) hb)
    clear HK HJ BKt
    have HK := n_HK
    have HJ := n_HJ
    have BKt := n_BKt
    clear n_HK n_HJ n_BKt
    clear hb
    have zt_0 : World.cell? _ ⟨gbt, 0, none⟩ = some (.string x0) := (blk_cell BKt.out 0).trans rfl
    have ft_0 := blk_frozen BKt.out 0
    have zt_1 : World.cell? _ ⟨gbt, 1, none⟩ = some (.string x1) := (blk_cell BKt.out 1).trans rfl
    have ft_1 := blk_frozen BKt.out 1
    have zt_2 : World.cell? _ ⟨gbt, 2, none⟩ = some (.string x2) := (blk_cell BKt.out 2).trans rfl
    have ft_2 := blk_frozen BKt.out 2
    have zt_3 : World.cell? _ ⟨gbt, 3, none⟩ = some (.string x3) := (blk_cell BKt.out 3).trans rfl
    have ft_3 := blk_frozen BKt.out 3
    have zt_4 : World.cell? _ ⟨gbt, 4, none⟩ = some (.string x4) := (blk_cell BKt.out 4).trans rfl
    have ft_4 := blk_frozen BKt.out 4
    cases nb with
    | false =>
      have z2 := Classical.not_not.1 (of_decide_eq_false hnb)
      rw [if_pos z2] at hx
      subst hx
      rw [if_neg (by decide)] at hcur
      subst hcur
      clear z2 hnb
      go_wp2
      go_ret
      exact ⟨rfl, by first | exact HJ.out | ((with_reducible repeat (first | apply JS.drewN | apply JS.drew | apply JS.alloc)); exact HJ.out), by first | exact HK.out | ((with_reducible repeat (first | apply JK.drewN | apply JK.drew | apply JK.alloc)); exact HK.out)⟩
    | true =>
      have z2 := of_decide_eq_true hnb
      rw [if_neg z2] at hx
      subst hx
      rw [if_pos rfl] at hcur
      clear z2 hnb
      obtain ⟨k2, key2⟩ := tkOwn_ev x0 x1 x2 x3 x4 hid hid2 (Nat.le_trans A4.out.2.2 (by decide))
      have hkA := hk1.del (tkOwn x4 x0 x1)
      have hkB := (hkA.del (tkMay x0 x1)).mono (show 100000 ≤ 900000 by omega)
      replace hkA := hkA.mono (show 100000 ≤ 1000000 by omega)
      generalize tkOwn x4 x0 x1 = kB at key2 hcur hkA hkB
      generalize tkMay x0 x1 = kC at key3 hcur hkB
      go_wp2_with fail
      refine (token_own.calls k2 x0 x1 x2 x3 x4 kB _ key2).mono ?_
      rintro e w3 ⟨rfl, hb⟩
      have n_HK := Aside0.mk (HK.out.trans (JK.of_below hb))
      have n_HJ := Aside0.mk (JS.below (base := base) (ok := ok) (w0 := w0) (g := g) (cur := cur) (by first | exact HJ.out | ((with_reducible repeat (first | apply JS.drewN | apply JS.drew | apply JS.alloc)); exact HJ.out)) hb)
      have n_BKt := Aside0.mk (blk_below (g := gbt) (o := .cells #[.string x0, .string x1, .string x2, .string x3, .string x4] 23 (0, 0)) (by first | exact BKt.out | ((with_reducible repeat (first | refine blk_drewN ?_ _ | refine blk_drew ?_ | refine blk_alloc ?_ _)); exact BKt.out)) hb)
      clear HK HJ BKt
      have HK := n_HK
      have HJ := n_HJ
      have BKt := n_BKt
      clear n_HK n_HJ n_BKt
      clear hb
      have zt_0 : World.cell? _ ⟨gbt, 0, none⟩ = some (.string x0) := (blk_cell BKt.out 0).trans rfl
      have ft_0 := blk_frozen BKt.out 0
      have zt_1 : World.cell? _ ⟨gbt, 1, none⟩ = some (.string x1) := (blk_cell BKt.out 1).trans rfl
      have ft_1 := blk_frozen BKt.out 1
      have zt_2 : World.cell? _ ⟨gbt, 2, none⟩ = some (.string x2) := (blk_cell BKt.out 2).trans rfl
      have ft_2 := blk_frozen BKt.out 2
      have zt_3 : World.cell? _ ⟨gbt, 3, none⟩ = some (.string x3) := (blk_cell BKt.out 3).trans rfl
      have ft_3 := blk_frozen BKt.out 3
      have zt_4 : World.cell? _ ⟨gbt, 4, none⟩ = some (.string x4) := (blk_cell BKt.out 4).trans rfl
      have ft_4 := blk_frozen BKt.out 4
      go_wp2_with fail
      refine (js_del kB HJ.out hk2).mono ?_
      rintro e w4 ⟨rfl, hj, hk⟩
      have n_HK := Aside0.mk (HK.out.trans hk)
      have n_HJ := Aside0.mk (hj)
      have n_BKt := Aside0.mk (JK.blk (b := gbt) (c := #[.string x0, .string x1, .string x2, .string x3, .string x4]) (q := 23) (x := (0, 0)) hk (by first | exact BKt.out | ((with_reducible repeat (first | refine blk_drewN ?_ _ | refine blk_drew ?_ | refine blk_alloc ?_ _)); exact BKt.out)) (by decide))
      clear HK HJ BKt
      have HK := n_HK
      have HJ := n_HJ
      have BKt := n_BKt
      clear n_HK n_HJ n_BKt
      clear hj hk
      have zt_0 : World.cell? _ ⟨gbt, 0, none⟩ = some (.string x0) := (blk_cell BKt.out 0).trans rfl
      have ft_0 := blk_frozen BKt.out 0
      have zt_1 : World.cell? _ ⟨gbt, 1, none⟩ = some (.string x1) := (blk_cell BKt.out 1).trans rfl
      have ft_1 := blk_frozen BKt.out 1
      have zt_2 : World.cell? _ ⟨gbt, 2, none⟩ = some (.string x2) := (blk_cell BKt.out 2).trans rfl
      have ft_2 := blk_frozen BKt.out 2
      have zt_3 : World.cell? _ ⟨gbt, 3, none⟩ = some (.string x3) := (blk_cell BKt.out 3).trans rfl
      have ft_3 := blk_frozen BKt.out 3
      have zt_4 : World.cell? _ ⟨gbt, 4, none⟩ = some (.string x4) := (blk_cell BKt.out 4).trans rfl
      have ft_4 := blk_frozen BKt.out 4
      go_wp2_with fail
      refine (token_may.calls k3 x0 x1 kC _ key3).mono ?_
      rintro e w5 ⟨rfl, hb⟩
      have n_HK := Aside0.mk (HK.out.trans (JK.of_below hb))
      have n_HJ := Aside0.mk (JS.below (base := base) (ok := ok) (w0 := w0) (g := g) (cur := (delK cur kB)) (by first | exact HJ.out | ((with_reducible repeat (first | apply JS.drewN | apply JS.drew | apply JS.alloc)); exact HJ.out)) hb)
      have n_BKt := Aside0.mk (blk_below (g := gbt) (o := .cells #[.string x0, .string x1, .string x2, .string x3, .string x4] 23 (0, 0)) (by first | exact BKt.out | ((with_reducible repeat (first | refine blk_drewN ?_ _ | refine blk_drew ?_ | refine blk_alloc ?_ _)); exact BKt.out)) hb)
      clear HK HJ BKt
      have HK := n_HK
      have HJ := n_HJ
      have BKt := n_BKt
      clear n_HK n_HJ n_BKt
      clear hb
      have zt_0 : World.cell? _ ⟨gbt, 0, none⟩ = some (.string x0) := (blk_cell BKt.out 0).trans rfl
      have ft_0 := blk_frozen BKt.out 0
      have zt_1 : World.cell? _ ⟨gbt, 1, none⟩ = some (.string x1) := (blk_cell BKt.out 1).trans rfl
      have ft_1 := blk_frozen BKt.out 1
      have zt_2 : World.cell? _ ⟨gbt, 2, none⟩ = some (.string x2) := (blk_cell BKt.out 2).trans rfl
      have ft_2 := blk_frozen BKt.out 2
      have zt_3 : World.cell? _ ⟨gbt, 3, none⟩ = some (.string x3) := (blk_cell BKt.out 3).trans rfl
      have ft_3 := blk_frozen BKt.out 3
      have zt_4 : World.cell? _ ⟨gbt, 4, none⟩ = some (.string x4) := (blk_cell BKt.out 4).trans rfl
      have ft_4 := blk_frozen BKt.out 4
      go_wp2_with fail
      refine (js_del kC HJ.out hkA).mono ?_
      rintro e w6 ⟨rfl, hj, hk⟩
      have n_HK := Aside0.mk (HK.out.trans hk)
      have n_HJ := Aside0.mk (hj)
      have n_BKt := Aside0.mk (JK.blk (b := gbt) (c := #[.string x0, .string x1, .string x2, .string x3, .string x4]) (q := 23) (x := (0, 0)) hk (by first | exact BKt.out | ((with_reducible repeat (first | refine blk_drewN ?_ _ | refine blk_drew ?_ | refine blk_alloc ?_ _)); exact BKt.out)) (by decide))
      clear HK HJ BKt
      have HK := n_HK
      have HJ := n_HJ
      have BKt := n_BKt
      clear n_HK n_HJ n_BKt
      clear hj hk
      have zt_0 : World.cell? _ ⟨gbt, 0, none⟩ = some (.string x0) := (blk_cell BKt.out 0).trans rfl
      have ft_0 := blk_frozen BKt.out 0
      have zt_1 : World.cell? _ ⟨gbt, 1, none⟩ = some (.string x1) := (blk_cell BKt.out 1).trans rfl
      have ft_1 := blk_frozen BKt.out 1
      have zt_2 : World.cell? _ ⟨gbt, 2, none⟩ = some (.string x2) := (blk_cell BKt.out 2).trans rfl
      have ft_2 := blk_frozen BKt.out 2
      have zt_3 : World.cell? _ ⟨gbt, 3, none⟩ = some (.string x3) := (blk_cell BKt.out 3).trans rfl
      have ft_3 := blk_frozen BKt.out 3
      have zt_4 : World.cell? _ ⟨gbt, 4, none⟩ = some (.string x4) := (blk_cell BKt.out 4).trans rfl
      have ft_4 := blk_frozen BKt.out 4
      go_wp2_with fail
      refine (tk_keep (base := base) (ok := ok) (w0 := w0) (g := g) (cur := (delK (delK cur kB) kC)) x0 x1 x2 x3 p (by (with_reducible repeat (first | apply JS.drewN | apply JS.drew | apply JS.alloc)); refine JS.setb (q := 23) ?_ GJt.out (by first | exact BKt.out | ((with_reducible repeat (first | refine blk_drewN ?_ _ | refine blk_drew ?_ | refine blk_alloc ?_ _)); exact BKt.out)) _ (by decide); (with_reducible repeat (first | apply JS.drewN | apply JS.drew | apply JS.alloc)); exact HJ.out) hkB hid hid2 (Nat.le_trans A4.out.1 (by decide)) (Nat.le_trans A4.out.2.1 (by decide)) hp).mono ?_
      rintro e w7 ⟨rfl, hj, hk⟩
      rw [hcur] at hj
      have n_HK := Aside0.mk ((by (with_reducible repeat (first | apply JK.drewN | apply JK.drew | apply JK.alloc)); refine JK.setb ?_ GKt.out _; (with_reducible repeat (first | apply JK.drewN | apply JK.drew | apply JK.alloc)); exact HK.out : JK _ _).trans hk)
      have n_HJ := Aside0.mk (hj)
      have n_BKt := Aside0.mk (JK.blk (b := gbt) (c := #[.string x0, .string x1, .string x2, .string x3, .string p]) (q := 23) (x := (0, 0)) hk (by (with_reducible repeat (first | refine blk_drewN ?_ _ | refine blk_drew ?_ | refine blk_alloc ?_ _)); refine blk_put (cs := #[.string x0, .string x1, .string x2, .string x3, .string x4]) ?_ 4 _ rfl; (with_reducible repeat (first | refine blk_drewN ?_ _ | refine blk_drew ?_ | refine blk_alloc ?_ _)); exact BKt.out) (by decide))
      clear HK HJ BKt
      have HK := n_HK
      have HJ := n_HJ
      have BKt := n_BKt
      clear n_HK n_HJ n_BKt
      clear hj hk
      go_wp2
      go_ret
      exact ⟨rfl, HJ.out, HK.out⟩
  · rw [if_pos z0] at hx
    subst hx
    rw [if_neg z0] at hcur
    subst hcur
    go_wp2_with (first | ((with_reducible refine gate_dst (N := 9) rfl ?_); refine box_event ?hg (N := 9) ?hd (cs := #[.string (⟨#[]⟩ : ByteArray), .string (⟨#[]⟩ : ByteArray), .string (⟨#[]⟩ : ByteArray), .string (⟨#[]⟩ : ByteArray), .string (⟨#[]⟩ : ByteArray)]) (t := 23) ?hr ?_; (case hd => rfl); (case hg => rfl); (case hr => first | (go_simp; done) | (go_simp; rfl)); intro gbt hg wt hbox hb; have GKt := Aside0.mk ((by rw [hg]; exact JK.size (by first | exact HK.out | ((with_reducible repeat (first | apply JK.drewN | apply JK.drew | apply JK.alloc)); exact HK.out)) : w.heap.size ≤ gbt)); have GJt := Aside0.mk ((by rw [hg]; exact JS.size0 (base := base) (ok := ok) (w0 := w0) (g := g) (cur := cur) (by first | exact HJ.out | ((with_reducible repeat (first | apply JS.drewN | apply JS.drew | apply JS.alloc)); exact HJ.out)) : w0.heap.size ≤ gbt)); have n_HK := Aside0.mk (HK.out.trans (JK.of_below hb)); have n_HJ := Aside0.mk (JS.below (base := base) (ok := ok) (w0 := w0) (g := g) (cur := cur) (by first | exact HJ.out | ((with_reducible repeat (first | apply JS.drewN | apply JS.drew | apply JS.alloc)); exact HJ.out)) hb); clear HK HJ; have HK := n_HK; have HJ := n_HJ; clear n_HK n_HJ; have BKt := Aside0.mk hbox; clear hb hbox hg; have zt_0 : World.cell? _ ⟨gbt, 0, none⟩ = some (.string (⟨#[]⟩ : ByteArray)) := (blk_cell BKt.out 0).trans rfl; have ft_0 := blk_frozen BKt.out 0; have zt_1 : World.cell? _ ⟨gbt, 1, none⟩ = some (.string (⟨#[]⟩ : ByteArray)) := (blk_cell BKt.out 1).trans rfl; have ft_1 := blk_frozen BKt.out 1; have zt_2 : World.cell? _ ⟨gbt, 2, none⟩ = some (.string (⟨#[]⟩ : ByteArray)) := (blk_cell BKt.out 2).trans rfl; have ft_2 := blk_frozen BKt.out 2; have zt_3 : World.cell? _ ⟨gbt, 3, none⟩ = some (.string (⟨#[]⟩ : ByteArray)) := (blk_cell BKt.out 3).trans rfl; have ft_3 := blk_frozen BKt.out 3; have zt_4 : World.cell? _ ⟨gbt, 4, none⟩ = some (.string (⟨#[]⟩ : ByteArray)) := (blk_cell BKt.out 4).trans rfl; have ft_4 := blk_frozen BKt.out 4; have zt_0 : World.cell? _ ⟨gbt, 0, none⟩ = some (.string (⟨#[]⟩ : ByteArray)) := (blk_cell BKt.out 0).trans rfl; have ft_0 := blk_frozen BKt.out 0; have zt_1 : World.cell? _ ⟨gbt, 1, none⟩ = some (.string (⟨#[]⟩ : ByteArray)) := (blk_cell BKt.out 1).trans rfl; have ft_1 := blk_frozen BKt.out 1; have zt_2 : World.cell? _ ⟨gbt, 2, none⟩ = some (.string (⟨#[]⟩ : ByteArray)) := (blk_cell BKt.out 2).trans rfl; have ft_2 := blk_frozen BKt.out 2; have zt_3 : World.cell? _ ⟨gbt, 3, none⟩ = some (.string (⟨#[]⟩ : ByteArray)) := (blk_cell BKt.out 3).trans rfl; have ft_3 := blk_frozen BKt.out 3; have zt_4 : World.cell? _ ⟨gbt, 4, none⟩ = some (.string (⟨#[]⟩ : ByteArray)) := (blk_cell BKt.out 4).trans rfl; have ft_4 := blk_frozen BKt.out 4))
    go_ret
    exact ⟨rfl, by (with_reducible repeat (first | apply JS.drewN | apply JS.drew | apply JS.alloc)); refine JS.setb (q := 23) ?_ GJt.out (by (with_reducible repeat (first | refine blk_drewN ?_ _ | refine blk_drew ?_ | refine blk_alloc ?_ _)); refine blk_put (cs := #[.string x0, .string x1, .string x2, .string (⟨#[]⟩ : ByteArray), .string (⟨#[]⟩ : ByteArray)]) ?_ 3 _ rfl; (with_reducible repeat (first | refine blk_drewN ?_ _ | refine blk_drew ?_ | refine blk_alloc ?_ _)); refine blk_put (cs := #[.string x0, .string x1, .string (⟨#[]⟩ : ByteArray), .string (⟨#[]⟩ : ByteArray), .string (⟨#[]⟩ : ByteArray)]) ?_ 2 _ rfl; (with_reducible repeat (first | refine blk_drewN ?_ _ | refine blk_drew ?_ | refine blk_alloc ?_ _)); refine blk_put (cs := #[.string x0, .string (⟨#[]⟩ : ByteArray), .string (⟨#[]⟩ : ByteArray), .string (⟨#[]⟩ : ByteArray), .string (⟨#[]⟩ : ByteArray)]) ?_ 1 _ rfl; (with_reducible repeat (first | refine blk_drewN ?_ _ | refine blk_drew ?_ | refine blk_alloc ?_ _)); refine blk_put (cs := #[.string (⟨#[]⟩ : ByteArray), .string (⟨#[]⟩ : ByteArray), .string (⟨#[]⟩ : ByteArray), .string (⟨#[]⟩ : ByteArray), .string (⟨#[]⟩ : ByteArray)]) ?_ 0 _ rfl; (with_reducible repeat (first | refine blk_drewN ?_ _ | refine blk_drew ?_ | refine blk_alloc ?_ _)); exact BKt.out) _ (by decide); (with_reducible repeat (first | apply JS.drewN | apply JS.drew | apply JS.alloc)); refine JS.setb (q := 23) ?_ GJt.out (by (with_reducible repeat (first | refine blk_drewN ?_ _ | refine blk_drew ?_ | refine blk_alloc ?_ _)); refine blk_put (cs := #[.string x0, .string x1, .string (⟨#[]⟩ : ByteArray), .string (⟨#[]⟩ : ByteArray), .string (⟨#[]⟩ : ByteArray)]) ?_ 2 _ rfl; (with_reducible repeat (first | refine blk_drewN ?_ _ | refine blk_drew ?_ | refine blk_alloc ?_ _)); refine blk_put (cs := #[.string x0, .string (⟨#[]⟩ : ByteArray), .string (⟨#[]⟩ : ByteArray), .string (⟨#[]⟩ : ByteArray), .string (⟨#[]⟩ : ByteArray)]) ?_ 1 _ rfl; (with_reducible repeat (first | refine blk_drewN ?_ _ | refine blk_drew ?_ | refine blk_alloc ?_ _)); refine blk_put (cs := #[.string (⟨#[]⟩ : ByteArray), .string (⟨#[]⟩ : ByteArray), .string (⟨#[]⟩ : ByteArray), .string (⟨#[]⟩ : ByteArray), .string (⟨#[]⟩ : ByteArray)]) ?_ 0 _ rfl; (with_reducible repeat (first | refine blk_drewN ?_ _ | refine blk_drew ?_ | refine blk_alloc ?_ _)); exact BKt.out) _ (by decide); (with_reducible repeat (first | apply JS.drewN | apply JS.drew | apply JS.alloc)); refine JS.setb (q := 23) ?_ GJt.out (by (with_reducible repeat (first | refine blk_drewN ?_ _ | refine blk_drew ?_ | refine blk_alloc ?_ _)); refine blk_put (cs := #[.string x0, .string (⟨#[]⟩ : ByteArray), .string (⟨#[]⟩ : ByteArray), .string (⟨#[]⟩ : ByteArray), .string (⟨#[]⟩ : ByteArray)]) ?_ 1 _ rfl; (with_reducible repeat (first | refine blk_drewN ?_ _ | refine blk_drew ?_ | refine blk_alloc ?_ _)); refine blk_put (cs := #[.string (⟨#[]⟩ : ByteArray), .string (⟨#[]⟩ : ByteArray), .string (⟨#[]⟩ : ByteArray), .string (⟨#[]⟩ : ByteArray), .string (⟨#[]⟩ : ByteArray)]) ?_ 0 _ rfl; (with_reducible repeat (first | refine blk_drewN ?_ _ | refine blk_drew ?_ | refine blk_alloc ?_ _)); exact BKt.out) _ (by decide); (with_reducible repeat (first | apply JS.drewN | apply JS.drew | apply JS.alloc)); refine JS.setb (q := 23) ?_ GJt.out (by (with_reducible repeat (first | refine blk_drewN ?_ _ | refine blk_drew ?_ | refine blk_alloc ?_ _)); refine blk_put (cs := #[.string (⟨#[]⟩ : ByteArray), .string (⟨#[]⟩ : ByteArray), .string (⟨#[]⟩ : ByteArray), .string (⟨#[]⟩ : ByteArray), .string (⟨#[]⟩ : ByteArray)]) ?_ 0 _ rfl; (with_reducible repeat (first | refine blk_drewN ?_ _ | refine blk_drew ?_ | refine blk_alloc ?_ _)); exact BKt.out) _ (by decide); (with_reducible repeat (first | apply JS.drewN | apply JS.drew | apply JS.alloc)); refine JS.setb (q := 23) ?_ GJt.out (by first | exact BKt.out | ((with_reducible repeat (first | refine blk_drewN ?_ _ | refine blk_drew ?_ | refine blk_alloc ?_ _)); exact BKt.out)) _ (by decide); (with_reducible repeat (first | apply JS.drewN | apply JS.drew | apply JS.alloc)); exact HJ.out, by (with_reducible repeat (first | apply JK.drewN | apply JK.drew | apply JK.alloc)); refine JK.setb ?_ GKt.out _; (with_reducible repeat (first | apply JK.drewN | apply JK.drew | apply JK.alloc)); refine JK.setb ?_ GKt.out _; (with_reducible repeat (first | apply JK.drewN | apply JK.drew | apply JK.alloc)); refine JK.setb ?_ GKt.out _; (with_reducible repeat (first | apply JK.drewN | apply JK.drew | apply JK.alloc)); refine JK.setb ?_ GKt.out _; (with_reducible repeat (first | apply JK.drewN | apply JK.drew | apply JK.alloc)); refine JK.setb ?_ GKt.out _; (with_reducible repeat (first | apply JK.drewN | apply JK.drew | apply JK.alloc)); exact HK.out⟩
set_option maxHeartbeats 8000000 in
set_option maxRecDepth 100000 in
theorem tkn_move (c i p : ByteArray) (w : World) :
    Calls Tryz.prog 9 #[.pointer none, .string c, .string i, .string p] w fun e w' => e = .returned (.int .i64 2) ∧ Below w.heap.size w w' := by
  have HB := Aside0.mk (Below.refl w.heap.size w)
  go_enter Tryz.func9, Tryz.ntmps9
  go_wp2_with fail
  refine (tkn_get c i _).mono ?_
  rintro e w1 ⟨rfl, hb⟩
  have n_HB := Aside0.mk (below_step (by repeat (first | (with_reducible first | exact HB.out | apply below_alloc | apply pw_below_drewN | apply below_drew1) | exact HB.out)) hb)
  clear HB
  have HB := n_HB
  clear n_HB
  clear hb
  go_wp2_with (first | ((with_reducible refine gate_dst (N := 9) rfl ?_); refine box_event ?hg (N := 9) ?hd (cs := #[.string (⟨#[]⟩ : ByteArray), .string (⟨#[]⟩ : ByteArray), .string (⟨#[]⟩ : ByteArray), .string (⟨#[]⟩ : ByteArray), .string (⟨#[]⟩ : ByteArray)]) (t := 23) ?hr ?_; (case hd => rfl); (case hg => rfl); (case hr => first | (go_simp; done) | (go_simp; rfl)); intro gbt hg wt hbox hb; have GEt := Aside0.mk ((by rw [hg]; exact (below_size (by repeat (first | (with_reducible first | exact HB.out | apply below_alloc | apply pw_below_drewN | apply below_drew1) | exact HB.out))) : w.heap.size ≤ gbt)); have n_HB := Aside0.mk (below_step (by repeat (first | (with_reducible first | exact HB.out | apply below_alloc | apply pw_below_drewN | apply below_drew1) | exact HB.out)) hb); clear HB; have HB := n_HB; clear n_HB; have BKt := Aside0.mk hbox; clear hb hbox hg; have zt_0 : World.cell? _ ⟨gbt, 0, none⟩ = some (.string (⟨#[]⟩ : ByteArray)) := (blk_cell BKt.out 0).trans rfl; have ft_0 := blk_frozen BKt.out 0; have zt_1 : World.cell? _ ⟨gbt, 1, none⟩ = some (.string (⟨#[]⟩ : ByteArray)) := (blk_cell BKt.out 1).trans rfl; have ft_1 := blk_frozen BKt.out 1; have zt_2 : World.cell? _ ⟨gbt, 2, none⟩ = some (.string (⟨#[]⟩ : ByteArray)) := (blk_cell BKt.out 2).trans rfl; have ft_2 := blk_frozen BKt.out 2; have zt_3 : World.cell? _ ⟨gbt, 3, none⟩ = some (.string (⟨#[]⟩ : ByteArray)) := (blk_cell BKt.out 3).trans rfl; have ft_3 := blk_frozen BKt.out 3; have zt_4 : World.cell? _ ⟨gbt, 4, none⟩ = some (.string (⟨#[]⟩ : ByteArray)) := (blk_cell BKt.out 4).trans rfl; have ft_4 := blk_frozen BKt.out 4; have zt_0 : World.cell? _ ⟨gbt, 0, none⟩ = some (.string (⟨#[]⟩ : ByteArray)) := (blk_cell BKt.out 0).trans rfl; have ft_0 := blk_frozen BKt.out 0; have zt_1 : World.cell? _ ⟨gbt, 1, none⟩ = some (.string (⟨#[]⟩ : ByteArray)) := (blk_cell BKt.out 1).trans rfl; have ft_1 := blk_frozen BKt.out 1; have zt_2 : World.cell? _ ⟨gbt, 2, none⟩ = some (.string (⟨#[]⟩ : ByteArray)) := (blk_cell BKt.out 2).trans rfl; have ft_2 := blk_frozen BKt.out 2; have zt_3 : World.cell? _ ⟨gbt, 3, none⟩ = some (.string (⟨#[]⟩ : ByteArray)) := (blk_cell BKt.out 3).trans rfl; have ft_3 := blk_frozen BKt.out 3; have zt_4 : World.cell? _ ⟨gbt, 4, none⟩ = some (.string (⟨#[]⟩ : ByteArray)) := (blk_cell BKt.out 4).trans rfl; have ft_4 := blk_frozen BKt.out 4))
  go_ret
  exact ⟨rfl, by repeat (first | (with_reducible first | exact HB.out | apply below_alloc | apply pw_below_drewN | apply below_drew1 | refine below_set ?_ GEt.out) | exact HB.out)⟩

end Go.Proofs.YtjappgjpikbdeaaGreatDoor.PTkk
