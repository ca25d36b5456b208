-- written by wip/myprint.py over the kit's print; not a printed text of print.sh
import Derived.Test.YtcbaojkfffodiaaPJoux0
import Derived.Test.YtcbaojkfffodiaaPJoux4
import Derived.Test.YtcbaojkfffodiaaPJoux7
import Derived.Test.YtcbaojkfffodiaaPJoux8
import Derived.Test.YtcbaojkfffodiaaPJoux9
import Derived.Test.YtcbaojkfffodiaaPJoux10
import Derived.Test.YtcbaojkfffodiaaPJoux12
import Derived.Test.YtcbaojkfffodiaaPJoux18
import Derived.Test.YtcbaojkfffodiaaPJoux19
import Derived.Test.YtcbaojkfffodiaaPJoux20
namespace Go.Proofs.Ytcbaojkfffodiaa.PJou
open Go.RowKit Go.Proofs.YtcbaojkfffodiaaW.PrintWords Go.Proofs.YtcbaojkfffodiaaW.PrintLast Go.Proofs.YtcbaojkfffodiaaW.PrintMore
attribute [local go_sem] max2_int min2_int max_two min_two max_three min_three max_four min_four   -- for this text's walks alone
set_option linter.unusedVariables false
set_option linter.unusedSimpArgs false

/-! ### journal_Journal_Copy: function 15 -/
theorem copy_after : True := by have _ := @footbridgelaw10_JournalPlays.calls; trivial
set_option maxHeartbeats 1000000 in
set_option maxRecDepth 100000 in
theorem uclone_calls (A : Option Addr) (c : Nat) (l : List S65) (w : World) (hl : l.length ≤ 1000000000) (hn : A = none → l = [])
    (hc : ∀ a, A = some a → ∀ j u, (encU l)[j]? = some u → w.cell? (a.add j) = some u) :
    Calls Try.prog 30 #[.slice A l.length c] w fun e w' => ∃ v', e = .returned v' ∧ w'.ownsRow w.heap.size 65 3 v' l.length (encU l) ∧ Below w.heap.size w w' := by
  have e0 : ∀ (n c : Nat) w, (binOp .eql 62 (.slice A n c) (.slice none 0 0)).run Try.prog w = .ok (.bool A.isNone) w := fun n c w => Lib.run_eql_slice_nil w 62 65 A n c 0 0 Try.underlying62
  cases A with
  | none =>
    obtain rfl := hn rfl
    have e0 := fun w => e0 0 c w
    go_enter Try.func30, Try.ntmps30
    go_wp2
    go_ret
    exact ⟨_, rfl, World.ownsRow_nil _ _ _ _, Below.refl _ _⟩
  | some a =>
    have e0 := fun w => e0 l.length c w
    obtain ⟨i0, hi0, hz⟩ := Option.map_eq_some_iff.1 info65
    simp only [Prod.mk.injEq] at hz
    obtain ⟨hz0, hzs, hzb⟩ := hz
    have hown : (w.alloc (.cells #[] 65)).ownsRow w.heap.size 65 3 (.slice (some ⟨w.heap.size, 0, none⟩) 0 0) 0 [] := World.ownsRow_made w #[] 0 (Nat.le_refl _) (by unfold maxLen; omega) rfl
    obtain ⟨v1, w1, hrun, h1, h2, _, h3⟩ := run_append_own_at (P := Try.prog) (w := w.alloc (.cells #[] 65)) w.heap.size 62 62 65 i0 _ 3 40 Try.underlying62 hi0 hz0 hzs hzb rfl (by decide) _ 0 [] hown a l.length c (encU l) (encU_len l)
      (fun j u hj => by
        have h := hc a rfl j u hj
        exact Lib.cell?_alloc_some _ h) (encU_one l) (by unfold maxLen; omega) (by omega) (by rw [my_alloc_size]; omega)
    rw [Nat.zero_add, List.nil_append] at h1
    have hfin : ∃ v', Ending.returned v1 = .returned v' ∧ w1.ownsRow w.heap.size 65 3 v' l.length (encU l) ∧ Below w.heap.size w w1 := ⟨v1, rfl, h1, ((Below.refl _ w).alloc (Nat.le_refl _) _).grown h2 (by rw [my_alloc_size]; omega) (fun k hk => by have hk : w.heap.size = k := Option.some.inj hk; omega)⟩
    replace hfin := Aside0.mk hfin
    obtain ⟨A1, c1, rfl, _, _⟩ := row_slice h1
    clear h1 h2 h3 hown hc hz0 hzs hzb hi0
    go_enter Try.func30, Try.ntmps30
    go_wp2_with (at_builtin; refine Lib.wpList_append_run _ rfl _ _ _ _ rfl _ _ rfl rfl _ _ hrun ?_)
    go_ret
    exact hfin.out
theorem JX.push {base : Nat} {ok : Nat → Prop} {g gs : Nat} {sv lvv lvv' v : Value} {vs : List Value} {st : JSt} {l : List S65} {w w1 : World} (h : JX base ok g gs sv lvv vs st w) (hn : ∀ k, w.heap.size ≤ k → ok k)
    (hown : w1.ownsRow base 62 1 lvv' (st.lv.length + 1) (vs ++ [v])) (hg : w.grownBy w1 lvv.ownBlock) (hat : lvv'.ownBlock = lvv.ownBlock ∨ ∃ b, lvv'.ownBlock = some b ∧ w.heap.size ≤ b)
    (hv : w.ownsRow base 65 3 v l.length (encU l)) (hvk : ∀ k, v.ownBlock = some k → ok k) (hvd : ∀ k, v.ownBlock = some k → ∀ (i : Nat) a, vs[i]? = some a → a.ownBlock ≠ some k) : JX base ok g gs sv lvv' (vs ++ [v]) ⟨st.cur, st.lv ++ [l]⟩ (w1.setCell ⟨g, 1, none⟩ lvv') := by
  have hL := h.lv.snoc (ok' := ok) (fun k hk => hk) hn hown hg hat hv hvk hvd
  have hx := h.store
  have key : ∀ (k : Nat) (cells : Array Value) (q : TypeId), w.heap[k]? = some (.cells cells q (0, 0)) → q ≠ 62 → w1.heap[k]? = w.heap[k]? := fun k cells q hk hq => hg.block k (blk_lt hk) (fun e => by
    obtain ⟨cs, hc⟩ := own_typed h.lv.own k e.symm
    exact hq (blk_ty hk hc))
  refine JX.setLv ⟨h.okg, h.oks, h.okv, h.ge, (key g _ _ h.blk (by decide)).trans h.blk, ⟨hx.1, hx.2.1, (key gs _ _ hx.2.2.1 (by decide)).trans hx.2.2.1, own_move hx.2.2.2 (fun k e => ?_)⟩, hL⟩
  obtain ⟨cs, hc⟩ := own_typed hx.2.2.2 k e
  exact key k _ _ hc (by decide)
set_option maxHeartbeats 4000000 in
set_option maxRecDepth 100000 in
theorem j_copy (base g : Nat) (ok : Nat → Prop) (st : JSt) (w : World) (h : JM base ok g st w) (hl : st.cur.length ≤ 1000000000) (hn : st.lv.length ≤ 1000) (hm : ∀ l ∈ st.lv, l.length ≤ 1000000) :
    Calls Try.prog 15 #[.pointer (some ⟨g, 0, none⟩)] w fun e w' => ∃ gc, e = .returned (.pointer (some ⟨gc, 0, none⟩)) ∧ JM w.heap.size (fun k => w.heap.size ≤ k) gc st w' ∧ Below w.heap.size w w' := by
  obtain ⟨gs, sv, lvv, vs, h⟩ := h
  obtain ⟨A, c, rfl, hnc, hc63⟩ := row_slice h.lv.own
  have hg := blk_lt h.blk
  have y0 : w.cell? ⟨g, 0, none⟩ = some (.pointer (some ⟨gs, 0, none⟩)) := (blk_cell h.blk 0).trans rfl
  have y1 : w.cell? ⟨g, 1, none⟩ = some (.slice A st.lv.length c) := (blk_cell h.blk 1).trans rfl
  go_enter Try.func15, Try.ntmps15
  go_wp2_with fail
  refine (st_copy base gs sv st.cur w h.store hl).mono ?_
  rintro e w2 ⟨g2, v2, rfl, s2, hb2⟩
  have n3 := my_alloc_new w2 (.cells #[.pointer (some ⟨g2, 0, none⟩), .slice none 0 0] 60)
  have hb3 : Below w2.heap.size w2 (w2.alloc (.cells #[.pointer (some ⟨g2, 0, none⟩), .slice none 0 0] 60)) := (Below.refl _ w2).alloc (Nat.le_refl _) _
  have J0 := Aside0.mk (jx_fresh _ w2.heap.size _ _ _ _ (StoreIs.below s2 hb3) hb2.size n3)
  have HB := Aside0.mk (hb2.alloc hb2.size (.cells #[.pointer (some ⟨g2, 0, none⟩), .slice none 0 0] 60))
  replace y1 := (HB.out.cell (p := ⟨g, 1, none⟩) hg).trans y1
  have hlv := Aside0.mk h.lv
  clear y0 n3 hb3 s2 hb2 h
  go_wp2_with fail
  generalize w2.heap.size = gc at J0 ⊢
  go_loopg [5, 20] st.lv.length (fun gg s5 s20 wx => ∃ (j : Nat) (lvc : Value) (vsc : List Value), s20 = .int .i64 j ∧ j + gg = st.lv.length ∧ Aside0 (JX w.heap.size (fun k => w.heap.size ≤ k) gc g2 v2 lvc vsc ⟨st.cur, st.lv.take j⟩ wx) ∧ Aside0 (Below w.heap.size w wx))
  case atStart => exact ⟨0, _, _, rfl, by omega, J0, HB⟩
  case round =>
    clear HB J0
    obtain ⟨j, lvc, vsc, rfl, hj, J1, HB⟩ := hrel
    by_cases hlt : j < st.lv.length
    · have hkl : ((j : Nat) : Int) < (st.lv.length : Int) := by omega
      have hLj : (st.lv.take j).length = j := by rw [List.length_take]; omega
      obtain ⟨b, rfl⟩ : ∃ b, A = some ⟨b, 0, none⟩ := by
        rcases hlv.out.own.2 with ⟨e, hx⟩ | ⟨b, _, _, e, _⟩
        · omega
        · injection e with e; exact ⟨b, e⟩
      have hiv : j < vs.length := by rw [hlv.out.len]; omega
      have ev : vs[j]? = some vs[j] := List.getElem?_eq_getElem hiv
      obtain ⟨l, el, ol⟩ := hlv.out.get ev
      have hll : l.length ≤ 1000000 := hm l (List.mem_of_getElem? el)
      have cvw : w.cell? ⟨b, j, none⟩ = some vs[j] := by
        have := hlv.out.own.cells (g := b) rfl j vs[j] ev
        rwa [add_plain] at this
      have cv := (HB.out.cell (World.block_lt_of_cell? _ _ cvw)).trans cvw
      obtain ⟨Al, cl, hsl, _, _⟩ := row_slice ol
      have clone_at : ∀ W, Below w.heap.size w W → Calls Try.prog 30 #[.slice Al l.length cl] W fun e w' => ∃ v', e = .returned v' ∧ w'.ownsRow W.heap.size 65 3 v' l.length (encU l) ∧ Below W.heap.size W w' := by
        intro W hW
        rw [hsl] at ol
        refine uclone_calls Al cl l W (by omega) (fun e => ?_) (fun a e i u hu => ?_)
        · subst e
          rcases ol.2 with ⟨_, hx⟩ | ⟨_, _, _, e, _⟩
          · exact List.length_eq_zero_iff.1 hx
          · cases e
        · subst e
          rcases ol.2 with ⟨e, _⟩ | ⟨b2, _, _, e, _⟩
          · cases e
          · injection e with e; injection e with e
            subst e
            have := ol.cells (g := b2) rfl i u hu
            exact (hW.cell (World.block_lt_of_cell? _ _ this)).trans this
      rw [hsl] at cv
      clear hsl ol cvw
      obtain ⟨Ac, cc, elc, _, _⟩ := row_slice J1.out.lv.own
      rw [hLj] at elc
      subst elc
      have x1 : wr.cell? ⟨gc, 1, none⟩ = some (.slice Ac j cc) := (blk_cell J1.out.blk 1).trans (by first | rfl | (rw [hLj]; rfl))
      have hcl : True := trivial
      go_upto_region 7 with (fail)
      refine start_ (n := 12) (S := fun w' => w'.cell? ⟨gc, 1, none⟩ = some (.slice Ac j cc)) (ds := [11]) #[false, false, false, false, false, false, false, false, false, false, false, false] (by kernel_rfl) rfl rfl x1 (fun hHeld => ?_)
      have J4 := Aside0.mk (JX.step J1.out (below_drew (Below.refl _ _)))
      have HB4 := Aside0.mk (below_drew HB.out)
      have hcl4 := clone_at (wr.drew) (below_drew HB.out)
      have hN4 : w.heap.size ≤ wr.drew.heap.size := HB.out.size
      clear J1 HB x1 hcl
      generalize wr.drew = w4 at hHeld J4 HB4 hcl4 hN4 ⊢
      refine pure_ (i := 0) (N := some 24) (v := ?_) (a' := ?_) #[true, false, false, false, false, false, false, false, false, false, false, false] rfl rfl (by kernel_rfl) (fun _ _ _ h => h) (Or.inl ⟨by rfl, ?_⟩) ?_ ?_
      rotate_left
      · intro w'
        go_simp
        with_reducible rfl
      rotate_left
      · simp only [Act.put, List.setIfInBounds_toArray, List.set_cons_zero, List.set_cons_succ, i64_w, i32_w]
        rfl
      refine pure_ (i := 1) (N := some 25) (v := ?_) (a' := ?_) #[true, true, false, false, false, false, false, false, false, false, false, false] rfl rfl (by kernel_rfl) (fun _ _ _ h => h) (Or.inl ⟨by rfl, ?_⟩) ?_ ?_
      rotate_left
      · intro w'
        go_simp
        with_reducible rfl
      rotate_left
      · simp only [Act.put, List.setIfInBounds_toArray, List.set_cons_zero, List.set_cons_succ, i64_w, i32_w]
        rfl
      refine pure_ (i := 2) (N := some 26) (v := ?_) (a' := ?_) #[true, true, true, false, false, false, false, false, false, false, false, false] rfl rfl (by kernel_rfl) (fun _ _ _ h => h) (Or.inl ⟨by rfl, ?_⟩) ?_ ?_
      rotate_left
      · intro w'
        go_simp
        with_reducible rfl
      rotate_left
      · simp only [Act.put, List.setIfInBounds_toArray, List.set_cons_zero, List.set_cons_succ, i64_w, i32_w]
        rfl
      refine pure_ (i := 3) (N := some 27) (v := ?_) (a' := ?_) #[true, true, true, true, false, false, false, false, false, false, false, false] rfl rfl (by kernel_rfl) (fun _ _ _ h => h) (Or.inl ⟨by rfl, ?_⟩) ?_ ?_
      rotate_left
      · intro w'
        go_simp
        with_reducible rfl
      rotate_left
      · simp only [Act.put, List.setIfInBounds_toArray, List.set_cons_zero, List.set_cons_succ, i64_w, i32_w]
        rfl
      refine take_ (i := 4) (N := some 28) (v := ?_) (a' := ?_) #[true, true, true, true, true, false, false, false, false, false, false, false] rfl rfl (by kernel_rfl) (fun _ _ _ h => h) (Or.inl ⟨by rfl, ?_⟩) hHeld ?_ ?_
      rotate_left
      · rintro w' s0
        go_simp
        with_reducible rfl
      rotate_left
      · simp only [Act.put, List.setIfInBounds_toArray, List.set_cons_zero, List.set_cons_succ, i64_w, i32_w]
        rfl
      refine pure_ (i := 5) (N := some 29) (v := ?_) (a' := ?_) #[true, true, true, true, true, true, false, false, false, false, false, false] rfl rfl (by kernel_rfl) (fun _ _ _ h => h) (Or.inl ⟨by rfl, ?_⟩) ?_ ?_
      rotate_left
      · intro w'
        go_simp
        with_reducible rfl
      rotate_left
      · simp only [Act.put, List.setIfInBounds_toArray, List.set_cons_zero, List.set_cons_succ, i64_w, i32_w]
        rfl
      refine one_ (i := 6) (N := some 30) #[true, true, true, true, true, true, true, false, false, false, false, false] rfl rfl (by kernel_rfl) (by decide) (fun K hK => ?_)
      refine goes_ Try.func30 (by kernel_rfl) rfl #[.slice Al l.length cl] (by rfl) rfl rfl (by (try simp only [List.map_toArray, List.map_cons, List.map_nil]); first | done | rfl) ?_
      refine hcl4.mono ?_
      rintro e w5 ⟨v5, rfl, o5, hb5⟩
      obtain ⟨A5, c5, rfl, _, _⟩ := row_slice o5
      refine ⟨_, rfl, ?_⟩
      have J5 := Aside0.mk (JX.step J4.out hb5)
      have HB5 := Aside0.mk (HB4.out.trans (hb5.mono HB4.out.size))
      have hle5 := hb5.size
      have O5 := Aside0.mk o5
      have hvb : ∀ (k i : Nat) (a : Value), (vsc : List Value)[i]? = some a → a.ownBlock = some k → k < w4.heap.size := fun k i a e1 e2 => by obtain ⟨l2, _, h2⟩ := J4.out.lv.get e1; exact own_lt h2 k e2
      clear hcl4 J4 HB4 o5 hb5
      refine hK.out _ _ ((blk_cell J5.out.blk 1).trans (by first | rfl | (rw [hLj]; rfl))) (fun hHeld => ?_)
      clear hK K
      refine norm_ (a' := ?_) ?_ ?_
      rotate_left
      · show Act.put _ (some 30) _ = _
        simp only [Act.put, List.setIfInBounds_toArray, List.set_cons_zero, List.set_cons_succ, i64_w, i32_w]
        rfl
      refine one_ (i := 7) (N := some 31) #[true, true, true, true, true, true, true, true, false, false, false, false] rfl rfl (by kernel_rfl) (by decide) (fun K hK => ?_)
      refine value_ (w1 := ?_) (v := ?_) (by rfl) rfl ?_ ?_
      rotate_left 2
      · go_simp
        constructor
        · rfl
        · rfl
      refine hK.out _ _ ((blk_cell (blk_alloc J5.out.blk _) 1).trans (by first | rfl | (rw [hLj]; rfl))) (fun hHeld => ?_)
      clear hK K
      refine norm_ (a' := ?_) ?_ ?_
      rotate_left
      · show Act.put _ (some 31) _ = _
        simp only [Act.put, List.setIfInBounds_toArray, List.set_cons_zero, List.set_cons_succ, i64_w, i32_w]
        rfl
      have hb6 : Below w5.heap.size w5 (w5.alloc (.cells #[.slice A5 l.length c5] 62)) := (Below.refl _ w5).alloc (Nat.le_refl _) _
      have J6 := Aside0.mk (JX.step J5.out hb6)
      obtain ⟨v7, w7, hrun, o7, g7, at7⟩ := lv_append w.heap.size (.slice Ac j cc) j vsc _ (by have h9 := J6.out.lv.own; rw [hLj] at h9; exact h9) (by omega) (Nat.le_trans HB5.out.size hb6.size) w5.heap.size _ (my_alloc_new w5 _) rfl 58
      obtain ⟨A7, c7, rfl, _, _⟩ := row_slice o7
      have hng : some gc ≠ (Value.slice Ac j cc).ownBlock := fun e => by obtain ⟨cs, hc⟩ := own_typed J6.out.lv.own gc (by first | exact e.symm | (rw [hLj]; exact e.symm)); exact absurd (blk_ty J6.out.blk hc) (by decide)
      have b7 := (g7.block gc (blk_lt J6.out.blk) hng).trans J6.out.blk
      refine one_ (i := 8) (N := some 32) #[true, true, true, true, true, true, true, true, true, false, false, false] rfl rfl (by kernel_rfl) (by decide) (fun K hK => ?_)
      refine value_ (by rfl) rfl (exec_append _ _ _ _ rfl _ _ rfl rfl hrun) ?_
      refine hK.out _ _ ((blk_cell b7 1).trans (by first | rfl | (rw [hLj]; rfl))) (fun hHeld => ?_)
      clear hK K
      refine norm_ (a' := ?_) ?_ ?_
      rotate_left
      · show Act.put _ (some 32) _ = _
        simp only [Act.put, List.setIfInBounds_toArray, List.set_cons_zero, List.set_cons_succ, i64_w, i32_w]
        rfl
      refine pure_ (i := 9) (N := some 33) (v := ?_) (a' := ?_) #[true, true, true, true, true, true, true, true, true, true, false, false] rfl rfl (by kernel_rfl) (fun _ _ _ h => h) (Or.inl ⟨by rfl, ?_⟩) ?_ ?_
      rotate_left
      · intro w'
        go_simp
        with_reducible rfl
      rotate_left
      · simp only [Act.put, List.setIfInBounds_toArray, List.set_cons_zero, List.set_cons_succ, i64_w, i32_w]
        rfl
      refine pure_ (i := 10) (N := some 34) (v := ?_) (a' := ?_) #[true, true, true, true, true, true, true, true, true, true, true, false] rfl rfl (by kernel_rfl) (fun _ _ _ h => h) (Or.inl ⟨by rfl, ?_⟩) ?_ ?_
      rotate_left
      · intro w'
        go_simp
        with_reducible rfl
      rotate_left
      · simp only [Act.put, List.setIfInBounds_toArray, List.set_cons_zero, List.set_cons_succ, i64_w, i32_w]
        rfl
      refine last_ (i := 11) (N := none) #[true, true, true, true, true, true, true, true, true, true, true, true] rfl rfl (by kernel_rfl) (by decide) (fun K hK => ?_)
      have z7 := blk_frozen b7 1
      refine skip_ (w1 := w7.setCell ⟨gc, 1, none⟩ (.slice A7 (j + 1) c7)) (by rfl) rfl ?_ ?_
      · go_simp
        try rfl
      refine hK.out _ _ ?_
      refine done_ (by kernel_rfl) ?_
      have hN6 : w.heap.size ≤ (w5.alloc (.cells #[.slice A5 l.length c5] 62)).heap.size := Nat.le_trans HB5.out.size hb6.size
      have h45 : w.heap.size ≤ w4.heap.size := hN4
      have hJ' := J6.out.push (l := l) (v := .slice A5 l.length c5) (fun k hk => Nat.le_trans hN6 hk) (by rw [show (JSt.mk st.cur (st.lv.take j)).lv.length = j from hLj]; exact o7) g7 at7 (own_less (own_alloc O5.out _) h45) (fun k e => Nat.le_trans h45 (own_base O5.out k e)) (fun k e i a e1 e2 => by have := hvb k i a e1 e2; have := own_base O5.out k e; omega)
      have etk : st.lv.take j ++ [l] = st.lv.take (j + 1) := by rw [List.take_add_one, el]; rfl
      have hJ2 : Aside0 (JX w.heap.size (fun k => w.heap.size ≤ k) gc g2 v2 (.slice A7 (j + 1) c7) (vsc ++ [.slice A5 l.length c5]) ⟨st.cur, st.lv.take (j + 1)⟩ (w7.setCell ⟨gc, 1, none⟩ (.slice A7 (j + 1) c7))) := by
        rw [← etk]; exact Aside0.mk hJ'
      have hlk : ∀ k, (Value.slice Ac j cc).ownBlock = some k → w.heap.size ≤ k := fun k e => own_base J6.out.lv.own k e
      have HB7 := Aside0.mk (Below.setCell ((HB5.out.alloc HB5.out.size (.cells #[.slice A5 l.length c5] 62)).grown g7 hN6 hlk) (p := ⟨gc, 1, none⟩) J6.out.ge (.slice A7 (j + 1) c7))
      clear hJ' J6 J5 HB5 O5 o7 g7 at7 b7 z7 hng hHeld hb6 hvb hlk
      go_wp2
      go_roundg (st.lv.length - (j + 1))
      case measure => omega
      case rel => exact ⟨j + 1, _, _, by first | rfl | (simp; done), by omega, hJ2, HB7⟩
    · obtain rfl : j = st.lv.length := by omega
      rw [List.take_length] at J1
      have hfin := Aside0.mk (show ∃ gc', Ending.returned (.pointer (some ⟨gc, 0, none⟩)) = .returned (.pointer (some ⟨gc', 0, none⟩)) ∧ JM w.heap.size (fun k => w.heap.size ≤ k) gc' st wr ∧ Below w.heap.size w wr from ⟨gc, rfl, ⟨_, _, _, _, J1.out⟩, HB.out⟩)
      clear J1 HB hlv
      go_wp2
      go_ret
      exact hfin.out

/-! ### words: jl2.inc -/
/-! ### a journal, its copy, and the document's levels, beside each other -/
theorem JM.lower {base base' : Nat} {ok : Nat → Prop} {g : Nat} {st : JSt} {w : World} (h : JM base ok g st w) (hb : base' ≤ base) : JM base' ok g st w := by
  obtain ⟨gs, sv, lvv, vs, h⟩ := h
  exact ⟨gs, sv, lvv, vs, h.okg, h.oks, h.okv, Nat.le_trans hb h.ge, h.blk, ⟨Nat.le_trans hb h.store.1, h.store.2.1, h.store.2.2.1, own_less h.store.2.2.2 hb⟩, ⟨h.lv.len, h.lv.ok0, own_less h.lv.own hb, fun i v l e1 e2 => own_less (h.lv.row i v l e1 e2) hb, h.lv.oks, h.lv.dis⟩⟩
def JL2 (n g gk : Nat) (st sk : JSt) (v : Value) (L : List (List S51)) (W : World) : Prop :=
  ∃ okJ okK : Nat → Prop, (∀ k, okJ k → n ≤ k ∧ k < W.heap.size) ∧ (∀ k, okK k → n ≤ k ∧ k < W.heap.size) ∧ (∀ k, okJ k → ¬ okK k) ∧ JM n okJ g st W ∧ JM n okK gk sk W ∧ Kd.V (Kd.slice 51 k51) 26 W 0 (fun k => ¬ okJ k ∧ ¬ okK k) v L
/-- The copy has been made. -/
theorem JL2.made {n g gk : Nat} {st sk : JSt} {v : Value} {L : List (List S51)} {W W' : World} (h : JL n g st v L W) (hn : n ≤ W.heap.size) (hb : Below W.heap.size W W') (hk : JM W.heap.size (fun k => W.heap.size ≤ k) gk sk W') : JL2 n g gk st sk v L W' := by
  obtain ⟨ok, h1, h2, h3⟩ := h
  refine ⟨ok, _, fun k hk => ⟨(h1 k hk).1, Nat.lt_of_lt_of_le (h1 k hk).2 hb.size⟩, fun k hk => ⟨Nat.le_trans hn hk.2.1, hk.2.2.1⟩, fun k h4 h5 => ?_, h2.below hb, (JM.bound hk).lower hn, Kd.V_mono (Kd.V_old h3 hb) (fun k h4 => ⟨h4.1, fun h5 => ?_⟩)⟩
  · have := (h1 k h4).2; have := h5.2.1; omega
  · have := h4.2; have := h5.2.1; omega
theorem JL2.below {n g gk : Nat} {st sk : JSt} {v : Value} {L : List (List S51)} {W W' : World} (h : JL2 n g gk st sk v L W) (hb : Below W.heap.size W W') : JL2 n g gk st sk v L W' := by
  obtain ⟨okJ, okK, h1, h2, h3, h4, h5, h6⟩ := h
  exact ⟨okJ, okK, fun k hk => ⟨(h1 k hk).1, Nat.lt_of_lt_of_le (h1 k hk).2 hb.size⟩, fun k hk => ⟨(h2 k hk).1, Nat.lt_of_lt_of_le (h2 k hk).2 hb.size⟩, h3, h4.below hb, h5.below hb, Kd.V_below h6 hb⟩
/-- A deed of the first journal. -/
theorem JL2.did {n g gk : Nat} {st' sk : JSt} {v : Value} {L : List (List S51)} {W W' : World} {okJ okK : Nat → Prop} (h2 : ∀ k, okK k → n ≤ k ∧ k < W.heap.size) (h3 : ∀ k, okJ k → ¬ okK k) (h5 : JM n okK gk sk W)
    (h6 : Kd.V (Kd.slice 51 k51) 26 W 0 (fun k => ¬ okJ k ∧ ¬ okK k) v L) (hm : JM n (fun k => okJ k ∨ W.heap.size ≤ k) g st' W') (hw : JW okJ W W') : JL2 n g gk st' sk v L W' := by
  refine ⟨_, okK, fun k hk => ⟨hk.2.1, hk.2.2.1⟩, fun k hk => ⟨(h2 k hk).1, Nat.lt_of_lt_of_le (h2 k hk).2 hw.size⟩, fun k hk hk2 => hk.1.elim (fun h => h3 k h hk2) (fun h => by have := (h2 k hk2).2; omega), hm.bound, h5.move (fun k cells q hk hc => hw.block k (blk_lt hc) (fun h => h3 k h hk)), ?_⟩
  exact Kd.V_mono (Kd.V_step (Kd.V_bound h6) (fun k hk hlt => hw.block k hlt hk.1.1)) (fun k hk => ⟨fun h => h.1.elim hk.1.1 (fun h => by have := hk.2; omega), hk.1.2⟩)
/-- The first journal forgotten. -/
theorem JL2.snd {n g gk : Nat} {st sk : JSt} {v : Value} {L : List (List S51)} {W : World} (h : JL2 n g gk st sk v L W) : JL n gk sk v L W := by
  obtain ⟨okJ, okK, h1, h2, h3, h4, h5, h6⟩ := h
  exact ⟨okK, h2, h5, Kd.V_mono h6 (fun k hk => hk.2)⟩
theorem v_at {P : Nat → Prop} {v : Value} {L : List (List S51)} {W : World} (h : Kd.V (Kd.slice 51 k51) 26 W 0 P v L) (q : Nat) (hq : q < L.length) :
    ∃ ad A0 c0 cv, v = .slice (some ad) L.length cv ∧ W.cell? (ad.add q) = some (.slice A0 (L.getD q []).length c0) ∧ (L.getD q []).length ≤ c0 ∧ Kd.F k51 W P A0 (L.getD q []).length (L.getD q []) ∧ P ad.block := by
  obtain ⟨A, cv, rfl, hl, hf⟩ := h
  obtain ⟨ad, cs, rfl, _, hK, hcc, hin⟩ := Kd.F_get hf ([] : List S51) (q : Int) (by omega) (by omega)
  obtain ⟨A0, c0, rfl, hl0, hF⟩ := Kd.FK_slice_open hK
  have h1 : W.cell? (ad.add ((q : Int).toNat * 1 + 0)) = some (.slice A0 (L.getD (q : Int).toNat []).length c0) := hcc 0 _ rfl
  rw [Int.toNat_natCast] at h1 hl0 hF
  rw [Nat.mul_one, Nat.add_zero] at h1
  exact ⟨ad, A0, c0, cv, rfl, h1, hl0, hF, hin (by decide)⟩
theorem roll_rel (sk : JSt) (L : List (List S51)) (q : Nat) (h1 : sk.lv.length = q + 1) (h2 : lvsK sk.lv sk.cur = L.take (q + 2)) :
    (rolJ sk).lv.length = q ∧ lvsK (rolJ sk).lv (rolJ sk).cur = L.take (q + 1) ∧ (rolJ sk).cur = L.getD q [] ∧ q < L.length := by
  obtain ⟨c, lv⟩ := sk
  rcases List.eq_nil_or_concat lv with rfl | ⟨I, y, rfl⟩
  · simp at h1
  rw [List.concat_eq_append] at h1 h2 ⊢
  have hI : I.length = q := by rw [List.length_append, List.length_singleton] at h1; omega
  have hr : rolJ ⟨c, I ++ [y]⟩ = ⟨undoL y c, I⟩ := by
    unfold rolJ lvAt
    simp
  have h2 : lvsK (I ++ [y]) c = L.take (q + 2) := h2
  rw [lvsK_snoc] at h2
  have hlen := congrArg List.length h2
  rw [List.length_append, lvsK_len, List.length_singleton, List.length_take] at hlen
  have h3 : lvsK I (undoL y c) = L.take (q + 1) := by
    have := congrArg (List.take (q + 1)) h2
    rw [List.take_left' (by rw [lvsK_len]; omega), List.take_take, Nat.min_eq_left (by omega)] at this
    exact this
  rw [hr]
  refine ⟨hI, h3, ?_, by omega⟩
  rw [lvsK_pre] at h3
  have h4 : (preK I (undoL y c) ++ [undoL y c])[q]? = (L.take (q + 1))[q]? := by rw [h3]
  rw [List.getElem?_append_right (by rw [preK_len]; omega), preK_len, hI, Nat.sub_self, List.getElem?_take, if_pos (by omega)] at h4
  show undoL y c = _
  rw [List.getD_eq_getElem?_getD, ← h4]
  rfl

end Go.Proofs.Ytcbaojkfffodiaa.PJou
