-- written by wip/myprint.py over the kit's print; not a printed text of print.sh
import Derived.Test.YtcbaojkfffodiaaPJoux0
import Derived.Test.YtcbaojkfffodiaaPJoux3
import Derived.Test.YtcbaojkfffodiaaPJoux4
import Derived.Test.YtcbaojkfffodiaaPJoux5
import Derived.Test.YtcbaojkfffodiaaPJoux6
import Derived.Test.YtcbaojkfffodiaaPJoux8
import Derived.Test.YtcbaojkfffodiaaPJoux9
import Derived.Test.YtcbaojkfffodiaaPJoux10
namespace Go.Proofs.Ytcbaojkfffodiaa.PJou
open Go.RowKit Go.Proofs.YtcbaojkfffodiaaW.PrintWords Go.Proofs.YtcbaojkfffodiaaW.PrintLast Go.Proofs.YtcbaojkfffodiaaW.PrintMore
attribute [local go_sem] max2_int min2_int max_two min_two max_three min_three max_four min_four   -- for this text's walks alone
set_option linter.unusedVariables false
set_option linter.unusedSimpArgs false

/-! ### journal_Journal_Set: function 18 -/
set_option maxHeartbeats 1000000 in
set_option maxRecDepth 100000 in
theorem j_set (base g : Nat) (ok : Nat → Prop) (st : JSt) (key value : ByteArray) (w : World) (h : JM base ok g st w) (hl : st.cur.length ≤ 1000000000) (hn : st.lv.length ≤ 1000000) (hm : ∀ l ∈ st.lv, l.length ≤ 1000000) (hb : base ≤ w.heap.size) :
    Calls Try.prog 18 #[.pointer (some ⟨g, 0, none⟩), .string key, .string value] w (JPost base ok g (setJ st key value) (.int .i64 (setE key value)) w) := by
  unfold setJ setE
  by_cases hbig : key.size > 65536 ∨ value.size > 65536
  · rw [if_pos hbig, if_pos hbig]
    have hfin : JPost base ok g st (.int .i64 4) w (.returned (.int .i64 4)) w := ⟨rfl, h.mono (fun k hk => .inl hk), JW.of_below (Below.refl _ _)⟩
    replace hfin := Aside0.mk hfin
    clear h
    by_cases hk : key.size > 65536
    · go_enter Try.func18, Try.ntmps18
      go_wp2
      go_ret
      exact hfin.out
    · have hv : value.size > 65536 := hbig.resolve_left hk
      go_enter Try.func18, Try.ntmps18
      go_wp2
      go_ret
      exact hfin.out
  · rw [if_neg hbig, if_neg hbig]
    have hk : ¬ 65536 < key.size := fun h => hbig (.inl h)
    have hv : ¬ 65536 < value.size := fun h => hbig (.inr h)
    have y0 : ∃ gs, w.cell? ⟨g, 0, none⟩ = some (.pointer (some ⟨gs, 0, none⟩)) := by
      obtain ⟨gs, sv, lvv, vs, h⟩ := h
      exact ⟨gs, (blk_cell h.blk 0).trans rfl⟩
    clear hbig y0
    go_enter Try.func18, Try.ntmps18
    go_wp2_with fail
    refine (j_note base g ok st key w h hl hn hm hb).mono ?_
    rintro e w2 ⟨rfl, ⟨gs, sv, lvv, vs, h2⟩, W2⟩
    have y0 : w2.cell? ⟨g, 0, none⟩ = some (.pointer (some ⟨gs, 0, none⟩)) := (blk_cell h2.blk 0).trans rfl
    replace W2 := Aside0.mk W2
    clear h
    go_wp2_with fail
    refine (st_set base gs sv (noteJ st key).cur key value _ h2.store hl (Nat.le_trans hb W2.out.size)).mono ?_
    rintro e w3 ⟨rfl, sv3, s3, W3, at3⟩
    have hfin : JPost base ok g { noteJ st key with cur := setK st.cur key value } (.int .i64 0) w (.returned (.int .i64 0)) w3 :=
      ⟨rfl, ⟨_, _, _, _, (h2.stored s3 W3 at3).mono (fun k hk => hk.elim id (fun h => .inr (Nat.le_trans W2.out.size h)))⟩, W2.out.trans (JW.of_store W3 h2.oks h2.okv) (fun k hk => hk)⟩
    replace hfin := Aside0.mk hfin
    clear h2 s3 W3 at3 W2 y0
    go_wp2
    go_ret
    exact hfin.out
set_option maxHeartbeats 1000000 in
set_option maxRecDepth 100000 in
theorem j_del (base g : Nat) (ok : Nat → Prop) (st : JSt) (key : ByteArray) (w : World) (h : JM base ok g st w) (hl : st.cur.length ≤ 1000000000) (hn : st.lv.length ≤ 1000000) (hm : ∀ l ∈ st.lv, l.length ≤ 1000000) (hb : base ≤ w.heap.size) :
    Calls Try.prog 19 #[.pointer (some ⟨g, 0, none⟩), .string key] w (JPost base ok g (delJ st key) (.int .i64 (delE st key)) w) := by
  unfold delJ delE
  obtain ⟨gs, sv, lvv, vs, h⟩ := h
  have y0 : w.cell? ⟨g, 0, none⟩ = some (.pointer (some ⟨gs, 0, none⟩)) := (blk_cell h.blk 0).trans rfl
  have hg2 : (getK st.cur key).2 = hasK st.cur key := by unfold getK; cases hasK st.cur key <;> rfl
  cases hh : hasK st.cur key with
  | false =>
    rw [if_neg (by simp), if_neg (by simp)]
    go_enter Try.func19, Try.ntmps19
    go_wp2_with fail
    refine (st_get base gs st.cur key _ h.store.at_ hl).mono ?_
    rintro e w2 ⟨rfl, hb2⟩
    rw [hg2, hh]
    have hfin : JPost base ok g st (.int .i64 8) w (.returned (.int .i64 8)) w2 := ⟨rfl, ⟨_, _, _, _, (h.step hb2).mono (fun k hk => .inl hk)⟩, JW.of_below hb2⟩
    replace hfin := Aside0.mk hfin
    clear h hb2 hg2
    go_wp2
    go_ret
    exact hfin.out
  | true =>
    rw [if_pos rfl, if_pos rfl]
    go_enter Try.func19, Try.ntmps19
    go_wp2_with fail
    refine (st_get base gs st.cur key _ h.store.at_ hl).mono ?_
    rintro e w1 ⟨rfl, hb1⟩
    rw [hg2, hh]
    have h1 : JM base ok g st w1 := ⟨_, _, _, _, h.step hb1⟩
    replace hb1 := Aside0.mk hb1
    clear h y0 hg2
    go_wp2_with fail
    refine (j_note base g ok st key w1 h1 hl hn hm (Nat.le_trans hb hb1.out.size)).mono ?_
    rintro e w2 ⟨rfl, ⟨gs, sv, lvv, vs, h2⟩, W2⟩
    have y0 : w2.cell? ⟨g, 0, none⟩ = some (.pointer (some ⟨gs, 0, none⟩)) := (blk_cell h2.blk 0).trans rfl
    replace W2 := Aside0.mk ((JW.of_below hb1.out : JW ok w w1).trans W2 (fun k hk => .inl hk))
    have hs1 := hb1.out.size
    clear h1 hb1
    go_wp2_with fail
    refine (st_del base gs sv (noteJ st key).cur key _ h2.store hl).mono ?_
    rintro e w3 ⟨rfl, sv3, s3, W3, at3⟩
    have hfin : JPost base ok g { noteJ st key with cur := delK st.cur key } (.int .i64 0) w (.returned (.int .i64 0)) w3 :=
      ⟨rfl, ⟨_, _, _, _, (h2.stored s3 W3 at3).mono (fun k hk => hk.elim (fun h => h.imp_right (fun h => Nat.le_trans hs1 h)) (fun h => .inr (Nat.le_trans W2.out.size h)))⟩, W2.out.trans (JW.of_store W3 h2.oks h2.okv) (fun k hk => hk.imp_right (fun h => Nat.le_trans hs1 h))⟩
    replace hfin := Aside0.mk hfin
    clear h2 s3 W3 at3 W2 y0
    go_wp2
    go_ret
    exact hfin.out

/-! ### journal_Journal_last: function 31 -/
theorem lvl_appends (base b2 : Nat) (v s : Value) (l m : List S65) (w : World) (ho : w.ownsRow base 65 3 v l.length (encU l)) (hs : w.ownsRow b2 65 3 s m.length (encU m)) (hn : l.length + m.length ≤ 1000000000) (hb : base ≤ w.heap.size) (ty : TypeId) :
    ∃ v1 w1, (Builtin.append_ #[62, 62] ty #[v, s]).run Try.prog w = .ok v1 w1 ∧ w1.ownsRow base 65 3 v1 (l ++ m).length (encU (l ++ m)) ∧ w.grownBy w1 v.ownBlock ∧ (v1.ownBlock = v.ownBlock ∨ ∃ b, v1.ownBlock = some b ∧ w.heap.size ≤ b) := by
  obtain ⟨i0, hi0, hz⟩ := Option.map_eq_some_iff.1 info65
  simp only [Prod.mk.injEq] at hz
  obtain ⟨hz0, hz1, hz2⟩ := hz
  rcases hs.2 with ⟨rfl, hm⟩ | ⟨bs, cap, cur, rfl, hbb, hg, hnc, hmx, hsz, hx⟩
  · obtain ⟨A, c, rfl, hnc, hc63⟩ := row_slice ho
    obtain rfl := List.length_eq_zero_iff.1 hm
    refine ⟨.slice A l.length c, w, ?_, by rw [List.append_nil]; exact ho, ⟨rfl, rfl, rfl, Nat.le_refl _, fun _ _ _ => rfl⟩, .inl rfl⟩
    simp [Builtin.append_, run_underlying Try.underlying62, sizeOf, typeInfo, hi0, Builtin.lenOf, Builtin.firstCells, storeCells, hnc]
    cases A <;> rfl
  · obtain ⟨v1, w1, hrun, a1, a2, _, a3⟩ := run_append_own_at (P := Try.prog) (w := w) base 62 ty 65 i0 _ 3 40 Try.underlying62 hi0 hz0 hz1 hz2 rfl (by decide) v l.length (encU l) ho ⟨bs, 0, none⟩ m.length cap (encU m) (encU_len m)
      (fun j x hj => hs.cells (g := bs) rfl j x hj) (encU_one m) (by unfold maxLen; omega) (by omega) hb
    refine ⟨v1, w1, hrun, ?_, a2, a3.imp_right (fun h => ⟨_, h, Nat.le_refl _⟩)⟩
    rw [List.length_append, encU_append]
    exact a1
set_option maxHeartbeats 1000000 in
set_option maxRecDepth 100000 in
theorem j_last0 (base g : Nat) (ok : Nat → Prop) (st : JSt) (w : World) (h : JM base ok g st w) (h0 : st.lv.length = 0) :
    Calls Try.prog 31 #[.pointer (some ⟨g, 0, none⟩)] w fun e w' => e = .returned (.tuple #[.slice none 0 0, .int .i64 10]) ∧ w' = w := by
  obtain ⟨gs, sv, lvv, vs, h⟩ := h
  obtain ⟨A, c, rfl, hnc, hc63⟩ := row_slice h.lv.own
  have y1 : w.cell? ⟨g, 1, none⟩ = some (.slice A st.lv.length c) := (blk_cell h.blk 1).trans rfl
  clear h
  rw [h0] at y1
  go_enter Try.func31, Try.ntmps31
  go_wp2
  go_ret2
  exact ⟨rfl, rfl⟩
set_option maxHeartbeats 1000000 in
set_option maxRecDepth 100000 in
theorem j_last (base g gs i : Nat) (ok : Nat → Prop) (sv lvv : Value) (vs : List Value) (st : JSt) (w : World) (h : JX base ok g gs sv lvv vs st w) (hi : st.lv.length = i + 1) (hn : st.lv.length ≤ 1000000) :
    Calls Try.prog 31 #[.pointer (some ⟨g, 0, none⟩)] w fun e w' => ∃ v lvv', e = .returned (.tuple #[v, .int .i64 0]) ∧ vs[i]? = some v ∧ JX base ok g gs sv lvv' (vs.take i) ⟨st.cur, st.lv.take i⟩ w' ∧ w'.ownsRow base 65 3 v (lvAt st.lv i).length (encU (lvAt st.lv i)) ∧ JW ok w w' := by
  obtain ⟨A, c, rfl, hnc, hc63⟩ := row_slice h.lv.own
  obtain ⟨b, rfl⟩ : ∃ b, A = some ⟨b, 0, none⟩ := by
    rcases h.lv.own.2 with ⟨e, hx⟩ | ⟨b, _, _, e, _⟩
    · omega
    · injection e with e; exact ⟨b, e⟩
  have hiv : i < vs.length := by rw [h.lv.len]; omega
  have ev : vs[i]? = some vs[i] := List.getElem?_eq_getElem hiv
  obtain ⟨l, el, ol⟩ := h.lv.get ev
  obtain ⟨Al, cl, hsl, _, _⟩ := row_slice ol
  have hla : lvAt st.lv i = l := by unfold lvAt; rw [List.getD_eq_getElem?_getD, el]; rfl
  have cv : w.cell? ⟨b, i, none⟩ = some vs[i] := by
    have := h.lv.own.cells (g := b) rfl i vs[i] ev
    rwa [add_plain] at this
  have hcut := h.lv.cut (m := i) (by omega)
  have y1 : w.cell? ⟨g, 1, none⟩ = some (.slice (some ⟨b, 0, none⟩) (i + 1) c) := by rw [← hi]; exact (blk_cell h.blk 1).trans rfl
  have z1 := blk_frozen h.blk 1
  have hfin : ∃ v lvv', Ending.returned (.tuple #[vs[i], .int .i64 0]) = .returned (.tuple #[v, .int .i64 0]) ∧ vs[i]? = some v ∧ JX base ok g gs sv lvv' (vs.take i) ⟨st.cur, st.lv.take i⟩ (w.setCell ⟨g, 1, none⟩ (.slice (some ⟨b, 0, none⟩) i c)) ∧ (w.setCell ⟨g, 1, none⟩ (.slice (some ⟨b, 0, none⟩) i c)).ownsRow base 65 3 v (lvAt st.lv i).length (encU (lvAt st.lv i)) ∧ JW ok w (w.setCell ⟨g, 1, none⟩ (.slice (some ⟨b, 0, none⟩) i c)) := by
    refine ⟨_, _, rfl, ev, JX.setLv ⟨h.okg, h.oks, h.okv, h.ge, h.blk, h.store, hcut⟩, ?_, JW.set h.okg 1 _⟩
    rw [hla]
    refine own_move ol (fun k e => Below.heap_setCell w ⟨g, 1, none⟩ _ k (fun e2 => ?_))
    obtain ⟨cs, hc⟩ := own_typed ol k e
    have e2 : k = g := e2
    rw [e2] at hc
    exact absurd (blk_ty h.blk hc) (by decide)
  replace hfin := Aside0.mk hfin
  have hwi : IntKind.i64.wrap (i : Int) = (i : Int) := by rw [i64_w]; unfold wrap64; omega
  generalize vs[i] = vi at cv hfin hsl
  subst hsl
  have hi2 : i < i + 1 := Nat.lt_succ_self i
  have hic : i ≤ c := by omega
  clear hcut h ol ev el hla hnc
  go_enter Try.func31, Try.ntmps31
  go_wp2
  go_ret2
  exact hfin.out

/-! ### journal_Journal_Commit: function 21 -/
set_option maxHeartbeats 1000000 in
set_option maxRecDepth 100000 in
theorem j_commit0 (base g : Nat) (ok : Nat → Prop) (st : JSt) (w : World) (h : JM base ok g st w) (h0 : st.lv.length = 0) :
    Calls Try.prog 21 #[.pointer (some ⟨g, 0, none⟩)] w fun e w' => e = .returned (.int .i64 10) ∧ w' = w := by
  go_enter Try.func21, Try.ntmps21
  go_wp2_with fail
  refine (j_last0 base g ok st w h h0).mono ?_
  rintro e w' ⟨rfl, rfl⟩
  clear h
  go_wp2
  go_ret
  exact ⟨rfl, rfl⟩
set_option maxHeartbeats 1000000 in
set_option maxRecDepth 100000 in
theorem j_commit (base g : Nat) (ok : Nat → Prop) (st : JSt) (w : World) (h : JM base ok g st w) (h0 : 0 < st.lv.length) (hn : st.lv.length ≤ 1000000) (hm : ∀ l ∈ st.lv, l.length ≤ 1000000) (hb : base ≤ w.heap.size) :
    Calls Try.prog 21 #[.pointer (some ⟨g, 0, none⟩)] w (JPost base ok g (comJ st) (.int .i64 0) w) := by
  obtain ⟨gs, sv, lvv, vs, h⟩ := h
  obtain ⟨n, hi⟩ : ∃ n, st.lv.length = n + 1 := ⟨st.lv.length - 1, by omega⟩
  have hlast := j_last base g gs n ok sv lvv vs st w h hi hn
  clear h
  cases n with
  | zero =>
    have hc : comJ st = ⟨st.cur, st.lv.take 0⟩ := by unfold comJ; rw [hi]; rfl
    rw [hc]
    go_enter Try.func21, Try.ntmps21
    go_wp2_with fail
    refine hlast.mono ?_
    rintro e w2 ⟨v, lvv2, rfl, _, h2, _, W2⟩
    obtain ⟨A2, c2, rfl, _, _⟩ := row_slice h2.lv.own
    have y1 : w2.cell? ⟨g, 1, none⟩ = some (.slice A2 0 c2) := (blk_cell h2.blk 1).trans (by simp)
    have hfin : JPost base ok g ⟨st.cur, st.lv.take 0⟩ (.int .i64 0) w (.returned (.int .i64 0)) w2 := ⟨rfl, ⟨_, _, _, _, h2.mono (fun k hk => .inl hk)⟩, W2⟩
    replace hfin := Aside0.mk hfin
    clear h2 W2 hlast
    go_wp2
    go_ret
    exact hfin.out
  | succ i =>
    go_enter Try.func21, Try.ntmps21
    go_wp2_with fail
    refine hlast.mono ?_
    rintro e w2 ⟨v, lvv2, rfl, _, h2, o2, W2⟩
    clear hlast
    have hL : (st.lv.take (i + 1)).length = i + 1 := by rw [List.length_take]; omega
    obtain ⟨A2, c, rfl, _, _⟩ := row_slice h2.lv.own
    obtain ⟨b, rfl⟩ : ∃ b, A2 = some ⟨b, 0, none⟩ := by
      rcases h2.lv.own.2 with ⟨e, hx⟩ | ⟨b, _, _, e, _⟩
      · rw [hL] at hx; omega
      · injection e with e; exact ⟨b, e⟩
    have hiv : i < (vs.take (i + 1)).length := by rw [h2.lv.len]; show i < (st.lv.take (i + 1)).length; omega
    obtain ⟨u, ev⟩ : ∃ u, (vs.take (i + 1))[i]? = some u := ⟨_, List.getElem?_eq_getElem hiv⟩
    obtain ⟨l, el, ol⟩ := h2.lv.get ev
    have el : (st.lv.take (i + 1))[i]? = some l := el
    have el2 : st.lv[i]? = some l := by rwa [List.getElem?_take, if_pos (by omega)] at el
    have hl1 : l.length ≤ 1000000 := hm l (List.mem_of_getElem? el2)
    have hl2 : (lvAt st.lv (i + 1)).length ≤ 1000000 := by
      unfold lvAt
      rw [List.getD_eq_getElem?_getD, List.getElem?_eq_getElem (by omega)]
      exact hm _ (List.getElem_mem _)
    have cv : w2.cell? ⟨b, i, none⟩ = some u := by
      have := h2.lv.own.cells (g := b) rfl i u ev
      rwa [add_plain] at this
    have x1 : w2.cell? ⟨g, 1, none⟩ = some (.slice (some ⟨b, 0, none⟩) (i + 1) c) := (blk_cell h2.blk 1).trans (by rw [hL]; rfl)
    obtain ⟨Av, cvv, rfl, _, _⟩ := row_slice o2
    have hwi : IntKind.i64.wrap (i : Int) = (i : Int) := by rw [i64_w]; unfold wrap64; omega
    have hpos : (0 : Int) < (i : Int) + 1 := by omega
    obtain ⟨Au, cu, rfl, _, _⟩ := row_slice ol
    generalize hu : Value.slice Au l.length cu = u at ev ol cv
    go_upto_region 6 with (fail)
    refine start_ (n := 18) (S := fun w' => w'.cell? ⟨g, 1, none⟩ = some (.slice (some ⟨b, 0, none⟩) (i + 1) c) ∧ w'.cell? ⟨b, i, none⟩ = some u) (ds := [17]) #[false, false, false, false, false, false, false, false, false, false, false, false, false, false, false, false, false, false] (by kernel_rfl) rfl rfl ⟨x1, cv⟩ (fun hHeld => ?_)
    have J4 := Aside0.mk (h2.step (below_drew (Below.refl _ _)))
    have W4 := Aside0.mk (W2.trans (JW.of_below (below_drew (Below.refl _ _)) : JW ok w2 w2.drew) (fun k hk => .inl hk))
    have O4 := Aside0.mk (own_below ol (below_drew (Below.refl _ _)))
    have V4 := Aside0.mk (own_below o2 (below_drew (Below.refl _ _)))
    have hsz4 : w.heap.size ≤ w2.drew.heap.size := W2.size
    clear h2 ol x1 cv W2 o2
    generalize w2.drew = w4 at hHeld J4 W4 O4 V4 hsz4 ⊢
    refine pure_ (i := 0) (N := some 21) (v := ?_) (a' := ?_) #[true, false, false, false, false, false, false, false, false, false, false, false, false, false, false, false, false, false] rfl rfl (by kernel_rfl) (fun _ _ _ h => h) (Or.inl ⟨by rfl, ?_⟩) ?_ ?_
    rotate_left
    · intro w'
      go_simp
      with_reducible rfl
    rotate_left
    · simp only [Act.put, List.setIfInBounds_toArray, List.set_cons_zero, List.set_cons_succ, i64_w, i32_w]
      rfl
    refine pure_ (i := 1) (N := some 22) (v := ?_) (a' := ?_) #[true, true, false, false, false, false, false, false, false, false, false, false, false, false, false, false, false, false] rfl rfl (by kernel_rfl) (fun _ _ _ h => h) (Or.inl ⟨by rfl, ?_⟩) ?_ ?_
    rotate_left
    · intro w'
      go_simp
      with_reducible rfl
    rotate_left
    · simp only [Act.put, List.setIfInBounds_toArray, List.set_cons_zero, List.set_cons_succ, i64_w, i32_w]
      rfl
    refine pure_ (i := 2) (N := some 23) (v := ?_) (a' := ?_) #[true, true, true, false, false, false, false, false, false, false, false, false, false, false, false, false, false, false] rfl rfl (by kernel_rfl) (fun _ _ _ h => h) (Or.inl ⟨by rfl, ?_⟩) ?_ ?_
    rotate_left
    · intro w'
      go_simp
      with_reducible rfl
    rotate_left
    · simp only [Act.put, List.setIfInBounds_toArray, List.set_cons_zero, List.set_cons_succ, i64_w, i32_w]
      rfl
    refine take_ (i := 3) (N := some 24) (v := ?_) (a' := ?_) #[true, true, true, true, false, false, false, false, false, false, false, false, false, false, false, false, false, false] rfl rfl (by kernel_rfl) (fun _ _ _ h => h) (Or.inl ⟨by rfl, ?_⟩) hHeld ?_ ?_
    rotate_left
    · rintro w' ⟨s0, s1⟩
      go_simp
      with_reducible rfl
    rotate_left
    · simp only [Act.put, List.setIfInBounds_toArray, List.set_cons_zero, List.set_cons_succ, i64_w, i32_w]
      rfl
    refine pure_ (i := 4) (N := some 25) (v := ?_) (a' := ?_) #[true, true, true, true, true, false, false, false, false, false, false, false, false, false, false, false, false, false] rfl rfl (by kernel_rfl) (fun _ _ _ h => h) (Or.inl ⟨by rfl, ?_⟩) ?_ ?_
    rotate_left
    · intro w'
      go_simp
      with_reducible rfl
    rotate_left
    · simp only [Act.put, List.setIfInBounds_toArray, List.set_cons_zero, List.set_cons_succ, i64_w, i32_w]
      rfl
    refine pure_ (i := 5) (N := some 26) (v := ?_) (a' := ?_) #[true, true, true, true, true, true, false, false, false, false, false, false, false, false, false, false, false, false] rfl rfl (by kernel_rfl) (fun _ _ _ h => h) (Or.inl ⟨by rfl, ?_⟩) ?_ ?_
    rotate_left
    · intro w'
      go_simp
      with_reducible rfl
    rotate_left
    · simp only [Act.put, List.setIfInBounds_toArray, List.set_cons_zero, List.set_cons_succ, i64_w, i32_w]
      rfl
    refine pure_ (i := 6) (N := some 27) (v := ?_) (a' := ?_) #[true, true, true, true, true, true, true, false, false, false, false, false, false, false, false, false, false, false] rfl rfl (by kernel_rfl) (fun _ _ _ h => h) (Or.inl ⟨by rfl, ?_⟩) ?_ ?_
    rotate_left
    · intro w'
      go_simp
      with_reducible rfl
    rotate_left
    · simp only [Act.put, List.setIfInBounds_toArray, List.set_cons_zero, List.set_cons_succ, i64_w, i32_w]
      rfl
    refine pure_ (i := 7) (N := some 28) (v := ?_) (a' := ?_) #[true, true, true, true, true, true, true, true, false, false, false, false, false, false, false, false, false, false] rfl rfl (by kernel_rfl) (fun _ _ _ h => h) (Or.inl ⟨by rfl, ?_⟩) ?_ ?_
    rotate_left
    · intro w'
      go_simp
      with_reducible rfl
    rotate_left
    · simp only [Act.put, List.setIfInBounds_toArray, List.set_cons_zero, List.set_cons_succ, i64_w, i32_w]
      rfl
    refine pure_ (i := 8) (N := some 29) (v := ?_) (a' := ?_) #[true, true, true, true, true, true, true, true, true, false, false, false, false, false, false, false, false, false] rfl rfl (by kernel_rfl) (fun _ _ _ h => h) (Or.inl ⟨by rfl, ?_⟩) ?_ ?_
    rotate_left
    · intro w'
      go_simp
      with_reducible rfl
    rotate_left
    · simp only [Act.put, List.setIfInBounds_toArray, List.set_cons_zero, List.set_cons_succ, i64_w, i32_w]
      rfl
    refine take_ (i := 9) (N := some 30) (v := ?_) (a' := ?_) #[true, true, true, true, true, true, true, true, true, true, false, false, false, false, false, false, false, false] rfl rfl (by kernel_rfl) (fun _ _ _ h => h) (Or.inl ⟨by rfl, ?_⟩) hHeld ?_ ?_
    rotate_left
    · rintro w' ⟨s0, s1⟩
      go_simp
      with_reducible rfl
    rotate_left
    · simp only [Act.put, List.setIfInBounds_toArray, List.set_cons_zero, List.set_cons_succ, i64_w, i32_w]
      rfl
    refine pure_ (i := 10) (N := some 31) (v := ?_) (a' := ?_) #[true, true, true, true, true, true, true, true, true, true, true, false, false, false, false, false, false, false] rfl rfl (by kernel_rfl) (fun _ _ _ h => h) (Or.inl ⟨by rfl, ?_⟩) ?_ ?_
    rotate_left
    · intro w'
      go_simp
      with_reducible rfl
    rotate_left
    · simp only [Act.put, List.setIfInBounds_toArray, List.set_cons_zero, List.set_cons_succ, i64_w, i32_w]
      rfl
    refine pure_ (i := 11) (N := some 32) (v := ?_) (a' := ?_) #[true, true, true, true, true, true, true, true, true, true, true, true, false, false, false, false, false, false] rfl rfl (by kernel_rfl) (fun _ _ _ h => h) (Or.inl ⟨by rfl, ?_⟩) ?_ ?_
    rotate_left
    · intro w'
      go_simp
      with_reducible rfl
    rotate_left
    · simp only [Act.put, List.setIfInBounds_toArray, List.set_cons_zero, List.set_cons_succ, i64_w, i32_w]
      rfl
    refine pure_ (i := 12) (N := some 33) (v := ?_) (a' := ?_) #[true, true, true, true, true, true, true, true, true, true, true, true, true, false, false, false, false, false] rfl rfl (by kernel_rfl) (fun _ _ _ h => h) (Or.inl ⟨by rfl, ?_⟩) ?_ ?_
    rotate_left
    · intro w'
      go_simp
      rw [if_pos (by omega : (i : Int) < (i : Int) + 1)]
    rotate_left
    · simp only [Act.put, List.setIfInBounds_toArray, List.set_cons_zero, List.set_cons_succ, i64_w, i32_w]
      rfl
    refine take_ (i := 13) (N := some 34) (v := ?_) (a' := ?_) #[true, true, true, true, true, true, true, true, true, true, true, true, true, true, false, false, false, false] rfl rfl (by kernel_rfl) (fun _ _ _ h => h) (Or.inl ⟨by rfl, ?_⟩) hHeld ?_ ?_
    rotate_left
    · rintro w' ⟨s0, s1⟩
      go_simp
      with_reducible rfl
    rotate_left
    · simp only [Act.put, List.setIfInBounds_toArray, List.set_cons_zero, List.set_cons_succ, i64_w, i32_w]
      rfl
    refine pure_ (i := 14) (N := some 35) (v := ?_) (a' := ?_) #[true, true, true, true, true, true, true, true, true, true, true, true, true, true, true, false, false, false] rfl rfl (by kernel_rfl) (fun _ _ _ h => h) (Or.inl ⟨by rfl, ?_⟩) ?_ ?_
    rotate_left
    · intro w'
      go_simp
      with_reducible rfl
    rotate_left
    · simp only [Act.put, List.setIfInBounds_toArray, List.set_cons_zero, List.set_cons_succ, i64_w, i32_w]
      rfl
    obtain ⟨v6, w6, hrun, o6, g6, at6⟩ := lvl_appends base base u (.slice Av (lvAt st.lv (i + 1)).length cvv) l (lvAt st.lv (i + 1)) w4 O4.out V4.out (by omega) (by omega) 62
    obtain ⟨A6, c6, rfl, _, _⟩ := row_slice o6
    have g5b : w6.heap[g]? = _ := (g6.block g (blk_lt J4.out.blk) (fun e => by obtain ⟨cs, hc⟩ := own_typed O4.out g e.symm; exact absurd (blk_ty J4.out.blk hc) (by decide))).trans J4.out.blk
    obtain ⟨cb, hcb⟩ := own_typed J4.out.lv.own b rfl
    have b5b : w6.heap[b]? = _ := (g6.block b (blk_lt hcb) (fun e => by obtain ⟨cs, hc⟩ := own_typed O4.out b e.symm; exact absurd (blk_ty hcb hc) (by decide))).trans hcb
    have cv6 : w6.cell? ⟨b, i, none⟩ = some u := (World.cell?_of_block (a := ⟨b, i, none⟩) (b5b.trans hcb.symm)).trans hHeld.2
    refine one_ (i := 15) (N := some 36) #[true, true, true, true, true, true, true, true, true, true, true, true, true, true, true, true, false, false] rfl rfl (by kernel_rfl) (by decide) (fun K hK => ?_)
    refine value_ (by rfl) rfl (exec_append _ _ _ _ rfl _ _ rfl rfl hrun) ?_
    refine hK.out _ _ ⟨(blk_cell g5b 1).trans (by rw [hL]; rfl), cv6⟩ (fun hHeld => ?_)
    clear hK K
    refine norm_ (a' := ?_) ?_ ?_
    rotate_left
    · show Act.put _ (some 36) _ = _
      simp only [Act.put, List.setIfInBounds_toArray, List.set_cons_zero, List.set_cons_succ, i64_w, i32_w]
      rfl
    refine pure_ (i := 16) (N := some 37) (v := ?_) (a' := ?_) #[true, true, true, true, true, true, true, true, true, true, true, true, true, true, true, true, true, false] rfl rfl (by kernel_rfl) (fun _ _ _ h => h) (Or.inl ⟨by rfl, ?_⟩) ?_ ?_
    rotate_left
    · intro w'
      go_simp
      rw [if_pos (by omega : (i : Int) < (i : Int) + 1)]
    rotate_left
    · simp only [Act.put, List.setIfInBounds_toArray, List.set_cons_zero, List.set_cons_succ, i64_w, i32_w]
      rfl
    refine last_ (i := 17) (N := none) #[true, true, true, true, true, true, true, true, true, true, true, true, true, true, true, true, true, true] rfl rfl (by kernel_rfl) (by decide) (fun K hK => ?_)
    have z6 := blk_frozen b5b i
    refine skip_ (w1 := w6.setCell ⟨b, i, none⟩ (.slice A6 (l ++ lvAt st.lv (i + 1)).length c6)) (by rfl) rfl ?_ ?_
    · go_simp
      try rfl
    refine hK.out _ _ ?_
    refine done_ (by kernel_rfl) ?_
    have hJ := JX.putLv (st := ⟨st.cur, st.lv.take (i + 1)⟩) J4.out ev o6 g6 at6 rfl
    have hfin : JPost base ok g (comJ st) (.int .i64 0) w (.returned (.int .i64 0)) (w6.setCell ⟨b, i, none⟩ (.slice A6 (l ++ lvAt st.lv (i + 1)).length c6)) := by
      have e : comJ st = ⟨st.cur, (st.lv.take (i + 1)).set i (l ++ lvAt st.lv (i + 1))⟩ := by
        unfold comJ
        rw [hi, Nat.add_sub_cancel, show i + 1 + 1 - 2 = i by omega]
        have : lvAt st.lv i = l := by unfold lvAt; rw [List.getD_eq_getElem?_getD, el2]; rfl
        rw [this]
      rw [e]
      refine ⟨rfl, ⟨_, _, _, _, hJ.mono (fun k hk => hk.imp_right (fun h => by omega))⟩, (W4.out.trans (JW.of_grown g6 (fun k e => J4.out.lv.oks i _ k ev e) : JW ok _ _) (fun k hk => .inl hk)).trans (JW.set (J4.out.lv.ok0 b rfl) i _) (fun k hk => .inl hk)⟩
    replace hfin := Aside0.mk hfin
    clear hJ g6 o6 at6 J4 O4 V4 W4 hHeld b5b g5b hcb cv6
    try go_wp2
    go_ret
    exact hfin.out

end Go.Proofs.Ytcbaojkfffodiaa.PJou
