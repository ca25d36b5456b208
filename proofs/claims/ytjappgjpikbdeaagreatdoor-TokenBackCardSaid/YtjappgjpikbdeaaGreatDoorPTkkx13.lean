-- written by wip/myprint.py over the kit's print; not a printed text of print.sh
import Derived.Test.YtjappgjpikbdeaaGreatDoorPTkkx0
import Derived.Test.YtjappgjpikbdeaaGreatDoorPTkkx3
import Derived.Test.YtjappgjpikbdeaaGreatDoorPTkkx5
import Derived.Test.YtjappgjpikbdeaaGreatDoorPTkkx6
import Derived.Test.YtjappgjpikbdeaaGreatDoorPTkkx7
import Derived.Test.YtjappgjpikbdeaaGreatDoorPTkkx8
import Derived.Test.YtjappgjpikbdeaaGreatDoorPTkkx9
import Derived.Test.YtjappgjpikbdeaaGreatDoorPTkkx10
import Derived.Test.YtjappgjpikbdeaaGreatDoorPTkkx11
import Derived.Test.YtjappgjpikbdeaaGreatDoorPTkkx12
namespace Go.Proofs.YtjappgjpikbdeaaGreatDoor.PTkk
open Go.RowKit Go.Proofs.YtjappgjpikbdeaaGreatDoorW.PrintWords Go.Proofs.YtjappgjpikbdeaaGreatDoorW.PrintLast Go.Proofs.YtjappgjpikbdeaaGreatDoorW.PrintMore
attribute [local go_sem] max2_int min2_int max_two min_two max_three min_three max_four min_four   -- for this text's walks alone
set_option linter.unusedVariables false
set_option linter.unusedSimpArgs false

/-! ### wire_Reader_Done: function 24 -/
def wire_Reader_Done.f (s0_0 : ByteArray) (s0_1 : Int) : Option (Int × ByteArray × Int) := (wire_Reader_Err.f s0_0 s0_1).bind fun bt133 => (if bt133.1 = 0 then (if bt133.2.1.toList = ([] : List UInt8) then (some (bt133.1, bt133.2.1, bt133.2.2)) else (some (6, bt133.2.1, bt133.2.2))) else (some (bt133.1, bt133.2.1, bt133.2.2)))
set_option maxHeartbeats 8000000 in
set_option maxRecDepth 100000 in
theorem wire_Reader_Done.calls (g : Nat) (s0_0 : ByteArray) (s0_1 : Int) (r1 : Int) (r2 : ByteArray) (r3 : Int) (w0 w : World) (hI : IsS88 w0 w g s0_0 s0_1) (hB : Below w0.heap.size w0 w) (h : wire_Reader_Done.f s0_0 s0_1 = some (r1, r2, r3)) :
    Calls Tryz.prog 24 #[.pointer (some ⟨g, 0, none⟩)] w fun e w' => e = .returned (.int .i64 r1) ∧ IsS88 w0 w' g r2 r3 ∧ Below w0.heap.size w0 w' ∧ KeepBut w w' g none := by
  have HI0 := Aside0.mk hI
  have HK := Aside0.mk (KeepBut.refl w g none)
  have HL := Aside0.mk hB.size
  clear hI
  have HW0 := Aside0.mk hB.size
  have HB := Aside0.mk hB
  clear hB
  have H : ((wire_Reader_Err.f s0_0 s0_1).bind fun bt133 => (if bt133.1 = 0 then (if bt133.2.1.toList = ([] : List UInt8) then (some (bt133.1, bt133.2.1, bt133.2.2)) else (some (6, bt133.2.1, bt133.2.2))) else (some (bt133.1, bt133.2.1, bt133.2.2)))) = some (r1, r2, r3) := h
  clear h
  replace H := Option.bind_eq_some_iff.mp H
  obtain ⟨⟨t133, t134, t135⟩, A20, H⟩ := H
  replace H : (if t133 = 0 then (if t134.toList = ([] : List UInt8) then (some (t133, t134, t135)) else (some (6, t134, t135))) else (some (t133, t134, t135))) = some (r1, r2, r3) := H
  have A2 := Aside0.mk A20
  clear A20
  by_cases c3 : t133 = 0
  · rw [if_pos c3] at H
    have c3b0 : (t133 == 0) = true := beq_iff_eq.mpr c3
    have c3b1 : (t133 != 0) = false := bne_eq_false_iff_eq.mpr c3
    clear c3
    by_cases c4 : t134.toList = ([] : List UInt8)
    · rw [if_pos c4] at H
      have c4b0 : (t134.toList == ([] : List UInt8)) = true := beq_iff_eq.mpr c4
      have c4b1 : (t134.toList != ([] : List UInt8)) = false := bne_eq_false_iff_eq.mpr c4
      clear c4
      simp only [Option.some.injEq, Prod.mk.injEq] at H
      obtain ⟨rfl, rfl, rfl⟩ := H
      go_enter Tryz.func24, Tryz.ntmps24
      go_wp2_with (first | ((with_reducible refine gate_callee (f := 53) rfl ?_); refine goesL_ (some 5) rfl rfl Tryz.func53 (by kernel_rfl) rfl #[.pointer (some ⟨g, 0, none⟩)] rfl (by (try simp only [List.map_toArray, List.map_cons, List.map_nil]); first | done | rfl | (simp only [List.length_drop, List.length_take]; rfl)) ?_; (with_reducible refine (wire_Reader_Err.calls g s0_0 s0_1 t133 t134 t135 w0 _ ?side1 ?side2 A2.out).mono ?_); (case side1 => repeat (first | (with_reducible first | exact HI0.out | apply IsS88.alloc | apply IsS88.drewN | apply IsS88.drew | apply IsS88.set_0 | apply IsS88.set_1) | exact HI0.out)); (case side2 => repeat (first | (with_reducible first | exact HB.out | apply below_alloc | apply pw_below_drewN | apply below_drew1 | refine below_set ?_ (IsS88.ge HI0.out)) | exact HB.out)); rintro e w5 ⟨rfl, hi, hb, hk⟩; refine ⟨_, rfl, ?_⟩; have n0_ := Aside0.mk (KeepBut.trans (by repeat (first | (with_reducible first | exact HK.out | apply KeepBut.set_ | apply keep_drewN | apply keep_drew | apply keep_alloc) | exact HK.out)) hk (.inl rfl)); have n1_ := Aside0.mk (hb); have n2_ := Aside0.mk (hi); clear HK; clear HB; clear HI0; have HK := n0_; have HB := n1_; have HI0 := n2_; clear n0_ n1_ n2_; (try clear hb); (try clear hb2); (try clear hk); (try clear hi); obtain ⟨HGz6, hgz6⟩ := HI0.out; have hcz6_0 := cellS88_0 HGz6; have hcz6_1 := cellS88_1 HGz6; have hfz6_0 := blk_frozen HGz6 0; have hfz6_1 := blk_frozen HGz6 1; clear HGz6 hgz6))
      go_ret
      exact ⟨by first | rfl | (simp [errW_none, errW_some] <;> rfl) | (simp [*, errW_none, errW_some] <;> rfl), by repeat (first | (with_reducible first | exact HI0.out | apply IsS88.alloc | apply IsS88.drewN | apply IsS88.drew | apply IsS88.set_0 | apply IsS88.set_1) | exact HI0.out), by repeat (first | (with_reducible first | exact HB.out | apply below_alloc | apply pw_below_drewN | apply below_drew1 | refine below_set ?_ (IsS88.ge HI0.out)) | exact HB.out), by repeat (first | (with_reducible first | exact HK.out | apply KeepBut.set_ | apply keep_drewN | apply keep_drew | apply keep_alloc) | exact HK.out)⟩
    · rw [if_neg c4] at H
      have c4b0 : (t134.toList == ([] : List UInt8)) = false := beq_eq_false_iff_ne.mpr c4
      have c4b1 : (t134.toList != ([] : List UInt8)) = true := bne_iff_ne.mpr c4
      simp only [Option.some.injEq, Prod.mk.injEq] at H
      obtain ⟨rfl, rfl, rfl⟩ := H
      go_enter Tryz.func24, Tryz.ntmps24
      go_wp2_with (first | ((with_reducible refine gate_callee (f := 53) rfl ?_); refine goesL_ (some 5) rfl rfl Tryz.func53 (by kernel_rfl) rfl #[.pointer (some ⟨g, 0, none⟩)] rfl (by (try simp only [List.map_toArray, List.map_cons, List.map_nil]); first | done | rfl | (simp only [List.length_drop, List.length_take]; rfl)) ?_; (with_reducible refine (wire_Reader_Err.calls g s0_0 s0_1 t133 t134 t135 w0 _ ?side1 ?side2 A2.out).mono ?_); (case side1 => repeat (first | (with_reducible first | exact HI0.out | apply IsS88.alloc | apply IsS88.drewN | apply IsS88.drew | apply IsS88.set_0 | apply IsS88.set_1) | exact HI0.out)); (case side2 => repeat (first | (with_reducible first | exact HB.out | apply below_alloc | apply pw_below_drewN | apply below_drew1 | refine below_set ?_ (IsS88.ge HI0.out)) | exact HB.out)); rintro e w7 ⟨rfl, hi, hb, hk⟩; refine ⟨_, rfl, ?_⟩; have n0_ := Aside0.mk (KeepBut.trans (by repeat (first | (with_reducible first | exact HK.out | apply KeepBut.set_ | apply keep_drewN | apply keep_drew | apply keep_alloc) | exact HK.out)) hk (.inl rfl)); have n1_ := Aside0.mk (hb); have n2_ := Aside0.mk (hi); clear HK; clear HB; clear HI0; have HK := n0_; have HB := n1_; have HI0 := n2_; clear n0_ n1_ n2_; (try clear hb); (try clear hb2); (try clear hk); (try clear hi); obtain ⟨HGz8, hgz8⟩ := HI0.out; have hcz8_0 := cellS88_0 HGz8; have hcz8_1 := cellS88_1 HGz8; have hfz8_0 := blk_frozen HGz8 0; have hfz8_1 := blk_frozen HGz8 1; clear HGz8 hgz8))
      go_ret
      exact ⟨by first | rfl | (simp [errW_none, errW_some] <;> rfl) | (simp [*, errW_none, errW_some] <;> rfl), by repeat (first | (with_reducible first | exact HI0.out | apply IsS88.alloc | apply IsS88.drewN | apply IsS88.drew | apply IsS88.set_0 | apply IsS88.set_1) | exact HI0.out), by repeat (first | (with_reducible first | exact HB.out | apply below_alloc | apply pw_below_drewN | apply below_drew1 | refine below_set ?_ (IsS88.ge HI0.out)) | exact HB.out), by repeat (first | (with_reducible first | exact HK.out | apply KeepBut.set_ | apply keep_drewN | apply keep_drew | apply keep_alloc) | exact HK.out)⟩
  · rw [if_neg c3] at H
    have c3b0 : (t133 == 0) = false := beq_eq_false_iff_ne.mpr c3
    have c3b1 : (t133 != 0) = true := bne_iff_ne.mpr c3
    simp only [Option.some.injEq, Prod.mk.injEq] at H
    obtain ⟨rfl, rfl, rfl⟩ := H
    go_enter Tryz.func24, Tryz.ntmps24
    go_wp2_with (first | ((with_reducible refine gate_callee (f := 53) rfl ?_); refine goesL_ (some 5) rfl rfl Tryz.func53 (by kernel_rfl) rfl #[.pointer (some ⟨g, 0, none⟩)] rfl (by (try simp only [List.map_toArray, List.map_cons, List.map_nil]); first | done | rfl | (simp only [List.length_drop, List.length_take]; rfl)) ?_; (with_reducible refine (wire_Reader_Err.calls g s0_0 s0_1 t133 t134 t135 w0 _ ?side1 ?side2 A2.out).mono ?_); (case side1 => repeat (first | (with_reducible first | exact HI0.out | apply IsS88.alloc | apply IsS88.drewN | apply IsS88.drew | apply IsS88.set_0 | apply IsS88.set_1) | exact HI0.out)); (case side2 => repeat (first | (with_reducible first | exact HB.out | apply below_alloc | apply pw_below_drewN | apply below_drew1 | refine below_set ?_ (IsS88.ge HI0.out)) | exact HB.out)); rintro e w9 ⟨rfl, hi, hb, hk⟩; refine ⟨_, rfl, ?_⟩; have n0_ := Aside0.mk (KeepBut.trans (by repeat (first | (with_reducible first | exact HK.out | apply KeepBut.set_ | apply keep_drewN | apply keep_drew | apply keep_alloc) | exact HK.out)) hk (.inl rfl)); have n1_ := Aside0.mk (hb); have n2_ := Aside0.mk (hi); clear HK; clear HB; clear HI0; have HK := n0_; have HB := n1_; have HI0 := n2_; clear n0_ n1_ n2_; (try clear hb); (try clear hb2); (try clear hk); (try clear hi)))
    go_ret
    exact ⟨by first | rfl | (simp [errW_none, errW_some] <;> rfl) | (simp [*, errW_none, errW_some] <;> rfl), by repeat (first | (with_reducible first | exact HI0.out | apply IsS88.alloc | apply IsS88.drewN | apply IsS88.drew | apply IsS88.set_0 | apply IsS88.set_1) | exact HI0.out), by repeat (first | (with_reducible first | exact HB.out | apply below_alloc | apply pw_below_drewN | apply below_drew1 | refine below_set ?_ (IsS88.ge HI0.out)) | exact HB.out), by repeat (first | (with_reducible first | exact HK.out | apply KeepBut.set_ | apply keep_drewN | apply keep_drew | apply keep_alloc) | exact HK.out)⟩

/-! ### journal_Journal_note: function 59 -/

/-! ### journal_Journal_Set: function 57 -/
set_option maxHeartbeats 1000000 in
set_option maxRecDepth 100000 in
theorem j_set (base g : Nat) (ok : Nat → Prop) (st : JSt) (key value : ByteArray) (w : World) (h : JM base ok g st w) (hl : st.cur.length ≤ 1000000000) (hn : st.lv.length ≤ 1000000) (hm : ∀ l ∈ st.lv, l.length ≤ 1000000) (hb : base ≤ w.heap.size) :
    Calls Tryz.prog 57 #[.pointer (some ⟨g, 0, none⟩), .string key, .string value] w (JPost base ok g (setJ st key value) (.int .i64 (setE key value)) w) := by
  unfold setJ setE
  by_cases hbig : key.size > 65536 ∨ value.size > 65536
  · rw [if_pos hbig, if_pos hbig]
    have hfin : JPost base ok g st (.int .i64 4) w (.returned (.int .i64 4)) w := ⟨rfl, h.mono (fun k hk => .inl hk), JW.of_below (Below.refl _ _)⟩
    replace hfin := Aside0.mk hfin
    clear h
    by_cases hk : key.size > 65536
    · go_enter Tryz.func57, Tryz.ntmps57
      go_wp2
      go_ret
      exact hfin.out
    · have hv : value.size > 65536 := hbig.resolve_left hk
      go_enter Tryz.func57, Tryz.ntmps57
      go_wp2
      go_ret
      exact hfin.out
  · rw [if_neg hbig, if_neg hbig]
    have hk : ¬ 65536 < key.size := fun h => hbig (.inl h)
    have hv : ¬ 65536 < value.size := fun h => hbig (.inr h)
    have y0 : ∃ gs, w.cell? ⟨g, 0, none⟩ = some (.pointer (some ⟨gs, 0, none⟩)) := by
      obtain ⟨gs, sv, lvv, vs, h⟩ := h
      exact ⟨gs, (blk_cell h.blk 0).trans rfl⟩
    clear hbig y0
    go_enter Tryz.func57, Tryz.ntmps57
    go_wp2_with fail
    refine (j_note base g ok st key w h hl hn hm hb).mono ?_
    rintro e w2 ⟨rfl, ⟨gs, sv, lvv, vs, h2⟩, W2⟩
    have y0 : w2.cell? ⟨g, 0, none⟩ = some (.pointer (some ⟨gs, 0, none⟩)) := (blk_cell h2.blk 0).trans rfl
    replace W2 := Aside0.mk W2
    clear h
    go_wp2_with fail
    refine (st_set base gs sv (noteJ st key).cur key value _ h2.store hl (Nat.le_trans hb W2.out.size)).mono ?_
    rintro e w3 ⟨rfl, sv3, s3, W3, at3⟩
    have hfin : JPost base ok g { noteJ st key with cur := setK st.cur key value } (.int .i64 0) w (.returned (.int .i64 0)) w3 :=
      ⟨rfl, ⟨_, _, _, _, (h2.stored s3 W3 at3).mono (fun k hk => hk.elim id (fun h => .inr (Nat.le_trans W2.out.size h)))⟩, W2.out.trans (JW.of_store W3 h2.oks h2.okv) (fun k hk => hk)⟩
    replace hfin := Aside0.mk hfin
    clear h2 s3 W3 at3 W2 y0
    go_wp2
    go_ret
    exact hfin.out
set_option maxHeartbeats 1000000 in
set_option maxRecDepth 100000 in
theorem j_del (base g : Nat) (ok : Nat → Prop) (st : JSt) (key : ByteArray) (w : World) (h : JM base ok g st w) (hl : st.cur.length ≤ 1000000000) (hn : st.lv.length ≤ 1000000) (hm : ∀ l ∈ st.lv, l.length ≤ 1000000) (hb : base ≤ w.heap.size) :
    Calls Tryz.prog 30 #[.pointer (some ⟨g, 0, none⟩), .string key] w (JPost base ok g (delJ st key) (.int .i64 (delE st key)) w) := by
  unfold delJ delE
  obtain ⟨gs, sv, lvv, vs, h⟩ := h
  have y0 : w.cell? ⟨g, 0, none⟩ = some (.pointer (some ⟨gs, 0, none⟩)) := (blk_cell h.blk 0).trans rfl
  have hg2 : (getK st.cur key).2 = hasK st.cur key := by unfold getK; cases hasK st.cur key <;> rfl
  cases hh : hasK st.cur key with
  | false =>
    rw [if_neg (by simp), if_neg (by simp)]
    go_enter Tryz.func30, Tryz.ntmps30
    go_wp2_with fail
    refine (st_get base gs st.cur key _ h.store.at_ hl).mono ?_
    rintro e w2 ⟨rfl, hb2⟩
    rw [hg2, hh]
    have hfin : JPost base ok g st (.int .i64 8) w (.returned (.int .i64 8)) w2 := ⟨rfl, ⟨_, _, _, _, (h.step hb2).mono (fun k hk => .inl hk)⟩, JW.of_below hb2⟩
    replace hfin := Aside0.mk hfin
    clear h hb2 hg2
    go_wp2
    go_ret
    exact hfin.out
  | true =>
    rw [if_pos rfl, if_pos rfl]
    go_enter Tryz.func30, Tryz.ntmps30
    go_wp2_with fail
    refine (st_get base gs st.cur key _ h.store.at_ hl).mono ?_
    rintro e w1 ⟨rfl, hb1⟩
    rw [hg2, hh]
    have h1 : JM base ok g st w1 := ⟨_, _, _, _, h.step hb1⟩
    replace hb1 := Aside0.mk hb1
    clear h y0 hg2
    go_wp2_with fail
    refine (j_note base g ok st key w1 h1 hl hn hm (Nat.le_trans hb hb1.out.size)).mono ?_
    rintro e w2 ⟨rfl, ⟨gs, sv, lvv, vs, h2⟩, W2⟩
    have y0 : w2.cell? ⟨g, 0, none⟩ = some (.pointer (some ⟨gs, 0, none⟩)) := (blk_cell h2.blk 0).trans rfl
    replace W2 := Aside0.mk ((JW.of_below hb1.out : JW ok w w1).trans W2 (fun k hk => .inl hk))
    have hs1 := hb1.out.size
    clear h1 hb1
    go_wp2_with fail
    refine (st_del base gs sv (noteJ st key).cur key _ h2.store hl).mono ?_
    rintro e w3 ⟨rfl, sv3, s3, W3, at3⟩
    have hfin : JPost base ok g { noteJ st key with cur := delK st.cur key } (.int .i64 0) w (.returned (.int .i64 0)) w3 :=
      ⟨rfl, ⟨_, _, _, _, (h2.stored s3 W3 at3).mono (fun k hk => hk.elim (fun h => h.imp_right (fun h => Nat.le_trans hs1 h)) (fun h => .inr (Nat.le_trans W2.out.size h)))⟩, W2.out.trans (JW.of_store W3 h2.oks h2.okv) (fun k hk => hk.imp_right (fun h => Nat.le_trans hs1 h))⟩
    replace hfin := Aside0.mk hfin
    clear h2 s3 W3 at3 W2 y0
    go_wp2
    go_ret
    exact hfin.out

/-! ### journal_New: function 34 -/
theorem jx_fresh (base g gs : Nat) (v : Value) (l : List S82) (w : World) (hs : StoreIs base gs v l w) (hg : base ≤ g) (hb : w.heap[g]? = some (.cells #[.pointer (some ⟨gs, 0, none⟩), .slice none 0 0] 86 (0, 0))) : JX base (fun k => base ≤ k) g gs v (.slice none 0 0) [] ⟨l, []⟩ w :=
  ⟨hg, hs.1, fun k e => own_base hs.2.2.2 k e, hg, hb, hs, ⟨rfl, fun k e => by simp [Value.ownBlock] at e, World.ownsRow_nil _ _ _ _, fun i v l e => by simp at e, fun i v k e => by simp at e, fun i j a b k _ e => by simp at e⟩⟩
set_option maxHeartbeats 1000000 in
set_option maxRecDepth 100000 in
theorem j_new (base gs : Nat) (v : Value) (l : List S82) (w : World) (h : StoreIs base gs v l w) (hl : l.length ≤ 1000000000) :
    Calls Tryz.prog 34 #[.pointer (some ⟨gs, 0, none⟩)] w fun e w' => ∃ g, e = .returned (.pointer (some ⟨g, 0, none⟩)) ∧ JM w.heap.size (fun k => w.heap.size ≤ k) g ⟨l, []⟩ w' ∧ Below w.heap.size w w' := by
  go_enter Tryz.func34, Tryz.ntmps34
  go_wp2_with fail
  refine (st_copy base gs v l w h hl).mono ?_
  rintro e w2 ⟨g2, v2, rfl, s2, hb2⟩
  have n3 := my_alloc_new w2 (.cells #[.pointer (some ⟨g2, 0, none⟩), .slice none 0 0] 86)
  have hb3 : Below w2.heap.size w2 (w2.alloc (.cells #[.pointer (some ⟨g2, 0, none⟩), .slice none 0 0] 86)) := (Below.refl _ w2).alloc (Nat.le_refl _) _
  have hfin : ∃ g, Ending.returned (.pointer (some ⟨w2.heap.size, 0, none⟩)) = .returned (.pointer (some ⟨g, 0, none⟩)) ∧ JM w.heap.size (fun k => w.heap.size ≤ k) g ⟨l, []⟩ (w2.alloc (.cells #[.pointer (some ⟨g2, 0, none⟩), .slice none 0 0] 86)) ∧ Below w.heap.size w (w2.alloc (.cells #[.pointer (some ⟨g2, 0, none⟩), .slice none 0 0] 86)) :=
    ⟨_, rfl, ⟨_, _, _, _, jx_fresh _ _ _ _ _ _ (StoreIs.below s2 hb3) hb2.size n3⟩, hb2.alloc hb2.size _⟩
  replace hfin := Aside0.mk hfin
  clear n3 hb3 s2 h hb2
  go_wp2
  go_ret
  exact hfin.out
set_option maxHeartbeats 1000000 in
set_option maxRecDepth 100000 in
theorem st_copy_nil (w : World) : Calls Tryz.prog 61 #[.pointer none] w fun e w' => e = .returned (.pointer none) ∧ w' = w := by
  go_enter Tryz.func61, Tryz.ntmps61
  go_wp2
  go_ret
  exact ⟨rfl, rfl⟩
set_option maxHeartbeats 1000000 in
set_option maxRecDepth 100000 in
theorem j_new_nil (w : World) :
    Calls Tryz.prog 34 #[.pointer none] w fun e w' => ∃ g, e = .returned (.pointer (some ⟨g, 0, none⟩)) ∧ JM w.heap.size (fun k => w.heap.size ≤ k) g ⟨[], []⟩ w' ∧ Below w.heap.size w w' := by
  go_enter Tryz.func34, Tryz.ntmps34
  go_wp2_with fail
  refine (st_copy_nil w).mono ?_
  rintro e w1 ⟨rfl, hw1⟩
  rw [hw1]
  clear hw1
  go_wp2_with fail
  refine (st_new w).mono ?_
  rintro e w2 ⟨rfl, s2, hb2⟩
  have n3 := my_alloc_new w2 (.cells #[.pointer (some ⟨w.heap.size, 0, none⟩), .slice none 0 0] 86)
  have hb3 : Below w2.heap.size w2 (w2.alloc (.cells #[.pointer (some ⟨w.heap.size, 0, none⟩), .slice none 0 0] 86)) := (Below.refl _ w2).alloc (Nat.le_refl _) _
  have hfin : ∃ g, Ending.returned (.pointer (some ⟨w2.heap.size, 0, none⟩)) = .returned (.pointer (some ⟨g, 0, none⟩)) ∧ JM w.heap.size (fun k => w.heap.size ≤ k) g ⟨[], []⟩ (w2.alloc (.cells #[.pointer (some ⟨w.heap.size, 0, none⟩), .slice none 0 0] 86)) ∧ Below w.heap.size w (w2.alloc (.cells #[.pointer (some ⟨w.heap.size, 0, none⟩), .slice none 0 0] 86)) :=
    ⟨_, rfl, ⟨_, _, _, _, jx_fresh _ _ _ _ _ _ (StoreIs.below s2 hb3) hb2.size n3⟩, hb2.alloc hb2.size _⟩
  replace hfin := Aside0.mk hfin
  clear n3 hb3 s2 hb2
  go_wp2
  go_ret
  exact hfin.out
/-! ### a journal that is none -/
set_option maxHeartbeats 1000000 in
set_option maxRecDepth 100000 in
theorem jn_get (key : ByteArray) (w : World) : Calls Tryz.prog 20 #[.pointer none, .string key] w fun e w' => e = .returned (.tuple #[.string ⟨#[]⟩, .bool false]) ∧ w' = w := by
  go_enter Tryz.func20, Tryz.ntmps20
  go_wp2
  go_ret2
  exact ⟨rfl, rfl⟩
set_option maxHeartbeats 1000000 in
set_option maxRecDepth 100000 in
theorem jn_set (key value : ByteArray) (w : World) : Calls Tryz.prog 57 #[.pointer none, .string key, .string value] w fun e w' => e = .returned (.int .i64 2) ∧ w' = w := by
  go_enter Tryz.func57, Tryz.ntmps57
  go_wp2
  go_ret
  exact ⟨rfl, rfl⟩
set_option maxHeartbeats 1000000 in
set_option maxRecDepth 100000 in
theorem jn_del (key : ByteArray) (w : World) : Calls Tryz.prog 30 #[.pointer none, .string key] w fun e w' => e = .returned (.int .i64 2) ∧ w' = w := by
  go_enter Tryz.func30, Tryz.ntmps30
  go_wp2
  go_ret
  exact ⟨rfl, rfl⟩
set_option maxHeartbeats 1000000 in
set_option maxRecDepth 100000 in
theorem jn_list (w : World) : Calls Tryz.prog 18 #[.pointer none] w fun e w' => e = .returned (.slice none 0 0) ∧ w' = w := by
  go_enter Tryz.func18, Tryz.ntmps18
  go_wp2
  go_ret
  exact ⟨rfl, rfl⟩

/-! ### wire_Reader_Num: function 45 -/
def wire_Reader_Num.f (s0_0 : ByteArray) (s0_1 : Int) : Option (Int × ByteArray × Int) := (wire_Reader_stopped.f s0_0 s0_1).bind fun bt136 => (if bt136.1 = true then (some (0, bt136.2.1, bt136.2.2)) else ((wire_number.f bt136.2.1).bind fun bt139 => ((wire_Reader_take.f bt136.2.1 bt136.2.2 bt139.2.1 bt139.2.2).bind fun bt142 => (some (bt139.1, bt142.2.1, bt142.2.2)))))
set_option maxHeartbeats 8000000 in
set_option maxRecDepth 100000 in
theorem wire_Reader_Num.calls (g : Nat) (s0_0 : ByteArray) (s0_1 : Int) (r1 : Int) (r2 : ByteArray) (r3 : Int) (w0 w : World) (hI : IsS88 w0 w g s0_0 s0_1) (hB : Below w0.heap.size w0 w) (h : wire_Reader_Num.f s0_0 s0_1 = some (r1, r2, r3)) :
    Calls Tryz.prog 45 #[.pointer (some ⟨g, 0, none⟩)] w fun e w' => e = .returned (.int .i64 r1) ∧ IsS88 w0 w' g r2 r3 ∧ Below w0.heap.size w0 w' ∧ KeepBut w w' g none := by
  have HI0 := Aside0.mk hI
  have HK := Aside0.mk (KeepBut.refl w g none)
  have HL := Aside0.mk hB.size
  clear hI
  have HW0 := Aside0.mk hB.size
  have HB := Aside0.mk hB
  clear hB
  have H : ((wire_Reader_stopped.f s0_0 s0_1).bind fun bt136 => (if bt136.1 = true then (some (0, bt136.2.1, bt136.2.2)) else ((wire_number.f bt136.2.1).bind fun bt139 => ((wire_Reader_take.f bt136.2.1 bt136.2.2 bt139.2.1 bt139.2.2).bind fun bt142 => (some (bt139.1, bt142.2.1, bt142.2.2)))))) = some (r1, r2, r3) := h
  clear h
  replace H := Option.bind_eq_some_iff.mp H
  obtain ⟨⟨t136, t137, t138⟩, A20, H⟩ := H
  replace H : (if t136 = true then (some (0, t137, t138)) else ((wire_number.f t137).bind fun bt139 => ((wire_Reader_take.f t137 t138 bt139.2.1 bt139.2.2).bind fun bt142 => (some (bt139.1, bt142.2.1, bt142.2.2))))) = some (r1, r2, r3) := H
  have A2 := Aside0.mk A20
  clear A20
  by_cases c3 : t136 = true
  · subst c3
    have H1 : (some (0, t137, t138)) = some (r1, r2, r3) := by rw [if_pos rfl] at H; exact H
    clear H
    have H := H1
    clear H1
    simp only [Option.some.injEq, Prod.mk.injEq] at H
    obtain ⟨rfl, rfl, rfl⟩ := H
    go_enter Tryz.func45, Tryz.ntmps45
    go_wp2_with (first | ((with_reducible refine gate_callee (f := 50) rfl ?_); refine goesL_ (some 7) rfl rfl Tryz.func50 (by kernel_rfl) rfl #[.pointer (some ⟨g, 0, none⟩)] rfl (by (try simp only [List.map_toArray, List.map_cons, List.map_nil]); first | done | rfl | (simp only [List.length_drop, List.length_take]; rfl)) ?_; (with_reducible refine (wire_Reader_stopped.calls g s0_0 s0_1 true t137 t138 w0 _ ?side1 ?side2 A2.out).mono ?_); (case side1 => repeat (first | (with_reducible first | exact HI0.out | apply IsS88.alloc | apply IsS88.drewN | apply IsS88.drew | apply IsS88.set_0 | apply IsS88.set_1) | exact HI0.out)); (case side2 => repeat (first | (with_reducible first | exact HB.out | apply below_alloc | apply pw_below_drewN | apply below_drew1 | refine below_set ?_ (IsS88.ge HI0.out)) | exact HB.out)); rintro e w4 ⟨rfl, hi, hb, hk⟩; refine ⟨_, rfl, ?_⟩; have n0_ := Aside0.mk (KeepBut.trans (by repeat (first | (with_reducible first | exact HK.out | apply KeepBut.set_ | apply keep_drewN | apply keep_drew | apply keep_alloc) | exact HK.out)) hk (.inl rfl)); have n1_ := Aside0.mk (hb); have n2_ := Aside0.mk (hi); clear HK; clear HB; clear HI0; have HK := n0_; have HB := n1_; have HI0 := n2_; clear n0_ n1_ n2_; (try clear hb); (try clear hb2); (try clear hk); (try clear hi)))
    go_ret
    exact ⟨by first | rfl | (simp [errW_none, errW_some] <;> rfl) | (simp [*, errW_none, errW_some] <;> rfl), by repeat (first | (with_reducible first | exact HI0.out | apply IsS88.alloc | apply IsS88.drewN | apply IsS88.drew | apply IsS88.set_0 | apply IsS88.set_1) | exact HI0.out), by repeat (first | (with_reducible first | exact HB.out | apply below_alloc | apply pw_below_drewN | apply below_drew1 | refine below_set ?_ (IsS88.ge HI0.out)) | exact HB.out), by repeat (first | (with_reducible first | exact HK.out | apply KeepBut.set_ | apply keep_drewN | apply keep_drew | apply keep_alloc) | exact HK.out)⟩
  · replace c3 := Bool.eq_false_iff.mpr c3
    subst c3
    have H1 : ((wire_number.f t137).bind fun bt139 => ((wire_Reader_take.f t137 t138 bt139.2.1 bt139.2.2).bind fun bt142 => (some (bt139.1, bt142.2.1, bt142.2.2)))) = some (r1, r2, r3) := by rw [if_neg (show ¬ (false = true) by decide)] at H; exact H
    clear H
    have H := H1
    clear H1
    replace H := Option.bind_eq_some_iff.mp H
    obtain ⟨⟨t139, t140, t141⟩, A50, H⟩ := H
    replace H : ((wire_Reader_take.f t137 t138 t140 t141).bind fun bt142 => (some (t139, bt142.2.1, bt142.2.2))) = some (r1, r2, r3) := H
    have A5 := Aside0.mk A50
    clear A50
    replace H := Option.bind_eq_some_iff.mp H
    obtain ⟨⟨t142, t143, t144⟩, A60, H⟩ := H
    replace H : (some (t139, t143, t144)) = some (r1, r2, r3) := H
    have A6 := Aside0.mk A60
    clear A60
    simp only [Option.some.injEq, Prod.mk.injEq] at H
    obtain ⟨rfl, rfl, rfl⟩ := H
    go_enter Tryz.func45, Tryz.ntmps45
    go_wp2_with (first | ((with_reducible refine gate_callee (f := 50) rfl ?_); refine goesL_ (some 7) rfl rfl Tryz.func50 (by kernel_rfl) rfl #[.pointer (some ⟨g, 0, none⟩)] rfl (by (try simp only [List.map_toArray, List.map_cons, List.map_nil]); first | done | rfl | (simp only [List.length_drop, List.length_take]; rfl)) ?_; (with_reducible refine (wire_Reader_stopped.calls g s0_0 s0_1 false t137 t138 w0 _ ?side1 ?side2 A2.out).mono ?_); (case side1 => repeat (first | (with_reducible first | exact HI0.out | apply IsS88.alloc | apply IsS88.drewN | apply IsS88.drew | apply IsS88.set_0 | apply IsS88.set_1) | exact HI0.out)); (case side2 => repeat (first | (with_reducible first | exact HB.out | apply below_alloc | apply pw_below_drewN | apply below_drew1 | refine below_set ?_ (IsS88.ge HI0.out)) | exact HB.out)); rintro e w7 ⟨rfl, hi, hb, hk⟩; refine ⟨_, rfl, ?_⟩; have n0_ := Aside0.mk (KeepBut.trans (by repeat (first | (with_reducible first | exact HK.out | apply KeepBut.set_ | apply keep_drewN | apply keep_drew | apply keep_alloc) | exact HK.out)) hk (.inl rfl)); have n1_ := Aside0.mk (hb); have n2_ := Aside0.mk (hi); clear HK; clear HB; clear HI0; have HK := n0_; have HB := n1_; have HI0 := n2_; clear n0_ n1_ n2_; (try clear hb); (try clear hb2); (try clear hk); (try clear hi); obtain ⟨HGz8, hgz8⟩ := HI0.out; have hcz8_0 := cellS88_0 HGz8; have hcz8_1 := cellS88_1 HGz8; have hfz8_0 := blk_frozen HGz8 0; have hfz8_1 := blk_frozen HGz8 1; clear HGz8 hgz8) | ((with_reducible refine gate_callee (f := 77) rfl ?_); refine goesL_ (some 13) rfl rfl Tryz.func77 (by kernel_rfl) rfl #[.string t137] rfl (by (try simp only [List.map_toArray, List.map_cons, List.map_nil]); first | done | rfl | (simp only [List.length_drop, List.length_take]; rfl)) ?_; (with_reducible refine (wire_number.calls t137 t139 t140 t141 _ A5.out).mono ?_); rintro e w' ⟨rfl, ⟨nd, rfl⟩⟩; refine ⟨_, rfl, ?_⟩) | ((with_reducible refine gate_callee (f := 52) rfl ?_); refine goesL_ (some 20) rfl rfl Tryz.func52 (by kernel_rfl) rfl #[.pointer (some ⟨g, 0, none⟩), .int .i64 t140, .int .i64 t141] rfl (by (try simp only [List.map_toArray, List.map_cons, List.map_nil]); first | done | rfl | (simp only [List.length_drop, List.length_take]; rfl)) ?_; (with_reducible refine (wire_Reader_take.calls g t137 t138 t140 t141 t142 t143 t144 w0 _ ?side1 ?side2 A6.out).mono ?_); (case side1 => repeat (first | (with_reducible first | exact HI0.out | apply IsS88.alloc | apply IsS88.drewN | apply IsS88.drew | apply IsS88.set_0 | apply IsS88.set_1) | exact HI0.out)); (case side2 => repeat (first | (with_reducible first | exact HB.out | apply below_alloc | apply pw_below_drewN | apply below_drew1 | refine below_set ?_ (IsS88.ge HI0.out)) | exact HB.out)); rintro e w9 ⟨rfl, hi, hb, hk⟩; refine ⟨_, rfl, ?_⟩; have n0_ := Aside0.mk (KeepBut.trans (by repeat (first | (with_reducible first | exact HK.out | apply KeepBut.set_ | apply keep_drewN | apply keep_drew | apply keep_alloc) | exact HK.out)) hk (.inl rfl)); have n1_ := Aside0.mk (hb); have n2_ := Aside0.mk (hi); clear HK; clear HB; clear HI0; have HK := n0_; have HB := n1_; have HI0 := n2_; clear n0_ n1_ n2_; (try clear hb); (try clear hb2); (try clear hk); (try clear hi)))
    go_ret
    exact ⟨by first | rfl | (simp [errW_none, errW_some] <;> rfl) | (simp [*, errW_none, errW_some] <;> rfl), by repeat (first | (with_reducible first | exact HI0.out | apply IsS88.alloc | apply IsS88.drewN | apply IsS88.drew | apply IsS88.set_0 | apply IsS88.set_1) | exact HI0.out), by repeat (first | (with_reducible first | exact HB.out | apply below_alloc | apply pw_below_drewN | apply below_drew1 | refine below_set ?_ (IsS88.ge HI0.out)) | exact HB.out), by repeat (first | (with_reducible first | exact HK.out | apply KeepBut.set_ | apply keep_drewN | apply keep_drew | apply keep_alloc) | exact HK.out)⟩

end Go.Proofs.YtjappgjpikbdeaaGreatDoor.PTkk
