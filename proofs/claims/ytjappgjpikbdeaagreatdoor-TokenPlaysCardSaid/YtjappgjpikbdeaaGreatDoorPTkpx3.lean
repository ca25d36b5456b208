/- A part of the walk of TokenPlays. No condition. -/
import Derived.Test.YtjappgjpikbdeaaGreatDoorPTkpx0
import Derived.Test.YtjappgjpikbdeaaGreatDoorPTkpx1
import Derived.Test.YtjappgjpikbdeaaGreatDoorPTkpx2
namespace Go.Proofs.YtjappgjpikbdeaaGreatDoor.PTkp
set_option maxRecDepth 100000
set_option maxHeartbeats 8000000
open Go.RowKit Go.Proofs.YtjappgjpikbdeaaGreatDoorW.PrintWords Go.Proofs.YtjappgjpikbdeaaGreatDoorW.PrintLast Go.Proofs.YtjappgjpikbdeaaGreatDoorW.PrintMore
attribute [local go_sem] max2_int min2_int max_two min_two max_three min_three max_four min_four   -- for this text's walks alone
set_option linter.unusedVariables false
set_option linter.unusedSimpArgs false
section
theorem eqB66 (d : Nat) (w : World) (x0 y0 : ByteArray) (x1 y1 : ByteArray) (x2 y2 : ByteArray) (x3 y3 : ByteArray) :
  (Op.equalIn (d + 2) 66 (.agg #[.string x0, .string x1, .string x2, .string x3]) (.agg #[.string y0, .string y1, .string y2, .string y3])).run Tryz.prog w = .ok (x0.toList == y0.toList && (x1.toList == y1.toList && (x2.toList == y2.toList && (x3.toList == y3.toList)))) w := by
 refine eqA_of Tryz.underlying66 (by kernel_rfl) ?_
 refine eqf_cons (by rfl) (by go_simp; rfl) (by go_simp; rfl) (by go_simp) ?_
 refine eqf_cons (by rfl) (by go_simp; rfl) (by go_simp; rfl) (by go_simp) ?_
 refine eqf_cons (by rfl) (by go_simp; rfl) (by go_simp; rfl) (by go_simp) ?_
 exact eqf_last (by rfl) (by go_simp; rfl) (by go_simp; rfl) (by go_simp)
attribute [local go_sem high] eqB66
def clNewE (cur : List S82) (c0 c1 c2 c3 : ByteArray) : Int :=
 if c0.size = 0 ∨ c0.size > 512 ∨ c3.size > 512 then 7 else if c1.size > 32768 ∨ c2.size > 16384 then 4 else if hasK cur (keyB (⟨#[99, 108, 97, 115, 115]⟩ : ByteArray) [c0]) = true then 9 else setE (keyB (⟨#[99, 108, 97, 115, 115]⟩ : ByteArray) [c0]) (valB [c1, c2, c3])
def clNew (cur : List S82) (c0 c1 c2 c3 : ByteArray) : List S82 :=
 if c0.size = 0 ∨ c0.size > 512 ∨ c3.size > 512 then cur else if c1.size > 32768 ∨ c2.size > 16384 then cur else if hasK cur (keyB (⟨#[99, 108, 97, 115, 115]⟩ : ByteArray) [c0]) = true then cur else setC cur (keyB (⟨#[99, 108, 97, 115, 115]⟩ : ByteArray) [c0]) (valB [c1, c2, c3])
theorem no_list {s : ByteArray} (h : ¬ s.size = 0) : (s.toList == ([] : List UInt8)) = false := by
 rw [beq_eq_false_iff_ne]; intro e; exact h (by rw [ba_size, e]; rfl)
theorem cl_newB {base g : Nat} {ok : Nat → Prop} {w0 : World} {cur : List S82} (c0 c1 c2 c3 : ByteArray) {w : World} (h : JS base ok w0 g cur w) (hk : KV 1000000 cur) (hid : c0.size ≤ 50000000) (h0 : ¬ c0.size = 0) (hA : ¬ 512 < c0.size) (hB : ¬ 512 < c3.size) (hC : ¬ 32768 < c1.size) (hD : ¬ 16384 < c2.size) (hb0 : hasK cur (keyB (⟨#[99, 108, 97, 115, 115]⟩ : ByteArray) [c0]) = false) :
  Calls Tryz.prog 35 #[.pointer (some ⟨g, 0, none⟩), .agg #[.string c0, .string c1, .string c2, .string c3]] w fun e w' => e = .returned (.int .i64 (setE (keyB (⟨#[99, 108, 97, 115, 115]⟩ : ByteArray) [c0]) (valB [c1, c2, c3]))) ∧ JS base ok w0 g (setC cur (keyB (⟨#[99, 108, 97, 115, 115]⟩ : ByteArray) [c0]) (valB [c1, c2, c3])) w' ∧ JK w w' := by
 obtain ⟨k1, key1⟩ := clKey_ev c0 hid
 have HJ := As_ h
 have HK := As_ (JK.of_below (Below.refl w.heap.size w))
 clear h
 generalize keyB (⟨#[99, 108, 97, 115, 115]⟩ : ByteArray) [c0] = key at key1 hb0 ⊢
 obtain ⟨v, hv⟩ : ∃ v, (getK cur key).1 = v := ⟨_, rfl⟩
 have h0b := no_list h0
 obtain ⟨y2, hy2⟩ : ∃ y : List ByteArray, y = [c1, c2, c3] := ⟨_, rfl⟩
 rw [← hy2]
 have hly2 : y2.length = 3 := by rw [hy2]; rfl
 have hsy2 : ∀ s ∈ y2, s.size ≤ 32768 := by
  rw [hy2]
  intro s hs
  simp only [List.mem_cons, List.not_mem_nil, or_false] at hs
  rcases hs with rfl | rfl | rfl <;> omega
 have Ny2 := As_ hy2
 clear hy2
 go_enter Tryz.func35, Tryz.ntmps35
 go_wp2_with (first | ((with_reducible refine gate_dst (N := 3) rfl ?_); refine bxE (N := 3) (cs := #[.string c0, .string c1, .string c2, .string c3]) (t := 66) ?_; intro gbc hg wc hbox hb; have GKc := As_ ((by rw [hg]; exact JK.size (jkG) : w.heap.size ≤ gbc)); have GJc := As_ ((by rw [hg]; exact JS.size0 (base := base) (ok := ok) (w0 := w0) (g := g) (cur := cur) (jsG) : w0.heap.size ≤ gbc)); replace HK := As_ (HK.out.trans (JK.of_below hb)); replace HJ := As_ (JS.below (base := base) (ok := ok) (w0 := w0) (g := g) (cur := cur) (jsG) hb); have BKc := As_ hbox; clear hb hbox hg; obtain ⟨zc_0, fc_0, zc_1, fc_1, zc_2, fc_2, zc_3, fc_3⟩ := cellsN4 BKc.out))
 refine (class_key.calls k1 c0 key _ key1).mono ?_
 rintro e w1 ⟨rfl, hb⟩
 replace HK := As_ (HK.out.trans (JK.of_below hb))
 replace HJ := As_ (JS.below (base := base) (ok := ok) (w0 := w0) (g := g) (cur := cur) (jsG) hb)
 replace BKc := As_ (blk_below (g := gbc) (o := .cells #[.string c0, .string c1, .string c2, .string c3] 66 (0, 0)) (bkG_c) hb)
 clear hb
 go_wp2_with fail
 refine (js_get key v false HJ.out hk hv hb0).mono ?_
 rintro e w2 ⟨rfl, hb⟩
 replace HK := As_ (HK.out.trans (JK.of_below hb))
 replace HJ := As_ (JS.below (base := base) (ok := ok) (w0 := w0) (g := g) (cur := cur) (jsG) hb)
 replace BKc := As_ (blk_below (g := gbc) (o := .cells #[.string c0, .string c1, .string c2, .string c3] 66 (0, 0)) (bkG_c) hb)
 clear hb
 obtain ⟨zc_0, fc_0, zc_1, fc_1, zc_2, fc_2, zc_3, fc_3⟩ := cellsN4 BKc.out
 go_wp2_with (first | ((with_reducible refine gate_dst (N := 60) rfl ?_); (try (refine gate_guard (by rfl) ?_; dsimp only)); refine Kd.R_lit Kd.string _ 9 ?hg (N := 60) ?hd (xs := ([c1, c2, c3] : List ByteArray)) (inner := [.string c1, .string c2, .string c3]) (ok := fun _ => True) (okp := fun _ => True) ?hr ?hp (fun _ hk => hk) trivial (Below.refl _ _) (Nat.le_refl _) (by simp) ?_; (case hd => rfl); (case hg => rfl); (case hr => first | (go_simp; done) | (go_simp; rfl)); (case hp => exact (Reps.one (show Kd.M Kd.string _ _ _ c1 [.string c1] from rfl) (Reps.one (show Kd.M Kd.string _ _ _ c2 [.string c2] from rfl) (Reps.one (show Kd.M Kd.string _ _ _ c3 [.string c3] from rfl) (Reps.none _ _))))); intro vlit wy2 hlit hb hg_ hnew_; clear hg_ hnew_; rw [← Ny2.out] at hlit; obtain ⟨Ay2, cy2, el_⟩ := Kd.R_slice hlit; subst el_; have Ry2 := As_ hlit; clear hlit; replace HK := As_ (HK.out.trans (JK.of_below hb)); replace HJ := As_ (JS.below (base := base) (ok := ok) (w0 := w0) (g := g) (cur := cur) (jsG) hb); replace BKc := As_ (blk_below (g := gbc) (o := .cells #[.string c0, .string c1, .string c2, .string c3] 66 (0, 0)) (bkG_c) hb); clear hb))
 clear h0 h0b hA hB hC hD hv hb0
 iterate 6 (try clear zc_0 zc_1 zc_2 zc_3 fc_0 fc_1 fc_2 fc_3)
 have Cy2 := As_ (Kd.R_reads' Ry2.out).2.2
 clear Ry2
 go_loopg [7, 62] y2.length (fun gg sa si wx => ∃ i : Nat, sa = .string (valB (y2.take i)) ∧ si = .int .i64 (i : Int) ∧ i + gg = y2.length ∧ Aside0 (Below wy2.heap.size wy2 wx))
 case atStart => exact ⟨0, rfl, rfl, by omega, ⟨Below.refl _ _⟩⟩
 case round =>
  obtain ⟨i, rfl, rfl, hi, HL⟩ := hrel
  by_cases hlt : i < y2.length
  ·have p1 : (0 : Int) ≤ (i : Int) := by omega
   have q1 : (i : Int) < (y2.length : Int) := by omega
   obtain ⟨ad, e1, hx1⟩ := Kd.at_string Cy2.out (i : Int) p1 q1
   cases e1
   replace hx1 := (HL.out.cell (World.block_lt_of_cell? _ _ hx1)).trans hx1
   rw [rdOf_get y2 i hlt] at hx1
   simp only [Int.toNat_natCast] at hx1
   have hsi := hsy2 _ (List.getElem_mem hlt)
   have hstep := valB_take y2 i hlt
   have hva := valB_len hsy2 (by omega) i
   have htb := textB_len y2[i]
   generalize y2[i] = d at hx1 hsi hstep htb
   have c9 : (valB (y2.take i)).size + (textB d).size ≤ 9223372036854775807 := by omega
   have A9 := As_ c9
   have AS9 := As_ hstep
   have AW9 := As_ (w_one i (by omega))
   clear hsi hstep hva htb c9
   go_wp2_with fail
   obtain ⟨er9, hT9⟩ : ∃ er, wire_Text.f d = some (textB d, er) := ⟨_, wText_is d⟩
   refine (wire_Text.calls d _ _ _ hT9).mono ?_
   rintro e w_t ⟨rfl, hb⟩
   clear hT9
   have HL2 := As_ (below_then HL.out HL.out.size hb)
   clear hb HL hx1
   have c9b0 := eq_true A9.out
   have c9b2 : (9223372036854775807 < (valB (y2.take i)).size + (textB d).size) = False := eq_false (Nat.not_lt.2 A9.out)
   have hwi : wrap64 ((i : Int) + 1) = ((i + 1 : Nat) : Int) := AW9.out
   go_wp2
   go_roundg (y2.length - (i + 1))
   case measure => omega
   case rel => exact ⟨i + 1, by rw [AS9.out], by first | rfl | (rw [hwi]) | (simp; done), by omega, HL2⟩
  ·obtain rfl : i = y2.length := by omega
   rw [List.take_length]
   replace HK := As_ (HK.out.trans (JK.of_below HL.out))
   replace HJ := As_ (JS.below (base := base) (ok := ok) (w0 := w0) (g := g) (cur := cur) (jsG) HL.out)
   replace BKc := As_ (blk_below (g := gbc) (o := .cells #[.string c0, .string c1, .string c2, .string c3] 66 (0, 0)) (bkG_c) HL.out)
   clear HL
   obtain ⟨zc_0, fc_0, zc_1, fc_1, zc_2, fc_2, zc_3, fc_3⟩ := cellsN4 BKc.out
   go_wp2_with fail
   refine (class_key.calls k1 c0 key _ key1).mono ?_
   rintro e w5 ⟨rfl, hb⟩
   replace HK := As_ (HK.out.trans (JK.of_below hb))
   replace HJ := As_ (JS.below (base := base) (ok := ok) (w0 := w0) (g := g) (cur := cur) (jsG) hb)
   replace BKc := As_ (blk_below (g := gbc) (o := .cells #[.string c0, .string c1, .string c2, .string c3] 66 (0, 0)) (bkG_c) hb)
   clear hb
   go_wp2_with fail
   refine (js_set key (valB y2) HJ.out hk).mono ?_
   rintro e w6 ⟨rfl, hj, hk2⟩
   have HJ6 := As_ hj
   have HK6 := As_ (HK.out.trans hk2)
   clear hj hk2
   go_wp2
   go_ret
   exact ⟨rfl, HJ6.out, HK6.out⟩
theorem cl_newA {base g : Nat} {ok : Nat → Prop} {w0 : World} {cur : List S82} (c0 c1 c2 c3 : ByteArray) (x : Int) (cur' : List S82) {w : World} (h : JS base ok w0 g cur w) (hk : KV 1000000 cur) (hid : c0.size ≤ 50000000) (hbad : c0.size = 0 ∨ c0.size > 512 ∨ c3.size > 512 ∨ c1.size > 32768 ∨ c2.size > 16384 ∨ hasK cur (keyB (⟨#[99, 108, 97, 115, 115]⟩ : ByteArray) [c0]) = true) (hx : clNewE cur c0 c1 c2 c3 = x) (hcur : clNew cur c0 c1 c2 c3 = cur') :
  Calls Tryz.prog 35 #[.pointer (some ⟨g, 0, none⟩), .agg #[.string c0, .string c1, .string c2, .string c3]] w fun e w' => e = .returned (.int .i64 x) ∧ JS base ok w0 g cur' w' ∧ JK w w' := by
 obtain ⟨k1, key1⟩ := clKey_ev c0 hid
 have HJ := As_ h
 have HK := As_ (JK.of_below (Below.refl w.heap.size w))
 clear h
 unfold clNewE at hx
 unfold clNew at hcur
 generalize keyB (⟨#[99, 108, 97, 115, 115]⟩ : ByteArray) [c0] = key at key1 hx hcur hbad
 obtain ⟨v, hv⟩ : ∃ v, (getK cur key).1 = v := ⟨_, rfl⟩
 obtain ⟨b, hb0⟩ : ∃ b, hasK cur key = b := ⟨_, rfl⟩
 rw [hb0] at hx hcur hbad
 go_enter Tryz.func35, Tryz.ntmps35
 go_wp2_with (first | ((with_reducible refine gate_dst (N := 3) rfl ?_); refine bxE (N := 3) (cs := #[.string c0, .string c1, .string c2, .string c3]) (t := 66) ?_; intro gbc hg wc hbox hb; have GKc := As_ ((by rw [hg]; exact JK.size (jkG) : w.heap.size ≤ gbc)); have GJc := As_ ((by rw [hg]; exact JS.size0 (base := base) (ok := ok) (w0 := w0) (g := g) (cur := cur) (jsG) : w0.heap.size ≤ gbc)); replace HK := As_ (HK.out.trans (JK.of_below hb)); replace HJ := As_ (JS.below (base := base) (ok := ok) (w0 := w0) (g := g) (cur := cur) (jsG) hb); have BKc := As_ hbox; clear hb hbox hg; obtain ⟨zc_0, fc_0, zc_1, fc_1, zc_2, fc_2, zc_3, fc_3⟩ := cellsN4 BKc.out))
 refine (class_key.calls k1 c0 key _ key1).mono ?_
 rintro e w1 ⟨rfl, hb⟩
 replace HK := As_ (HK.out.trans (JK.of_below hb))
 replace HJ := As_ (JS.below (base := base) (ok := ok) (w0 := w0) (g := g) (cur := cur) (jsG) hb)
 replace BKc := As_ (blk_below (g := gbc) (o := .cells #[.string c0, .string c1, .string c2, .string c3] 66 (0, 0)) (bkG_c) hb)
 clear hb
 go_wp2_with fail
 refine (js_get key v b HJ.out hk hv hb0).mono ?_
 rintro e w2 ⟨rfl, hb⟩
 replace HK := As_ (HK.out.trans (JK.of_below hb))
 replace HJ := As_ (JS.below (base := base) (ok := ok) (w0 := w0) (g := g) (cur := cur) (jsG) hb)
 replace BKc := As_ (blk_below (g := gbc) (o := .cells #[.string c0, .string c1, .string c2, .string c3] 66 (0, 0)) (bkG_c) hb)
 clear hb
 obtain ⟨zc_0, fc_0, zc_1, fc_1, zc_2, fc_2, zc_3, fc_3⟩ := cellsN4 BKc.out
 by_cases h0 : c0.size = 0
 ·rw [if_pos (.inl h0)] at hx hcur
  obtain rfl : c0 = (⟨#[]⟩ : ByteArray) := ByteArray.size_eq_zero_iff.1 h0
  by_cases h1 : c1.size = 0
  ·obtain rfl : c1 = (⟨#[]⟩ : ByteArray) := ByteArray.size_eq_zero_iff.1 h1
   by_cases h2 : c2.size = 0
   ·obtain rfl : c2 = (⟨#[]⟩ : ByteArray) := ByteArray.size_eq_zero_iff.1 h2
    by_cases h3 : c3.size = 0
    ·obtain rfl : c3 = (⟨#[]⟩ : ByteArray) := ByteArray.size_eq_zero_iff.1 h3
     subst hx hcur
     go_wp2
     go_ret
     exact ⟨rfl, jsG, jkG⟩
    ·have h3b := no_list h3
     subst hx hcur
     go_wp2
     go_ret
     exact ⟨rfl, jsG, jkG⟩
   ·have h2b := no_list h2
    subst hx hcur
    go_wp2
    go_ret
    exact ⟨rfl, jsG, jkG⟩
  ·have h1b := no_list h1
   subst hx hcur
   go_wp2
   go_ret
   exact ⟨rfl, jsG, jkG⟩
 ·have h0b := no_list h0
  by_cases hA : 512 < c0.size
  ·rw [if_pos (.inr (.inl hA))] at hx hcur
   subst hx hcur
   go_wp2
   go_ret
   exact ⟨rfl, jsG, jkG⟩
  ·by_cases hB : 512 < c3.size
   ·rw [if_pos (.inr (.inr hB))] at hx hcur
    subst hx hcur
    go_wp2
    go_ret
    exact ⟨rfl, jsG, jkG⟩
   ·rw [if_neg (by omega)] at hx hcur
    by_cases hC : 32768 < c1.size
    ·rw [if_pos (.inl hC)] at hx hcur
     subst hx hcur
     go_wp2
     go_ret
     exact ⟨rfl, jsG, jkG⟩
    ·by_cases hD : 16384 < c2.size
     ·rw [if_pos (.inr hD)] at hx hcur
      subst hx hcur
      go_wp2
      go_ret
      exact ⟨rfl, jsG, jkG⟩
     ·rw [if_neg (by omega)] at hx hcur
      cases b with
      | false =>
       exact absurd hbad (by rintro (h | h | h | h | h | h) <;> first | omega | cases h)
      | true =>
       rw [if_pos rfl] at hx hcur
       subst hx hcur
       go_wp2
       go_ret
       exact ⟨rfl, jsG, jkG⟩
theorem cl_new {base g : Nat} {ok : Nat → Prop} {w0 : World} {cur : List S82} (c0 c1 c2 c3 : ByteArray) (x : Int) (cur' : List S82) {w : World} (h : JS base ok w0 g cur w) (hk : KV 1000000 cur) (hid : c0.size ≤ 50000000) (hx : clNewE cur c0 c1 c2 c3 = x) (hcur : clNew cur c0 c1 c2 c3 = cur') :
  Calls Tryz.prog 35 #[.pointer (some ⟨g, 0, none⟩), .agg #[.string c0, .string c1, .string c2, .string c3]] w fun e w' => e = .returned (.int .i64 x) ∧ JS base ok w0 g cur' w' ∧ JK w w' := by
 by_cases hbad : c0.size = 0 ∨ c0.size > 512 ∨ c3.size > 512 ∨ c1.size > 32768 ∨ c2.size > 16384 ∨ hasK cur (keyB (⟨#[99, 108, 97, 115, 115]⟩ : ByteArray) [c0]) = true
 ·exact cl_newA c0 c1 c2 c3 x cur' h hk hid hbad hx hcur
 ·have h0 : ¬ c0.size = 0 := fun e => hbad (.inl e)
  have hA : ¬ 512 < c0.size := fun e => hbad (.inr (.inl e))
  have hB : ¬ 512 < c3.size := fun e => hbad (.inr (.inr (.inl e)))
  have hC : ¬ 32768 < c1.size := fun e => hbad (.inr (.inr (.inr (.inl e))))
  have hD : ¬ 16384 < c2.size := fun e => hbad (.inr (.inr (.inr (.inr (.inl e)))))
  have hb0 : hasK cur (keyB (⟨#[99, 108, 97, 115, 115]⟩ : ByteArray) [c0]) = false := Bool.eq_false_iff.2 (fun e => hbad (.inr (.inr (.inr (.inr (.inr e))))))
  unfold clNewE at hx
  unfold clNew at hcur
  rw [if_neg (by omega), if_neg (by omega), if_neg (by rw [hb0]; decide)] at hx hcur
  subst hx hcur
  exact cl_newB c0 c1 c2 c3 h hk hid h0 hA hB hC hD hb0
def names_head.f (a0 : Int) : Option (ByteArray) := if a0 = 1 then (some (⟨#[99, 104, 97, 110, 110, 101, 108, 45]⟩ : ByteArray)) else (if a0 = 2 then (some (⟨#[99, 111, 110, 110, 101, 99, 116, 105, 111, 110, 45]⟩ : ByteArray)) else (if a0 = 3 then (some (⟨#[99, 108, 105, 101, 110, 116, 45]⟩ : ByteArray)) else (some (⟨#[]⟩ : ByteArray))))
theorem names_head.calls (a0 : Int) (r : ByteArray) (w : World) (h : names_head.f a0 = some r) :
  Calls Tryz.prog 81 #[.int .i64 a0] w fun e w' => e = .returned (.string r) ∧ Drawn0 w w' := by
 have H : (if a0 = 1 then (some (⟨#[99, 104, 97, 110, 110, 101, 108, 45]⟩ : ByteArray)) else (if a0 = 2 then (some (⟨#[99, 111, 110, 110, 101, 99, 116, 105, 111, 110, 45]⟩ : ByteArray)) else (if a0 = 3 then (some (⟨#[99, 108, 105, 101, 110, 116, 45]⟩ : ByteArray)) else (some (⟨#[]⟩ : ByteArray))))) = some r := h
 clear h
 by_cases c2 : a0 = 1
 ·rw [if_pos c2] at H
  have c2b0 : (a0 == 1) = true := beq_iff_eq.mpr c2
  have c2b1 : (a0 != 1) = false := bne_eq_false_iff_eq.mpr c2
  clear c2
  obtain rfl := Option.some.inj H
  go_enter Tryz.func81, Tryz.ntmps81
  go_wp2
  go_ret
  exact ⟨ap5_, ap10_⟩
 ·rw [if_neg c2] at H
  have c2b0 : (a0 == 1) = false := beq_eq_false_iff_ne.mpr c2
  have c2b1 : (a0 != 1) = true := bne_iff_ne.mpr c2
  by_cases c3 : a0 = 2
  ·rw [if_pos c3] at H
   have c3b0 : (a0 == 2) = true := beq_iff_eq.mpr c3
   have c3b1 : (a0 != 2) = false := bne_eq_false_iff_eq.mpr c3
   clear c3
   obtain rfl := Option.some.inj H
   go_enter Tryz.func81, Tryz.ntmps81
   go_wp2
   go_ret
   exact ⟨ap5_, ap10_⟩
  ·rw [if_neg c3] at H
   have c3b0 : (a0 == 2) = false := beq_eq_false_iff_ne.mpr c3
   have c3b1 : (a0 != 2) = true := bne_iff_ne.mpr c3
   by_cases c4 : a0 = 3
   ·rw [if_pos c4] at H
    have c4b0 : (a0 == 3) = true := beq_iff_eq.mpr c4
    have c4b1 : (a0 != 3) = false := bne_eq_false_iff_eq.mpr c4
    clear c4
    obtain rfl := Option.some.inj H
    go_enter Tryz.func81, Tryz.ntmps81
    go_wp2
    go_ret
    exact ⟨ap5_, ap10_⟩
   ·rw [if_neg c4] at H
    have c4b0 : (a0 == 3) = false := beq_eq_false_iff_ne.mpr c4
    have c4b1 : (a0 != 3) = true := bne_iff_ne.mpr c4
    obtain rfl := Option.some.inj H
    go_enter Tryz.func81, Tryz.ntmps81
    go_wp2
    go_ret
    exact ⟨ap5_, ap10_⟩
def stringslite_CutPrefix.f (a0 : ByteArray) (a1 : ByteArray) : Option (ByteArray × Bool) := (stringslite_HasPrefix.f a0 a1).bind fun t152 => (if t152 = true then (if 0 ≤ (a1.size : Int) then (if (a1.size : Int) ≤ (a0.size : Int) then (some (a0.extract ((a1.size : Int) : Int).toNat a0.size, true)) else (none)) else (none)) else (some (a0, false)))
theorem stringslite_CutPrefix.calls (a0 : ByteArray) (a1 : ByteArray) (r1 : ByteArray) (r2 : Bool) (w : World) (h : stringslite_CutPrefix.f a0 a1 = some (r1, r2)) :
  Calls Tryz.prog 111 #[.string a0, .string a1] w fun e w' => e = .returned (.tuple #[.string r1, .bool r2]) ∧ Drawn0 w w' := by
 have H : ((stringslite_HasPrefix.f a0 a1).bind fun t152 => (if t152 = true then (if 0 ≤ (a1.size : Int) then (if (a1.size : Int) ≤ (a0.size : Int) then (some (a0.extract ((a1.size : Int) : Int).toNat a0.size, true)) else (none)) else (none)) else (some (a0, false)))) = some (r1, r2) := h
 clear h
 replace H := Option.bind_eq_some_iff.mp H
 obtain ⟨t152, A30, H⟩ := H
 try dsimp only at H
 have A3 := As_ A30
 clear A30
 by_cases c4 : t152 = true
 ·subst c4
  have H1 : (if 0 ≤ (a1.size : Int) then (if (a1.size : Int) ≤ (a0.size : Int) then (some (a0.extract ((a1.size : Int) : Int).toNat a0.size, true)) else (none)) else (none)) = some (r1, r2) := by rw [if_pos rfl] at H; exact H
  clear H
  have H := H1
  clear H1
  by_cases c5 : 0 ≤ (a1.size : Int)
  ·rw [if_pos c5] at H
   have c5b0 := eq_true c5
   have c5b1 : decide (0 ≤ (a1.size : Int)) = true := decide_eq_true c5
   clear c5
   by_cases c6 : (a1.size : Int) ≤ (a0.size : Int)
   ·rw [if_pos c6] at H
    have c6b0 := eq_true c6
    have c6b1 : decide ((a1.size : Int) ≤ (a0.size : Int)) = true := decide_eq_true c6
    clear c6
    simp only [Option.some.injEq, Prod.mk.injEq] at H
    obtain ⟨rfl, rfl⟩ := H
    go_enter Tryz.func111, Tryz.ntmps111
    go_wp2_with (first | ((with_reducible refine gate_callee (f := 109) rfl ?_); refine gk_ (some 8) Tryz.func109 #[.string a0, .string a1] ?_; (with_reducible refine (stringslite_HasPrefix.calls a0 a1 true _ A3.out).mono ?_); rintro e w' ⟨rfl, ⟨nd, rfl⟩⟩; refine ⟨_, rfl, ?_⟩))
    go_ret2
    exact ⟨ap5_, ap10_⟩
   ·rw [if_neg c6] at H
    exact absurd H (by simp)
  ·rw [if_neg c5] at H
   exact absurd H (by simp)
 ·replace c4 := Bool.eq_false_iff.mpr c4
  subst c4
  have H1 : (some (a0, false)) = some (r1, r2) := by rw [if_neg (show ¬ (false = true) by decide)] at H; exact H
  clear H
  have H := H1
  clear H1
  simp only [Option.some.injEq, Prod.mk.injEq] at H
  obtain ⟨rfl, rfl⟩ := H
  go_enter Tryz.func111, Tryz.ntmps111
  go_wp2_with (first | ((with_reducible refine gate_callee (f := 109) rfl ?_); refine gk_ (some 8) Tryz.func109 #[.string a0, .string a1] ?_; (with_reducible refine (stringslite_HasPrefix.calls a0 a1 false _ A3.out).mono ?_); rintro e w' ⟨rfl, ⟨nd, rfl⟩⟩; refine ⟨_, rfl, ?_⟩))
  go_ret2
  exact ⟨ap5_, ap10_⟩
def strings_CutPrefix.f (a0 : ByteArray) (a1 : ByteArray) : Option (ByteArray × Bool) := (stringslite_CutPrefix.f a0 a1).bind fun bt153 => (some (bt153.1, bt153.2))
theorem strings_CutPrefix.calls (a0 : ByteArray) (a1 : ByteArray) (r1 : ByteArray) (r2 : Bool) (w : World) (h : strings_CutPrefix.f a0 a1 = some (r1, r2)) :
  Calls Tryz.prog 101 #[.string a0, .string a1] w fun e w' => e = .returned (.tuple #[.string r1, .bool r2]) ∧ Drawn0 w w' := by
 have H : ((stringslite_CutPrefix.f a0 a1).bind fun bt153 => (some (bt153.1, bt153.2))) = some (r1, r2) := h
 clear h
 replace H := Option.bind_eq_some_iff.mp H
 obtain ⟨⟨t153, t154⟩, A30, H⟩ := H
 try dsimp only at H
 have A3 := As_ A30
 clear A30
 simp only [Option.some.injEq, Prod.mk.injEq] at H
 obtain ⟨rfl, rfl⟩ := H
 go_enter Tryz.func101, Tryz.ntmps101
 go_wp2_with (first | ((with_reducible refine gate_callee (f := 111) rfl ?_); refine gk_ (some 8) Tryz.func111 #[.string a0, .string a1] ?_; (with_reducible refine (stringslite_CutPrefix.calls a0 a1 t153 t154 _ A3.out).mono ?_); rintro e w' ⟨rfl, ⟨nd, rfl⟩⟩; refine ⟨_, rfl, ?_⟩))
 go_ret2
 exact ⟨ap5_, ap10_⟩
end
def names_Number.go (s : ByteArray) : Nat → Nat → Int → Option Int
 | 0, _, _ => none
 | d + 1, i, n => if i < s.size then (if bt s i < 48 then none else if bt s i > 57 then none else if n * 10 + (bt s i - 48) > 1099511627776 then none else names_Number.go s d (i + 1) (n * 10 + (bt s i - 48))) else some n
theorem names_Number.go_step (s : ByteArray) (i : Nat) (n : Int) (hi : i < s.size) : names_Number.go s (s.size + 1 - i) i n = (if bt s i < 48 then none else if bt s i > 57 then none else if n * 10 + (bt s i - 48) > 1099511627776 then none else names_Number.go s (s.size + 1 - (i + 1)) (i + 1) (n * 10 + (bt s i - 48))) := by
 obtain ⟨d, hd⟩ : ∃ d, s.size + 1 - i = d + 1 := ⟨s.size - i, by omega⟩
 have hd2 : s.size + 1 - (i + 1) = d := by omega
 rw [hd, hd2]
 simp only [names_Number.go]
 rw [if_pos hi]
theorem names_Number.go_end (s : ByteArray) (i : Nat) (n : Int) (hi : i = s.size) : names_Number.go s (s.size + 1 - i) i n = some n := by
 subst hi
 rw [show s.size + 1 - s.size = 0 + 1 by omega]
 simp only [names_Number.go]
 rw [if_neg (by omega)]
def names_Number.f (a0 : Int) (a1 : ByteArray) : Option (Int × Int) :=
 if a1.size ≤ 140737488351232 then (names_head.f a0).bind fun h => if h.toList = [] then some (0, 1) else (strings_CutPrefix.f a1 h).bind fun p =>
  if p.2 = false then some (0, 7) else if p.1.toList = [] then some (0, 7) else if 1 < p.1.size ∧ bt p.1 0 = 48 then some (0, 7) else
  if p.1.size ≤ 140737488351232 then (match names_Number.go p.1 (p.1.size + 1) 0 0 with
  | none => some (0, 7)
  | some n => some (n, 0)) else none
 else none
theorem names_Number.calls (a0 : Int) (a1 : ByteArray) (r1 : Int) (r2 : Int) (w : World) (h : names_Number.f a0 a1 = some (r1, r2)) :
  Calls Tryz.prog 82 #[.int .i64 a0, .string a1] w fun e w' => e = .returned (.tuple #[.int .i64 r1, .int .i64 r2]) ∧ Below w.heap.size w w' := by
 unfold names_Number.f at h
 by_cases hs : a1.size ≤ 140737488351232
 case neg => rw [if_neg hs] at h; exact absurd h (by simp)
 rw [if_pos hs] at h
 obtain ⟨hd, A1, h⟩ := Option.bind_eq_some_iff.mp h
 replace A1 := As_ A1
 have hbd := As_ (Below.refl w.heap.size w)
 by_cases c1 : hd.toList = []
 ·rw [if_pos c1] at h
  simp only [Option.some.injEq, Prod.mk.injEq] at h
  obtain ⟨rfl, rfl⟩ := h
  go_enter Tryz.func82, Tryz.ntmps82
  go_wp2_with (go_at_call 81; refine (names_head.calls a0 hd _ A1.out).mono ?_; rintro e w1 ⟨rfl, ⟨nd, rfl⟩⟩)
  go_ret2
  exact ⟨rfl, ap8_⟩
 ·rw [if_neg c1] at h
  have c1b : hd.toList.isEmpty = false := by simpa using c1
  clear c1
  obtain ⟨⟨p, ok⟩, A2, h⟩ := Option.bind_eq_some_iff.mp h
  replace A2 := As_ A2
  simp only at h
  cases ok with
  | false =>
   simp only [if_true] at h
   simp only [Option.some.injEq, Prod.mk.injEq] at h
   obtain ⟨rfl, rfl⟩ := h
   go_enter Tryz.func82, Tryz.ntmps82
   go_wp2_with (first | (go_at_call 81; refine (names_head.calls a0 hd _ A1.out).mono ?_; rintro e w1 ⟨rfl, ⟨nd, rfl⟩⟩) | (go_at_call 101; refine (strings_CutPrefix.calls a1 hd p false _ A2.out).mono ?_; rintro e w2 ⟨rfl, ⟨nd2, rfl⟩⟩))
   go_ret2
   exact ⟨rfl, ap8_⟩
  | true =>
   rw [if_neg (by simp)] at h
   by_cases c2 : p.toList = []
   ·rw [if_pos c2] at h
    simp only [Option.some.injEq, Prod.mk.injEq] at h
    obtain ⟨rfl, rfl⟩ := h
    go_enter Tryz.func82, Tryz.ntmps82
    go_wp2_with (first | (go_at_call 81; refine (names_head.calls a0 hd _ A1.out).mono ?_; rintro e w1 ⟨rfl, ⟨nd, rfl⟩⟩) | (go_at_call 101; refine (strings_CutPrefix.calls a1 hd p true _ A2.out).mono ?_; rintro e w2 ⟨rfl, ⟨nd2, rfl⟩⟩))
    go_ret2
    exact ⟨rfl, ap8_⟩
   ·rw [if_neg c2] at h
    have c2b : p.toList.isEmpty = false := by simpa using c2
    have hp : 0 < p.size := by
     rcases Nat.eq_zero_or_pos p.size with h0 | h0
     ·exact absurd (List.eq_nil_of_length_eq_zero (by rw [ByteArray.toList_eq, data_length]; exact h0)) c2
     ·exact h0
    clear c2
    by_cases c3 : 1 < p.size ∧ bt p 0 = 48
    ·rw [if_pos c3] at h
     simp only [Option.some.injEq, Prod.mk.injEq] at h
     obtain ⟨rfl, rfl⟩ := h
     obtain ⟨c3, c4⟩ := c3
     have hx : ((p[0]'hp).toNat : Int) = bt p 0 := bt_at p 0 hp
     have c4b := beq_iff_eq.mpr c4
     clear c4
     have c3b : decide (1 < p.size) = true := by simp; omega
     go_enter Tryz.func82, Tryz.ntmps82
     go_wp2_with (first | (go_at_call 81; refine (names_head.calls a0 hd _ A1.out).mono ?_; rintro e w1 ⟨rfl, ⟨nd, rfl⟩⟩) | (go_at_call 101; refine (strings_CutPrefix.calls a1 hd p true _ A2.out).mono ?_; rintro e w2 ⟨rfl, ⟨nd2, rfl⟩⟩))
     go_ret2
     exact ⟨rfl, ap8_⟩
    ·rw [if_neg c3] at h
     by_cases hps : p.size ≤ 140737488351232
     case neg => rw [if_neg hps] at h; exact absurd h (by simp)
     rw [if_pos hps] at h
     have hx : ((p[0]'hp).toNat : Int) = bt p 0 := bt_at p 0 hp
     have kb := fun W => print_bytes (P := Tryz.prog) 9 124 5 Tryz.underlying9 Tryz.underlying124 Tryz.underlying5 p W
     replace h := As_ h
     have c45 : (decide ((1 : Int) < (p.size : Int)) = true ∧ (bt p 0 == 48) = false) ∨ decide ((1 : Int) < (p.size : Int)) = false := by
      by_cases c5 : 1 < p.size
      ·exact .inl ⟨decide_eq_true (by omega), beq_eq_false_iff_ne.mpr (fun e => c3 ⟨c5, e⟩)⟩
      ·exact .inr (decide_eq_false (by omega))
     clear c3
     rcases c45 with ⟨c3b, c4b⟩ | c3b
     all_goals
      go_enter Tryz.func82, Tryz.ntmps82
      go_wp2_with (first | (go_at_call 81; refine (names_head.calls a0 hd _ A1.out).mono ?_; rintro e w1 ⟨rfl, ⟨nd, rfl⟩⟩) | (go_at_call 101; refine (strings_CutPrefix.calls a1 hd p true _ A2.out).mono ?_; rintro e w2 ⟨rfl, ⟨nd2, rfl⟩⟩))
      have hbw : Aside0 (Below w.heap.size w (Lib.bytesWorld (w.drewN (nd + nd2)) 5 p)) := ⟨bytes_below (pw_below_drewN hbd.out _) (by simp) 5 p⟩
      go_loop [9, 41] (fun n9 i => ∃ (k : Nat) (n : Int), k ≤ p.size ∧ i = .int .i64 k ∧ n9 = .int .i64 n ∧ 0 ≤ n ∧ n ≤ 1099511627776 ∧ Aside0 (names_Number.go p (p.size + 1 - k) k n = names_Number.go p (p.size + 1) 0 0)) (fun _ i => p.size - (intOf i).toNat)
      case atStart => exact ⟨0, 0, Nat.zero_le _, rfl, rfl, by omega, by omega, ⟨rfl⟩⟩
      case round =>
       obtain ⟨k, n, hk, rfl, rfl, hn0, hn1, hgo⟩ := hrel
       by_cases hlt : k < p.size
       ·have hcell := my_bytes_cell (w.drewN (nd + nd2)) 5 p k w.heap.size (by simp) hlt
        have hbt := bt_range p k
        replace hgo := As_ ((names_Number.go_step p k n hlt).symm.trans hgo.out)
        by_cases d1 : bt p k < 48
        ·have h1 := h.out
         rw [← hgo.out, if_pos d1] at h1
         simp only [Option.some.injEq, Prod.mk.injEq] at h1
         obtain ⟨rfl, rfl⟩ := h1
         clear h hgo
         go_wp2
         go_ret2
         exact ⟨rfl, hbw.out⟩
        ·by_cases d2 : bt p k > 57
         ·have h1 := h.out
          rw [← hgo.out, if_neg d1, if_pos d2] at h1
          simp only [Option.some.injEq, Prod.mk.injEq] at h1
          obtain ⟨rfl, rfl⟩ := h1
          clear h hgo
          go_wp2
          go_ret2
          exact ⟨rfl, hbw.out⟩
         ·by_cases d3 : n * 10 + (bt p k - 48) > 1099511627776
          ·have h1 := h.out
           rw [← hgo.out, if_neg d1, if_neg d2, if_pos d3] at h1
           simp only [Option.some.injEq, Prod.mk.injEq] at h1
           obtain ⟨rfl, rfl⟩ := h1
           clear h hgo
           go_wp2
           go_ret2
           exact ⟨rfl, hbw.out⟩
          ·have hgo2 := hgo.out
           rw [if_neg d1, if_neg d2, if_neg d3] at hgo2
           replace hgo2 := As_ hgo2
           clear hgo h
           go_wp2
           go_round
           case rel => exact ⟨k + 1, _, by omega, by go_num, rfl, by omega, by omega, hgo2⟩
           case measure => simp [intOf]; omega
       ·have h1 := h.out
        rw [← hgo.out, names_Number.go_end p k n (by omega)] at h1
        simp only [Option.some.injEq, Prod.mk.injEq] at h1
        obtain ⟨rfl, rfl⟩ := h1
        clear h hgo
        go_wp2
        go_ret2
        exact ⟨rfl, hbw.out⟩
mutual
def names_letter.j0 : Nat → Int → Bool → Option (Bool)
 | 0, _, _ => none
 | k + 1, x0, x3 => if x3 = true then (some true) else (if x0 ≥ 65 then (names_letter.j1 k x0 (decide (x0 ≤ 90))) else (names_letter.j1 k x0 false))
def names_letter.j1 : Nat → Int → Bool → Option (Bool)
 | 0, _, _ => none
 | k + 1, x0, x3 => if x3 = true then (some true) else (if x0 ≥ 48 then (names_letter.j2 k x0 (decide (x0 ≤ 57))) else (names_letter.j2 k x0 false))
def names_letter.j2 : Nat → Int → Bool → Option (Bool)
 | 0, _, _ => none
 | k + 1, x0, x3 => if x3 = true then (some true) else (if x0 = 46 then (some true) else (if x0 = 95 then (some true) else (if x0 = 45 then (some true) else (some false))))
end
def names_letter.f (k : Nat) (a0 : Int) : Option (Bool) := if a0 ≥ 97 then (names_letter.j0 k a0 (decide (a0 ≤ 122))) else (names_letter.j0 k a0 false)
theorem names_letter.mono_l : ∀ k, (∀ y0 y1, LeO (names_letter.j0 k y0 y1) (names_letter.j0 (k + 1) y0 y1)) ∧ (∀ y0 y1, LeO (names_letter.j1 k y0 y1) (names_letter.j1 (k + 1) y0 y1)) ∧ (∀ y0 y1, LeO (names_letter.j2 k y0 y1) (names_letter.j2 (k + 1) y0 y1))
 | 0 => ⟨fun _ _ r h => by simp [names_letter.j0] at h, fun _ _ r h => by simp [names_letter.j1] at h, fun _ _ r h => by simp [names_letter.j2] at h⟩
 | k + 1 => by
  obtain ⟨ih0, ih1, ih2⟩ := names_letter.mono_l k
  refine ⟨?_, ?_, ?_⟩
  ·intro y0 y1
   unfold names_letter.j0
   repeat' first
   | (with_reducible exact ih0 _ _)
   | (with_reducible exact ih1 _ _)
   | (with_reducible exact ih2 _ _)
   | (with_reducible exact LeO.refl _)
   | (with_reducible exact LeO.none _)
   | (with_reducible refine LeO.ite ?_ ?_)
   | (with_reducible refine LeO.bind ?_ (fun _ => ?_))
   | exact ih0 _ _
   | exact ih1 _ _
   | exact ih2 _ _
   | exact LeO.none _
   | refine LeO.ite ?_ ?_
   | refine LeO.bind ?_ (fun _ => ?_)
  ·intro y0 y1
   unfold names_letter.j1
   repeat' first
   | (with_reducible exact ih0 _ _)
   | (with_reducible exact ih1 _ _)
   | (with_reducible exact ih2 _ _)
   | (with_reducible exact LeO.refl _)
   | (with_reducible exact LeO.none _)
   | (with_reducible refine LeO.ite ?_ ?_)
   | (with_reducible refine LeO.bind ?_ (fun _ => ?_))
   | exact ih0 _ _
   | exact ih1 _ _
   | exact ih2 _ _
   | exact LeO.none _
   | refine LeO.ite ?_ ?_
   | refine LeO.bind ?_ (fun _ => ?_)
  ·intro y0 y1
   unfold names_letter.j2
   repeat' first
   | (with_reducible exact ih0 _ _)
   | (with_reducible exact ih1 _ _)
   | (with_reducible exact ih2 _ _)
   | (with_reducible exact LeO.refl _)
   | (with_reducible exact LeO.none _)
   | (with_reducible refine LeO.ite ?_ ?_)
   | (with_reducible refine LeO.bind ?_ (fun _ => ?_))
   | exact ih0 _ _
   | exact ih1 _ _
   | exact ih2 _ _
   | exact LeO.none _
   | refine LeO.ite ?_ ?_
   | refine LeO.bind ?_ (fun _ => ?_)
theorem names_letter.mono : ∀ a0 k, LeO (names_letter.f k a0) (names_letter.f (k + 1) a0) := by
 intro a0 k
 obtain ⟨ih0, ih1, ih2⟩ := names_letter.mono_l k
 unfold names_letter.f
 repeat' first
   | (with_reducible exact ih0 _ _)
   | (with_reducible exact ih1 _ _)
   | (with_reducible exact ih2 _ _)
   | (with_reducible exact LeO.refl _)
   | (with_reducible exact LeO.none _)
   | (with_reducible refine LeO.ite ?_ ?_)
   | (with_reducible refine LeO.bind ?_ (fun _ => ?_))
   | exact ih0 _ _
   | exact ih1 _ _
   | exact ih2 _ _
   | exact LeO.none _
   | refine LeO.ite ?_ ?_
   | refine LeO.bind ?_ (fun _ => ?_)
theorem names_letter.calls (k : Nat) (a0 : Int) (r : Bool) (w : World) (h : names_letter.f k a0 = some r) :
  Calls Tryz.prog 102 #[.int .u8 a0] w fun e w' => e = .returned (.bool r) ∧ Drawn0 w w' := by
 have H : (if a0 ≥ 97 then (names_letter.j0 k a0 (decide (a0 ≤ 122))) else (names_letter.j0 k a0 false)) = some r := h
 clear h
 have HC2 := As_ H
 clear H
 go_enter Tryz.func102, Tryz.ntmps102
 go_upto_region 1 with (fail)
 go_cut [3] (fun v3 wc => ∃ (kq : Nat) (x3_1 : Bool), v3 = .bool x3_1 ∧ Aside0 (names_letter.j0 kq a0 x3_1 = some r) ∧ Aside0 (kq ≤ k) ∧ Drawn0 w wc)
 case first =>
  have H := HC2.out
  clear HC2
  by_cases c3 : a0 ≥ 97
  ·rw [if_pos c3] at H
   have c3b0 : decide (97 ≤ a0) = true := decide_eq_true c3
   clear c3
   (first | rw [c3b0] | (simp only [i64_w, i32_w]; rw [c3b0]) | skip)
   have H' := As_ H
   clear H
   go_wp2
   go_meet
   case rel => exact ⟨_, (decide (a0 ≤ 122)), ap5_, H', ⟨ap1_⟩, ap10_⟩
  ·rw [if_neg c3] at H
   have c3b0 : decide (97 ≤ a0) = false := decide_eq_false c3
   clear c3
   (first | rw [c3b0] | (simp only [i64_w, i32_w]; rw [c3b0]) | skip)
   have H' := As_ H
   clear H
   go_wp2
   go_meet
   case rel => exact ⟨_, (false), ap5_, H', ⟨ap1_⟩, ap10_⟩
 case rest =>
  clear HC2
  obtain ⟨kq, x3_1, rfl, HA, HJ1, ⟨mc1, rfl⟩⟩ := hcut
  cases kq with
  | zero => exact absurd HA.out (by simp [names_letter.j0])
  | succ kj1 =>
   have H := HA.out
   clear HA
   simp only [names_letter.j0] at H
   by_cases c4 : x3_1 = true
   ·subst c4
    have H1 : (some true) = some r := by rw [if_pos rfl] at H; exact H
    clear H
    have H := H1
    clear H1
    obtain rfl := Option.some.inj H
    go_wp2
    go_ret
    exact ⟨ap5_, ap10_⟩
   ·replace c4 := Bool.eq_false_iff.mpr c4
    subst c4
    have H1 : (if a0 ≥ 65 then (names_letter.j1 kj1 a0 (decide (a0 ≤ 90))) else (names_letter.j1 kj1 a0 false)) = some r := by rw [if_neg (show ¬ (false = true) by decide)] at H; exact H
    clear H
    have H := H1
    clear H1
    have HC5 := As_ H
    clear H
    go_upto_region 2 with (fail)
    go_cut [3] (fun v3 wc => ∃ (kq : Nat) (x3_4 : Bool), v3 = .bool x3_4 ∧ Aside0 (names_letter.j1 kq a0 x3_4 = some r) ∧ Aside0 (kq ≤ kj1) ∧ Drawn0 w wc)
    case first =>
     have H := HC5.out
     clear HC5
     by_cases c6 : a0 ≥ 65
     ·rw [if_pos c6] at H
      have c6b0 : decide (65 ≤ a0) = true := decide_eq_true c6
      clear c6
      (first | rw [c6b0] | (simp only [i64_w, i32_w]; rw [c6b0]) | skip)
      have H' := As_ H
      clear H
      go_wp2
      go_meet
      case rel => exact ⟨_, (decide (a0 ≤ 90)), ap5_, H', ⟨by have := HJ1.out; first | omega | exact Nat.le_refl _⟩, ap10_⟩
     ·rw [if_neg c6] at H
      have c6b0 : decide (65 ≤ a0) = false := decide_eq_false c6
      clear c6
      (first | rw [c6b0] | (simp only [i64_w, i32_w]; rw [c6b0]) | skip)
      have H' := As_ H
      clear H
      go_wp2
      go_meet
      case rel => exact ⟨_, (false), ap5_, H', ⟨by have := HJ1.out; first | omega | exact Nat.le_refl _⟩, ap10_⟩
    case rest =>
     clear HC5
     try clear c4
     obtain ⟨kq, x3_4, rfl, HA, HJ4, ⟨mc4, rfl⟩⟩ := hcut
     cases kq with
     | zero => exact absurd HA.out (by simp [names_letter.j1])
     | succ kj4 =>
      have H := HA.out
      clear HA
      simp only [names_letter.j1] at H
      by_cases c7 : x3_4 = true
      ·subst c7
       have H1 : (some true) = some r := by rw [if_pos rfl] at H; exact H
       clear H
       have H := H1
       clear H1
       obtain rfl := Option.some.inj H
       go_wp2
       go_ret
       exact ⟨ap5_, ap10_⟩
      ·replace c7 := Bool.eq_false_iff.mpr c7
       subst c7
       have H1 : (if a0 ≥ 48 then (names_letter.j2 kj4 a0 (decide (a0 ≤ 57))) else (names_letter.j2 kj4 a0 false)) = some r := by rw [if_neg (show ¬ (false = true) by decide)] at H; exact H
       clear H
       have H := H1
       clear H1
       have HC8 := As_ H
       clear H
       go_upto_region 3 with (fail)
       go_cut [3] (fun v3 wc => ∃ (kq : Nat) (x3_7 : Bool), v3 = .bool x3_7 ∧ Aside0 (names_letter.j2 kq a0 x3_7 = some r) ∧ Aside0 (kq ≤ kj4) ∧ Drawn0 w wc)
       case first =>
        have H := HC8.out
        clear HC8
        by_cases c9 : a0 ≥ 48
        ·rw [if_pos c9] at H
         have c9b0 : decide (48 ≤ a0) = true := decide_eq_true c9
         clear c9
         (first | rw [c9b0] | (simp only [i64_w, i32_w]; rw [c9b0]) | skip)
         have H' := As_ H
         clear H
         go_wp2
         go_meet
         case rel => exact ⟨_, (decide (a0 ≤ 57)), ap5_, H', ⟨by have := HJ1.out; have := HJ4.out; first | omega | exact Nat.le_refl _⟩, ap10_⟩
        ·rw [if_neg c9] at H
         have c9b0 : decide (48 ≤ a0) = false := decide_eq_false c9
         clear c9
         (first | rw [c9b0] | (simp only [i64_w, i32_w]; rw [c9b0]) | skip)
         have H' := As_ H
         clear H
         go_wp2
         go_meet
         case rel => exact ⟨_, (false), ap5_, H', ⟨by have := HJ1.out; have := HJ4.out; first | omega | exact Nat.le_refl _⟩, ap10_⟩
       case rest =>
        clear HC8
        try clear c4
        try clear c7
        obtain ⟨kq, x3_7, rfl, HA, HJ7, ⟨mc7, rfl⟩⟩ := hcut
        cases kq with
        | zero => exact absurd HA.out (by simp [names_letter.j2])
        | succ kj7 =>
         have H := HA.out
         clear HA
         simp only [names_letter.j2] at H
         by_cases c10 : x3_7 = true
         ·subst c10
          have H1 : (some true) = some r := by rw [if_pos rfl] at H; exact H
          clear H
          have H := H1
          clear H1
          obtain rfl := Option.some.inj H
          go_wp2
          go_ret
          exact ⟨ap5_, ap10_⟩
         ·replace c10 := Bool.eq_false_iff.mpr c10
          subst c10
          have H1 : (if a0 = 46 then (some true) else (if a0 = 95 then (some true) else (if a0 = 45 then (some true) else (some false)))) = some r := by rw [if_neg (show ¬ (false = true) by decide)] at H; exact H
          clear H
          have H := H1
          clear H1
          by_cases c11 : a0 = 46
          ·rw [if_pos c11] at H
           have c11b0 : (a0 == 46) = true := beq_iff_eq.mpr c11
           have c11b1 : (a0 != 46) = false := bne_eq_false_iff_eq.mpr c11
           clear c11
           obtain rfl := Option.some.inj H
           go_wp2
           go_ret
           exact ⟨ap5_, ap10_⟩
          ·rw [if_neg c11] at H
           have c11b0 : (a0 == 46) = false := beq_eq_false_iff_ne.mpr c11
           have c11b1 : (a0 != 46) = true := bne_iff_ne.mpr c11
           by_cases c12 : a0 = 95
           ·rw [if_pos c12] at H
            have c12b0 : (a0 == 95) = true := beq_iff_eq.mpr c12
            have c12b1 : (a0 != 95) = false := bne_eq_false_iff_eq.mpr c12
            clear c12
            obtain rfl := Option.some.inj H
            go_wp2
            go_ret
            exact ⟨ap5_, ap10_⟩
           ·rw [if_neg c12] at H
            have c12b0 : (a0 == 95) = false := beq_eq_false_iff_ne.mpr c12
            have c12b1 : (a0 != 95) = true := bne_iff_ne.mpr c12
            by_cases c13 : a0 = 45
            ·rw [if_pos c13] at H
             have c13b0 : (a0 == 45) = true := beq_iff_eq.mpr c13
             have c13b1 : (a0 != 45) = false := bne_eq_false_iff_eq.mpr c13
             clear c13
             obtain rfl := Option.some.inj H
             go_wp2
             go_ret
             exact ⟨ap5_, ap10_⟩
            ·rw [if_neg c13] at H
             have c13b0 : (a0 == 45) = false := beq_eq_false_iff_ne.mpr c13
             have c13b1 : (a0 != 45) = true := bne_iff_ne.mpr c13
             obtain rfl := Option.some.inj H
             go_wp2
             go_ret
             exact ⟨ap5_, ap10_⟩
mutual
def names_plain.j0 : Nat → ByteArray → Bool → Option (Bool)
 | 0, _, _ => none
 | k + 1, x0, x3 => names_plain.l0 k x0 x3 (x0.size : Int) 0
def names_plain.l0 : Nat → ByteArray → Bool → Int → Int → Option (Bool)
 | 0, _, _, _, _ => none
 | k + 1, x0, x3, x13, x14 => if x14 < x13 then (if 0 ≤ x14 then (if x14 < (x0.size : Int) then ((names_letter.f k (bt x0 x14)).bind fun t155 => (if t155 = true then (names_plain.l0 k x0 x3 x13 (wrap64 (x14 + 1))) else (some false))) else (none)) else (none)) else (some x3)
end
def names_plain.f (k : Nat) (a0 : ByteArray) : Option (Bool) := if a0.toList = ([] : List UInt8) then (names_plain.j0 k a0 false) else (names_plain.j0 k a0 (decide ((a0.size : Int) ≤ 64)))
theorem names_plain.mono_l : ∀ k, (∀ y0 y1, LeO (names_plain.j0 k y0 y1) (names_plain.j0 (k + 1) y0 y1)) ∧ (∀ y0 y1 y2 y3, LeO (names_plain.l0 k y0 y1 y2 y3) (names_plain.l0 (k + 1) y0 y1 y2 y3))
 | 0 => ⟨fun _ _ r h => by simp [names_plain.j0] at h, fun _ _ _ _ r h => by simp [names_plain.l0] at h⟩
 | k + 1 => by
  obtain ⟨ih0, ih1⟩ := names_plain.mono_l k
  refine ⟨?_, ?_⟩
  ·intro y0 y1
   unfold names_plain.j0
   repeat' first
   | (with_reducible exact ih0 _ _)
   | (with_reducible exact ih1 _ _ _ _)
   | (with_reducible exact names_letter.mono _ _)
   | (with_reducible exact LeO.refl _)
   | (with_reducible exact LeO.none _)
   | (with_reducible refine LeO.ite ?_ ?_)
   | (with_reducible refine LeO.bind ?_ (fun _ => ?_))
   | exact ih0 _ _
   | exact ih1 _ _ _ _
   | exact names_letter.mono _ _
   | exact LeO.none _
   | refine LeO.ite ?_ ?_
   | refine LeO.bind ?_ (fun _ => ?_)
  ·intro y0 y1 y2 y3
   unfold names_plain.l0
   repeat' first
   | (with_reducible exact ih0 _ _)
   | (with_reducible exact ih1 _ _ _ _)
   | (with_reducible exact names_letter.mono _ _)
   | (with_reducible exact LeO.refl _)
   | (with_reducible exact LeO.none _)
   | (with_reducible refine LeO.ite ?_ ?_)
   | (with_reducible refine LeO.bind ?_ (fun _ => ?_))
   | exact ih0 _ _
   | exact ih1 _ _ _ _
   | exact names_letter.mono _ _
   | exact LeO.none _
   | refine LeO.ite ?_ ?_
   | refine LeO.bind ?_ (fun _ => ?_)
theorem names_plain.mono : ∀ a0 k, LeO (names_plain.f k a0) (names_plain.f (k + 1) a0) := by
 intro a0 k
 obtain ⟨ih0, ih1⟩ := names_plain.mono_l k
 unfold names_plain.f
 repeat' first
   | (with_reducible exact ih0 _ _)
   | (with_reducible exact ih1 _ _ _ _)
   | (with_reducible exact names_letter.mono _ _)
   | (with_reducible exact LeO.refl _)
   | (with_reducible exact LeO.none _)
   | (with_reducible refine LeO.ite ?_ ?_)
   | (with_reducible refine LeO.bind ?_ (fun _ => ?_))
   | exact ih0 _ _
   | exact ih1 _ _ _ _
   | exact names_letter.mono _ _
   | exact LeO.none _
   | refine LeO.ite ?_ ?_
   | refine LeO.bind ?_ (fun _ => ?_)
theorem names_plain.calls (k : Nat) (a0 : ByteArray) (r : Bool) (w : World) (h : names_plain.f k a0 = some r) :
  Calls Tryz.prog 83 #[.string a0] w fun e w' => e = .returned (.bool r) ∧ Drawn0 w w' := by
 have H : (if a0.toList = ([] : List UInt8) then (names_plain.j0 k a0 false) else (names_plain.j0 k a0 (decide ((a0.size : Int) ≤ 64)))) = some r := h
 clear h
 have HC2 := As_ H
 clear H
 go_enter Tryz.func83, Tryz.ntmps83
 go_wp2_with fail
 go_step3
 go_upto_region 1 with (fail)
 go_cut [3] (fun v3 wc => ∃ (kq : Nat) (x3_1 : Bool), v3 = .bool x3_1 ∧ Aside0 (names_plain.j0 kq a0 x3_1 = some r) ∧ Aside0 (kq ≤ k) ∧ Drawn0 w wc)
 case first =>
  have H := HC2.out
  clear HC2
  by_cases c3 : a0.toList = ([] : List UInt8)
  ·rw [if_pos c3] at H
   have c3b0 : (a0.toList == ([] : List UInt8)) = true := beq_iff_eq.mpr c3
   have c3b1 : (a0.toList != ([] : List UInt8)) = false := bne_eq_false_iff_eq.mpr c3
   clear c3
   (first | rw [c3b0] | (simp only [i64_w, i32_w]; rw [c3b0]) | skip)
   have H' := As_ H
   clear H
   go_wp2
   go_meet
   case rel => exact ⟨_, (false), ap5_, H', ⟨ap1_⟩, ap10_⟩
  ·rw [if_neg c3] at H
   have c3b0 : (a0.toList == ([] : List UInt8)) = false := beq_eq_false_iff_ne.mpr c3
   have c3b1 : (a0.toList != ([] : List UInt8)) = true := bne_iff_ne.mpr c3
   (first | rw [c3b0] | (simp only [i64_w, i32_w]; rw [c3b0]) | skip)
   have H' := As_ H
   clear H
   go_wp2
   go_meet
   case rel => exact ⟨_, (decide ((a0.size : Int) ≤ 64)), ap5_, H', ⟨ap1_⟩, ap10_⟩
 case rest =>
  clear HC2
  obtain ⟨kq, x3_1, rfl, HA, HJ1, ⟨mc1, rfl⟩⟩ := hcut
  cases kq with
  | zero => exact absurd HA.out (by simp [names_plain.j0])
  | succ kj1 =>
   have H := HA.out
   clear HA
   simp only [names_plain.j0] at H
   have H' := As_ H
   clear H
   go_wp2
   (try (go_step3; go_wp2))
   go_loopg [3, 14] kj1 (fun kq v3 v14 w' => ∃ (x3_2 : Bool) (x14_2 : Int), v3 = .bool x3_2 ∧ v14 = .int .i64 x14_2 ∧ Aside0 (names_plain.l0 kq a0 x3_2 (a0.size : Int) x14_2 = some r) ∧ Aside0 (kq ≤ kj1) ∧ Drawn0 w w')
   case atStart => exact ⟨(x3_1), (0), ap5_, ap5_, H', ⟨Nat.le_refl _⟩, ap10_⟩
   case round =>
    clear H'
    obtain ⟨x3_2, x14_2, rfl, rfl, HA, HK2, ⟨m2, rfl⟩⟩ := hrel
    cases gk with
    | zero => exact absurd HA.out (by simp [names_plain.l0])
    | succ k2 =>
     have H := HA.out
     clear HA
     simp only [names_plain.l0] at H
     by_cases c4 : x14_2 < (a0.size : Int)
     ·rw [if_pos c4] at H
      have c4b0 : decide (x14_2 < (a0.size : Int)) = true := decide_eq_true c4
      clear c4
      by_cases c5 : 0 ≤ x14_2
      ·rw [if_pos c5] at H
       have c5b0 : decide (0 ≤ x14_2) = true := decide_eq_true c5
       clear c5
       by_cases c6 : x14_2 < (a0.size : Int)
       ·rw [if_pos c6] at H
        have c6b0 : decide (x14_2 < (a0.size : Int)) = true := decide_eq_true c6
        clear c6
        replace H := Option.bind_eq_some_iff.mp H
        obtain ⟨t155, A80, H⟩ := H
        try dsimp only at H
        have A8 := As_ A80
        clear A80
        by_cases c9 : t155 = true
        ·subst c9
         have H1 : (names_plain.l0 k2 a0 x3_2 (a0.size : Int) (wrap64 (x14_2 + 1))) = some r := by rw [if_pos rfl] at H; exact H
         clear H
         have H := H1
         clear H1
         have H' := As_ H
         clear H
         have p7 : 0 ≤ (x14_2 : Int) := of_decide_eq_true ap7_
         have q7 : x14_2 < (a0.size : Int) := of_decide_eq_true ap7_
         have hx7 := bt_at a0 x14_2
         replace p7 := eq_true p7
         replace q7 := eq_true q7
         go_wp2_with (first | ((with_reducible refine gate_callee (f := 102) rfl ?_); refine gk_ (some 20) Tryz.func102 #[.int .u8 (bt a0 x14_2)] ?_; (with_reducible refine (names_letter.calls k2 (bt a0 x14_2) true _ A8.out).mono ?_); rintro e w' ⟨rfl, ⟨nd, rfl⟩⟩; refine ⟨_, rfl, ?_⟩))
         go_roundg k2
         case measure => have := HJ1.out; have := HK2.out; omega
         case rel => exact ⟨(x3_2), (wrap64 (x14_2 + 1)), ap5_, ap5_, H', ⟨by have := HJ1.out; have := HK2.out; omega⟩, ap10_⟩
        ·replace c9 := Bool.eq_false_iff.mpr c9
         subst c9
         have H1 : (some false) = some r := by rw [if_neg (show ¬ (false = true) by decide)] at H; exact H
         clear H
         have H := H1
         clear H1
         obtain rfl := Option.some.inj H
         have p7 : 0 ≤ (x14_2 : Int) := of_decide_eq_true ap7_
         have q7 : x14_2 < (a0.size : Int) := of_decide_eq_true ap7_
         have hx7 := bt_at a0 x14_2
         replace p7 := eq_true p7
         replace q7 := eq_true q7
         go_wp2_with (first | ((with_reducible refine gate_callee (f := 102) rfl ?_); refine gk_ (some 20) Tryz.func102 #[.int .u8 (bt a0 x14_2)] ?_; (with_reducible refine (names_letter.calls k2 (bt a0 x14_2) false _ A8.out).mono ?_); rintro e w' ⟨rfl, ⟨nd, rfl⟩⟩; refine ⟨_, rfl, ?_⟩))
         (try rw [Exit.noGoto_ret]); go_ret
         exact ⟨ap5_, ap10_⟩
       ·rw [if_neg c6] at H
        exact absurd H (by simp)
      ·rw [if_neg c5] at H
       exact absurd H (by simp)
     ·rw [if_neg c4] at H
      have c4b0 : decide (x14_2 < (a0.size : Int)) = false := decide_eq_false c4
      clear c4
      obtain rfl := Option.some.inj H
      go_wp2
      (try rw [Exit.noGoto_ret]); go_ret
      exact ⟨ap5_, ap10_⟩
def names_Check.j0 : Nat → Int → ByteArray → Bool → Option (Int)
 | 0, _, _, _ => none
 | k + 1, x0, x1, x7 => if x7 = true then (some 1) else ((names_head.f x0).bind fun t156 => (if t156.toList = ([] : List UInt8) then ((names_plain.f k x1).bind fun t157 => (if t157 = true then (some 0) else (some 7))) else ((names_Number.f x0 x1).bind fun bt158 => (some bt158.2))))
def names_Check.f (k : Nat) (a0 : Int) (a1 : ByteArray) : Option (Int) := if a0 < 0 then (names_Check.j0 k a0 a1 true) else (names_Check.j0 k a0 a1 (decide (a0 > 6)))
theorem names_Check.mono_l : ∀ k, (∀ y0 y1 y2, LeO (names_Check.j0 k y0 y1 y2) (names_Check.j0 (k + 1) y0 y1 y2))
 | 0 => fun _ _ _ r h => by simp [names_Check.j0] at h
 | k + 1 => by
  have ih0 := names_Check.mono_l k
  ·intro y0 y1 y2
   unfold names_Check.j0
   repeat' first
   | (with_reducible exact ih0 _ _ _)
   | (with_reducible exact names_plain.mono _ _)
   | (with_reducible exact LeO.refl _)
   | (with_reducible exact LeO.none _)
   | (with_reducible refine LeO.ite ?_ ?_)
   | (with_reducible refine LeO.bind ?_ (fun _ => ?_))
   | exact ih0 _ _ _
   | exact names_plain.mono _ _
   | exact LeO.none _
   | refine LeO.ite ?_ ?_
   | refine LeO.bind ?_ (fun _ => ?_)
theorem names_Check.mono : ∀ a0 a1 k, LeO (names_Check.f k a0 a1) (names_Check.f (k + 1) a0 a1) := by
 intro a0 a1 k
 have ih0 := names_Check.mono_l k
 unfold names_Check.f
 repeat' first
   | (with_reducible exact ih0 _ _ _)
   | (with_reducible exact names_plain.mono _ _)
   | (with_reducible exact LeO.refl _)
   | (with_reducible exact LeO.none _)
   | (with_reducible refine LeO.ite ?_ ?_)
   | (with_reducible refine LeO.bind ?_ (fun _ => ?_))
   | exact ih0 _ _ _
   | exact names_plain.mono _ _
   | exact LeO.none _
   | refine LeO.ite ?_ ?_
   | refine LeO.bind ?_ (fun _ => ?_)
theorem names_Check.calls (k : Nat) (a0 : Int) (a1 : ByteArray) (r : Int) (w : World) (h : names_Check.f k a0 a1 = some r) :
  Calls Tryz.prog 55 #[.int .i64 a0, .string a1] w fun e w' => e = .returned (.int .i64 r) ∧ Below w.heap.size w w' := by
 have HB := As_ (Below.refl w.heap.size w)
 have H : (if a0 < 0 then (names_Check.j0 k a0 a1 true) else (names_Check.j0 k a0 a1 (decide (a0 > 6)))) = some r := h
 clear h
 have HC3 := As_ H
 clear H
 go_enter Tryz.func55, Tryz.ntmps55
 go_upto_region 1 with (fail)
 go_cut [7] (fun v7 wc => ∃ (kq : Nat) (x7_2 : Bool), v7 = .bool x7_2 ∧ Aside0 (names_Check.j0 kq a0 a1 x7_2 = some r) ∧ Aside0 (kq ≤ k) ∧ Aside0 (Below w.heap.size w wc))
 case first =>
  have H := HC3.out
  clear HC3
  by_cases c4 : a0 < 0
  ·rw [if_pos c4] at H
   have c4b0 : decide (a0 < 0) = true := decide_eq_true c4
   clear c4
   (first | rw [c4b0] | (simp only [i64_w, i32_w]; rw [c4b0]) | skip)
   have H' := As_ H
   clear H
   go_wp2
   go_meet
   case rel => exact ⟨_, (true), ap5_, H', ⟨ap1_⟩, ⟨ap50_⟩⟩
  ·rw [if_neg c4] at H
   have c4b0 : decide (a0 < 0) = false := decide_eq_false c4
   clear c4
   (first | rw [c4b0] | (simp only [i64_w, i32_w]; rw [c4b0]) | skip)
   have H' := As_ H
   clear H
   go_wp2
   go_meet
   case rel => exact ⟨_, (decide (a0 > 6)), ap5_, H', ⟨ap1_⟩, ⟨ap50_⟩⟩
 case rest =>
  clear HC3
  obtain ⟨kq, x7_2, rfl, HA, HJ2, HB⟩ := hcut
  cases kq with
  | zero => exact absurd HA.out (by simp [names_Check.j0])
  | succ kj2 =>
   have H := HA.out
   clear HA
   simp only [names_Check.j0] at H
   by_cases c5 : x7_2 = true
   ·subst c5
    have H1 : (some 1) = some r := by rw [if_pos rfl] at H; exact H
    clear H
    have H := H1
    clear H1
    obtain rfl := Option.some.inj H
    go_wp2
    go_ret
    exact ⟨ap17_, ap50_⟩
   ·replace c5 := Bool.eq_false_iff.mpr c5
    subst c5
    have H1 : ((names_head.f a0).bind fun t156 => (if t156.toList = ([] : List UInt8) then ((names_plain.f kj2 a1).bind fun t157 => (if t157 = true then (some 0) else (some 7))) else ((names_Number.f a0 a1).bind fun bt158 => (some bt158.2)))) = some r := by rw [if_neg (show ¬ (false = true) by decide)] at H; exact H
    clear H
    have H := H1
    clear H1
    replace H := Option.bind_eq_some_iff.mp H
    obtain ⟨t156, A60, H⟩ := H
    try dsimp only at H
    have A6 := As_ A60
    clear A60
    by_cases c7 : t156.toList = ([] : List UInt8)
    ·rw [if_pos c7] at H
     have c7b0 : (t156.toList == ([] : List UInt8)) = true := beq_iff_eq.mpr c7
     have c7b1 : (t156.toList != ([] : List UInt8)) = false := bne_eq_false_iff_eq.mpr c7
     clear c7
     replace H := Option.bind_eq_some_iff.mp H
     obtain ⟨t157, A80, H⟩ := H
     try dsimp only at H
     have A8 := As_ A80
     clear A80
     by_cases c9 : t157 = true
     ·subst c9
      have H1 : (some 0) = some r := by rw [if_pos rfl] at H; exact H
      clear H
      have H := H1
      clear H1
      obtain rfl := Option.some.inj H
      go_wp2_with (first | ((with_reducible refine gate_callee (f := 81) rfl ?_); refine gk_ (some 16) Tryz.func81 #[.int .i64 a0] ?_; (with_reducible refine (names_head.calls a0 t156 _ A6.out).mono ?_); rintro e w' ⟨rfl, ⟨nd, rfl⟩⟩; refine ⟨_, rfl, ?_⟩) | ((with_reducible refine gate_callee (f := 83) rfl ?_); refine gk_ (some 27) Tryz.func83 #[.string a1] ?_; (with_reducible refine (names_plain.calls kj2 a1 true _ A8.out).mono ?_); rintro e w' ⟨rfl, ⟨nd, rfl⟩⟩; refine ⟨_, rfl, ?_⟩))
      go_ret
      exact ⟨ap17_, ap50_⟩
     ·replace c9 := Bool.eq_false_iff.mpr c9
      subst c9
      have H1 : (some 7) = some r := by rw [if_neg (show ¬ (false = true) by decide)] at H; exact H
      clear H
      have H := H1
      clear H1
      obtain rfl := Option.some.inj H
      go_wp2_with (first | ((with_reducible refine gate_callee (f := 81) rfl ?_); refine gk_ (some 16) Tryz.func81 #[.int .i64 a0] ?_; (with_reducible refine (names_head.calls a0 t156 _ A6.out).mono ?_); rintro e w' ⟨rfl, ⟨nd, rfl⟩⟩; refine ⟨_, rfl, ?_⟩) | ((with_reducible refine gate_callee (f := 83) rfl ?_); refine gk_ (some 27) Tryz.func83 #[.string a1] ?_; (with_reducible refine (names_plain.calls kj2 a1 false _ A8.out).mono ?_); rintro e w' ⟨rfl, ⟨nd, rfl⟩⟩; refine ⟨_, rfl, ?_⟩))
      go_ret
      exact ⟨ap17_, ap50_⟩
    ·rw [if_neg c7] at H
     have c7b0 : (t156.toList == ([] : List UInt8)) = false := beq_eq_false_iff_ne.mpr c7
     have c7b1 : (t156.toList != ([] : List UInt8)) = true := bne_iff_ne.mpr c7
     replace H := Option.bind_eq_some_iff.mp H
     obtain ⟨⟨t158, t159⟩, A100, H⟩ := H
     try dsimp only at H
     have A10 := As_ A100
     clear A100
     obtain rfl := Option.some.inj H
     go_wp2_with (first | ((with_reducible refine gate_callee (f := 81) rfl ?_); refine gk_ (some 16) Tryz.func81 #[.int .i64 a0] ?_; (with_reducible refine (names_head.calls a0 t156 _ A6.out).mono ?_); rintro e w' ⟨rfl, ⟨nd, rfl⟩⟩; refine ⟨_, rfl, ?_⟩) | ((with_reducible refine gate_callee (f := 82) rfl ?_); refine gk_ (some 21) Tryz.func82 #[.int .i64 a0, .string a1] ?_; (with_reducible refine (names_Number.calls a0 a1 t158 t159 _ A10.out).mono ?_); rintro e w11 ⟨rfl, hb⟩; refine ⟨_, rfl, ?_⟩; replace HB := As_ (below_step ap50_ hb); (try clear hb); (try clear hb2); (try clear hk); (try clear hi)))
     go_ret
     exact ⟨ap17_, ap50_⟩
def token_value.l0 : Nat → ByteArray → List ByteArray → Int → Int → Option (ByteArray)
 | 0, _, _, _, _ => none
 | k + 1, x3, x14, x15, x16 => if x16 < x15 then (if 0 ≤ x16 then (if x16 < (x14.length : Int) then ((wire_Text.f (rdOf ByteArray.empty x14 x16)).bind fun bt165 => (if x3.size + bt165.1.size ≤ 9223372036854775807 then (token_value.l0 k (x3 ++ bt165.1) x14 x15 (wrap64 (x16 + 1))) else (none))) else (none)) else (none)) else (some x3)
def token_value.f (k : Nat) (a0_0 : ByteArray) (a0_1 : ByteArray) (a0_2 : ByteArray) (a0_3 : ByteArray) (a0_4 : ByteArray) : Option (ByteArray) := (some (([a0_2, a0_3, a0_4] : List ByteArray) : List ByteArray)).bind fun y161 => (token_value.l0 k (⟨#[]⟩ : ByteArray) y161 (y161.length : Int) 0)
theorem token_value.mono_l : ∀ k, (∀ y0 y1 y2 y3, LeO (token_value.l0 k y0 y1 y2 y3) (token_value.l0 (k + 1) y0 y1 y2 y3))
 | 0 => fun _ _ _ _ r h => by simp [token_value.l0] at h
 | k + 1 => by
  have ih0 := token_value.mono_l k
  ·intro y0 y1 y2 y3
   unfold token_value.l0
   repeat' first
   | (with_reducible exact ih0 _ _ _ _)
   | (with_reducible exact LeO.refl _)
   | (with_reducible exact LeO.none _)
   | (with_reducible refine LeO.ite ?_ ?_)
   | (with_reducible refine LeO.bind ?_ (fun _ => ?_))
   | exact ih0 _ _ _ _
   | exact LeO.none _
   | refine LeO.ite ?_ ?_
   | refine LeO.bind ?_ (fun _ => ?_)
theorem token_value.mono : ∀ a0 a1 a2 a3 a4 k, LeO (token_value.f k a0 a1 a2 a3 a4) (token_value.f (k + 1) a0 a1 a2 a3 a4) := by
 intro a0 a1 a2 a3 a4 k
 have ih0 := token_value.mono_l k
 unfold token_value.f
 repeat' first
   | (with_reducible exact ih0 _ _ _ _)
   | (with_reducible exact LeO.refl _)
   | (with_reducible exact LeO.none _)
   | (with_reducible refine LeO.ite ?_ ?_)
   | (with_reducible refine LeO.bind ?_ (fun _ => ?_))
   | exact ih0 _ _ _ _
   | exact LeO.none _
   | refine LeO.ite ?_ ?_
   | refine LeO.bind ?_ (fun _ => ?_)
theorem token_value.calls (k : Nat) (a0_0 : ByteArray) (a0_1 : ByteArray) (a0_2 : ByteArray) (a0_3 : ByteArray) (a0_4 : ByteArray) (r : ByteArray) (w : World) (h : token_value.f k a0_0 a0_1 a0_2 a0_3 a0_4 = some r) :
  Calls Tryz.prog 58 #[.agg #[.string a0_0, .string a0_1, .string a0_2, .string a0_3, .string a0_4]] w fun e w' => e = .returned (.string r) ∧ Below w.heap.size w w' := by
 have hu23 := Tryz.underlying23
 have HB := As_ (Below.refl w.heap.size w)
 have H : ((some (([a0_2, a0_3, a0_4] : List ByteArray) : List ByteArray)).bind fun y161 => (token_value.l0 k (⟨#[]⟩ : ByteArray) y161 (y161.length : Int) 0)) = some r := h
 clear h
 obtain ⟨y161, hy161⟩ : ∃ y_ : List ByteArray, y_ = (([a0_2, a0_3, a0_4] : List ByteArray)) := ⟨_, rfl⟩
 replace H : (token_value.l0 k (⟨#[]⟩ : ByteArray) y161 (y161.length : Int) 0) = some r := by first | (rw [hy161]; with_reducible exact H) | (have H2_ := (Option.bind_some _ _).symm.trans H; rw [hy161]; with_reducible exact H2_) | (have H2_ := (Option.bind_some _ _).symm.trans H; with_reducible exact H2_) | with_reducible exact H | (rw [hy161]; exact H) | exact H
 have Ny161 := As_ hy161
 clear hy161
 have H' := As_ H
 clear H
 go_enter Tryz.func58, Tryz.ntmps58
 go_wp2_with (first | ((with_reducible refine gate_dst (N := 1) rfl ?_); refine bxE (N := 1) (cs := #[.string a0_0, .string a0_1, .string a0_2, .string a0_3, .string a0_4]) (t := 23) ?_; intro gb160 hg w2 hbox hb; have BK160 := As_ (hbox); have GW160 := As_ ((by rw [hg]; exact (below_size ap50_) : w.heap.size ≤ gb160)); have GE160 := As_ ((by rw [hg]; exact (below_size ap50_) : w.heap.size ≤ gb160)); replace HB := As_ (below_step ap50_ hb); clear hb hbox hg; obtain ⟨hcz3_0, hfz3_0, hcz3_1, hfz3_1, hcz3_2, hfz3_2, hcz3_3, hfz3_3, hcz3_4, hfz3_4⟩ := clN5 BK160.out) | ((with_reducible refine gate_dst (N := 14) rfl ?_); refine Kd.R_lit Kd.string _ 9 ?hg (N := 14) ?hd (xs := ([a0_2, a0_3, a0_4] : List ByteArray)) (inner := [.string a0_2, .string a0_3, .string a0_4]) (ok := fun _ => True) (okp := fun _ => True) ?hr ?hp (fun _ hk => hk) trivial (Below.refl _ _) (Nat.le_refl _) (by simp) ?_; (case hd => rfl); (case hg => rfl); (case hr => first | (go_simp; done) | (go_simp; rfl)); (case hp => exact (Reps.one (show Kd.M Kd.string _ _ _ a0_2 [.string a0_2] from rfl) (Reps.one (show Kd.M Kd.string _ _ _ a0_3 [.string a0_3] from rfl) (Reps.one (show Kd.M Kd.string _ _ _ a0_4 [.string a0_4] from rfl) (Reps.none _ _))))); intro v162 w4 ho5 hb hg_ hnew_; clear hg_ hnew_; (first | rw [← Ny161.out] at ho5 | (simp only [Int.reduceToNat] at ho5; rw [← Ny161.out] at ho5)); have HO163 := As_ (Kd.R_lower ho5 (below_size ap66_)); replace BK160 := As_ (blk_below (g := gb160) (o := .cells #[.string a0_0, .string a0_1, .string a0_2, .string a0_3, .string a0_4] 23 (0, 0)) ap47_ hb); replace HB := As_ (below_step ap66_ hb); clear hb ho5; obtain ⟨Ao6, co6, eo6⟩ := Kd.R_slice HO163.out; subst eo6))
 go_loopg [3, 16] k (fun kq v3 v16 w' => ∃ (x3_1 : ByteArray) (x16_1 : Int), v3 = .string x3_1 ∧ v16 = .int .i64 x16_1 ∧ Aside0 (token_value.l0 kq x3_1 y161 (y161.length : Int) x16_1 = some r) ∧ Aside0 (kq ≤ k) ∧ Aside0 (Kd.R Kd.string 9 w' w.heap.size (fun _ => True) (.slice Ao6 y161.length co6) y161) ∧ Aside0 (w'.heap[gb160]? = some (.cells #[.string a0_0, .string a0_1, .string a0_2, .string a0_3, .string a0_4] 23 (0, 0))) ∧ Aside0 (Below w.heap.size w w'))
 case atStart => exact ⟨((⟨#[]⟩ : ByteArray)), (0), ap5_, ap5_, H', ⟨Nat.le_refl _⟩, ⟨by (with_reducible repeat (first | apply Kd.R_alloc | apply Kd.R_drewN | apply Kd.R_drew)); exact HO163.out⟩, ⟨ap47_⟩, ⟨ap66_⟩⟩
 case round =>
  clear H'
  try clear hcz3_0
  try clear hcz3_1
  try clear hcz3_2
  try clear hcz3_3
  try clear hcz3_4
  try clear hfz3_0
  try clear hfz3_1
  try clear hfz3_2
  try clear hfz3_3
  try clear hfz3_4
  obtain ⟨x3_1, x16_1, rfl, rfl, HA, HK1, HO_14, BK160, HB⟩ := hrel
  cases gk with
  | zero => exact absurd HA.out (by simp [token_value.l0])
  | succ k1 =>
   have H := HA.out
   clear HA
   simp only [token_value.l0] at H
   by_cases c7 : x16_1 < (y161.length : Int)
   ·rw [if_pos c7] at H
    have c7b0 : decide (x16_1 < (y161.length : Int)) = true := decide_eq_true c7
    clear c7
    by_cases c8 : 0 ≤ x16_1
    ·rw [if_pos c8] at H
     have c8b0 : decide (0 ≤ x16_1) = true := decide_eq_true c8
     clear c8
     by_cases c9 : x16_1 < (y161.length : Int)
     ·rw [if_pos c9] at H
      have c9b0 : decide (x16_1 < (y161.length : Int)) = true := decide_eq_true c9
      clear c9
      replace H := Option.bind_eq_some_iff.mp H
      obtain ⟨⟨t165, t166⟩, A100, H⟩ := H
      try dsimp only at H
      have A10 := As_ A100
      clear A100
      by_cases c11 : x3_1.size + t165.size ≤ 9223372036854775807
      ·rw [if_pos c11] at H
       have c11b0 := eq_true c11
       have c11b1 : decide (x3_1.size + t165.size ≤ 9223372036854775807) = true := decide_eq_true c11
       try have c11b2 : (9223372036854775807 < x3_1.size + t165.size) = False := eq_false (Nat.not_lt.2 c11)
       have H' := As_ H
       clear H
       have p164 : 0 ≤ (x16_1 : Int) := of_decide_eq_true ap7_
       have q164 : x16_1 < (y161.length : Int) := of_decide_eq_true ap7_
       obtain ⟨ad164, e164, hx164_0⟩ := Kd.at_string (Kd.R_reads' HO_14.out).2.2 x16_1 p164 q164
       cases e164
       replace p164 := eq_true p164
       replace q164 := eq_true q164
       go_wp2_with (first | ((with_reducible refine gate_callee (f := 64) rfl ?_); refine gk_ (some 22) Tryz.func64 #[.string (rdOf ByteArray.empty y161 x16_1)] ?_; (with_reducible refine (wire_Text.calls (rdOf ByteArray.empty y161 x16_1) t165 t166 _ A10.out).mono ?_); rintro e w12 ⟨rfl, hb⟩; refine ⟨_, rfl, ?_⟩; replace HO_14 := As_ (Kd.R_below ap31_ hb); replace BK160 := As_ (blk_below (g := gb160) (o := .cells #[.string a0_0, .string a0_1, .string a0_2, .string a0_3, .string a0_4] 23 (0, 0)) ap47_ hb); replace HB := As_ (below_step ap66_ hb); (try clear hb); (try clear hb2); (try clear hk); (try clear hi)))
       go_roundg k1
       case measure => have := HK1.out; omega
       case rel => exact ⟨(x3_1 ++ t165), (wrap64 (x16_1 + 1)), ap5_, ap5_, H', ⟨by have := HK1.out; omega⟩, ⟨ap31_⟩, ⟨ap47_⟩, ⟨ap66_⟩⟩
      ·rw [if_neg c11] at H
       exact absurd H (by simp)
     ·rw [if_neg c9] at H
      exact absurd H (by simp)
    ·rw [if_neg c8] at H
     exact absurd H (by simp)
   ·rw [if_neg c7] at H
    have c7b0 : decide (x16_1 < (y161.length : Int)) = false := decide_eq_false c7
    clear c7
    obtain rfl := Option.some.inj H
    go_wp2
    go_ret
    exact ⟨ap17_, ap66_⟩
def nm_headL (a : Int) : List UInt8 := if a = 1 then [99, 104, 97, 110, 110, 101, 108, 45] else if a = 2 then [99, 111, 110, 110, 101, 99, 116, 105, 111, 110, 45] else if a = 3 then [99, 108, 105, 101, 110, 116, 45] else []
theorem nm_head_is (a : Int) : names_head.f a = some (ofL (nm_headL a)) := by
 unfold names_head.f nm_headL
 split
 ·rfl
 ·split
  ·rfl
  ·split <;> rfl
theorem nm_hasPrefix_is (s h : ByteArray) : stringslite_HasPrefix.f s h = some (decide (h.toList <+: s.toList)) := by
 unfold stringslite_HasPrefix.f
 by_cases hs : (s.size : Int) ≥ (h.size : Int)
 ·rw [if_pos hs, if_pos (by omega), if_pos hs]
  congr 1
  rw [ba_extract, List.drop_zero, Int.toNat_natCast, Bool.eq_iff_iff, beq_iff_eq, decide_eq_true_iff, List.prefix_iff_eq_take, ba_size h]
  exact eq_comm
 ·rw [if_neg hs]
  congr 1
  symm
  rw [decide_eq_false_iff_not]
  intro hp
  have := hp.length_le
  rw [← ba_size, ← ba_size] at this
  omega
theorem nm_cutPrefix_is (s h : ByteArray) : strings_CutPrefix.f s h = some (if h.toList <+: s.toList then (ofL (s.toList.drop h.size), true) else (s, false)) := by
 unfold strings_CutPrefix.f stringslite_CutPrefix.f
 rw [nm_hasPrefix_is, Option.bind_some]
 by_cases hp : h.toList <+: s.toList
 ·have hl := hp.length_le
  rw [← ba_size, ← ba_size] at hl
  rw [decide_eq_true hp, if_pos rfl, if_pos (by omega), if_pos (by omega), Option.bind_some, if_pos hp]
  congr 2
  apply ba_ext
  rw [ba_extract, ofL_toList, Int.toNat_natCast, ba_size s, List.take_length]
 ·rw [decide_eq_false hp, if_neg (by simp), Option.bind_some, if_neg hp]
theorem nm_go_is (s : ByteArray) (d : Nat) : ∀ (i n : Nat), i ≤ s.size → d = s.size + 1 - i → n ≤ 1099511627776 → names_Number.go s d i (n : Int) = if (∀ c ∈ s.toList.drop i, isDig c) ∧ (s.toList.drop i).foldl dstep n ≤ 1099511627776 then some (((s.toList.drop i).foldl dstep n : Nat) : Int) else none := by
 induction d with
 | zero => intro i n hi hd; omega
 | succ d ih =>
  intro i n hi hd hn
  unfold names_Number.go
  by_cases h : i < s.size
  ·have hl : i < s.toList.length := by rw [← ba_size]; exact h
   have hb := bt_get s i hl
   rw [if_pos h, List.drop_eq_getElem_cons hl]
   generalize s.toList[i] = c at *
   simp only [List.mem_cons, List.foldl_cons, forall_eq_or_imp]
   by_cases h1 : bt s i < 48
   ·rw [if_pos h1, if_neg]
    rintro ⟨⟨hc, _⟩, _⟩
    unfold isDig at hc; omega
   ·rw [if_neg h1]
    by_cases h2 : bt s i > 57
    ·rw [if_pos h2, if_neg]
     rintro ⟨⟨hc, _⟩, _⟩
     unfold isDig at hc; omega
    ·rw [if_neg h2]
     have hc : isDig c := by unfold isDig; omega
     have he : (n : Int) * 10 + (bt s i - 48) = ((dstep n c : Nat) : Int) := by unfold dstep; rw [hb]; unfold isDig at hc; omega
     rw [he]
     by_cases h3 : ((dstep n c : Nat) : Int) > 1099511627776
     ·rw [if_pos h3, if_neg]
      rintro ⟨_, hle⟩
      have := foldl_dstep_ge (s.toList.drop (i + 1)) (dstep n c)
      omega
     ·rw [if_neg h3, ih (i + 1) (dstep n c) (by omega) (by omega) (by omega)]
      simp only [hc, true_and]
  ·rw [if_neg h]
   have : s.toList.drop i = [] := by rw [List.drop_eq_nil_iff, ← ba_size]; omega
   rw [this]
   simp [hn]
def nm_numOk (h l : List UInt8) : Prop := h <+: l ∧ l.drop h.length ≠ [] ∧ plainDec (l.drop h.length) ∧ (∀ c ∈ l.drop h.length, isDig c) ∧ dval (l.drop h.length) ≤ 1099511627776
open Classical in
noncomputable def nm_numSpec (h l : List UInt8) : Int × Int := if h = [] then (0, 1) else if nm_numOk h l then ((dval (l.drop h.length) : Nat), 0) else (0, 7)
theorem nm_plainDec_iff (l : List UInt8) (hn : l ≠ []) : plainDec l ↔ ¬ (1 < (ofL l).size ∧ bt (ofL l) 0 = 48) := by
 obtain ⟨c, t, rfl⟩ := List.exists_cons_of_ne_nil hn
 have hb : bt (ofL (c :: t)) 0 = ((c.toNat : Nat) : Int) := by
  have := bt_get (ofL (c :: t)) 0 (by rw [ofL_toList]; simp)
  simp only [ofL_toList] at this
  exact this
 rw [hb, ofL_size]
 unfold plainDec
 simp only [List.length_cons, List.head?_cons, ne_eq, Option.some.injEq]
 constructor
 ·rintro (h | h) ⟨h1, h2⟩
  ·omega
  ·exact h (UInt8.toNat_inj.1 (by have : (48 : UInt8).toNat = 48 := rfl; omega))
 ·intro h
  by_cases hl : t.length = 0
  ·exact .inl (by omega)
  ·right
   intro he
   apply h
   rw [he]
   exact ⟨by omega, rfl⟩
theorem nm_number_is (a : Int) (s : ByteArray) (hs : s.size ≤ 140737488351232) : names_Number.f a s = some (nm_numSpec (nm_headL a) s.toList) := by
 unfold names_Number.f nm_numSpec
 rw [if_pos hs, nm_head_is, Option.bind_some, ofL_toList]
 by_cases hh : nm_headL a = []
 ·rw [if_pos hh, if_pos hh]
 ·rw [if_neg hh, if_neg hh, nm_cutPrefix_is, Option.bind_some, ofL_toList, ofL_size]
  by_cases hp : nm_headL a <+: s.toList
  ·rw [if_pos hp]
   simp only [Bool.true_eq_false, if_false, ofL_toList]
   by_cases he : s.toList.drop (nm_headL a).length = []
   ·rw [if_pos he, if_neg]
    rintro ⟨_, h2, _⟩
    exact h2 he
   ·rw [if_neg he]
    have hpi := nm_plainDec_iff _ he
    by_cases hz : 1 < (ofL (s.toList.drop (nm_headL a).length)).size ∧ bt (ofL (s.toList.drop (nm_headL a).length)) 0 = 48
    ·rw [if_pos hz, if_neg]
     rintro ⟨_, _, h3, _⟩
     exact hpi.1 h3 hz
    ·rw [if_neg hz]
     have hsz : (ofL (s.toList.drop (nm_headL a).length)).size ≤ 140737488351232 := by
      rw [ofL_size, List.length_drop, ← ba_size]; omega
     rw [if_pos hsz]
     have hg := nm_go_is (ofL (s.toList.drop (nm_headL a).length)) _ 0 0 (by omega) rfl (by omega)
     rw [show (((0 : Nat) : Int)) = 0 from rfl] at hg
     rw [Nat.sub_zero, List.drop_zero, ofL_toList] at hg
     rw [hg]
     by_cases hd : (∀ c ∈ s.toList.drop (nm_headL a).length, isDig c) ∧ (s.toList.drop (nm_headL a).length).foldl dstep 0 ≤ 1099511627776
     ·rw [if_pos hd, if_pos]
      ·rfl
      ·exact ⟨hp, he, hpi.2 hz, hd.1, hd.2⟩
     ·rw [if_neg hd, if_neg]
      rintro ⟨_, _, _, h4, h5⟩
      exact hd ⟨h4, h5⟩
  ·rw [if_neg hp, if_pos rfl, if_neg (fun h : nm_numOk _ _ => hp h.1)]
def nm_letP (c : Int) : Prop := (97 ≤ c ∧ c ≤ 122) ∨ (65 ≤ c ∧ c ≤ 90) ∨ (48 ≤ c ∧ c ≤ 57) ∨ c = 46 ∨ c = 95 ∨ c = 45
instance (c : Int) : Decidable (nm_letP c) := by unfold nm_letP; infer_instance
theorem nm_letter_is (c : Int) (k : Nat) : names_letter.f (k + 3) c = some (decide (nm_letP c)) := by
 unfold names_letter.f
 simp only [names_letter.j0, names_letter.j1, names_letter.j2]
 repeat' split
 all_goals (try simp only [decide_eq_true_iff, Bool.false_eq_true] at *)
 all_goals (first | exact congrArg some (decide_eq_true (by unfold nm_letP; omega)).symm | exact congrArg some (decide_eq_false (by unfold nm_letP; omega)).symm)
theorem nm_letter_at (c : Int) (k : Nat) (h : 3 ≤ k) : names_letter.f k c = some (decide (nm_letP c)) := by
 obtain ⟨m, rfl⟩ : ∃ m, k = m + 3 := ⟨k - 3, by omega⟩
 exact nm_letter_is c m
def nm_plainP (s : ByteArray) : Prop := 1 ≤ s.size ∧ s.size ≤ 64 ∧ ∀ i : Nat, i < s.size → nm_letP (bt s i)
open Classical in
theorem nm_plain_is (s : ByteArray) (hs : s.size ≤ 140737488351232) : Ev (fun k => names_plain.f k s) (decide (nm_plainP s)) := by
 have loop : ∀ (d i : Nat) (b : Bool), d = s.size - i → i ≤ s.size → ∀ k, d + 5 ≤ k → names_plain.l0 k s b (s.size : Int) (i : Int) = some (b && decide (∀ j : Nat, i ≤ j → j < s.size → nm_letP (bt s j))) := by
  intro d
  induction d with
  | zero =>
   intro i b hd hi k hk
   obtain ⟨k, rfl⟩ : ∃ m, k = m + 1 := ⟨k - 1, by omega⟩
   simp only [names_plain.l0]
   rw [if_neg (by omega), decide_eq_true (fun j h1 h2 => by omega), Bool.and_true]
  | succ d ih =>
   intro i b hd hi k hk
   obtain ⟨k, rfl⟩ : ∃ m, k = m + 1 := ⟨k - 1, by omega⟩
   simp only [names_plain.l0]
   rw [if_pos (by omega), if_pos (by omega), if_pos (by omega), nm_letter_at _ _ (by omega), Option.bind_some]
   by_cases hl : nm_letP (bt s i)
   ·rw [decide_eq_true hl, if_pos rfl, w64 (by omega) (by omega), show ((i : Int) + 1) = ((i + 1 : Nat) : Int) from rfl, ih (i + 1) b (by omega) (by omega) _ (by omega)]
    congr 2
    rw [decide_eq_decide]
    constructor
    ·intro h j h1 h2
     by_cases he : j = i
     ·rw [he]; exact hl
     ·exact h j (by omega) h2
    ·intro h j h1 h2
     exact h j (by omega) h2
   ·rw [decide_eq_false hl, if_neg (by simp), decide_eq_false (fun h => hl (h i (Nat.le_refl _) (by omega))), Bool.and_false]
 refine ⟨s.size + 6, fun k hk => ?_⟩
 obtain ⟨k, rfl⟩ : ∃ m, k = m + 1 := ⟨k - 1, by omega⟩
 have hl := fun b => loop s.size 0 b (by omega) (by omega) k (by omega)
 unfold names_plain.f
 simp only [names_plain.j0]
 by_cases h0 : s.toList = []
 ·rw [if_pos h0]
  have hz : s.size = 0 := by rw [ba_size, h0]; rfl
  have := hl false
  rw [show ((0 : Nat) : Int) = 0 from rfl] at this
  rw [this, Bool.false_and, decide_eq_false (fun h : nm_plainP s => by have := h.1; omega)]
 ·rw [if_neg h0]
  have hz : 1 ≤ s.size := by rw [ba_size]; exact List.length_pos_iff.2 h0
  have := hl (decide ((s.size : Int) ≤ 64))
  rw [show ((0 : Nat) : Int) = 0 from rfl] at this
  rw [this]
  congr 1
  rw [Bool.eq_iff_iff, Bool.and_eq_true, decide_eq_true_iff, decide_eq_true_iff, decide_eq_true_iff]
  constructor
  ·rintro ⟨h1, h2⟩
   exact ⟨hz, by omega, fun i hi => h2 i (Nat.zero_le _) hi⟩
  ·rintro ⟨_, h1, h2⟩
   exact ⟨by omega, fun i _ hi => h2 i hi⟩
open Classical in
noncomputable def nm_checkSpec (a : Int) (s : ByteArray) : Int := if a < 0 then 1 else if a > 6 then 1 else if nm_headL a = [] then (if nm_plainP s then 0 else 7) else (nm_numSpec (nm_headL a) s.toList).2
open Classical in
theorem nm_check_ev (a : Int) (s : ByteArray) (hs : s.size ≤ 140737488351232) : Ev (fun k => names_Check.f k a s) (nm_checkSpec a s) := by
 obtain ⟨K, hK⟩ := nm_plain_is s hs
 refine ⟨K + 1, fun k hk => ?_⟩
 obtain ⟨k, rfl⟩ : ∃ m, k = m + 1 := ⟨k - 1, by omega⟩
 have hp : names_plain.f k s = _ := hK k (by omega)
 show names_Check.f _ a s = _
 unfold names_Check.f nm_checkSpec
 by_cases h1 : a < 0
 ·rw [if_pos h1, if_pos h1]
  simp only [names_Check.j0]
  rw [if_pos trivial]
 ·rw [if_neg h1, if_neg h1]
  simp only [names_Check.j0]
  by_cases h2 : a > 6
  ·rw [if_pos h2, decide_eq_true h2, if_pos rfl]
  ·rw [if_neg h2, decide_eq_false h2, if_neg (by simp), nm_head_is, Option.bind_some, ofL_toList]
   by_cases h3 : nm_headL a = []
   ·rw [if_pos h3, if_pos h3, hp, Option.bind_some]
    by_cases h4 : nm_plainP s
    ·rw [decide_eq_true h4, if_pos rfl, if_pos h4]
    ·rw [decide_eq_false h4, if_neg (by simp), if_neg h4]
   ·rw [if_neg h3, if_neg h3, nm_number_is a s hs, Option.bind_some]
theorem nm_eq (a : Int) (s : ByteArray) (hs : s.size ≤ 140737488351232) (k : Nat) (n : Int) (h : names_Check.f k a s = some n) : nm_checkSpec a s = n := by
 obtain ⟨K, hK⟩ := nm_check_ev a s hs
 obtain ⟨K2, hK2⟩ := Ev.of (g := fun k => names_Check.f k a s) (names_Check.mono a s) h
 exact Option.some.inj ((hK (max K K2) (by omega)).symm.trans (hK2 (max K K2) (by omega)))
def bkNum (n : Int) : ByteArray := if n < 0 ∨ 9007199254740992 < n then (⟨#[]⟩ : ByteArray) else numB n.toNat
def bkSet (cur : List S82) (key : ByteArray) (n : Int) : List S82 := if n = 0 then delK cur key else setC cur key (bkNum n)
theorem bkSet_KV {m : Nat} {cur : List S82} (h : KV m cur) (key : ByteArray) (n : Int) : KV (m + 1) (bkSet cur key n) := by
 unfold bkSet
 split
 ·exact (h.del _).mono (Nat.le_succ _)
 ·exact h.put _ _
def J1 (n g : Nat) (cur : List S82) (v : Value) (l : List S82) (W : World) : Prop :=
 ∃ ok : Nat → Prop, (∀ k, ok k → n ≤ k ∧ k < W.heap.size) ∧ JM n ok g ⟨cur, []⟩ W ∧ Kd.V k82 82 W 0 (fun k => ¬ ok k) v l
theorem J1.of {n g : Nat} {cur : List S82} {v : Value} {l : List S82} {W : World} {ok : Nat → Prop} (hm : JM n ok g ⟨cur, []⟩ W) (hv : Kd.V k82 82 W 0 (fun k => ¬ ok k) v l) : J1 n g cur v l W :=
 ⟨_, fun k hk => ⟨hk.2.1, hk.2.2.1⟩, hm.bound, Kd.V_mono hv (fun k hk h => hk h.1)⟩
theorem J1.below {n g : Nat} {cur : List S82} {v : Value} {l : List S82} {W W' : World} (h : J1 n g cur v l W) (hb : Below W.heap.size W W') : J1 n g cur v l W' := by
 obtain ⟨ok, h1, h2, h3⟩ := h
 exact ⟨ok, fun k hk => ⟨(h1 k hk).1, Nat.lt_of_lt_of_le (h1 k hk).2 hb.size⟩, h2.below hb, Kd.V_below h3 hb⟩
theorem J1.did {n g : Nat} {cur : List S82} {v : Value} {l : List S82} {ok : Nat → Prop} {W W' : World} (hv : Kd.V k82 82 W 0 (fun k => ¬ ok k) v l)
  (h : JS n ok W g cur W') : J1 n g cur v l W' :=
 J1.of h.m (Kd.V_mono (Kd.V_step (Kd.V_bound hv) (fun k hk hlt => h.jw.block k hlt hk.1)) (fun k hk h => h.elim hk.1 (fun h => by have := hk.2; omega)))
theorem hasK_in {l : List S82} {key : ByteArray} (h : hasK l key = true) : ∃ p ∈ l, p.f0 = key := by
 obtain ⟨hp, e⟩ := hasK_lt h
 exact ⟨_, List.getElem_mem hp, e⟩
theorem hasK_not {l : List S82} {key : ByteArray} (h : ∀ p ∈ l, p.f0 ≠ key) : hasK l key = false := by
 cases e : hasK l key with
 | false => rfl
 | true => obtain ⟨p, hp, hk⟩ := hasK_in e; exact absurd hk (h p hp)
theorem getK_no {l : List S82} {key : ByteArray} (h : hasK l key = false) : getK l key = ((⟨#[]⟩ : ByteArray), false) := by unfold getK; rw [h]; rfl
theorem mem_setK {l : List S82} {key value : ByteArray} {p : S82} (h : p ∈ setK l key value) : p = ⟨key, value⟩ ∨ p ∈ l := by
 unfold setK at h
 split at h
 ·rcases List.mem_or_eq_of_mem_set h with h | h
  ·exact .inr h
  ·exact .inl h
 ·rcases List.mem_append.1 h with h | h
  ·exact .inr (List.mem_of_mem_take h)
  ·rcases List.mem_cons.1 h with h | h
   ·exact .inl h
   ·exact .inr (List.mem_of_mem_drop h)
theorem mem_delK {l : List S82} {key : ByteArray} {p : S82} (h : p ∈ delK l key) : p ∈ l := by
 unfold delK at h
 split at h
 ·rcases List.mem_append.1 h with h | h
  ·exact List.mem_of_mem_take h
  ·exact List.mem_of_mem_drop h
 ·exact h
theorem getK_set {l : List S82} (hs : sortK l) (key value : ByteArray) : getK (setK l key value) key = (value, true) := by
 obtain ⟨A, B, hA, hB, h⟩ := decK hs key
 rcases h with ⟨_, x, hx, rfl⟩ | ⟨hn, rfl⟩
 ·rw [setK_mid value hA hx hB]; exact getK_mid hA rfl hB
 ·rw [setK_new value hA hB hn]; exact getK_mid hA rfl hB
theorem key_head (a : ByteArray) (l : List ByteArray) (c : UInt8) (t : List UInt8) (h : a.toList = c :: t) (h1 : c ≠ 37) (h2 : c ≠ 47) : (keyB a l).toList.head? = some c := by
 unfold keyB keyL glue
 rw [ofL_toList, h, hidL_cons, if_neg h1, if_neg h2]
 rfl
theorem V_js {n g t : Nat} {ok : Nat → Prop} {cur l : List S82} {v : Value} {w0 W : World} (h : JS n ok w0 g cur W) (hv : Kd.V k82 t w0 0 (fun k => ¬ ok k) v l) : Kd.V k82 t W 0 (fun k => ¬ ok k ∧ k < w0.heap.size) v l :=
 Kd.V_step (Kd.V_bound hv) (fun k hk hlt => h.jw.block k hlt hk.1)
theorem V_C {P : Nat → Prop} {A : Option Addr} {c m t : Nat} {l : List S82} {W : World} (h : Kd.V k82 t W 0 P (.slice A m c) l) : Kd.C k82 W A l.length l ∧ l.length ≤ c := by
 obtain ⟨A', c', e, hl, hf⟩ := h
 injection e with e1 e2 e3
 subst e1 e3
 exact ⟨Kd.F_now hf, hl⟩
theorem JS.old {n m g : Nat} {ok : Nat → Prop} {cur : List S82} {w w0 W : World} (h : JS n ok w0 g cur W) (hb : Below m w w0) (hm : m ≤ w0.heap.size) (hk : ∀ k, ok k → m ≤ k) : Below m w W := JW.toBelow hb hm h.jw hk
theorem getK_mem {l : List S82} (hs : sortK l) {p : S82} (hp : p ∈ l) : getK l p.f0 = (p.f1, true) ∧ hasK l p.f0 = true := by
 obtain ⟨A, B, rfl⟩ := List.append_of_mem hp
 have h := List.pairwise_append.1 hs
 have hA : ∀ a ∈ A, kLt a.f0 p.f0 = true := fun a ha => h.2.2 a ha p List.mem_cons_self
 have hB : ∀ b ∈ B, kLt b.f0 p.f0 = false := fun b hb => by
  cases e : kLt b.f0 p.f0 with
  | false => rfl
  | true =>
   have h3 := kLt_trans e (List.rel_of_pairwise_cons h.2.1 hb)
   rw [kLt_irr] at h3; cases h3
 exact ⟨getK_mid hA rfl hB, hasK_mid hA rfl hB⟩
theorem getK_none {l : List S82} {key : ByteArray} (h : ¬ hasK l key = true) : getK l key = ((⟨#[]⟩ : ByteArray), false) := getK_no (Bool.eq_false_iff.2 h)
theorem setK_keep {l : List S82} (hs : sortK l) {key : ByteArray} (value : ByteArray) {p : S82} (hp : p ∈ l) (hk : p.f0 ≠ key) : p ∈ setK l key value := by
 obtain ⟨A, B, hA, hB, h⟩ := decK hs key
 rcases h with ⟨_, x, hx, rfl⟩ | ⟨hn, rfl⟩
 ·rw [setK_mid value hA hx hB]
  rcases List.mem_append.1 hp with hp | hp
  ·exact List.mem_append_left _ hp
  ·rcases List.mem_cons.1 hp with rfl | hp
   ·exact absurd hx hk
   ·exact List.mem_append_right _ (List.mem_cons_of_mem _ hp)
 ·rw [setK_new value hA hB hn]
  rcases List.mem_append.1 hp with hp | hp
  ·exact List.mem_append_left _ hp
  ·exact List.mem_append_right _ (List.mem_cons_of_mem _ hp)
theorem delK_keep {l : List S82} (hs : sortK l) {key : ByteArray} {p : S82} (hp : p ∈ l) (hk : p.f0 ≠ key) : p ∈ delK l key := by
 by_cases hh : hasK l key = true
 ·obtain ⟨A, B, hA, hB, h⟩ := decK hs key
  rcases h with ⟨_, x, hx, rfl⟩ | ⟨hn, rfl⟩
  ·rw [delK_mid hA hx hB]
   rcases List.mem_append.1 hp with hp | hp
   ·exact List.mem_append_left _ hp
   ·rcases List.mem_cons.1 hp with rfl | hp
    ·exact absurd hx hk
    ·exact List.mem_append_right _ hp
  ·rw [hn] at hh; cases hh
 ·rw [delK_no hh]; exact hp
theorem hasK_setK {l : List S82} (hs : sortK l) {key k2 : ByteArray} (value : ByteArray) (h : k2 ≠ key) : hasK (setK l key value) k2 = hasK l k2 ∧ getK (setK l key value) k2 = getK l k2 := by
 by_cases hh : hasK l k2 = true
 ·obtain ⟨p, hp, rfl⟩ := hasK_in hh
  have h1 := getK_mem hs hp
  have h2 := getK_mem (sortK_set hs key value) (setK_keep hs value hp h)
  exact ⟨h2.2.trans h1.2.symm, h2.1.trans h1.1.symm⟩
 ·have h3 : ¬ hasK (setK l key value) k2 = true := fun e => by
   obtain ⟨p, hp, rfl⟩ := hasK_in e
   rcases mem_setK hp with rfl | hp
   ·exact h rfl
   ·exact hh (getK_mem hs hp).2
  rw [getK_none hh, getK_none h3, Bool.eq_false_iff.2 hh, Bool.eq_false_iff.2 h3]
  exact ⟨rfl, rfl⟩
theorem hasK_delK {l : List S82} (hs : sortK l) {key k2 : ByteArray} (h : k2 ≠ key) : hasK (delK l key) k2 = hasK l k2 ∧ getK (delK l key) k2 = getK l k2 := by
 by_cases hh : hasK l k2 = true
 ·obtain ⟨p, hp, rfl⟩ := hasK_in hh
  have h1 := getK_mem hs hp
  have h2 := getK_mem (sortK_del hs key) (delK_keep hs hp h)
  exact ⟨h2.2.trans h1.2.symm, h2.1.trans h1.1.symm⟩
 ·have h3 : ¬ hasK (delK l key) k2 = true := fun e => by
   obtain ⟨p, hp, rfl⟩ := hasK_in e
   exact hh (getK_mem hs (mem_delK hp)).2
  rw [getK_none hh, getK_none h3, Bool.eq_false_iff.2 hh, Bool.eq_false_iff.2 h3]
  exact ⟨rfl, rfl⟩
theorem hasK_gone {l : List S82} (hs : sortK l) (key : ByteArray) : hasK (delK l key) key = false := by
 by_cases hh : hasK l key = true
 ·obtain ⟨A, B, hA, hB, h⟩ := decK hs key
  rcases h with ⟨_, x, hx, rfl⟩ | ⟨hn, rfl⟩
  ·rw [delK_mid hA hx hB]
   refine hasK_not (fun p hp e => ?_)
   have h := List.pairwise_append.1 hs
   rcases List.mem_append.1 hp with hp | hp
   ·have := hA p hp; rw [e, kLt_irr] at this; cases this
   ·have := List.rel_of_pairwise_cons h.2.1 hp
    rw [hx, e, kLt_irr] at this; cases this
  ·rw [hn] at hh; cases hh
 ·rw [delK_no hh]; exact Bool.eq_false_iff.2 hh
theorem sortK_ext : ∀ (a b : List S82), sortK a → sortK b → (∀ p, p ∈ a ↔ p ∈ b) → a = b
 | [], [], _, _, _ => rfl
 | [], y :: b, _, _, h => absurd ((h y).2 List.mem_cons_self) (by simp)
 | x :: a, [], _, _, h => absurd ((h x).1 List.mem_cons_self) (by simp)
 | x :: a, y :: b, ha, hb, h => by
  have hxa := fun p (hp : p ∈ a) => List.rel_of_pairwise_cons ha hp
  have hyb := fun p (hp : p ∈ b) => List.rel_of_pairwise_cons hb hp
  have hxy : x = y := by
   rcases List.mem_cons.1 ((h x).1 List.mem_cons_self) with e | e
   ·exact e
   ·rcases List.mem_cons.1 ((h y).2 List.mem_cons_self) with e2 | e2
    ·exact e2.symm
    ·have := kLt_trans (hyb x e) (hxa y e2)
     rw [kLt_irr] at this; cases this
  subst hxy
  rw [sortK_ext a b (List.Pairwise.of_cons ha) (List.Pairwise.of_cons hb) (fun p => ?_)]
  constructor
  ·intro hp
   rcases List.mem_cons.1 ((h p).1 (List.mem_cons_of_mem _ hp)) with rfl | e
   ·have := hxa _ hp
    rw [kLt_irr] at this; cases this
   ·exact e
  ·intro hp
   rcases List.mem_cons.1 ((h p).2 (List.mem_cons_of_mem _ hp)) with rfl | e
   ·have := hyb _ hp
    rw [kLt_irr] at this; cases this
   ·exact e
theorem getK_iff {a : List S82} (ha : sortK a) (p : S82) : p ∈ a ↔ getK a p.f0 = (p.f1, true) := by
 constructor
 ·intro hp; exact (getK_mem ha hp).1
 ·intro e
  have hh : hasK a p.f0 = true := by
   unfold getK at e
   split at e
   ·assumption
   ·exact Bool.noConfusion (congrArg Prod.snd e : false = true)
  obtain ⟨q, hq, hqk⟩ := hasK_in hh
  have h2 := (getK_mem ha hq).1
  rw [hqk, e] at h2
  have h3 : p.f1 = q.f1 := congrArg Prod.fst h2
  obtain ⟨p0, p1⟩ := p
  obtain ⟨q0, q1⟩ := q
  simp only at hqk h3
  subst hqk h3
  exact hq
theorem sortK_get {a b : List S82} (ha : sortK a) (hb : sortK b) (h : ∀ k, getK a k = getK b k) : a = b :=
 sortK_ext a b ha hb (fun p => by rw [getK_iff ha, getK_iff hb, h])
theorem getK_setK {l : List S82} (hs : sortK l) (key value k2 : ByteArray) : getK (setK l key value) k2 = if k2 = key then (value, true) else getK l k2 := by
 by_cases h : k2 = key
 ·rw [if_pos h, h]; exact getK_set hs key value
 ·rw [if_neg h]; exact (hasK_setK hs value h).2
theorem getK_delK {l : List S82} (hs : sortK l) (key k2 : ByteArray) : getK (delK l key) k2 = if k2 = key then ((⟨#[]⟩ : ByteArray), false) else getK l k2 := by
 by_cases h : k2 = key
 ·rw [if_pos h, h]; exact getK_no (hasK_gone hs key)
 ·rw [if_neg h]; exact (hasK_delK hs h).2
theorem sortK_setC {l : List S82} (hs : sortK l) (key value : ByteArray) : sortK (setC l key value) := by
 unfold setC
 split
 ·exact hs
 ·exact sortK_set hs _ _
theorem getK_setC {l : List S82} (hs : sortK l) (key value k2 : ByteArray) : getK (setC l key value) k2 = if k2 = key ∧ ¬ (key.size > 65536 ∨ value.size > 65536) then (value, true) else getK l k2 := by
 unfold setC
 by_cases hb : key.size > 65536 ∨ value.size > 65536
 ·rw [if_pos hb, if_neg (fun e => e.2 hb)]
 ·rw [if_neg hb, getK_setK hs]
  by_cases h : k2 = key
  ·rw [if_pos h, if_pos ⟨h, hb⟩]
  ·rw [if_neg h, if_neg (fun e => h e.1)]
theorem sortK_bk {l : List S82} (hs : sortK l) (key : ByteArray) (n : Int) : sortK (bkSet l key n) := by
 unfold bkSet
 split
 ·exact sortK_del hs _
 ·exact sortK_setC hs _ _
def bkVal (old : ByteArray × Bool) (key : ByteArray) (n : Int) : ByteArray × Bool := if n = 0 then ((⟨#[]⟩ : ByteArray), false) else if key.size > 65536 ∨ (bkNum n).size > 65536 then old else (bkNum n, true)
theorem getK_bk {l : List S82} (hs : sortK l) (key : ByteArray) (n : Int) (k2 : ByteArray) : getK (bkSet l key n) k2 = if k2 = key then bkVal (getK l k2) key n else getK l k2 := by
 unfold bkSet bkVal
 by_cases h0 : n = 0
 ·rw [if_pos h0, if_pos h0, getK_delK hs]
 ·rw [if_neg h0, if_neg h0, getK_setC hs]
  by_cases h : k2 = key
  ·rw [if_pos h]
   by_cases hb : key.size > 65536 ∨ (bkNum n).size > 65536
   ·rw [if_pos hb, if_neg (fun e => e.2 hb)]
   ·rw [if_neg hb, if_pos ⟨h, hb⟩]
  ·rw [if_neg h, if_neg (fun e => h e.1)]
theorem strOf_list (l : List Int) : (strOfNums l).toList = l.map fun n => UInt8.ofNat n.toNat := by rw [ByteArray.toList_eq, strOfNums_data]
def valD (l : List Int) : Nat := l.foldl (fun a d => a * 256 + d.toNat) 0
theorem valD_snoc (l : List Int) (d : Int) : valD (l ++ [d]) = valD l * 256 + d.toNat := by unfold valD; rw [List.foldl_append]; rfl
theorem digB_val : ∀ k n, n < 256 ^ k → valD (digB k n) = n
 | 0, n, h => by
  have : n = 0 := by simpa using h
  subst this; rfl
 | k + 1, n, h => by
  unfold digB
  split
  ·rename_i h0; subst h0; rfl
  ·rw [valD_snoc, digB_val k (n / 256) ap13_, Int.toNat_natCast]; omega
theorem digB_rng : ∀ k n, ∀ d ∈ digB k n, 0 ≤ d ∧ d < 256
 | 0, _, d, h => by simp [digB] at h
 | k + 1, n, d, h => by
  unfold digB at h
  split at h
  ·simp at h
  ·rcases List.mem_append.1 h with h | h
   ·exact digB_rng k _ d h
   ·obtain rfl := List.mem_singleton.1 h
    omega
theorem digB_le : ∀ k n m, n < 256 ^ m → (digB k n).length ≤ m
 | 0, _, _, _ => Nat.zero_le _
 | k + 1, n, m, h => by
  unfold digB
  split
  ·exact Nat.zero_le _
  ·cases m with
   | zero => simp at h; omega
   | succ m =>
    have := digB_le k (n / 256) m ap13_
    rw [List.length_append, List.length_singleton]; omega
theorem digB_0 : ∀ k, digB k 0 = []
 | 0 => rfl
 | k + 1 => by unfold digB; exact if_pos rfl
theorem digB_head : ∀ k n, n < 256 ^ k → n ≠ 0 → ∃ d t, digB k n = d :: t ∧ d ≠ 0
 | 0, n, h, h0 => by simp at h; omega
 | k + 1, n, h, h0 => by
  unfold digB
  rw [if_neg h0]
  by_cases h1 : n / 256 = 0
  ·rw [h1, digB_0]; exact ⟨_, _, rfl, by omega⟩
  ·obtain ⟨d, t, e, hd⟩ := digB_head k (n / 256) ap13_ h1
   rw [e]; exact ⟨d, _, rfl, hd⟩
theorem nBy_val {s : ByteArray} {ds : List Int} (h : ∀ i (hi : i < ds.length), bt s ((i + 1 : Nat) : Int) = ds[i]) : ∀ i, i ≤ ds.length → nBy s i = valD (ds.take i)
 | 0, _ => by rw [List.take_zero]; rfl
 | i + 1, hi => by
  have e : nBy s (i + 1) = nBy s i * 256 + (bt s ((i + 1 : Nat) : Int)).toNat := rfl
  rw [e, nBy_val h i (by omega), h i (by omega), List.take_add_one, List.getElem?_eq_getElem (by omega)]
  exact (valD_snoc _ _).symm
theorem bt_put {a : List Int} {t : ByteArray} (hr : ∀ d ∈ a, 0 ≤ d ∧ d < 256) (i : Nat) (hi : i < a.length) : bt (strOfNums a ++ t) (i : Int) = a[i] := by
 have hl : i < (strOfNums a ++ t).toList.length := by rw [ba_append, strOf_list, List.length_append, List.length_map]; omega
 rw [bt_get _ i hl]
 have e : (strOfNums a ++ t).toList[i] = UInt8.ofNat (a[i]).toNat := by
  simp only [ba_append, strOf_list]
  rw [List.getElem_append_left (by rw [List.length_map]; exact hi), List.getElem_map]
 rw [e]
 have := hr _ (List.getElem_mem hi)
 rw [UInt8.toNat_ofNat']
 omega
theorem numB_one (n : Nat) : numB n = strOfNums (((digB 8 n).length : Int) :: digB 8 n) := by
 unfold numB
 apply ba_ext
 rw [ba_append, strOf_list, strOf_list, strOf_list]; rfl
theorem numW_numB (n : Nat) (h : n ≤ 9007199254740992) (t : ByteArray) : numW (numB n ++ t) = ((n : Int), ((digB 8 n).length : Int) + 1, 0) := by
 have h7 : (digB 8 n).length ≤ 7 := digB_le 8 n 7 (by omega)
 have hr : ∀ d ∈ (((digB 8 n).length : Int) :: digB 8 n), 0 ≤ d ∧ d < 256 := fun d hd => by
  rcases List.mem_cons.1 hd with rfl | hd
  ·omega
  ·exact digB_rng _ _ d hd
 have hv := digB_val 8 n (by omega)
 have hh := digB_head 8 n (by omega)
 have h0 := digB_0 8
 rw [numB_one]
 generalize hD : digB 8 n = D at h7 hr hv hh
 have b0 : bt (strOfNums ((D.length : Int) :: D) ++ t) 0 = (D.length : Int) := bt_put hr 0 (by simp)
 have hb : ∀ i (hi : i < D.length), bt (strOfNums ((D.length : Int) :: D) ++ t) ((i + 1 : Nat) : Int) = D[i] := fun i hi => bt_put hr (i + 1) (by simpa using hi)
 have hn : nBy (strOfNums ((D.length : Int) :: D) ++ t) D.length = n := by rw [nBy_val hb D.length (Nat.le_refl _), List.take_length, hv]
 have hs : (strOfNums ((D.length : Int) :: D) ++ t).size = D.length + 1 + t.size := by rw [ByteArray.size_append, strOfNums_sz, List.length_cons]
 unfold numW wire_number.f
 rw [if_neg (by omega), b0, if_neg (by
  rintro (e | ⟨e1, e2, e3⟩)
  ·omega
  ·by_cases hz : n = 0
   ·rw [hz, h0] at hD; subst hD; simp at e1
   ·obtain ⟨d, u, e, hd⟩ := hh hz
    have := hb 0 (by omega)
    subst e
    exact hd (this.symm.trans e3)), if_neg (by omega), Int.toNat_natCast, hn, if_neg (by omega)]
 rfl
theorem rNum_numB (n : Nat) (h : n ≤ 9007199254740992) (t : ByteArray) : rNum (numB n ++ t) 0 = ((n : Int), t, 0) := by
 unfold rNum
 rw [numW_numB n h t, if_pos rfl]
 dsimp only
 rw [if_pos rfl]
 congr 2
 apply ba_ext
 rw [ba_extract, ba_size (numB n ++ t), List.take_length, ba_append]
 have hl : (numB n).toList.length = (((digB 8 n).length : Int) + 1).toNat := by rw [← ba_size, numB_one, strOfNums_sz, List.length_cons]; omega
 rw [← hl, List.drop_left]
theorem rNum_numB0 (n : Nat) (h : n ≤ 9007199254740992) : rNum (numB n) 0 = ((n : Int), (⟨#[]⟩ : ByteArray), 0) := by
 have := rNum_numB n h (⟨#[]⟩ : ByteArray)
 rw [show numB n ++ (⟨#[]⟩ : ByteArray) = numB n from ba_ext ap3_] at this
 exact this
theorem textB_is (s : ByteArray) (h : s.size ≤ 65536) : textB s = numB s.size ++ s := by unfold textB; rw [if_neg (by omega)]
theorem rText_textB (s t : ByteArray) (h : s.size ≤ 65536) : rText (textB s ++ t) 0 = (s, t, 0) := by
 have e : textB s ++ t = numB s.size ++ (s ++ t) := by
  rw [textB_is s h]; apply ba_ext; rw [ba_append, ba_append, ba_append, ba_append, List.append_assoc]
 have hl : (numB s.size).size = (digB 8 s.size).length + 1 := by rw [numB_one, strOfNums_sz, List.length_cons]
 have hsz : (numB s.size ++ (s ++ t)).size = (digB 8 s.size).length + 1 + s.size + t.size := by rw [ByteArray.size_append, ByteArray.size_append, hl]; omega
 rw [e]
 unfold rText
 rw [numW_numB s.size (by omega)]
 dsimp only
 have n1 : ¬ (((s.size : Nat) : Int) > 65536) := by omega
 have n2 : ¬ (((s.size : Nat) : Int) > ((numB s.size ++ (s ++ t)).size : Int) - (((digB 8 s.size).length : Int) + 1)) := by rw [hsz]; omega
 rw [if_pos rfl, if_pos rfl, if_neg n1, if_neg n2]
 have i1 : (((digB 8 s.size).length : Int) + 1).toNat = (numB s.size).toList.length := by rw [← ba_size, hl]; omega
 have i2 : (((digB 8 s.size).length : Int) + 1 + (s.size : Int)).toNat = (numB s.size).toList.length + s.toList.length := by rw [← ba_size, ← ba_size, hl]; omega
 have ex1 : (numB s.size ++ (s ++ t)).extract (((digB 8 s.size).length : Int) + 1).toNat (((digB 8 s.size).length : Int) + 1 + (s.size : Int)).toNat = s := by
  apply ba_ext
  rw [ba_extract, i1, i2, ba_append, ba_append, List.take_append, Nat.add_sub_cancel_left, List.take_left, List.drop_append, List.take_of_length_le (by omega), Nat.sub_self, List.drop_zero, List.drop_of_length_le (by omega), List.nil_append]
 have ex2 : (numB s.size ++ (s ++ t)).extract (((digB 8 s.size).length : Int) + 1 + (s.size : Int)).toNat (numB s.size ++ (s ++ t)).size = t := by
  apply ba_ext
  rw [ba_extract, i2, ba_size (numB s.size ++ (s ++ t)), List.take_length, ba_append, ba_append, ← List.append_assoc, ← List.length_append, List.drop_left]
 rw [ex1, ex2]
theorem rText_textB0 (s : ByteArray) (h : s.size ≤ 65536) : rText (textB s) 0 = (s, (⟨#[]⟩ : ByteArray), 0) := by
 have := rText_textB s (⟨#[]⟩ : ByteArray) h
 rw [show textB s ++ (⟨#[]⟩ : ByteArray) = textB s from ba_ext ap3_] at this
 exact this
theorem keyB_ne {a b : ByteArray} {l m : List ByteArray} {c d : UInt8} {t u : List UInt8} (ha : a.toList = c :: t) (hb : b.toList = d :: u) (h1 : c ≠ 37) (h2 : c ≠ 47) (h3 : d ≠ 37) (h4 : d ≠ 47) (h : c ≠ d) : keyB a l ≠ keyB b m := fun e => by
 have x := key_head a l c t ha h1 h2
 rw [e, key_head b m d u hb h3 h4] at x
 exact h (Option.some.inj x).symm
def HeldC (g : Nat) (cs : Array Value) (t : TypeId) (w : World) : Prop := w.heap[g]? = some (.cells cs t (0, 0))
theorem HeldC.of {g : Nat} {cs : Array Value} {t : TypeId} {w : World} (h : w.heap[g]? = some (.cells cs t (0, 0))) : HeldC g cs t w := h
theorem HeldC.blk {g : Nat} {cs : Array Value} {t : TypeId} {w : World} (h : HeldC g cs t w) : w.heap[g]? = some (.cells cs t (0, 0)) := h
theorem at_world {g : Nat} {cs : Array Value} {t : TypeId} {w : World} (_ : HeldC g cs t w) {F : World → Prop} (h : F w) : Aside0 (F w) := As_ h
end Go.Proofs.YtjappgjpikbdeaaGreatDoor.PTkp
