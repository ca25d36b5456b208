/- A part of the walk of TokenPlays. No condition. -/
import Derived.Test.YtjappgjpikbdeaaGreatDoorPTkpx0
import Derived.Test.YtjappgjpikbdeaaGreatDoorPTkpx1
import Derived.Test.YtjappgjpikbdeaaGreatDoorPTkpx2
import Derived.Test.YtjappgjpikbdeaaGreatDoorPTkpx3
import Derived.Test.YtjappgjpikbdeaaGreatDoorPTkpx4
import Derived.Test.YtjappgjpikbdeaaGreatDoorPTkpx6
import Derived.Test.YtjappgjpikbdeaaGreatDoorPTkpx7
import Derived.Test.YtjappgjpikbdeaaGreatDoorPTkpx8
import Derived.Test.YtjappgjpikbdeaaGreatDoorPTkpx10
namespace Go.Proofs.YtjappgjpikbdeaaGreatDoor.PTkp
set_option maxRecDepth 100000
set_option maxHeartbeats 8000000
open Go.RowKit Go.Proofs.YtjappgjpikbdeaaGreatDoorW.PrintWords Go.Proofs.YtjappgjpikbdeaaGreatDoorW.PrintLast Go.Proofs.YtjappgjpikbdeaaGreatDoorW.PrintMore
attribute [local go_sem] max2_int min2_int max_two min_two max_three min_three max_four min_four   -- for this text's walks alone
set_option linter.unusedVariables false
set_option linter.unusedSimpArgs false
section
theorem few23_all (k : Int) (c i u d o p : ByteArray) : ∃ r, footbridgelaw23_few.f k c i u d o p = some r ∧ (r = true → c.size ≤ 300 ∧ i.size ≤ 300 ∧ o.size ≤ 1000 ∧ p.size ≤ 1000 ∧ u.size ≤ 40000 ∧ d.size ≤ 40000) := by
 unfold footbridgelaw23_few.f
 by_cases h1 : (c.size : Int) ≤ 300
 ·rw [if_pos h1]
  by_cases h2 : (i.size : Int) ≤ 300
  ·rw [if_pos h2]
   by_cases h3 : (o.size : Int) ≤ 1000
   ·rw [if_pos h3]
    by_cases h4 : (p.size : Int) ≤ 1000
    ·rw [if_pos h4]
     by_cases h5 : (u.size : Int) ≤ 40000
     ·rw [if_pos h5]
      exact ⟨_, rfl, fun e => ⟨by omega, by omega, by omega, by omega, by omega, by have := of_decide_eq_true e; omega⟩⟩
     ·rw [if_neg h5]; exact ⟨_, rfl, fun e => Bool.noConfusion e⟩
    ·rw [if_neg h4]; exact ⟨_, rfl, fun e => Bool.noConfusion e⟩
   ·rw [if_neg h3]; exact ⟨_, rfl, fun e => Bool.noConfusion e⟩
  ·rw [if_neg h2]; exact ⟨_, rfl, fun e => Bool.noConfusion e⟩
 ·rw [if_neg h1]; exact ⟨_, rfl, fun e => Bool.noConfusion e⟩
theorem eqB23 (d : Nat) (w : World) (x0 y0 x1 y1 x2 y2 x3 y3 x4 y4 : ByteArray) :
  (Op.equalIn (d + 2) 23 (.agg #[.string x0, .string x1, .string x2, .string x3, .string x4]) (.agg #[.string y0, .string y1, .string y2, .string y3, .string y4])).run Tryz.prog w = .ok (x0.toList == y0.toList && (x1.toList == y1.toList && (x2.toList == y2.toList && (x3.toList == y3.toList && (x4.toList == y4.toList))))) w := by
 refine eqA_of Tryz.underlying23 (by kernel_rfl) ?_
 refine eqf_cons (by rfl) (by go_simp; rfl) (by go_simp; rfl) (by go_simp) ?_
 refine eqf_cons (by rfl) (by go_simp; rfl) (by go_simp; rfl) (by go_simp) ?_
 refine eqf_cons (by rfl) (by go_simp; rfl) (by go_simp; rfl) (by go_simp) ?_
 refine eqf_cons (by rfl) (by go_simp; rfl) (by go_simp; rfl) (by go_simp) ?_
 exact eqf_last (by rfl) (by go_simp; rfl) (by go_simp; rfl) (by go_simp)
attribute [local go_sem high] eqB23
structure GetF (base : Nat) (ok : Nat → Prop) (w0 : World) (g : Nat) (cur : List S82) (Hs : World → Prop) (lo ga : Nat) (W : World) : Prop where
 js : JS base ok w0 g cur W
 hs : Hs W
 a : W.heap[ga]? = some (.cells #[.string ⟨#[]⟩, .string ⟨#[]⟩, .string ⟨#[]⟩, .string ⟨#[]⟩, .string ⟨#[]⟩] 23 (0, 0))
 k2 : w0.heap.size ≤ ga
 k3 : lo ≤ ga
theorem GetF.below {base : Nat} {ok : Nat → Prop} {w0 : World} {g : Nat} {cur : List S82} {Hs : World → Prop} {lo ga : Nat} {W W' : World} (h : GetF base ok w0 g cur Hs lo ga W) (hs' : Hs W') (hb : Below W.heap.size W W') : GetF base ok w0 g cur Hs lo ga W' := ⟨h.js.below hb, hs', blk_below h.a hb, h.k2, h.k3⟩
theorem GetF.new {base : Nat} {ok : Nat → Prop} {w0 : World} {g : Nat} {cur : List S82} {Hs : World → Prop} {lo : Nat} {W : World} (hj : JS base ok w0 g cur W) (hlo : lo ≤ W.heap.size) (hs' : Hs (W.alloc (.cells #[.string ⟨#[]⟩, .string ⟨#[]⟩, .string ⟨#[]⟩, .string ⟨#[]⟩, .string ⟨#[]⟩] 23))) : GetF base ok w0 g cur Hs lo W.heap.size (W.alloc (.cells #[.string ⟨#[]⟩, .string ⟨#[]⟩, .string ⟨#[]⟩, .string ⟨#[]⟩, .string ⟨#[]⟩] 23)) := ⟨hj.alloc _, hs', blk_new W _, hj.size0, hlo⟩
structure StoF (base : Nat) (ok : Nat → Prop) (w0 : World) (g : Nat) (cur : List S82) (Hs : World → Prop) (cs : Array Value) (ga : Nat) (W : World) : Prop where
 js : JS base ok w0 g cur W
 hs : Hs W
 a : W.heap[ga]? = some (.cells cs 23 (0, 0))
theorem GetF.sto {base : Nat} {ok : Nat → Prop} {w0 : World} {g : Nat} {cur : List S82} {Hs : World → Prop} {lo ga : Nat} {W : World} (h : GetF base ok w0 g cur Hs lo ga W) (v0 v1 v2 v3 v4 : Value) :
  JS base ok w0 g cur (((((W.setCell ⟨ga, 0, none⟩ v0).setCell ⟨ga, 1, none⟩ v1).setCell ⟨ga, 2, none⟩ v2).setCell ⟨ga, 3, none⟩ v3).setCell ⟨ga, 4, none⟩ v4) ∧ (((((W.setCell ⟨ga, 0, none⟩ v0).setCell ⟨ga, 1, none⟩ v1).setCell ⟨ga, 2, none⟩ v2).setCell ⟨ga, 3, none⟩ v3).setCell ⟨ga, 4, none⟩ v4).heap[ga]? = some (.cells #[v0, v1, v2, v3, v4] 23 (0, 0)) ∧
  ∀ (b : Nat) (cs : Array Value) (q : TypeId), b ≠ ga → W.heap[b]? = some (.cells cs q (0, 0)) → (((((W.setCell ⟨ga, 0, none⟩ v0).setCell ⟨ga, 1, none⟩ v1).setCell ⟨ga, 2, none⟩ v2).setCell ⟨ga, 3, none⟩ v3).setCell ⟨ga, 4, none⟩ v4).heap[b]? = some (.cells cs q (0, 0)) := by
 have b1 := blk_put h.a 0 v0 rfl
 have b2 := blk_put b1 1 v1 rfl
 have b3 := blk_put b2 2 v2 rfl
 have b4 := blk_put b3 3 v3 rfl
 have b5 := blk_put b4 4 v4 rfl
 exact ⟨JS.setb (q := 23) (JS.setb (q := 23) (JS.setb (q := 23) (JS.setb (q := 23) (JS.setb (q := 23) h.js h.k2 h.a _ (by decide)) h.k2 b1 _ (by decide)) h.k2 b2 _ (by decide)) h.k2 b3 _ (by decide)) h.k2 b4 _ (by decide), b5, fun b cs q hb ho => blk_far (blk_far (blk_far (blk_far (blk_far ho hb _) hb _) hb _) hb _) hb _⟩
theorem at_cell {w : World} {p : Addr} {v : Value} (_ : w.cell? p = some v) {F : World → Prop} (h : F w) : Aside0 (F w) := As_ h
def footbridgelaw23_TokenPlays.f (_l0 : List ByteArray) (_l1 : List S41) : Option Bool := some true
theorem footbridgelaw23_TokenPlays.calls (A0 : Option Addr) (c0 : Nat) (l0 : List ByteArray) (A1 : Option Addr) (c1 : Nat) (l1 : List S41) (r : Bool) (w : World) (hr0 : Kd.C Kd.string w A0 l0.length l0) (hc0 : l0.length ≤ c0) (hr1 : Kd.C k41 w A1 l1.length l1) (hc1 : l1.length ≤ c1) (h : footbridgelaw23_TokenPlays.f l0 l1 = some r) :
  Calls Tryz.prog 4 #[.slice A0 l0.length c0, .slice A1 l1.length c1] w fun e w' => e = .returned (.bool r) ∧ Below w.heap.size w w' := by
 obtain rfl : true = r := Option.some.inj h
 clear h
 by_cases hbig0 : 6 < (l0.length : Int)
 ·go_enter Tryz.func4, Tryz.ntmps4
  go_wp2_with fail
  refine (tkaw_calls w).mono ?_
  rintro e w' ⟨rfl, hb⟩
  go_wp2
  go_ret
  exact ⟨rfl, hb⟩
 by_cases hbig : 30 < (l1.length : Int)
 ·go_enter Tryz.func4, Tryz.ntmps4
  go_wp2_with fail
  refine (tkaw_calls w).mono ?_
  rintro e w' ⟨rfl, hb⟩
  go_wp2
  go_ret
  exact ⟨rfl, hb⟩
 have HR0 := As_ hr0
 have HR1 := As_ hr1
 clear hr0 hr1
 have hB00 := As_ (Below.refl w.heap.size w)
 go_enter Tryz.func4, Tryz.ntmps4
 go_wp2_with fail
 go_loopg [5] l0.length (fun gg si wx => ∃ j : Nat, si = .int .i64 (j : Int) ∧ j + gg = l0.length ∧ (∀ s ∈ l0.take j, s.size ≤ 600) ∧ Aside0 (Below w.heap.size w wx))
 case atStart => exact ⟨0, rfl, by omega, (fun s h => by simp at h), hB00⟩
 case round =>
  clear hB00
  obtain ⟨j, rfl, hj, hall, HL⟩ := hrel
  by_cases hlt : j < l0.length
  ·have p1 : (0 : Int) ≤ (j : Int) := by omega
   have q1 : (j : Int) < (l0.length : Int) := by omega
   obtain ⟨ad, e1, hx1⟩ := Kd.at_string HR0.out (j : Int) p1 q1
   subst e1
   replace hx1 := (HL.out.cell (World.block_lt_of_cell? _ _ hx1)).trans hx1
   rw [rdOf_get l0 j hlt] at hx1
   simp only [Int.toNat_natCast] at hx1
   have htk : l0.take (j + 1) = l0.take j ++ [l0[j]] := by rw [List.take_add_one, List.getElem?_eq_getElem hlt]; rfl
   generalize l0[j] = d at hx1 htk
   have AW := As_ (w_one j (by omega))
   have A3 := As_ hall
   clear hall
   by_cases hz : 600 < (d.size : Int)
   ·go_wp2_with fail
    refine (tkaw_calls _).mono ?_
    rintro e w' ⟨rfl, hb⟩
    have hfin := As_ (HL.out.trans (hb.mono HL.out.size))
    clear HL hb hx1
    go_wp2
    go_ret
    exact ⟨rfl, hfin.out⟩
   ·go_wp2
    go_roundg (l0.length - (j + 1))
    case measure => omega
    case rel => exact ⟨j + 1, ap4_, by omega, (by
     intro s hs2
     rw [htk] at hs2
     rcases List.mem_append.1 hs2 with hs2 | hs2
     ·exact A3.out s hs2
     ·obtain rfl := List.mem_singleton.1 hs2
      omega), HL⟩
  ·obtain rfl : j = l0.length := by omega
   rw [List.take_length] at hall
   go_wp2_with fail
   refine (tk_begin A0 c0 l0 (Kd.C_below HR0.out HL.out) hc0 (by omega) hall).mono ?_
   rintro e w1 ⟨g, v0, rfl, hj1, hb⟩
   have hnb := HL.out.size
   obtain ⟨n0, hn00⟩ : ∃ n, wr.heap.size = n := ⟨_, rfl⟩
   have hn0 : n0 ≤ w1.heap.size := by rw [← hn00]; exact hb.size
   have hnw : w.heap.size ≤ n0 := by rw [← hn00]; exact hnb
   have HB0 := As_ (HL.out.trans (hb.mono HL.out.size))
   rw [hn00] at hj1
   have J0 := As_ hj1
   have kb := (begK_KV l0).mono (show l0.length ≤ 6 by omega)
   have tb := TInv.beg l0
   clear hj1 hb HL hall hn00 hnb
   generalize begK l0 = S0 at J0 kb tb
   go_wp2_with fail
   go_loopg [7, 8] l1.length (fun gg s7 s8 wx => ∃ (j : Nat) (cur : List S82), s8 = .int .i64 j ∧ j + gg = l1.length ∧ KV (6 + 3 * j) cur ∧ TInv cur ∧ n0 ≤ wx.heap.size ∧ Aside0 (J1 n0 g cur s7 cur wx) ∧ Aside0 (Below w.heap.size w wx))
   case atStart => exact ⟨0, S0, rfl, by omega, kb, tb, hn0, J0, HB0⟩
   case round =>
    clear J0 HB0 hn0 kb tb
    obtain ⟨j, cur, rfl, hj, hkv, hti, hnr, JLr, HBr⟩ := hrel
    by_cases hlt : j < l1.length
    ·have hx0 : (0 : Int) ≤ ((j : Nat) : Int) := by omega
     have hkl : ((j : Nat) : Int) < (l1.length : Int) := by omega
     obtain ⟨ad, e1, zw0, zw1, zw2, zw3, zw4, zw5, zw6⟩ := at_T41 HR1.out ((j : Nat) : Int) hx0 hkl
     subst e1
     generalize rd_T41 l1 (j : Int) = d at zw0 zw1 zw2 zw3 zw4 zw5 zw6
     rw [Int.toNat_natCast] at zw0 zw1 zw2 zw3 zw4 zw5 zw6
     have z0 := (HBr.out.cell (World.block_lt_of_cell? _ _ zw0)).trans zw0
     have z1 := (HBr.out.cell (World.block_lt_of_cell? _ _ zw1)).trans zw1
     have z2 := (HBr.out.cell (World.block_lt_of_cell? _ _ zw2)).trans zw2
     have z3 := (HBr.out.cell (World.block_lt_of_cell? _ _ zw3)).trans zw3
     have z4 := (HBr.out.cell (World.block_lt_of_cell? _ _ zw4)).trans zw4
     have z5 := (HBr.out.cell (World.block_lt_of_cell? _ _ zw5)).trans zw5
     have z6 := (HBr.out.cell (World.block_lt_of_cell? _ _ zw6)).trans zw6
     have AW := As_ (w_one j (by omega))
     obtain ⟨fw, hfw, hfs⟩ := few23_all d.f0 d.f1.f0 d.f1.f1 d.f1.f2 d.f1.f3 d.f1.f4 d.f2
     go_wp2_with fail
     refine (footbridgelaw23_few.calls d.f0 d.f1.f0 d.f1.f1 d.f1.f2 d.f1.f3 d.f1.f4 d.f2 fw _ hfw).mono ?_
     rintro e w2 ⟨rfl, hb⟩
     have J2 := As_ (JLr.out.below hb)
     have HB2 := As_ (HBr.out.trans (hb.mono HBr.out.size))
     have hn2 := Nat.le_trans hnr hb.size
     clear JLr HBr hb hnr z0 z1 z2 z3 z4 z5 z6 hfw
     cases fw with
     | false =>
      go_wp2
      go_roundg (l1.length - (j + 1))
      case measure => omega
      case rel => exact ⟨j + 1, cur, ap4_, by omega, hkv.mono (by omega), hti, hn2, J2, HB2⟩
     | true =>
      obtain ⟨q1, q2, q3, q4, q5, q6⟩ := hfs (by first | rfl | trivial)
      have hkv9 := hkv.mono (show 6 + 3 * j ≤ 900 by omega)
      have hkvn := tkDo_KV hkv d.f0 d.f1.f0 d.f1.f1 d.f1.f2 d.f1.f3 d.f1.f4 d.f2
      have htn := hti.did hkv.so d.f0 d.f1.f0 d.f1.f1 d.f1.f2 d.f1.f3 d.f1.f4 d.f2 (by omega) (by omega) (by omega)
      obtain ⟨cur', hcur'⟩ : ∃ c, tkDo cur d.f0 d.f1.f0 d.f1.f1 d.f1.f2 d.f1.f3 d.f1.f4 d.f2 = c := ⟨_, rfl⟩
      obtain ⟨E, hE⟩ : ∃ c, tkDoE cur d.f0 d.f1.f0 d.f1.f1 d.f1.f2 d.f1.f3 d.f1.f4 d.f2 = c := ⟨_, rfl⟩
      rw [hcur'] at hkvn htn
      have hkvn3 := hkvn.mono (show 6 + 3 * j + 3 ≤ 1000 by omega)
      have hkvn6 := hkvn.mono (show 6 + 3 * j + 3 ≤ 1000000 by omega)
      obtain ⟨x0, x1, x2, x3, x4, x5, hg⟩ : ∃ a0 a1 a2 a3 a4 a5, tkGet cur' d.f1.f0 d.f1.f1 = (a0, a1, a2, a3, a4, a5) := ⟨_, _, _, _, _, _, rfl⟩
      obtain ⟨N, hN⟩ : ∃ z, numK cur' (tkSup d.f1.f0) = z := ⟨_, rfl⟩
      obtain ⟨K1, hK1⟩ := ref23Get_ev cur' d.f1.f0 d.f1.f1 hkvn3 (by omega) (by omega)
      obtain ⟨K2, hK2⟩ := ref22Supply_ev cur' d.f1.f0 hkvn3 (by omega)
      rw [hg] at hK1
      rw [hN] at hK2
      obtain ⟨ok, hlt2, hm2, hv2⟩ := id J2.out
      obtain ⟨A4, c4, rfl, hc4, _⟩ := id hv2
      have hD := tkdo_calls n0 g ok cur cur' A4 c4 d.f0 d.f1.f0 d.f1.f1 d.f1.f2 d.f1.f3 d.f1.f4 d.f2 E hm2 (fun k hk => (hlt2 k hk).2) hn2 hv2 hkv9 hti q1 q2 q3 q4 q5 q6 hE hcur'
      have z0 := (HB2.out.cell (World.block_lt_of_cell? _ _ zw0)).trans zw0
      have z1 := (HB2.out.cell (World.block_lt_of_cell? _ _ zw1)).trans zw1
      have z2 := (HB2.out.cell (World.block_lt_of_cell? _ _ zw2)).trans zw2
      have z3 := (HB2.out.cell (World.block_lt_of_cell? _ _ zw3)).trans zw3
      have z4 := (HB2.out.cell (World.block_lt_of_cell? _ _ zw4)).trans zw4
      have z5 := (HB2.out.cell (World.block_lt_of_cell? _ _ zw5)).trans zw5
      have z6 := (HB2.out.cell (World.block_lt_of_cell? _ _ zw6)).trans zw6
      clear hm2 hv2 J2 hcur' hE hti hfs
      go_wp2_with fail
      refine hD.mono ?_
      rintro e w4 ⟨v3, w3, rfl, hb3, hjs, hv3⟩
      have HV := As_ hv3
      have hok : ∀ k, ok k → n0 ≤ k := fun k hk => (hlt2 k hk).1
      have hokw : ∀ k, ok k → w.heap.size ≤ k := fun k hk => Nat.le_trans hnw (hok k hk)
      have HB3 := As_ (HB2.out.trans (hb3.mono HB2.out.size))
      have hn3 := Nat.le_trans hn2 hb3.size
      have hnw3 := Nat.le_trans hnw hn3
      have HJ0 := As_ hjs
      obtain ⟨A3, c3, rfl, hc3, _⟩ := id HV.out
      have hB4 := HJ0.out.old HB3.out hnw3 hokw
      have p1 := (hB4.cell (World.block_lt_of_cell? _ _ zw1)).trans zw1
      have p2 := (hB4.cell (World.block_lt_of_cell? _ _ zw2)).trans zw2
      have AL := As_ hkvn.len
      clear hD hv3 hjs hb3 hB4 hlt2 HB2 hn2 z0 z1 z2 z3 z4 z5 z6 hkv9 hkvn3
      as_aux_lemma =>
       go_upto_region 17 with (fail)
       refine start_ (n := 20) (S := fun w' => w'.cell? ⟨(ad.add (j * 7)).block, (ad.add (j * 7)).off + 1, none⟩ = some (.string d.f1.f0) ∧ w'.cell? ⟨(ad.add (j * 7)).block, (ad.add (j * 7)).off + 2, none⟩ = some (.string d.f1.f1)) (ds := []) #[false, false, false, false, false, false, false, false, false, false, false, false, false, false, false, false, false, false, false, false] (by kernel_rfl) rfl rfl ⟨p1, p2⟩ (fun hHeld => ?_)
       have HJ := As_ (HJ0.out.below (below_drew (Below.refl _ _)))
       clear HJ0 p1 p2
       generalize hwd : World.drew _ = w517 at hHeld HJ ⊢
       clear hwd
       have hlo : w517.heap.size ≤ w517.heap.size := Nat.le_refl _
       obtain ⟨lo17, hlo17⟩ : ∃ z, w517.heap.size = z := ⟨_, rfl⟩
       replace hlo : lo17 ≤ w517.heap.size := by omega
       clear hlo17
       refine pure_ (i := 0) (N := some 68) #[true, false, false, false, false, false, false, false, false, false, false, false, false, false, false, false, false, false, false, false] rfl rfl (by kernel_rfl) (fun _ _ _ h => h) (Or.inl ⟨by rfl, ap2_⟩) ap35_ ?_
       refine pure_ (i := 1) (N := some 69) #[true, true, false, false, false, false, false, false, false, false, false, false, false, false, false, false, false, false, false, false] rfl rfl (by kernel_rfl) (fun _ _ _ h => h) (Or.inl ⟨by rfl, ap2_⟩) ap35_ ?_
       refine pure_ (i := 2) (N := some 70) #[true, true, true, false, false, false, false, false, false, false, false, false, false, false, false, false, false, false, false, false] rfl rfl (by kernel_rfl) (fun _ _ _ h => h) (Or.inl ⟨by rfl, ap2_⟩) ap35_ ?_
       refine pure_ (i := 3) (N := some 71) #[true, true, true, true, false, false, false, false, false, false, false, false, false, false, false, false, false, false, false, false] rfl rfl (by kernel_rfl) (fun _ _ _ h => h) (Or.inl ⟨by rfl, ap2_⟩) ap35_ ?_
       refine pure_ (i := 4) (N := some 72) #[true, true, true, true, true, false, false, false, false, false, false, false, false, false, false, false, false, false, false, false] rfl rfl (by kernel_rfl) (fun _ _ _ h => h) (Or.inl ⟨by rfl, ap2_⟩) ap35_ ?_
       refine pure_ (i := 5) (N := some 73) #[true, true, true, true, true, true, false, false, false, false, false, false, false, false, false, false, false, false, false, false] rfl rfl (by kernel_rfl) (fun _ _ _ h => h) (Or.inl ⟨by rfl, ap2_⟩) ap35_ ?_
       refine take_ (i := 6) (N := some 74) #[true, true, true, true, true, true, true, false, false, false, false, false, false, false, false, false, false, false, false, false] rfl rfl (by kernel_rfl) (fun _ _ _ h => h) (Or.inl ⟨by rfl, (by rintro w' ⟨s1, s2⟩; have s2b : w'.cell? ⟨(ad.add (j * 7)).block, (ad.add (j * 7)).off + 1 + 1, none⟩ = some (.string d.f1.f1) := s2; go_simp; with_reducible rfl)⟩) hHeld ap35_ ?_
       refine pure_ (i := 7) (N := some 75) #[true, true, true, true, true, true, true, true, false, false, false, false, false, false, false, false, false, false, false, false] rfl rfl (by kernel_rfl) (fun _ _ _ h => h) (Or.inl ⟨by rfl, ap2_⟩) ap35_ ?_
       refine pure_ (i := 8) (N := some 76) #[true, true, true, true, true, true, true, true, true, false, false, false, false, false, false, false, false, false, false, false] rfl rfl (by kernel_rfl) (fun _ _ _ h => h) (Or.inl ⟨by rfl, ap2_⟩) ap35_ ?_
       refine pure_ (i := 9) (N := some 77) #[true, true, true, true, true, true, true, true, true, true, false, false, false, false, false, false, false, false, false, false] rfl rfl (by kernel_rfl) (fun _ _ _ h => h) (Or.inl ⟨by rfl, ap2_⟩) ap35_ ?_
       refine pure_ (i := 10) (N := some 78) #[true, true, true, true, true, true, true, true, true, true, true, false, false, false, false, false, false, false, false, false] rfl rfl (by kernel_rfl) (fun _ _ _ h => h) (Or.inl ⟨by rfl, ap2_⟩) ap35_ ?_
       refine pure_ (i := 11) (N := some 79) #[true, true, true, true, true, true, true, true, true, true, true, true, false, false, false, false, false, false, false, false] rfl rfl (by kernel_rfl) (fun _ _ _ h => h) (Or.inl ⟨by rfl, ap2_⟩) ap35_ ?_
       refine take_ (i := 12) (N := some 80) #[true, true, true, true, true, true, true, true, true, true, true, true, true, false, false, false, false, false, false, false] rfl rfl (by kernel_rfl) (fun _ _ _ h => h) (Or.inl ⟨by rfl, (by rintro w' ⟨s1, s2⟩; have s2b : w'.cell? ⟨(ad.add (j * 7)).block, (ad.add (j * 7)).off + 1 + 1, none⟩ = some (.string d.f1.f1) := s2; go_simp; with_reducible rfl)⟩) hHeld ap35_ ?_
       refine join_ (σ := Nat) 1 #[true, true, true, true, true, true, true, true, true, true, true, true, true, true, true, true, true, true, true, false] (fun s => [(81, .tuple #[.agg #[.string x0, .string x1, .string x2, .string x3, .string x4], .int .i64 x5]), (67, .tuple #[.agg #[.string x0, .string x1, .string x2, .string x3, .string x4], .int .i64 x5]), (82, .agg #[.string x0, .string x1, .string x2, .string x3, .string x4]), (83, .int .i64 x5), (11, .pointer (some ⟨s, 0, none⟩))]) (fun s W' => StoF n0 ok w3 g cur' (fun w' => w'.cell? ⟨(ad.add (j * 7)).block, (ad.add (j * 7)).off + 1, none⟩ = some (.string d.f1.f0) ∧ w'.cell? ⟨(ad.add (j * 7)).block, (ad.add (j * 7)).off + 2, none⟩ = some (.string d.f1.f1)) #[.string x0, .string x1, .string x2, .string x3, .string x4] s W') ?_ ?_
       rotate_left
       ·intro hCont
        refine two_ (i := 13) (j := 17) (Ni := some 81) (Nj := some 11) #[true, true, true, true, true, true, true, true, true, true, true, true, true, true, false, false, false, false, false, false] #[true, true, true, true, true, true, true, true, true, true, true, true, true, false, false, false, false, true, false, false] rfl rfl rfl rfl (by kernel_rfl) (by decide) (by decide) (fun K hK => ?_) (fun K hK => ?_)
        ·skip
         refine goes_ Tryz.func6 (by kernel_rfl) rfl #[.pointer (some ⟨g, 0, none⟩), .string d.f1.f0, .string d.f1.f1] (by rfl) rfl rfl ap16_ ?_
         refine (tk_get d.f1.f0 d.f1.f1 x0 x1 x2 x3 x4 x5 HJ.out hkvn6 (by omega) (by omega) hg).mono ?_
         rintro e w6_17 ⟨rfl, hb⟩
         refine ⟨_, rfl, ?_⟩
         have hHn : w6_17.cell? ⟨(ad.add (j * 7)).block, (ad.add (j * 7)).off + 1, none⟩ = some (.string d.f1.f0) ∧ w6_17.cell? ⟨(ad.add (j * 7)).block, (ad.add (j * 7)).off + 2, none⟩ = some (.string d.f1.f1) := ⟨((hb).cell (World.block_lt_of_cell? _ _ (hHeld.1))).trans (hHeld.1), ((hb).cell (World.block_lt_of_cell? _ _ (hHeld.2))).trans (hHeld.2)⟩
         have n_HJ := As_ (HJ.out.below hb)
         replace hlo := Nat.le_trans hlo hb.size
         clear HJ hb
         have HJ := n_HJ
         clear n_HJ
         refine hK.out _ _ hHn (fun hHeld => ?_)
         clear hK K hHn
         refine norm_ (a' := ?_) ?_ ?_
         rotate_left
         ·show Act.put _ (some 81) _ = _
          simp only [Act.put, List.setIfInBounds_toArray, List.set_cons_zero, List.set_cons_succ, i64_w, i32_w]
          rfl
         refine pure_ (i := 14) (N := some 67) #[true, true, true, true, true, true, true, true, true, true, true, true, true, true, true, false, false, false, false, false] rfl rfl (by kernel_rfl) (fun _ _ _ h => h) (Or.inl ⟨by rfl, ap2_⟩) ap35_ ?_
         refine pure_ (i := 15) (N := some 82) #[true, true, true, true, true, true, true, true, true, true, true, true, true, true, true, true, false, false, false, false] rfl rfl (by kernel_rfl) (fun _ _ _ h => h) (Or.inl ⟨by rfl, ap2_⟩) ap35_ ?_
         refine two_ (i := 16) (j := 17) (Ni := some 83) (Nj := some 11) #[true, true, true, true, true, true, true, true, true, true, true, true, true, true, true, true, true, false, false, false] #[true, true, true, true, true, true, true, true, true, true, true, true, true, true, true, true, false, true, false, false] rfl rfl rfl rfl (by kernel_rfl) (by decide) (by decide) (fun K hK => ?_) (fun K hK => ?_)
         ·skip
          refine value_ (w1 := ?_) (v := ?_) (by rfl) rfl ?_ ?_
          rotate_left 2
          ·go_simp
           constructor
           ·rfl
           ·rfl
          refine hK.out _ _ hHeld (fun hHeld => ?_)
          clear hK K
          refine norm_ (a' := ?_) ?_ ?_
          rotate_left
          ·show Act.put _ (some 83) _ = _
           simp only [Act.put, List.setIfInBounds_toArray, List.set_cons_zero, List.set_cons_succ, i64_w, i32_w]
           rfl
          refine one_ (i := 17) (N := some 11) #[true, true, true, true, true, true, true, true, true, true, true, true, true, true, true, true, true, true, false, false] rfl rfl (by kernel_rfl) (by decide) (fun K hK => ?_)
          refine value_ (w1 := ?_) (v := ?_) (by rfl) rfl ?_ ?_
          rotate_left 2
          ·go_simp
           constructor
           ·rfl
           ·rfl
          have HF := As_ (GetF.new (Hs := fun w' => w'.cell? ⟨(ad.add (j * 7)).block, (ad.add (j * 7)).off + 1, none⟩ = some (.string d.f1.f0) ∧ w'.cell? ⟨(ad.add (j * 7)).block, (ad.add (j * 7)).off + 2, none⟩ = some (.string d.f1.f1)) HJ.out hlo ⟨((below_alloc (Below.refl _ _) (.cells #[.string ⟨#[]⟩, .string ⟨#[]⟩, .string ⟨#[]⟩, .string ⟨#[]⟩, .string ⟨#[]⟩] 23)).cell (World.block_lt_of_cell? _ _ (hHeld.1))).trans (hHeld.1), ((below_alloc (Below.refl _ _) (.cells #[.string ⟨#[]⟩, .string ⟨#[]⟩, .string ⟨#[]⟩, .string ⟨#[]⟩, .string ⟨#[]⟩] 23)).cell (World.block_lt_of_cell? _ _ (hHeld.2))).trans (hHeld.2)⟩)
          refine hK.out _ _ HF.out.hs (fun hHeld => ?_)
          clear hK K
          generalize hwa : World.alloc _ _ = wA17 at HF hHeld ⊢
          clear hwa
          refine norm_ (a' := ?_) ?_ ?_
          rotate_left
          ·show Act.put _ (some 11) _ = _
           simp only [Act.put, List.setIfInBounds_toArray, List.set_cons_zero, List.set_cons_succ, i64_w, i32_w]
           rfl
          refine one_ (i := 18) (N := none) #[true, true, true, true, true, true, true, true, true, true, true, true, true, true, true, true, true, true, true, false] rfl rfl (by kernel_rfl) (by decide) (fun K hK => ?_)
          have a0 := (blk_cell HF.out.a 0).trans (show _ = some (.string ⟨#[]⟩) from rfl)
          have b0 := blk_frozen HF.out.a 0
          have a1 := (blk_cell HF.out.a 1).trans (show _ = some (.string ⟨#[]⟩) from rfl)
          have b1 := blk_frozen HF.out.a 1
          have a2 := (blk_cell HF.out.a 2).trans (show _ = some (.string ⟨#[]⟩) from rfl)
          have b2 := blk_frozen HF.out.a 2
          have a3 := (blk_cell HF.out.a 3).trans (show _ = some (.string ⟨#[]⟩) from rfl)
          have b3 := blk_frozen HF.out.a 3
          have a4 := (blk_cell HF.out.a 4).trans (show _ = some (.string ⟨#[]⟩) from rfl)
          have b4 := blk_frozen HF.out.a 4
          refine skip_ (w1 := ?_) (by rfl) rfl ?_ ?_
          rotate_left
          ·go_simp
           rfl
          clear a0 a1 a2 a3 a4 b0 b1 b2 b3 b4
          refine hK.out _ _ ?_ (fun hHeld => ?_)
          ·refine ⟨?_, ?_⟩
           ·refine Eq.trans (Below.cell (JS.old (n := n0) (ok := ok) (w0 := w3) (g := g) (cur := cur') ?_ HB3.out hnw3 hokw) (World.block_lt_of_cell? _ _ zw1)) zw1
            exact (GetF.sto HF.out _ _ _ _ _).1
           ·refine Eq.trans (Below.cell (JS.old (n := n0) (ok := ok) (w0 := w3) (g := g) (cur := cur') ?_ HB3.out hnw3 hokw) (World.block_lt_of_cell? _ _ zw2)) zw2
            exact (GetF.sto HF.out _ _ _ _ _).1
          clear hK K
          refine (fun (HS9 : Aside0 (StoF n0 ok w3 g cur' (fun w' => w'.cell? ⟨(ad.add (j * 7)).block, (ad.add (j * 7)).off + 1, none⟩ = some (.string d.f1.f0) ∧ w'.cell? ⟨(ad.add (j * 7)).block, (ad.add (j * 7)).off + 2, none⟩ = some (.string d.f1.f1)) #[.string x0, .string x1, .string x2, .string x3, .string x4] w6_17.heap.size _)) => ?_) (at_cell hHeld.1 ?_)
          rotate_left
          ·refine ⟨?_, hHeld, ?_⟩
           ·exact (GetF.sto HF.out _ _ _ _ _).1
           ·exact (GetF.sto HF.out _ _ _ _ _).2.1
          exact norm_ ap78_ (hCont _ _ HS9.out)
         ·skip
          refine value_ (w1 := ?_) (v := ?_) (by rfl) rfl ?_ ?_
          rotate_left 2
          ·go_simp
           constructor
           ·rfl
           ·rfl
          have HF := As_ (GetF.new (Hs := fun w' => w'.cell? ⟨(ad.add (j * 7)).block, (ad.add (j * 7)).off + 1, none⟩ = some (.string d.f1.f0) ∧ w'.cell? ⟨(ad.add (j * 7)).block, (ad.add (j * 7)).off + 2, none⟩ = some (.string d.f1.f1)) HJ.out hlo ⟨((below_alloc (Below.refl _ _) (.cells #[.string ⟨#[]⟩, .string ⟨#[]⟩, .string ⟨#[]⟩, .string ⟨#[]⟩, .string ⟨#[]⟩] 23)).cell (World.block_lt_of_cell? _ _ (hHeld.1))).trans (hHeld.1), ((below_alloc (Below.refl _ _) (.cells #[.string ⟨#[]⟩, .string ⟨#[]⟩, .string ⟨#[]⟩, .string ⟨#[]⟩, .string ⟨#[]⟩] 23)).cell (World.block_lt_of_cell? _ _ (hHeld.2))).trans (hHeld.2)⟩)
          refine hK.out _ _ HF.out.hs (fun hHeld => ?_)
          clear hK K
          generalize hwa : World.alloc _ _ = wA17 at HF hHeld ⊢
          clear hwa
          refine norm_ (a' := ?_) ?_ ?_
          rotate_left
          ·show Act.put _ (some 11) _ = _
           simp only [Act.put, List.setIfInBounds_toArray, List.set_cons_zero, List.set_cons_succ, i64_w, i32_w]
           rfl
          refine two_ (i := 16) (j := 18) (Ni := some 83) (Nj := none) #[true, true, true, true, true, true, true, true, true, true, true, true, true, true, true, true, true, true, false, false] #[true, true, true, true, true, true, true, true, true, true, true, true, true, true, true, true, false, true, true, false] rfl rfl rfl rfl (by kernel_rfl) (by decide) (by decide) (fun K hK => ?_) (fun K hK => ?_)
          ·skip
           refine value_ (w1 := ?_) (v := ?_) (by rfl) rfl ?_ ?_
           rotate_left 2
           ·go_simp
            constructor
            ·rfl
            ·rfl
           refine hK.out _ _ hHeld (fun hHeld => ?_)
           clear hK K
           refine norm_ (a' := ?_) ?_ ?_
           rotate_left
           ·show Act.put _ (some 83) _ = _
            simp only [Act.put, List.setIfInBounds_toArray, List.set_cons_zero, List.set_cons_succ, i64_w, i32_w]
            rfl
           refine one_ (i := 18) (N := none) #[true, true, true, true, true, true, true, true, true, true, true, true, true, true, true, true, true, true, true, false] rfl rfl (by kernel_rfl) (by decide) (fun K hK => ?_)
           have a0 := (blk_cell HF.out.a 0).trans (show _ = some (.string ⟨#[]⟩) from rfl)
           have b0 := blk_frozen HF.out.a 0
           have a1 := (blk_cell HF.out.a 1).trans (show _ = some (.string ⟨#[]⟩) from rfl)
           have b1 := blk_frozen HF.out.a 1
           have a2 := (blk_cell HF.out.a 2).trans (show _ = some (.string ⟨#[]⟩) from rfl)
           have b2 := blk_frozen HF.out.a 2
           have a3 := (blk_cell HF.out.a 3).trans (show _ = some (.string ⟨#[]⟩) from rfl)
           have b3 := blk_frozen HF.out.a 3
           have a4 := (blk_cell HF.out.a 4).trans (show _ = some (.string ⟨#[]⟩) from rfl)
           have b4 := blk_frozen HF.out.a 4
           refine skip_ (w1 := ?_) (by rfl) rfl ?_ ?_
           rotate_left
           ·go_simp
            rfl
           clear a0 a1 a2 a3 a4 b0 b1 b2 b3 b4
           refine hK.out _ _ ?_ (fun hHeld => ?_)
           ·refine ⟨?_, ?_⟩
            ·refine Eq.trans (Below.cell (JS.old (n := n0) (ok := ok) (w0 := w3) (g := g) (cur := cur') ?_ HB3.out hnw3 hokw) (World.block_lt_of_cell? _ _ zw1)) zw1
             exact (GetF.sto HF.out _ _ _ _ _).1
            ·refine Eq.trans (Below.cell (JS.old (n := n0) (ok := ok) (w0 := w3) (g := g) (cur := cur') ?_ HB3.out hnw3 hokw) (World.block_lt_of_cell? _ _ zw2)) zw2
             exact (GetF.sto HF.out _ _ _ _ _).1
           clear hK K
           refine (fun (HS9 : Aside0 (StoF n0 ok w3 g cur' (fun w' => w'.cell? ⟨(ad.add (j * 7)).block, (ad.add (j * 7)).off + 1, none⟩ = some (.string d.f1.f0) ∧ w'.cell? ⟨(ad.add (j * 7)).block, (ad.add (j * 7)).off + 2, none⟩ = some (.string d.f1.f1)) #[.string x0, .string x1, .string x2, .string x3, .string x4] w6_17.heap.size _)) => ?_) (at_cell hHeld.1 ?_)
           rotate_left
           ·refine ⟨?_, hHeld, ?_⟩
            ·exact (GetF.sto HF.out _ _ _ _ _).1
            ·exact (GetF.sto HF.out _ _ _ _ _).2.1
           exact norm_ ap78_ (hCont _ _ HS9.out)
          ·skip
           have a0 := (blk_cell HF.out.a 0).trans (show _ = some (.string ⟨#[]⟩) from rfl)
           have b0 := blk_frozen HF.out.a 0
           have a1 := (blk_cell HF.out.a 1).trans (show _ = some (.string ⟨#[]⟩) from rfl)
           have b1 := blk_frozen HF.out.a 1
           have a2 := (blk_cell HF.out.a 2).trans (show _ = some (.string ⟨#[]⟩) from rfl)
           have b2 := blk_frozen HF.out.a 2
           have a3 := (blk_cell HF.out.a 3).trans (show _ = some (.string ⟨#[]⟩) from rfl)
           have b3 := blk_frozen HF.out.a 3
           have a4 := (blk_cell HF.out.a 4).trans (show _ = some (.string ⟨#[]⟩) from rfl)
           have b4 := blk_frozen HF.out.a 4
           refine skip_ (w1 := ?_) (by rfl) rfl ?_ ?_
           rotate_left
           ·go_simp
            rfl
           clear a0 a1 a2 a3 a4 b0 b1 b2 b3 b4
           refine hK.out _ _ ?_ (fun hHeld => ?_)
           ·refine ⟨?_, ?_⟩
            ·refine Eq.trans (Below.cell (JS.old (n := n0) (ok := ok) (w0 := w3) (g := g) (cur := cur') ?_ HB3.out hnw3 hokw) (World.block_lt_of_cell? _ _ zw1)) zw1
             exact (GetF.sto HF.out _ _ _ _ _).1
            ·refine Eq.trans (Below.cell (JS.old (n := n0) (ok := ok) (w0 := w3) (g := g) (cur := cur') ?_ HB3.out hnw3 hokw) (World.block_lt_of_cell? _ _ zw2)) zw2
             exact (GetF.sto HF.out _ _ _ _ _).1
           clear hK K
           refine (fun (HS9 : Aside0 (StoF n0 ok w3 g cur' (fun w' => w'.cell? ⟨(ad.add (j * 7)).block, (ad.add (j * 7)).off + 1, none⟩ = some (.string d.f1.f0) ∧ w'.cell? ⟨(ad.add (j * 7)).block, (ad.add (j * 7)).off + 2, none⟩ = some (.string d.f1.f1)) #[.string x0, .string x1, .string x2, .string x3, .string x4] w6_17.heap.size _)) => ?_) (at_cell hHeld.1 ?_)
           rotate_left
           ·refine ⟨?_, hHeld, ?_⟩
            ·exact (GetF.sto HF.out _ _ _ _ _).1
            ·exact (GetF.sto HF.out _ _ _ _ _).2.1
           refine one_ (i := 16) (N := some 83) #[true, true, true, true, true, true, true, true, true, true, true, true, true, true, true, true, true, true, true, false] rfl rfl (by kernel_rfl) (by decide) (fun K hK => ?_)
           refine value_ (w1 := ?_) (v := ?_) (by rfl) rfl ?_ ?_
           rotate_left 2
           ·go_simp
            constructor
            ·rfl
            ·rfl
           refine hK.out _ _ hHeld (fun hHeld => ?_)
           clear hK K
           refine norm_ (a' := ?_) ?_ ?_
           rotate_left
           ·show Act.put _ (some 83) _ = _
            simp only [Act.put, List.setIfInBounds_toArray, List.set_cons_zero, List.set_cons_succ, i64_w, i32_w]
            rfl
           exact norm_ ap78_ (hCont _ _ HS9.out)
        ·skip
         refine value_ (w1 := ?_) (v := ?_) (by rfl) rfl ?_ ?_
         rotate_left 2
         ·go_simp
          constructor
          ·rfl
          ·rfl
         have HF := As_ (GetF.new (Hs := fun w' => w'.cell? ⟨(ad.add (j * 7)).block, (ad.add (j * 7)).off + 1, none⟩ = some (.string d.f1.f0) ∧ w'.cell? ⟨(ad.add (j * 7)).block, (ad.add (j * 7)).off + 2, none⟩ = some (.string d.f1.f1)) HJ.out hlo ⟨((below_alloc (Below.refl _ _) (.cells #[.string ⟨#[]⟩, .string ⟨#[]⟩, .string ⟨#[]⟩, .string ⟨#[]⟩, .string ⟨#[]⟩] 23)).cell (World.block_lt_of_cell? _ _ (hHeld.1))).trans (hHeld.1), ((below_alloc (Below.refl _ _) (.cells #[.string ⟨#[]⟩, .string ⟨#[]⟩, .string ⟨#[]⟩, .string ⟨#[]⟩, .string ⟨#[]⟩] 23)).cell (World.block_lt_of_cell? _ _ (hHeld.2))).trans (hHeld.2)⟩)
         refine hK.out _ _ HF.out.hs (fun hHeld => ?_)
         clear hK K
         generalize hwa : World.alloc _ _ = wA17 at HF hHeld ⊢
         clear hwa
         refine norm_ (a' := ?_) ?_ ?_
         rotate_left
         ·show Act.put _ (some 11) _ = _
          simp only [Act.put, List.setIfInBounds_toArray, List.set_cons_zero, List.set_cons_succ, i64_w, i32_w]
          rfl
         refine one_ (i := 13) (N := some 81) #[true, true, true, true, true, true, true, true, true, true, true, true, true, true, false, false, false, true, false, false] rfl rfl (by kernel_rfl) (by decide) (fun K hK => ?_)
         refine goes_ Tryz.func6 (by kernel_rfl) rfl #[.pointer (some ⟨g, 0, none⟩), .string d.f1.f0, .string d.f1.f1] (by rfl) rfl rfl ap16_ ?_
         refine (tk_get d.f1.f0 d.f1.f1 x0 x1 x2 x3 x4 x5 HF.out.js hkvn6 (by omega) (by omega) hg).mono ?_
         rintro e w6_17 ⟨rfl, hb⟩
         refine ⟨_, rfl, ?_⟩
         have hHn : w6_17.cell? ⟨(ad.add (j * 7)).block, (ad.add (j * 7)).off + 1, none⟩ = some (.string d.f1.f0) ∧ w6_17.cell? ⟨(ad.add (j * 7)).block, (ad.add (j * 7)).off + 2, none⟩ = some (.string d.f1.f1) := ⟨((hb).cell (World.block_lt_of_cell? _ _ (hHeld.1))).trans (hHeld.1), ((hb).cell (World.block_lt_of_cell? _ _ (hHeld.2))).trans (hHeld.2)⟩
         have n_HF := As_ (HF.out.below hHn hb)
         clear HF hb
         have HF := n_HF
         clear n_HF
         refine hK.out _ _ hHn (fun hHeld => ?_)
         clear hK K hHn
         refine norm_ (a' := ?_) ?_ ?_
         rotate_left
         ·show Act.put _ (some 81) _ = _
          simp only [Act.put, List.setIfInBounds_toArray, List.set_cons_zero, List.set_cons_succ, i64_w, i32_w]
          rfl
         refine pure_ (i := 14) (N := some 67) #[true, true, true, true, true, true, true, true, true, true, true, true, true, true, true, false, false, true, false, false] rfl rfl (by kernel_rfl) (fun _ _ _ h => h) (Or.inl ⟨by rfl, ap2_⟩) ap35_ ?_
         refine pure_ (i := 15) (N := some 82) #[true, true, true, true, true, true, true, true, true, true, true, true, true, true, true, true, false, true, false, false] rfl rfl (by kernel_rfl) (fun _ _ _ h => h) (Or.inl ⟨by rfl, ap2_⟩) ap35_ ?_
         refine two_ (i := 16) (j := 18) (Ni := some 83) (Nj := none) #[true, true, true, true, true, true, true, true, true, true, true, true, true, true, true, true, true, true, false, false] #[true, true, true, true, true, true, true, true, true, true, true, true, true, true, true, true, false, true, true, false] rfl rfl rfl rfl (by kernel_rfl) (by decide) (by decide) (fun K hK => ?_) (fun K hK => ?_)
         ·skip
          refine value_ (w1 := ?_) (v := ?_) (by rfl) rfl ?_ ?_
          rotate_left 2
          ·go_simp
           constructor
           ·rfl
           ·rfl
          refine hK.out _ _ hHeld (fun hHeld => ?_)
          clear hK K
          refine norm_ (a' := ?_) ?_ ?_
          rotate_left
          ·show Act.put _ (some 83) _ = _
           simp only [Act.put, List.setIfInBounds_toArray, List.set_cons_zero, List.set_cons_succ, i64_w, i32_w]
           rfl
          refine one_ (i := 18) (N := none) #[true, true, true, true, true, true, true, true, true, true, true, true, true, true, true, true, true, true, true, false] rfl rfl (by kernel_rfl) (by decide) (fun K hK => ?_)
          have a0 := (blk_cell HF.out.a 0).trans (show _ = some (.string ⟨#[]⟩) from rfl)
          have b0 := blk_frozen HF.out.a 0
          have a1 := (blk_cell HF.out.a 1).trans (show _ = some (.string ⟨#[]⟩) from rfl)
          have b1 := blk_frozen HF.out.a 1
          have a2 := (blk_cell HF.out.a 2).trans (show _ = some (.string ⟨#[]⟩) from rfl)
          have b2 := blk_frozen HF.out.a 2
          have a3 := (blk_cell HF.out.a 3).trans (show _ = some (.string ⟨#[]⟩) from rfl)
          have b3 := blk_frozen HF.out.a 3
          have a4 := (blk_cell HF.out.a 4).trans (show _ = some (.string ⟨#[]⟩) from rfl)
          have b4 := blk_frozen HF.out.a 4
          refine skip_ (w1 := ?_) (by rfl) rfl ?_ ?_
          rotate_left
          ·go_simp
           rfl
          clear a0 a1 a2 a3 a4 b0 b1 b2 b3 b4
          refine hK.out _ _ ?_ (fun hHeld => ?_)
          ·refine ⟨?_, ?_⟩
           ·refine Eq.trans (Below.cell (JS.old (n := n0) (ok := ok) (w0 := w3) (g := g) (cur := cur') ?_ HB3.out hnw3 hokw) (World.block_lt_of_cell? _ _ zw1)) zw1
            exact (GetF.sto HF.out _ _ _ _ _).1
           ·refine Eq.trans (Below.cell (JS.old (n := n0) (ok := ok) (w0 := w3) (g := g) (cur := cur') ?_ HB3.out hnw3 hokw) (World.block_lt_of_cell? _ _ zw2)) zw2
            exact (GetF.sto HF.out _ _ _ _ _).1
          clear hK K
          refine (fun (HS9 : Aside0 (StoF n0 ok w3 g cur' (fun w' => w'.cell? ⟨(ad.add (j * 7)).block, (ad.add (j * 7)).off + 1, none⟩ = some (.string d.f1.f0) ∧ w'.cell? ⟨(ad.add (j * 7)).block, (ad.add (j * 7)).off + 2, none⟩ = some (.string d.f1.f1)) #[.string x0, .string x1, .string x2, .string x3, .string x4] w517.heap.size _)) => ?_) (at_cell hHeld.1 ?_)
          rotate_left
          ·refine ⟨?_, hHeld, ?_⟩
           ·exact (GetF.sto HF.out _ _ _ _ _).1
           ·exact (GetF.sto HF.out _ _ _ _ _).2.1
          exact norm_ ap78_ (hCont _ _ HS9.out)
         ·skip
          have a0 := (blk_cell HF.out.a 0).trans (show _ = some (.string ⟨#[]⟩) from rfl)
          have b0 := blk_frozen HF.out.a 0
          have a1 := (blk_cell HF.out.a 1).trans (show _ = some (.string ⟨#[]⟩) from rfl)
          have b1 := blk_frozen HF.out.a 1
          have a2 := (blk_cell HF.out.a 2).trans (show _ = some (.string ⟨#[]⟩) from rfl)
          have b2 := blk_frozen HF.out.a 2
          have a3 := (blk_cell HF.out.a 3).trans (show _ = some (.string ⟨#[]⟩) from rfl)
          have b3 := blk_frozen HF.out.a 3
          have a4 := (blk_cell HF.out.a 4).trans (show _ = some (.string ⟨#[]⟩) from rfl)
          have b4 := blk_frozen HF.out.a 4
          refine skip_ (w1 := ?_) (by rfl) rfl ?_ ?_
          rotate_left
          ·go_simp
           rfl
          clear a0 a1 a2 a3 a4 b0 b1 b2 b3 b4
          refine hK.out _ _ ?_ (fun hHeld => ?_)
          ·refine ⟨?_, ?_⟩
           ·refine Eq.trans (Below.cell (JS.old (n := n0) (ok := ok) (w0 := w3) (g := g) (cur := cur') ?_ HB3.out hnw3 hokw) (World.block_lt_of_cell? _ _ zw1)) zw1
            exact (GetF.sto HF.out _ _ _ _ _).1
           ·refine Eq.trans (Below.cell (JS.old (n := n0) (ok := ok) (w0 := w3) (g := g) (cur := cur') ?_ HB3.out hnw3 hokw) (World.block_lt_of_cell? _ _ zw2)) zw2
            exact (GetF.sto HF.out _ _ _ _ _).1
          clear hK K
          refine (fun (HS9 : Aside0 (StoF n0 ok w3 g cur' (fun w' => w'.cell? ⟨(ad.add (j * 7)).block, (ad.add (j * 7)).off + 1, none⟩ = some (.string d.f1.f0) ∧ w'.cell? ⟨(ad.add (j * 7)).block, (ad.add (j * 7)).off + 2, none⟩ = some (.string d.f1.f1)) #[.string x0, .string x1, .string x2, .string x3, .string x4] w517.heap.size _)) => ?_) (at_cell hHeld.1 ?_)
          rotate_left
          ·refine ⟨?_, hHeld, ?_⟩
           ·exact (GetF.sto HF.out _ _ _ _ _).1
           ·exact (GetF.sto HF.out _ _ _ _ _).2.1
          refine one_ (i := 16) (N := some 83) #[true, true, true, true, true, true, true, true, true, true, true, true, true, true, true, true, true, true, true, false] rfl rfl (by kernel_rfl) (by decide) (fun K hK => ?_)
          refine value_ (w1 := ?_) (v := ?_) (by rfl) rfl ?_ ?_
          rotate_left 2
          ·go_simp
           constructor
           ·rfl
           ·rfl
          refine hK.out _ _ hHeld (fun hHeld => ?_)
          clear hK K
          refine norm_ (a' := ?_) ?_ ?_
          rotate_left
          ·show Act.put _ (some 83) _ = _
           simp only [Act.put, List.setIfInBounds_toArray, List.set_cons_zero, List.set_cons_succ, i64_w, i32_w]
           rfl
          exact norm_ ap78_ (hCont _ _ HS9.out)
       intro gx wG17 hG0
       refine norm_ (a' := ?_) ?_ ?_
       rotate_left
       ·simp only [putAll, Act.put, List.setIfInBounds_toArray, List.set_cons_zero, List.set_cons_succ]
        rfl
       have HG := As_ hG0
       clear hG0 HJ hHeld hlo
       have HJ0 := As_ HG.out.js
       have Bgx := As_ HG.out.a
       have p1 := HG.out.hs.1
       have p2 := HG.out.hs.2
       clear HG
       refine pure_ (i := 19) (N := some 12) #[true, true, true, true, true, true, true, true, true, true, true, true, true, true, true, true, true, true, true, true] rfl rfl (by kernel_rfl) (fun _ _ _ h => h) (Or.inl ⟨by rfl, ap2_⟩) ap35_ ?_
       refine done_ (by kernel_rfl) ?_
       as_aux_lemma =>
        go_upto_region 18 with (fail)
        refine start_ (n := 20) (S := fun w' => w'.cell? ⟨(ad.add (j * 7)).block, (ad.add (j * 7)).off + 1, none⟩ = some (.string d.f1.f0) ∧ w'.cell? ⟨(ad.add (j * 7)).block, (ad.add (j * 7)).off + 2, none⟩ = some (.string d.f1.f1) ∧ HeldC gx #[.string x0, .string x1, .string x2, .string x3, .string x4] 23 w') (ds := []) #[false, false, false, false, false, false, false, false, false, false, false, false, false, false, false, false, false, false, false, false] (by kernel_rfl) rfl rfl ⟨p1, p2, HeldC.of Bgx.out⟩ (fun hHeld => ?_)
        have HJ := As_ (HJ0.out.below (below_drew (Below.refl _ _)))
        clear HJ0 p1 p2 Bgx
        generalize hwd : World.drew _ = w518 at hHeld HJ ⊢
        clear hwd
        have hlo : w518.heap.size ≤ w518.heap.size := Nat.le_refl _
        obtain ⟨lo18, hlo18⟩ : ∃ z, w518.heap.size = z := ⟨_, rfl⟩
        replace hlo : lo18 ≤ w518.heap.size := by omega
        have hlgx : gx < lo18 := by have := blk_lt (HeldC.blk hHeld.2.2); omega
        clear hlo18
        refine pure_ (i := 0) (N := some 85) #[true, false, false, false, false, false, false, false, false, false, false, false, false, false, false, false, false, false, false, false] rfl rfl (by kernel_rfl) (fun _ _ _ h => h) (Or.inl ⟨by rfl, ap2_⟩) ap35_ ?_
        refine pure_ (i := 1) (N := some 86) #[true, true, false, false, false, false, false, false, false, false, false, false, false, false, false, false, false, false, false, false] rfl rfl (by kernel_rfl) (fun _ _ _ h => h) (Or.inl ⟨by rfl, ap2_⟩) ap35_ ?_
        refine pure_ (i := 2) (N := some 87) #[true, true, true, false, false, false, false, false, false, false, false, false, false, false, false, false, false, false, false, false] rfl rfl (by kernel_rfl) (fun _ _ _ h => h) (Or.inl ⟨by rfl, ap2_⟩) ap35_ ?_
        refine pure_ (i := 3) (N := some 88) #[true, true, true, true, false, false, false, false, false, false, false, false, false, false, false, false, false, false, false, false] rfl rfl (by kernel_rfl) (fun _ _ _ h => h) (Or.inl ⟨by rfl, ap2_⟩) ap35_ ?_
        refine pure_ (i := 4) (N := some 89) #[true, true, true, true, true, false, false, false, false, false, false, false, false, false, false, false, false, false, false, false] rfl rfl (by kernel_rfl) (fun _ _ _ h => h) (Or.inl ⟨by rfl, ap2_⟩) ap35_ ?_
        refine pure_ (i := 5) (N := some 90) #[true, true, true, true, true, true, false, false, false, false, false, false, false, false, false, false, false, false, false, false] rfl rfl (by kernel_rfl) (fun _ _ _ h => h) (Or.inl ⟨by rfl, ap2_⟩) ap35_ ?_
        refine take_ (i := 6) (N := some 91) #[true, true, true, true, true, true, true, false, false, false, false, false, false, false, false, false, false, false, false, false] rfl rfl (by kernel_rfl) (fun _ _ _ h => h) (Or.inl ⟨by rfl, (by rintro w' ⟨s1, s2, sb0⟩; have s2b : w'.cell? ⟨(ad.add (j * 7)).block, (ad.add (j * 7)).off + 1 + 1, none⟩ = some (.string d.f1.f1) := s2; go_simp; with_reducible rfl)⟩) hHeld ap35_ ?_
        refine pure_ (i := 7) (N := some 92) #[true, true, true, true, true, true, true, true, false, false, false, false, false, false, false, false, false, false, false, false] rfl rfl (by kernel_rfl) (fun _ _ _ h => h) (Or.inl ⟨by rfl, ap2_⟩) ap35_ ?_
        refine pure_ (i := 8) (N := some 93) #[true, true, true, true, true, true, true, true, true, false, false, false, false, false, false, false, false, false, false, false] rfl rfl (by kernel_rfl) (fun _ _ _ h => h) (Or.inl ⟨by rfl, ap2_⟩) ap35_ ?_
        refine pure_ (i := 9) (N := some 94) #[true, true, true, true, true, true, true, true, true, true, false, false, false, false, false, false, false, false, false, false] rfl rfl (by kernel_rfl) (fun _ _ _ h => h) (Or.inl ⟨by rfl, ap2_⟩) ap35_ ?_
        refine pure_ (i := 10) (N := some 95) #[true, true, true, true, true, true, true, true, true, true, true, false, false, false, false, false, false, false, false, false] rfl rfl (by kernel_rfl) (fun _ _ _ h => h) (Or.inl ⟨by rfl, ap2_⟩) ap35_ ?_
        refine pure_ (i := 11) (N := some 96) #[true, true, true, true, true, true, true, true, true, true, true, true, false, false, false, false, false, false, false, false] rfl rfl (by kernel_rfl) (fun _ _ _ h => h) (Or.inl ⟨by rfl, ap2_⟩) ap35_ ?_
        refine take_ (i := 12) (N := some 97) #[true, true, true, true, true, true, true, true, true, true, true, true, true, false, false, false, false, false, false, false] rfl rfl (by kernel_rfl) (fun _ _ _ h => h) (Or.inl ⟨by rfl, (by rintro w' ⟨s1, s2, sb0⟩; have s2b : w'.cell? ⟨(ad.add (j * 7)).block, (ad.add (j * 7)).off + 1 + 1, none⟩ = some (.string d.f1.f1) := s2; go_simp; with_reducible rfl)⟩) hHeld ap35_ ?_
        refine join_ (σ := Nat) 1 #[true, true, true, true, true, true, true, true, true, true, true, true, true, true, true, true, true, true, true, false] (fun s => [(98, .tuple #[.agg #[.string x0, .string x1, .string x2, .string x3, .string x4], .int .i64 x5]), (84, .tuple #[.agg #[.string x0, .string x1, .string x2, .string x3, .string x4], .int .i64 x5]), (99, .agg #[.string x0, .string x1, .string x2, .string x3, .string x4]), (100, .int .i64 x5), (13, .pointer (some ⟨s, 0, none⟩))]) (fun s W' => StoF n0 ok w3 g cur' (fun w' => w'.cell? ⟨(ad.add (j * 7)).block, (ad.add (j * 7)).off + 1, none⟩ = some (.string d.f1.f0) ∧ w'.cell? ⟨(ad.add (j * 7)).block, (ad.add (j * 7)).off + 2, none⟩ = some (.string d.f1.f1) ∧ HeldC gx #[.string x0, .string x1, .string x2, .string x3, .string x4] 23 w') #[.string x0, .string x1, .string x2, .string x3, .string x4] s W') ?_ ?_
        rotate_left
        ·intro hCont
         refine two_ (i := 13) (j := 17) (Ni := some 98) (Nj := some 13) #[true, true, true, true, true, true, true, true, true, true, true, true, true, true, false, false, false, false, false, false] #[true, true, true, true, true, true, true, true, true, true, true, true, true, false, false, false, false, true, false, false] rfl rfl rfl rfl (by kernel_rfl) (by decide) (by decide) (fun K hK => ?_) (fun K hK => ?_)
         ·skip
          refine goes_ Tryz.func14 (by kernel_rfl) rfl #[.slice A3 cur'.length c3, .string d.f1.f0, .string d.f1.f1] (by rfl) rfl rfl ap16_ ?_
          refine (footbridgeref23_Get.calls K1 A3 c3 cur' d.f1.f0 d.f1.f1 x0 x1 x2 x3 x4 x5 _ (V_C (V_js HJ.out HV.out)).1 hc3 (hK1 K1 (Nat.le_refl _))).mono ?_
          rintro e w6_18 ⟨rfl, hb⟩
          refine ⟨_, rfl, ?_⟩
          have hHn : w6_18.cell? ⟨(ad.add (j * 7)).block, (ad.add (j * 7)).off + 1, none⟩ = some (.string d.f1.f0) ∧ w6_18.cell? ⟨(ad.add (j * 7)).block, (ad.add (j * 7)).off + 2, none⟩ = some (.string d.f1.f1) ∧ HeldC gx #[.string x0, .string x1, .string x2, .string x3, .string x4] 23 w6_18 := ⟨((hb).cell (World.block_lt_of_cell? _ _ (hHeld.1))).trans (hHeld.1), ((hb).cell (World.block_lt_of_cell? _ _ (hHeld.2.1))).trans (hHeld.2.1), HeldC.of (blk_below (HeldC.blk (hHeld.2.2)) (hb))⟩
          have n_HJ := As_ (HJ.out.below hb)
          replace hlo := Nat.le_trans hlo hb.size
          clear HJ hb
          have HJ := n_HJ
          clear n_HJ
          refine hK.out _ _ hHn (fun hHeld => ?_)
          clear hK K hHn
          refine norm_ (a' := ?_) ?_ ?_
          rotate_left
          ·show Act.put _ (some 98) _ = _
           simp only [Act.put, List.setIfInBounds_toArray, List.set_cons_zero, List.set_cons_succ, i64_w, i32_w]
           rfl
          refine pure_ (i := 14) (N := some 84) #[true, true, true, true, true, true, true, true, true, true, true, true, true, true, true, false, false, false, false, false] rfl rfl (by kernel_rfl) (fun _ _ _ h => h) (Or.inl ⟨by rfl, ap2_⟩) ap35_ ?_
          refine pure_ (i := 15) (N := some 99) #[true, true, true, true, true, true, true, true, true, true, true, true, true, true, true, true, false, false, false, false] rfl rfl (by kernel_rfl) (fun _ _ _ h => h) (Or.inl ⟨by rfl, ap2_⟩) ap35_ ?_
          refine two_ (i := 16) (j := 17) (Ni := some 100) (Nj := some 13) #[true, true, true, true, true, true, true, true, true, true, true, true, true, true, true, true, true, false, false, false] #[true, true, true, true, true, true, true, true, true, true, true, true, true, true, true, true, false, true, false, false] rfl rfl rfl rfl (by kernel_rfl) (by decide) (by decide) (fun K hK => ?_) (fun K hK => ?_)
          ·skip
           refine value_ (w1 := ?_) (v := ?_) (by rfl) rfl ?_ ?_
           rotate_left 2
           ·go_simp
            constructor
            ·rfl
            ·rfl
           refine hK.out _ _ hHeld (fun hHeld => ?_)
           clear hK K
           refine norm_ (a' := ?_) ?_ ?_
           rotate_left
           ·show Act.put _ (some 100) _ = _
            simp only [Act.put, List.setIfInBounds_toArray, List.set_cons_zero, List.set_cons_succ, i64_w, i32_w]
            rfl
           refine one_ (i := 17) (N := some 13) #[true, true, true, true, true, true, true, true, true, true, true, true, true, true, true, true, true, true, false, false] rfl rfl (by kernel_rfl) (by decide) (fun K hK => ?_)
           refine value_ (w1 := ?_) (v := ?_) (by rfl) rfl ?_ ?_
           rotate_left 2
           ·go_simp
            constructor
            ·rfl
            ·rfl
           have HF := As_ (GetF.new (Hs := fun w' => w'.cell? ⟨(ad.add (j * 7)).block, (ad.add (j * 7)).off + 1, none⟩ = some (.string d.f1.f0) ∧ w'.cell? ⟨(ad.add (j * 7)).block, (ad.add (j * 7)).off + 2, none⟩ = some (.string d.f1.f1) ∧ HeldC gx #[.string x0, .string x1, .string x2, .string x3, .string x4] 23 w') HJ.out hlo ⟨((below_alloc (Below.refl _ _) (.cells #[.string ⟨#[]⟩, .string ⟨#[]⟩, .string ⟨#[]⟩, .string ⟨#[]⟩, .string ⟨#[]⟩] 23)).cell (World.block_lt_of_cell? _ _ (hHeld.1))).trans (hHeld.1), ((below_alloc (Below.refl _ _) (.cells #[.string ⟨#[]⟩, .string ⟨#[]⟩, .string ⟨#[]⟩, .string ⟨#[]⟩, .string ⟨#[]⟩] 23)).cell (World.block_lt_of_cell? _ _ (hHeld.2.1))).trans (hHeld.2.1), HeldC.of (blk_below (HeldC.blk (hHeld.2.2)) (below_alloc (Below.refl _ _) (.cells #[.string ⟨#[]⟩, .string ⟨#[]⟩, .string ⟨#[]⟩, .string ⟨#[]⟩, .string ⟨#[]⟩] 23)))⟩)
           refine hK.out _ _ HF.out.hs (fun hHeld => ?_)
           clear hK K
           generalize hwa : World.alloc _ _ = wA18 at HF hHeld ⊢
           clear hwa
           refine norm_ (a' := ?_) ?_ ?_
           rotate_left
           ·show Act.put _ (some 13) _ = _
            simp only [Act.put, List.setIfInBounds_toArray, List.set_cons_zero, List.set_cons_succ, i64_w, i32_w]
            rfl
           refine one_ (i := 18) (N := none) #[true, true, true, true, true, true, true, true, true, true, true, true, true, true, true, true, true, true, true, false] rfl rfl (by kernel_rfl) (by decide) (fun K hK => ?_)
           have a0 := (blk_cell HF.out.a 0).trans (show _ = some (.string ⟨#[]⟩) from rfl)
           have b0 := blk_frozen HF.out.a 0
           have a1 := (blk_cell HF.out.a 1).trans (show _ = some (.string ⟨#[]⟩) from rfl)
           have b1 := blk_frozen HF.out.a 1
           have a2 := (blk_cell HF.out.a 2).trans (show _ = some (.string ⟨#[]⟩) from rfl)
           have b2 := blk_frozen HF.out.a 2
           have a3 := (blk_cell HF.out.a 3).trans (show _ = some (.string ⟨#[]⟩) from rfl)
           have b3 := blk_frozen HF.out.a 3
           have a4 := (blk_cell HF.out.a 4).trans (show _ = some (.string ⟨#[]⟩) from rfl)
           have b4 := blk_frozen HF.out.a 4
           have hxgx : gx ≠ _ := Nat.ne_of_lt (Nat.lt_of_lt_of_le hlgx HF.out.k3)
           refine skip_ (w1 := ?_) (by rfl) rfl ?_ ?_
           rotate_left
           ·go_simp
            rfl
           clear a0 a1 a2 a3 a4 b0 b1 b2 b3 b4
           refine hK.out _ _ ?_ (fun hHeld => ?_)
           ·refine ⟨?_, ?_, HeldC.of ?_⟩
            ·refine Eq.trans (Below.cell (JS.old (n := n0) (ok := ok) (w0 := w3) (g := g) (cur := cur') ?_ HB3.out hnw3 hokw) (World.block_lt_of_cell? _ _ zw1)) zw1
             exact (GetF.sto HF.out _ _ _ _ _).1
            ·refine Eq.trans (Below.cell (JS.old (n := n0) (ok := ok) (w0 := w3) (g := g) (cur := cur') ?_ HB3.out hnw3 hokw) (World.block_lt_of_cell? _ _ zw2)) zw2
             exact (GetF.sto HF.out _ _ _ _ _).1
            ·exact (GetF.sto HF.out _ _ _ _ _).2.2 _ _ _ hxgx (HeldC.blk HF.out.hs.2.2)
           clear hK K
           refine (fun (HS9 : Aside0 (StoF n0 ok w3 g cur' (fun w' => w'.cell? ⟨(ad.add (j * 7)).block, (ad.add (j * 7)).off + 1, none⟩ = some (.string d.f1.f0) ∧ w'.cell? ⟨(ad.add (j * 7)).block, (ad.add (j * 7)).off + 2, none⟩ = some (.string d.f1.f1) ∧ HeldC gx #[.string x0, .string x1, .string x2, .string x3, .string x4] 23 w') #[.string x0, .string x1, .string x2, .string x3, .string x4] w6_18.heap.size _)) => ?_) (at_cell hHeld.1 ?_)
           rotate_left
           ·refine ⟨?_, hHeld, ?_⟩
            ·exact (GetF.sto HF.out _ _ _ _ _).1
            ·exact (GetF.sto HF.out _ _ _ _ _).2.1
           exact norm_ ap78_ (hCont _ _ HS9.out)
          ·skip
           refine value_ (w1 := ?_) (v := ?_) (by rfl) rfl ?_ ?_
           rotate_left 2
           ·go_simp
            constructor
            ·rfl
            ·rfl
           have HF := As_ (GetF.new (Hs := fun w' => w'.cell? ⟨(ad.add (j * 7)).block, (ad.add (j * 7)).off + 1, none⟩ = some (.string d.f1.f0) ∧ w'.cell? ⟨(ad.add (j * 7)).block, (ad.add (j * 7)).off + 2, none⟩ = some (.string d.f1.f1) ∧ HeldC gx #[.string x0, .string x1, .string x2, .string x3, .string x4] 23 w') HJ.out hlo ⟨((below_alloc (Below.refl _ _) (.cells #[.string ⟨#[]⟩, .string ⟨#[]⟩, .string ⟨#[]⟩, .string ⟨#[]⟩, .string ⟨#[]⟩] 23)).cell (World.block_lt_of_cell? _ _ (hHeld.1))).trans (hHeld.1), ((below_alloc (Below.refl _ _) (.cells #[.string ⟨#[]⟩, .string ⟨#[]⟩, .string ⟨#[]⟩, .string ⟨#[]⟩, .string ⟨#[]⟩] 23)).cell (World.block_lt_of_cell? _ _ (hHeld.2.1))).trans (hHeld.2.1), HeldC.of (blk_below (HeldC.blk (hHeld.2.2)) (below_alloc (Below.refl _ _) (.cells #[.string ⟨#[]⟩, .string ⟨#[]⟩, .string ⟨#[]⟩, .string ⟨#[]⟩, .string ⟨#[]⟩] 23)))⟩)
           refine hK.out _ _ HF.out.hs (fun hHeld => ?_)
           clear hK K
           generalize hwa : World.alloc _ _ = wA18 at HF hHeld ⊢
           clear hwa
           refine norm_ (a' := ?_) ?_ ?_
           rotate_left
           ·show Act.put _ (some 13) _ = _
            simp only [Act.put, List.setIfInBounds_toArray, List.set_cons_zero, List.set_cons_succ, i64_w, i32_w]
            rfl
           refine two_ (i := 16) (j := 18) (Ni := some 100) (Nj := none) #[true, true, true, true, true, true, true, true, true, true, true, true, true, true, true, true, true, true, false, false] #[true, true, true, true, true, true, true, true, true, true, true, true, true, true, true, true, false, true, true, false] rfl rfl rfl rfl (by kernel_rfl) (by decide) (by decide) (fun K hK => ?_) (fun K hK => ?_)
           ·skip
            refine value_ (w1 := ?_) (v := ?_) (by rfl) rfl ?_ ?_
            rotate_left 2
            ·go_simp
             constructor
             ·rfl
             ·rfl
            refine hK.out _ _ hHeld (fun hHeld => ?_)
            clear hK K
            refine norm_ (a' := ?_) ?_ ?_
            rotate_left
            ·show Act.put _ (some 100) _ = _
             simp only [Act.put, List.setIfInBounds_toArray, List.set_cons_zero, List.set_cons_succ, i64_w, i32_w]
             rfl
            refine one_ (i := 18) (N := none) #[true, true, true, true, true, true, true, true, true, true, true, true, true, true, true, true, true, true, true, false] rfl rfl (by kernel_rfl) (by decide) (fun K hK => ?_)
            have a0 := (blk_cell HF.out.a 0).trans (show _ = some (.string ⟨#[]⟩) from rfl)
            have b0 := blk_frozen HF.out.a 0
            have a1 := (blk_cell HF.out.a 1).trans (show _ = some (.string ⟨#[]⟩) from rfl)
            have b1 := blk_frozen HF.out.a 1
            have a2 := (blk_cell HF.out.a 2).trans (show _ = some (.string ⟨#[]⟩) from rfl)
            have b2 := blk_frozen HF.out.a 2
            have a3 := (blk_cell HF.out.a 3).trans (show _ = some (.string ⟨#[]⟩) from rfl)
            have b3 := blk_frozen HF.out.a 3
            have a4 := (blk_cell HF.out.a 4).trans (show _ = some (.string ⟨#[]⟩) from rfl)
            have b4 := blk_frozen HF.out.a 4
            have hxgx : gx ≠ _ := Nat.ne_of_lt (Nat.lt_of_lt_of_le hlgx HF.out.k3)
            refine skip_ (w1 := ?_) (by rfl) rfl ?_ ?_
            rotate_left
            ·go_simp
             rfl
            clear a0 a1 a2 a3 a4 b0 b1 b2 b3 b4
            refine hK.out _ _ ?_ (fun hHeld => ?_)
            ·refine ⟨?_, ?_, HeldC.of ?_⟩
             ·refine Eq.trans (Below.cell (JS.old (n := n0) (ok := ok) (w0 := w3) (g := g) (cur := cur') ?_ HB3.out hnw3 hokw) (World.block_lt_of_cell? _ _ zw1)) zw1
              exact (GetF.sto HF.out _ _ _ _ _).1
             ·refine Eq.trans (Below.cell (JS.old (n := n0) (ok := ok) (w0 := w3) (g := g) (cur := cur') ?_ HB3.out hnw3 hokw) (World.block_lt_of_cell? _ _ zw2)) zw2
              exact (GetF.sto HF.out _ _ _ _ _).1
             ·exact (GetF.sto HF.out _ _ _ _ _).2.2 _ _ _ hxgx (HeldC.blk HF.out.hs.2.2)
            clear hK K
            refine (fun (HS9 : Aside0 (StoF n0 ok w3 g cur' (fun w' => w'.cell? ⟨(ad.add (j * 7)).block, (ad.add (j * 7)).off + 1, none⟩ = some (.string d.f1.f0) ∧ w'.cell? ⟨(ad.add (j * 7)).block, (ad.add (j * 7)).off + 2, none⟩ = some (.string d.f1.f1) ∧ HeldC gx #[.string x0, .string x1, .string x2, .string x3, .string x4] 23 w') #[.string x0, .string x1, .string x2, .string x3, .string x4] w6_18.heap.size _)) => ?_) (at_cell hHeld.1 ?_)
            rotate_left
            ·refine ⟨?_, hHeld, ?_⟩
             ·exact (GetF.sto HF.out _ _ _ _ _).1
             ·exact (GetF.sto HF.out _ _ _ _ _).2.1
            exact norm_ ap78_ (hCont _ _ HS9.out)
           ·skip
            have a0 := (blk_cell HF.out.a 0).trans (show _ = some (.string ⟨#[]⟩) from rfl)
            have b0 := blk_frozen HF.out.a 0
            have a1 := (blk_cell HF.out.a 1).trans (show _ = some (.string ⟨#[]⟩) from rfl)
            have b1 := blk_frozen HF.out.a 1
            have a2 := (blk_cell HF.out.a 2).trans (show _ = some (.string ⟨#[]⟩) from rfl)
            have b2 := blk_frozen HF.out.a 2
            have a3 := (blk_cell HF.out.a 3).trans (show _ = some (.string ⟨#[]⟩) from rfl)
            have b3 := blk_frozen HF.out.a 3
            have a4 := (blk_cell HF.out.a 4).trans (show _ = some (.string ⟨#[]⟩) from rfl)
            have b4 := blk_frozen HF.out.a 4
            have hxgx : gx ≠ _ := Nat.ne_of_lt (Nat.lt_of_lt_of_le hlgx HF.out.k3)
            refine skip_ (w1 := ?_) (by rfl) rfl ?_ ?_
            rotate_left
            ·go_simp
             rfl
            clear a0 a1 a2 a3 a4 b0 b1 b2 b3 b4
            refine hK.out _ _ ?_ (fun hHeld => ?_)
            ·refine ⟨?_, ?_, HeldC.of ?_⟩
             ·refine Eq.trans (Below.cell (JS.old (n := n0) (ok := ok) (w0 := w3) (g := g) (cur := cur') ?_ HB3.out hnw3 hokw) (World.block_lt_of_cell? _ _ zw1)) zw1
              exact (GetF.sto HF.out _ _ _ _ _).1
             ·refine Eq.trans (Below.cell (JS.old (n := n0) (ok := ok) (w0 := w3) (g := g) (cur := cur') ?_ HB3.out hnw3 hokw) (World.block_lt_of_cell? _ _ zw2)) zw2
              exact (GetF.sto HF.out _ _ _ _ _).1
             ·exact (GetF.sto HF.out _ _ _ _ _).2.2 _ _ _ hxgx (HeldC.blk HF.out.hs.2.2)
            clear hK K
            refine (fun (HS9 : Aside0 (StoF n0 ok w3 g cur' (fun w' => w'.cell? ⟨(ad.add (j * 7)).block, (ad.add (j * 7)).off + 1, none⟩ = some (.string d.f1.f0) ∧ w'.cell? ⟨(ad.add (j * 7)).block, (ad.add (j * 7)).off + 2, none⟩ = some (.string d.f1.f1) ∧ HeldC gx #[.string x0, .string x1, .string x2, .string x3, .string x4] 23 w') #[.string x0, .string x1, .string x2, .string x3, .string x4] w6_18.heap.size _)) => ?_) (at_cell hHeld.1 ?_)
            rotate_left
            ·refine ⟨?_, hHeld, ?_⟩
             ·exact (GetF.sto HF.out _ _ _ _ _).1
             ·exact (GetF.sto HF.out _ _ _ _ _).2.1
            refine one_ (i := 16) (N := some 100) #[true, true, true, true, true, true, true, true, true, true, true, true, true, true, true, true, true, true, true, false] rfl rfl (by kernel_rfl) (by decide) (fun K hK => ?_)
            refine value_ (w1 := ?_) (v := ?_) (by rfl) rfl ?_ ?_
            rotate_left 2
            ·go_simp
             constructor
             ·rfl
             ·rfl
            refine hK.out _ _ hHeld (fun hHeld => ?_)
            clear hK K
            refine norm_ (a' := ?_) ?_ ?_
            rotate_left
            ·show Act.put _ (some 100) _ = _
             simp only [Act.put, List.setIfInBounds_toArray, List.set_cons_zero, List.set_cons_succ, i64_w, i32_w]
             rfl
            exact norm_ ap78_ (hCont _ _ HS9.out)
         ·skip
          refine value_ (w1 := ?_) (v := ?_) (by rfl) rfl ?_ ?_
          rotate_left 2
          ·go_simp
           constructor
           ·rfl
           ·rfl
          have HF := As_ (GetF.new (Hs := fun w' => w'.cell? ⟨(ad.add (j * 7)).block, (ad.add (j * 7)).off + 1, none⟩ = some (.string d.f1.f0) ∧ w'.cell? ⟨(ad.add (j * 7)).block, (ad.add (j * 7)).off + 2, none⟩ = some (.string d.f1.f1) ∧ HeldC gx #[.string x0, .string x1, .string x2, .string x3, .string x4] 23 w') HJ.out hlo ⟨((below_alloc (Below.refl _ _) (.cells #[.string ⟨#[]⟩, .string ⟨#[]⟩, .string ⟨#[]⟩, .string ⟨#[]⟩, .string ⟨#[]⟩] 23)).cell (World.block_lt_of_cell? _ _ (hHeld.1))).trans (hHeld.1), ((below_alloc (Below.refl _ _) (.cells #[.string ⟨#[]⟩, .string ⟨#[]⟩, .string ⟨#[]⟩, .string ⟨#[]⟩, .string ⟨#[]⟩] 23)).cell (World.block_lt_of_cell? _ _ (hHeld.2.1))).trans (hHeld.2.1), HeldC.of (blk_below (HeldC.blk (hHeld.2.2)) (below_alloc (Below.refl _ _) (.cells #[.string ⟨#[]⟩, .string ⟨#[]⟩, .string ⟨#[]⟩, .string ⟨#[]⟩, .string ⟨#[]⟩] 23)))⟩)
          refine hK.out _ _ HF.out.hs (fun hHeld => ?_)
          clear hK K
          generalize hwa : World.alloc _ _ = wA18 at HF hHeld ⊢
          clear hwa
          refine norm_ (a' := ?_) ?_ ?_
          rotate_left
          ·show Act.put _ (some 13) _ = _
           simp only [Act.put, List.setIfInBounds_toArray, List.set_cons_zero, List.set_cons_succ, i64_w, i32_w]
           rfl
          refine one_ (i := 13) (N := some 98) #[true, true, true, true, true, true, true, true, true, true, true, true, true, true, false, false, false, true, false, false] rfl rfl (by kernel_rfl) (by decide) (fun K hK => ?_)
          refine goes_ Tryz.func14 (by kernel_rfl) rfl #[.slice A3 cur'.length c3, .string d.f1.f0, .string d.f1.f1] (by rfl) rfl rfl ap16_ ?_
          refine (footbridgeref23_Get.calls K1 A3 c3 cur' d.f1.f0 d.f1.f1 x0 x1 x2 x3 x4 x5 _ (V_C (V_js HF.out.js HV.out)).1 hc3 (hK1 K1 (Nat.le_refl _))).mono ?_
          rintro e w6_18 ⟨rfl, hb⟩
          refine ⟨_, rfl, ?_⟩
          have hHn : w6_18.cell? ⟨(ad.add (j * 7)).block, (ad.add (j * 7)).off + 1, none⟩ = some (.string d.f1.f0) ∧ w6_18.cell? ⟨(ad.add (j * 7)).block, (ad.add (j * 7)).off + 2, none⟩ = some (.string d.f1.f1) ∧ HeldC gx #[.string x0, .string x1, .string x2, .string x3, .string x4] 23 w6_18 := ⟨((hb).cell (World.block_lt_of_cell? _ _ (hHeld.1))).trans (hHeld.1), ((hb).cell (World.block_lt_of_cell? _ _ (hHeld.2.1))).trans (hHeld.2.1), HeldC.of (blk_below (HeldC.blk (hHeld.2.2)) (hb))⟩
          have n_HF := As_ (HF.out.below hHn hb)
          clear HF hb
          have HF := n_HF
          clear n_HF
          refine hK.out _ _ hHn (fun hHeld => ?_)
          clear hK K hHn
          refine norm_ (a' := ?_) ?_ ?_
          rotate_left
          ·show Act.put _ (some 98) _ = _
           simp only [Act.put, List.setIfInBounds_toArray, List.set_cons_zero, List.set_cons_succ, i64_w, i32_w]
           rfl
          refine pure_ (i := 14) (N := some 84) #[true, true, true, true, true, true, true, true, true, true, true, true, true, true, true, false, false, true, false, false] rfl rfl (by kernel_rfl) (fun _ _ _ h => h) (Or.inl ⟨by rfl, ap2_⟩) ap35_ ?_
          refine pure_ (i := 15) (N := some 99) #[true, true, true, true, true, true, true, true, true, true, true, true, true, true, true, true, false, true, false, false] rfl rfl (by kernel_rfl) (fun _ _ _ h => h) (Or.inl ⟨by rfl, ap2_⟩) ap35_ ?_
          refine two_ (i := 16) (j := 18) (Ni := some 100) (Nj := none) #[true, true, true, true, true, true, true, true, true, true, true, true, true, true, true, true, true, true, false, false] #[true, true, true, true, true, true, true, true, true, true, true, true, true, true, true, true, false, true, true, false] rfl rfl rfl rfl (by kernel_rfl) (by decide) (by decide) (fun K hK => ?_) (fun K hK => ?_)
          ·skip
           refine value_ (w1 := ?_) (v := ?_) (by rfl) rfl ?_ ?_
           rotate_left 2
           ·go_simp
            constructor
            ·rfl
            ·rfl
           refine hK.out _ _ hHeld (fun hHeld => ?_)
           clear hK K
           refine norm_ (a' := ?_) ?_ ?_
           rotate_left
           ·show Act.put _ (some 100) _ = _
            simp only [Act.put, List.setIfInBounds_toArray, List.set_cons_zero, List.set_cons_succ, i64_w, i32_w]
            rfl
           refine one_ (i := 18) (N := none) #[true, true, true, true, true, true, true, true, true, true, true, true, true, true, true, true, true, true, true, false] rfl rfl (by kernel_rfl) (by decide) (fun K hK => ?_)
           have a0 := (blk_cell HF.out.a 0).trans (show _ = some (.string ⟨#[]⟩) from rfl)
           have b0 := blk_frozen HF.out.a 0
           have a1 := (blk_cell HF.out.a 1).trans (show _ = some (.string ⟨#[]⟩) from rfl)
           have b1 := blk_frozen HF.out.a 1
           have a2 := (blk_cell HF.out.a 2).trans (show _ = some (.string ⟨#[]⟩) from rfl)
           have b2 := blk_frozen HF.out.a 2
           have a3 := (blk_cell HF.out.a 3).trans (show _ = some (.string ⟨#[]⟩) from rfl)
           have b3 := blk_frozen HF.out.a 3
           have a4 := (blk_cell HF.out.a 4).trans (show _ = some (.string ⟨#[]⟩) from rfl)
           have b4 := blk_frozen HF.out.a 4
           have hxgx : gx ≠ _ := Nat.ne_of_lt (Nat.lt_of_lt_of_le hlgx HF.out.k3)
           refine skip_ (w1 := ?_) (by rfl) rfl ?_ ?_
           rotate_left
           ·go_simp
            rfl
           clear a0 a1 a2 a3 a4 b0 b1 b2 b3 b4
           refine hK.out _ _ ?_ (fun hHeld => ?_)
           ·refine ⟨?_, ?_, HeldC.of ?_⟩
            ·refine Eq.trans (Below.cell (JS.old (n := n0) (ok := ok) (w0 := w3) (g := g) (cur := cur') ?_ HB3.out hnw3 hokw) (World.block_lt_of_cell? _ _ zw1)) zw1
             exact (GetF.sto HF.out _ _ _ _ _).1
            ·refine Eq.trans (Below.cell (JS.old (n := n0) (ok := ok) (w0 := w3) (g := g) (cur := cur') ?_ HB3.out hnw3 hokw) (World.block_lt_of_cell? _ _ zw2)) zw2
             exact (GetF.sto HF.out _ _ _ _ _).1
            ·exact (GetF.sto HF.out _ _ _ _ _).2.2 _ _ _ hxgx (HeldC.blk HF.out.hs.2.2)
           clear hK K
           refine (fun (HS9 : Aside0 (StoF n0 ok w3 g cur' (fun w' => w'.cell? ⟨(ad.add (j * 7)).block, (ad.add (j * 7)).off + 1, none⟩ = some (.string d.f1.f0) ∧ w'.cell? ⟨(ad.add (j * 7)).block, (ad.add (j * 7)).off + 2, none⟩ = some (.string d.f1.f1) ∧ HeldC gx #[.string x0, .string x1, .string x2, .string x3, .string x4] 23 w') #[.string x0, .string x1, .string x2, .string x3, .string x4] w518.heap.size _)) => ?_) (at_cell hHeld.1 ?_)
           rotate_left
           ·refine ⟨?_, hHeld, ?_⟩
            ·exact (GetF.sto HF.out _ _ _ _ _).1
            ·exact (GetF.sto HF.out _ _ _ _ _).2.1
           exact norm_ ap78_ (hCont _ _ HS9.out)
          ·skip
           have a0 := (blk_cell HF.out.a 0).trans (show _ = some (.string ⟨#[]⟩) from rfl)
           have b0 := blk_frozen HF.out.a 0
           have a1 := (blk_cell HF.out.a 1).trans (show _ = some (.string ⟨#[]⟩) from rfl)
           have b1 := blk_frozen HF.out.a 1
           have a2 := (blk_cell HF.out.a 2).trans (show _ = some (.string ⟨#[]⟩) from rfl)
           have b2 := blk_frozen HF.out.a 2
           have a3 := (blk_cell HF.out.a 3).trans (show _ = some (.string ⟨#[]⟩) from rfl)
           have b3 := blk_frozen HF.out.a 3
           have a4 := (blk_cell HF.out.a 4).trans (show _ = some (.string ⟨#[]⟩) from rfl)
           have b4 := blk_frozen HF.out.a 4
           have hxgx : gx ≠ _ := Nat.ne_of_lt (Nat.lt_of_lt_of_le hlgx HF.out.k3)
           refine skip_ (w1 := ?_) (by rfl) rfl ?_ ?_
           rotate_left
           ·go_simp
            rfl
           clear a0 a1 a2 a3 a4 b0 b1 b2 b3 b4
           refine hK.out _ _ ?_ (fun hHeld => ?_)
           ·refine ⟨?_, ?_, HeldC.of ?_⟩
            ·refine Eq.trans (Below.cell (JS.old (n := n0) (ok := ok) (w0 := w3) (g := g) (cur := cur') ?_ HB3.out hnw3 hokw) (World.block_lt_of_cell? _ _ zw1)) zw1
             exact (GetF.sto HF.out _ _ _ _ _).1
            ·refine Eq.trans (Below.cell (JS.old (n := n0) (ok := ok) (w0 := w3) (g := g) (cur := cur') ?_ HB3.out hnw3 hokw) (World.block_lt_of_cell? _ _ zw2)) zw2
             exact (GetF.sto HF.out _ _ _ _ _).1
            ·exact (GetF.sto HF.out _ _ _ _ _).2.2 _ _ _ hxgx (HeldC.blk HF.out.hs.2.2)
           clear hK K
           refine (fun (HS9 : Aside0 (StoF n0 ok w3 g cur' (fun w' => w'.cell? ⟨(ad.add (j * 7)).block, (ad.add (j * 7)).off + 1, none⟩ = some (.string d.f1.f0) ∧ w'.cell? ⟨(ad.add (j * 7)).block, (ad.add (j * 7)).off + 2, none⟩ = some (.string d.f1.f1) ∧ HeldC gx #[.string x0, .string x1, .string x2, .string x3, .string x4] 23 w') #[.string x0, .string x1, .string x2, .string x3, .string x4] w518.heap.size _)) => ?_) (at_cell hHeld.1 ?_)
           rotate_left
           ·refine ⟨?_, hHeld, ?_⟩
            ·exact (GetF.sto HF.out _ _ _ _ _).1
            ·exact (GetF.sto HF.out _ _ _ _ _).2.1
           refine one_ (i := 16) (N := some 100) #[true, true, true, true, true, true, true, true, true, true, true, true, true, true, true, true, true, true, true, false] rfl rfl (by kernel_rfl) (by decide) (fun K hK => ?_)
           refine value_ (w1 := ?_) (v := ?_) (by rfl) rfl ?_ ?_
           rotate_left 2
           ·go_simp
            constructor
            ·rfl
            ·rfl
           refine hK.out _ _ hHeld (fun hHeld => ?_)
           clear hK K
           refine norm_ (a' := ?_) ?_ ?_
           rotate_left
           ·show Act.put _ (some 100) _ = _
            simp only [Act.put, List.setIfInBounds_toArray, List.set_cons_zero, List.set_cons_succ, i64_w, i32_w]
            rfl
           exact norm_ ap78_ (hCont _ _ HS9.out)
        intro gy wG18 hG0
        refine norm_ (a' := ?_) ?_ ?_
        rotate_left
        ·simp only [putAll, Act.put, List.setIfInBounds_toArray, List.set_cons_zero, List.set_cons_succ]
         rfl
        have HG := As_ hG0
        clear hG0 HJ hHeld hlo
        have HJ0 := As_ HG.out.js
        have Bgy := As_ HG.out.a
        have Bgx := As_ (HeldC.blk HG.out.hs.2.2)
        have p1 := HG.out.hs.1
        have p2 := HG.out.hs.2.1
        clear HG
        refine pure_ (i := 19) (N := some 14) #[true, true, true, true, true, true, true, true, true, true, true, true, true, true, true, true, true, true, true, true] rfl rfl (by kernel_rfl) (fun _ _ _ h => h) (Or.inl ⟨by rfl, ap2_⟩) ap35_ ?_
        refine done_ (by kernel_rfl) ?_
        clear hlgx
        as_aux_lemma =>
         go_upto_region 19 with (fail)
         refine start_ (n := 38) (S := fun w' => w'.cell? ⟨(ad.add (j * 7)).block, (ad.add (j * 7)).off + 1, none⟩ = some (.string d.f1.f0) ∧ w'.cell? ⟨(ad.add (j * 7)).block, (ad.add (j * 7)).off + 2, none⟩ = some (.string d.f1.f1) ∧ HeldC gx #[.string x0, .string x1, .string x2, .string x3, .string x4] 23 w' ∧ HeldC gy #[.string x0, .string x1, .string x2, .string x3, .string x4] 23 w') (ds := []) #[false, false, false, false, false, false, false, false, false, false, false, false, false, false, false, false, false, false, false, false, false, false, false, false, false, false, false, false, false, false, false, false, false, false, false, false, false, false] (by kernel_rfl) rfl rfl ⟨p1, p2, HeldC.of Bgx.out, HeldC.of Bgy.out⟩ (fun hHeld => ?_)
         have HJ := As_ (HJ0.out.below (below_drew (Below.refl _ _)))
         clear HJ0 p1 p2 Bgx Bgy
         generalize hwd : World.drew _ = w519 at hHeld HJ ⊢
         clear hwd
         refine pure_ (i := 0) (N := some 101) #[true, false, false, false, false, false, false, false, false, false, false, false, false, false, false, false, false, false, false, false, false, false, false, false, false, false, false, false, false, false, false, false, false, false, false, false, false, false] rfl rfl (by kernel_rfl) (fun _ _ _ h => h) (Or.inl ⟨by rfl, ap2_⟩) ap35_ ?_
         refine pure_ (i := 1) (N := some 102) #[true, true, false, false, false, false, false, false, false, false, false, false, false, false, false, false, false, false, false, false, false, false, false, false, false, false, false, false, false, false, false, false, false, false, false, false, false, false] rfl rfl (by kernel_rfl) (fun _ _ _ h => h) (Or.inl ⟨by rfl, ap2_⟩) ap35_ ?_
         refine pure_ (i := 2) (N := some 103) #[true, true, true, false, false, false, false, false, false, false, false, false, false, false, false, false, false, false, false, false, false, false, false, false, false, false, false, false, false, false, false, false, false, false, false, false, false, false] rfl rfl (by kernel_rfl) (fun _ _ _ h => h) (Or.inl ⟨by rfl, ap2_⟩) ap35_ ?_
         refine take_ (i := 3) (N := some 104) #[true, true, true, true, false, false, false, false, false, false, false, false, false, false, false, false, false, false, false, false, false, false, false, false, false, false, false, false, false, false, false, false, false, false, false, false, false, false] rfl rfl (by kernel_rfl) (fun _ _ _ h => h) (Or.inl ⟨by rfl, (by rintro w' ⟨s1, s2, sb0, sb1⟩; have s2b : w'.cell? ⟨(ad.add (j * 7)).block, (ad.add (j * 7)).off + 1 + 1, none⟩ = some (.string d.f1.f1) := s2; have t0_0 : w'.cell? ⟨gx, 0, none⟩ = some (.string x0) := (blk_cell (HeldC.blk sb0) 0).trans rfl; have t0_1 : w'.cell? ⟨gx, 1, none⟩ = some (.string x1) := (blk_cell (HeldC.blk sb0) 1).trans rfl; have t0_2 : w'.cell? ⟨gx, 2, none⟩ = some (.string x2) := (blk_cell (HeldC.blk sb0) 2).trans rfl; have t0_3 : w'.cell? ⟨gx, 3, none⟩ = some (.string x3) := (blk_cell (HeldC.blk sb0) 3).trans rfl; have t0_4 : w'.cell? ⟨gx, 4, none⟩ = some (.string x4) := (blk_cell (HeldC.blk sb0) 4).trans rfl; have t1_0 : w'.cell? ⟨gy, 0, none⟩ = some (.string x0) := (blk_cell (HeldC.blk sb1) 0).trans rfl; have t1_1 : w'.cell? ⟨gy, 1, none⟩ = some (.string x1) := (blk_cell (HeldC.blk sb1) 1).trans rfl; have t1_2 : w'.cell? ⟨gy, 2, none⟩ = some (.string x2) := (blk_cell (HeldC.blk sb1) 2).trans rfl; have t1_3 : w'.cell? ⟨gy, 3, none⟩ = some (.string x3) := (blk_cell (HeldC.blk sb1) 3).trans rfl; have t1_4 : w'.cell? ⟨gy, 4, none⟩ = some (.string x4) := (blk_cell (HeldC.blk sb1) 4).trans rfl; go_simp; with_reducible rfl)⟩) hHeld ap35_ ?_
         refine take_ (i := 4) (N := some 105) #[true, true, true, true, true, false, false, false, false, false, false, false, false, false, false, false, false, false, false, false, false, false, false, false, false, false, false, false, false, false, false, false, false, false, false, false, false, false] rfl rfl (by kernel_rfl) (fun _ _ _ h => h) (Or.inl ⟨by rfl, (by rintro w' ⟨s1, s2, sb0, sb1⟩; have s2b : w'.cell? ⟨(ad.add (j * 7)).block, (ad.add (j * 7)).off + 1 + 1, none⟩ = some (.string d.f1.f1) := s2; have t0_0 : w'.cell? ⟨gx, 0, none⟩ = some (.string x0) := (blk_cell (HeldC.blk sb0) 0).trans rfl; have t0_1 : w'.cell? ⟨gx, 1, none⟩ = some (.string x1) := (blk_cell (HeldC.blk sb0) 1).trans rfl; have t0_2 : w'.cell? ⟨gx, 2, none⟩ = some (.string x2) := (blk_cell (HeldC.blk sb0) 2).trans rfl; have t0_3 : w'.cell? ⟨gx, 3, none⟩ = some (.string x3) := (blk_cell (HeldC.blk sb0) 3).trans rfl; have t0_4 : w'.cell? ⟨gx, 4, none⟩ = some (.string x4) := (blk_cell (HeldC.blk sb0) 4).trans rfl; have t1_0 : w'.cell? ⟨gy, 0, none⟩ = some (.string x0) := (blk_cell (HeldC.blk sb1) 0).trans rfl; have t1_1 : w'.cell? ⟨gy, 1, none⟩ = some (.string x1) := (blk_cell (HeldC.blk sb1) 1).trans rfl; have t1_2 : w'.cell? ⟨gy, 2, none⟩ = some (.string x2) := (blk_cell (HeldC.blk sb1) 2).trans rfl; have t1_3 : w'.cell? ⟨gy, 3, none⟩ = some (.string x3) := (blk_cell (HeldC.blk sb1) 3).trans rfl; have t1_4 : w'.cell? ⟨gy, 4, none⟩ = some (.string x4) := (blk_cell (HeldC.blk sb1) 4).trans rfl; go_simp; with_reducible rfl)⟩) hHeld ap35_ ?_
         refine pure_ (i := 5) (N := some 106) #[true, true, true, true, true, true, false, false, false, false, false, false, false, false, false, false, false, false, false, false, false, false, false, false, false, false, false, false, false, false, false, false, false, false, false, false, false, false] rfl rfl (by kernel_rfl) (fun _ _ _ h => h) (Or.inl ⟨by rfl, ap2_⟩) ap35_ ?_
         refine pure_ (i := 6) (N := some 107) #[true, true, true, true, true, true, true, false, false, false, false, false, false, false, false, false, false, false, false, false, false, false, false, false, false, false, false, false, false, false, false, false, false, false, false, false, false, false] rfl rfl (by kernel_rfl) (fun _ _ _ h => h) (Or.inl ⟨by rfl, ap2_⟩) ap35_ ?_
         refine pure_ (i := 7) (N := some 108) #[true, true, true, true, true, true, true, true, false, false, false, false, false, false, false, false, false, false, false, false, false, false, false, false, false, false, false, false, false, false, false, false, false, false, false, false, false, false] rfl rfl (by kernel_rfl) (fun _ _ _ h => h) (Or.inl ⟨by rfl, ap2_⟩) ap35_ ?_
         refine pure_ (i := 8) (N := some 109) #[true, true, true, true, true, true, true, true, true, false, false, false, false, false, false, false, false, false, false, false, false, false, false, false, false, false, false, false, false, false, false, false, false, false, false, false, false, false] rfl rfl (by kernel_rfl) (fun _ _ _ h => h) (Or.inl ⟨by rfl, ap2_⟩) ap35_ ?_
         refine pure_ (i := 9) (N := some 110) #[true, true, true, true, true, true, true, true, true, true, false, false, false, false, false, false, false, false, false, false, false, false, false, false, false, false, false, false, false, false, false, false, false, false, false, false, false, false] rfl rfl (by kernel_rfl) (fun _ _ _ h => h) (Or.inl ⟨by rfl, ap2_⟩) ap35_ ?_
         refine pure_ (i := 10) (N := some 111) #[true, true, true, true, true, true, true, true, true, true, true, false, false, false, false, false, false, false, false, false, false, false, false, false, false, false, false, false, false, false, false, false, false, false, false, false, false, false] rfl rfl (by kernel_rfl) (fun _ _ _ h => h) (Or.inl ⟨by rfl, ap2_⟩) ap35_ ?_
         refine pure_ (i := 11) (N := some 112) #[true, true, true, true, true, true, true, true, true, true, true, true, false, false, false, false, false, false, false, false, false, false, false, false, false, false, false, false, false, false, false, false, false, false, false, false, false, false] rfl rfl (by kernel_rfl) (fun _ _ _ h => h) (Or.inl ⟨by rfl, ap2_⟩) ap35_ ?_
         refine pure_ (i := 12) (N := some 113) #[true, true, true, true, true, true, true, true, true, true, true, true, true, false, false, false, false, false, false, false, false, false, false, false, false, false, false, false, false, false, false, false, false, false, false, false, false, false] rfl rfl (by kernel_rfl) (fun _ _ _ h => h) (Or.inl ⟨by rfl, ap2_⟩) ap35_ ?_
         refine pure_ (i := 13) (N := some 114) #[true, true, true, true, true, true, true, true, true, true, true, true, true, true, false, false, false, false, false, false, false, false, false, false, false, false, false, false, false, false, false, false, false, false, false, false, false, false] rfl rfl (by kernel_rfl) (fun _ _ _ h => h) (Or.inl ⟨by rfl, ap2_⟩) ap35_ ?_
         refine pure_ (i := 14) (N := some 115) #[true, true, true, true, true, true, true, true, true, true, true, true, true, true, true, false, false, false, false, false, false, false, false, false, false, false, false, false, false, false, false, false, false, false, false, false, false, false] rfl rfl (by kernel_rfl) (fun _ _ _ h => h) (Or.inl ⟨by rfl, ap2_⟩) ap35_ ?_
         refine pure_ (i := 15) (N := some 116) #[true, true, true, true, true, true, true, true, true, true, true, true, true, true, true, true, false, false, false, false, false, false, false, false, false, false, false, false, false, false, false, false, false, false, false, false, false, false] rfl rfl (by kernel_rfl) (fun _ _ _ h => h) (Or.inl ⟨by rfl, ap2_⟩) ap35_ ?_
         refine pure_ (i := 16) (N := some 117) #[true, true, true, true, true, true, true, true, true, true, true, true, true, true, true, true, true, false, false, false, false, false, false, false, false, false, false, false, false, false, false, false, false, false, false, false, false, false] rfl rfl (by kernel_rfl) (fun _ _ _ h => h) (Or.inl ⟨by rfl, ap2_⟩) ap35_ ?_
         refine pure_ (i := 17) (N := some 118) #[true, true, true, true, true, true, true, true, true, true, true, true, true, true, true, true, true, true, false, false, false, false, false, false, false, false, false, false, false, false, false, false, false, false, false, false, false, false] rfl rfl (by kernel_rfl) (fun _ _ _ h => h) (Or.inl ⟨by rfl, ap2_⟩) ap35_ ?_
         refine pure_ (i := 18) (N := some 119) #[true, true, true, true, true, true, true, true, true, true, true, true, true, true, true, true, true, true, true, false, false, false, false, false, false, false, false, false, false, false, false, false, false, false, false, false, false, false] rfl rfl (by kernel_rfl) (fun _ _ _ h => h) (Or.inl ⟨by rfl, ap2_⟩) ap35_ ?_
         refine take_ (i := 19) (N := some 120) #[true, true, true, true, true, true, true, true, true, true, true, true, true, true, true, true, true, true, true, true, false, false, false, false, false, false, false, false, false, false, false, false, false, false, false, false, false, false] rfl rfl (by kernel_rfl) (fun _ _ _ h => h) (Or.inl ⟨by rfl, (by rintro w' ⟨s1, s2, sb0, sb1⟩; have s2b : w'.cell? ⟨(ad.add (j * 7)).block, (ad.add (j * 7)).off + 1 + 1, none⟩ = some (.string d.f1.f1) := s2; have t0_0 : w'.cell? ⟨gx, 0, none⟩ = some (.string x0) := (blk_cell (HeldC.blk sb0) 0).trans rfl; have t0_1 : w'.cell? ⟨gx, 1, none⟩ = some (.string x1) := (blk_cell (HeldC.blk sb0) 1).trans rfl; have t0_2 : w'.cell? ⟨gx, 2, none⟩ = some (.string x2) := (blk_cell (HeldC.blk sb0) 2).trans rfl; have t0_3 : w'.cell? ⟨gx, 3, none⟩ = some (.string x3) := (blk_cell (HeldC.blk sb0) 3).trans rfl; have t0_4 : w'.cell? ⟨gx, 4, none⟩ = some (.string x4) := (blk_cell (HeldC.blk sb0) 4).trans rfl; have t1_0 : w'.cell? ⟨gy, 0, none⟩ = some (.string x0) := (blk_cell (HeldC.blk sb1) 0).trans rfl; have t1_1 : w'.cell? ⟨gy, 1, none⟩ = some (.string x1) := (blk_cell (HeldC.blk sb1) 1).trans rfl; have t1_2 : w'.cell? ⟨gy, 2, none⟩ = some (.string x2) := (blk_cell (HeldC.blk sb1) 2).trans rfl; have t1_3 : w'.cell? ⟨gy, 3, none⟩ = some (.string x3) := (blk_cell (HeldC.blk sb1) 3).trans rfl; have t1_4 : w'.cell? ⟨gy, 4, none⟩ = some (.string x4) := (blk_cell (HeldC.blk sb1) 4).trans rfl; go_simp; with_reducible rfl)⟩) hHeld ap35_ ?_
         refine pure_ (i := 21) (N := some 122) #[true, true, true, true, true, true, true, true, true, true, true, true, true, true, true, true, true, true, true, true, false, true, false, false, false, false, false, false, false, false, false, false, false, false, false, false, false, false] rfl rfl (by kernel_rfl) (fun _ _ _ h => h) (Or.inl ⟨by rfl, ap2_⟩) ap35_ ?_
         refine pure_ (i := 22) (N := some 123) #[true, true, true, true, true, true, true, true, true, true, true, true, true, true, true, true, true, true, true, true, false, true, true, false, false, false, false, false, false, false, false, false, false, false, false, false, false, false] rfl rfl (by kernel_rfl) (fun _ _ _ h => h) (Or.inl ⟨by rfl, ap2_⟩) ap35_ ?_
         refine pure_ (i := 23) (N := some 124) #[true, true, true, true, true, true, true, true, true, true, true, true, true, true, true, true, true, true, true, true, false, true, true, true, false, false, false, false, false, false, false, false, false, false, false, false, false, false] rfl rfl (by kernel_rfl) (fun _ _ _ h => h) (Or.inl ⟨by rfl, ap2_⟩) ap35_ ?_
         refine pure_ (i := 24) (N := some 125) #[true, true, true, true, true, true, true, true, true, true, true, true, true, true, true, true, true, true, true, true, false, true, true, true, true, false, false, false, false, false, false, false, false, false, false, false, false, false] rfl rfl (by kernel_rfl) (fun _ _ _ h => h) (Or.inl ⟨by rfl, ap2_⟩) ap35_ ?_
         refine pure_ (i := 25) (N := some 126) #[true, true, true, true, true, true, true, true, true, true, true, true, true, true, true, true, true, true, true, true, false, true, true, true, true, true, false, false, false, false, false, false, false, false, false, false, false, false] rfl rfl (by kernel_rfl) (fun _ _ _ h => h) (Or.inl ⟨by rfl, ap2_⟩) ap35_ ?_
         refine pure_ (i := 26) (N := some 127) #[true, true, true, true, true, true, true, true, true, true, true, true, true, true, true, true, true, true, true, true, false, true, true, true, true, true, true, false, false, false, false, false, false, false, false, false, false, false] rfl rfl (by kernel_rfl) (fun _ _ _ h => h) (Or.inl ⟨by rfl, ap2_⟩) ap35_ ?_
         refine take_ (i := 27) (N := some 128) #[true, true, true, true, true, true, true, true, true, true, true, true, true, true, true, true, true, true, true, true, false, true, true, true, true, true, true, true, false, false, false, false, false, false, false, false, false, false] rfl rfl (by kernel_rfl) (fun _ _ _ h => h) (Or.inl ⟨by rfl, (by rintro w' ⟨s1, s2, sb0, sb1⟩; have s2b : w'.cell? ⟨(ad.add (j * 7)).block, (ad.add (j * 7)).off + 1 + 1, none⟩ = some (.string d.f1.f1) := s2; have t0_0 : w'.cell? ⟨gx, 0, none⟩ = some (.string x0) := (blk_cell (HeldC.blk sb0) 0).trans rfl; have t0_1 : w'.cell? ⟨gx, 1, none⟩ = some (.string x1) := (blk_cell (HeldC.blk sb0) 1).trans rfl; have t0_2 : w'.cell? ⟨gx, 2, none⟩ = some (.string x2) := (blk_cell (HeldC.blk sb0) 2).trans rfl; have t0_3 : w'.cell? ⟨gx, 3, none⟩ = some (.string x3) := (blk_cell (HeldC.blk sb0) 3).trans rfl; have t0_4 : w'.cell? ⟨gx, 4, none⟩ = some (.string x4) := (blk_cell (HeldC.blk sb0) 4).trans rfl; have t1_0 : w'.cell? ⟨gy, 0, none⟩ = some (.string x0) := (blk_cell (HeldC.blk sb1) 0).trans rfl; have t1_1 : w'.cell? ⟨gy, 1, none⟩ = some (.string x1) := (blk_cell (HeldC.blk sb1) 1).trans rfl; have t1_2 : w'.cell? ⟨gy, 2, none⟩ = some (.string x2) := (blk_cell (HeldC.blk sb1) 2).trans rfl; have t1_3 : w'.cell? ⟨gy, 3, none⟩ = some (.string x3) := (blk_cell (HeldC.blk sb1) 3).trans rfl; have t1_4 : w'.cell? ⟨gy, 4, none⟩ = some (.string x4) := (blk_cell (HeldC.blk sb1) 4).trans rfl; go_simp; with_reducible rfl)⟩) hHeld ap35_ ?_
         refine one_ (i := 20) (N := some 121) #[true, true, true, true, true, true, true, true, true, true, true, true, true, true, true, true, true, true, true, true, true, true, true, true, true, true, true, true, false, false, false, false, false, false, false, false, false, false] rfl rfl (by kernel_rfl) (by decide) (fun K hK => ?_)
         refine goes_ Tryz.func15 (by kernel_rfl) rfl #[.pointer (some ⟨g, 0, none⟩), .string d.f1.f0] (by rfl) rfl rfl ap16_ ?_
         refine (tk_supply d.f1.f0 N HJ.out hkvn6 (by omega) hN).mono ?_
         rintro e w6_20 ⟨rfl, hb⟩
         refine ⟨_, rfl, ?_⟩
         replace HJ := As_ (HJ.out.below hb)
         refine hK.out _ _ ⟨((hb).cell (World.block_lt_of_cell? _ _ (hHeld.1))).trans (hHeld.1), ((hb).cell (World.block_lt_of_cell? _ _ (hHeld.2.1))).trans (hHeld.2.1), HeldC.of (blk_below (HeldC.blk (hHeld.2.2.1)) (hb)), HeldC.of (blk_below (HeldC.blk (hHeld.2.2.2)) (hb))⟩ (fun hHeld => ?_)
         clear hb
         clear hK K
         refine norm_ (a' := ?_) ?_ ?_
         rotate_left
         ·show Act.put _ (some 121) _ = _
          simp only [Act.put, List.setIfInBounds_toArray, List.set_cons_zero, List.set_cons_succ, i64_w, i32_w]
          rfl
         refine one_ (i := 28) (N := some 129) #[true, true, true, true, true, true, true, true, true, true, true, true, true, true, true, true, true, true, true, true, true, true, true, true, true, true, true, true, true, false, false, false, false, false, false, false, false, false] rfl rfl (by kernel_rfl) (by decide) (fun K hK => ?_)
         refine goes_ Tryz.func16 (by kernel_rfl) rfl #[.slice A3 cur'.length c3, .string d.f1.f0] (by rfl) rfl rfl ap16_ ?_
         refine (footbridgeref22_Supply.calls K2 A3 c3 cur' d.f1.f0 N _ (V_C (V_js HJ.out HV.out)).1 hc3 (hK2 K2 (Nat.le_refl _))).mono ?_
         rintro e w6_28 ⟨rfl, hb⟩
         refine ⟨_, rfl, ?_⟩
         replace HJ := As_ (HJ.out.below hb)
         refine hK.out _ _ ⟨((hb).cell (World.block_lt_of_cell? _ _ (hHeld.1))).trans (hHeld.1), ((hb).cell (World.block_lt_of_cell? _ _ (hHeld.2.1))).trans (hHeld.2.1), HeldC.of (blk_below (HeldC.blk (hHeld.2.2.1)) (hb)), HeldC.of (blk_below (HeldC.blk (hHeld.2.2.2)) (hb))⟩ (fun hHeld => ?_)
         clear hb
         clear hK K
         refine norm_ (a' := ?_) ?_ ?_
         rotate_left
         ·show Act.put _ (some 129) _ = _
          simp only [Act.put, List.setIfInBounds_toArray, List.set_cons_zero, List.set_cons_succ, i64_w, i32_w]
          rfl
         refine pure_ (i := 29) (N := some 130) #[true, true, true, true, true, true, true, true, true, true, true, true, true, true, true, true, true, true, true, true, true, true, true, true, true, true, true, true, true, true, false, false, false, false, false, false, false, false] rfl rfl (by kernel_rfl) (fun _ _ _ h => h) (Or.inl ⟨by rfl, ap2_⟩) ap35_ ?_
         refine pure_ (i := 30) (N := some 131) #[true, true, true, true, true, true, true, true, true, true, true, true, true, true, true, true, true, true, true, true, true, true, true, true, true, true, true, true, true, true, true, false, false, false, false, false, false, false] rfl rfl (by kernel_rfl) (fun _ _ _ h => h) (Or.inl ⟨by rfl, ap2_⟩) ap35_ ?_
         refine pure_ (i := 31) (N := some 132) #[true, true, true, true, true, true, true, true, true, true, true, true, true, true, true, true, true, true, true, true, true, true, true, true, true, true, true, true, true, true, true, true, false, false, false, false, false, false] rfl rfl (by kernel_rfl) (fun _ _ _ h => h) (Or.inl ⟨by rfl, ap2_⟩) ap35_ ?_
         refine pure_ (i := 32) (N := some 133) #[true, true, true, true, true, true, true, true, true, true, true, true, true, true, true, true, true, true, true, true, true, true, true, true, true, true, true, true, true, true, true, true, true, false, false, false, false, false] rfl rfl (by kernel_rfl) (fun _ _ _ h => h) (Or.inl ⟨by rfl, ap2_⟩) ap35_ ?_
         refine pure_ (i := 34) (N := some 135) #[true, true, true, true, true, true, true, true, true, true, true, true, true, true, true, true, true, true, true, true, true, true, true, true, true, true, true, true, true, true, true, true, true, false, true, false, false, false] rfl rfl (by kernel_rfl) (fun _ _ _ h => h) (Or.inl ⟨by rfl, ap2_⟩) ap35_ ?_
         refine one_ (i := 33) (N := some 134) #[true, true, true, true, true, true, true, true, true, true, true, true, true, true, true, true, true, true, true, true, true, true, true, true, true, true, true, true, true, true, true, true, true, true, true, false, false, false] rfl rfl (by kernel_rfl) (by decide) (fun K hK => ?_)
         refine goes_ Tryz.func18 (by kernel_rfl) rfl #[.pointer (some ⟨g, 0, none⟩)] (by rfl) rfl rfl ap16_ ?_
         refine (j_list n0 g _ ⟨cur', []⟩ _ HJ.out.m (Nat.le_trans AL.out (by omega))).mono ?_
         rintro e w6_33 ⟨v9, rfl, o9, hb⟩
         refine ⟨_, rfl, ?_⟩
         obtain ⟨A9, c9, rfl, hc9, hC9⟩ := Kd.R_reads (rows_R (ok := fun _ => True) o9 (fun _ _ => trivial))
         clear o9
         replace HJ := As_ (HJ.out.below hb)
         refine hK.out _ _ ⟨((hb).cell (World.block_lt_of_cell? _ _ (hHeld.1))).trans (hHeld.1), ((hb).cell (World.block_lt_of_cell? _ _ (hHeld.2.1))).trans (hHeld.2.1), HeldC.of (blk_below (HeldC.blk (hHeld.2.2.1)) (hb)), HeldC.of (blk_below (HeldC.blk (hHeld.2.2.2)) (hb))⟩ (fun hHeld => ?_)
         clear hb
         clear hK K
         refine norm_ (a' := ?_) ?_ ?_
         rotate_left
         ·show Act.put _ (some 134) _ = _
          simp only [Act.put, List.setIfInBounds_toArray, List.set_cons_zero, List.set_cons_succ, i64_w, i32_w]
          rfl
         refine one_ (i := 35) (N := some 136) #[true, true, true, true, true, true, true, true, true, true, true, true, true, true, true, true, true, true, true, true, true, true, true, true, true, true, true, true, true, true, true, true, true, true, true, true, false, false] rfl rfl (by kernel_rfl) (by decide) (fun K hK => ?_)
         refine goes_ Tryz.func17 (by kernel_rfl) rfl #[.slice A9 cur'.length c9, .slice A3 cur'.length c3] (by rfl) rfl rfl ap16_ ?_
         refine (footbridgeref09_Same.calls 1001 A9 c9 cur' A3 c3 cur' true _ hC9 hc9 (V_C (V_js HJ.out HV.out)).1 hc3 (same_f _ 1001 (Nat.le_trans AL.out (by omega)) (Nat.lt_of_le_of_lt AL.out (by omega)))).mono ?_
         rintro e w6_35 ⟨rfl, hd⟩
         have hb := hd.below
         clear hd hC9
         refine ⟨_, rfl, ?_⟩
         replace HJ := As_ (HJ.out.below hb)
         refine hK.out _ _ ⟨((hb).cell (World.block_lt_of_cell? _ _ (hHeld.1))).trans (hHeld.1), ((hb).cell (World.block_lt_of_cell? _ _ (hHeld.2.1))).trans (hHeld.2.1), HeldC.of (blk_below (HeldC.blk (hHeld.2.2.1)) (hb)), HeldC.of (blk_below (HeldC.blk (hHeld.2.2.2)) (hb))⟩ (fun hHeld => ?_)
         clear hb
         clear hK K
         refine norm_ (a' := ?_) ?_ ?_
         rotate_left
         ·show Act.put _ (some 136) _ = _
          simp only [Act.put, List.setIfInBounds_toArray, List.set_cons_zero, List.set_cons_succ, i64_w, i32_w]
          rfl
         refine pure_ (i := 36) (N := some 137) #[true, true, true, true, true, true, true, true, true, true, true, true, true, true, true, true, true, true, true, true, true, true, true, true, true, true, true, true, true, true, true, true, true, true, true, true, true, false] rfl rfl (by kernel_rfl) (fun _ _ _ h => h) (Or.inl ⟨by rfl, ap2_⟩) ap35_ ?_
         refine pure_ (i := 37) (N := some 138) #[true, true, true, true, true, true, true, true, true, true, true, true, true, true, true, true, true, true, true, true, true, true, true, true, true, true, true, true, true, true, true, true, true, true, true, true, true, true] rfl rfl (by kernel_rfl) (fun _ _ _ h => h) (Or.inl ⟨by rfl, ap2_⟩) ap35_ ?_
         refine done_ (by kernel_rfl) ?_
         clear hHeld
         have Jn := As_ (J1.did HV.out HJ.out)
         have HBn := As_ (HJ.out.old HB3.out hnw3 hokw)
         have hnn := Nat.le_trans hn3 HJ.out.jw.size
         clear HJ HV HB3
         go_wp2
         go_roundg (l1.length - (j + 1))
         case measure => omega
         case rel => exact ⟨j + 1, cur', ap4_, by omega, hkvn.mono (by omega), htn, hnn, Jn, HBn⟩
    ·go_wp2_with fail
     refine (tkaw_calls _).mono ?_
     rintro e w' ⟨rfl, hb⟩
     have hfin := As_ (HBr.out.trans (hb.mono HBr.out.size))
     clear JLr HBr hb
     go_wp2
     go_ret
     exact ⟨rfl, hfin.out⟩
end
end Go.Proofs.YtjappgjpikbdeaaGreatDoor.PTkp
