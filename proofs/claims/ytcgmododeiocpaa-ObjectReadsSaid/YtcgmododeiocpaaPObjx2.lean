-- written by wip/myprint.py over the kit's print; not a printed text of print.sh
import Derived.Test.YtcgmododeiocpaaPObjx0
import Derived.Test.YtcgmododeiocpaaPObjx1
namespace Go.Proofs.Ytcgmododeiocpaa.PObj
open Go.RowKit Go.Proofs.YtcgmododeiocpaaW.PrintWords Go.Proofs.YtcgmododeiocpaaW.PrintLast Go.Proofs.YtcgmododeiocpaaW.PrintMore
attribute [local go_sem] max2_int min2_int max_two min_two max_three min_three max_four min_four   -- for this text's walks alone
set_option linter.unusedVariables false
set_option linter.unusedSimpArgs false

/-! ### quote_Put: function 35 -/
/-- A byte within marks. -/
def qtOne (c : UInt8) : List UInt8 := if c.toNat < 32 ∨ c.toNat = 127 then [92, 117, 48, 48, hexU (c.toNat / 16), hexU (c.toNat % 16)] else if c.toNat = 34 ∨ c.toNat = 92 then [92, c] else [c]
theorem qtOne_len (c : UInt8) : (qtOne c).length ≤ 6 := by unfold qtOne; split <;> (try split) <;> simp
theorem qtAll_len (l : List UInt8) : (l.flatMap qtOne).length ≤ 6 * l.length := by
  induction l with
  | nil => simp
  | cons c l ih => rw [List.flatMap_cons, List.length_append, List.length_cons]; have := qtOne_len c; omega
set_option maxHeartbeats 2000000 in
set_option maxRecDepth 100000 in
theorem quote_put.calls (B b : Nat) (l : List UInt8) (c : UInt8) (w : World) (h : Lib.IsBuilder 58 5 B b (Lib.byteCells l) w) (hlen : l.length ≤ 100000000) (hBw : B ≤ w.heap.size) :
    Calls Try.prog 57 #[.pointer (some ⟨b, 0, none⟩), .int .u8 (c.toNat : Int)] w fun e w' => e = .returned (.tuple #[]) ∧ Lib.IsBuilder 58 5 B b (Lib.byteCells (l ++ qtOne c)) w' ∧ Below B w w' ∧ BKept 5 b w w' := by
  have hc := c.toNat_lt
  replace h := Aside0.mk h
  by_cases c1 : c.toNat < 32 ∨ c.toNat = 127
  · have hq : qtOne c = [92, 117, 48, 48, hexU (c.toNat / 16), hexU (c.toNat % 16)] := if_pos c1
    have hx1 : ∀ hn, (⟨#[48, 49, 50, 51, 52, 53, 54, 55, 56, 57, 97, 98, 99, 100, 101, 102]⟩ : ByteArray)[((c.toNat : Int) / 16).toNat]'hn = hexU (c.toNat / 16) := hexU_at (c.toNat / 16) (by omega)
    have hx2 : ∀ hn, (⟨#[48, 49, 50, 51, 52, 53, 54, 55, 56, 57, 97, 98, 99, 100, 101, 102]⟩ : ByteArray)[((c.toNat : Int) % 16).toNat]'hn = hexU (c.toNat % 16) := hexU_at (c.toNat % 16) (by omega)
    have hb3 : Go.bits .and .u8 (c.toNat : Int) 15 = (c.toNat : Int) % 16 := and_15 _ (by omega) (by omega)
    have hi1 : 0 ≤ (c.toNat : Int) / 16 := by omega
    have hi2 : (c.toNat : Int) / 16 < 16 := by omega
    have hi3 : 0 ≤ (c.toNat : Int) % 16 := by omega
    have hi4 : (c.toNat : Int) % 16 < 16 := by omega
    replace hq := Aside0.mk hq
    have c1b : decide ((c.toNat : Int) < 32) = true ∨ (decide ((c.toNat : Int) < 32) = false ∧ ((c.toNat : Int) == 127) = true) := by
      by_cases h32 : c.toNat < 32
      · exact .inl (decide_eq_true (by omega))
      · exact .inr ⟨decide_eq_false (by omega), beq_iff_eq.2 (by omega)⟩
    clear c1
    have e4 : (⟨#[92, 117, 48, 48]⟩ : ByteArray).toList = [92, 117, 48, 48] := by rw [ByteArray.toList_eq]
    replace e4 := Aside0.mk e4
    rcases c1b with c1b | ⟨c1b, c1c⟩
    all_goals
      go_enter Try.func57, Try.ntmps57
      go_wp2_with fail
      refine (bi_strU B b _ (⟨#[92, 117, 48, 48]⟩ : ByteArray) _ h.out (by show l.length + 4 ≤ _; omega) hBw).mono ?_
      rintro e w1 ⟨rfl, h1, hb1, hk1⟩
      replace h1 := Aside0.mk h1
      replace hk1 := Aside0.mk hk1
      replace hb1 := Aside0.mk hb1
      go_wp2_with fail
      refine (bi_byteU B b _ (hexU (c.toNat / 16)) _ h1.out (by rw [List.length_append, e4.out]; show l.length + 4 + 1 ≤ _; omega) (Nat.le_trans hBw hb1.out.size)).mono ?_
      rintro e w2 ⟨rfl, h2, hb2, hk2⟩
      replace h2 := Aside0.mk h2
      replace hk2 := Aside0.mk (hk1.out.trans hk2 hb1.out.size)
      replace hb2 := Aside0.mk (hb1.out.trans hb2)
      clear h1 hk1 hb1
      go_wp2_with fail
      refine (bi_byteU B b _ (hexU (c.toNat % 16)) _ h2.out (by rw [List.length_append, List.length_append, e4.out]; show l.length + 4 + 1 + 1 ≤ _; omega) (Nat.le_trans hBw hb2.out.size)).mono ?_
      rintro e w3 ⟨rfl, h3, hb3', hk3⟩
      replace h3 := Aside0.mk h3
      replace hk3 := Aside0.mk (hk2.out.trans hk3 hb2.out.size)
      replace hb3' := Aside0.mk (hb2.out.trans hb3')
      clear h2 hk2 hb2
      go_wp2_with fail
      first | go_end0 | ((try simp only [Exit.inBlock, Exit.then]); refine bodyPost_ret (results_none rfl _ _ _) rfl ?_)
      refine ⟨rfl, ?_, hb3'.out, hk3.out⟩
      rw [hq.out]
      have h4 := h3.out
      rw [List.append_assoc, List.append_assoc] at h4
      rw [e4.out] at h4
      exact h4
  · have c1b : decide ((c.toNat : Int) < 32) = false := decide_eq_false (by omega)
    have c1c : ((c.toNat : Int) == 127) = false := beq_eq_false_iff_ne.2 (by omega)
    by_cases c2 : c.toNat = 34 ∨ c.toNat = 92
    · have hq : Aside0 (qtOne c = [92, c]) := ⟨(if_neg c1).trans (if_pos c2)⟩
      have c2b : ((c.toNat : Int) == 34) = true ∨ (((c.toNat : Int) == 34) = false ∧ ((c.toNat : Int) == 92) = true) := by
        rcases c2 with c2 | c2
        · exact .inl (beq_iff_eq.2 (by omega))
        · exact .inr ⟨beq_eq_false_iff_ne.2 (by omega), beq_iff_eq.2 (by omega)⟩
      clear c1 c2
      rcases c2b with c2b | ⟨c2b, c2c⟩
      all_goals
        go_enter Try.func57, Try.ntmps57
        go_wp2_with fail
        refine (bi_byteU B b _ (92 : UInt8) _ h.out (by omega) hBw).mono ?_
        rintro e w1 ⟨rfl, h1, hb1, hk1⟩
        replace h1 := Aside0.mk h1
        replace hk1 := Aside0.mk hk1
        replace hb1 := Aside0.mk hb1
        go_wp2_with fail
        refine (bi_byteU B b _ c _ h1.out (by rw [List.length_append]; show l.length + 1 + 1 ≤ _; omega) (Nat.le_trans hBw hb1.out.size)).mono ?_
        rintro e w2 ⟨rfl, h2, hb2, hk2⟩
        replace h2 := Aside0.mk h2
        replace hk2 := Aside0.mk (hk1.out.trans hk2 hb1.out.size)
        replace hb2 := Aside0.mk (hb1.out.trans hb2)
        clear h1 hk1 hb1
        go_wp2_with fail
        first | go_end0 | ((try simp only [Exit.inBlock, Exit.then]); refine bodyPost_ret (results_none rfl _ _ _) rfl ?_)
        refine ⟨rfl, ?_, hb2.out, hk2.out⟩
        rw [hq.out]
        have h4 := h2.out
        rw [List.append_assoc] at h4
        exact h4
    · have hq : Aside0 (qtOne c = [c]) := ⟨(if_neg c1).trans (if_neg c2)⟩
      have c2b : ((c.toNat : Int) == 34) = false := beq_eq_false_iff_ne.2 (by omega)
      have c2c : ((c.toNat : Int) == 92) = false := beq_eq_false_iff_ne.2 (by omega)
      clear c1 c2
      go_enter Try.func57, Try.ntmps57
      go_wp2_with fail
      refine (bi_byteU B b _ c _ h.out (by omega) hBw).mono ?_
      rintro e w1 ⟨rfl, h1, hb1, hk1⟩
      replace h1 := Aside0.mk h1
      replace hk1 := Aside0.mk hk1
      replace hb1 := Aside0.mk hb1
      go_wp2_with fail
      first | go_end0 | ((try simp only [Exit.inBlock, Exit.then]); refine bodyPost_ret (results_none rfl _ _ _) rfl ?_)
      refine ⟨rfl, ?_, hb1.out, hk1.out⟩
      rw [hq.out]
      exact h1.out
def quote_Put.f (a0 : ByteArray) : Option ByteArray := if a0.size ≤ 1000000 then some (ofL (34 :: (a0.toList.flatMap qtOne ++ [34]))) else none
set_option maxHeartbeats 2000000 in
set_option maxRecDepth 100000 in
theorem quote_Put.calls (a0 : ByteArray) (r : ByteArray) (w : World) (h : quote_Put.f a0 = some r) :
    Calls Try.prog 35 #[.string a0] w fun e w' => e = .returned (.string r) ∧ Below w.heap.size w w' := by
  unfold quote_Put.f at h
  by_cases hs : a0.size ≤ 1000000
  case neg => rw [if_neg hs] at h; exact absurd h (by simp)
  rw [if_pos hs] at h
  obtain rfl := Option.some.inj h
  clear h
  have kb := fun W => print_bytes (P := Try.prog) 9 56 5 Try.underlying9 Try.underlying56 Try.underlying5 a0 W
  have h0 := Aside0.mk (bi_new w.heap.size w (Nat.le_refl _))
  go_enter Try.func35, Try.ntmps35
  go_wp2_with fail
  refine (bi_byteU w.heap.size w.heap.size [] (34 : UInt8) _ h0.out (by show 0 + 1 ≤ _; omega) (by simp)).mono ?_
  rintro e w1 ⟨rfl, h1, hb1, hk1⟩
  replace hb1 := Aside0.mk (((Below.refl w.heap.size w).alloc (Nat.le_refl _) _).trans hb1)
  replace h1 := Aside0.mk h1
  clear h0 hk1
  go_wp2_with fail
  have hS : Aside0 ((Lib.bytesWorld w1 5 a0).heap[w1.heap.size]? = some (.cells (Lib.bytesCells w1 5 a0) 5 ((Lib.bytesCells w1 5 a0).size, (Lib.bytesCells w1 5 a0).size + 1))) := ⟨Lib.bytesWorld_at_new w1 5 a0⟩
  have hc : Aside0 (∀ k, k < a0.size → (Lib.bytesCells w1 5 a0)[k]? = some (.int .u8 (bt a0 k))) := ⟨fun k hk => by
    have h1 := my_bytes_cell w1 5 a0 k w1.heap.size rfl hk
    simpa [World.cell?, hS.out] using h1⟩
  have hbl : Aside0 (Below w.heap.size w (Lib.bytesWorld w1 5 a0)) := ⟨bytes_below hb1.out hb1.out.size 5 a0⟩
  have hB : Aside0 (Lib.IsBuilder 58 5 w.heap.size w.heap.size (Lib.byteCells [34]) (Lib.bytesWorld w1 5 a0)) := ⟨bi_below h1.out (bytes_below (Below.refl _ _) (Nat.le_refl _) 5 a0)⟩
  have hSlt : w.heap.size < w1.heap.size := by
    rcases h1.out with x | x
    · obtain ⟨_, v, h2, _, _⟩ := x; exact (Array.getElem?_eq_some_iff.1 h2).1
    · obtain ⟨_, v, h2, _, _⟩ := x; exact (Array.getElem?_eq_some_iff.1 h2).1
  clear h1 hb1 kb
  generalize Lib.bytesCells w1 5 a0 = cs at hS hc
  generalize hSS : w1.heap.size = S at hS hSlt
  go_loopw [10] (fun i wr => ∃ k : Nat, k ≤ a0.size ∧ i = .int .i64 k ∧ Aside0 (Lib.IsBuilder 58 5 w.heap.size w.heap.size (Lib.byteCells (34 :: (a0.toList.take k).flatMap qtOne)) wr) ∧ Aside0 (wr.heap[S]? = some (.cells cs 5 (cs.size, cs.size + 1))) ∧ Aside0 (Below w.heap.size w wr)) (fun i _ => a0.size - (intOf i).toNat)
  case atStart => exact ⟨0, Nat.zero_le _, rfl, hB, hS, hbl⟩
  case round =>
    obtain ⟨k, hk, rfl, hB, hS, hbl⟩ := hrel
    have hlen : (34 :: (a0.toList.take k).flatMap qtOne).length ≤ 6 * k + 1 := by
      have := qtAll_len (a0.toList.take k)
      rw [List.length_take, ← ba_size] at this
      rw [List.length_cons]; omega
    by_cases hkl : k < a0.size
    · have hcell := my_cell_of hS.out (hc.out k hkl)
      have hl : k < a0.toList.length := by rw [← ba_size]; exact hkl
      have hbt := bt_get a0 k hl
      have htk := List.take_succ_eq_append_getElem hl
      generalize a0.toList[k] = c at hbt htk
      rw [hbt] at hcell
      replace htk := Aside0.mk htk
      clear hbt
      go_wp2_with fail
      refine (quote_put.calls w.heap.size w.heap.size _ c _ hB.out (by omega) hbl.out.size).mono ?_
      rintro e w2 ⟨rfl, h2, hb2, hk2⟩
      have hS2 : Aside0 (w2.heap[S]? = some (.cells cs 5 (cs.size, cs.size + 1))) := ⟨(hk2 S (Array.getElem?_eq_some_iff.1 hS.out).1 (Nat.ne_of_gt hSlt) (fun cs' he => by rw [hS.out] at he; injection he with he; injection he with _ _ h3; simp at h3)).trans hS.out⟩
      replace h2 := Aside0.mk h2
      replace hb2 := Aside0.mk (hbl.out.trans hb2)
      have h3 : Aside0 (Lib.IsBuilder 58 5 w.heap.size w.heap.size (Lib.byteCells (34 :: (a0.toList.take (k + 1)).flatMap qtOne)) w2) := ⟨by
        rw [htk.out, List.flatMap_append]
        have := h2.out
        rw [List.cons_append] at this
        simpa using this⟩
      clear hB hS hbl hk2 h2 htk hcell
      go_wp2
      go_roundw
      case rel => exact ⟨k + 1, by omega, by go_num, h3, hS2, hb2⟩
      case measure => simp [intOf]; omega
    · have hk2 : k = a0.size := by omega
      subst hk2
      have htk : a0.toList.take a0.size = a0.toList := by rw [ba_size]; exact List.take_length
      rw [htk] at hB hlen
      replace htk := Aside0.mk htk
      go_wp2_with fail
      refine (bi_byteU w.heap.size w.heap.size _ (34 : UInt8) _ hB.out (by omega) hbl.out.size).mono ?_
      rintro e w2 ⟨rfl, h2, hb2, hk2⟩
      replace h2 := Aside0.mk h2
      replace hb2 := Aside0.mk (hbl.out.trans hb2)
      clear hB hS hbl hk2 htk
      go_wp2_with fail
      refine (Try.Builder_String_any w.heap.size w.heap.size _ _ h2.out hb2.out.size).mono ?_
      rintro e w3 ⟨rfl, hb3⟩
      replace hb3 := Aside0.mk (hb2.out.trans hb3)
      clear h2 hb2
      go_wp2
      go_ret
      exact ⟨rfl, hb3.out⟩

/-! ### strings_Join: function 37 -/
def strings_Join.f (l0 : List ByteArray) (a1 : ByteArray) : Option ByteArray := if l0.length ≤ 1000000000 ∧ (Lib.join (l0.map ByteArray.toList) a1.toList).length ≤ 1000000000 then some (ofL (Lib.join (l0.map ByteArray.toList) a1.toList)) else none
theorem strings_Join.calls (A0 : Option Addr) (c0 : Nat) (l0 : List ByteArray) (a1 : ByteArray) (r : ByteArray) (w : World) (hr0 : Kd.C Kd.string w A0 l0.length l0) (hc0 : l0.length ≤ c0) (h : strings_Join.f l0 a1 = some r) :
    Calls Try.prog 37 #[.slice A0 l0.length c0, .string a1] w fun e w' => e = .returned (.string r) ∧ Below w.heap.size w w' := by
  unfold strings_Join.f at h
  by_cases hc : l0.length ≤ 1000000000 ∧ (Lib.join (l0.map ByteArray.toList) a1.toList).length ≤ 1000000000
  case neg => rw [if_neg hc] at h; exact absurd h (by simp)
  rw [if_pos hc] at h
  obtain rfl := Option.some.inj h
  obtain ⟨h1, h2⟩ := hc
  have hm : l0.map ByteArray.toList = l0.map (fun x => x.data.toList) := List.map_congr_left (fun x _ => by rw [ByteArray.toList_eq])
  rw [hm, ByteArray.toList_eq] at h2 ⊢
  by_cases hn : l0.length = 0
  · obtain rfl : l0 = [] := List.length_eq_zero_iff.1 hn
    refine (Try.strings_Join_none A0 c0 a1 w).mono ?_
    rintro e w' ⟨rfl, rfl⟩
    exact ⟨by simp [Lib.join_nil, ofL], Below.refl _ _⟩
  · obtain ⟨ad, e, hx⟩ := Kd.at_string hr0 0 (by omega) (by omega)
    have hsp : ad.spot = none := by
      have h3 : w.cell? ad = some _ := hx
      unfold World.cell? at h3
      split at h3
      · by_cases hs : ad.spot.isSome = true
        · rw [if_pos hs] at h3; exact absurd h3 (by simp)
        · simpa using hs
      · exact absurd h3 (by simp)
    obtain ⟨bk, o, sp⟩ := ad
    simp only at hsp
    subst hsp
    subst e
    have hcells : ∀ (j : Nat) x, l0[j]? = some x → w.cell? ⟨bk, o + j, none⟩ = some (.string x) := fun j x hj => by
      have hjl : j < l0.length := (List.getElem?_eq_some_iff.1 hj).1
      obtain ⟨ad2, e2, hx2⟩ := Kd.at_string hr0 (j : Int) (by omega) (by omega)
      injection e2 with e2
      subst e2
      rw [Int.toNat_natCast] at hx2
      unfold rdOf at hx2
      rw [Int.toNat_natCast, List.getD_eq_getElem?_getD, hj] at hx2
      have ha : (⟨bk, o, none⟩ : Addr).add j = ⟨bk, o + j, none⟩ := by
        unfold Addr.add
        by_cases h0 : j = 0
        · rw [if_pos h0, h0]; rfl
        · rw [if_neg h0]
      rw [ha] at hx2
      exact hx2
    have hbk : bk < w.heap.size := World.block_lt_of_cell? w _ (hcells 0 _ (List.getElem?_eq_getElem (by omega)))
    exact Try.strings_Join bk o c0 l0 a1 w hcells hbk (by omega) hc0 (by omega)

/-! ### object_value: function 36 -/
def object_value.l0 : Nat → List ByteArray → List ByteArray → Int → Int → Option (ByteArray)
  | 0, _, _, _, _ => none
  | k + 1, x3, x13, x14, x15 => if x15 < x14 then (if 0 ≤ x15 then (if x15 < (x13.length : Int) then ((quote_Put.f (rdOf ByteArray.empty x13 x15)).bind fun t110 => (if x3.length < 8796093022208 then (object_value.l0 k (x3 ++ [t110]) x13 x14 (wrap64 (x15 + 1))) else (none))) else (none)) else (none)) else ((strings_Join.f x3 (⟨#[44]⟩ : ByteArray)).bind fun t114 => (if 1 + t114.size ≤ 9223372036854775807 then (if ((⟨#[91]⟩ : ByteArray) ++ t114).size + 1 ≤ 9223372036854775807 then (some (((⟨#[91]⟩ : ByteArray) ++ t114) ++ (⟨#[93]⟩ : ByteArray))) else (none)) else (none)))
def object_value.f (k : Nat) (a0_0 : ByteArray) (a0_1 : ByteArray) (l0_2 : List ByteArray) (a0_3 : Bool) : Option (ByteArray) := if a0_3 = true then (object_value.l0 k ([] : List ByteArray) l0_2 (l0_2.length : Int) 0) else ((quote_Put.f a0_1).bind fun t108 => (some t108))
theorem object_value.mono_l : ∀ k, (∀ y0 y1 y2 y3, LeO (object_value.l0 k y0 y1 y2 y3) (object_value.l0 (k + 1) y0 y1 y2 y3))
  | 0 => fun _ _ _ _ r h => by simp [object_value.l0] at h
  | k + 1 => by
    have ih0 := object_value.mono_l k
    · intro y0 y1 y2 y3
      unfold object_value.l0
      repeat' first
      | (with_reducible exact ih0 _ _ _ _)
      | (with_reducible exact LeO.refl _)
      | (with_reducible exact LeO.none _)
      | (with_reducible refine LeO.ite ?_ ?_)
      | (with_reducible refine LeO.bind ?_ (fun _ => ?_))
      | exact ih0 _ _ _ _
      | exact LeO.none _
      | refine LeO.ite ?_ ?_
      | refine LeO.bind ?_ (fun _ => ?_)
theorem object_value.mono : ∀ a0 a1 a2 a3 k, LeO (object_value.f k a0 a1 a2 a3) (object_value.f (k + 1) a0 a1 a2 a3) := by
  intro a0 a1 a2 a3 k
  have ih0 := object_value.mono_l k
  unfold object_value.f
  repeat' first
      | (with_reducible exact ih0 _ _ _ _)
      | (with_reducible exact LeO.refl _)
      | (with_reducible exact LeO.none _)
      | (with_reducible refine LeO.ite ?_ ?_)
      | (with_reducible refine LeO.bind ?_ (fun _ => ?_))
      | exact ih0 _ _ _ _
      | exact LeO.none _
      | refine LeO.ite ?_ ?_
      | refine LeO.bind ?_ (fun _ => ?_)
set_option maxHeartbeats 8000000 in
set_option maxRecDepth 100000 in
theorem object_value.calls (k : Nat) (a0_0 : ByteArray) (a0_1 : ByteArray) (A0_2 : Option Addr) (c0_2 : Nat) (l0_2 : List ByteArray) (a0_3 : Bool) (r : ByteArray) (w : World) (hr0_2 : Kd.C Kd.string w A0_2 l0_2.length l0_2) (hc0_2 : l0_2.length ≤ c0_2) (h : object_value.f k a0_0 a0_1 l0_2 a0_3 = some r) :
    Calls Try.prog 36 #[.agg #[.string a0_0, .string a0_1, .slice A0_2 l0_2.length c0_2, .bool a0_3]] w fun e w' => e = .returned (.string r) ∧ Below w.heap.size w w' := by
  have hu42 := Try.underlying42
  have HR0_2 := Aside0.mk hr0_2
  have HC0_2 := Aside0.mk hc0_2
  clear hr0_2 hc0_2
  have HB := Aside0.mk (Below.refl w.heap.size w)
  have H : (if a0_3 = true then (object_value.l0 k ([] : List ByteArray) l0_2 (l0_2.length : Int) 0) else ((quote_Put.f a0_1).bind fun t108 => (some t108))) = some r := h
  clear h
  by_cases c2 : a0_3 = true
  · subst c2
    have H1 : (object_value.l0 k ([] : List ByteArray) l0_2 (l0_2.length : Int) 0) = some r := by rw [if_pos rfl] at H; exact H
    clear H
    have H := H1
    clear H1
    have H' := Aside0.mk H
    clear H
    go_enter Try.func36, Try.ntmps36
    go_wp2_with (first | ((with_reducible refine gate_dst (N := 1) rfl ?_); refine box_event ?hg (N := 1) ?hd (cs := #[.string a0_0, .string a0_1, .slice A0_2 l0_2.length c0_2, .bool true]) (t := 42) ?hr ?_; (case hd => rfl); (case hg => rfl); (case hr => first | (go_simp; done) | (go_simp; rfl)); intro gb107 hg w3 hbox hb; have n0_ := Aside0.mk (below_step (by repeat (first | (with_reducible first | exact HB.out | apply below_alloc | apply pw_below_drewN | apply below_drew1) | exact HB.out)) hb); have n1_ := Aside0.mk (hbox); have n2_ := Aside0.mk ((by rw [hg]; exact (below_size (by repeat (first | (with_reducible first | exact HB.out | apply below_alloc | apply pw_below_drewN | apply below_drew1) | exact HB.out))) : w.heap.size ≤ gb107)); have n3_ := Aside0.mk ((by rw [hg]; exact (below_size (by repeat (first | (with_reducible first | exact HB.out | apply below_alloc | apply pw_below_drewN | apply below_drew1) | exact HB.out))) : w.heap.size ≤ gb107)); clear HB; have HB := n0_; have BK107 := n1_; have GW107 := n2_; have GE107 := n3_; clear n0_ n1_ n2_ n3_; clear hb hbox hg; have hcz4_0 : w3.cell? ⟨gb107, 0, none⟩ = some (.string a0_0) := (blk_cell BK107.out 0).trans rfl; have hcz4_1 : w3.cell? ⟨gb107, 1, none⟩ = some (.string a0_1) := (blk_cell BK107.out 1).trans rfl; have hcz4_2 : w3.cell? ⟨gb107, 2, none⟩ = some (.slice A0_2 l0_2.length c0_2) := (blk_cell BK107.out 2).trans rfl; have hcz4_3 : w3.cell? ⟨gb107, 3, none⟩ = some (.bool true) := (blk_cell BK107.out 3).trans rfl; have hfz4_0 := blk_frozen BK107.out 0; have hfz4_1 := blk_frozen BK107.out 1; have hfz4_2 := blk_frozen BK107.out 2; have hfz4_3 := blk_frozen BK107.out 3))
    go_loopg [3, 15] k (fun kq v3 v15 w' => ∃ (x3_1 : List ByteArray) (x15_1 : Int), v15 = .int .i64 x15_1 ∧ Aside0 (object_value.l0 kq x3_1 l0_2 (l0_2.length : Int) x15_1 = some r) ∧ Aside0 (kq ≤ k) ∧ Aside0 (Kd.R Kd.string 9 w' w.heap.size (fun _ => True) v3 x3_1) ∧ Aside0 (w'.heap[gb107]? = some (.cells #[.string a0_0, .string a0_1, (.slice A0_2 l0_2.length c0_2), .bool true] 42 (0, 0))) ∧ Aside0 (Below w.heap.size w w'))
    case atStart => exact ⟨(([] : List ByteArray)), (0), (by first | rfl | (simp; done) | (simp [*]; done)), H', ⟨Nat.le_refl _⟩, ⟨by first | exact Kd.R_nil _ _ _ _ _ | exact Kd.N_nil _ _ _ _ _ | exact Kd.V_nil _ _ _ _ _ | exact Kd.Q_nil _ _ _ _ _ | exact Kd.S_nil _ _ _ _ _⟩, ⟨by (with_reducible repeat (first | refine blk_drewN ?_ _ | refine blk_drew ?_ | refine blk_alloc ?_ _)); exact BK107.out⟩, ⟨by repeat (first | (with_reducible first | exact HB.out | apply below_alloc | apply pw_below_drewN | apply below_drew1 | refine below_set ?_ GE107.out) | exact HB.out)⟩⟩
    case round =>
      clear H'
      try clear c2
      try clear p2
      try clear c3
      try clear hcz4_0
      try clear hcz4_1
      try clear hcz4_2
      try clear hcz4_3
      try clear hfz4_0
      try clear hfz4_1
      try clear hfz4_2
      try clear hfz4_3
      obtain ⟨x3_1, x15_1, rfl, HA, HK1, HO_3, BK107, HB⟩ := hrel
      cases gk with
      | zero => exact absurd HA.out (by simp [object_value.l0])
      | succ k1 =>
        have H := HA.out
        clear HA
        simp only [object_value.l0] at H
        by_cases c5 : x15_1 < (l0_2.length : Int)
        · rw [if_pos c5] at H
          have c5b0 : decide (x15_1 < (l0_2.length : Int)) = true := decide_eq_true c5
          clear c5
          by_cases c6 : 0 ≤ x15_1
          · rw [if_pos c6] at H
            have c6b0 : decide (0 ≤ x15_1) = true := decide_eq_true c6
            clear c6
            by_cases c7 : x15_1 < (l0_2.length : Int)
            · rw [if_pos c7] at H
              have c7b0 : decide (x15_1 < (l0_2.length : Int)) = true := decide_eq_true c7
              clear c7
              replace H := Option.bind_eq_some_iff.mp H
              obtain ⟨t110, A80, H⟩ := H
              replace H : (if x3_1.length < 8796093022208 then (object_value.l0 k1 (x3_1 ++ [t110]) l0_2 (l0_2.length : Int) (wrap64 (x15_1 + 1))) else (none)) = some r := H
              have A8 := Aside0.mk A80
              clear A80
              by_cases c9 : x3_1.length < 8796093022208
              · rw [if_pos c9] at H
                have LMc9 := Aside0.mk c9
                clear c9
                obtain ⟨y111, hy111⟩ : ∃ y_ : List ByteArray, y_ = (x3_1 ++ [t110]) := ⟨_, rfl⟩
                replace H : (object_value.l0 k1 y111 l0_2 (l0_2.length : Int) (wrap64 (x15_1 + 1))) = some r := by first | (rw [hy111]; with_reducible exact H) | (have H2_ := (Option.bind_some _ _).symm.trans H; rw [hy111]; with_reducible exact H2_) | (have H2_ := (Option.bind_some _ _).symm.trans H; with_reducible exact H2_) | with_reducible exact H | (rw [hy111]; exact H) | exact H
                have Ny111 := Aside0.mk hy111
                clear hy111
                have H' := Aside0.mk H
                clear H
                have p109 : 0 ≤ (x15_1 : Int) := of_decide_eq_true (by first | (with_reducible assumption) | assumption)
                have q109 : x15_1 < (l0_2.length : Int) := of_decide_eq_true (by first | (with_reducible assumption) | assumption)
                obtain ⟨ad109, e109, hx109_0⟩ := Kd.at_string HR0_2.out x15_1 p109 q109
                cases e109
                replace hx109_0 := (HB.out.cell (World.block_lt_of_cell? w _ hx109_0)).trans hx109_0
                replace p109 := eq_true p109
                replace q109 := eq_true q109
                go_wp2_with (first | ((with_reducible refine gate_callee (f := 35) rfl ?_); refine goesL_ (some 21) rfl rfl Try.func35 (by kernel_rfl) rfl #[.string (rdOf ByteArray.empty l0_2 x15_1)] rfl (by (try simp only [List.map_toArray, List.map_cons, List.map_nil]); first | done | rfl | (simp only [List.length_drop, List.length_take]; rfl)) ?_; (with_reducible refine (quote_Put.calls (rdOf ByteArray.empty l0_2 x15_1) t110 _ A8.out).mono ?_); rintro e w10 ⟨rfl, hb⟩; refine ⟨_, rfl, ?_⟩; have n0_ := Aside0.mk (Kd.R_below (by (with_reducible repeat (first | apply Kd.R_alloc | apply Kd.R_drewN | apply Kd.R_drew)); exact HO_3.out) hb); have n1_ := Aside0.mk (blk_below (g := gb107) (o := .cells #[.string a0_0, .string a0_1, .slice (some ad109) l0_2.length c0_2, .bool true] 42 (0, 0)) (by (with_reducible repeat (first | refine blk_drewN ?_ _ | refine blk_drew ?_ | refine blk_alloc ?_ _)); exact BK107.out) hb); have n2_ := Aside0.mk (below_step (by repeat (first | (with_reducible first | exact HB.out | apply below_alloc | apply pw_below_drewN | apply below_drew1 | refine below_set ?_ GE107.out) | exact HB.out)) hb); clear HO_3; clear BK107; clear HB; have HO_3 := n0_; have BK107 := n1_; have HB := n2_; clear n0_ n1_ n2_; (try clear hb); (try clear hb2); (try clear hk); (try clear hi)) | ((with_reducible refine gate_builtin (b := .append) (xs := #[.tmp 19, .tmp 22]) rfl ?_); at_builtin; refine Kd.R_append Kd.string (w0 := w) w.heap.size rfl (.tmp 19) (.tmp 22) 40 9 (.string ⟨#[]⟩) 16 rfl Try.underlying40 info9 rfl (by decide) (by omega) u3 x3_1 t110 [.string t110] (fun _ => True) (fun _ => False) rfl rfl ?aP (fun _ hk => hk.elim) ?aF ?aO ?aB ?aS ?aL ?_; (case aP => exact rfl); (case aB => exact (by repeat (first | (with_reducible first | exact HB.out | apply below_alloc | apply pw_below_drewN | apply below_drew1 | refine below_set ?_ GE107.out) | exact HB.out))); (case aF => exact (fun _ _ => trivial)); (case aO => exact (by (with_reducible repeat (first | apply Kd.R_alloc | apply Kd.R_drewN | apply Kd.R_drew)); exact HO_3.out)); (case aS => exact (below_size (by repeat (first | (with_reducible first | exact HB.out | apply below_alloc | apply pw_below_drewN | apply below_drew1 | refine below_set ?_ GE107.out) | exact HB.out)))); (case aL => have := LMc9.out; omega); intro v112 w11 ho hb hg hat; rw [← Ny111.out] at ho; have n0_ := Aside0.mk (blk_grown (g := gb107) (o := .cells #[.string a0_0, .string a0_1, .slice (some ad109) l0_2.length c0_2, .bool true] 42 (0, 0)) (by (with_reducible repeat (first | refine blk_drewN ?_ _ | refine blk_drew ?_ | refine blk_alloc ?_ _)); exact BK107.out) hg (Kd.R_ne HO_3.out BK107.out (by decide))); have n1_ := Aside0.mk (hb); have n2_ := Aside0.mk (ho); clear BK107; clear HB; clear HO_3; have BK107 := n0_; have HB := n1_; have HO113 := n2_; clear n0_ n1_ n2_; clear ho hb hg hat))
                go_roundg k1
                case measure => have := HK1.out; omega
                case rel => exact ⟨(y111), (wrap64 (x15_1 + 1)), (by first | rfl | (simp; done) | (simp [*]; done)), H', ⟨by have := HK1.out; omega⟩, ⟨by (with_reducible repeat (first | apply Kd.R_alloc | apply Kd.R_drewN | apply Kd.R_drew)); exact HO113.out⟩, ⟨by (with_reducible repeat (first | refine blk_drewN ?_ _ | refine blk_drew ?_ | refine blk_alloc ?_ _)); exact BK107.out⟩, ⟨by repeat (first | (with_reducible first | exact HB.out | apply below_alloc | apply pw_below_drewN | apply below_drew1 | refine below_set ?_ GE107.out) | exact HB.out)⟩⟩
              · rw [if_neg c9] at H
                exact absurd H (by simp)
            · rw [if_neg c7] at H
              exact absurd H (by simp)
          · rw [if_neg c6] at H
            exact absurd H (by simp)
        · rw [if_neg c5] at H
          have c5b0 : decide (x15_1 < (l0_2.length : Int)) = false := decide_eq_false c5
          clear c5
          replace H := Option.bind_eq_some_iff.mp H
          obtain ⟨t114, A120, H⟩ := H
          replace H : (if 1 + t114.size ≤ 9223372036854775807 then (if ((⟨#[91]⟩ : ByteArray) ++ t114).size + 1 ≤ 9223372036854775807 then (some (((⟨#[91]⟩ : ByteArray) ++ t114) ++ (⟨#[93]⟩ : ByteArray))) else (none)) else (none)) = some r := H
          have A12 := Aside0.mk A120
          clear A120
          by_cases c13 : 1 + t114.size ≤ 9223372036854775807
          · rw [if_pos c13] at H
            have c13b0 := eq_true c13
            have c13b1 : decide (1 + t114.size ≤ 9223372036854775807) = true := decide_eq_true c13
            try have c13b2 : (9223372036854775807 < 1 + t114.size) = False := eq_false (Nat.not_lt.2 c13)
            by_cases c14 : ((⟨#[91]⟩ : ByteArray) ++ t114).size + 1 ≤ 9223372036854775807
            · rw [if_pos c14] at H
              have c14b0 := eq_true c14
              have c14b1 : decide (((⟨#[91]⟩ : ByteArray) ++ t114).size + 1 ≤ 9223372036854775807) = true := decide_eq_true c14
              try have c14b2 : (9223372036854775807 < ((⟨#[91]⟩ : ByteArray) ++ t114).size + 1) = False := eq_false (Nat.not_lt.2 c14)
              try (have c14b2_ := c14b2; simp only [ByteArray.size_append, my_lit_size, List.length_cons, List.length_nil, Nat.reduceAdd] at c14b2_)
              obtain rfl := Option.some.inj H
              obtain ⟨Ao15, co15, eo15⟩ := Kd.R_slice HO_3.out
              subst eo15
              go_wp2_with (first | ((with_reducible refine gate_callee (f := 37) rfl ?_); refine goesL_ (some 26) rfl rfl Try.func37 (by kernel_rfl) rfl #[.slice Ao15 x3_1.length co15, .string (⟨#[44]⟩ : ByteArray)] rfl (by (try simp only [List.map_toArray, List.map_cons, List.map_nil]); first | done | rfl | (simp only [List.length_drop, List.length_take]; rfl)) ?_; (with_reducible refine (strings_Join.calls _ _ x3_1 (⟨#[44]⟩ : ByteArray) t114 _ ?side1 ?side2 A12.out).mono ?_); (case side1 => repeat (first | exact (Kd.R_reads' HO_3.out).2.2 | (with_reducible refine Kd.C_alloc ?_ _) | (with_reducible refine Kd.C_drewN ?_ _) | (with_reducible refine Kd.C_drew ?_))); (case side2 => exact (Kd.R_reads' HO_3.out).2.1); rintro e w16 ⟨rfl, hb⟩; refine ⟨_, rfl, ?_⟩; have n0_ := Aside0.mk (Kd.R_below (by (with_reducible repeat (first | apply Kd.R_alloc | apply Kd.R_drewN | apply Kd.R_drew)); exact HO_3.out) hb); have n1_ := Aside0.mk (blk_below (g := gb107) (o := .cells #[.string a0_0, .string a0_1, .slice A0_2 l0_2.length c0_2, .bool true] 42 (0, 0)) (by (with_reducible repeat (first | refine blk_drewN ?_ _ | refine blk_drew ?_ | refine blk_alloc ?_ _)); exact BK107.out) hb); have n2_ := Aside0.mk (below_step (by repeat (first | (with_reducible first | exact HB.out | apply below_alloc | apply pw_below_drewN | apply below_drew1 | refine below_set ?_ GE107.out) | exact HB.out)) hb); clear HO_3; clear BK107; clear HB; have HO_3 := n0_; have BK107 := n1_; have HB := n2_; clear n0_ n1_ n2_; (try clear hb); (try clear hb2); (try clear hk); (try clear hi)))
              go_ret
              exact ⟨by first | rfl | (simp [errW_none, errW_some] <;> rfl) | (simp [*, errW_none, errW_some] <;> rfl), by repeat (first | (with_reducible first | exact HB.out | apply below_alloc | apply pw_below_drewN | apply below_drew1 | refine below_set ?_ GE107.out) | exact HB.out)⟩
            · rw [if_neg c14] at H
              exact absurd H (by simp)
          · rw [if_neg c13] at H
            exact absurd H (by simp)
  · replace c2 := Bool.eq_false_iff.mpr c2
    subst c2
    have H1 : ((quote_Put.f a0_1).bind fun t108 => (some t108)) = some r := by rw [if_neg (show ¬ (false = true) by decide)] at H; exact H
    clear H
    have H := H1
    clear H1
    replace H := Option.bind_eq_some_iff.mp H
    obtain ⟨t108, A170, H⟩ := H
    replace H : (some t108) = some r := H
    have A17 := Aside0.mk A170
    clear A170
    obtain rfl := Option.some.inj H
    go_enter Try.func36, Try.ntmps36
    go_wp2_with (first | ((with_reducible refine gate_dst (N := 1) rfl ?_); refine box_event ?hg (N := 1) ?hd (cs := #[.string a0_0, .string a0_1, .slice A0_2 l0_2.length c0_2, .bool false]) (t := 42) ?hr ?_; (case hd => rfl); (case hg => rfl); (case hr => first | (go_simp; done) | (go_simp; rfl)); intro gb107 hg w18 hbox hb; have n0_ := Aside0.mk (below_step (by repeat (first | (with_reducible first | exact HB.out | apply below_alloc | apply pw_below_drewN | apply below_drew1) | exact HB.out)) hb); have n1_ := Aside0.mk (hbox); have n2_ := Aside0.mk ((by rw [hg]; exact (below_size (by repeat (first | (with_reducible first | exact HB.out | apply below_alloc | apply pw_below_drewN | apply below_drew1) | exact HB.out))) : w.heap.size ≤ gb107)); have n3_ := Aside0.mk ((by rw [hg]; exact (below_size (by repeat (first | (with_reducible first | exact HB.out | apply below_alloc | apply pw_below_drewN | apply below_drew1) | exact HB.out))) : w.heap.size ≤ gb107)); clear HB; have HB := n0_; have BK107 := n1_; have GW107 := n2_; have GE107 := n3_; clear n0_ n1_ n2_ n3_; clear hb hbox hg; have hcz19_0 : w18.cell? ⟨gb107, 0, none⟩ = some (.string a0_0) := (blk_cell BK107.out 0).trans rfl; have hcz19_1 : w18.cell? ⟨gb107, 1, none⟩ = some (.string a0_1) := (blk_cell BK107.out 1).trans rfl; have hcz19_2 : w18.cell? ⟨gb107, 2, none⟩ = some (.slice A0_2 l0_2.length c0_2) := (blk_cell BK107.out 2).trans rfl; have hcz19_3 : w18.cell? ⟨gb107, 3, none⟩ = some (.bool false) := (blk_cell BK107.out 3).trans rfl; have hfz19_0 := blk_frozen BK107.out 0; have hfz19_1 := blk_frozen BK107.out 1; have hfz19_2 := blk_frozen BK107.out 2; have hfz19_3 := blk_frozen BK107.out 3) | ((with_reducible refine gate_callee (f := 35) rfl ?_); refine goesL_ (some 11) rfl rfl Try.func35 (by kernel_rfl) rfl #[.string a0_1] rfl (by (try simp only [List.map_toArray, List.map_cons, List.map_nil]); first | done | rfl | (simp only [List.length_drop, List.length_take]; rfl)) ?_; (with_reducible refine (quote_Put.calls a0_1 t108 _ A17.out).mono ?_); rintro e w20 ⟨rfl, hb⟩; refine ⟨_, rfl, ?_⟩; have n0_ := Aside0.mk (blk_below (g := gb107) (o := .cells #[.string a0_0, .string a0_1, .slice A0_2 l0_2.length c0_2, .bool false] 42 (0, 0)) (by (with_reducible repeat (first | refine blk_drewN ?_ _ | refine blk_drew ?_ | refine blk_alloc ?_ _)); exact BK107.out) hb); have n1_ := Aside0.mk (below_step (by repeat (first | (with_reducible first | exact HB.out | apply below_alloc | apply pw_below_drewN | apply below_drew1 | refine below_set ?_ GE107.out) | exact HB.out)) hb); clear BK107; clear HB; have BK107 := n0_; have HB := n1_; clear n0_ n1_; (try clear hb); (try clear hb2); (try clear hk); (try clear hi)))
    go_ret
    exact ⟨by first | rfl | (simp [errW_none, errW_some] <;> rfl) | (simp [*, errW_none, errW_some] <;> rfl), by repeat (first | (with_reducible first | exact HB.out | apply below_alloc | apply pw_below_drewN | apply below_drew1 | refine below_set ?_ GE107.out) | exact HB.out)⟩

/-! ### object_Put: function 17 -/
def object_Put.l0 : Nat → List ByteArray → List (S42) → Int → Int → Option (ByteArray × Int)
  | 0, _, _, _, _ => none
  | k + 1, x4, x10, x11, x12 => if x12 < x11 then (if 0 ≤ x12 then (if x12 < (x10.length : Int) then ((quote_Put.f ((rd_T42 x10 x12).f0)).bind fun t118 => (if t118.size + 1 ≤ 9223372036854775807 then ((object_value.f k ((rd_T42 x10 x12).f0) ((rd_T42 x10 x12).f1) ((rd_T42 x10 x12).f2) ((rd_T42 x10 x12).f3)).bind fun t119 => (if (t118 ++ (⟨#[58]⟩ : ByteArray)).size + t119.size ≤ 9223372036854775807 then (if x4.length < 8796093022208 then (object_Put.l0 k (x4 ++ [(t118 ++ (⟨#[58]⟩ : ByteArray)) ++ t119]) x10 x11 (wrap64 (x12 + 1))) else (none)) else (none))) else (none))) else (none)) else (none)) else ((strings_Join.f x4 (⟨#[44]⟩ : ByteArray)).bind fun t123 => (if 1 + t123.size ≤ 9223372036854775807 then (if ((⟨#[123]⟩ : ByteArray) ++ t123).size + 1 ≤ 9223372036854775807 then (some (((⟨#[123]⟩ : ByteArray) ++ t123) ++ (⟨#[125]⟩ : ByteArray), 0)) else (none)) else (none)))
def object_Put.f (k : Nat) (l0 : List (S42)) : Option (ByteArray × Int) := (object_fine.f l0).bind fun t115 => (if t115 = true then (object_Put.l0 k ([] : List ByteArray) l0 (l0.length : Int) 0) else (some ((⟨#[]⟩ : ByteArray), 6)))
theorem object_Put.mono_l : ∀ k, (∀ y0 y1 y2 y3, LeO (object_Put.l0 k y0 y1 y2 y3) (object_Put.l0 (k + 1) y0 y1 y2 y3))
  | 0 => fun _ _ _ _ r h => by simp [object_Put.l0] at h
  | k + 1 => by
    have ih0 := object_Put.mono_l k
    · intro y0 y1 y2 y3
      unfold object_Put.l0
      repeat' first
      | (with_reducible exact ih0 _ _ _ _)
      | (with_reducible exact object_value.mono _ _ _ _ _)
      | (with_reducible exact LeO.refl _)
      | (with_reducible exact LeO.none _)
      | (with_reducible refine LeO.ite ?_ ?_)
      | (with_reducible refine LeO.bind ?_ (fun _ => ?_))
      | exact ih0 _ _ _ _
      | exact object_value.mono _ _ _ _ _
      | exact LeO.none _
      | refine LeO.ite ?_ ?_
      | refine LeO.bind ?_ (fun _ => ?_)
theorem object_Put.mono : ∀ a0 k, LeO (object_Put.f k a0) (object_Put.f (k + 1) a0) := by
  intro a0 k
  have ih0 := object_Put.mono_l k
  unfold object_Put.f
  repeat' first
      | (with_reducible exact ih0 _ _ _ _)
      | (with_reducible exact object_value.mono _ _ _ _ _)
      | (with_reducible exact LeO.refl _)
      | (with_reducible exact LeO.none _)
      | (with_reducible refine LeO.ite ?_ ?_)
      | (with_reducible refine LeO.bind ?_ (fun _ => ?_))
      | exact ih0 _ _ _ _
      | exact object_value.mono _ _ _ _ _
      | exact LeO.none _
      | refine LeO.ite ?_ ?_
      | refine LeO.bind ?_ (fun _ => ?_)
def object_Put.T7 : Bool × List (List Nat × List Nat) := (true, [([], []), ([], []), ([1], [1]), ([2], [2]), ([3], [3]), ([], []), ([5, 3], [5]), ([4, 6], [4, 6]), ([7], [7]), ([0, 8, 6], [0, 8]), ([9, 9, 0, 1, 2, 3, 4, 5, 6, 7, 8, 9], [0, 9])])
def object_Put.B7 : List Nat := [0, 0, 2, 6, 14, 0, 46, 126, 254, 511, 1023]
theorem object_Put.tab7 : rtab .any (opsOf Try.f17 7) = object_Put.T7 := by kernel_rfl
theorem object_Put.bits7 : waitsOk object_Put.T7.2 object_Put.B7 = true := by kernel_rfl
set_option maxHeartbeats 8000000 in
set_option maxRecDepth 100000 in
theorem object_Put.calls (k : Nat) (A0 : Option Addr) (c0 : Nat) (l0 : List (S42)) (r1 : ByteArray) (r2 : Int) (w : World) (hr0 : Kd.C k42 w A0 l0.length l0) (hc0 : l0.length ≤ c0) (h : object_Put.f k l0 = some (r1, r2)) :
    Calls Try.prog 17 #[.slice A0 l0.length c0] w fun e w' => e = .returned (.tuple #[.string r1, .int .i64 r2]) ∧ Below w.heap.size w w' := by
  have hu42 := Try.underlying42
  have HR0 := Aside0.mk hr0
  have HC0 := Aside0.mk hc0
  clear hr0 hc0
  have HB := Aside0.mk (Below.refl w.heap.size w)
  have H : ((object_fine.f l0).bind fun t115 => (if t115 = true then (object_Put.l0 k ([] : List ByteArray) l0 (l0.length : Int) 0) else (some ((⟨#[]⟩ : ByteArray), 6)))) = some (r1, r2) := h
  clear h
  replace H := Option.bind_eq_some_iff.mp H
  obtain ⟨t115, A20, H⟩ := H
  replace H : (if t115 = true then (object_Put.l0 k ([] : List ByteArray) l0 (l0.length : Int) 0) else (some ((⟨#[]⟩ : ByteArray), 6))) = some (r1, r2) := H
  have A2 := Aside0.mk A20
  clear A20
  by_cases c3 : t115 = true
  · subst c3
    have H1 : (object_Put.l0 k ([] : List ByteArray) l0 (l0.length : Int) 0) = some (r1, r2) := by rw [if_pos rfl] at H; exact H
    clear H
    have H := H1
    clear H1
    have H' := Aside0.mk H
    clear H
    go_enter Try.func17, Try.ntmps17
    go_wp2_with (first | ((with_reducible refine gate_callee (f := 34) rfl ?_); refine goesL_ (some 8) rfl rfl Try.func34 (by kernel_rfl) rfl #[.slice A0 l0.length c0] rfl (by (try simp only [List.map_toArray, List.map_cons, List.map_nil]); first | done | rfl | (simp only [List.length_drop, List.length_take]; rfl)) ?_; (with_reducible refine (object_fine.calls _ _ l0 true _ ?side1 ?side2 A2.out).mono ?_); (case side1 => repeat (first | exact HR0.out | (with_reducible refine Kd.C_alloc ?_ _) | (with_reducible refine Kd.C_drewN ?_ _) | (with_reducible refine Kd.C_drew ?_))); (case side2 => exact HC0.out); rintro e w4 ⟨rfl, hb⟩; refine ⟨_, rfl, ?_⟩; have n0_ := Aside0.mk (below_step (by repeat (first | (with_reducible first | exact HB.out | apply below_alloc | apply pw_below_drewN | apply below_drew1) | exact HB.out)) hb); clear HB; have HB := n0_; clear n0_; (try clear hb); (try clear hb2); (try clear hk); (try clear hi)))
    go_loopg [4, 12] k (fun kq v4 v12 w' => ∃ (x4_1 : List ByteArray) (x12_1 : Int), v12 = .int .i64 x12_1 ∧ Aside0 (object_Put.l0 kq x4_1 l0 (l0.length : Int) x12_1 = some (r1, r2)) ∧ Aside0 (kq ≤ k) ∧ Aside0 (Kd.R Kd.string 9 w' w.heap.size (fun _ => True) v4 x4_1) ∧ Aside0 (Below w.heap.size w w'))
    case atStart => exact ⟨(([] : List ByteArray)), (0), (by first | rfl | (simp; done) | (simp [*]; done)), H', ⟨Nat.le_refl _⟩, ⟨by first | exact Kd.R_nil _ _ _ _ _ | exact Kd.N_nil _ _ _ _ _ | exact Kd.V_nil _ _ _ _ _ | exact Kd.Q_nil _ _ _ _ _ | exact Kd.S_nil _ _ _ _ _⟩, ⟨by repeat (first | (with_reducible first | exact HB.out | apply below_alloc | apply pw_below_drewN | apply below_drew1) | exact HB.out)⟩⟩
    case round =>
      clear H'
      try clear c1
      try clear p2
      try clear c3
      obtain ⟨x4_1, x12_1, rfl, HA, HK1, HO_4, HB⟩ := hrel
      cases gk with
      | zero => exact absurd HA.out (by simp [object_Put.l0])
      | succ k1 =>
        have H := HA.out
        clear HA
        simp only [object_Put.l0] at H
        by_cases c5 : x12_1 < (l0.length : Int)
        · rw [if_pos c5] at H
          have c5b0 : decide (x12_1 < (l0.length : Int)) = true := decide_eq_true c5
          clear c5
          by_cases c6 : 0 ≤ x12_1
          · rw [if_pos c6] at H
            have c6b0 : decide (0 ≤ x12_1) = true := decide_eq_true c6
            clear c6
            by_cases c7 : x12_1 < (l0.length : Int)
            · rw [if_pos c7] at H
              have c7b0 : decide (x12_1 < (l0.length : Int)) = true := decide_eq_true c7
              clear c7
              replace H := Option.bind_eq_some_iff.mp H
              obtain ⟨t118, A80, H⟩ := H
              replace H : (if t118.size + 1 ≤ 9223372036854775807 then ((object_value.f k1 ((rd_T42 l0 x12_1).f0) ((rd_T42 l0 x12_1).f1) ((rd_T42 l0 x12_1).f2) ((rd_T42 l0 x12_1).f3)).bind fun t119 => (if (t118 ++ (⟨#[58]⟩ : ByteArray)).size + t119.size ≤ 9223372036854775807 then (if x4_1.length < 8796093022208 then (object_Put.l0 k1 (x4_1 ++ [(t118 ++ (⟨#[58]⟩ : ByteArray)) ++ t119]) l0 (l0.length : Int) (wrap64 (x12_1 + 1))) else (none)) else (none))) else (none)) = some (r1, r2) := H
              have A8 := Aside0.mk A80
              clear A80
              by_cases c9 : t118.size + 1 ≤ 9223372036854775807
              · rw [if_pos c9] at H
                have c9b0 := eq_true c9
                have c9b1 : decide (t118.size + 1 ≤ 9223372036854775807) = true := decide_eq_true c9
                try have c9b2 : (9223372036854775807 < t118.size + 1) = False := eq_false (Nat.not_lt.2 c9)
                replace H := Option.bind_eq_some_iff.mp H
                obtain ⟨t119, A100, H⟩ := H
                replace H : (if (t118 ++ (⟨#[58]⟩ : ByteArray)).size + t119.size ≤ 9223372036854775807 then (if x4_1.length < 8796093022208 then (object_Put.l0 k1 (x4_1 ++ [(t118 ++ (⟨#[58]⟩ : ByteArray)) ++ t119]) l0 (l0.length : Int) (wrap64 (x12_1 + 1))) else (none)) else (none)) = some (r1, r2) := H
                have A10 := Aside0.mk A100
                clear A100
                by_cases c11 : (t118 ++ (⟨#[58]⟩ : ByteArray)).size + t119.size ≤ 9223372036854775807
                · rw [if_pos c11] at H
                  have c11b0 := eq_true c11
                  have c11b1 : decide ((t118 ++ (⟨#[58]⟩ : ByteArray)).size + t119.size ≤ 9223372036854775807) = true := decide_eq_true c11
                  try have c11b2 : (9223372036854775807 < (t118 ++ (⟨#[58]⟩ : ByteArray)).size + t119.size) = False := eq_false (Nat.not_lt.2 c11)
                  try (have c11b2_ := c11b2; simp only [ByteArray.size_append, my_lit_size, List.length_cons, List.length_nil, Nat.reduceAdd] at c11b2_)
                  by_cases c12 : x4_1.length < 8796093022208
                  · rw [if_pos c12] at H
                    have LMc12 := Aside0.mk c12
                    clear c12
                    obtain ⟨y120, hy120⟩ : ∃ y_ : List ByteArray, y_ = (x4_1 ++ [(t118 ++ (⟨#[58]⟩ : ByteArray)) ++ t119]) := ⟨_, rfl⟩
                    replace H : (object_Put.l0 k1 y120 l0 (l0.length : Int) (wrap64 (x12_1 + 1))) = some (r1, r2) := by first | (rw [hy120]; with_reducible exact H) | (have H2_ := (Option.bind_some _ _).symm.trans H; rw [hy120]; with_reducible exact H2_) | (have H2_ := (Option.bind_some _ _).symm.trans H; with_reducible exact H2_) | with_reducible exact H | (rw [hy120]; exact H) | exact H
                    have Ny120 := Aside0.mk hy120
                    clear hy120
                    have H' := Aside0.mk H
                    clear H
                    have p116 : 0 ≤ (x12_1 : Int) := of_decide_eq_true (by first | (with_reducible assumption) | assumption)
                    have q116 : x12_1 < (l0.length : Int) := of_decide_eq_true (by first | (with_reducible assumption) | assumption)
                    obtain ⟨ad116, A116_2, c116_2, e116, hx116_0, hx116_1, hx116_2, hx116_3, hl116_2, hi116_2⟩ := at_T42 HR0.out x12_1 p116 q116
                    cases e116
                    replace hx116_0 := (HB.out.cell (World.block_lt_of_cell? w _ hx116_0)).trans hx116_0
                    replace hx116_1 := (HB.out.cell (World.block_lt_of_cell? w _ hx116_1)).trans hx116_1
                    replace hx116_2 := (HB.out.cell (World.block_lt_of_cell? w _ hx116_2)).trans hx116_2
                    replace hx116_3 := (HB.out.cell (World.block_lt_of_cell? w _ hx116_3)).trans hx116_3
                    have HR116_2 := Aside0.mk hi116_2
                    have HC116_2 := Aside0.mk hl116_2
                    clear hi116_2 hl116_2
                    replace p116 := eq_true p116
                    replace q116 := eq_true q116
                    try go_wp2_with (first | ((with_reducible refine gate_dst (N := 6) rfl ?_); refine box_event ?hg (N := 6) ?hd (cs := #[.string (⟨#[]⟩ : ByteArray), .string (⟨#[]⟩ : ByteArray), .slice none 0 0, .bool false]) (t := 42) ?hr ?_; (case hd => rfl); (case hg => rfl); (case hr => first | (go_simp; done) | (go_simp; rfl)); intro gb117 hg w13 hbox hb; have n0_ := Aside0.mk (Kd.R_below (by (with_reducible repeat (first | apply Kd.R_alloc | apply Kd.R_drewN | apply Kd.R_drew)); exact HO_4.out) hb); have n1_ := Aside0.mk (below_step (by repeat (first | (with_reducible first | exact HB.out | apply below_alloc | apply pw_below_drewN | apply below_drew1) | exact HB.out)) hb); have n2_ := Aside0.mk (hbox); have n3_ := Aside0.mk ((by rw [hg]; exact (below_size (by repeat (first | (with_reducible first | exact HB.out | apply below_alloc | apply pw_below_drewN | apply below_drew1) | exact HB.out))) : w.heap.size ≤ gb117)); have n4_ := Aside0.mk ((by rw [hg]; exact (below_size (by repeat (first | (with_reducible first | exact HB.out | apply below_alloc | apply pw_below_drewN | apply below_drew1) | exact HB.out))) : w.heap.size ≤ gb117)); clear HO_4; clear HB; have HO_4 := n0_; have HB := n1_; have BK117 := n2_; have GW117 := n3_; have GE117 := n4_; clear n0_ n1_ n2_ n3_ n4_; clear hb hbox hg; have hcz14_0 : w13.cell? ⟨gb117, 0, none⟩ = some (.string (⟨#[]⟩ : ByteArray)) := (blk_cell BK117.out 0).trans rfl; have hcz14_1 : w13.cell? ⟨gb117, 1, none⟩ = some (.string (⟨#[]⟩ : ByteArray)) := (blk_cell BK117.out 1).trans rfl; have hcz14_2 : w13.cell? ⟨gb117, 2, none⟩ = some (.slice none 0 0) := (blk_cell BK117.out 2).trans rfl; have hcz14_3 : w13.cell? ⟨gb117, 3, none⟩ = some (.bool false) := (blk_cell BK117.out 3).trans rfl; have hfz14_0 := blk_frozen BK117.out 0; have hfz14_1 := blk_frozen BK117.out 1; have hfz14_2 := blk_frozen BK117.out 2; have hfz14_3 := blk_frozen BK117.out 3))
                    have n0_ : Aside0 (Kd.R Kd.string 9 ((((w13.setCell ⟨gb117, 0, none⟩ (.string ((rd_T42 l0 x12_1).f0))).setCell ⟨gb117, 1, none⟩ (.string ((rd_T42 l0 x12_1).f1))).setCell ⟨gb117, 2, none⟩ (.slice A116_2 ((rd_T42 l0 x12_1).f2).length c116_2)).setCell ⟨gb117, 3, none⟩ (.bool ((rd_T42 l0 x12_1).f3))) w.heap.size (fun _ => True) u4 x4_1) := ⟨by (with_reducible repeat (first | apply Kd.R_alloc | apply Kd.R_drewN | apply Kd.R_drew)); exact Kd.R_mono (Kd.R_far (p := ⟨gb117, 3, none⟩) (Kd.R_far (p := ⟨gb117, 2, none⟩) (Kd.R_far (p := ⟨gb117, 1, none⟩) (Kd.R_far (p := ⟨gb117, 0, none⟩) (Kd.R_types HO_4.out BK117.out (by decide)) (fun _ hk => hk.2) (.string ((rd_T42 l0 x12_1).f0))) (fun _ hk => hk.2) (.string ((rd_T42 l0 x12_1).f1))) (fun _ hk => hk.2) (.slice A116_2 ((rd_T42 l0 x12_1).f2).length c116_2)) (fun _ hk => hk.2) (.bool ((rd_T42 l0 x12_1).f3))) (fun _ hk => trivial)⟩
                    have n1_ : Aside0 (((((w13.setCell ⟨gb117, 0, none⟩ (.string ((rd_T42 l0 x12_1).f0))).setCell ⟨gb117, 1, none⟩ (.string ((rd_T42 l0 x12_1).f1))).setCell ⟨gb117, 2, none⟩ (.slice A116_2 ((rd_T42 l0 x12_1).f2).length c116_2)).setCell ⟨gb117, 3, none⟩ (.bool ((rd_T42 l0 x12_1).f3))).heap[gb117]? = some (.cells #[.string ((rd_T42 l0 x12_1).f0), .string ((rd_T42 l0 x12_1).f1), .slice A116_2 ((rd_T42 l0 x12_1).f2).length c116_2, .bool ((rd_T42 l0 x12_1).f3)] 42 (0, 0))) := ⟨by (with_reducible repeat (first | refine blk_drewN ?_ _ | refine blk_drew ?_ | refine blk_alloc ?_ _)); refine blk_put (cs := #[.string ((rd_T42 l0 x12_1).f0), .string ((rd_T42 l0 x12_1).f1), .slice A116_2 ((rd_T42 l0 x12_1).f2).length c116_2, .bool false]) ?_ 3 _ rfl; (with_reducible repeat (first | refine blk_drewN ?_ _ | refine blk_drew ?_ | refine blk_alloc ?_ _)); refine blk_put (cs := #[.string ((rd_T42 l0 x12_1).f0), .string ((rd_T42 l0 x12_1).f1), .slice none 0 0, .bool false]) ?_ 2 _ rfl; (with_reducible repeat (first | refine blk_drewN ?_ _ | refine blk_drew ?_ | refine blk_alloc ?_ _)); refine blk_put (cs := #[.string ((rd_T42 l0 x12_1).f0), .string (⟨#[]⟩ : ByteArray), .slice none 0 0, .bool false]) ?_ 1 _ rfl; (with_reducible repeat (first | refine blk_drewN ?_ _ | refine blk_drew ?_ | refine blk_alloc ?_ _)); refine blk_put (cs := #[.string (⟨#[]⟩ : ByteArray), .string (⟨#[]⟩ : ByteArray), .slice none 0 0, .bool false]) ?_ 0 _ rfl; (with_reducible repeat (first | refine blk_drewN ?_ _ | refine blk_drew ?_ | refine blk_alloc ?_ _)); exact BK117.out⟩
                    have n2_ : Aside0 (Below w.heap.size w ((((w13.setCell ⟨gb117, 0, none⟩ (.string ((rd_T42 l0 x12_1).f0))).setCell ⟨gb117, 1, none⟩ (.string ((rd_T42 l0 x12_1).f1))).setCell ⟨gb117, 2, none⟩ (.slice A116_2 ((rd_T42 l0 x12_1).f2).length c116_2)).setCell ⟨gb117, 3, none⟩ (.bool ((rd_T42 l0 x12_1).f3)))) := ⟨by repeat (first | (with_reducible first | exact HB.out | apply below_alloc | apply pw_below_drewN | apply below_drew1 | refine below_set ?_ GE117.out) | exact HB.out)⟩
                    (try clear HO_4)
                    (try clear BK117)
                    (try clear HB)
                    generalize ((((w13.setCell ⟨gb117, 0, none⟩ (.string ((rd_T42 l0 x12_1).f0))).setCell ⟨gb117, 1, none⟩ (.string ((rd_T42 l0 x12_1).f1))).setCell ⟨gb117, 2, none⟩ (.slice A116_2 ((rd_T42 l0 x12_1).f2).length c116_2)).setCell ⟨gb117, 3, none⟩ (.bool ((rd_T42 l0 x12_1).f3))) = w15 at n0_ n1_ n2_ ⊢
                    have HO_4 := n0_
                    have BK117 := n1_
                    have HB := n2_
                    clear n0_ n1_ n2_
                    have n0_ := Aside0.mk (Kd.R_drew HO_4.out)
                    have n1_ := Aside0.mk (blk_drew BK117.out)
                    have n2_ := Aside0.mk (below_drew1 HB.out)
                    clear HO_4
                    clear BK117
                    clear HB
                    have HO_4 := n0_
                    have BK117 := n1_
                    have HB := n2_
                    clear n0_ n1_ n2_
                    refine start_ (n := 11) (S := fun w' => w'.cell? ⟨gb117, 0, none⟩ = some (.string ((rd_T42 l0 x12_1).f0)) ∧ w'.cell? ⟨gb117, 1, none⟩ = some (.string ((rd_T42 l0 x12_1).f1)) ∧ w'.cell? ⟨gb117, 2, none⟩ = some (.slice A116_2 ((rd_T42 l0 x12_1).f2).length c116_2) ∧ w'.cell? ⟨gb117, 3, none⟩ = some (.bool ((rd_T42 l0 x12_1).f3))) (ds := []) #[false, false, false, false, false, false, false, false, false, false, false] (by kernel_rfl) rfl rfl ⟨(blk_cell BK117.out 0).trans rfl, (blk_cell BK117.out 1).trans rfl, (blk_cell BK117.out 2).trans rfl, (blk_cell BK117.out 3).trans rfl⟩ (fun hHeld => ?_); refine with_tabW object_Put.tab7 object_Put.bits7 (fun HT_ HW_ => ?_)
                    generalize w15.drew = w16 at HO_4 BK117 HB hHeld ⊢
                    refine pure_ (i := 0) (N := some 16) (v := ?_) (a' := ?_) #[true, false, false, false, false, false, false, false, false, false, false] rfl rfl (any_of HT_.out (by kernel_rfl)) (fun _ _ _ h => h) (Or.inl ⟨by rfl, ?_⟩) ?_ ?_
                    rotate_left
                    · intro w'
                      go_simp
                      with_reducible rfl
                    rotate_left
                    · simp only [Act.put, List.setIfInBounds_toArray, List.set_cons_zero, List.set_cons_succ, i64_w, i32_w]
                      rfl
                    refine pure_ (i := 1) (N := some 17) (v := ?_) (a' := ?_) #[true, true, false, false, false, false, false, false, false, false, false] rfl rfl (any_of HT_.out (by kernel_rfl)) (fun _ _ _ h => h) (Or.inl ⟨by rfl, ?_⟩) ?_ ?_
                    rotate_left
                    · intro w'
                      go_simp
                      with_reducible rfl
                    rotate_left
                    · simp only [Act.put, List.setIfInBounds_toArray, List.set_cons_zero, List.set_cons_succ, i64_w, i32_w]
                      rfl
                    refine take_ (i := 2) (N := some 18) (v := ?_) (a' := ?_) #[true, true, true, false, false, false, false, false, false, false, false] rfl rfl (take_ofW HT_.out HW_.out (by kernel_rfl)) (fun _ _ _ h => h) (Or.inl ⟨by rfl, ?_⟩) hHeld ?_ ?_
                    rotate_left
                    · rintro w' ⟨s0, s1, s2, s3⟩
                      go_simp
                      with_reducible rfl
                    rotate_left
                    · simp only [Act.put, List.setIfInBounds_toArray, List.set_cons_zero, List.set_cons_succ, i64_w, i32_w]
                      rfl
                    refine take_ (i := 5) (N := some 21) (v := ?_) (a' := ?_) #[true, true, true, false, false, true, false, false, false, false, false] rfl rfl (take_ofW HT_.out HW_.out (by kernel_rfl)) (fun _ _ _ h => h) (Or.inl ⟨by rfl, ?_⟩) hHeld ?_ ?_
                    rotate_left
                    · rintro w' ⟨s0, s1, s2, s3⟩
                      go_simp
                      with_reducible rfl
                    rotate_left
                    · simp only [Act.put, List.setIfInBounds_toArray, List.set_cons_zero, List.set_cons_succ, i64_w, i32_w]
                      rfl
                    refine one_ (i := 3) (N := some 19) #[true, true, true, true, false, true, false, false, false, false, false] rfl rfl (one_of HT_.out (by kernel_rfl)) (by decide) (fun K hK => ?_)
                    refine goes_ Try.func35 (by kernel_rfl) rfl #[.string ((rd_T42 l0 x12_1).f0)] (by rfl) rfl rfl (by (try simp only [List.map_toArray, List.map_cons, List.map_nil]); first | done | rfl | (simp only [List.length_drop, List.length_take]; rfl)) ?_
                    with_reducible refine (quote_Put.calls ((rd_T42 l0 x12_1).f0) t118 _ A8.out).mono ?_
                    rintro e w17 ⟨rfl, hb⟩
                    refine ⟨_, rfl, ?_⟩
                    have n0_ := Aside0.mk (Kd.R_below (by (with_reducible repeat (first | apply Kd.R_alloc | apply Kd.R_drewN | apply Kd.R_drew)); exact HO_4.out) hb)
                    have n1_ := Aside0.mk (blk_below (g := gb117) (o := .cells #[.string ((rd_T42 l0 x12_1).f0), .string ((rd_T42 l0 x12_1).f1), .slice A116_2 ((rd_T42 l0 x12_1).f2).length c116_2, .bool ((rd_T42 l0 x12_1).f3)] 42 (0, 0)) (by (with_reducible repeat (first | refine blk_drewN ?_ _ | refine blk_drew ?_ | refine blk_alloc ?_ _)); exact BK117.out) hb)
                    have n2_ := Aside0.mk (below_step (by repeat (first | (with_reducible first | exact HB.out | apply below_alloc | apply pw_below_drewN | apply below_drew1 | refine below_set ?_ GE117.out) | exact HB.out)) hb)
                    clear HO_4
                    clear BK117
                    clear HB
                    have HO_4 := n0_
                    have BK117 := n1_
                    have HB := n2_
                    clear n0_ n1_ n2_
                    (try clear hb)
                    (try clear hb2)
                    (try clear hk)
                    (try clear hi)
                    refine hK.out _ _ ⟨(blk_cell BK117.out 0).trans rfl, (blk_cell BK117.out 1).trans rfl, (blk_cell BK117.out 2).trans rfl, (blk_cell BK117.out 3).trans rfl⟩ (fun hHeld => ?_)
                    clear hK K
                    refine norm_ (a' := ?_) ?_ ?_
                    rotate_left
                    · show Act.put _ (some 19) _ = _
                      simp only [Act.put, List.setIfInBounds_toArray, List.set_cons_zero, List.set_cons_succ, i64_w, i32_w]
                      rfl
                    refine pure_ (i := 4) (N := some 20) (v := ?_) (a' := ?_) #[true, true, true, true, true, true, false, false, false, false, false] rfl rfl (any_of HT_.out (by kernel_rfl)) (fun _ _ _ h => h) (Or.inl ⟨by rfl, ?_⟩) ?_ ?_
                    rotate_left
                    · intro w'
                      go_simp
                      with_reducible rfl
                    rotate_left
                    · simp only [Act.put, List.setIfInBounds_toArray, List.set_cons_zero, List.set_cons_succ, i64_w, i32_w]
                      rfl
                    refine one_ (i := 6) (N := some 22) #[true, true, true, true, true, true, true, false, false, false, false] rfl rfl (one_of HT_.out (by kernel_rfl)) (by decide) (fun K hK => ?_)
                    refine goes_ Try.func36 (by kernel_rfl) rfl #[.agg #[.string ((rd_T42 l0 x12_1).f0), .string ((rd_T42 l0 x12_1).f1), .slice A116_2 ((rd_T42 l0 x12_1).f2).length c116_2, .bool ((rd_T42 l0 x12_1).f3)]] (by rfl) rfl rfl (by (try simp only [List.map_toArray, List.map_cons, List.map_nil]); first | done | rfl | (simp only [List.length_drop, List.length_take]; rfl)) ?_
                    with_reducible refine (object_value.calls k1 ((rd_T42 l0 x12_1).f0) ((rd_T42 l0 x12_1).f1) _ _ ((rd_T42 l0 x12_1).f2) ((rd_T42 l0 x12_1).f3) t119 _ ?side1 ?side2 A10.out).mono ?_
                    (case side1 => repeat (first | exact (Kd.C_below HR116_2.out HB.out) | (with_reducible refine Kd.C_alloc ?_ _) | (with_reducible refine Kd.C_drewN ?_ _) | (with_reducible refine Kd.C_drew ?_)))
                    (case side2 => exact HC116_2.out)
                    rintro e w18 ⟨rfl, hb⟩
                    refine ⟨_, rfl, ?_⟩
                    have n0_ := Aside0.mk (Kd.R_below (by (with_reducible repeat (first | apply Kd.R_alloc | apply Kd.R_drewN | apply Kd.R_drew)); exact HO_4.out) hb)
                    have n1_ := Aside0.mk (blk_below (g := gb117) (o := .cells #[.string ((rd_T42 l0 x12_1).f0), .string ((rd_T42 l0 x12_1).f1), .slice A116_2 ((rd_T42 l0 x12_1).f2).length c116_2, .bool ((rd_T42 l0 x12_1).f3)] 42 (0, 0)) (by (with_reducible repeat (first | refine blk_drewN ?_ _ | refine blk_drew ?_ | refine blk_alloc ?_ _)); exact BK117.out) hb)
                    have n2_ := Aside0.mk (below_step (by repeat (first | (with_reducible first | exact HB.out | apply below_alloc | apply pw_below_drewN | apply below_drew1 | refine below_set ?_ GE117.out) | exact HB.out)) hb)
                    clear HO_4
                    clear BK117
                    clear HB
                    have HO_4 := n0_
                    have BK117 := n1_
                    have HB := n2_
                    clear n0_ n1_ n2_
                    (try clear hb)
                    (try clear hb2)
                    (try clear hk)
                    (try clear hi)
                    refine hK.out _ _ ⟨(blk_cell BK117.out 0).trans rfl, (blk_cell BK117.out 1).trans rfl, (blk_cell BK117.out 2).trans rfl, (blk_cell BK117.out 3).trans rfl⟩ (fun hHeld => ?_)
                    clear hK K
                    refine norm_ (a' := ?_) ?_ ?_
                    rotate_left
                    · show Act.put _ (some 22) _ = _
                      simp only [Act.put, List.setIfInBounds_toArray, List.set_cons_zero, List.set_cons_succ, i64_w, i32_w]
                      rfl
                    refine pure_ (i := 7) (N := some 23) (v := ?_) (a' := ?_) #[true, true, true, true, true, true, true, true, false, false, false] rfl rfl (any_of HT_.out (by kernel_rfl)) (fun _ _ _ h => h) (Or.inl ⟨by rfl, ?_⟩) ?_ ?_
                    rotate_left
                    · intro w'
                      go_simp
                      with_reducible rfl
                    rotate_left
                    · simp only [Act.put, List.setIfInBounds_toArray, List.set_cons_zero, List.set_cons_succ, i64_w, i32_w]
                      rfl
                    refine one_ (i := 8) (N := some 24) #[true, true, true, true, true, true, true, true, true, false, false] rfl rfl (one_of HT_.out (by kernel_rfl)) (by decide) (fun K hK => ?_)
                    refine value_ (w1 := ?_) (v := ?_) (by rfl) rfl ?_ ?_
                    rotate_left 2
                    · go_simp
                      constructor
                      · rfl
                      · rfl
                    refine hK.out _ _ ⟨(blk_cell (blk_alloc BK117.out _) 0).trans rfl, (blk_cell (blk_alloc BK117.out _) 1).trans rfl, (blk_cell (blk_alloc BK117.out _) 2).trans rfl, (blk_cell (blk_alloc BK117.out _) 3).trans rfl⟩ (fun hHeld => ?_)
                    clear hK K
                    refine norm_ (a' := ?_) ?_ ?_
                    rotate_left
                    · show Act.put _ (some 24) _ = _
                      simp only [Act.put, List.setIfInBounds_toArray, List.set_cons_zero, List.set_cons_succ, i64_w, i32_w]
                      rfl
                    refine one_ (i := 9) (N := some 25) #[true, true, true, true, true, true, true, true, true, true, false] rfl rfl (one_of HT_.out (by kernel_rfl)) (by decide) (fun K hK => ?_)
                    refine Kd.R_append_step Kd.string (w0 := w) w.heap.size (by rfl) (.tmp 16) (.tmp 24) 40 9 (.string ⟨#[]⟩) 16 rfl Try.underlying40 info9 rfl (by decide) (by omega) u4 x4_1 ((t118 ++ (⟨#[58]⟩ : ByteArray)) ++ t119) [.string ((t118 ++ (⟨#[58]⟩ : ByteArray)) ++ t119)] (fun _ => True) (fun _ => False) rfl rfl ?aP (fun _ hk => hk.elim) ?aF ?aO ?aB ?aS ?aL ?_
                    (case aP => exact rfl)
                    (case aB => exact (by repeat (first | (with_reducible first | exact HB.out | apply below_alloc | apply pw_below_drewN | apply below_drew1 | refine below_set ?_ GE117.out) | exact HB.out)))
                    (case aF => exact (fun _ _ => trivial))
                    (case aO => exact (by (with_reducible repeat (first | apply Kd.R_alloc | apply Kd.R_drewN | apply Kd.R_drew)); exact HO_4.out))
                    (case aS => exact (below_size (by repeat (first | (with_reducible first | exact HB.out | apply below_alloc | apply pw_below_drewN | apply below_drew1 | refine below_set ?_ GE117.out) | exact HB.out))))
                    (case aL => have := LMc12.out; omega)
                    intro v121 w19 ho hb hg hat
                    rw [← Ny120.out] at ho
                    have n0_ := Aside0.mk (blk_grown (g := gb117) (o := .cells #[.string ((rd_T42 l0 x12_1).f0), .string ((rd_T42 l0 x12_1).f1), .slice A116_2 ((rd_T42 l0 x12_1).f2).length c116_2, .bool ((rd_T42 l0 x12_1).f3)] 42 (0, 0)) (by (with_reducible repeat (first | refine blk_drewN ?_ _ | refine blk_drew ?_ | refine blk_alloc ?_ _)); exact BK117.out) hg (Kd.R_ne HO_4.out BK117.out (by decide)))
                    have n1_ := Aside0.mk (hb)
                    have n2_ := Aside0.mk (ho)
                    clear BK117
                    clear HB
                    clear HO_4
                    have BK117 := n0_
                    have HB := n1_
                    have HO122 := n2_
                    clear n0_ n1_ n2_
                    clear ho hb hg hat
                    refine hK.out _ _ ⟨(blk_cell BK117.out 0).trans rfl, (blk_cell BK117.out 1).trans rfl, (blk_cell BK117.out 2).trans rfl, (blk_cell BK117.out 3).trans rfl⟩ (fun hHeld => ?_)
                    clear hK K
                    refine norm_ (a' := ?_) ?_ ?_
                    rotate_left
                    · show Act.put _ (some 25) _ = _
                      simp only [Act.put, List.setIfInBounds_toArray, List.set_cons_zero, List.set_cons_succ, i64_w, i32_w]
                      rfl
                    refine pure_ (i := 10) (N := some 4) (v := ?_) (a' := ?_) #[true, true, true, true, true, true, true, true, true, true, true] rfl rfl (any_of HT_.out (by kernel_rfl)) (fun _ _ _ h => h) (Or.inl ⟨by rfl, ?_⟩) ?_ ?_
                    rotate_left
                    · intro w'
                      go_simp
                      with_reducible rfl
                    rotate_left
                    · simp only [Act.put, List.setIfInBounds_toArray, List.set_cons_zero, List.set_cons_succ, i64_w, i32_w]
                      rfl
                    refine done_ (done_of HT_.out (by kernel_rfl)) ?_
                    try go_wp2
                    go_roundg k1
                    case measure => have := HK1.out; omega
                    case rel => exact ⟨(y120), (wrap64 (x12_1 + 1)), (by first | rfl | (simp; done) | (simp [*]; done)), H', ⟨by have := HK1.out; omega⟩, ⟨by (with_reducible repeat (first | apply Kd.R_alloc | apply Kd.R_drewN | apply Kd.R_drew)); exact HO122.out⟩, ⟨by repeat (first | (with_reducible first | exact HB.out | apply below_alloc | apply pw_below_drewN | apply below_drew1 | refine below_set ?_ GE117.out) | exact HB.out)⟩⟩
                  · rw [if_neg c12] at H
                    exact absurd H (by simp)
                · rw [if_neg c11] at H
                  exact absurd H (by simp)
              · rw [if_neg c9] at H
                exact absurd H (by simp)
            · rw [if_neg c7] at H
              exact absurd H (by simp)
          · rw [if_neg c6] at H
            exact absurd H (by simp)
        · rw [if_neg c5] at H
          have c5b0 : decide (x12_1 < (l0.length : Int)) = false := decide_eq_false c5
          try (simp only [hl116_2] at c5b0)
          clear c5
          replace H := Option.bind_eq_some_iff.mp H
          obtain ⟨t123, A200, H⟩ := H
          replace H : (if 1 + t123.size ≤ 9223372036854775807 then (if ((⟨#[123]⟩ : ByteArray) ++ t123).size + 1 ≤ 9223372036854775807 then (some (((⟨#[123]⟩ : ByteArray) ++ t123) ++ (⟨#[125]⟩ : ByteArray), 0)) else (none)) else (none)) = some (r1, r2) := H
          have A20 := Aside0.mk A200
          clear A200
          by_cases c21 : 1 + t123.size ≤ 9223372036854775807
          · rw [if_pos c21] at H
            have c21b0 := eq_true c21
            have c21b1 : decide (1 + t123.size ≤ 9223372036854775807) = true := decide_eq_true c21
            try have c21b2 : (9223372036854775807 < 1 + t123.size) = False := eq_false (Nat.not_lt.2 c21)
            by_cases c22 : ((⟨#[123]⟩ : ByteArray) ++ t123).size + 1 ≤ 9223372036854775807
            · rw [if_pos c22] at H
              have c22b0 := eq_true c22
              have c22b1 : decide (((⟨#[123]⟩ : ByteArray) ++ t123).size + 1 ≤ 9223372036854775807) = true := decide_eq_true c22
              try have c22b2 : (9223372036854775807 < ((⟨#[123]⟩ : ByteArray) ++ t123).size + 1) = False := eq_false (Nat.not_lt.2 c22)
              try (have c22b2_ := c22b2; simp only [ByteArray.size_append, my_lit_size, List.length_cons, List.length_nil, Nat.reduceAdd] at c22b2_)
              simp only [Option.some.injEq, Prod.mk.injEq] at H
              obtain ⟨rfl, rfl⟩ := H
              obtain ⟨Ao23, co23, eo23⟩ := Kd.R_slice HO_4.out
              subst eo23
              go_wp2_with (first | ((with_reducible refine gate_callee (f := 37) rfl ?_); refine goesL_ (some 28) rfl rfl Try.func37 (by kernel_rfl) rfl #[.slice Ao23 x4_1.length co23, .string (⟨#[44]⟩ : ByteArray)] rfl (by (try simp only [List.map_toArray, List.map_cons, List.map_nil]); first | done | rfl | (simp only [List.length_drop, List.length_take]; rfl)) ?_; (with_reducible refine (strings_Join.calls _ _ x4_1 (⟨#[44]⟩ : ByteArray) t123 _ ?side1 ?side2 A20.out).mono ?_); (case side1 => repeat (first | exact (Kd.R_reads' HO_4.out).2.2 | (with_reducible refine Kd.C_alloc ?_ _) | (with_reducible refine Kd.C_drewN ?_ _) | (with_reducible refine Kd.C_drew ?_))); (case side2 => exact (Kd.R_reads' HO_4.out).2.1); rintro e w24 ⟨rfl, hb⟩; refine ⟨_, rfl, ?_⟩; have n0_ := Aside0.mk (Kd.R_below (by (with_reducible repeat (first | apply Kd.R_alloc | apply Kd.R_drewN | apply Kd.R_drew)); exact HO_4.out) hb); have n1_ := Aside0.mk (below_step (by repeat (first | (with_reducible first | exact HB.out | apply below_alloc | apply pw_below_drewN | apply below_drew1) | exact HB.out)) hb); clear HO_4; clear HB; have HO_4 := n0_; have HB := n1_; clear n0_ n1_; (try clear hb); (try clear hb2); (try clear hk); (try clear hi)))
              go_ret2
              exact ⟨by first | rfl | (simp [errW_none, errW_some] <;> rfl) | (simp [*, errW_none, errW_some] <;> rfl), by repeat (first | (with_reducible first | exact HB.out | apply below_alloc | apply pw_below_drewN | apply below_drew1) | exact HB.out)⟩
            · rw [if_neg c22] at H
              exact absurd H (by simp)
          · rw [if_neg c21] at H
            exact absurd H (by simp)
  · replace c3 := Bool.eq_false_iff.mpr c3
    subst c3
    have H1 : (some ((⟨#[]⟩ : ByteArray), 6)) = some (r1, r2) := by rw [if_neg (show ¬ (false = true) by decide)] at H; exact H
    clear H
    have H := H1
    clear H1
    simp only [Option.some.injEq, Prod.mk.injEq] at H
    obtain ⟨rfl, rfl⟩ := H
    go_enter Try.func17, Try.ntmps17
    go_wp2_with (first | ((with_reducible refine gate_callee (f := 34) rfl ?_); refine goesL_ (some 8) rfl rfl Try.func34 (by kernel_rfl) rfl #[.slice A0 l0.length c0] rfl (by (try simp only [List.map_toArray, List.map_cons, List.map_nil]); first | done | rfl | (simp only [List.length_drop, List.length_take]; rfl)) ?_; (with_reducible refine (object_fine.calls _ _ l0 false _ ?side1 ?side2 A2.out).mono ?_); (case side1 => repeat (first | exact HR0.out | (with_reducible refine Kd.C_alloc ?_ _) | (with_reducible refine Kd.C_drewN ?_ _) | (with_reducible refine Kd.C_drew ?_))); (case side2 => exact HC0.out); rintro e w25 ⟨rfl, hb⟩; refine ⟨_, rfl, ?_⟩; have n0_ := Aside0.mk (below_step (by repeat (first | (with_reducible first | exact HB.out | apply below_alloc | apply pw_below_drewN | apply below_drew1) | exact HB.out)) hb); clear HB; have HB := n0_; clear n0_; (try clear hb); (try clear hb2); (try clear hk); (try clear hi)))
    go_ret2
    exact ⟨by first | rfl | (simp [errW_none, errW_some] <;> rfl) | (simp [*, errW_none, errW_some] <;> rfl), by repeat (first | (with_reducible first | exact HB.out | apply below_alloc | apply pw_below_drewN | apply below_drew1) | exact HB.out)⟩

end Go.Proofs.Ytcgmododeiocpaa.PObj
