-- written by wip/myprint.py over the kit's print; not a printed text of print.sh
import Derived.Test.YtjappgjpikbdeaaGreatDoorPTkkx0
import Derived.Test.YtjappgjpikbdeaaGreatDoorPTkkx3
import Derived.Test.YtjappgjpikbdeaaGreatDoorPTkkx4
namespace Go.Proofs.YtjappgjpikbdeaaGreatDoor.PTkk
open Go.RowKit Go.Proofs.YtjappgjpikbdeaaGreatDoorW.PrintWords Go.Proofs.YtjappgjpikbdeaaGreatDoorW.PrintLast Go.Proofs.YtjappgjpikbdeaaGreatDoorW.PrintMore
attribute [local go_sem] max2_int min2_int max_two min_two max_three min_three max_four min_four   -- for this text's walks alone
set_option linter.unusedVariables false
set_option linter.unusedSimpArgs false

/-! ### pairs_Store_at: function 80 -/
theorem cmp_cases : ∀ x y : List UInt8, Lib.compareBytes x y = if Op.bytesLess x y = true then -1 else if x = y then 0 else 1
  | [], [] => rfl
  | [], _ :: _ => rfl
  | _ :: _, [] => rfl
  | a :: x, b :: y => by
    have e : Op.bytesLess (a :: x) (b :: y) = (decide (a < b) || (a == b && Op.bytesLess x y)) := rfl
    have e2 : Lib.compareBytes (a :: x) (b :: y) = if a < b then -1 else if b < a then 1 else Lib.compareBytes x y := rfl
    rw [e, e2]
    by_cases h1 : a < b
    · rw [if_pos h1, decide_eq_true h1, Bool.true_or, if_pos rfl]
    · rw [if_neg h1, decide_eq_false h1, Bool.false_or]
      by_cases h2 : b < a
      · have hne : ¬ a = b := fun e => by subst e; exact h1 h2
        rw [if_pos h2, beq_eq_false_iff_ne.2 hne, Bool.false_and, if_neg (by simp), if_neg (fun e => hne (List.cons.inj e).1)]
      · have hab : a = b := UInt8.toNat_inj.1 (by
          have g1 : ¬ a.toNat < b.toNat := fun h => h1 (UInt8.lt_iff_toNat_lt.2 h)
          have g2 : ¬ b.toNat < a.toNat := fun h => h2 (UInt8.lt_iff_toNat_lt.2 h)
          omega)
        subst hab
        rw [if_neg h2, cmp_cases x y, beq_self_eq_true, Bool.true_and]
        by_cases h3 : Op.bytesLess x y = true
        · rw [if_pos h3, if_pos h3]
        · rw [if_neg h3, if_neg h3]
          by_cases h4 : x = y
          · rw [if_pos h4, if_pos (by rw [h4])]
          · rw [if_neg h4, if_neg (fun e => h4 (List.cons.inj e).2)]
def cmpK (a b : ByteArray) : Int := if kLt a b = true then -1 else if a.toList = b.toList then 0 else 1
theorem cmpK_of (a b : ByteArray) : Lib.compareBytes a.data.toList b.data.toList = cmpK a b := by
  rw [cmp_cases, ← ByteArray.toList_eq, ← ByteArray.toList_eq]; rfl
theorem cmpK_lt (a b : ByteArray) : decide (cmpK a b < 0) = kLt a b := by
  unfold cmpK
  cases h : kLt a b with
  | true => rfl
  | false => rw [if_neg (by simp)]; split <;> rfl
theorem cmpK_eq (a b : ByteArray) : (cmpK a b == 0) = (a.toList == b.toList) := by
  unfold cmpK
  cases h : kLt a b with
  | true =>
    rw [if_pos rfl]
    have hne : ¬ a.toList = b.toList := fun e => by unfold kLt at h; rw [e, bl_irr] at h; exact absurd h (by simp)
    rw [beq_eq_false_iff_ne.2 hne]; rfl
  | false =>
    rw [if_neg (by simp)]
    by_cases e : a.toList = b.toList
    · rw [if_pos e, beq_iff_eq.2 e]; rfl
    · rw [if_neg e, beq_eq_false_iff_ne.2 e]; rfl
set_option maxHeartbeats 1000000 in
set_option maxRecDepth 100000 in
theorem at1_calls (k1 v1 key : ByteArray) (w : World) : Calls Tryz.prog 99 #[.agg #[.string k1, .string v1], .string key] w fun e w' => e = .returned (.int .i64 (cmpK k1 key)) ∧ Below w.heap.size w w' := by
  have hbx := my_alloc_new w (.cells #[.string k1, .string v1] 82)
  have hc0 : (w.alloc (.cells #[.string k1, .string v1] 82)).cell? ⟨w.heap.size, 0, none⟩ = some (.string k1) := (blk_cell hbx 0).trans rfl
  have hb := Aside0.mk ((Below.refl w.heap.size w).alloc (Nat.le_refl _) (.cells #[.string k1, .string v1] 82))
  clear hbx
  go_enter Tryz.func99, Tryz.ntmps99
  go_wp2_with (go_at_call 100; refine (Tryz.strings_Compare _ _ _).mono ?_; rintro e w' ⟨rfl, rfl⟩)
  rw [cmpK_of]
  go_wp2
  go_ret
  exact ⟨rfl, hb.out⟩
theorem at_mono {l : List S82} {key : ByteArray} (h : sortK l) (i : Nat) (hi : i < l.length) : decide (cmpK l[i].f0 key < 0) = decide (i < posK l key) := by rw [cmpK_lt]; exact posK_spec l key h i hi
set_option maxHeartbeats 4000000 in
set_option maxRecDepth 100000 in
theorem bs_calls (A : Option Addr) (c : Nat) (l : List S82) (key : ByteArray) (w : World) (hs : sortK l) (hr : Kd.C k82 w A l.length l) (hl : l.length ≤ 1000000000) :
    Calls Tryz.prog 98 #[.slice A l.length c, .string key, .func (.func 99) #[] #[]] w fun e w' => e = .returned (.tuple #[.int .i64 (posK l key), .bool (hasK l key)]) ∧ Below w.heap.size w w' := by
  have HR := Aside0.mk hr
  have HS := Aside0.mk hs
  have hple := posK_le l key
  generalize hq : hasK l key = q
  generalize hp : posK l key = p
  rw [hp] at hple
  have HP := Aside0.mk hp
  have HQ := Aside0.mk hq
  clear hr hs hp hq
  have HB := Aside0.mk (Below.refl w.heap.size w)
  go_enter Tryz.func98, Tryz.ntmps98
  go_wp2_with fail
  go_loopg [9, 10] l.length (fun gg s9 s10 wx => ∃ lo hi : Nat, s9 = .int .i64 lo ∧ s10 = .int .i64 hi ∧ lo ≤ hi ∧ hi ≤ l.length ∧ hi - lo ≤ gg ∧ lo ≤ p ∧ p ≤ hi ∧ Aside0 (Below w.heap.size w wx))
  case atStart => exact ⟨0, l.length, rfl, rfl, Nat.zero_le _, Nat.le_refl _, by omega, Nat.zero_le _, hple, HB⟩
  case round =>
    clear HB
    obtain ⟨lo, hi, rfl, rfl, hlh, hin, hg, hp1, hp2, HB⟩ := hrel
    by_cases hlt : lo < hi
    · have hil : (lo + hi) / 2 < l.length := by omega
      have hx0 : (0 : Int) ≤ (((lo + hi) / 2 : Nat) : Int) := by omega
      have hkl : (((lo + hi) / 2 : Nat) : Int) < (l.length : Int) := by omega
      obtain ⟨ad, e1, hv0, hv1⟩ := at_T82 HR.out (((lo + hi) / 2 : Nat) : Int) hx0 hkl
      cases e1
      have hrd : rd_T82 l (((lo + hi) / 2 : Nat) : Int) = l[(lo + hi) / 2] := by
        unfold rd_T82
        rw [Int.toNat_natCast, List.getD_eq_getElem?_getD, List.getElem?_eq_getElem hil]; rfl
      rw [hrd, Int.toNat_natCast] at hv0 hv1
      have hmo := at_mono (key := key) HS.out ((lo + hi) / 2) hil
      rw [HP.out] at hmo
      clear hrd
      generalize l[(lo + hi) / 2] = y at hv0 hv1 hmo
      replace hv0 := (HB.out.cell (World.block_lt_of_cell? w _ hv0)).trans hv0
      replace hv1 := (HB.out.cell (World.block_lt_of_cell? w _ hv1)).trans hv1
      go_wp2_with fail
      refine (at1_calls y.f0 y.f1 key _).mono ?_
      rintro e w2 ⟨rfl, hb⟩
      have HB2 := Aside0.mk (below_step HB.out hb)
      clear hb HB hv0 hv1
      by_cases hlo : (lo + hi) / 2 < p
      · rw [decide_eq_true hlo] at hmo
        go_wp2
        go_roundg (hi - ((lo + hi) / 2 + 1))
        case measure => omega
        case rel => exact ⟨(lo + hi) / 2 + 1, hi, by first | rfl | (rw [show ((lo : Int) + (hi : Int)) / 2 + 1 = (((lo + hi) / 2 + 1 : Nat) : Int) by omega]) | (simp; done), rfl, by omega, hin, by omega, by omega, hp2, HB2⟩
      · rw [decide_eq_false hlo] at hmo
        go_wp2
        go_roundg ((lo + hi) / 2 - lo)
        case measure => omega
        case rel => exact ⟨lo, (lo + hi) / 2, rfl, by first | rfl | (rw [show ((lo : Int) + (hi : Int)) / 2 = (((lo + hi) / 2 : Nat) : Int) by omega]) | (simp; done), by omega, by omega, by omega, hp1, by omega, HB2⟩
    · obtain rfl : hi = lo := by omega
      obtain rfl : p = hi := by omega
      clear hg hp1 hp2 hlh
      by_cases hn : p < l.length
      · have hx0 : (0 : Int) ≤ ((p : Nat) : Int) := by omega
        have hkl : ((p : Nat) : Int) < (l.length : Int) := by omega
        obtain ⟨ad, e1, hv0, hv1⟩ := at_T82 HR.out ((p : Nat) : Int) hx0 hkl
        cases e1
        have hrd : rd_T82 l ((p : Nat) : Int) = l[p] := by
          unfold rd_T82
          rw [Int.toNat_natCast, List.getD_eq_getElem?_getD, List.getElem?_eq_getElem hn]; rfl
        rw [hrd, Int.toNat_natCast] at hv0 hv1
        have hhk : (cmpK l[p].f0 key == 0) = q := by
          rw [← HQ.out, cmpK_eq]; unfold hasK; rw [HP.out, List.getElem?_eq_getElem hn]
        clear hrd HQ
        generalize l[p] = y at hv0 hv1 hhk
        subst hhk
        replace hv0 := (HB.out.cell (World.block_lt_of_cell? w _ hv0)).trans hv0
        replace hv1 := (HB.out.cell (World.block_lt_of_cell? w _ hv1)).trans hv1
        go_wp2_with fail
        refine (at1_calls y.f0 y.f1 key _).mono ?_
        rintro e w2 ⟨rfl, hb⟩
        have HB2 := Aside0.mk (below_step HB.out hb)
        clear hb HB hv0 hv1
        go_wp2
        go_ret2
        exact ⟨rfl, HB2.out⟩
      · obtain rfl : false = q := by
          rw [← HQ.out]; unfold hasK
          rw [HP.out, List.getElem?_eq_none (by omega)]
        go_wp2
        go_ret2
        exact ⟨rfl, HB.out⟩
/-- A store: its variable's block, and its row; all from block base on. -/
def StoreAt (base g : Nat) (l : List S82) (w : World) : Prop :=
  base ≤ g ∧ sortK l ∧ ∃ v, w.heap[g]? = some (.cells #[v] 118 (0, 0)) ∧ Kd.R k82 82 w base (fun k => base ≤ k) v l
theorem StoreAt.lt {base g : Nat} {l : List S82} {w : World} (h : StoreAt base g l w) : g < w.heap.size := by
  obtain ⟨_, _, v, h1, _⟩ := h
  exact blk_lt h1
theorem StoreAt.below {base g : Nat} {l : List S82} {w w1 : World} (h : StoreAt base g l w) (hb : Below w.heap.size w w1) : StoreAt base g l w1 := by
  obtain ⟨h0, h1, v, h2, h3⟩ := h
  exact ⟨h0, h1, v, blk_below h2 hb, Kd.R_below h3 hb⟩
set_option maxHeartbeats 1000000 in
set_option maxRecDepth 100000 in
theorem st_at (base g : Nat) (l : List S82) (key : ByteArray) (w : World) (h : StoreAt base g l w) (hl : l.length ≤ 1000000000) :
    Calls Tryz.prog 80 #[.pointer (some ⟨g, 0, none⟩), .string key] w fun e w' => e = .returned (.tuple #[.int .i64 (posK l key), .bool (hasK l key)]) ∧ Below w.heap.size w w' := by
  obtain ⟨h0, h1, v, h2, h3⟩ := h
  obtain ⟨A, c, e, _, hC⟩ := Kd.R_reads h3
  subst e
  have y0 : w.cell? ⟨g, 0, none⟩ = some (.slice A l.length c) := (blk_cell h2 0).trans rfl
  go_enter Tryz.func80, Tryz.ntmps80
  go_wp2_with fail
  refine (bs_calls A c l key _ h1 hC hl).mono ?_
  rintro e w2 ⟨rfl, hb⟩
  go_wp2
  go_ret2
  exact ⟨rfl, hb⟩
set_option maxHeartbeats 1000000 in
set_option maxRecDepth 100000 in
theorem st_get (base g : Nat) (l : List S82) (key : ByteArray) (w : World) (h : StoreAt base g l w) (hl : l.length ≤ 1000000000) :
    Calls Tryz.prog 49 #[.pointer (some ⟨g, 0, none⟩), .string key] w fun e w' => e = .returned (.tuple #[.string (getK l key).1, .bool (getK l key).2]) ∧ Below w.heap.size w w' := by
  cases hh : hasK l key with
  | false =>
    have hg : getK l key = (⟨#[]⟩, false) := by unfold getK; rw [hh]; rfl
    rw [hg]
    go_enter Tryz.func49, Tryz.ntmps49
    go_wp2_with fail
    refine (st_at base g l key _ h hl).mono ?_
    rintro e w2 ⟨rfl, hb⟩
    rw [hh]
    go_wp2
    go_ret2
    exact ⟨rfl, hb⟩
  | true =>
    have hg : getK l key = ((rd_T82 l (posK l key : Int)).f1, true) := by unfold getK; rw [hh]; rfl
    obtain ⟨hp, _⟩ := hasK_lt hh
    rw [hg]
    have h' := h
    obtain ⟨h0, h1, v, h2, h3⟩ := h'
    obtain ⟨A, c, e, _, hC⟩ := Kd.R_reads h3
    subst e
    have hx0 : (0 : Int) ≤ ((posK l key : Nat) : Int) := by omega
    have hkl : ((posK l key : Nat) : Int) < (l.length : Int) := by omega
    obtain ⟨ad, e1, hv0, hv1⟩ := at_T82 hC ((posK l key : Nat) : Int) hx0 hkl
    cases e1
    rw [Int.toNat_natCast] at hv0 hv1
    generalize (rd_T82 l (posK l key : Int)) = y at hv0 hv1 ⊢
    have HV1 := Aside0.mk hv1
    have HR := Aside0.mk h2
    clear hv0 hv1 h2 h3 hC h0 h1 hg
    go_enter Tryz.func49, Tryz.ntmps49
    go_wp2_with fail
    refine (st_at base g l key _ h hl).mono ?_
    rintro e w2 ⟨rfl, hb⟩
    rw [hh]
    have y0 : w2.cell? ⟨g, 0, none⟩ = some (.slice (some ad) l.length c) := (blk_cell (blk_below HR.out hb) 0).trans rfl
    have y1 := (hb.cell (World.block_lt_of_cell? w _ HV1.out)).trans HV1.out
    have hb' := Aside0.mk hb
    clear hb HV1 HR h
    generalize posK l key = p at *
    go_wp2
    go_ret2
    exact ⟨rfl, hb'.out⟩
/-! ### a row of pairs, as cells -/
def encP (l : List S82) : List Value := l.flatMap (fun p => [.string p.f0, .string p.f1])
theorem encP_len (l : List S82) : (encP l).length = l.length * 2 := by
  unfold encP
  induction l with
  | nil => rfl
  | cons a l ih => simp only [List.flatMap_cons, List.length_append, ih, List.length_cons, List.length_nil]; omega
theorem encP_append (l m : List S82) : encP (l ++ m) = encP l ++ encP m := by unfold encP; rw [List.flatMap_append]
theorem encP_one (l : List S82) : ∀ v ∈ encP l, v.oneCell' = true := by
  intro v hv
  unfold encP at hv
  obtain ⟨p, _, hp⟩ := List.mem_flatMap.1 hv
  rcases List.mem_cons.1 hp with rfl | hp
  · rfl
  · rw [List.mem_singleton.1 hp]; rfl
theorem encP_split (l : List S82) (i : Nat) (hi : i ≤ l.length) : (encP l).take (i * 2) = encP (l.take i) ∧ (encP l).drop (i * 2) = encP (l.drop i) := by
  have e : encP l = encP (l.take i) ++ encP (l.drop i) := by rw [← encP_append, List.take_append_drop]
  have hl : (encP (l.take i)).length = i * 2 := by rw [encP_len, List.length_take, Nat.min_eq_left hi]
  rw [e]
  exact ⟨List.take_left' hl, List.drop_left' hl⟩
theorem row_slice {w : World} {base : Nat} {e : TypeId} {size n : Nat} {v : Value} {xs : List Value} (h : w.ownsRow base e size v n xs) : ∃ A c, v = .slice A n c ∧ n ≤ c ∧ c ≤ 9223372036854775807 := by
  rcases h.2 with ⟨rfl, rfl⟩ | ⟨g, cap, cur, rfl, _, _, h1, h2, _⟩
  · exact ⟨none, 0, rfl, Nat.le_refl _, by omega⟩
  · exact ⟨_, cap, rfl, h1, by unfold maxLen at h2; omega⟩
def InsPost (base : Nat) (v : Value) (l : List S82) (w : World) (e : Ending) (w' : World) : Prop := ∃ v', e = .returned v' ∧ w'.ownsRow base 82 2 v' l.length (encP l) ∧ w.grownBy w' v.ownBlock ∧ (v'.ownBlock = v.ownBlock ∨ ∃ b, v'.ownBlock = some b ∧ w.heap.size ≤ b)
set_option maxHeartbeats 4000000 in
set_option maxRecDepth 100000 in
theorem ins_end (base : Nat) (v : Value) (l : List S82) (vb : Nat) (x : S82) (w : World) (hl : l.length ≤ 1000000000) (ho : w.ownsRow base 82 2 v l.length (encP l)) (hbase : base ≤ w.heap.size)
    (hv : w.heap[vb]? = some (.cells #[.string x.f0, .string x.f1] 82 (0, 0))) :
    Calls Tryz.prog 103 #[v, .int .i64 l.length, .slice (some ⟨vb, 0, none⟩) 1 1] w (InsPost base v (l ++ [x]) w) := by
  obtain ⟨i0, hi0, hz⟩ := Option.map_eq_some_iff.1 info82
  simp only [Prod.mk.injEq] at hz
  obtain ⟨hz0, hz1, hz2⟩ := hz
  have hc0 : w.cell? ⟨vb, 0, none⟩ = some (.string x.f0) := (blk_cell hv 0).trans rfl
  have hc1 : w.cell? ⟨vb, 1, none⟩ = some (.string x.f1) := (blk_cell hv 1).trans rfl
  obtain ⟨v1, w1, hrun, h1, h2, _, h3⟩ := run_append_own_at (P := Tryz.prog) (w := w) base 35 35 82 i0 _ 2 32 Tryz.underlying35 hi0 hz0 hz1 hz2 rfl (by decide) v l.length (encP l) ho ⟨vb, 0, none⟩ 1 1 [.string x.f0, .string x.f1] rfl
    (fun j u hj => by
      match j with
      | 0 => obtain rfl := Option.some.inj hj; exact hc0
      | 1 => obtain rfl := Option.some.inj hj; exact hc1
      | j + 2 => exact absurd hj (by simp)) (by intro u hu; simp at hu; rcases hu with rfl | rfl <;> rfl) (by unfold maxLen; omega) (by omega) hbase
  obtain ⟨A, c, rfl, hnc, hc63⟩ := row_slice ho
  have hpost : InsPost base (.slice A l.length c) (l ++ [x]) w (.returned v1) w1 := ⟨v1, rfl, by
    rw [List.length_append, List.length_singleton, encP_append]; exact h1, h2, h3.imp_right (fun h => ⟨_, h, Nat.le_refl _⟩)⟩
  replace hpost := Aside0.mk hpost
  obtain ⟨A1, c1, rfl, _, _⟩ := row_slice h1
  clear ho h1 h2 h3 hv hc0 hc1 hz0 hz1 hz2 hi0
  go_enter Tryz.func103, Tryz.ntmps103
  go_wp2_with (at_builtin; refine Lib.wpList_append_run _ rfl _ _ _ _ rfl _ _ rfl rfl _ _ hrun ?_)
  all_goals (go_ret; first | exact hpost.out | (obtain rfl : c = l.length := (by first | assumption | (symm; assumption) | omega); exact hpost.out))
theorem row_of {w : World} {base : Nat} {g cap n : Nat} {cur : Array Value} {xs : List Value} (hb : base ≤ g) (hg : w.heap[g]? = some (.cells cur 82 (0, 0))) (hn : n ≤ cap) (hm : cap ≤ maxLen) (hs : cur.size = cap * 2) (hx : cur.toList.take (n * 2) = xs) : w.ownsRow base 82 2 (.slice (some ⟨g, 0, none⟩) n cap) n xs :=
  ⟨by rw [← hx, List.length_take, Array.length_toList, hs]; have : n * 2 ≤ cap * 2 := Nat.mul_le_mul_right 2 hn; omega, .inr ⟨g, cap, cur, rfl, hb, hg, hn, hm, hs, hx⟩⟩
theorem splice_len {α : Type} (L : List α) (o : Nat) (c : List α) (h : o + c.length ≤ L.length) : (splice L o c).length = L.length := length_splice L o c h
/-- What two splices make of a row, a place made free in it. -/
theorem splice_ins {α : Type} (E1 E2 R : List α) (a b : α) (i2 m2 : Nat) (h1 : E1.length = i2) (h2 : E2.length = m2) (hR : 2 ≤ R.length) : (splice (splice (E1 ++ E2 ++ R) (i2 + 2) E2) i2 [a, b]).take (i2 + 2 + m2) = E1 ++ a :: b :: E2 := by
  subst h1
  subst h2
  have e1 : splice (E1 ++ E2 ++ R) (E1.length + 2) E2 = (E1 ++ E2 ++ R).take (E1.length + 2) ++ (E2 ++ R.drop 2) := by
    unfold splice
    congr 2
    have h3 : (E1 ++ E2).length ≤ E1.length + 2 + E2.length := by rw [List.length_append]; omega
    rw [List.drop_append, List.drop_eq_nil_of_le h3, List.nil_append, List.length_append]
    congr 1
    omega
  have e2 : ∀ T X : List α, T.length = E1.length + 2 → T.take E1.length = E1 → splice (T ++ X) E1.length [a, b] = E1 ++ a :: b :: X := by
    intro T X h3 h4
    unfold splice
    rw [List.take_append_of_le_length (by omega), h4, show E1.length + [a, b].length = T.length by rw [h3]; rfl, List.drop_left]
    rfl
  have hlt : ((E1 ++ E2 ++ R).take (E1.length + 2)).length = E1.length + 2 := by rw [List.length_take, List.length_append, List.length_append]; omega
  rw [e1, e2 _ _ hlt (by rw [List.take_take, Nat.min_eq_left (by omega), List.append_assoc, List.take_left]), List.take_append, List.take_of_length_le (by omega)]
  congr 1
  rw [show E1.length + 2 + E2.length - E1.length = E2.length + 1 + 1 by omega, List.take_succ_cons, List.take_succ_cons, List.take_left]
theorem src_cells {w : World} {g : Nat} {cur : Array Value} {t : TypeId} (hg : w.heap[g]? = some (.cells cur t (0, 0))) (o : Nat) (cs : List Value) (h : ∀ j v, cs[j]? = some v → cur.toList[o + j]? = some v) : ∀ j v, cs[j]? = some v → w.cell? ((⟨g, o, none⟩ : Addr).add j) = some v := fun j v hj => by
  have e : (⟨g, o, none⟩ : Addr).add j = ⟨g, o + j, none⟩ := by unfold Addr.add; split <;> simp_all
  rw [e, blk_cell hg]
  have := h j v hj
  rwa [Array.getElem?_toList] at this
set_option maxHeartbeats 4000000 in
set_option maxRecDepth 100000 in
theorem ins_shift (base g cap : Nat) (cur : Array Value) (l : List S82) (i vb : Nat) (x : S82) (w : World) (hl : l.length ≤ 1000000000) (hi : i < l.length) (hroom : l.length + 1 ≤ cap) (hcm : cap ≤ maxLen) (hb : base ≤ g)
    (hg : w.heap[g]? = some (.cells cur 82 (0, 0))) (hs : cur.size = cap * 2) (hx : cur.toList.take (l.length * 2) = encP l)
    (hv : w.heap[vb]? = some (.cells #[.string x.f0, .string x.f1] 82 (0, 0))) (hvb : vb ≠ g) :
    Calls Tryz.prog 103 #[.slice (some ⟨g, 0, none⟩) l.length cap, .int .i64 i, .slice (some ⟨vb, 0, none⟩) 1 1] w (InsPost base (.slice (some ⟨g, 0, none⟩) l.length cap) (l.take i ++ x :: l.drop i) w) := by
  have hsz : (Tryz.prog.info? 82).map (·.size) = some 2 := by kernel_rfl
  have hzz : ∀ w, (Go.sizeOf 82).run Tryz.prog w = .ok 2 w := fun w => by simp [sizeOf, typeInfo]; kernel_rfl
  have hcm2 : cap ≤ 9223372036854775807 := by unfold maxLen at hcm; omega
  obtain ⟨hsp1, hsp2⟩ := encP_split l i (by omega)
  have hE2 : (encP (l.drop i)).length = (l.length - i) * 2 := by rw [encP_len, List.length_drop]
  have hcL : cur.toList.length = cap * 2 := by rw [Array.length_toList, hs]
  have hcur : cur.toList = encP (l.take i) ++ encP (l.drop i) ++ cur.toList.drop (l.length * 2) := by rw [← encP_append, List.take_append_drop, ← hx, List.take_append_drop]
  have hE1 : (encP (l.take i)).length = i * 2 := by rw [encP_len, List.length_take, Nat.min_eq_left (by omega)]
  have hz1 : ¬ ((1 : Int) = 0) := by omega
  have hz2 : ¬ ((i : Int) = (l.length : Int)) := by omega
  have hov : ∀ lb cb, (callFunc 112 #[.slice (some ⟨vb, 0, none⟩) 1 1, .slice (some ⟨g, (i + 1) * 2, none⟩) lb cb]).run Tryz.prog w = .ok (.value (.bool false)) w := fun lb cb => by
    have hsa : w.shape? vb = some (82, 2) := by unfold World.shape?; rw [hv]; rfl
    have hsb : w.shape? g = some (82, cur.size) := by unfold World.shape?; rw [hg]
    rw [run_callFunc_extern Tryz.func112 (by kernel_rfl) (by kernel_rfl) (by kernel_rfl) (e := Extern.SlicesOverlaps.overlaps #[35, 35] #[4]) (by kernel_rfl),
      Lib.run_overlaps_apart w 35 4 82 Tryz.underlying35 2 hzz ⟨vb, 0, none⟩ ⟨g, (i + 1) * 2, none⟩ 1 1 lb cb hvb 82 82 2 cur.size hsa hsb (by omega) (blk_frozen hv 0) (blk_frozen hv 2)]
    rfl
  have hgd : w.drew.heap[g]? = some (.cells cur 82 (0, 0)) := hg
  obtain ⟨C1, hC1⟩ : ∃ C1 : Array Value, C1 = (splice cur.toList ((i + 1) * 2) (encP (l.drop i))).toArray := ⟨_, rfl⟩
  have hC1s : C1.size = cap * 2 := by rw [hC1, List.size_toArray, splice_len _ _ _ (by rw [hcL, hE2]; omega), hcL]
  have hcp1 : ∀ ty dc sc, (Builtin.copy_ #[35, 35] ty #[.slice (some ⟨g, (i + 1) * 2, none⟩) (l.length + 1 - (i + 1)) dc, .slice (some ⟨g, i * 2, none⟩) (l.length + 1 - i) sc]).run Tryz.prog w.drew = .ok (goInt (Nat.min (l.length + 1 - i) (l.length + 1 - (i + 1)))) (w.drew.setRow g C1) := fun ty dc sc => by
    have h := run_copy_k (P := Tryz.prog) w.drew 35 35 ty 82 g ((i + 1) * 2) (l.length + 1 - (i + 1)) dc 2 ⟨g, i * 2, none⟩ (l.length + 1 - i) sc cur 82 (encP (l.drop i)) Tryz.underlying35 hsz hgd
      (by rw [hE2]; simp only [Nat.min_def]; split <;> omega)
      (src_cells hgd _ _ (fun j v hj => by rw [hcur, List.getElem?_append_left (by have := (List.getElem?_eq_some_iff.1 hj).1; rw [List.length_append, hE1]; omega), List.getElem?_append_right (by rw [hE1]; omega), hE1, Nat.add_sub_cancel_left]; exact hj))
      (by rw [hE2, hs]; omega) (encP_one _)
    rw [h, hC1]
  have hW1g : (w.drew.setRow g C1).heap[g]? = some (.cells C1 82 (0, 0)) := setRow_heap _ g cur C1 _ _ hgd
  have hW1v : (w.drew.setRow g C1).heap[vb]? = some (.cells #[.string x.f0, .string x.f1] 82 (0, 0)) := (setRow_other _ g vb C1 hvb).trans hv
  obtain ⟨C2, hC2⟩ : ∃ C2 : Array Value, C2 = (splice C1.toList (i * 2) [.string x.f0, .string x.f1]).toArray := ⟨_, rfl⟩
  have hcp2 : ∀ ty dc, (Builtin.copy_ #[35, 35] ty #[.slice (some ⟨g, i * 2, none⟩) (l.length + 1 - i) dc, .slice (some ⟨vb, 0, none⟩) 1 1]).run Tryz.prog (w.drew.setRow g C1) = .ok (goInt (Nat.min 1 (l.length + 1 - i))) ((w.drew.setRow g C1).setRow g C2) := fun ty dc => by
    have h := run_copy_k (P := Tryz.prog) (w.drew.setRow g C1) 35 35 ty 82 g (i * 2) (l.length + 1 - i) dc 2 ⟨vb, 0, none⟩ 1 1 C1 82 [.string x.f0, .string x.f1] Tryz.underlying35 hsz hW1g
      (by show 2 = _; simp only [Nat.min_def]; split <;> omega)
      (src_cells hW1v _ _ (fun j v hj => by rw [Nat.zero_add]; exact hj)) (by rw [hC1s]; show i * 2 + 2 ≤ _; omega) (by intro u hu; simp at hu; rcases hu with rfl | rfl <;> rfl)
    rw [h, hC2]
  have hfin : InsPost base (.slice (some ⟨g, 0, none⟩) l.length cap) (l.take i ++ x :: l.drop i) w (.returned (.slice (some ⟨g, 0, none⟩) (l.length + 1) cap)) ((w.drew.setRow g C1).setRow g C2) := by
    have hn : (l.take i ++ x :: l.drop i).length = l.length + 1 := by rw [List.length_append, List.length_take, List.length_cons, List.length_drop]; omega
    refine ⟨_, rfl, ?_, ?_, .inl rfl⟩
    · rw [hn]
      refine row_of hb (setRow_heap _ g C1 C2 _ _ hW1g) hroom hcm (by rw [hC2, List.size_toArray, splice_len _ _ _ (by show i * 2 + 2 ≤ C1.toList.length; rw [Array.length_toList, hC1s]; omega), Array.length_toList, hC1s]) ?_
      rw [hC2, hC1, List.toList_toArray, List.toList_toArray, hcur]
      have hR : 2 ≤ (cur.toList.drop (l.length * 2)).length := by rw [List.length_drop, hcL]; omega
      have h := splice_ins (encP (l.take i)) (encP (l.drop i)) (cur.toList.drop (l.length * 2)) (.string x.f0) (.string x.f1) (i * 2) ((l.length - i) * 2) hE1 hE2 hR
      rw [show (i + 1) * 2 = i * 2 + 2 by omega, show (l.length + 1) * 2 = i * 2 + 2 + (l.length - i) * 2 by omega, h, encP_append]
      rfl
    · exact ((gb_below (below_drew (Below.refl _ _))).trans (gb_setRow w.drew g C1)).trans (gb_setRow _ g C2)
  replace hfin := Aside0.mk hfin
  replace hcur := Aside0.mk hcur
  have hw1 : IntKind.i64.wrap ((l.length : Int) + 1) = ((l.length + 1 : Nat) : Int) := by rw [IntKind.wrap_i64]; omega
  have hw2 : IntKind.i64.wrap ((i : Int) + 1) = ((i + 1 : Nat) : Int) := by rw [IntKind.wrap_i64]; omega
  have hb1 : (0 : Int) ≤ (i : Int) + 1 := by omega
  have hin : i ≤ l.length := by omega
  have hb2 : ¬ (cap = i + 1) := by omega
  have hb3 : (i : Int) ≤ (l.length : Int) + 1 := by omega
  have hb4 : ¬ (cap = i) := by omega
  have htn : ((i : Int) + 1).toNat = i + 1 := by omega
  rw [show l.length + 1 - (i + 1) = l.length - i by omega] at hcp1
  clear hx hg hv hgd hW1g hW1v hC1 hC2 hC1s hE1 hE2 hcL hsp1 hsp2 hsz hzz hs hcm hcur
  go_enter Tryz.func103, Tryz.ntmps103
  go_wp2_with (simp only [hov])
  go_region_law (refine step_copy_runI rfl _ _ 35 35 rfl _ _ (by simp [Act.eval, Act.put]) (by simp [Act.eval, Act.put]) (hcp1 _ _ _) ?_)
  go_wp2_with (at_builtin; refine wpList_copy_runI _ rfl _ _ 35 35 rfl _ _ rfl rfl (hcp2 _ _) ?_)
  go_ret
  exact hfin.out
theorem splice_new {α : Type} (E1 E2 Z : List α) (a b : α) (i2 m2 : Nat) (h1 : E1.length = i2) (h2 : E2.length = m2) (hZ : 2 + m2 ≤ Z.length) : (splice (splice (E1 ++ Z) i2 [a, b]) (i2 + 2) E2).take (i2 + 2 + m2) = E1 ++ a :: b :: E2 := by
  subst h1
  subst h2
  have e1 : splice (E1 ++ Z) E1.length [a, b] = (E1 ++ [a, b]) ++ Z.drop 2 := by
    unfold splice
    rw [List.take_left, List.append_assoc]
    congr 2
    rw [List.drop_append, List.drop_eq_nil_of_le (by simp), List.nil_append]
    congr 1
    simp
  have e2 : splice ((E1 ++ [a, b]) ++ Z.drop 2) (E1.length + 2) E2 = (E1 ++ [a, b] ++ E2) ++ Z.drop (2 + E2.length) := by
    have h3 : (E1 ++ [a, b]).length = E1.length + 2 := by simp
    unfold splice
    rw [← h3, List.take_left, ← List.append_assoc]
    congr 1
    rw [List.drop_append, List.drop_eq_nil_of_le (by omega), List.nil_append, List.drop_drop]
    congr 1
    omega
  rw [e1, e2, List.take_append_of_le_length (by simp; omega), List.take_of_length_le (by simp; omega), List.append_assoc]
  rfl
set_option maxHeartbeats 4000000 in
set_option maxRecDepth 100000 in
theorem ins_grow (base g cap : Nat) (cur : Array Value) (l : List S82) (i vb : Nat) (x : S82) (w : World) (hl : l.length ≤ 1000000000) (hi : i < l.length) (hn : l.length ≤ cap) (hroom : cap < l.length + 1) (hcm : cap ≤ maxLen) (hb : base ≤ w.heap.size)
    (hg : w.heap[g]? = some (.cells cur 82 (0, 0))) (hs : cur.size = cap * 2) (hx : cur.toList.take (l.length * 2) = encP l)
    (hv : w.heap[vb]? = some (.cells #[.string x.f0, .string x.f1] 82 (0, 0))) (hvb : vb ≠ g) :
    Calls Tryz.prog 103 #[.slice (some ⟨g, 0, none⟩) l.length cap, .int .i64 i, .slice (some ⟨vb, 0, none⟩) 1 1] w (InsPost base (.slice (some ⟨g, 0, none⟩) l.length cap) (l.take i ++ x :: l.drop i) w) := by
  obtain ⟨i0, hi0, hz⟩ := Option.map_eq_some_iff.1 info82
  simp only [Prod.mk.injEq] at hz
  obtain ⟨hz0, hzs, hzb⟩ := hz
  have hsz : (Tryz.prog.info? 82).map (·.size) = some 2 := by kernel_rfl
  have hcm2 : cap ≤ 9223372036854775807 := by unfold maxLen at hcm; omega
  obtain ⟨hsp1, hsp2⟩ := encP_split l i (by omega)
  have hE2 : (encP (l.drop i)).length = (l.length - i) * 2 := by rw [encP_len, List.length_drop]
  have hcL : cur.toList.length = cap * 2 := by rw [Array.length_toList, hs]
  have hcur : cur.toList = encP (l.take i) ++ encP (l.drop i) ++ cur.toList.drop (l.length * 2) := by rw [← encP_append, List.take_append_drop, ← hx, List.take_append_drop]
  have hE1 : (encP (l.take i)).length = i * 2 := by rw [encP_len, List.length_take, Nat.min_eq_left (by omega)]
  have hz1 : ¬ ((1 : Int) = 0) := by omega
  have hz2 : ¬ ((i : Int) = (l.length : Int)) := by omega
  have hz3 : (cap : Int) < (l.length : Int) + 1 := by omega
  have hgw : g < w.heap.size := blk_lt hg
  have hvw : vb < w.heap.size := blk_lt hv
  have hkk : (l.length : Int) + 1 - (i : Int) = ((l.length + 1 - i : Nat) : Int) := by omega
  have hik : i + (l.length + 1 - i) = l.length + 1 := by omega
  have hold : (Builtin.firstCells i0.size i (.slice (some ⟨g, 0, none⟩) i cap)).run Tryz.prog w.drew = .ok (encP (l.take i)).toArray w.drew := by
    rw [hzs]
    exact run_firstCells_some w.drew 2 i ⟨g, 0, none⟩ i cap (encP (l.take i)) hE1 (src_cells (show w.drew.heap[g]? = _ from hg) _ _ (fun j v hj => by rw [Nat.zero_add, hcur, List.append_assoc, List.getElem?_append_left (List.getElem?_eq_some_iff.1 hj).1]; exact hj))
  obtain ⟨G, hG⟩ : ∃ G, G = grownCap w (l.length + 1) cap 82 := ⟨_, rfl⟩
  obtain ⟨ROW, hROW⟩ : ∃ ROW : Array Value, ROW = (encP (l.take i)).toArray ++ Builtin.zeroCells (Value.agg #[.string ⟨#[]⟩, .string ⟨#[]⟩]).cells (l.length + 1 - i) ++ Builtin.zeroCells (Value.agg #[.string ⟨#[]⟩, .string ⟨#[]⟩]).cells (G - (l.length + 1)) := ⟨_, rfl⟩
  have hrz : ∀ ty, (Builtin.append_ #[35, 3] ty #[.slice (some ⟨g, 0, none⟩) i cap, .int .i64 ((l.length : Int) + 1 - (i : Int))]).run Tryz.prog w = .ok (.slice (some ⟨w.heap.size, 0, none⟩) (l.length + 1) G) (w.drew.alloc (.cells ROW 82)) := fun ty => by
    have h := Lib.run_append_grow_zeros (P := Tryz.prog) w 35 3 ty 82 i0 _ .i64 .i64 Tryz.underlying35 Tryz.underlying3 hi0 hz0 (some ⟨g, 0, none⟩) i cap (encP (l.take i)) hold (l.length + 1 - i) (by omega) (by omega) (by omega) (by omega) (by rw [hzb]; omega) (by rw [hzb, hik]; exact growslice_fits hroom (by omega))
    rw [hik, ← hG] at h
    rw [hkk, hROW]
    exact h
  have hGn : l.length + 1 ≤ G := by rw [hG]; exact grownCap_ge w _ _ _
  have hGm : G ≤ maxLen := by rw [hG]; exact grownCap_le_maxLen w _ _ _ (by unfold maxLen; omega)
  have hG63 : G ≤ 9223372036854775807 := by unfold maxLen at hGm; omega
  have hRs : ROW.size = G * 2 := by
    rw [hROW, Array.size_append, Array.size_append, List.size_toArray, hE1, zeroCells_len, zeroCells_len]
    show i * 2 + (l.length + 1 - i) * 2 + (G - (l.length + 1)) * 2 = G * 2
    omega
  have hRL : ROW.toList = encP (l.take i) ++ ROW.toList.drop (i * 2) := by
    have h := List.take_append_drop (i * 2) ROW.toList
    conv => lhs; rw [← h]
    congr 1
    rw [hROW, Array.toList_append, Array.toList_append, List.append_assoc, List.toList_toArray]
    exact List.take_left' hE1
  obtain ⟨C1, hC1⟩ : ∃ C1 : Array Value, C1 = (splice ROW.toList (i * 2) [.string x.f0, .string x.f1]).toArray := ⟨_, rfl⟩
  have hC1s : C1.size = G * 2 := by rw [hC1, List.size_toArray, splice_len _ _ _ (by show i * 2 + 2 ≤ ROW.toList.length; rw [Array.length_toList, hRs]; omega), Array.length_toList, hRs]
  have hC1L : C1.toList.length = G * 2 := hC1s
  have hROL : ROW.toList.length = G * 2 := hRs
  obtain ⟨C2, hC2⟩ : ∃ C2 : Array Value, C2 = (splice C1.toList ((i + 1) * 2) (encP (l.drop i))).toArray := ⟨_, rfl⟩
  have hC2s : C2.size = G * 2 := by rw [hC2, List.size_toArray, splice_len _ _ _ (by rw [hC1L, hE2]; omega), hC1L]
  have hN : (w.drew.alloc (.cells ROW 82)).heap[w.heap.size]? = some (.cells ROW 82 (0, 0)) := my_alloc_new w.drew _
  have hNv : (w.drew.alloc (.cells ROW 82)).heap[vb]? = some (.cells #[.string x.f0, .string x.f1] 82 (0, 0)) := blk_alloc (w := w.drew) hv _
  have hNg : (w.drew.alloc (.cells ROW 82)).heap[g]? = some (.cells cur 82 (0, 0)) := blk_alloc (w := w.drew) hg _
  have hcpA : ∀ W : World, W.heap[w.heap.size]? = some (.cells ROW 82 (0, 0)) → W.heap[vb]? = some (.cells #[.string x.f0, .string x.f1] 82 (0, 0)) → ∀ ty dc, (Builtin.copy_ #[35, 35] ty #[.slice (some ⟨w.heap.size, i * 2, none⟩) (l.length + 1 - i) dc, .slice (some ⟨vb, 0, none⟩) 1 1]).run Tryz.prog W = .ok (goInt (Nat.min 1 (l.length + 1 - i))) (W.setRow w.heap.size C1) := fun W h1 h2 ty dc => by
    have h := run_copy_k (P := Tryz.prog) W 35 35 ty 82 w.heap.size (i * 2) (l.length + 1 - i) dc 2 ⟨vb, 0, none⟩ 1 1 ROW 82 [.string x.f0, .string x.f1] Tryz.underlying35 hsz h1
      (by show 2 = _; simp only [Nat.min_def]; split <;> omega)
      (src_cells h2 _ _ (fun j v hj => by rw [Nat.zero_add]; exact hj)) (by rw [hRs]; show i * 2 + 2 ≤ _; omega) (by intro u hu; simp at hu; rcases hu with rfl | rfl <;> rfl)
    rw [h, hC1]
  have hcpB : ∀ W : World, W.heap[w.heap.size]? = some (.cells C1 82 (0, 0)) → W.heap[g]? = some (.cells cur 82 (0, 0)) → ∀ ty dc sc, (Builtin.copy_ #[35, 35] ty #[.slice (some ⟨w.heap.size, (i + 1) * 2, none⟩) (l.length - i) dc, .slice (some ⟨g, i * 2, none⟩) (l.length - i) sc]).run Tryz.prog W = .ok (goInt (Nat.min (l.length - i) (l.length - i))) (W.setRow w.heap.size C2) := fun W h1 h2 ty dc sc => by
    have h := run_copy_k (P := Tryz.prog) W 35 35 ty 82 w.heap.size ((i + 1) * 2) (l.length - i) dc 2 ⟨g, i * 2, none⟩ (l.length - i) sc C1 82 (encP (l.drop i)) Tryz.underlying35 hsz h1
      (by rw [hE2]; simp)
      (src_cells h2 _ _ (fun j v hj => by rw [hcur, List.getElem?_append_left (by have := (List.getElem?_eq_some_iff.1 hj).1; rw [List.length_append, hE1]; omega), List.getElem?_append_right (by rw [hE1]; omega), hE1, Nat.add_sub_cancel_left]; exact hj))
      (by rw [hE2, hC1s]; omega) (encP_one _)
    rw [h, hC2]
  have hW1 := setRow_heap _ w.heap.size ROW C1 _ _ hN
  have hW1g : ((w.drew.alloc (.cells ROW 82)).setRow w.heap.size C1).heap[g]? = some (.cells cur 82 (0, 0)) := (setRow_other _ w.heap.size g C1 (by omega)).trans hNg
  have hfin : InsPost base (.slice (some ⟨g, 0, none⟩) l.length cap) (l.take i ++ x :: l.drop i) w (.returned (.slice (some ⟨w.heap.size, 0, none⟩) (l.length + 1) G)) ((((w.drew.alloc (.cells ROW 82)).setRow w.heap.size C1).drew).setRow w.heap.size C2) := by
    have hn : (l.take i ++ x :: l.drop i).length = l.length + 1 := by rw [List.length_append, List.length_take, List.length_cons, List.length_drop]; omega
    refine ⟨_, rfl, ?_, ?_, .inr ⟨_, rfl, Nat.le_refl _⟩⟩
    · rw [hn]
      refine row_of hb (setRow_heap _ w.heap.size C1 C2 _ _ hW1) hGn hGm hC2s ?_
      rw [hC2, hC1, List.toList_toArray, List.toList_toArray, hRL]
      have hR : 2 + (l.length - i) * 2 ≤ (ROW.toList.drop (i * 2)).length := by rw [List.length_drop, hROL]; omega
      have h := splice_new (encP (l.take i)) (encP (l.drop i)) (ROW.toList.drop (i * 2)) (.string x.f0) (.string x.f1) (i * 2) ((l.length - i) * 2) hE1 hE2 hR
      rw [show (i + 1) * 2 = i * 2 + 2 by omega, show (l.length + 1) * 2 = i * 2 + 2 + (l.length - i) * 2 by omega, h, encP_append]
      rfl
    · have z1 : w.grownBy ((w.drew.alloc (.cells ROW 82)).setRow w.heap.size C1) (some g) := ⟨rfl, rfl, rfl, by simp [World.setRow], fun k hk _ => (setRow_other _ w.heap.size k C1 (by omega)).trans (Below.heap_alloc w.drew _ k hk)⟩
      exact ⟨z1.os, z1.tape, z1.output, by simp [World.setRow], fun k hk hne => (setRow_other _ w.heap.size k C2 (by omega)).trans (z1.block k hk hne)⟩
  replace hfin := Aside0.mk hfin
  have hw2 : IntKind.i64.wrap ((i : Int) + 1) = ((i + 1 : Nat) : Int) := by rw [IntKind.wrap_i64]; omega
  have hb1 : (0 : Int) ≤ (i : Int) + 1 := by omega
  have hin : i ≤ l.length := by omega
  have hb2 : ¬ (G = i + 1) := by omega
  have hb3 : (i : Int) ≤ (l.length : Int) + 1 := by omega
  have hb4 : ¬ (G = i) := by omega
  have hb5 : ¬ (cap = i) := by omega
  have htn : ((i : Int) + 1).toNat = i + 1 := by omega
  have hA := fun (W : World) (e : W.heap = (w.drew.alloc (.cells ROW 82)).heap) => hcpA W (by rw [e]; exact hN) (by rw [e]; exact hNv)
  have hB := fun (W : World) (e : W.heap = ((w.drew.alloc (.cells ROW 82)).setRow w.heap.size C1).heap) => hcpB W (by rw [e]; exact hW1) (by rw [e]; exact hW1g)
  clear hcur hx hg hv hN hNv hNg hW1 hW1g hC1L hROL hC1 hC2 hC1s hC2s hE1 hE2 hcL hsp1 hsp2 hsz hs hcm hRs hRL hROW hold hkk hik hcpA hcpB hG hGm hi0 hz0 hzs hzb
  go_enter Tryz.func103, Tryz.ntmps103
  go_wp2_with (first
    | (at_builtin; refine Lib.wpList_append_run _ rfl _ _ _ _ rfl _ _ rfl rfl _ _ (hrz _) ?_)
    | (refine wpList_copy_runI (o := ⟨some 45, _, _, _, _, _⟩) _ rfl _ _ 35 35 rfl _ _ rfl rfl (hA _ ?eA _ _) ?_; (case eA => rfl)))
  go_region_law (refine step_copy_runI rfl _ _ 35 35 rfl (.slice (some ⟨w.heap.size, (i + 1) * 2, none⟩) (l.length - i) (G - (i + 1))) (.slice (some ⟨g, i * 2, none⟩) (l.length - i) (cap - i)) (by simp [Act.eval, Act.put]) (by simp [Act.eval, Act.put]) (hB (((w.alloc (.cells ROW 82)).drew.setRow w.heap.size C1).drew) rfl 3 (G - (i + 1)) (cap - i)) ?_)
  go_wp2
  go_ret
  exact hfin.out
theorem ins_calls (base : Nat) (v : Value) (l : List S82) (i vb : Nat) (x : S82) (w : World) (hl : l.length ≤ 1000000000) (hi : i ≤ l.length) (ho : w.ownsRow base 82 2 v l.length (encP l)) (hbase : base ≤ w.heap.size)
    (hv : w.heap[vb]? = some (.cells #[.string x.f0, .string x.f1] 82 (0, 0))) (hvb : some vb ≠ v.ownBlock) :
    Calls Tryz.prog 103 #[v, .int .i64 i, .slice (some ⟨vb, 0, none⟩) 1 1] w (InsPost base v (l.take i ++ x :: l.drop i) w) := by
  by_cases he : i = l.length
  · subst he
    rw [List.take_length, List.drop_length]
    exact ins_end base v l vb x w hl ho hbase hv
  · rcases ho.2 with ⟨rfl, h0⟩ | ⟨g, cap, cur, rfl, hb, hg, hn, hm, hs, hx⟩
    · omega
    · have hne : vb ≠ g := fun e => hvb (by rw [e]; rfl)
      by_cases hr : l.length + 1 ≤ cap
      · exact ins_shift base g cap cur l i vb x w hl (by omega) hr hm hb hg hs hx hv hne
      · exact ins_grow base g cap cur l i vb x w hl (by omega) hn (by omega) hm hbase hg hs hx hv hne
/-! ### a row of pairs of one's own -/
theorem reps_enc : ∀ (l : List S82) (inner : List Value), inner.length = l.length * 2 → (∀ j p, l[j]? = some p → (inner.drop (j * 2)).take 2 = [.string p.f0, .string p.f1]) → inner = encP l
  | [], inner, h, _ => by exact List.length_eq_zero_iff.1 (by simpa using h)
  | a :: t, inner, h, hr => by
    have h0 := hr 0 a rfl
    rw [Nat.zero_mul, List.drop_zero] at h0
    have ih := reps_enc t (inner.drop 2) (by rw [List.length_drop, h, List.length_cons]; omega) (fun j p hj => by
      rw [List.drop_drop, show 2 + j * 2 = (j + 1) * 2 by omega]
      exact hr (j + 1) p (by simpa using hj))
    have e := List.take_append_drop 2 inner
    rw [h0, ih] at e
    rw [← e]; rfl
theorem R_rows {base : Nat} {ok : Nat → Prop} {v : Value} {l : List S82} {w : World} (h : Kd.R k82 82 w base ok v l) : w.ownsRow base 82 2 v l.length (encP l) := by
  obtain ⟨_, inner, ho, hr⟩ := h
  have e : inner = encP l := reps_enc l inner hr.1 (fun j p hj => k82_openM (hr.2 j p hj))
  rw [← e]; exact ho
theorem rows_R {base : Nat} {ok : Nat → Prop} {v : Value} {l : List S82} {w : World} (h : w.ownsRow base 82 2 v l.length (encP l)) (hok : ∀ k, v.ownBlock = some k → ok k) : Kd.R k82 82 w base ok v l := by
  refine ⟨hok, encP l, h, encP_len l, fun j p hj => ?_⟩
  have hjl : j < l.length := (List.getElem?_eq_some_iff.1 hj).1
  have e : ((encP l).drop (j * 2)).take 2 = [.string p.f0, .string p.f1] := by
    rw [(encP_split l j (by omega)).2, List.drop_eq_getElem_cons hjl]
    have : l[j] = p := (List.getElem?_eq_some_iff.1 hj).2
    rw [this]; rfl
  show Kd.M k82 w base _ p (((encP l).drop (j * 2)).take 2)
  rw [e]
  exact k82_mkM w base _ p

end Go.Proofs.YtjappgjpikbdeaaGreatDoor.PTkk
