-- written by wip/myprint.py over the kit's print; not a printed text of print.sh
import Derived.Test.YtfjneffmgmcdaaaPParx0
import Derived.Test.YtfjneffmgmcdaaaPParx2
import Derived.Test.YtfjneffmgmcdaaaPParx3
import Derived.Test.YtfjneffmgmcdaaaPParx4
import Derived.Test.YtfjneffmgmcdaaaPParx5
import Derived.Test.YtfjneffmgmcdaaaPParx6
import Derived.Test.YtfjneffmgmcdaaaPParx7
import Derived.Test.YtfjneffmgmcdaaaPParx10
namespace Go.Proofs.Ytfjneffmgmcdaaa.PPar
open Go.RowKit Go.Proofs.YtfjneffmgmcdaaaW.PrintWords Go.Proofs.YtfjneffmgmcdaaaW.PrintLast Go.Proofs.YtfjneffmgmcdaaaW.PrintMore
attribute [local go_sem] max2_int min2_int max_two min_two max_three min_three max_four min_four   -- for this text's walks alone
set_option linter.unusedVariables false
set_option linter.unusedSimpArgs false

/-! ### footbridgelaw09_awake: function 40 -/
theorem aw_after : True := by have _ := @doK_len; trivial
theorem StoreIs.other {b' g' base g : Nat} {u v : Value} {m l : List S102} {w w' : World} (h : StoreIs b' g' u m w) (hs : StoreIs base g v l w) (hw : StoreW g v w w') (h1 : g' ≠ g) (h2 : u.ownBlock = none ∨ u.ownBlock ≠ v.ownBlock) : StoreIs b' g' u m w' := by
  refine ⟨h.1, h.2.1, (hw.block g' h.glt h1 (own_ne hs.2.2.2 h.2.2.1 (by decide))).trans h.2.2.1, ?_⟩
  refine ⟨h.2.2.2.1, ?_⟩
  rcases h.2.2.2.2 with hn | ⟨gr, cap, cur, rfl, hb, hgg, rest⟩
  · exact .inl hn
  · refine .inr ⟨gr, cap, cur, rfl, hb, (hw.block gr (blk_lt hgg) (blk_ne hgg hs.2.2.1 (by decide)) ?_).trans hgg, rest⟩
    have e : (Value.slice (some ⟨gr, 0, none⟩) m.length cap).ownBlock = some gr := rfl
    rw [e] at h2
    rcases h2 with h2 | h2
    · exact absurd h2 (by simp)
    · exact h2
theorem StoreW.toBelow {n base g : Nat} {v : Value} {l : List S102} {w w1 w2 : World} (hb : Below n w w1) (hn : n ≤ w1.heap.size) (hs : StoreIs base g v l w1) (hbase : n ≤ base) (hw : StoreW g v w1 w2) : Below n w w2 :=
  hb.trans ⟨hw.os, hw.tape, hw.output, hw.size, fun i hi => hw.block i (Nat.lt_of_lt_of_le hi hn) (by have := hs.1; omega) (fun e => by have := (hs.2.2.2.lt i e.symm).1; omega)⟩
/-! ### the example's stores -/
def awA : S102 := ⟨⟨#[97]⟩, ⟨#[50]⟩⟩
def awB : S102 := ⟨⟨#[98]⟩, ⟨#[49]⟩⟩
def awC : S102 := ⟨⟨#[98]⟩, ⟨#[51]⟩⟩
theorem aw1 : setK [] ⟨#[98]⟩ ⟨#[49]⟩ = [awB] ∧ hasK [] ⟨#[98]⟩ = false := by
  simp [setK, hasK, posK, kLt, ByteArray.toList_eq, Op.bytesLess, awB]
theorem aw2 : setK [awB] ⟨#[97]⟩ ⟨#[50]⟩ = [awA, awB] ∧ hasK [awB] ⟨#[97]⟩ = false := by
  simp [setK, hasK, posK, kLt, ByteArray.toList_eq, Op.bytesLess, awB, awA]
theorem aw3 : setK [awA, awB] ⟨#[98]⟩ ⟨#[51]⟩ = [awA, awC] ∧ hasK [awA, awB] ⟨#[98]⟩ = true := by
  simp [setK, hasK, posK, kLt, ByteArray.toList_eq, Op.bytesLess, awB, awA, awC]
theorem aw4 : getK [awA, awC] ⟨#[98]⟩ = (⟨#[51]⟩, true) := by
  simp [getK, hasK, posK, kLt, ByteArray.toList_eq, Op.bytesLess, awA, awC, rd_T102]
theorem aw5 : getK [awA, awC] ⟨#[99]⟩ = (⟨#[]⟩, false) := by
  simp [getK, hasK, posK, kLt, ByteArray.toList_eq, Op.bytesLess, awA, awC]
theorem aw6 : delK [awA, awC] ⟨#[97]⟩ = [awC] ∧ hasK [awA, awC] ⟨#[97]⟩ = true := by
  simp [delK, hasK, posK, kLt, ByteArray.toList_eq, Op.bytesLess, awA, awC]
theorem aw7 : delK [awC] ⟨#[97]⟩ = [awC] ∧ hasK [awC] ⟨#[97]⟩ = false := by
  simp [delK, hasK, posK, kLt, ByteArray.toList_eq, Op.bytesLess, awC]
theorem aw8 : allK [awA, awC] ⟨#[99]⟩ = [] := by
  simp [allK, posK, kLt, ByteArray.toList_eq, Op.bytesLess, awA, awC]
set_option maxHeartbeats 4000000 in
set_option maxRecDepth 100000 in
theorem awake_calls (w : World) : Calls Try.prog 40 #[] w fun e w' => e = .returned (.bool true) ∧ Below w.heap.size w w' := by
  go_enter Try.func40, Try.ntmps40
  go_wp2_with fail
  refine (st_new w).mono ?_
  rintro e w1 ⟨rfl, s1, hb1⟩
  go_wp2_with fail
  refine (st_set _ _ _ _ _ _ w1 s1 (by simp) hb1.size).mono ?_
  rintro e w2 ⟨rfl, v2, s2, W2, hv2⟩
  have hB2 := StoreW.toBelow hb1 hb1.size s1 (Nat.le_refl _) W2
  rw [aw1.1] at s2
  rw [aw1.2]
  clear s1 hb1 W2 hv2
  go_wp2_with fail
  refine (st_set _ _ _ _ _ _ w2 s2 (by simp) hB2.size).mono ?_
  rintro e w3 ⟨rfl, v3, s3, W3, hv3⟩
  have hB3 := StoreW.toBelow hB2 hB2.size s2 (Nat.le_refl _) W3
  rw [aw2.1] at s3
  rw [aw2.2]
  clear s2 hB2 W3 hv3
  go_wp2_with fail
  refine (st_set _ _ _ _ _ _ w3 s3 (by simp) hB3.size).mono ?_
  rintro e w4 ⟨rfl, v4, s4, W4, hv4⟩
  have hB4 := StoreW.toBelow hB3 hB3.size s3 (Nat.le_refl _) W4
  rw [aw3.1] at s4
  rw [aw3.2]
  clear s3 hB3 W4 hv4
  go_wp2_with fail
  refine (st_get _ _ _ _ w4 s4.at_ (by simp)).mono ?_
  rintro e w5 ⟨rfl, hb5⟩
  have s5 := s4.below hb5
  have hB5 := hB4.trans (hb5.mono hB4.size)
  rw [aw4]
  clear s4 hB4 hb5
  go_wp2_with fail
  refine (st_get _ _ _ _ w5 s5.at_ (by simp)).mono ?_
  rintro e w6 ⟨rfl, hb6⟩
  have s6 := s5.below hb6
  have hB6 := hB5.trans (hb6.mono hB5.size)
  rw [aw5]
  clear s5 hB5 hb6
  go_wp2_with fail
  refine (st_copy _ _ _ _ w6 s6 (by simp)).mono ?_
  rintro e w7 ⟨gt, vt, rfl, t7, hb7⟩
  have s7 := s6.below hb7
  have hB7 := hB6.trans (hb7.mono hB6.size)
  have hgt : gt ≠ w.heap.size := by have := t7.1; have := s6.glt; omega
  have hvt : vt.ownBlock = none ∨ vt.ownBlock ≠ v4.ownBlock := own_apart' (n := w6.heap.size) (fun k hk => (t7.2.2.2.lt k hk).1) (fun k hk => s6.vlt k hk)
  clear s6 hB6 hb7
  go_wp2_with fail
  refine (st_del _ _ _ _ _ w7 s7 (by simp)).mono ?_
  rintro e w8 ⟨rfl, v8, s8, W8, hv8⟩
  have t8 := t7.other s7 W8 hgt hvt
  have hB8 := StoreW.toBelow hB7 hB7.size s7 (Nat.le_refl _) W8
  have hvt8 : vt.ownBlock = none ∨ vt.ownBlock ≠ v8.ownBlock := by
    rcases hv8 with e | ⟨b, e, hle⟩
    · rw [e]; exact hvt
    · refine own_apart (n := w7.heap.size) (fun k hk => t7.vlt k hk) (fun k hk => by rw [e] at hk; injection hk with hk; omega)
  rw [aw6.1] at s8
  rw [aw6.2]
  clear s7 hB7 W8 hv8 t7 hvt
  go_wp2_with fail
  refine (st_del _ _ _ _ _ w8 s8 (by simp)).mono ?_
  rintro e w9 ⟨rfl, v9, s9, W9, hv9⟩
  have t9 := t8.other s8 W9 hgt hvt8
  have hB9 := StoreW.toBelow hB8 hB8.size s8 (Nat.le_refl _) W9
  rw [aw7.1] at s9
  rw [aw7.2]
  clear s8 hB8 W9 hv9 t8 hvt8
  go_wp2_with fail
  refine (st_len _ _ _ _ w9 s9).mono ?_
  rintro e w' ⟨rfl, rfl⟩
  go_wp2_with fail
  refine (st_len _ _ _ _ w' t9).mono ?_
  rintro e w9 ⟨rfl, rfl⟩
  go_wp2_with fail
  refine (st_list _ _ _ _ w9 t9 (by simp)).mono ?_
  rintro e w10 ⟨v10, rfl, o10, hb10⟩
  obtain ⟨A10, c10, rfl, hc10, hC10⟩ := Kd.R_reads (rows_R (ok := fun _ => True) o10 (fun _ _ => trivial))
  have hB10 := hB9.trans (hb10.mono hB9.size)
  have t10 := t9.below hb10
  have hL : (w10.alloc (.cells #[.string ⟨#[97]⟩, .string ⟨#[50]⟩, .string ⟨#[98]⟩, .string ⟨#[51]⟩] 102)).ownsRow 0 102 2 (.slice (some ⟨w10.heap.size, 0, none⟩) 2 2) 2 (encP [awA, awC]) := World.ownsRow_lit (base := 0) (e := 102) (size := 2) w10 #[.string ⟨#[97]⟩, .string ⟨#[50]⟩, .string ⟨#[98]⟩, .string ⟨#[51]⟩] 2 (Nat.zero_le _) (by unfold maxLen; omega) rfl
  have hCL := (Kd.R_reads' (rows_R (l := [awA, awC]) (ok := fun _ => True) hL (fun _ _ => trivial))).2.2
  have hsame := footbridgeref09_Same.calls 3 A10 c10 [awA, awC] (some ⟨w10.heap.size, 0, none⟩) 2 [awA, awC] true _ (Kd.C_alloc hC10 _) hc10 hCL (Nat.le_refl _) (same_f _ 3 (by simp) (by simp))
  have t11 := t10.below ((Below.refl w10.heap.size w10).alloc (Nat.le_refl _) (.cells #[.string ⟨#[97]⟩, .string ⟨#[50]⟩, .string ⟨#[98]⟩, .string ⟨#[51]⟩] 102))
  have hB11 := hB10.alloc hB10.size (.cells #[.string ⟨#[97]⟩, .string ⟨#[50]⟩, .string ⟨#[98]⟩, .string ⟨#[51]⟩] 102)
  clear hL hCL hC10 o10 hb10 hB9 hB10 t9 t10 s9
  go_wp2_with fail
  refine hsame.mono ?_
  rintro e w11 ⟨rfl, hd⟩
  have t12 := t11.below hd.below
  have hB12 := hB11.trans (hd.below.mono hB11.size)
  clear hsame t11 hB11 hd
  have hsome := some_calls (some ⟨gt, 0, none⟩) ⟨#[]⟩ 1 [awA, awC] w11 (by simp) (fun w1 hb => by have h := st_begins _ gt vt [awA, awC] ⟨#[]⟩ w1 (t12.below hb) (by simp); rw [allK_nil] at h; exact h)
  go_wp2_with fail
  refine hsome.mono ?_
  rintro e w13 ⟨v13, rfl, o13, hb13⟩
  have et : ([awA, awC] : List S102).take (1 : Int).toNat = [awA] := rfl
  rw [et] at o13
  clear hsome et
  obtain ⟨A13, c13, rfl, hc13, hC13⟩ := Kd.R_reads (rows_R (ok := fun _ => True) o13 (fun _ _ => trivial))
  have hB13 := hB12.trans (hb13.mono hB12.size)
  have t13 := t12.below hb13
  have hL : (w13.alloc (.cells #[.string ⟨#[97]⟩, .string ⟨#[50]⟩] 102)).ownsRow 0 102 2 (.slice (some ⟨w13.heap.size, 0, none⟩) 1 1) 1 (encP [awA]) := World.ownsRow_lit (base := 0) (e := 102) (size := 2) w13 #[.string ⟨#[97]⟩, .string ⟨#[50]⟩] 1 (Nat.zero_le _) (by unfold maxLen; omega) rfl
  have hCL := (Kd.R_reads' (rows_R (l := [awA]) (ok := fun _ => True) hL (fun _ _ => trivial))).2.2
  have hsame := footbridgeref09_Same.calls 3 A13 c13 [awA] (some ⟨w13.heap.size, 0, none⟩) 1 [awA] true _ (Kd.C_alloc hC13 _) hc13 hCL (Nat.le_refl _) (same_f _ 3 (by simp) (by simp))
  have t14 := t13.below ((Below.refl w13.heap.size w13).alloc (Nat.le_refl _) (.cells #[.string ⟨#[97]⟩, .string ⟨#[50]⟩] 102))
  have hB14 := hB13.alloc hB13.size (.cells #[.string ⟨#[97]⟩, .string ⟨#[50]⟩] 102)
  clear hL hCL hC13 o13 hb13 hB12 hB13 t12 t13
  go_wp2_with fail
  refine hsame.mono ?_
  rintro e w15 ⟨rfl, hd⟩
  have t15 := t14.below hd.below
  have hB15 := hB14.trans (hd.below.mono hB14.size)
  clear hsame t14 hB14 hd
  have hsome := some_calls (some ⟨gt, 0, none⟩) ⟨#[99]⟩ 9 [] w15 (by simp) (fun w1 hb => by have h := st_begins _ gt vt [awA, awC] ⟨#[99]⟩ w1 (t15.below hb) (by simp); rw [aw8] at h; exact h)
  go_wp2_with fail
  refine hsome.mono ?_
  rintro e w16 ⟨v16, rfl, o16, hb16⟩
  rw [List.take_nil] at o16
  obtain ⟨A16, c16, rfl, _, _⟩ := row_slice o16
  have hfin := Aside0.mk (hB15.trans (hb16.mono hB15.size))
  clear hsome t15 hB15 hb16 o16
  go_wp2
  go_ret
  exact ⟨rfl, hfin.out⟩

/-! ### footbridgelaw09_PairsPlays: function 12 -/
def footbridgelaw09_PairsPlays.f (_l0 : List S67) : Option Bool := some true
set_option maxHeartbeats 2000000 in
set_option maxRecDepth 100000 in
theorem footbridgelaw09_PairsPlays.calls (A0 : Option Addr) (c0 : Nat) (l0 : List S67) (r : Bool) (w : World) (hr0 : Kd.C k67 w A0 l0.length l0) (hc0 : l0.length ≤ c0) (h : footbridgelaw09_PairsPlays.f l0 = some r) :
    Calls Try.prog 12 #[.slice A0 l0.length c0] w fun e w' => e = .returned (.bool r) ∧ Below w.heap.size w w' := by
  obtain rfl : true = r := Option.some.inj h
  clear h
  have _ := @do_calls
  by_cases hbig : 80 < l0.length
  · go_enter Try.func12, Try.ntmps12
    go_wp2_with fail
    refine (awake_calls w).mono ?_
    rintro e w' ⟨rfl, hb⟩
    go_wp2
    go_ret
    exact ⟨rfl, hb⟩
  have HR := Aside0.mk hr0
  clear hr0
  go_enter Try.func12, Try.ntmps12
  go_wp2_with fail
  refine (st_new w).mono ?_
  rintro e w1 ⟨rfl, s1, hb1⟩
  have S1 := Aside0.mk s1
  have HB := Aside0.mk hb1
  have X1 : Aside0 (ByP w.heap.size (.slice none 0 0) w1 (.slice none 0 0) []) := Aside0.mk (Kd.V_nil _ _ _ _ _)
  clear s1 hb1
  go_wp2_with fail
  go_loopg [4, 5] l0.length (fun gg s4 s5 wx => ∃ (j : Nat) (x : List S102) (v : Value), s5 = .int .i64 j ∧ j + gg = l0.length ∧ x.length ≤ j ∧ Aside0 (StoreIs w.heap.size w.heap.size v x wx) ∧ Aside0 (ByP w.heap.size v wx s4 x) ∧ Aside0 (Below w.heap.size w wx))
  case atStart => exact ⟨0, [], _, rfl, by omega, Nat.le_refl _, S1, X1, HB⟩
  case round =>
    clear HB S1 X1
    obtain ⟨j, x, v, rfl, hj, hxj, S1, X1, HB⟩ := hrel
    by_cases hlt : j < l0.length
    · have hx0 : (0 : Int) ≤ ((j : Nat) : Int) := by omega
      have hkl : ((j : Nat) : Int) < (l0.length : Int) := by omega
      obtain ⟨ad, e1, z0, z1, z2, z3⟩ := at_T67 (Kd.C_below HR.out HB.out) ((j : Nat) : Int) hx0 hkl
      subst e1
      generalize rd_T67 l0 (j : Int) = d at z0 z1 z2 z3
      rw [Int.toNat_natCast] at z0 z1 z2 z3
      go_wp2_with fail
      refine (do_calls w.heap.size w.heap.size v _ x d _ S1.out X1.out (by omega) HB.out.size).mono ?_
      rintro e w2 ⟨xv, v2, rfl, s2, x2, W2, hv2⟩
      have hB2 := StoreW.toBelow HB.out HB.out.size S1.out (Nat.le_refl _) W2
      have hxl := doK_len x d
      generalize doK x d = x' at s2 x2 hxl
      obtain ⟨A2, c2, rfl, hc2, hF2⟩ := id x2
      have S2 := Aside0.mk s2
      have X2 := Aside0.mk x2
      clear S1 X1 HB W2 hv2 hF2 x2 s2 z0 z1 z2 z3
      go_wp2_with fail
      refine (st_len _ _ _ _ w2 S2.out).mono ?_
      rintro e w' ⟨rfl, rfl⟩
      go_wp2_with fail
      refine (st_list _ _ _ _ w' S2.out (by omega)).mono ?_
      rintro e w3 ⟨v3, rfl, o3, hb3⟩
      obtain ⟨A3, c3, rfl, hc3, hC3⟩ := Kd.R_reads (rows_R (ok := fun _ => True) o3 (fun _ _ => trivial))
      have x3 := X2.out.below hb3
      have hsame := footbridgeref09_Same.calls 200 A3 c3 x' A2 c2 x' true w3 hC3 hc3 (Kd.V_reads' x3).2.2 hc2 (same_f _ 200 (by omega) (by omega))
      have S3 := Aside0.mk (S2.out.below hb3)
      have X3 := Aside0.mk x3
      have hB3 := Aside0.mk (hB2.trans (hb3.mono hB2.size))
      clear S2 X2 hB2 o3 hb3 hC3 x3
      go_wp2_with fail
      refine hsame.mono ?_
      rintro e w4 ⟨rfl, hd⟩
      have S4 := Aside0.mk (S3.out.below hd.below)
      have X4 := Aside0.mk (X3.out.below hd.below)
      have hB4 := Aside0.mk (hB3.out.trans (hd.below.mono hB3.out.size))
      clear S3 X3 hB3 hsame hd
      go_wp2
      go_roundg (l0.length - (j + 1))
      case measure => omega
      case rel => exact ⟨j + 1, x', v2, by first | rfl | (simp; done), by omega, by omega, S4, X4, hB4⟩
    · go_wp2_with fail
      refine (awake_calls _).mono ?_
      rintro e w' ⟨rfl, hb⟩
      have hfin := Aside0.mk (HB.out.trans (hb.mono HB.out.size))
      clear S1 X1 HB hb
      go_wp2
      go_ret
      exact ⟨rfl, hfin.out⟩

/-! ### footbridgelaw09_PairsCopies: function 13 -/
def footbridgelaw09_PairsCopies.f (_l0 _l1 : List S67) : Option Bool := some true
set_option maxHeartbeats 2000000 in
set_option maxRecDepth 100000 in
theorem footbridgelaw09_PairsCopies.calls (A0 : Option Addr) (c0 : Nat) (l0 : List S67) (A1 : Option Addr) (c1 : Nat) (l1 : List S67) (r : Bool) (w : World) (hr0 : Kd.C k67 w A0 l0.length l0) (hc0 : l0.length ≤ c0) (hr1 : Kd.C k67 w A1 l1.length l1) (hc1 : l1.length ≤ c1) (h : footbridgelaw09_PairsCopies.f l0 l1 = some r) :
    Calls Try.prog 13 #[.slice A0 l0.length c0, .slice A1 l1.length c1] w fun e w' => e = .returned (.bool r) ∧ Below w.heap.size w w' := by
  obtain rfl : true = r := Option.some.inj h
  clear h
  have _ := @footbridgelaw09_PairsPlays.calls
  have _ := @do_calls
  by_cases hbig : 60 < l0.length ∨ 60 < l1.length
  · by_cases hb0 : 60 < l0.length
    all_goals
      go_enter Try.func13, Try.ntmps13
      have hb1 : 60 < l0.length ∨ 60 < (l1.length : Int) := by omega
      go_wp2_with fail
      refine (awake_calls w).mono ?_
      rintro e w' ⟨rfl, hb⟩
      go_wp2
      go_ret
      exact ⟨rfl, hb⟩
  have hb0 : ¬ 60 < l0.length := fun h => hbig (.inl h)
  have hb1 : ¬ 60 < l1.length := fun h => hbig (.inr h)
  have HR0 := Aside0.mk hr0
  have HR1 := Aside0.mk hr1
  clear hr0 hr1 hbig
  go_enter Try.func13, Try.ntmps13
  go_wp2_with fail
  refine (st_new w).mono ?_
  rintro e w1 ⟨rfl, s1, hb1⟩
  have S1 := Aside0.mk s1
  have HB := Aside0.mk hb1
  have X1 : Aside0 (ByP w.heap.size (.slice none 0 0) w1 (.slice none 0 0) []) := Aside0.mk (Kd.V_nil _ _ _ _ _)
  clear s1 hb1
  go_wp2_with fail
  go_loopg [6, 7] l0.length (fun gg s6 s7 wx => ∃ (j : Nat) (x : List S102) (v : Value), s7 = .int .i64 j ∧ j + gg = l0.length ∧ x.length ≤ j ∧ Aside0 (StoreIs w.heap.size w.heap.size v x wx) ∧ Aside0 (ByP w.heap.size v wx s6 x) ∧ Aside0 (Below w.heap.size w wx))
  case atStart => exact ⟨0, [], _, rfl, by omega, Nat.le_refl _, S1, X1, HB⟩
  case round =>
    clear HB S1 X1
    obtain ⟨j, x, v, rfl, hj, hxj, S1, X1, HB⟩ := hrel
    by_cases hlt : j < l0.length
    · have hx0 : (0 : Int) ≤ ((j : Nat) : Int) := by omega
      have hkl : ((j : Nat) : Int) < (l0.length : Int) := by omega
      obtain ⟨ad, e1, z0, z1, z2, z3⟩ := at_T67 (Kd.C_below HR0.out HB.out) ((j : Nat) : Int) hx0 hkl
      subst e1
      generalize rd_T67 l0 (j : Int) = d at z0 z1 z2 z3
      rw [Int.toNat_natCast] at z0 z1 z2 z3
      go_wp2_with fail
      refine (do_calls w.heap.size w.heap.size v _ x d _ S1.out X1.out (by omega) HB.out.size).mono ?_
      rintro e w2 ⟨xv, v2, rfl, s2, x2, W2, hv2⟩
      have hB2 := Aside0.mk (StoreW.toBelow HB.out HB.out.size S1.out (Nat.le_refl _) W2)
      have hxl := doK_len x d
      generalize doK x d = x' at s2 x2 hxl
      have S2 := Aside0.mk s2
      have X2 := Aside0.mk x2
      clear S1 X1 HB W2 hv2 x2 s2 z0 z1 z2 z3
      go_wp2
      go_roundg (l0.length - (j + 1))
      case measure => omega
      case rel => exact ⟨j + 1, x', v2, by first | rfl | (simp; done), by omega, by omega, S2, X2, hB2⟩
    · obtain ⟨A2, c2, e2, hc2, hF2⟩ := id X1.out
      subst e2
      clear hF2
      go_wp2_with fail
      refine (st_copy _ _ v x _ S1.out (by omega)).mono ?_
      rintro e w2 ⟨gt, vt, rfl, t2, hb2⟩
      have hgt : gt ≠ w.heap.size := by have := t2.1; have := S1.out.glt; omega
      have hvt := Aside0.mk (own_apart' (n := _) (fun k hk => (t2.2.2.2.lt k hk).1) (fun k hk => S1.out.vlt k hk))
      have S2 := Aside0.mk (S1.out.below hb2)
      have X2 := Aside0.mk (X1.out.below hb2)
      have T2 := Aside0.mk t2
      have HB2 := Aside0.mk (HB.out.trans (hb2.mono HB.out.size))
      clear S1 X1 HB t2 hb2
      go_wp2_with fail
      go_loopg [11, 12] l1.length (fun gg s11 s12 wx => ∃ (j : Nat) (y : List S102) (v : Value), s12 = .int .i64 j ∧ j + gg = l1.length ∧ y.length ≤ 60 + j ∧ Aside0 (StoreIs w.heap.size w.heap.size v y wx) ∧ Aside0 (ByP w.heap.size v wx s11 y) ∧ Aside0 (ByP w.heap.size v wx (.slice A2 x.length c2) x) ∧ Aside0 (∃ bt, StoreIs bt gt vt x wx) ∧ Aside0 (vt.ownBlock = none ∨ vt.ownBlock ≠ v.ownBlock) ∧ Aside0 (Below w.heap.size w wx))
      case atStart => exact ⟨0, x, v, rfl, by omega, by omega, S2, X2, X2, Aside0.mk ⟨_, T2.out⟩, hvt, HB2⟩
      case round =>
        clear S2 X2 T2 HB2 hvt
        obtain ⟨j, y, v, rfl, hj, hyj, S3, X3, XX3, T3, hvt3, HB3⟩ := hrel
        by_cases hlt : j < l1.length
        · have hx0 : (0 : Int) ≤ ((j : Nat) : Int) := by omega
          have hkl : ((j : Nat) : Int) < (l1.length : Int) := by omega
          obtain ⟨ad, e1, z0, z1, z2, z3⟩ := at_T67 (Kd.C_below HR1.out HB3.out) ((j : Nat) : Int) hx0 hkl
          subst e1
          generalize rd_T67 l1 (j : Int) = d at z0 z1 z2 z3
          rw [Int.toNat_natCast] at z0 z1 z2 z3
          go_wp2_with fail
          refine (do_calls w.heap.size w.heap.size v _ y d _ S3.out X3.out (by omega) HB3.out.size).mono ?_
          rintro e w2 ⟨xv, v2, rfl, s2, x2, W2, hv2⟩
          have hB4 := Aside0.mk (StoreW.toBelow HB3.out HB3.out.size S3.out (Nat.le_refl _) W2)
          obtain ⟨bt, t3⟩ := T3.out
          have hvt4 : Aside0 (vt.ownBlock = none ∨ vt.ownBlock ≠ v2.ownBlock) := Aside0.mk (by
            rcases hv2 with e | ⟨b, e, hle⟩
            · rw [e]; exact hvt3.out
            · exact own_apart (n := _) (fun k hk => t3.vlt k hk) (fun k hk => by rw [e] at hk; injection hk with hk; omega))
          have T4 := Aside0.mk (⟨bt, t3.other S3.out W2 hgt hvt3.out⟩ : ∃ bt, StoreIs bt gt vt x _)
          have XX4 := Aside0.mk (XX3.out.store W2 hv2)
          have hyl := doK_len y d
          generalize doK y d = y' at s2 x2 hyl
          have S4 := Aside0.mk s2
          have X4 := Aside0.mk x2
          clear S3 X3 XX3 T3 hvt3 HB3 W2 hv2 x2 s2 z0 z1 z2 z3 t3
          go_wp2
          go_roundg (l1.length - (j + 1))
          case measure => omega
          case rel => exact ⟨j + 1, y', v2, by first | rfl | (simp; done), by omega, by omega, S4, X4, XX4, T4, hvt4, hB4⟩
        · obtain ⟨A5, c5, e5, hc5, hF5⟩ := id X3.out
          subst e5
          clear hF5
          obtain ⟨bt, t3⟩ := T3.out
          go_wp2_with fail
          refine (st_list _ _ _ _ _ t3 (by omega)).mono ?_
          rintro e w6 ⟨v6, rfl, o6, hb6⟩
          obtain ⟨A6, c6, rfl, hc6, hC6⟩ := Kd.R_reads (rows_R (ok := fun _ => True) o6 (fun _ _ => trivial))
          have hsame := footbridgeref09_Same.calls 200 A6 c6 x A2 c2 x true w6 hC6 hc6 (Kd.V_reads' (XX3.out.below hb6)).2.2 hc2 (same_f _ 200 (by omega) (by omega))
          have S6 := Aside0.mk (S3.out.below hb6)
          have X6 := Aside0.mk (X3.out.below hb6)
          have HB6 := Aside0.mk (HB3.out.trans (hb6.mono HB3.out.size))
          clear S3 X3 XX3 T3 hvt3 HB3 t3 o6 hb6 hC6
          go_wp2_with fail
          refine hsame.mono ?_
          rintro e w7 ⟨rfl, hd⟩
          have S7 := Aside0.mk (S6.out.below hd.below)
          have X7 := Aside0.mk (X6.out.below hd.below)
          have HB7 := Aside0.mk (HB6.out.trans (hd.below.mono HB6.out.size))
          clear S6 X6 HB6 hd hsame
          go_wp2_with fail
          refine (st_list _ _ _ _ w7 S7.out (by omega)).mono ?_
          rintro e w8 ⟨v8, rfl, o8, hb8⟩
          obtain ⟨A8, c8, rfl, hc8, hC8⟩ := Kd.R_reads (rows_R (ok := fun _ => True) o8 (fun _ _ => trivial))
          have hsame := footbridgeref09_Same.calls 200 A8 c8 y A5 c5 y true w8 hC8 hc8 (Kd.V_reads' (X7.out.below hb8)).2.2 hc5 (same_f _ 200 (by omega) (by omega))
          have HB8 := Aside0.mk (HB7.out.trans (hb8.mono HB7.out.size))
          clear S7 X7 HB7 o8 hb8 hC8
          go_wp2_with fail
          refine hsame.mono ?_
          rintro e w9 ⟨rfl, hd⟩
          have HB9 := Aside0.mk (HB8.out.trans (hd.below.mono HB8.out.size))
          clear HB8 hd hsame
          go_wp2_with fail
          refine (awake_calls w9).mono ?_
          rintro e w' ⟨rfl, hb⟩
          have hfin := Aside0.mk (HB9.out.trans (hb.mono HB9.out.size))
          clear HB9 hb
          go_wp2
          go_ret
          exact ⟨rfl, hfin.out⟩

end Go.Proofs.Ytfjneffmgmcdaaa.PPar
