-- written by wip/myprint.py over the kit's print; not a printed text of print.sh
import Derived.Test.YtfjneffmgmcdaaaPParx0
import Derived.Test.YtfjneffmgmcdaaaPParx2
import Derived.Test.YtfjneffmgmcdaaaPParx3
import Derived.Test.YtfjneffmgmcdaaaPParx4
import Derived.Test.YtfjneffmgmcdaaaPParx5
import Derived.Test.YtfjneffmgmcdaaaPParx6
namespace Go.Proofs.Ytfjneffmgmcdaaa.PPar
open Go.RowKit Go.Proofs.YtfjneffmgmcdaaaW.PrintWords Go.Proofs.YtfjneffmgmcdaaaW.PrintLast Go.Proofs.YtfjneffmgmcdaaaW.PrintMore
attribute [local go_sem] max2_int min2_int max_two min_two max_three min_three max_four min_four   -- for this text's walks alone
set_option linter.unusedVariables false
set_option linter.unusedSimpArgs false

/-! ### pairs_Store_Copy: function 46 -/
set_option maxHeartbeats 1000000 in
set_option maxRecDepth 100000 in
theorem st_new (w : World) : Calls Try.prog 41 #[] w fun e w' => e = .returned (.pointer (some ⟨w.heap.size, 0, none⟩)) ∧ StoreIs w.heap.size w.heap.size (.slice none 0 0) [] w' ∧ Below w.heap.size w w' := by
  have n1 := my_alloc_new w (.cells #[.slice none 0 0] 104)
  have hfin : StoreIs w.heap.size w.heap.size (.slice none 0 0) [] (w.alloc (.cells #[.slice none 0 0] 104)) := ⟨Nat.le_refl _, List.Pairwise.nil, n1, World.ownsRow_nil _ _ _ _⟩
  have hb : Below w.heap.size w (w.alloc (.cells #[.slice none 0 0] 104)) := (Below.refl _ w).alloc (Nat.le_refl _) _
  replace hfin := Aside0.mk hfin
  replace hb := Aside0.mk hb
  clear n1
  go_enter Try.func41, Try.ntmps41
  go_wp2
  go_ret
  exact ⟨rfl, hfin.out, hb.out⟩
theorem ownflat {w : World} {base n c : Nat} {A : Option Addr} {l : List S102} (h : w.ownsRow base 102 2 (.slice A n c) n (encP l)) :
    (A = none → l = []) ∧ ∀ a, A = some a → ∀ j u, (encP l)[j]? = some u → w.cell? (a.add j) = some u := by
  have hlen : l.length * 2 = n * 2 := by rw [← encP_len]; exact h.1
  obtain rfl : l.length = n := by omega
  have hc : CutP w.heap.size w A l := by
    rcases h.2 with ⟨e, hn⟩ | ⟨g, cap, cur, e, hb, hg, hn, hm, hs, hx⟩
    · injection e with e1
      subst e1
      exact .inl ⟨rfl, List.length_eq_zero_iff.1 hn⟩
    · injection e with e1 e2 e3
      subst e1 e3
      obtain ⟨h1, h2, h3⟩ := rowcells h
      exact .inr ⟨g, 0, rfl, h1, fun j hj => by rw [Nat.zero_add]; exact h3 j hj⟩
  exact hc.flat (List.prefix_refl _)
set_option maxHeartbeats 2000000 in
set_option maxRecDepth 100000 in
theorem st_copy (base g : Nat) (v : Value) (l : List S102) (w : World) (h : StoreIs base g v l w) (hl : l.length ≤ 1000000000) :
    Calls Try.prog 46 #[.pointer (some ⟨g, 0, none⟩)] w fun e w' => ∃ g' v', e = .returned (.pointer (some ⟨g', 0, none⟩)) ∧ StoreIs w.heap.size g' v' l w' ∧ Below w.heap.size w w' := by
  obtain ⟨h0, h1, h2, h3⟩ := h
  obtain ⟨A, c, rfl, hnc, hc63⟩ := row_slice h3
  have y0 : w.cell? ⟨g, 0, none⟩ = some (.slice A l.length c) := (blk_cell h2 0).trans rfl
  obtain ⟨f1, f2⟩ := ownflat h3
  have hclone := clone_calls A c l w hl f1 f2
  clear f1 f2 h3 h2
  go_enter Try.func46, Try.ntmps46
  go_wp2_with fail
  refine hclone.mono ?_
  rintro e w2 ⟨v2, rfl, o2, hb2⟩
  obtain ⟨A2, c2, rfl, _, _⟩ := row_slice o2
  have n3 := my_alloc_new w2 (.cells #[.slice A2 l.length c2] 104)
  have hfin : ∃ g' v', Ending.returned (.pointer (some ⟨w2.heap.size, 0, none⟩)) = .returned (.pointer (some ⟨g', 0, none⟩)) ∧ StoreIs w.heap.size g' v' l (w2.alloc (.cells #[.slice A2 l.length c2] 104)) ∧ Below w.heap.size w (w2.alloc (.cells #[.slice A2 l.length c2] 104)) :=
    ⟨_, _, rfl, ⟨hb2.size, h1, n3, o2.alloc _⟩, hb2.alloc hb2.size _⟩
  replace hfin := Aside0.mk hfin
  clear n3 o2 hb2 hclone y0
  go_wp2
  go_ret
  exact hfin.out
theorem allK_nil (l : List S102) : allK l ⟨#[]⟩ = l := by
  have e0 : (⟨#[]⟩ : ByteArray).toList = [] := by rw [ByteArray.toList_eq]
  have hp : posK l ⟨#[]⟩ = 0 := posK_none l _ (fun p _ => by
    unfold kLt
    rw [e0]
    cases p.f0.toList <;> rfl)
  unfold allK
  rw [hp, List.drop_zero]
  have h := takeWhile_pre (fun x : S102 => (⟨#[]⟩ : ByteArray).toList.isPrefixOf x.f0.toList) l [] (fun x _ => by rw [e0]; rfl)
  rw [List.append_nil, List.takeWhile_nil, List.append_nil] at h
  exact h
set_option maxHeartbeats 1000000 in
set_option maxRecDepth 100000 in
theorem st_list (base g : Nat) (v : Value) (l : List S102) (w : World) (h : StoreIs base g v l w) (hl : l.length ≤ 1000000000) :
    Calls Try.prog 45 #[.pointer (some ⟨g, 0, none⟩)] w fun e w' => ∃ v', e = .returned v' ∧ w'.ownsRow w.heap.size 102 2 v' l.length (encP l) ∧ Below w.heap.size w w' := by
  have hbeg := st_begins base g v l ⟨#[]⟩ w h hl
  rw [allK_nil] at hbeg
  clear h
  go_enter Try.func45, Try.ntmps45
  go_wp2_with fail
  refine hbeg.mono ?_
  rintro e w2 ⟨v2, rfl, o2, hb2⟩
  clear hbeg
  replace o2 := Aside0.mk o2
  replace hb2 := Aside0.mk hb2
  go_wp2
  go_ret
  exact ⟨_, rfl, o2.out, hb2.out⟩
set_option maxHeartbeats 1000000 in
set_option maxRecDepth 100000 in
theorem st_all (pg : Option Addr) (pre0 : ByteArray) (m : List S102) (w : World)
    (hbeg : Calls Try.prog 76 #[.pointer pg, .string pre0] w fun e w' => ∃ v', e = .returned v' ∧ w'.ownsRow w.heap.size 102 2 v' m.length (encP m) ∧ Below w.heap.size w w') :
    Calls Try.prog 81 #[.pointer pg, .string pre0] w fun e w' => ∃ B A c, e = .returned (.func (.func 97) #[] #[.pointer (some ⟨B, 0, none⟩)]) ∧ w.heap.size ≤ B ∧ Boxed w' B 62 (.slice A m.length c) ∧ CutP w'.heap.size w' A m ∧ Below w.heap.size w w' := by
  go_enter Try.func81, Try.ntmps81
  go_wp2_with fail
  refine hbeg.mono ?_
  rintro e w2 ⟨v2, rfl, o2, hb2⟩
  clear hbeg
  obtain ⟨A2, c2, rfl, _, _⟩ := row_slice o2
  have hcut : CutP w2.heap.size w2 A2 m := by
    rcases o2.2 with ⟨e, hn⟩ | ⟨g, cap, cur, e, hb, hg, hn, hm, hs, hx⟩
    · injection e with e1
      subst e1
      exact .inl ⟨rfl, List.length_eq_zero_iff.1 hn⟩
    · injection e with e1 e2 e3
      subst e1 e3
      obtain ⟨h1, h2, h3⟩ := rowcells o2
      exact .inr ⟨g, 0, rfl, h1, fun j hj => by rw [Nat.zero_add]; exact h3 j hj⟩
  have hbx : Below w2.heap.size w2 (w2.alloc (.cells #[.slice A2 m.length c2] 62)) := (Below.refl _ _).alloc (Nat.le_refl _) _
  have hcut2 : CutP (w2.alloc (.cells #[.slice A2 m.length c2] 62)).heap.size (w2.alloc (.cells #[.slice A2 m.length c2] 62)) A2 m := by
    rcases hcut.below hbx with h | ⟨b, off, e, hlt, hc⟩
    · exact .inl h
    · exact .inr ⟨b, off, e, Nat.lt_of_lt_of_le hlt hbx.size, hc⟩
  have hfin : ∃ B A c, Ending.returned (.func (.func 97) #[] #[.pointer (some ⟨w2.heap.size, 0, none⟩)]) = .returned (.func (.func 97) #[] #[.pointer (some ⟨B, 0, none⟩)]) ∧ w.heap.size ≤ B ∧ Boxed (w2.alloc (.cells #[.slice A2 m.length c2] 62)) B 62 (.slice A m.length c) ∧ CutP (w2.alloc (.cells #[.slice A2 m.length c2] 62)).heap.size (w2.alloc (.cells #[.slice A2 m.length c2] 62)) A m ∧ Below w.heap.size w (w2.alloc (.cells #[.slice A2 m.length c2] 62)) :=
    ⟨_, _, _, rfl, hb2.size, Boxed.new w2 _ _, hcut2, hb2.alloc hb2.size _⟩
  replace hfin := Aside0.mk hfin
  clear hcut hcut2 hbx o2 hb2
  go_wp2
  go_ret
  exact hfin.out
section
attribute [local go_sem] Oper.semAt_some
set_option maxRecDepth 100000 in
set_option maxHeartbeats 2000000 in
theorem allP1_in (F : Fence) (n : Nat) (h7 : F.fn 97) (hro : F.round = none) (hn : 1 ≤ n) (l Bs n₀ b off c : Nat) (zs : List S102) (hz : zs.length ≤ 1000000000) (hb : b < n₀) (J Jx : List S102 → World → Prop) (W : World) (hn0 : n₀ ≤ W.heap.size) (hJ : AbidesFrom W.heap.size J)
    (hY : ∀ pre x W, J pre W → pre.length < zs.length → YieldAt F (n - 1) Try.prog l #[.string x.f0, .string x.f1] W fun e W' =>
      (e = .returned (.bool true) ∧ J (pre ++ [x]) W' ∧ Below n₀ W W') ∨ (e = .returned (.bool false) ∧ Jx (pre ++ [x]) W'))
    (hBs : W.cell? ⟨Bs, 0, none⟩ = some (.slice (some ⟨b, off, none⟩) zs.length c)) (hc : ∀ j (hj : j < zs.length), W.cell? ⟨b, off + j * 2, none⟩ = some (.string zs[j].f0) ∧ W.cell? ⟨b, off + j * 2 + 1, none⟩ = some (.string zs[j].f1)) (h0 : J [] W) :
    CallsIn F n Try.prog 97 #[.func (.yield l) #[] #[], .pointer (some ⟨Bs, 0, none⟩)] W fun e W' => (∃ v, e = .returned v) ∧
      ((∃ ys, ys = zs ∧ J ys W') ∨ (∃ pre, pre <+: zs ∧ Jx pre W')) := by
  refine callsIn_of_wp Try.func97 rfl h7 ?_ hro
  simp only [Try.ntmps97, List.size_toArray, List.length_cons, List.length_nil, Nat.reduceAdd, Nat.reduceSub, Array.replicate_succ, Array.replicate_zero, List.push_toArray, List.append_toArray, List.nil_append, List.cons_append]
  gi_wp2
  gi_loopw [7] (fun i wr => ∃ k : Nat, k ≤ zs.length ∧ i = .int .i64 k ∧ J (zs.take k) wr ∧ Below n₀ W wr)
    (fun i _ => zs.length - (intOf i).toNat)
  case atStart => exact ⟨0, Nat.zero_le _, rfl, h0, Below.refl _ _⟩
  case round =>
    obtain ⟨k, hk, rfl, hJs, hnx⟩ := hrel
    by_cases hlt : k < zs.length
    · have hcx := hc k hlt
      have c0 := (hnx.cell (p := ⟨b, off + k * 2, none⟩) hb).trans hcx.1
      have c1 := (hnx.cell (p := ⟨b, off + k * 2 + 1, none⟩) hb).trans hcx.2
      have n1 := my_alloc_new wr (.cells #[.string zs[k].f0, .string zs[k].f1] 102)
      have c2 : (wr.alloc (.cells #[.string zs[k].f0, .string zs[k].f1] 102)).cell? ⟨wr.heap.size, 0, none⟩ = some (.string zs[k].f0) := (blk_cell n1 0).trans rfl
      have c3 : (wr.alloc (.cells #[.string zs[k].f0, .string zs[k].f1] 102)).cell? ⟨wr.heap.size, 1, none⟩ = some (.string zs[k].f1) := (blk_cell n1 1).trans rfl
      have hJ1 : J (zs.take k) (wr.alloc (.cells #[.string zs[k].f0, .string zs[k].f1] 102)) := hJ _ _ _ none hJs (World.grownBy_alloc wr _ none) (fun r e => by cases e)
      have hn1 : Below n₀ W (wr.alloc (.cells #[.string zs[k].f0, .string zs[k].f1] 102)) := hnx.alloc (Nat.le_trans hn0 hnx.size) _
      obtain ⟨fn, tmps, assign, body, hy, hR⟩ := hY _ zs[k] _ hJ1 (by rw [List.length_take]; omega)
      have ek : zs.take k ++ [zs[k]] = zs.take (k + 1) := by rw [List.take_add_one, List.getElem?_eq_getElem hlt]; rfl
      rw [ek] at hR
      gi_wp2
      refine hR.mono ?_
      rintro e W3 (⟨rfl, hJ3, hk3⟩ | ⟨rfl, hJx3⟩)
      · gi_wp2
        go_roundw
        case rel => exact ⟨k + 1, by omega, by simp, hJ3, hn1.trans hk3⟩
        case measure => simp [intOf]; omega
      · gi_wp2
        refine bodyPost_ret (results_none rfl _ _ _) rfl ?_
        exact ⟨⟨_, rfl⟩, .inr ⟨_, List.take_prefix _ _, hJx3⟩⟩
    · obtain rfl : k = zs.length := by omega
      gi_wp2
      go_end0
      exact ⟨⟨_, rfl⟩, .inl ⟨_, by rw [List.take_length], hJs⟩⟩
set_option maxRecDepth 100000 in
set_option maxHeartbeats 1000000 in
theorem allP1_nil_in (F : Fence) (n : Nat) (h7 : F.fn 97) (hro : F.round = none) (l Bs : Nat) (J : List S102 → World → Prop) (W : World) (c : Nat) (hBs : W.cell? ⟨Bs, 0, none⟩ = some (.slice none 0 c)) (h0 : J [] W) :
    CallsIn F n Try.prog 97 #[.func (.yield l) #[] #[], .pointer (some ⟨Bs, 0, none⟩)] W fun e W' => (∃ v, e = .returned v) ∧ J [] W' := by
  refine callsIn_of_wp Try.func97 rfl h7 ?_ hro
  simp only [Try.ntmps97, List.size_toArray, List.length_cons, List.length_nil, Nat.reduceAdd, Nat.reduceSub, Array.replicate_succ, Array.replicate_zero, List.push_toArray, List.append_toArray, List.nil_append, List.cons_append]
  gi_wp2
  gi_loopw [7] (fun i wr => i = .int .i64 0 ∧ J [] wr) (fun _ _ => 0)
  case atStart => exact ⟨rfl, h0⟩
  case round =>
    obtain ⟨rfl, hJs⟩ := hrel
    gi_wp2
    go_end0
    exact ⟨⟨_, rfl⟩, hJs⟩
theorem allP_stops (F : Fence) (n : Nat) (h7 : F.fn 97) (hro : F.round = none) (hn : 1 ≤ n) (Bs n₀ : Nat) (A : Option Addr) (c : Nat) (zs : List S102) (hz : zs.length ≤ 1000000000) (w : World) (hBs : Bs < w.heap.size) (hn₀ : n₀ ≤ w.heap.size)
    (hc : w.cell? ⟨Bs, 0, none⟩ = some (.slice A zs.length c)) (hI : CutP n₀ w A zs) :
    SeqStopsK F n Try.prog 97 #[.pointer (some ⟨Bs, 0, none⟩)] (fun x : S102 => #[.string x.f0, .string x.f1]) (Below n₀) (fun ys => ys = zs) (fun pre => pre <+: zs) zs.length w := fun l J Jx W hW hJ _ hY h0 => by
  have hc' := (hW.cell (p := ⟨Bs, 0, none⟩) hBs).trans hc
  rcases hI.below (hW.mono hn₀) with ⟨rfl, rfl⟩ | ⟨b, off, rfl, hb, hcs⟩
  · exact (allP1_nil_in F n h7 hro l Bs J W c hc' h0).mono fun e W' ⟨he, hj⟩ => ⟨he, .inl ⟨_, rfl, hj⟩⟩
  · exact allP1_in F n h7 hro hn l Bs n₀ b off c zs hz hb J Jx W (Nat.le_trans hn₀ hW.size) hJ hY hc' hcs h0
end

/-! ### pairs_Store_List: function 45 -/

/-! ### pairs_Store_All: function 81 -/

/-! ### footbridgelaw09_some: function 50 -/
theorem run_equalIn_func_nil {P : Program} (w : World) (d : Nat) (t : TypeId) (f : Fn) (a b : Array Value) {x y : Array TypeId} {z : Bool} (h : P.underlying t = some (.func x y z)) : (Op.equalIn (d + 1) t (.func f a b) .nilFunc).run P w = .ok false w := by
  simp [Op.equalIn, run_underlying h]
theorem run_eql_func_nil {P : Program} (w : World) (t : TypeId) (f : Fn) (a b : Array Value) {x y : Array TypeId} {z : Bool} (h : P.underlying t = some (.func x y z)) : (binOp .eql t (.func f a b) .nilFunc).run P w = .ok (.bool false) w := by
  simp only [binOp]
  simp [Op.equal, Op.maxDepth, run_equalIn_func_nil w 9999 t f a b h]
section
attribute [local go_sem] Oper.semAt_some
set_option maxRecDepth 100000 in
set_option maxHeartbeats 4000000 in
theorem some_calls (pg : Option Addr) (pre0 : ByteArray) (n : Int) (m : List S102) (w : World) (hm : m.length ≤ 1000000000)
    (hbeg : ∀ w1, Below w.heap.size w w1 → Calls Try.prog 76 #[.pointer pg, .string pre0] w1 fun e w' => ∃ v', e = .returned v' ∧ w'.ownsRow w1.heap.size 102 2 v' m.length (encP m) ∧ Below w1.heap.size w1 w') :
    Calls Try.prog 50 #[.pointer pg, .string pre0, .int .i64 n] w fun e w' => ∃ v', e = .returned v' ∧ w'.ownsRow w.heap.size 102 2 v' (m.take n.toNat).length (encP (m.take n.toNat)) ∧ Below w.heap.size w w' := by
  obtain ⟨al, hal⟩ : ∃ al, m.take n.toNat = al := ⟨_, rfl⟩
  rw [hal]
  have h1 : 1 ≤ 8 := by decide
  obtain ⟨i0, hi0, hz⟩ := Option.map_eq_some_iff.1 info102
  simp only [Prod.mk.injEq] at hz
  obtain ⟨hz0, hzs, hzb⟩ := hz
  have hb1 : Below w.heap.size w (w.alloc (.cells #[.int .i64 n] 3)) := (Below.refl _ w).alloc (Nat.le_refl _) _
  have p1 := Boxed.new w 3 (.int .i64 n)
  have hall := st_all pg pre0 m _ (hbeg _ hb1)
  have hsz1 : w.heap.size < (w.alloc (.cells #[.int .i64 n] 3)).heap.size := by rw [my_alloc_size]; omega
  have e0 := fun (f : Fn) (a b : Array Value) (w : World) => run_eql_func_nil (P := Try.prog) w 114 f a b Try.underlying114
  refine (callsIn_wide (n := 8)).1 ?_
  refine callsIn_of_wp_marks Try.func50 rfl trivial ?_ rfl
  simp only [Try.ntmps50, List.size_toArray, List.length_cons, List.length_nil, Nat.reduceAdd, Nat.reduceSub, Array.replicate_succ, Array.replicate_zero, List.push_toArray, List.append_toArray, List.nil_append, List.cons_append]
  refine wpIn_wide.2 ?_
  go_wp2_with fail
  refine hall.mono ?_
  rintro e w2 ⟨B, A, c, rfl, hB0, bB, hcut, hb2⟩
  clear hall
  have hb02 := hb1.trans (hb2.mono (Nat.le_of_lt hsz1))
  have p2 : Boxed w2 w.heap.size 3 (.int .i64 n) := (hb2.block _ p1.lt).trans p1
  clear p1 hb1 hb2 hbeg
  have x2 := p2.cell
  have hB1 : w.heap.size < B := Nat.lt_of_lt_of_le hsz1 hB0
  clear hsz1 hB0
  by_cases hn : n < 1
  · have hal0 : al = [] := by rw [← hal, show n.toNat = 0 by omega]; rfl
    subst hal0
    go_wp2
    refine ⟨_, results_tmp rfl _ _ _, ?_⟩
    exact ⟨_, rfl, World.ownsRow_nil _ _ _ _, hb02⟩
  · have hn' : ¬ n < 1 := hn
    go_wp2
    have hw2 := p2.lt
    have hsz02 := hb02.size
    have bO := Boxed.new w2 62 (.slice none 0 0)
    have hbx : Below w2.heap.size w2 (w2.alloc (.cells #[.slice none 0 0] 62)) := (Below.refl _ _).alloc (Nat.le_refl _) _
    have p3 := p2.alloc (.cells #[.slice none 0 0] 62)
    have bB3 := bB.alloc (.cells #[.slice none 0 0] 62)
    have hcut3 := hcut.below hbx
    have hBlt := bB.lt
    have hB3 := hb02.alloc hsz02 (.cells #[.slice none 0 0] 62)
    have hsz3 : w2.heap.size < (w2.alloc (.cells #[.slice none 0 0] 62)).heap.size := by rw [my_alloc_size]; omega
    have hout : (w2.alloc (.cells #[.slice none 0 0] 62)).ownsRow w2.heap.size 102 2 (.slice none 0 0) 0 (encP []) := World.ownsRow_nil _ _ _ _
    obtain ⟨w3, hw3⟩ : ∃ w3, w2.alloc (.cells #[.slice none 0 0] 62) = w3 := ⟨_, rfl⟩
    rw [hw3] at bO hbx p3 bB3 hcut3 hB3 hsz3 hout ⊢
    clear hw3 bB hcut p2 x2
    refine (wpIn_wide (n := 8)).1 ?_
    refine wpIn_rangeFunc_ownH rfl h1 (gf := 97) (lb := #[.pointer (some ⟨B, 0, none⟩)]) rfl trivial (enters_of Try.func97 (by kernel_rfl) rfl)
      (allP_stops Fence.wide (8 - 1) trivial rfl (by decide) B w2.heap.size A c m hm w3 (by omega) (by omega) bB3.cell hcut3) belowK_t (belowK_b (by omega)) (Below.refl _ _) (fun _ => rfl)
      (fun pre W => (((∃ v, Boxed W w2.heap.size 62 v ∧ W.ownsRow w2.heap.size 102 2 v pre.length (encP pre) ∧ (pre.length : Int) < n) ∧ Boxed W w.heap.size 3 (.int .i64 n)) ∧ True) ∧ Below w2.heap.size w2 W)
      (fun c pre W => (c = .exit 0 ∧ ∃ v, Boxed W w2.heap.size 62 v ∧ W.ownsRow w2.heap.size 102 2 v pre.length (encP pre) ∧ (pre.length : Int) = n) ∧ Below w2.heap.size w2 W)
      (OwnFrom.and (OwnFrom.and (OwnFrom.and (Own.from (holdsRow_own w2.heap.size w2.heap.size 62 102 2 (fun pre => pre.length) (fun pre => encP pre) (fun pre _ => (pre.length : Int) < n)) _) (Own.from (boxed_own _ _ _) _)) (ownFrom_pure _ _)) (ownFrom_below (Nat.le_refl _) (by omega)))
      (fun c => OwnFrom.and (OwnFrom.and (ownFrom_pure _ _) (Own.from (holdsRow_own w2.heap.size w2.heap.size 62 102 2 (fun pre => pre.length) (fun pre => encP pre) (fun pre _ => (pre.length : Int) = n)) _)) (ownFrom_below (Nat.le_refl _) (by omega)))
      ⟨⟨⟨⟨_, bO, hout, by simp; omega⟩, p3⟩, trivial⟩, hbx⟩
      (fun x a' _ => a' = { tmps := #[.pointer pg, .string pre0, .int .i64 n, undef, undef, .pointer (some ⟨w.heap.size, 0, none⟩), .slice none 0 0, .func (.func 97) #[] #[.pointer (some ⟨B, 0, none⟩)], .pointer (some ⟨w2.heap.size, 0, none⟩), .string x.f0, .string x.f1, .pointer pg, .string pre0, .func (.func 97) #[] #[.pointer (some ⟨B, 0, none⟩)], .func (.func 97) #[] #[.pointer (some ⟨B, 0, none⟩)], .bool false, .bool false, .int .i64 n, .bool (decide (n < 1)), .bool (decide (n < 1)), .func (.func 97) #[] #[.pointer (some ⟨B, 0, none⟩)], .string x.f0, .string x.f1, undef, undef, undef, undef, undef, undef, undef, undef, undef, undef, undef], defers := [] })
      (fun _ _ _ _ _ _ hs _ _ => hs)
      ?assign ?body ?done ?stop
    case assign =>
      rintro lp pre x W K hI hK
      gi_wp2
      exact hK _ _ (KeepsFrom.refl _ _) (Below.refl _ _) hI rfl
    case body =>
      rintro lp pre x a' W hlp _ ⟨⟨⟨⟨v, hv, hrow, hlt1⟩, p6⟩, _⟩, hB6⟩ rfl hlt
      have c1 := hv.cell
      have hle := hB6.size
      have hplt : w.heap.size < w2.heap.size := hw2
      have hnew : ∀ j u, ([.string x.f0, .string x.f1] : List Value)[j]? = some u → (W.alloc (.cells #[.string x.f0, .string x.f1] 102)).cell? ((⟨W.heap.size, 0, none⟩ : Addr).add j) = some u := by
        intro j u h
        rw [add_plain, blk_cell (my_alloc_new W _) j]
        simpa using h
      have hadd : encP pre ++ [.string x.f0, .string x.f1] = encP (pre ++ [x]) := by rw [encP_append]; rfl
      have hlen1 : (pre ++ [x]).length = pre.length + 1 := by rw [List.length_append]; rfl
      gi_wp2_with (gi_at_builtin; refine wpListIn_append_own _ rfl _ _ 62 rfl w2.heap.size 102 i0 _ 2 32 Try.underlying62 hi0 hz0 hzs hzb rfl (by decide) _ pre.length (encP pre) rfl (hrow.alloc _) ⟨W.heap.size, 0, none⟩ 1 1 [.string x.f0, .string x.f1] rfl rfl hnew (by simp [Value.oneCell']) (by unfold maxLen; omega) (by omega) (by rw [my_alloc_size]; omega) ?_; intro v' w1 hown' hgrow _; obtain ⟨g', cap', rfl⟩ := ownsRow_succ hown'; obtain ⟨hv1, hv2, hr2, hk2, hb2⟩ := hv.appended (by decide) hrow hle (Nat.le_refl _) hown' hgrow; have hc1 := hv1.cell; have hf1 := hv1.frozen; have hc2 := hv2.cell; have p7 : Boxed _ w.heap.size 3 (.int .i64 n) := (hb2.block w.heap.size hplt).trans p6; have hp7 := p7.cell; rw [hadd] at hr2)
      · have hx : ((pre.length : Int) + 1 == n) = true := by assumption
        have hx2 : ((pre ++ [x]).length : Int) = n := by rw [hlen1]; have := beq_iff_eq.1 hx; omega
        rw [← hlen1] at hv2 hr2 hk2 hb2 ⊢
        exact ⟨hk2.from _, ⟨rfl, _, hv2, hr2, hx2⟩, hB6.trans hb2⟩
      · have hx : ((pre.length : Int) + 1 == n) = false := by assumption
        have hx2 : ((pre ++ [x]).length : Int) < n := by rw [hlen1]; have := beq_eq_false_iff_ne.1 hx; omega
        rw [← hlen1] at hv2 hr2 hk2 hb2 p7 ⊢
        exact ⟨hk2.from _, hb2, ⟨⟨⟨_, hv2, hr2, hx2⟩, p7⟩, trivial⟩, hB6.trans hb2⟩
    case' done =>
      rintro D ms W hD hms ⟨⟨⟨⟨v, hv, hrow, hlt1⟩, p6⟩, _⟩, hB6⟩ hK
      have hall2 : al = ms := by rw [← hal, ← hms, List.take_of_length_le (by omega)]
      clear hms p6 hlt1
    case' stop =>
      rintro D c' ms W hD hpre ⟨⟨rfl, v, hv, hrow, heq⟩, hB6⟩ hK
      have hall2 : al = ms := by rw [← hal, List.prefix_iff_eq_take.1 hpre, show n.toNat = ms.length by omega]
      clear hpre heq
      refine wpIn_wide.2 ?_
    all_goals
      have cW : W.cell? ⟨w2.heap.size, 0, none⟩ = some v := hv.cell
      have hBw : Below w.heap.size w W := hb02.trans (hB6.mono hsz02)
      have hfin : ∃ v', Ending.returned v = .returned v' ∧ (W.putObj D (.deferred none)).ownsRow w.heap.size 102 2 v' al.length (encP al) ∧ Below w.heap.size w (W.putObj D (.deferred none)) :=
        ⟨v, rfl, by rw [hall2]; exact ownsRow_putObj (own_weaken hrow hsz02) _ hK rfl, hBw.trans (belowK_b (w := w) (Nat.le_refl _) W D _ _ (by omega) hK rfl rfl)⟩
      replace hfin := Aside0.mk hfin
      clear hal hall2 hrow hBw hv hB6
      go_wp2
      refine ⟨by simp, .inl ⟨_, _, rfl, run_takeDeferred hK, ?_⟩⟩
      refine ⟨_, results_tmp rfl _ _ _, ?_⟩
      exact hfin.out
end

/-! ### footbridgeref09_at: function 89 -/
def footbridgeref09_at.l0 : Nat → List (S102) → ByteArray → Int → Option (Int)
  | 0, _, _, _ => none
  | k + 1, x0, x1, x5 => if x5 < (x0.length : Int) then (if 0 ≤ x5 then (if (Op.bytesLess (((rd_T102 x0 x5).f0).toList) x1.toList) = true then (footbridgeref09_at.l0 k x0 x1 (wrap64 (x5 + 1))) else (some x5)) else (none)) else (some x5)
def footbridgeref09_at.f (k : Nat) (l0 : List (S102)) (a1 : ByteArray) : Option (Int) := footbridgeref09_at.l0 k l0 a1 0
theorem footbridgeref09_at.mono_l : ∀ k, (∀ y0 y1 y2, LeO (footbridgeref09_at.l0 k y0 y1 y2) (footbridgeref09_at.l0 (k + 1) y0 y1 y2))
  | 0 => fun _ _ _ r h => by simp [footbridgeref09_at.l0] at h
  | k + 1 => by
    have ih0 := footbridgeref09_at.mono_l k
    · intro y0 y1 y2
      unfold footbridgeref09_at.l0
      repeat' first
      | (with_reducible exact ih0 _ _ _)
      | (with_reducible exact LeO.refl _)
      | (with_reducible exact LeO.none _)
      | (with_reducible refine LeO.ite ?_ ?_)
      | (with_reducible refine LeO.bind ?_ (fun _ => ?_))
      | exact ih0 _ _ _
      | exact LeO.none _
      | refine LeO.ite ?_ ?_
      | refine LeO.bind ?_ (fun _ => ?_)
theorem footbridgeref09_at.mono : ∀ a0 a1 k, LeO (footbridgeref09_at.f k a0 a1) (footbridgeref09_at.f (k + 1) a0 a1) := by
  intro a0 a1 k
  have ih0 := footbridgeref09_at.mono_l k
  unfold footbridgeref09_at.f
  repeat' first
      | (with_reducible exact ih0 _ _ _)
      | (with_reducible exact LeO.refl _)
      | (with_reducible exact LeO.none _)
      | (with_reducible refine LeO.ite ?_ ?_)
      | (with_reducible refine LeO.bind ?_ (fun _ => ?_))
      | exact ih0 _ _ _
      | exact LeO.none _
      | refine LeO.ite ?_ ?_
      | refine LeO.bind ?_ (fun _ => ?_)
set_option maxHeartbeats 8000000 in
set_option maxRecDepth 100000 in
theorem footbridgeref09_at.calls (k : Nat) (A0 : Option Addr) (c0 : Nat) (l0 : List (S102)) (a1 : ByteArray) (r : Int) (w : World) (hr0 : Kd.C k102 w A0 l0.length l0) (hc0 : l0.length ≤ c0) (h : footbridgeref09_at.f k l0 a1 = some r) :
    Calls Try.prog 89 #[.slice A0 l0.length c0, .string a1] w fun e w' => e = .returned (.int .i64 r) ∧ Drawn0 w w' := by
  have HR0 := Aside0.mk hr0
  have HC0 := Aside0.mk hc0
  clear hr0 hc0
  have H : (footbridgeref09_at.l0 k l0 a1 0) = some r := h
  clear h
  have H' := Aside0.mk H
  clear H
  go_enter Try.func89, Try.ntmps89
  go_wp2
  go_loopg [5] k (fun kq v5 w' => ∃ (x5_1 : Int), v5 = .int .i64 x5_1 ∧ Aside0 (footbridgeref09_at.l0 kq l0 a1 x5_1 = some r) ∧ Aside0 (kq ≤ k) ∧ Drawn0 w w')
  case atStart => exact ⟨(0), (by first | rfl | (simp; done) | (simp [*]; done)), H', ⟨Nat.le_refl _⟩, by repeat (first | exact Drawn0.refl _ | apply Drawn0.step)⟩
  case round =>
    clear H'
    try clear p2
    obtain ⟨x5_1, rfl, HA, HK1, ⟨m1, rfl⟩⟩ := hrel
    cases gk with
    | zero => exact absurd HA.out (by simp [footbridgeref09_at.l0])
    | succ k1 =>
      have H := HA.out
      clear HA
      simp only [footbridgeref09_at.l0] at H
      by_cases c3 : x5_1 < (l0.length : Int)
      · rw [if_pos c3] at H
        have c3b0 : decide (x5_1 < (l0.length : Int)) = true := decide_eq_true c3
        clear c3
        by_cases c4 : 0 ≤ x5_1
        · rw [if_pos c4] at H
          have c4b0 : decide (0 ≤ x5_1) = true := decide_eq_true c4
          clear c4
          by_cases c5 : (Op.bytesLess (((rd_T102 l0 x5_1).f0).toList) a1.toList) = true
          · rw [if_pos c5] at H
            have c5b0 : (Op.bytesLess (((rd_T102 l0 x5_1).f0).toList) a1.toList) = true := c5
            clear c5
            have H' := Aside0.mk H
            clear H
            have p104 : 0 ≤ (x5_1 : Int) := of_decide_eq_true (by first | (with_reducible assumption) | assumption)
            have q104 : x5_1 < (l0.length : Int) := of_decide_eq_true (by first | (with_reducible assumption) | assumption)
            obtain ⟨ad104, e104, hx104_0, hx104_1⟩ := at_T102 HR0.out x5_1 p104 q104
            cases e104
            replace p104 := eq_true p104
            replace q104 := eq_true q104
            go_wp2
            go_roundg k1
            case measure => have := HK1.out; omega
            case rel => exact ⟨(wrap64 (x5_1 + 1)), (by first | rfl | (simp; done) | (simp [*]; done)), H', ⟨by have := HK1.out; omega⟩, by repeat (first | exact Drawn0.refl _ | apply Drawn0.step)⟩
          · rw [if_neg c5] at H
            have c5b0 : (Op.bytesLess (((rd_T102 l0 x5_1).f0).toList) a1.toList) = false := by simpa using c5
            clear c5
            obtain rfl := Option.some.inj H
            have p104 : 0 ≤ (x5_1 : Int) := of_decide_eq_true (by first | (with_reducible assumption) | assumption)
            have q104 : x5_1 < (l0.length : Int) := of_decide_eq_true (by first | (with_reducible assumption) | assumption)
            obtain ⟨ad104, e104, hx104_0, hx104_1⟩ := at_T102 HR0.out x5_1 p104 q104
            cases e104
            replace p104 := eq_true p104
            replace q104 := eq_true q104
            go_wp2
            go_ret
            exact ⟨by first | rfl | (simp; done) | (simp [*]; done), by repeat (first | exact Drawn0.refl _ | apply Drawn0.step)⟩
        · rw [if_neg c4] at H
          exact absurd H (by simp)
      · rw [if_neg c3] at H
        have c3b0 : decide (x5_1 < (l0.length : Int)) = false := decide_eq_false c3
        clear c3
        obtain rfl := Option.some.inj H
        go_wp2
        go_ret
        exact ⟨by first | rfl | (simp; done) | (simp [*]; done), by repeat (first | exact Drawn0.refl _ | apply Drawn0.step)⟩

end Go.Proofs.Ytfjneffmgmcdaaa.PPar
