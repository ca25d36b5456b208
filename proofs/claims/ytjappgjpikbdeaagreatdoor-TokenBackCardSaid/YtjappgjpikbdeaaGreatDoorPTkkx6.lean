-- written by wip/myprint.py over the kit's print; not a printed text of print.sh
import Derived.Test.YtjappgjpikbdeaaGreatDoorPTkkx0
import Derived.Test.YtjappgjpikbdeaaGreatDoorPTkkx3
import Derived.Test.YtjappgjpikbdeaaGreatDoorPTkkx4
import Derived.Test.YtjappgjpikbdeaaGreatDoorPTkkx5
namespace Go.Proofs.YtjappgjpikbdeaaGreatDoor.PTkk
open Go.RowKit Go.Proofs.YtjappgjpikbdeaaGreatDoorW.PrintWords Go.Proofs.YtjappgjpikbdeaaGreatDoorW.PrintLast Go.Proofs.YtjappgjpikbdeaaGreatDoorW.PrintMore
attribute [local go_sem] max2_int min2_int max_two min_two max_three min_three max_four min_four   -- for this text's walks alone
set_option linter.unusedVariables false
set_option linter.unusedSimpArgs false

/-! ### pairs_Store_Get: function 49 -/
/-! ### a store -/
theorem encP_set : ∀ (l : List S82) (p : Nat) (x : S82), p < l.length → encP (l.set p x) = ((encP l).set (p * 2) (.string x.f0)).set (p * 2 + 1) (.string x.f1)
  | [], p, x, h => absurd h (Nat.not_lt_zero _)
  | a :: t, 0, x, _ => rfl
  | a :: t, p + 1, x, h => by
    have ih := encP_set t p x (by simpa using h)
    rw [show (p + 1) * 2 = p * 2 + 1 + 1 by omega]
    show (Value.string a.f0 :: Value.string a.f1 :: encP (t.set p x)) = _
    rw [ih]; rfl
/-- A store: its variable's block g, its row v, all from block base on. -/
def StoreIs (base g : Nat) (v : Value) (l : List S82) (w : World) : Prop :=
  base ≤ g ∧ sortK l ∧ w.heap[g]? = some (.cells #[v] 118 (0, 0)) ∧ w.ownsRow base 82 2 v l.length (encP l)
theorem StoreIs.at_ {base g : Nat} {v : Value} {l : List S82} {w : World} (h : StoreIs base g v l w) : StoreAt base g l w := ⟨h.1, h.2.1, v, h.2.2.1, rows_R h.2.2.2 (fun k hk => (h.2.2.2.lt k hk).1)⟩
/-- What a store's call turns: its own block and its row's. -/
structure StoreW (g : Nat) (v : Value) (w w' : World) : Prop where
  os : w'.os = w.os
  tape : w'.tape = w.tape
  output : w'.output = w.output
  size : w.heap.size ≤ w'.heap.size
  block : ∀ i, i < w.heap.size → i ≠ g → some i ≠ v.ownBlock → w'.heap[i]? = w.heap[i]?
theorem StoreW.of_below {g : Nat} {v : Value} {w w' : World} (h : Below w.heap.size w w') : StoreW g v w w' := ⟨h.os, h.tape, h.output, h.size, fun i hi _ _ => h.block i hi⟩
theorem StoreW.of_grown {g : Nat} {v : Value} {w w' : World} (h : w.grownBy w' v.ownBlock) : StoreW g v w w' := ⟨h.os, h.tape, h.output, h.size, fun i hi _ h2 => h.block i hi h2⟩
theorem StoreW.trans {g : Nat} {v v1 : Value} {w w1 w2 : World} (h : StoreW g v w w1) (k : StoreW g v1 w1 w2) (hv : v1.ownBlock = v.ownBlock ∨ ∃ b, v1.ownBlock = some b ∧ w.heap.size ≤ b) : StoreW g v w w2 :=
  ⟨k.os.trans h.os, k.tape.trans h.tape, k.output.trans h.output, Nat.le_trans h.size k.size, fun i hi h1 h2 => (k.block i (Nat.lt_of_lt_of_le hi h.size) h1 (by
    rcases hv with hv | ⟨b, hb, hle⟩
    · rw [hv]; exact h2
    · rw [hb]; intro e; injection e with e; omega)).trans (h.block i hi h1 h2)⟩
theorem StoreW.set (g : Nat) (v : Value) (w : World) (j : Nat) (u : Value) : StoreW g v w (w.setCell ⟨g, j, none⟩ u) := ⟨rfl, rfl, rfl, by simp [World.setCell], fun i _ h1 _ => Below.heap_setCell w ⟨g, j, none⟩ u i h1⟩
/-- What a call leaves of a store: the store l', its row the old one's block or a new one. -/
def StPost (base g : Nat) (v : Value) (l' : List S82) (r : Value) (w : World) (e : Ending) (w' : World) : Prop := e = .returned r ∧ ∃ v', StoreIs base g v' l' w' ∧ StoreW g v w w' ∧ (v'.ownBlock = v.ownBlock ∨ ∃ b, v'.ownBlock = some b ∧ w.heap.size ≤ b)
set_option maxHeartbeats 4000000 in
set_option maxRecDepth 100000 in
theorem st_set_has (base g : Nat) (v : Value) (l : List S82) (key value : ByteArray) (w : World) (h : StoreIs base g v l w) (hl : l.length ≤ 1000000000) (hb : base ≤ w.heap.size) (hh : hasK l key = true) :
    Calls Tryz.prog 84 #[.pointer (some ⟨g, 0, none⟩), .string key, .string value] w (StPost base g v (setK l key value) (.bool false) w) := by
  obtain ⟨hp, hk⟩ := hasK_lt hh
  obtain ⟨h0, h1, h2, h3⟩ := id h
  rcases h3.2 with ⟨rfl, hn0⟩ | ⟨gr, cap, cur, rfl, hbr, hg, hn, hm, hs, hx⟩
  · omega
  have hgr : g ≠ gr := blk_ne h2 hg (by decide)
  have hset : setK l key value = l.set (posK l key) ⟨key, value⟩ := by unfold setK; rw [hh, if_pos rfl]
  have hsort := sortK_set h1 key value
  rw [hset] at hsort ⊢
  go_enter Tryz.func84, Tryz.ntmps84
  go_wp2_with fail
  refine (st_at base g l key _ h.at_ hl).mono ?_
  rintro e w2 ⟨rfl, hb2⟩
  rw [hh]
  have g2 := blk_below h2 hb2
  have r2 := blk_below hg hb2
  have hp0 : (0 : Int) ≤ (posK l key : Int) := by omega
  have hpl : (posK l key : Int) < (l.length : Int) := by omega
  have hcs : cap * 2 ≤ cur.size := by omega
  have g3 := blk_alloc g2 (.cells #[.string key, .string value] 82)
  have r3 := blk_alloc r2 (.cells #[.string key, .string value] 82)
  have n3 := my_alloc_new w2 (.cells #[.string key, .string value] 82)
  have y0 : (w2.alloc (.cells #[.string key, .string value] 82)).cell? ⟨g, 0, none⟩ = some (.slice (some ⟨gr, 0, none⟩) l.length cap) := (blk_cell g3 0).trans rfl
  have y1 : (w2.alloc (.cells #[.string key, .string value] 82)).cell? ⟨w2.heap.size, 0, none⟩ = some (.string key) := (blk_cell n3 0).trans rfl
  have y2 : (w2.alloc (.cells #[.string key, .string value] 82)).cell? ⟨w2.heap.size, 1, none⟩ = some (.string value) := (blk_cell n3 1).trans rfl
  obtain ⟨o0, z0⟩ : ∃ o0, (w2.alloc (.cells #[.string key, .string value] 82)).cell? ⟨gr, posK l key * 2, none⟩ = some o0 := ⟨_, (blk_cell r3 _).trans (Array.getElem?_eq_getElem (by omega))⟩
  obtain ⟨o1, z1⟩ : ∃ o1, (w2.alloc (.cells #[.string key, .string value] 82)).cell? ⟨gr, posK l key * 2 + 1, none⟩ = some o1 := ⟨_, (blk_cell r3 _).trans (Array.getElem?_eq_getElem (by omega))⟩
  have u0 := blk_frozen r3 (posK l key * 2)
  have u1 := blk_frozen r3 (posK l key * 2 + 1)
  have hfin : ∀ n, StPost base g (.slice (some ⟨gr, 0, none⟩) l.length cap) (l.set (posK l key) ⟨key, value⟩) (.bool false) w (.returned (.bool false)) ((((w2.alloc (.cells #[.string key, .string value] 82)).drewN n).setCell ⟨gr, posK l key * 2, none⟩ (.string key)).setCell ⟨gr, posK l key * 2 + 1, none⟩ (.string value)) := by
    intro n
    have s2 : Below w2.heap.size w2 ((w2.alloc (.cells #[.string key, .string value] 82)).drewN n) := pw_below_drewN ((Below.refl _ _).alloc (Nat.le_refl _) _) n
    generalize ((w2.alloc (.cells #[.string key, .string value] 82)).drewN n) = w3 at s2 ⊢
    have g4 := blk_below g2 s2
    have r4 := blk_below r2 s2
    have e1 := setCell_eq_setRow w3 gr (posK l key * 2) cur _ _ (.string key) r4
    have r5 := setRow_heap w3 gr cur (cur.setIfInBounds (posK l key * 2) (.string key)) _ _ r4
    have e2 := setCell_eq_setRow (w3.setRow gr (cur.setIfInBounds (posK l key * 2) (.string key))) gr (posK l key * 2 + 1) _ _ _ (.string value) r5
    have r6 := setRow_heap _ gr _ ((cur.setIfInBounds (posK l key * 2) (.string key)).setIfInBounds (posK l key * 2 + 1) (.string value)) _ _ r5
    refine ⟨rfl, _, ⟨h0, hsort, ?_, ?_⟩, ?_, .inl rfl⟩
    · exact blk_far (blk_far g4 (p := ⟨gr, posK l key * 2, none⟩) hgr _) (p := ⟨gr, posK l key * 2 + 1, none⟩) hgr _
    · rw [List.length_set, e1, e2]
      refine row_of hbr r6 hn hm (by rw [Array.size_setIfInBounds, Array.size_setIfInBounds, hs]) ?_
      rw [Array.toList_setIfInBounds, Array.toList_setIfInBounds, List.take_set, List.take_set, hx, encP_set l _ ⟨key, value⟩ hp]
    · exact ((StoreW.of_below hb2).trans (StoreW.of_below s2) (.inl rfl)).trans (StoreW.of_grown ((gb_set w3 gr _ _).trans (gb_set _ gr _ _))) (.inl rfl)
  replace hfin := Aside0.mk hfin
  clear hx hs hcs hg h2 h3 h hsort g2 r2 g3 r3 n3 hset
  go_upto_region 6 with (fail)
  go_region
  go_wp2
  go_ret
  exact hfin.out 1
theorem own_below {w w' : World} {base : Nat} {e : TypeId} {size n : Nat} {v : Value} {xs : List Value} (h : w.ownsRow base e size v n xs) (hb : Below w.heap.size w w') : w'.ownsRow base e size v n xs := h.kept (grown_of_below hb none) (by cases v.ownBlock <;> simp)
set_option maxHeartbeats 4000000 in
set_option maxRecDepth 100000 in
theorem st_set_new (base g : Nat) (v : Value) (l : List S82) (key value : ByteArray) (w : World) (h : StoreIs base g v l w) (hl : l.length ≤ 1000000000) (hb : base ≤ w.heap.size) (hh : hasK l key = false) :
    Calls Tryz.prog 84 #[.pointer (some ⟨g, 0, none⟩), .string key, .string value] w (StPost base g v (setK l key value) (.bool true) w) := by
  obtain ⟨h0, h1, h2, h3⟩ := id h
  have hpl := posK_le l key
  have hset : setK l key value = l.take (posK l key) ++ ⟨key, value⟩ :: l.drop (posK l key) := by unfold setK; rw [hh, if_neg (by simp)]
  have hsort := sortK_set h1 key value
  rw [hset] at hsort ⊢
  obtain ⟨A, c, rfl, hnc, hc63⟩ := row_slice h3
  go_enter Tryz.func84, Tryz.ntmps84
  go_wp2_with fail
  refine (st_at base g l key _ h.at_ hl).mono ?_
  rintro e w2 ⟨rfl, hb2⟩
  rw [hh]
  have g3 := blk_alloc (blk_below h2 hb2) (.cells #[.string key, .string value] 82)
  have n3 := my_alloc_new w2 (.cells #[.string key, .string value] 82)
  have o3 : (w2.alloc (.cells #[.string key, .string value] 82)).ownsRow base 82 2 (.slice A l.length c) l.length (encP l) := (own_below h3 hb2).alloc _
  have hsz2 := hb2.size
  have W2 := Aside0.mk ((StoreW.of_below hb2 : StoreW g (.slice A l.length c) w w2).trans (StoreW.of_below ((Below.refl w2.heap.size w2).alloc (Nat.le_refl _) (.cells #[.string key, .string value] 82))) (.inl rfl))
  have hA : ∀ k, (Value.slice A l.length c).ownBlock = some k → k < w2.heap.size := fun k hk => Nat.lt_of_lt_of_le (h3.lt k hk).2 hsz2
  go_upto_region 8 with (fail)
  skip
  have y0 := (blk_cell g3 0).trans (rfl : _ = some (Value.slice A l.length c))
  have y1 := (blk_cell n3 0).trans (rfl : _ = some (Value.string key))
  have y2 := (blk_cell n3 1).trans (rfl : _ = some (Value.string value))
  have hvb : w2.heap.size < (w2.alloc (.cells #[.string key, .string value] 82)).heap.size := by rw [my_alloc_size]; omega
  have hgs := blk_lt g3
  refine start_ (n := 12) (S := fun w' => w'.cell? ⟨g, 0, none⟩ = some (.slice A l.length c) ∧ w'.cell? ⟨w2.heap.size, 0, none⟩ = some (.string key) ∧ w'.cell? ⟨w2.heap.size, 1, none⟩ = some (.string value)) (ds := [11]) #[false, false, false, false, false, false, false, false, false, false, false, false] (by kernel_rfl) rfl rfl ⟨y0, y1, y2⟩ (fun hHeld => ?_)
  have g4 : (w2.alloc (.cells #[.string key, .string value] 82)).drew.heap[g]? = _ := g3
  have n4 : (w2.alloc (.cells #[.string key, .string value] 82)).drew.heap[w2.heap.size]? = _ := n3
  have o4 : (w2.alloc (.cells #[.string key, .string value] 82)).drew.ownsRow base 82 2 (.slice A l.length c) l.length (encP l) := own_below o3 (below_drew (Below.refl _ _))
  have W4 := Aside0.mk (W2.out.trans (StoreW.of_below (below_drew (Below.refl _ _)) : StoreW g (.slice A l.length c) _ (w2.alloc (.cells #[.string key, .string value] 82)).drew) (.inl rfl))
  clear g3 n3 o3 W2 y0 y1 y2 h2 h3 h
  have hvb4 : w2.heap.size < (w2.alloc (.cells #[.string key, .string value] 82)).drew.heap.size := hvb
  have hgs4 : g < (w2.alloc (.cells #[.string key, .string value] 82)).drew.heap.size := hgs
  have hsw4 : w.heap.size ≤ (w2.alloc (.cells #[.string key, .string value] 82)).drew.heap.size := by omega
  clear hvb hgs
  generalize (w2.alloc (.cells #[.string key, .string value] 82)).drew = w4 at hHeld g4 n4 o4 W4 hvb4 hgs4 hsw4 ⊢
  have G4 := Aside0.mk g4
  have N4 := Aside0.mk n4
  have O4 := Aside0.mk o4
  clear g4 n4 o4
  refine pure_ (i := 0) (N := some 29) (v := ?_) (a' := ?_) #[true, false, false, false, false, false, false, false, false, false, false, false] rfl rfl (by kernel_rfl) (fun _ _ _ h => h) (Or.inl ⟨by rfl, ?_⟩) ?_ ?_
  rotate_left
  · intro w'
    go_simp
    with_reducible rfl
  rotate_left
  · simp only [Act.put, List.setIfInBounds_toArray, List.set_cons_zero, List.set_cons_succ, i64_w, i32_w]
    rfl
  refine pure_ (i := 1) (N := some 30) (v := ?_) (a' := ?_) #[true, true, false, false, false, false, false, false, false, false, false, false] rfl rfl (by kernel_rfl) (fun _ _ _ h => h) (Or.inl ⟨by rfl, ?_⟩) ?_ ?_
  rotate_left
  · intro w'
    go_simp
    with_reducible rfl
  rotate_left
  · simp only [Act.put, List.setIfInBounds_toArray, List.set_cons_zero, List.set_cons_succ, i64_w, i32_w]
    rfl
  refine pure_ (i := 2) (N := some 31) (v := ?_) (a' := ?_) #[true, true, true, false, false, false, false, false, false, false, false, false] rfl rfl (by kernel_rfl) (fun _ _ _ h => h) (Or.inl ⟨by rfl, ?_⟩) ?_ ?_
  rotate_left
  · intro w'
    go_simp
    with_reducible rfl
  rotate_left
  · simp only [Act.put, List.setIfInBounds_toArray, List.set_cons_zero, List.set_cons_succ, i64_w, i32_w]
    rfl
  refine pure_ (i := 3) (N := some 32) (v := ?_) (a' := ?_) #[true, true, true, true, false, false, false, false, false, false, false, false] rfl rfl (by kernel_rfl) (fun _ _ _ h => h) (Or.inl ⟨by rfl, ?_⟩) ?_ ?_
  rotate_left
  · intro w'
    go_simp
    with_reducible rfl
  rotate_left
  · simp only [Act.put, List.setIfInBounds_toArray, List.set_cons_zero, List.set_cons_succ, i64_w, i32_w]
    rfl
  refine take_ (i := 4) (N := some 33) (v := ?_) (a' := ?_) #[true, true, true, true, true, false, false, false, false, false, false, false] rfl rfl (by kernel_rfl) (fun _ _ _ h => h) (Or.inl ⟨by rfl, ?_⟩) hHeld ?_ ?_
  rotate_left
  · rintro w' ⟨s0, s1, s2⟩
    go_simp
    with_reducible rfl
  rotate_left
  · simp only [Act.put, List.setIfInBounds_toArray, List.set_cons_zero, List.set_cons_succ, i64_w, i32_w]
    rfl
  refine pure_ (i := 5) (N := some 34) (v := ?_) (a' := ?_) #[true, true, true, true, true, true, false, false, false, false, false, false] rfl rfl (by kernel_rfl) (fun _ _ _ h => h) (Or.inl ⟨by rfl, ?_⟩) ?_ ?_
  rotate_left
  · intro w'
    go_simp
    with_reducible rfl
  rotate_left
  · simp only [Act.put, List.setIfInBounds_toArray, List.set_cons_zero, List.set_cons_succ, i64_w, i32_w]
    rfl
  refine take_ (i := 6) (N := some 35) (v := ?_) (a' := ?_) #[true, true, true, true, true, true, true, false, false, false, false, false] rfl rfl (by kernel_rfl) (fun _ _ _ h => h) (Or.inl ⟨by rfl, ?_⟩) hHeld ?_ ?_
  rotate_left
  · rintro w' ⟨s0, s1, s2⟩
    go_simp
    with_reducible rfl
  rotate_left
  · simp only [Act.put, List.setIfInBounds_toArray, List.set_cons_zero, List.set_cons_succ, i64_w, i32_w]
    rfl
  refine one_ (i := 7) (N := some 36) #[true, true, true, true, true, true, true, true, false, false, false, false] rfl rfl (by kernel_rfl) (by decide) (fun K hK => ?_)
  refine value_ (w1 := ?_) (v := ?_) (by rfl) rfl ?_ ?_
  rotate_left 2
  · go_simp
    constructor
    · rfl
    · rfl
  refine hK.out _ _ ⟨(blk_cell (blk_alloc G4.out _) 0).trans rfl, (blk_cell (blk_alloc N4.out _) 0).trans rfl, (blk_cell (blk_alloc N4.out _) 1).trans rfl⟩ (fun hHeld => ?_)
  clear hK K
  refine norm_ (a' := ?_) ?_ ?_
  rotate_left
  · show Act.put _ (some 36) _ = _
    simp only [Act.put, List.setIfInBounds_toArray, List.set_cons_zero, List.set_cons_succ, i64_w, i32_w]
    rfl
  refine one_ (i := 8) (N := some 37) #[true, true, true, true, true, true, true, true, true, false, false, false] rfl rfl (by kernel_rfl) (by decide) (fun K hK => ?_)
  refine goes_ Tryz.func103 (by kernel_rfl) rfl #[.slice A l.length c, .int .i64 (posK l key : Int), .slice (some ⟨w4.heap.size, 0, none⟩) 1 1] (by rfl) rfl rfl (by (try simp only [List.map_toArray, List.map_cons, List.map_nil]); first | done | rfl) ?_
  refine (ins_calls base (.slice A l.length c) l (posK l key) w4.heap.size ⟨key, value⟩ _ hl hpl (own_alloc O4.out _) (by rw [my_alloc_size]; omega) (my_alloc_new w4 _) (fun e => by have := hA _ e.symm; omega)).mono ?_
  rintro e w5 ⟨v5, rfl, o5, gr5, at5⟩
  refine ⟨_, rfl, ?_⟩
  have ng : some g ≠ (Value.slice A l.length c).ownBlock := own_ne O4.out G4.out (by decide)
  have nb : some w2.heap.size ≠ (Value.slice A l.length c).ownBlock := fun e => by have := hA _ e.symm; omega
  have g5 := blk_grown (blk_alloc G4.out _) gr5 ng
  have n5 := blk_grown (blk_alloc N4.out _) gr5 nb
  obtain ⟨A5, c5, e5, _, _⟩ := row_slice o5
  subst e5
  have W5 := Aside0.mk ((W4.out.trans (StoreW.of_below ((Below.refl w4.heap.size w4).alloc (Nat.le_refl _) (.cells #[.string key, .string value] 82))) (.inl rfl)).trans (StoreW.of_grown gr5) (.inl rfl))
  have AT5 := Aside0.mk (show (Value.slice A5 _ c5).ownBlock = (Value.slice A l.length c).ownBlock ∨ ∃ b, (Value.slice A5 _ c5).ownBlock = some b ∧ w.heap.size ≤ b from at5.imp_right (fun ⟨b, h1, h2⟩ => ⟨b, h1, by rw [my_alloc_size] at h2; omega⟩))
  have G5 := Aside0.mk g5
  have O5 := Aside0.mk o5
  clear G4 N4 O4 W4 gr5 at5 hHeld o5
  refine hK.out _ _ ⟨(blk_cell g5 0).trans rfl, (blk_cell n5 0).trans rfl, (blk_cell n5 1).trans rfl⟩ (fun hHeld => ?_)
  clear g5 n5
  clear hK K
  refine norm_ (a' := ?_) ?_ ?_
  rotate_left
  · show Act.put _ (some 37) _ = _
    simp only [Act.put, List.setIfInBounds_toArray, List.set_cons_zero, List.set_cons_succ, i64_w, i32_w]
    rfl
  refine pure_ (i := 9) (N := some 38) (v := ?_) (a' := ?_) #[true, true, true, true, true, true, true, true, true, true, false, false] rfl rfl (by kernel_rfl) (fun _ _ _ h => h) (Or.inl ⟨by rfl, ?_⟩) ?_ ?_
  rotate_left
  · intro w'
    go_simp
    with_reducible rfl
  rotate_left
  · simp only [Act.put, List.setIfInBounds_toArray, List.set_cons_zero, List.set_cons_succ, i64_w, i32_w]
    rfl
  refine pure_ (i := 10) (N := some 39) (v := ?_) (a' := ?_) #[true, true, true, true, true, true, true, true, true, true, true, false] rfl rfl (by kernel_rfl) (fun _ _ _ h => h) (Or.inl ⟨by rfl, ?_⟩) ?_ ?_
  rotate_left
  · intro w'
    go_simp
    with_reducible rfl
  rotate_left
  · simp only [Act.put, List.setIfInBounds_toArray, List.set_cons_zero, List.set_cons_succ, i64_w, i32_w]
    rfl
  refine last_ (i := 11) (N := none) #[true, true, true, true, true, true, true, true, true, true, true, true] rfl rfl (by kernel_rfl) (by decide) (fun K hK => ?_)
  have u0 : w5.cell? ⟨g, 0, none⟩ = some (.slice A l.length c) := hHeld.1
  have z0 := blk_frozen G5.out 0
  refine skip_ (w1 := w5.setCell ⟨g, 0, none⟩ (.slice A5 (l.take (posK l key) ++ ⟨key, value⟩ :: l.drop (posK l key)).length c5)) (by rfl) rfl ?_ ?_
  · go_simp
    try rfl
  refine hK.out _ _ ?_
  refine done_ (by kernel_rfl) ?_
  have g6 := blk_put G5.out 0 (.slice A5 (l.take (posK l key) ++ ⟨key, value⟩ :: l.drop (posK l key)).length c5) rfl
  have hfin : StPost base g (.slice A l.length c) (l.take (posK l key) ++ ⟨key, value⟩ :: l.drop (posK l key)) (.bool true) w (.returned (.bool true)) (w5.setCell ⟨g, 0, none⟩ (.slice A5 (l.take (posK l key) ++ ⟨key, value⟩ :: l.drop (posK l key)).length c5)) :=
    ⟨rfl, _, ⟨h0, hsort, g6, own_setCell O5.out (p := ⟨g, 0, none⟩) (own_ne O5.out G5.out (by decide)) _⟩, W5.out.trans (StoreW.set g _ w5 0 _) AT5.out, AT5.out⟩
  replace hfin := Aside0.mk hfin
  clear g6 hHeld W5 AT5 G5 O5 hset hsort
  try go_wp2
  go_ret
  exact hfin.out

/-! ### pairs_Store_Set: function 84 -/
theorem take_splice {α : Type} (L : List α) (o : Nat) (c : List α) (h : o ≤ L.length) : (splice L o c).take o = L.take o := by
  unfold splice
  rw [List.take_append_of_le_length (by rw [List.length_take]; omega), List.take_take, Nat.min_self]
theorem take_splice2 {α : Type} (L : List α) (o : Nat) (c : List α) (h : o ≤ L.length) : (splice L o c).take (o + c.length) = L.take o ++ c := by
  unfold splice
  have h1 : (L.take o).length = o := by rw [List.length_take]; omega
  rw [← List.append_assoc, List.take_append_of_le_length (by rw [List.length_append, h1]; omega), List.take_of_length_le (by rw [List.length_append, h1]; omega)]
set_option maxHeartbeats 4000000 in
set_option maxRecDepth 100000 in
theorem del_calls (base : Nat) (v : Value) (l : List S82) (i : Nat) (w : World) (hl : l.length ≤ 1000000000) (hi : i < l.length) (ho : w.ownsRow base 82 2 v l.length (encP l)) :
    Calls Tryz.prog 85 #[v, .int .i64 i, .int .i64 ((i : Int) + 1)] w (InsPost base v (l.take i ++ l.drop (i + 1)) w) := by
  rcases ho.2 with ⟨rfl, h0⟩ | ⟨g, cap, cur, rfl, hb, hg, hn, hm, hs, hx⟩
  · omega
  obtain ⟨i0, hi0, hz⟩ := Option.map_eq_some_iff.1 info82
  simp only [Prod.mk.injEq] at hz
  obtain ⟨hz0, hzs, hzb⟩ := hz
  have hc63 : cap ≤ 9223372036854775807 := by unfold maxLen at hm; omega
  obtain ⟨hsp1, hsp2⟩ := encP_split l i (by omega)
  obtain ⟨_, hsp3⟩ := encP_split l (i + 1) (by omega)
  have hE3 : (encP (l.drop (i + 1))).length = (l.length - (i + 1)) * 2 := by rw [encP_len, List.length_drop]
  have hcL : cur.toList.length = cap * 2 := hs
  have hcur : cur.toList = encP l ++ cur.toList.drop (l.length * 2) := by rw [← hx, List.take_append_drop]
  have hcur1 : cur.toList.take (i * 2) = encP (l.take i) := by
    rw [← hsp1, ← hx, List.take_take, Nat.min_eq_left (by omega)]
  have hcells : ∀ j u, (encP (l.drop (i + 1)))[j]? = some u → cur.toList[(i + 1) * 2 + j]? = some u := fun j u hj => by
    rw [← hsp3, List.getElem?_drop] at hj
    rw [hcur, List.getElem?_append_left (List.getElem?_eq_some_iff.1 hj).1]
    exact hj
  have hgd : w.drew.heap[g]? = some (.cells cur 82 (0, 0)) := hg
  obtain ⟨C1, hC1⟩ : ∃ C1 : Array Value, C1 = (splice cur.toList (i * 2) (encP (l.drop (i + 1)))).toArray := ⟨_, rfl⟩
  have hC1s : C1.size = cap * 2 := by rw [hC1, List.size_toArray, splice_len _ _ _ (by rw [hcL, hE3]; omega), hcL]
  have hC1L : C1.toList.length = cap * 2 := hC1s
  obtain ⟨A2, hA2, hsrc⟩ : ∃ A2 : Addr, (if cap = i + 1 then some (⟨g, 0, none⟩ : Addr) else some ⟨g, (i + 1) * 2, none⟩) = some A2 ∧ ∀ j u, (encP (l.drop (i + 1)))[j]? = some u → w.drew.cell? (A2.add j) = some u := by
    by_cases hci : cap = i + 1
    · refine ⟨⟨g, 0, none⟩, if_pos hci, fun j u hj => ?_⟩
      have := (List.getElem?_eq_some_iff.1 hj).1
      rw [hE3] at this
      omega
    · exact ⟨⟨g, (i + 1) * 2, none⟩, if_neg hci, src_cells hgd _ _ hcells⟩
  have hap : ∀ ty cc, (Builtin.append_ #[35, 35] ty #[.slice (some ⟨g, 0, none⟩) i cap, .slice (some A2) (l.length - (i + 1)) cc]).run Tryz.prog w.drew = .ok (.slice (some ⟨g, 0, none⟩) (l.length - 1) cap) (w.drew.setRow g C1) := fun ty cc => by
    have hsrc2 : Src Tryz.prog i0.size 35 (.slice (some A2) (l.length - (i + 1)) cc) (l.length - (i + 1)) (encP (l.drop (i + 1))) w.drew := by
      rw [hzs]
      exact Src.ofSlice w.drew Tryz.underlying35 A2 (l.length - (i + 1)) cc _ hE3 hsrc (encP_one _)
    have h := run_append_k (P := Tryz.prog) w.drew 35 35 ty 82 i0 Tryz.underlying35 hi0 g i cap cur 82 hgd _ _ _ hsrc2 (by omega) (by rw [hzs, hE3, hs]; omega)
    rw [hzs, ← hC1, show i + (l.length - (i + 1)) = l.length - 1 by omega] at h
    exact h
  have hW1 := setRow_heap _ g cur C1 _ _ hgd
  obtain ⟨C2, hC2⟩ : ∃ C2 : Array Value, C2 = (splice C1.toList ((l.length - 1) * 2) (Builtin.zeroCells (Value.agg #[.string ⟨#[]⟩, .string ⟨#[]⟩]).cells 1).toList).toArray := ⟨_, rfl⟩
  have hZ : (Builtin.zeroCells (Value.agg #[.string ⟨#[]⟩, .string ⟨#[]⟩]).cells 1).toList.length = 2 := by rw [Array.length_toList, zeroCells_len]; rfl
  have hC2s : C2.size = cap * 2 := by rw [hC2, List.size_toArray, splice_len _ _ _ (by rw [hC1L, hZ]; omega), hC1L]
  have hcl : ∀ ty cc, (Builtin.clear_ #[35] ty #[.slice (some ⟨g, (l.length - 1) * 2, none⟩) (l.length - (l.length - 1)) cc]).run Tryz.prog (w.drew.setRow g C1) = .ok (.tuple #[]) ((w.drew.setRow g C1).setRow g C2) := fun ty cc => by
    rw [show l.length - (l.length - 1) = 1 by omega, hC2]
    exact run_clear_k (P := Tryz.prog) (w.drew.setRow g C1) 35 82 ty (.agg #[.string ⟨#[]⟩, .string ⟨#[]⟩]) Tryz.underlying35 (fun w' => by kernel_rfl) (by intro u hu; simp [Value.cells] at hu; subst hu; rfl) g ((l.length - 1) * 2) 1 cc (by omega) C1 82 hW1 (by rw [hC1s]; show _ + 1 * 2 ≤ _; omega)
  have hfin : InsPost base (.slice (some ⟨g, 0, none⟩) l.length cap) (l.take i ++ l.drop (i + 1)) w (.returned (.slice (some ⟨g, 0, none⟩) (l.length - 1) cap)) ((w.drew.setRow g C1).setRow g C2) := by
    have hlen : (l.take i ++ l.drop (i + 1)).length = l.length - 1 := by rw [List.length_append, List.length_take, List.length_drop]; omega
    refine ⟨_, rfl, ?_, ((gb_below (below_drew (Below.refl _ _))).trans (gb_setRow w.drew g C1)).trans (gb_setRow _ g C2), .inl rfl⟩
    rw [hlen]
    refine row_of hb (setRow_heap _ g C1 C2 _ _ hW1) (by omega) hm hC2s ?_
    have e := take_splice2 cur.toList (i * 2) (encP (l.drop (i + 1))) (by rw [hcL]; omega)
    rw [hE3, hcur1, show i * 2 + (l.length - (i + 1)) * 2 = (l.length - 1) * 2 by omega] at e
    rw [hC2, List.toList_toArray, take_splice _ _ _ (by rw [hC1L]; omega), hC1, List.toList_toArray, e, encP_append]
  replace hfin := Aside0.mk hfin
  have hw2 : IntKind.i64.wrap ((i : Int) + 1) = ((i + 1 : Nat) : Int) := by rw [IntKind.wrap_i64]; omega
  have hb1 : (0 : Int) ≤ (i : Int) + 1 := by omega
  have hin : i ≤ l.length := by omega
  have hin1 : i + 1 ≤ l.length := by omega
  have hin2 : (i : Int) + 1 ≤ (l.length : Int) := by omega
  have hin3 : (i : Int) ≤ (i : Int) + 1 := by omega
  have hne : ¬ ((i : Int) = (i : Int) + 1) := by omega
  have hneb : ((i : Int) == (i : Int) + 1) = false := beq_eq_false_iff_ne.2 hne
  have htn : ((i : Int) + 1).toNat = i + 1 := by omega
  have hic : i ≤ cap := by omega
  have hic1 : l.length - 1 ≤ l.length := by omega
  have hic2 : ¬ (cap = l.length - 1) := by omega
  clear hx hg hgd hW1 hC1 hC2 hC1s hC1L hC2s hE3 hcL hsp1 hsp2 hsp3 hs hm hcur hcur1 hcells hsrc hZ ho hz0 hzb hzs hi0
  go_enter Tryz.func85, Tryz.ntmps85
  go_wp2_with fail
  go_region_law (refine step_append_k rfl _ _ 35 35 rfl (.slice (some ⟨g, 0, none⟩) i cap) (.slice (some A2) (l.length - (i + 1)) (cap - (i + 1))) (by simp [Act.eval, Act.put]) (by simp [Act.eval, Act.put]) (hap _ _) ?_)
  go_wp2
  go_ret
  exact hfin.out

end Go.Proofs.YtjappgjpikbdeaaGreatDoor.PTkk
