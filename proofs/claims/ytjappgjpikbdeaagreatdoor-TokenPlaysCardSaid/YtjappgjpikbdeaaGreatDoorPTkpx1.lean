/- A part of the walk of TokenPlays. No condition. -/
import Derived.Test.YtjappgjpikbdeaaGreatDoorPTkpx0
namespace Go.Proofs.YtjappgjpikbdeaaGreatDoor.PTkp
set_option maxRecDepth 100000
set_option maxHeartbeats 8000000
open Go.RowKit Go.Proofs.YtjappgjpikbdeaaGreatDoorW.PrintWords Go.Proofs.YtjappgjpikbdeaaGreatDoorW.PrintLast Go.Proofs.YtjappgjpikbdeaaGreatDoorW.PrintMore
attribute [local go_sem] max2_int min2_int max_two min_two max_three min_three max_four min_four   -- for this text's walks alone
set_option linter.unusedVariables false
set_option linter.unusedSimpArgs false
theorem encP_set : ∀ (l : List S82) (p : Nat) (x : S82), p < l.length → encP (l.set p x) = ((encP l).set (p * 2) (.string x.f0)).set (p * 2 + 1) (.string x.f1)
 | [], p, x, h => absurd h (Nat.not_lt_zero _)
 | a :: t, 0, x, _ => rfl
 | a :: t, p + 1, x, h => by
  have ih := encP_set t p x (by simpa using h)
  rw [show (p + 1) * 2 = p * 2 + 1 + 1 by omega]
  show (Value.string a.f0 :: Value.string a.f1 :: encP (t.set p x)) = _
  rw [ih]; rfl
def StoreIs (base g : Nat) (v : Value) (l : List S82) (w : World) : Prop :=
 base ≤ g ∧ sortK l ∧ w.heap[g]? = some (.cells #[v] 118 (0, 0)) ∧ w.ownsRow base 82 2 v l.length (encP l)
theorem StoreIs.at_ {base g : Nat} {v : Value} {l : List S82} {w : World} (h : StoreIs base g v l w) : StoreAt base g l w := ⟨h.1, h.2.1, v, h.2.2.1, rows_R h.2.2.2 (fun k hk => (h.2.2.2.lt k hk).1)⟩
structure StoreW (g : Nat) (v : Value) (w w' : World) : Prop where
 os : w'.os = w.os
 tape : w'.tape = w.tape
 output : w'.output = w.output
 size : w.heap.size ≤ w'.heap.size
 block : ∀ i, i < w.heap.size → i ≠ g → some i ≠ v.ownBlock → w'.heap[i]? = w.heap[i]?
theorem StoreW.of_below {g : Nat} {v : Value} {w w' : World} (h : Below w.heap.size w w') : StoreW g v w w' := ⟨h.os, h.tape, h.output, h.size, fun i hi _ _ => h.block i hi⟩
theorem StoreW.of_grown {g : Nat} {v : Value} {w w' : World} (h : w.grownBy w' v.ownBlock) : StoreW g v w w' := ⟨h.os, h.tape, h.output, h.size, fun i hi _ h2 => h.block i hi h2⟩
theorem StoreW.trans {g : Nat} {v v1 : Value} {w w1 w2 : World} (h : StoreW g v w w1) (k : StoreW g v1 w1 w2) (hv : v1.ownBlock = v.ownBlock ∨ ∃ b, v1.ownBlock = some b ∧ w.heap.size ≤ b) : StoreW g v w w2 :=
 ⟨k.os.trans h.os, k.tape.trans h.tape, k.output.trans h.output, Nat.le_trans h.size k.size, fun i hi h1 h2 => (k.block i (Nat.lt_of_lt_of_le hi h.size) h1 (by
  rcases hv with hv | ⟨b, hb, hle⟩
  ·rw [hv]; exact h2
  ·rw [hb]; intro e; injection e with e; omega)).trans (h.block i hi h1 h2)⟩
theorem StoreW.set (g : Nat) (v : Value) (w : World) (j : Nat) (u : Value) : StoreW g v w (w.setCell ⟨g, j, none⟩ u) := ⟨rfl, rfl, rfl, by simp [World.setCell], fun i _ h1 _ => Below.heap_setCell w ⟨g, j, none⟩ u i h1⟩
def StPost (base g : Nat) (v : Value) (l' : List S82) (r : Value) (w : World) (e : Ending) (w' : World) : Prop := e = .returned r ∧ ∃ v', StoreIs base g v' l' w' ∧ StoreW g v w w' ∧ (v'.ownBlock = v.ownBlock ∨ ∃ b, v'.ownBlock = some b ∧ w.heap.size ≤ b)
theorem st_set_has (base g : Nat) (v : Value) (l : List S82) (key value : ByteArray) (w : World) (h : StoreIs base g v l w) (hl : l.length ≤ 1000000000) (hb : base ≤ w.heap.size) (hh : hasK l key = true) :
  Calls Tryz.prog 84 #[.pointer (some ⟨g, 0, none⟩), .string key, .string value] w (StPost base g v (setK l key value) (.bool false) w) := by
 obtain ⟨hp, hk⟩ := hasK_lt hh
 obtain ⟨h0, h1, h2, h3⟩ := id h
 rcases h3.2 with ⟨rfl, hn0⟩ | ⟨gr, cap, cur, rfl, hbr, hg, hn, hm, hs, hx⟩
 ·omega
 have hgr : g ≠ gr := blk_ne h2 hg (by decide)
 have hset : setK l key value = l.set (posK l key) ⟨key, value⟩ := by unfold setK; rw [hh, if_pos rfl]
 have hsort := sortK_set h1 key value
 rw [hset] at hsort ⊢
 go_enter Tryz.func84, Tryz.ntmps84
 go_wp2_with fail
 refine (st_at base g l key _ h.at_ hl).mono ?_
 rintro e w2 ⟨rfl, hb2⟩
 rw [hh]
 have g2 := blk_below h2 hb2
 have r2 := blk_below hg hb2
 have hp0 : (0 : Int) ≤ (posK l key : Int) := by omega
 have hpl : (posK l key : Int) < (l.length : Int) := by omega
 have hcs : cap * 2 ≤ cur.size := by omega
 have g3 := blk_alloc g2 (.cells #[.string key, .string value] 82)
 have r3 := blk_alloc r2 (.cells #[.string key, .string value] 82)
 have n3 := my_alloc_new w2 (.cells #[.string key, .string value] 82)
 have y0 : (w2.alloc (.cells #[.string key, .string value] 82)).cell? ⟨g, 0, none⟩ = some (.slice (some ⟨gr, 0, none⟩) l.length cap) := (blk_cell g3 0).trans rfl
 have y1 : (w2.alloc (.cells #[.string key, .string value] 82)).cell? ⟨w2.heap.size, 0, none⟩ = some (.string key) := (blk_cell n3 0).trans rfl
 have y2 : (w2.alloc (.cells #[.string key, .string value] 82)).cell? ⟨w2.heap.size, 1, none⟩ = some (.string value) := (blk_cell n3 1).trans rfl
 obtain ⟨o0, z0⟩ : ∃ o0, (w2.alloc (.cells #[.string key, .string value] 82)).cell? ⟨gr, posK l key * 2, none⟩ = some o0 := ⟨_, (blk_cell r3 _).trans (Array.getElem?_eq_getElem (by omega))⟩
 obtain ⟨o1, z1⟩ : ∃ o1, (w2.alloc (.cells #[.string key, .string value] 82)).cell? ⟨gr, posK l key * 2 + 1, none⟩ = some o1 := ⟨_, (blk_cell r3 _).trans (Array.getElem?_eq_getElem (by omega))⟩
 have u0 := blk_frozen r3 (posK l key * 2)
 have u1 := blk_frozen r3 (posK l key * 2 + 1)
 have hfin : ∀ n, StPost base g (.slice (some ⟨gr, 0, none⟩) l.length cap) (l.set (posK l key) ⟨key, value⟩) (.bool false) w (.returned (.bool false)) ((((w2.alloc (.cells #[.string key, .string value] 82)).drewN n).setCell ⟨gr, posK l key * 2, none⟩ (.string key)).setCell ⟨gr, posK l key * 2 + 1, none⟩ (.string value)) := by
  intro n
  have s2 : Below w2.heap.size w2 ((w2.alloc (.cells #[.string key, .string value] 82)).drewN n) := pw_below_drewN ((Below.refl _ _).alloc (Nat.le_refl _) _) n
  generalize ((w2.alloc (.cells #[.string key, .string value] 82)).drewN n) = w3 at s2 ⊢
  have g4 := blk_below g2 s2
  have r4 := blk_below r2 s2
  have e1 := setCell_eq_setRow w3 gr (posK l key * 2) cur _ _ (.string key) r4
  have r5 := setRow_heap w3 gr cur (cur.setIfInBounds (posK l key * 2) (.string key)) _ _ r4
  have e2 := setCell_eq_setRow (w3.setRow gr (cur.setIfInBounds (posK l key * 2) (.string key))) gr (posK l key * 2 + 1) _ _ _ (.string value) r5
  have r6 := setRow_heap _ gr _ ((cur.setIfInBounds (posK l key * 2) (.string key)).setIfInBounds (posK l key * 2 + 1) (.string value)) _ _ r5
  refine ⟨rfl, _, ⟨h0, hsort, ?_, ?_⟩, ?_, .inl rfl⟩
  ·exact blk_far (blk_far g4 (p := ⟨gr, posK l key * 2, none⟩) hgr _) (p := ⟨gr, posK l key * 2 + 1, none⟩) hgr _
  ·rw [List.length_set, e1, e2]
   refine row_of hbr r6 hn hm (by rw [Array.size_setIfInBounds, Array.size_setIfInBounds, hs]) ?_
   rw [Array.toList_setIfInBounds, Array.toList_setIfInBounds, List.take_set, List.take_set, hx, encP_set l _ ⟨key, value⟩ hp]
  ·exact ((StoreW.of_below hb2).trans (StoreW.of_below s2) (.inl rfl)).trans (StoreW.of_grown ((gb_set w3 gr _ _).trans (gb_set _ gr _ _))) (.inl rfl)
 replace hfin := As_ hfin
 clear hx hs hcs hg h2 h3 h hsort g2 r2 g3 r3 n3 hset
 go_upto_region 6 with (fail)
 go_region
 go_wp2
 go_ret
 exact hfin.out 1
theorem own_below {w w' : World} {base : Nat} {e : TypeId} {size n : Nat} {v : Value} {xs : List Value} (h : w.ownsRow base e size v n xs) (hb : Below w.heap.size w w') : w'.ownsRow base e size v n xs := h.kept (grown_of_below hb none) (by cases v.ownBlock <;> simp)
theorem st_set_new (base g : Nat) (v : Value) (l : List S82) (key value : ByteArray) (w : World) (h : StoreIs base g v l w) (hl : l.length ≤ 1000000000) (hb : base ≤ w.heap.size) (hh : hasK l key = false) :
  Calls Tryz.prog 84 #[.pointer (some ⟨g, 0, none⟩), .string key, .string value] w (StPost base g v (setK l key value) (.bool true) w) := by
 obtain ⟨h0, h1, h2, h3⟩ := id h
 have hpl := posK_le l key
 have hset : setK l key value = l.take (posK l key) ++ ⟨key, value⟩ :: l.drop (posK l key) := by unfold setK; rw [hh, if_neg (by simp)]
 have hsort := sortK_set h1 key value
 rw [hset] at hsort ⊢
 obtain ⟨A, c, rfl, hnc, hc63⟩ := row_slice h3
 go_enter Tryz.func84, Tryz.ntmps84
 go_wp2_with fail
 refine (st_at base g l key _ h.at_ hl).mono ?_
 rintro e w2 ⟨rfl, hb2⟩
 rw [hh]
 have g3 := blk_alloc (blk_below h2 hb2) (.cells #[.string key, .string value] 82)
 have n3 := my_alloc_new w2 (.cells #[.string key, .string value] 82)
 have o3 : (w2.alloc (.cells #[.string key, .string value] 82)).ownsRow base 82 2 (.slice A l.length c) l.length (encP l) := (own_below h3 hb2).alloc _
 have hsz2 := hb2.size
 have W2 := As_ ((StoreW.of_below hb2 : StoreW g (.slice A l.length c) w w2).trans (StoreW.of_below ((Below.refl w2.heap.size w2).alloc (Nat.le_refl _) (.cells #[.string key, .string value] 82))) (.inl rfl))
 have hA : ∀ k, (Value.slice A l.length c).ownBlock = some k → k < w2.heap.size := fun k hk => Nat.lt_of_lt_of_le (h3.lt k hk).2 hsz2
 go_upto_region 8 with (fail)
 skip
 have y0 := (blk_cell g3 0).trans (rfl : _ = some (Value.slice A l.length c))
 have y1 := (blk_cell n3 0).trans (rfl : _ = some (Value.string key))
 have y2 := (blk_cell n3 1).trans (rfl : _ = some (Value.string value))
 have hvb : w2.heap.size < (w2.alloc (.cells #[.string key, .string value] 82)).heap.size := by rw [my_alloc_size]; omega
 have hgs := blk_lt g3
 refine start_ (n := 12) (S := fun w' => w'.cell? ⟨g, 0, none⟩ = some (.slice A l.length c) ∧ w'.cell? ⟨w2.heap.size, 0, none⟩ = some (.string key) ∧ w'.cell? ⟨w2.heap.size, 1, none⟩ = some (.string value)) (ds := [11]) #[false, false, false, false, false, false, false, false, false, false, false, false] (by kernel_rfl) rfl rfl ⟨y0, y1, y2⟩ (fun hHeld => ?_)
 have g4 : (w2.alloc (.cells #[.string key, .string value] 82)).drew.heap[g]? = _ := g3
 have n4 : (w2.alloc (.cells #[.string key, .string value] 82)).drew.heap[w2.heap.size]? = _ := n3
 have o4 : (w2.alloc (.cells #[.string key, .string value] 82)).drew.ownsRow base 82 2 (.slice A l.length c) l.length (encP l) := own_below o3 (below_drew (Below.refl _ _))
 have W4 := As_ (W2.out.trans (StoreW.of_below (below_drew (Below.refl _ _)) : StoreW g (.slice A l.length c) _ (w2.alloc (.cells #[.string key, .string value] 82)).drew) (.inl rfl))
 clear g3 n3 o3 W2 y0 y1 y2 h2 h3 h
 have hvb4 : w2.heap.size < (w2.alloc (.cells #[.string key, .string value] 82)).drew.heap.size := hvb
 have hgs4 : g < (w2.alloc (.cells #[.string key, .string value] 82)).drew.heap.size := hgs
 have hsw4 : w.heap.size ≤ (w2.alloc (.cells #[.string key, .string value] 82)).drew.heap.size := by omega
 clear hvb hgs
 generalize (w2.alloc (.cells #[.string key, .string value] 82)).drew = w4 at hHeld g4 n4 o4 W4 hvb4 hgs4 hsw4 ⊢
 have G4 := As_ g4
 have N4 := As_ n4
 have O4 := As_ o4
 clear g4 n4 o4
 refine pure_ (i := 0) (N := some 29) #[true, false, false, false, false, false, false, false, false, false, false, false] rfl rfl (by kernel_rfl) (fun _ _ _ h => h) (Or.inl ⟨by rfl, ap2_⟩) ap35_ ?_
 refine pure_ (i := 1) (N := some 30) #[true, true, false, false, false, false, false, false, false, false, false, false] rfl rfl (by kernel_rfl) (fun _ _ _ h => h) (Or.inl ⟨by rfl, ap2_⟩) ap35_ ?_
 refine pure_ (i := 2) (N := some 31) #[true, true, true, false, false, false, false, false, false, false, false, false] rfl rfl (by kernel_rfl) (fun _ _ _ h => h) (Or.inl ⟨by rfl, ap2_⟩) ap35_ ?_
 refine pure_ (i := 3) (N := some 32) #[true, true, true, true, false, false, false, false, false, false, false, false] rfl rfl (by kernel_rfl) (fun _ _ _ h => h) (Or.inl ⟨by rfl, ap2_⟩) ap35_ ?_
 refine take_ (i := 4) (N := some 33) #[true, true, true, true, true, false, false, false, false, false, false, false] rfl rfl (by kernel_rfl) (fun _ _ _ h => h) (Or.inl ⟨by rfl, (by rintro w' ⟨s0, s1, s2⟩; go_simp; with_reducible rfl)⟩) hHeld ap35_ ?_
 refine pure_ (i := 5) (N := some 34) #[true, true, true, true, true, true, false, false, false, false, false, false] rfl rfl (by kernel_rfl) (fun _ _ _ h => h) (Or.inl ⟨by rfl, ap2_⟩) ap35_ ?_
 refine take_ (i := 6) (N := some 35) #[true, true, true, true, true, true, true, false, false, false, false, false] rfl rfl (by kernel_rfl) (fun _ _ _ h => h) (Or.inl ⟨by rfl, (by rintro w' ⟨s0, s1, s2⟩; go_simp; with_reducible rfl)⟩) hHeld ap35_ ?_
 refine one_ (i := 7) (N := some 36) #[true, true, true, true, true, true, true, true, false, false, false, false] rfl rfl (by kernel_rfl) (by decide) (fun K hK => ?_)
 refine value_ (w1 := ?_) (v := ?_) (by rfl) rfl ?_ ?_
 rotate_left 2
 ·go_simp
  constructor
  ·rfl
  ·rfl
 refine hK.out _ _ ⟨(blk_cell (blk_alloc G4.out _) 0).trans rfl, (blk_cell (blk_alloc N4.out _) 0).trans rfl, (blk_cell (blk_alloc N4.out _) 1).trans rfl⟩ (fun hHeld => ?_)
 clear hK K
 refine norm_ (a' := ?_) ?_ ?_
 rotate_left
 ·show Act.put _ (some 36) _ = _
  simp only [Act.put, List.setIfInBounds_toArray, List.set_cons_zero, List.set_cons_succ, i64_w, i32_w]
  rfl
 refine one_ (i := 8) (N := some 37) #[true, true, true, true, true, true, true, true, true, false, false, false] rfl rfl (by kernel_rfl) (by decide) (fun K hK => ?_)
 refine goes_ Tryz.func103 (by kernel_rfl) rfl #[.slice A l.length c, .int .i64 (posK l key : Int), .slice (some ⟨w4.heap.size, 0, none⟩) 1 1] (by rfl) rfl rfl ap16_ ?_
 refine (ins_calls base (.slice A l.length c) l (posK l key) w4.heap.size ⟨key, value⟩ _ hl hpl (own_alloc O4.out _) (by rw [my_alloc_size]; omega) (my_alloc_new w4 _) (fun e => by have := hA _ e.symm; omega)).mono ?_
 rintro e w5 ⟨v5, rfl, o5, gr5, at5⟩
 refine ⟨_, rfl, ?_⟩
 have ng : some g ≠ (Value.slice A l.length c).ownBlock := own_ne O4.out G4.out (by decide)
 have nb : some w2.heap.size ≠ (Value.slice A l.length c).ownBlock := fun e => by have := hA _ e.symm; omega
 have g5 := blk_grown (blk_alloc G4.out _) gr5 ng
 have n5 := blk_grown (blk_alloc N4.out _) gr5 nb
 obtain ⟨A5, c5, e5, _, _⟩ := row_slice o5
 subst e5
 have W5 := As_ ((W4.out.trans (StoreW.of_below ((Below.refl w4.heap.size w4).alloc (Nat.le_refl _) (.cells #[.string key, .string value] 82))) (.inl rfl)).trans (StoreW.of_grown gr5) (.inl rfl))
 have AT5 := As_ (show (Value.slice A5 _ c5).ownBlock = (Value.slice A l.length c).ownBlock ∨ ∃ b, (Value.slice A5 _ c5).ownBlock = some b ∧ w.heap.size ≤ b from at5.imp_right (fun ⟨b, h1, h2⟩ => ⟨b, h1, by rw [my_alloc_size] at h2; omega⟩))
 have G5 := As_ g5
 have O5 := As_ o5
 clear G4 N4 O4 W4 gr5 at5 hHeld o5
 refine hK.out _ _ ⟨(blk_cell g5 0).trans rfl, (blk_cell n5 0).trans rfl, (blk_cell n5 1).trans rfl⟩ (fun hHeld => ?_)
 clear g5 n5
 clear hK K
 refine norm_ (a' := ?_) ?_ ?_
 rotate_left
 ·show Act.put _ (some 37) _ = _
  simp only [Act.put, List.setIfInBounds_toArray, List.set_cons_zero, List.set_cons_succ, i64_w, i32_w]
  rfl
 refine pure_ (i := 9) (N := some 38) #[true, true, true, true, true, true, true, true, true, true, false, false] rfl rfl (by kernel_rfl) (fun _ _ _ h => h) (Or.inl ⟨by rfl, ap2_⟩) ap35_ ?_
 refine pure_ (i := 10) (N := some 39) #[true, true, true, true, true, true, true, true, true, true, true, false] rfl rfl (by kernel_rfl) (fun _ _ _ h => h) (Or.inl ⟨by rfl, ap2_⟩) ap35_ ?_
 refine last_ (i := 11) (N := none) #[true, true, true, true, true, true, true, true, true, true, true, true] rfl rfl (by kernel_rfl) (by decide) (fun K hK => ?_)
 have u0 : w5.cell? ⟨g, 0, none⟩ = some (.slice A l.length c) := hHeld.1
 have z0 := blk_frozen G5.out 0
 refine skip_ (w1 := w5.setCell ⟨g, 0, none⟩ (.slice A5 (l.take (posK l key) ++ ⟨key, value⟩ :: l.drop (posK l key)).length c5)) (by rfl) rfl ?_ ?_
 ·go_simp
  try rfl
 refine hK.out _ _ ?_
 refine done_ (by kernel_rfl) ?_
 have g6 := blk_put G5.out 0 (.slice A5 (l.take (posK l key) ++ ⟨key, value⟩ :: l.drop (posK l key)).length c5) rfl
 have hfin : StPost base g (.slice A l.length c) (l.take (posK l key) ++ ⟨key, value⟩ :: l.drop (posK l key)) (.bool true) w (.returned (.bool true)) (w5.setCell ⟨g, 0, none⟩ (.slice A5 (l.take (posK l key) ++ ⟨key, value⟩ :: l.drop (posK l key)).length c5)) :=
  ⟨rfl, _, ⟨h0, hsort, g6, own_setCell O5.out (p := ⟨g, 0, none⟩) (own_ne O5.out G5.out (by decide)) _⟩, W5.out.trans (StoreW.set g _ w5 0 _) AT5.out, AT5.out⟩
 replace hfin := As_ hfin
 clear g6 hHeld W5 AT5 G5 O5 hset hsort
 try go_wp2
 go_ret
 exact hfin.out
theorem take_splice {α : Type} (L : List α) (o : Nat) (c : List α) (h : o ≤ L.length) : (splice L o c).take o = L.take o := by
 unfold splice
 rw [List.take_append_of_le_length (by rw [List.length_take]; omega), List.take_take, Nat.min_self]
theorem take_splice2 {α : Type} (L : List α) (o : Nat) (c : List α) (h : o ≤ L.length) : (splice L o c).take (o + c.length) = L.take o ++ c := by
 unfold splice
 have h1 : (L.take o).length = o := by rw [List.length_take]; omega
 rw [← List.append_assoc, List.take_append_of_le_length (by rw [List.length_append, h1]; omega), List.take_of_length_le (by rw [List.length_append, h1]; omega)]
theorem del_calls (base : Nat) (v : Value) (l : List S82) (i : Nat) (w : World) (hl : l.length ≤ 1000000000) (hi : i < l.length) (ho : w.ownsRow base 82 2 v l.length (encP l)) :
  Calls Tryz.prog 85 #[v, .int .i64 i, .int .i64 ((i : Int) + 1)] w (InsPost base v (l.take i ++ l.drop (i + 1)) w) := by
 rcases ho.2 with ⟨rfl, h0⟩ | ⟨g, cap, cur, rfl, hb, hg, hn, hm, hs, hx⟩
 ·omega
 obtain ⟨i0, hi0, hz⟩ := Option.map_eq_some_iff.1 info82
 simp only [Prod.mk.injEq] at hz
 obtain ⟨hz0, hzs, hzb⟩ := hz
 have hc63 : cap ≤ 9223372036854775807 := by unfold maxLen at hm; omega
 obtain ⟨hsp1, hsp2⟩ := encP_split l i (by omega)
 obtain ⟨_, hsp3⟩ := encP_split l (i + 1) (by omega)
 have hE3 : (encP (l.drop (i + 1))).length = (l.length - (i + 1)) * 2 := by rw [encP_len, List.length_drop]
 have hcL : cur.toList.length = cap * 2 := hs
 have hcur : cur.toList = encP l ++ cur.toList.drop (l.length * 2) := by rw [← hx, List.take_append_drop]
 have hcur1 : cur.toList.take (i * 2) = encP (l.take i) := by
  rw [← hsp1, ← hx, List.take_take, Nat.min_eq_left (by omega)]
 have hcells : ∀ j u, (encP (l.drop (i + 1)))[j]? = some u → cur.toList[(i + 1) * 2 + j]? = some u := fun j u hj => by
  rw [← hsp3, List.getElem?_drop] at hj
  rw [hcur, List.getElem?_append_left (List.getElem?_eq_some_iff.1 hj).1]
  exact hj
 have hgd : w.drew.heap[g]? = some (.cells cur 82 (0, 0)) := hg
 obtain ⟨C1, hC1⟩ : ∃ C1 : Array Value, C1 = (splice cur.toList (i * 2) (encP (l.drop (i + 1)))).toArray := ⟨_, rfl⟩
 have hC1s : C1.size = cap * 2 := by rw [hC1, List.size_toArray, splice_len _ _ _ (by rw [hcL, hE3]; omega), hcL]
 have hC1L : C1.toList.length = cap * 2 := hC1s
 obtain ⟨A2, hA2, hsrc⟩ : ∃ A2 : Addr, (if cap = i + 1 then some (⟨g, 0, none⟩ : Addr) else some ⟨g, (i + 1) * 2, none⟩) = some A2 ∧ ∀ j u, (encP (l.drop (i + 1)))[j]? = some u → w.drew.cell? (A2.add j) = some u := by
  by_cases hci : cap = i + 1
  ·refine ⟨⟨g, 0, none⟩, if_pos hci, fun j u hj => ?_⟩
   have := (List.getElem?_eq_some_iff.1 hj).1
   rw [hE3] at this
   omega
  ·exact ⟨⟨g, (i + 1) * 2, none⟩, if_neg hci, src_cells hgd _ _ hcells⟩
 have hap : ∀ ty cc, (Builtin.append_ #[35, 35] ty #[.slice (some ⟨g, 0, none⟩) i cap, .slice (some A2) (l.length - (i + 1)) cc]).run Tryz.prog w.drew = .ok (.slice (some ⟨g, 0, none⟩) (l.length - 1) cap) (w.drew.setRow g C1) := fun ty cc => by
  have hsrc2 : Src Tryz.prog i0.size 35 (.slice (some A2) (l.length - (i + 1)) cc) (l.length - (i + 1)) (encP (l.drop (i + 1))) w.drew := by
   rw [hzs]
   exact Src.ofSlice w.drew Tryz.underlying35 A2 (l.length - (i + 1)) cc _ hE3 hsrc (encP_one _)
  have h := run_append_k (P := Tryz.prog) w.drew 35 35 ty 82 i0 Tryz.underlying35 hi0 g i cap cur 82 hgd _ _ _ hsrc2 (by omega) (by rw [hzs, hE3, hs]; omega)
  rw [hzs, ← hC1, show i + (l.length - (i + 1)) = l.length - 1 by omega] at h
  exact h
 have hW1 := setRow_heap _ g cur C1 _ _ hgd
 obtain ⟨C2, hC2⟩ : ∃ C2 : Array Value, C2 = (splice C1.toList ((l.length - 1) * 2) (Builtin.zeroCells (Value.agg #[.string ⟨#[]⟩, .string ⟨#[]⟩]).cells 1).toList).toArray := ⟨_, rfl⟩
 have hZ : (Builtin.zeroCells (Value.agg #[.string ⟨#[]⟩, .string ⟨#[]⟩]).cells 1).toList.length = 2 := by rw [Array.length_toList, zeroCells_len]; rfl
 have hC2s : C2.size = cap * 2 := by rw [hC2, List.size_toArray, splice_len _ _ _ (by rw [hC1L, hZ]; omega), hC1L]
 have hcl : ∀ ty cc, (Builtin.clear_ #[35] ty #[.slice (some ⟨g, (l.length - 1) * 2, none⟩) (l.length - (l.length - 1)) cc]).run Tryz.prog (w.drew.setRow g C1) = .ok (.tuple #[]) ((w.drew.setRow g C1).setRow g C2) := fun ty cc => by
  rw [show l.length - (l.length - 1) = 1 by omega, hC2]
  exact run_clear_k (P := Tryz.prog) (w.drew.setRow g C1) 35 82 ty (.agg #[.string ⟨#[]⟩, .string ⟨#[]⟩]) Tryz.underlying35 (fun w' => by kernel_rfl) (by intro u hu; simp [Value.cells] at hu; subst hu; rfl) g ((l.length - 1) * 2) 1 cc (by omega) C1 82 hW1 (by rw [hC1s]; show _ + 1 * 2 ≤ _; omega)
 have hfin : InsPost base (.slice (some ⟨g, 0, none⟩) l.length cap) (l.take i ++ l.drop (i + 1)) w (.returned (.slice (some ⟨g, 0, none⟩) (l.length - 1) cap)) ((w.drew.setRow g C1).setRow g C2) := by
  have hlen : (l.take i ++ l.drop (i + 1)).length = l.length - 1 := by rw [List.length_append, List.length_take, List.length_drop]; omega
  refine ⟨_, rfl, ?_, ((gb_below (below_drew (Below.refl _ _))).trans (gb_setRow w.drew g C1)).trans (gb_setRow _ g C2), .inl rfl⟩
  rw [hlen]
  refine row_of hb (setRow_heap _ g C1 C2 _ _ hW1) (by omega) hm hC2s ?_
  have e := take_splice2 cur.toList (i * 2) (encP (l.drop (i + 1))) (by rw [hcL]; omega)
  rw [hE3, hcur1, show i * 2 + (l.length - (i + 1)) * 2 = (l.length - 1) * 2 by omega] at e
  rw [hC2, List.toList_toArray, take_splice _ _ _ (by rw [hC1L]; omega), hC1, List.toList_toArray, e, encP_append]
 replace hfin := As_ hfin
 have hw2 : IntKind.i64.wrap ((i : Int) + 1) = ((i + 1 : Nat) : Int) := by rw [IntKind.wrap_i64]; omega
 have hb1 : (0 : Int) ≤ (i : Int) + 1 := by omega
 have hin : i ≤ l.length := by omega
 have hin1 : i + 1 ≤ l.length := by omega
 have hin2 : (i : Int) + 1 ≤ (l.length : Int) := by omega
 have hin3 : (i : Int) ≤ (i : Int) + 1 := by omega
 have hne : ¬ ((i : Int) = (i : Int) + 1) := by omega
 have hneb : ((i : Int) == (i : Int) + 1) = false := beq_eq_false_iff_ne.2 hne
 have htn : ((i : Int) + 1).toNat = i + 1 := by omega
 have hic : i ≤ cap := by omega
 have hic1 : l.length - 1 ≤ l.length := by omega
 have hic2 : ¬ (cap = l.length - 1) := by omega
 clear hx hg hgd hW1 hC1 hC2 hC1s hC1L hC2s hE3 hcL hsp1 hsp2 hsp3 hs hm hcur hcur1 hcells hsrc hZ ho hz0 hzb hzs hi0
 go_enter Tryz.func85, Tryz.ntmps85
 go_wp2_with fail
 go_region_law (refine step_append_k rfl _ _ 35 35 rfl (.slice (some ⟨g, 0, none⟩) i cap) (.slice (some A2) (l.length - (i + 1)) (cap - (i + 1))) (by simp [Act.eval, Act.put]) (by simp [Act.eval, Act.put]) (hap _ _) ?_)
 go_wp2
 go_ret
 exact hfin.out
theorem st_del_no (base g : Nat) (v : Value) (l : List S82) (key : ByteArray) (w : World) (h : StoreIs base g v l w) (hl : l.length ≤ 1000000000) (hh : hasK l key = false) :
  Calls Tryz.prog 60 #[.pointer (some ⟨g, 0, none⟩), .string key] w (StPost base g v (delK l key) (.bool false) w) := by
 have hdel : delK l key = l := by unfold delK; rw [hh, if_neg (by simp)]
 rw [hdel]
 go_enter Tryz.func60, Tryz.ntmps60
 go_wp2_with fail
 refine (st_at base g l key _ h.at_ hl).mono ?_
 rintro e w2 ⟨rfl, hb2⟩
 rw [hh]
 have hfin : StPost base g v l (.bool false) w (.returned (.bool false)) w2 := ⟨rfl, v, ⟨h.1, h.2.1, blk_below h.2.2.1 hb2, own_below h.2.2.2 hb2⟩, StoreW.of_below hb2, .inl rfl⟩
 replace hfin := As_ hfin
 clear h hb2 hdel
 go_wp2
 go_ret
 exact hfin.out
theorem st_del_has (base g : Nat) (v : Value) (l : List S82) (key : ByteArray) (w : World) (h : StoreIs base g v l w) (hl : l.length ≤ 1000000000) (hh : hasK l key = true) :
  Calls Tryz.prog 60 #[.pointer (some ⟨g, 0, none⟩), .string key] w (StPost base g v (delK l key) (.bool true) w) := by
 obtain ⟨hp, _⟩ := hasK_lt hh
 obtain ⟨h0, h1, h2, h3⟩ := id h
 have hdel : delK l key = l.take (posK l key) ++ l.drop (posK l key + 1) := by unfold delK; rw [hh, if_pos rfl]
 have hsort := sortK_del h1 key
 rw [hdel] at hsort ⊢
 obtain ⟨A, c, rfl, hnc, hc63⟩ := row_slice h3
 go_enter Tryz.func60, Tryz.ntmps60
 go_wp2_with fail
 refine (st_at base g l key _ h.at_ hl).mono ?_
 rintro e w2 ⟨rfl, hb2⟩
 rw [hh]
 have g2 := blk_below h2 hb2
 have o2 := own_below h3 hb2
 have y0 : w2.cell? ⟨g, 0, none⟩ = some (.slice A l.length c) := (blk_cell g2 0).trans rfl
 have W2 := As_ (StoreW.of_below hb2 : StoreW g (.slice A l.length c) w w2)
 have hsz := hb2.size
 have G2 := As_ g2
 have O2 := As_ o2
 clear h h2 h3 hb2 hdel g2 o2
 go_wp2_with fail
 refine (del_calls base (.slice A l.length c) l (posK l key) _ hl hp O2.out).mono ?_
 rintro e w3 ⟨v3, rfl, o3, gr3, at3⟩
 obtain ⟨A3, c3, e3, _, _⟩ := row_slice o3
 subst e3
 have ng : some g ≠ (Value.slice A l.length c).ownBlock := own_ne O2.out G2.out (by decide)
 have g3 := blk_grown G2.out gr3 ng
 have y3 : w3.cell? ⟨g, 0, none⟩ = some (.slice A l.length c) := (blk_cell g3 0).trans rfl
 have z3 := blk_frozen g3 0
 have at4 : (Value.slice A3 (l.take (posK l key) ++ l.drop (posK l key + 1)).length c3).ownBlock = (Value.slice A l.length c).ownBlock ∨ ∃ b, (Value.slice A3 (l.take (posK l key) ++ l.drop (posK l key + 1)).length c3).ownBlock = some b ∧ w.heap.size ≤ b := at3.imp_right (fun ⟨b, h1, h2⟩ => ⟨b, h1, by omega⟩)
 have hfin : StPost base g (.slice A l.length c) (l.take (posK l key) ++ l.drop (posK l key + 1)) (.bool true) w (.returned (.bool true)) (w3.setCell ⟨g, 0, none⟩ (.slice A3 (l.take (posK l key) ++ l.drop (posK l key + 1)).length c3)) :=
  ⟨rfl, _, ⟨h0, hsort, blk_put g3 0 _ rfl, own_setCell o3 (p := ⟨g, 0, none⟩) (own_ne o3 g3 (by decide)) _⟩, (W2.out.trans (StoreW.of_grown gr3) (.inl rfl)).trans (StoreW.set g _ w3 0 _) at4, at4⟩
 replace hfin := As_ hfin
 clear g3 o3 gr3 at3 at4 hsort W2 G2 O2 y0 ng
 go_wp2
 go_ret
 have h2 := hfin.out
 simp only [List.length_append, List.length_take, List.length_drop] at h2
 exact h2
theorem st_set (base g : Nat) (v : Value) (l : List S82) (key value : ByteArray) (w : World) (h : StoreIs base g v l w) (hl : l.length ≤ 1000000000) (hb : base ≤ w.heap.size) :
  Calls Tryz.prog 84 #[.pointer (some ⟨g, 0, none⟩), .string key, .string value] w (StPost base g v (setK l key value) (.bool (!hasK l key)) w) := by
 cases hh : hasK l key with
 | true => exact st_set_has base g v l key value w h hl hb hh
 | false => exact st_set_new base g v l key value w h hl hb hh
theorem st_del (base g : Nat) (v : Value) (l : List S82) (key : ByteArray) (w : World) (h : StoreIs base g v l w) (hl : l.length ≤ 1000000000) :
  Calls Tryz.prog 60 #[.pointer (some ⟨g, 0, none⟩), .string key] w (StPost base g v (delK l key) (.bool (hasK l key)) w) := by
 cases hh : hasK l key with
 | true => exact st_del_has base g v l key w h hl hh
 | false => exact st_del_no base g v l key w h hl hh
theorem clone_calls (A : Option Addr) (c : Nat) (l : List S82) (w : World) (hl : l.length ≤ 1000000000) (hn : A = none → l = [])
  (hc : ∀ a, A = some a → ∀ j u, (encP l)[j]? = some u → w.cell? (a.add j) = some u) :
  Calls Tryz.prog 86 #[.slice A l.length c] w fun e w' => ∃ v', e = .returned v' ∧ w'.ownsRow w.heap.size 82 2 v' l.length (encP l) ∧ Below w.heap.size w w' := by
 have e0 : ∀ (n c : Nat) w, (binOp .eql 35 (.slice A n c) (.slice none 0 0)).run Tryz.prog w = .ok (.bool A.isNone) w := fun n c w => Lib.run_eql_slice_nil w 35 82 A n c 0 0 Tryz.underlying35
 cases A with
 | none =>
  obtain rfl := hn rfl
  have e0 := fun w => e0 0 c w
  go_enter Tryz.func86, Tryz.ntmps86
  go_wp2
  go_ret
  exact ⟨_, rfl, World.ownsRow_nil _ _ _ _, Below.refl _ _⟩
 | some a =>
  have e0 := fun w => e0 l.length c w
  obtain ⟨i0, hi0, hz⟩ := Option.map_eq_some_iff.1 info82
  simp only [Prod.mk.injEq] at hz
  obtain ⟨hz0, hzs, hzb⟩ := hz
  have hown : (w.alloc (.cells #[] 82)).ownsRow w.heap.size 82 2 (.slice (some ⟨w.heap.size, 0, none⟩) 0 0) 0 [] := World.ownsRow_made w #[] 0 (Nat.le_refl _) (by unfold maxLen; omega) rfl
  obtain ⟨v1, w1, hrun, h1, h2, _, h3⟩ := run_append_own_at (P := Tryz.prog) (w := w.alloc (.cells #[] 82)) w.heap.size 35 35 82 i0 _ 2 32 Tryz.underlying35 hi0 hz0 hzs hzb rfl (by decide) _ 0 [] hown a l.length c (encP l) (encP_len l)
   (fun j u hj => by
    have h := hc a rfl j u hj
    exact Lib.cell?_alloc_some _ h) (encP_one l) (by unfold maxLen; omega) (by omega) (by rw [my_alloc_size]; omega)
  rw [Nat.zero_add, List.nil_append] at h1
  have hfin : ∃ v', Ending.returned v1 = .returned v' ∧ w1.ownsRow w.heap.size 82 2 v' l.length (encP l) ∧ Below w.heap.size w w1 := ⟨v1, rfl, h1, ((Below.refl _ w).alloc (Nat.le_refl _) _).grown h2 (by rw [my_alloc_size]; omega) (fun k hk => by have hk : w.heap.size = k := Option.some.inj hk; omega)⟩
  replace hfin := As_ hfin
  obtain ⟨A1, c1, rfl, _, _⟩ := row_slice h1
  clear h1 h2 h3 hown hc hz0 hzs hzb hi0
  go_enter Tryz.func86, Tryz.ntmps86
  go_wp2_with (at_builtin; refine Lib.wpList_append_run _ rfl _ _ _ _ rfl _ _ rfl rfl _ _ hrun ?_)
  go_ret
  exact hfin.out
def stringslite_HasPrefix.f (a0 : ByteArray) (a1 : ByteArray) : Option (Bool) := if (a0.size : Int) ≥ (a1.size : Int) then (if 0 ≤ (a1.size : Int) then (if (a1.size : Int) ≤ (a0.size : Int) then (some ((a0.extract 0 ((a1.size : Int) : Int).toNat).toList == a1.toList)) else (none)) else (none)) else (some false)
theorem stringslite_HasPrefix.calls (a0 : ByteArray) (a1 : ByteArray) (r : Bool) (w : World) (h : stringslite_HasPrefix.f a0 a1 = some r) :
  Calls Tryz.prog 109 #[.string a0, .string a1] w fun e w' => e = .returned (.bool r) ∧ Drawn0 w w' := by
 have H : (if (a0.size : Int) ≥ (a1.size : Int) then (if 0 ≤ (a1.size : Int) then (if (a1.size : Int) ≤ (a0.size : Int) then (some ((a0.extract 0 ((a1.size : Int) : Int).toNat).toList == a1.toList)) else (none)) else (none)) else (some false)) = some r := h
 clear h
 by_cases c3 : (a0.size : Int) ≥ (a1.size : Int)
 ·rw [if_pos c3] at H
  have c3b0 : decide ((a1.size : Int) ≤ (a0.size : Int)) = true := decide_eq_true c3
  have c3b1 : decide (a1.size ≤ a0.size) = true := decide_eq_true (Int.ofNat_le.mp c3)
  clear c3
  by_cases c4 : 0 ≤ (a1.size : Int)
  ·rw [if_pos c4] at H
   have c4b0 := eq_true c4
   have c4b1 : decide (0 ≤ (a1.size : Int)) = true := decide_eq_true c4
   clear c4
   by_cases c5 : (a1.size : Int) ≤ (a0.size : Int)
   ·rw [if_pos c5] at H
    have c5b0 := eq_true c5
    have c5b1 : decide ((a1.size : Int) ≤ (a0.size : Int)) = true := decide_eq_true c5
    clear c5
    obtain rfl := Option.some.inj H
    go_enter Tryz.func109, Tryz.ntmps109
    go_wp2
    go_ret
    exact ⟨ap5_, ap10_⟩
   ·rw [if_neg c5] at H
    exact absurd H (by simp)
  ·rw [if_neg c4] at H
   exact absurd H (by simp)
 ·rw [if_neg c3] at H
  have c3b0 : decide ((a1.size : Int) ≤ (a0.size : Int)) = false := decide_eq_false c3
  have c3b1 : decide (a1.size ≤ a0.size) = false := decide_eq_false (fun h => c3 (Int.ofNat_le.mpr h))
  clear c3
  obtain rfl := Option.some.inj H
  go_enter Tryz.func109, Tryz.ntmps109
  go_wp2
  go_ret
  exact ⟨ap5_, ap10_⟩
def strings_HasPrefix.f (a0 : ByteArray) (a1 : ByteArray) : Option (Bool) := (stringslite_HasPrefix.f a0 a1).bind fun t120 => (some t120)
theorem strings_HasPrefix.calls (a0 : ByteArray) (a1 : ByteArray) (r : Bool) (w : World) (h : strings_HasPrefix.f a0 a1 = some r) :
  Calls Tryz.prog 97 #[.string a0, .string a1] w fun e w' => e = .returned (.bool r) ∧ Drawn0 w w' := by
 have H : ((stringslite_HasPrefix.f a0 a1).bind fun t120 => (some t120)) = some r := h
 clear h
 replace H := Option.bind_eq_some_iff.mp H
 obtain ⟨t120, A30, H⟩ := H
 try dsimp only at H
 have A3 := As_ A30
 clear A30
 obtain rfl := Option.some.inj H
 go_enter Tryz.func97, Tryz.ntmps97
 go_wp2_with (first | ((with_reducible refine gate_callee (f := 109) rfl ?_); refine gk_ (some 7) Tryz.func109 #[.string a0, .string a1] ?_; (with_reducible refine (stringslite_HasPrefix.calls a0 a1 t120 _ A3.out).mono ?_); rintro e w' ⟨rfl, ⟨nd, rfl⟩⟩; refine ⟨_, rfl, ?_⟩))
 go_ret
 exact ⟨ap5_, ap10_⟩
section
section
attribute [local go_sem] Oper.semAt_some
def aggP (x : S82) : Value := .agg #[.string x.f0, .string x.f1]
def CutP (n₀ : Nat) (W : World) (A : Option Addr) (l : List S82) : Prop :=
 (A = none ∧ l = []) ∨ ∃ b off, A = some ⟨b, off, none⟩ ∧ b < n₀ ∧ ∀ j (hj : j < l.length), W.cell? ⟨b, off + j * 2, none⟩ = some (.string l[j].f0) ∧ W.cell? ⟨b, off + j * 2 + 1, none⟩ = some (.string l[j].f1)
theorem CutP.below {n₀ : Nat} {W W' : World} {A : Option Addr} {l : List S82} (h : CutP n₀ W A l) (hb : Below n₀ W W') : CutP n₀ W' A l := by
 rcases h with h | ⟨b, off, e, hlt, hc⟩
 ·exact .inl h
 ·exact .inr ⟨b, off, e, hlt, fun j hj => ⟨(hb.cell (p := ⟨b, off + j * 2, none⟩) hlt).trans (hc j hj).1, (hb.cell (p := ⟨b, off + j * 2 + 1, none⟩) hlt).trans (hc j hj).2⟩⟩
theorem valsP1_in (F : Fence) (n : Nat) (h7 : F.fn 108) (hro : F.round = none) (hn : 1 ≤ n) (l Bs n₀ b off c : Nat) (zs : List S82) (hz : zs.length ≤ 1000000000) (hb : b < n₀) (J Jx : List S82 → World → Prop) (W : World) (hn0 : n₀ ≤ W.heap.size) (hJ : AbidesFrom W.heap.size J)
  (hY : ∀ pre x W, J pre W → pre.length < zs.length → YieldAt F (n - 1) Tryz.prog l #[aggP x] W fun e W' =>
   (e = .returned (.bool true) ∧ J (pre ++ [x]) W' ∧ Below n₀ W W') ∨ (e = .returned (.bool false) ∧ Jx (pre ++ [x]) W'))
  (hBs : W.cell? ⟨Bs, 0, none⟩ = some (.slice (some ⟨b, off, none⟩) zs.length c)) (hc : ∀ j (hj : j < zs.length), W.cell? ⟨b, off + j * 2, none⟩ = some (.string zs[j].f0) ∧ W.cell? ⟨b, off + j * 2 + 1, none⟩ = some (.string zs[j].f1)) (h0 : J [] W) :
  CallsIn F n Tryz.prog 108 #[.func (.yield l) #[] #[], .pointer (some ⟨Bs, 0, none⟩)] W fun e W' => (∃ v, e = .returned v) ∧
   ((∃ ys, ys = zs ∧ J ys W') ∨ (∃ pre, pre <+: zs ∧ Jx pre W')) := by
 refine callsIn_of_wp Tryz.func108 rfl h7 ?_ hro
 simp only [Tryz.ntmps108, List.size_toArray, List.length_cons, List.length_nil, Nat.reduceAdd, Nat.reduceSub, Array.replicate_succ, Array.replicate_zero, List.push_toArray, List.append_toArray, List.nil_append, List.cons_append]
 gi_wp2
 gi_loopw [7] (fun i wr => ∃ k : Nat, k ≤ zs.length ∧ i = .int .i64 k ∧ J (zs.take k) wr ∧ Below n₀ W wr)
  (fun i _ => zs.length - (intOf i).toNat)
 case atStart => exact ⟨0, Nat.zero_le _, rfl, h0, Below.refl _ _⟩
 case round =>
  obtain ⟨k, hk, rfl, hJs, hnx⟩ := hrel
  by_cases hlt : k < zs.length
  ·have hcx := hc k hlt
   have c0 := (hnx.cell (p := ⟨b, off + k * 2, none⟩) hb).trans hcx.1
   have c1 := (hnx.cell (p := ⟨b, off + k * 2 + 1, none⟩) hb).trans hcx.2
   have n1 := my_alloc_new wr (.cells #[.string zs[k].f0, .string zs[k].f1] 82)
   have c2 : (wr.alloc (.cells #[.string zs[k].f0, .string zs[k].f1] 82)).cell? ⟨wr.heap.size, 0, none⟩ = some (.string zs[k].f0) := (blk_cell n1 0).trans rfl
   have c3 : (wr.alloc (.cells #[.string zs[k].f0, .string zs[k].f1] 82)).cell? ⟨wr.heap.size, 1, none⟩ = some (.string zs[k].f1) := (blk_cell n1 1).trans rfl
   have hJ1 : J (zs.take k) (wr.alloc (.cells #[.string zs[k].f0, .string zs[k].f1] 82)) := hJ _ _ _ none hJs (World.grownBy_alloc wr _ none) (fun r e => by cases e)
   have hn1 : Below n₀ W (wr.alloc (.cells #[.string zs[k].f0, .string zs[k].f1] 82)) := hnx.alloc (Nat.le_trans hn0 hnx.size) _
   obtain ⟨fn, tmps, assign, body, hy, hR⟩ := hY _ zs[k] _ hJ1 (by rw [List.length_take]; omega)
   have ek : zs.take k ++ [zs[k]] = zs.take (k + 1) := by rw [List.take_add_one, List.getElem?_eq_getElem hlt]; rfl
   rw [ek] at hR
   unfold aggP at hy
   gi_wp2
   refine hR.mono ?_
   rintro e W3 (⟨rfl, hJ3, hk3⟩ | ⟨rfl, hJx3⟩)
   ·gi_wp2
    go_roundw
    case rel => exact ⟨k + 1, by omega, by simp, hJ3, hn1.trans hk3⟩
    case measure => simp [intOf]; omega
   ·gi_wp2
    refine bodyPost_ret (results_none rfl _ _ _) rfl ?_
    exact ⟨⟨_, rfl⟩, .inr ⟨_, List.take_prefix _ _, hJx3⟩⟩
  ·obtain rfl : k = zs.length := by omega
   gi_wp2
   go_end0
   exact ⟨⟨_, rfl⟩, .inl ⟨_, by rw [List.take_length], hJs⟩⟩
theorem valsP1_nil_in (F : Fence) (n : Nat) (h7 : F.fn 108) (hro : F.round = none) (l Bs : Nat) (J : List S82 → World → Prop) (W : World) (c : Nat) (hBs : W.cell? ⟨Bs, 0, none⟩ = some (.slice none 0 c)) (h0 : J [] W) :
  CallsIn F n Tryz.prog 108 #[.func (.yield l) #[] #[], .pointer (some ⟨Bs, 0, none⟩)] W fun e W' => (∃ v, e = .returned v) ∧ J [] W' := by
 refine callsIn_of_wp Tryz.func108 rfl h7 ?_ hro
 simp only [Tryz.ntmps108, List.size_toArray, List.length_cons, List.length_nil, Nat.reduceAdd, Nat.reduceSub, Array.replicate_succ, Array.replicate_zero, List.push_toArray, List.append_toArray, List.nil_append, List.cons_append]
 gi_wp2
 gi_loopw [7] (fun i wr => i = .int .i64 0 ∧ J [] wr) (fun _ _ => 0)
 case atStart => exact ⟨rfl, h0⟩
 case round =>
  obtain ⟨rfl, hJs⟩ := hrel
  gi_wp2
  go_end0
  exact ⟨⟨_, rfl⟩, hJs⟩
theorem valsP_in (F : Fence) (n : Nat) (h5 : F.fn 96) (hro : F.round = none) (a : Option Addr) (len cap : Nat) (w : World) :
  CallsIn F n Tryz.prog 96 #[.slice a len cap] w fun e w' => e = .returned (.func (.func 108) #[] #[.pointer (some ⟨w.heap.size, 0, none⟩)]) ∧ w' = w.alloc (.cells #[.slice a len cap] 35) := by
 refine callsIn_of_wp Tryz.func96 rfl h5 ?_ hro
 simp only [Tryz.ntmps96, List.size_toArray, List.length_cons, List.length_nil, Nat.reduceAdd, Nat.reduceSub, Array.replicate_succ, Array.replicate_zero, List.push_toArray, List.append_toArray, List.nil_append, List.cons_append]
 gi_wp2
 go_ret
 exact ⟨rfl, rfl⟩
theorem valsP_stops (F : Fence) (n : Nat) (h7 : F.fn 108) (hro : F.round = none) (hn : 1 ≤ n) (Bs n₀ : Nat) (A : Option Addr) (c : Nat) (zs : List S82) (hz : zs.length ≤ 1000000000) (w : World) (hBs : Bs < w.heap.size) (hn₀ : n₀ ≤ w.heap.size)
  (hc : w.cell? ⟨Bs, 0, none⟩ = some (.slice A zs.length c)) (hI : CutP n₀ w A zs) :
  SeqStopsK F n Tryz.prog 108 #[.pointer (some ⟨Bs, 0, none⟩)] (fun x : S82 => #[aggP x]) (Below n₀) (fun ys => ys = zs) (fun pre => pre <+: zs) zs.length w := fun l J Jx W hW hJ _ hY h0 => by
 have hc' := (hW.cell (p := ⟨Bs, 0, none⟩) hBs).trans hc
 rcases hI.below (hW.mono hn₀) with ⟨rfl, rfl⟩ | ⟨b, off, rfl, hb, hcs⟩
 ·exact (valsP1_nil_in F n h7 hro l Bs J W c hc' h0).mono fun e W' ⟨he, hj⟩ => ⟨he, .inl ⟨_, rfl, hj⟩⟩
 ·exact valsP1_in F n h7 hro hn l Bs n₀ b off c zs hz hb J Jx W (Nat.le_trans hn₀ hW.size) hJ hY hc' hcs h0
end
theorem rowcells {w : World} {base gr c : Nat} {l : List S82} (h : w.ownsRow base 82 2 (.slice (some ⟨gr, 0, none⟩) l.length c) l.length (encP l)) :
  gr < w.heap.size ∧ base ≤ gr ∧ ∀ j (hj : j < l.length), w.cell? ⟨gr, j * 2, none⟩ = some (.string l[j].f0) ∧ w.cell? ⟨gr, j * 2 + 1, none⟩ = some (.string l[j].f1) := by
 rcases h.2 with ⟨e, hx⟩ | ⟨g, cap, cur, e, hb, hg, hn, hm, hs, hx⟩
 ·cases e
 ·injection e with e1 e2 e3
  injection e1 with e1
  injection e1 with e1
  subst e1 e3
  refine ⟨blk_lt hg, hb, fun j hj => ?_⟩
  have hd : ((encP l).drop (j * 2)) = .string l[j].f0 :: .string l[j].f1 :: encP (l.drop (j + 1)) := by
   rw [(encP_split l j (by omega)).2, List.drop_eq_getElem_cons hj]; rfl
  have hget : ∀ i, i < l.length * 2 → w.cell? ⟨gr, i, none⟩ = (encP l)[i]? := by
   intro i hi
   rw [blk_cell hg i, ← hx, List.getElem?_take_of_lt hi, Array.getElem?_toList]
  constructor
  ·rw [hget _ (by omega), ← Nat.add_zero (j * 2), ← List.getElem?_drop, hd]; rfl
  ·rw [hget _ (by omega), ← List.getElem?_drop, hd]; rfl
theorem isPrefixOf_take : ∀ (a b : List UInt8), a.isPrefixOf b = (decide (a.length ≤ b.length) && (b.take a.length == a))
 | [], b => by simp
 | x :: a, [] => by simp
 | x :: a, y :: b => by
  rw [List.isPrefixOf_cons_cons, isPrefixOf_take a b]
  by_cases hxy : x = y
  ·subst hxy; simp
  ·have h2 : (x == y) = false := beq_eq_false_iff_ne.2 hxy
   have h3 : ((y :: b).take (x :: a).length == x :: a) = false := beq_eq_false_iff_ne.2 (fun e => hxy (List.cons.inj e).1.symm)
   rw [h2, h3, Bool.false_and, Bool.and_false]
theorem hasPrefix_f (a b : ByteArray) : strings_HasPrefix.f a b = some (b.toList.isPrefixOf a.toList) := by
 have hla : a.toList.length = a.size := by rw [ByteArray.toList_eq]; rfl
 have hlb : b.toList.length = b.size := by rw [ByteArray.toList_eq]; rfl
 unfold strings_HasPrefix.f stringslite_HasPrefix.f
 rw [isPrefixOf_take, hla, hlb]
 by_cases h : b.size ≤ a.size
 ·rw [if_pos (by omega), if_pos (by omega), if_pos (by omega), decide_eq_true h, Bool.true_and]
  have e : (a.extract 0 ((b.size : Int)).toNat).toList = a.toList.take b.size := by
   rw [ByteArray.toList_eq, ByteArray.toList_eq]
   simp
  rw [Option.bind_some, e]
 ·rw [if_neg (by omega), decide_eq_false h, Bool.false_and, Option.bind_some]
theorem encP_get : ∀ (l : List S82) (j : Nat) (u : Value), (encP l)[j]? = some u → ∃ i, ∃ hi : i < l.length, (j = i * 2 ∧ u = .string l[i].f0) ∨ (j = i * 2 + 1 ∧ u = .string l[i].f1)
 | [], j, u, h => by simp [encP] at h
 | a :: t, 0, u, h => ⟨0, by simp, .inl ⟨rfl, (Option.some.inj h).symm⟩⟩
 | a :: t, 1, u, h => ⟨0, by simp, .inr ⟨rfl, (Option.some.inj h).symm⟩⟩
 | a :: t, j + 2, u, h => by
  obtain ⟨i, hi, hx⟩ := encP_get t j u h
  refine ⟨i + 1, by simpa using hi, ?_⟩
  rcases hx with ⟨e1, e2⟩ | ⟨e1, e2⟩
  ·exact .inl ⟨by omega, e2⟩
  ·exact .inr ⟨by omega, e2⟩
theorem CutP.flat {n₀ : Nat} {W : World} {A : Option Addr} {l m : List S82} (h : CutP n₀ W A l) (hm : m <+: l) :
  (A = none → m = []) ∧ ∀ a, A = some a → ∀ j u, (encP m)[j]? = some u → W.cell? (a.add j) = some u := by
 obtain ⟨r, rfl⟩ := hm
 rcases h with ⟨rfl, e⟩ | ⟨b, off, rfl, _, hc⟩
 ·exact ⟨fun _ => (List.append_eq_nil_iff.1 e).1, fun a ha => (by cases ha)⟩
 ·refine ⟨fun ha => (by cases ha), fun a ha j u hj => ?_⟩
  injection ha with ha
  subst ha
  obtain ⟨i, hi, hx⟩ := encP_get m j u hj
  have hci := hc i (by rw [List.length_append]; omega)
  rw [List.getElem_append_left hi] at hci
  have ha : (⟨b, off, none⟩ : Addr).add j = ⟨b, off + j, none⟩ := by unfold Addr.add; split <;> simp_all
  rw [ha]
  rcases hx with ⟨rfl, rfl⟩ | ⟨rfl, rfl⟩
  ·exact hci.1
  ·exact hci.2
def calmQ (Q : Exit → Act → World → Prop) : Exit → Act → World → Prop
 | .normal, a, w => Q .normal a w
 | _, _, _ => False
theorem wp_calm {P : Program} {c : Code} {Q : Exit → Act → World → Prop} {a : Act} {w : World} (h : c.wp P (calmQ Q) a w) : c.wp P Q a w :=
 wp_mono h (fun e a w h => by cases e <;> first | exact h | exact False.elim h)
theorem calmQ_normal {Q : Exit → Act → World → Prop} {a : Act} {w : World} : calmQ Q .normal a w = Q .normal a w := rfl
theorem takeWhile_pre {α : Type} (f : α → Bool) : ∀ (m r : List α), (∀ x ∈ m, f x = true) → (m ++ r).takeWhile f = m ++ r.takeWhile f
 | [], r, _ => rfl
 | x :: m, r, h => by
  rw [List.cons_append, List.takeWhile_cons, if_pos (h x List.mem_cons_self), takeWhile_pre f m r (fun y hy => h y (List.mem_cons_of_mem _ hy)), List.cons_append]
section
attribute [local go_sem] Oper.semAt_some
theorem st_begins (base g : Nat) (v : Value) (l : List S82) (pre0 : ByteArray) (w : World) (h : StoreIs base g v l w) (hl : l.length ≤ 1000000000) :
  Calls Tryz.prog 79 #[.pointer (some ⟨g, 0, none⟩), .string pre0] w fun e w' => ∃ v', e = .returned v' ∧ w'.ownsRow w.heap.size 82 2 v' (allK l pre0).length (encP (allK l pre0)) ∧ Below w.heap.size w w' := by
 obtain ⟨al, hal⟩ : ∃ al, allK l pre0 = al := ⟨_, rfl⟩
 rw [hal]
 have h1 : 1 ≤ 8 := by decide
 obtain ⟨A, c, rfl, hnc, hc63⟩ := row_slice h.2.2.2
 have hgs := blk_lt h.2.2.1
 have hp := posK_le l pre0
 obtain ⟨A', hA⟩ : ∃ A', (if c = posK l pre0 then A else A.map (·.add (posK l pre0 * 2))) = A' := ⟨_, rfl⟩
 have e1 : ∀ w, (Instr.sliceAt 35 (.slice A l.length c) (some (.int .i64 (posK l pre0))) none none).run Tryz.prog w = .ok (.slice A' (l.length - posK l pre0) (c - posK l pre0)) w := by
  intro w
  simp [go_sem, ← hA]
  intro hx
  omega
 have e2 : ∀ (k : Nat) w, k ≤ l.length - posK l pre0 → (Instr.sliceAt 35 (.slice A l.length c) (some (.int .i64 (posK l pre0))) (some (.int .i64 ((posK l pre0 : Int) + (k : Int)))) none).run Tryz.prog w = .ok (.slice A' k (c - posK l pre0)) w := by
  intro k w h1
  have e0 : (posK l pre0 : Int) + (k : Int) = ((posK l pre0 + k : Nat) : Int) := by omega
  rw [e0]
  obtain ⟨t, ht⟩ : ∃ t, posK l pre0 + k = t := ⟨_, rfl⟩
  rw [ht]
  simp [go_sem, ← hA]
  rw [if_pos (by omega : t ≤ c), if_pos (by omega : posK l pre0 ≤ t), show t - posK l pre0 = k by omega]
 have hcut : CutP w.heap.size w A' (l.drop (posK l pre0)) := by
  have hx := h.2.2.2
  cases A with
  | none =>
   rcases hx.2 with ⟨e, hn⟩ | ⟨g', cap, cur, e, _⟩
   ·exact .inl ⟨by rw [← hA]; split <;> rfl, by rw [List.length_eq_zero_iff.1 hn]; rfl⟩
   ·cases e
  | some a =>
   obtain ⟨gr, rfl⟩ : ∃ gr, a = ⟨gr, 0, none⟩ := by
    rcases hx.2 with ⟨e, _⟩ | ⟨g', cap, cur, e, _⟩
    ·cases e
    ·injection e with e1; injection e1 with e1; exact ⟨g', e1⟩
   obtain ⟨hgr, _, hcell⟩ := rowcells hx
   by_cases hcp : c = posK l pre0
   ·rw [if_pos hcp] at hA
    refine .inr ⟨gr, 0, hA.symm, hgr, fun j hj => ?_⟩
    rw [List.length_drop] at hj; omega
   ·rw [if_neg hcp, Option.map_some, add_plain] at hA
    refine .inr ⟨gr, posK l pre0 * 2, hA.symm, hgr, fun j hj => ?_⟩
    have hj' : posK l pre0 + j < l.length := by rw [List.length_drop] at hj; omega
    have hcx := hcell _ hj'
    rw [List.getElem_drop]
    rw [show (posK l pre0 + j) * 2 = posK l pre0 * 2 + j * 2 by omega] at hcx
    exact hcx
 have hb1 : Below w.heap.size w (w.alloc (.cells #[.string pre0] 9)) := (Below.refl _ w).alloc (Nat.le_refl _) _
 have s1 : StoreAt base g l (w.alloc (.cells #[.string pre0] 9)) := StoreIs.at_ (v := .slice A l.length c) ⟨h.1, h.2.1, blk_below h.2.2.1 hb1, own_below h.2.2.2 hb1⟩
 have p1 := Boxed.new w 9 (.string pre0)
 have x1 := p1.cell
 refine (callsIn_wide (n := 8)).1 ?_
 refine callsIn_of_wp_marks Tryz.func79 rfl trivial ?_ rfl
 simp only [Tryz.ntmps79, List.size_toArray, List.length_cons, List.length_nil, Nat.reduceAdd, Nat.reduceSub, Array.replicate_succ, Array.replicate_zero, List.push_toArray, List.append_toArray, List.nil_append, List.cons_append]
 refine wpIn_wide.2 ?_
 go_wp2
 go_step3
 go_wp2_with fail
 refine (st_at base g l pre0 _ s1 hl).mono ?_
 rintro e w2 ⟨rfl, hb2⟩
 have hb02 := hb1.trans (hb2.mono (by rw [my_alloc_size]; omega))
 have p2 : Boxed w2 w.heap.size 9 (.string pre0) := (hb2.block _ p1.lt).trans p1
 have y0 : ∀ o, (w2.alloc o).cell? ⟨g, 0, none⟩ = some (.slice A l.length c) := fun o => (blk_cell (blk_alloc (blk_below h.2.2.1 hb02) o) 0).trans rfl
 clear x1
 go_wp2
 go_step3
 go_wp2_with fail
 refine (callsIn_wide.1 (valsP_in Fence.wide 8 trivial rfl _ _ _ _)).mono ?_
 rintro e w4 ⟨rfl, rfl⟩
 have b3 := Boxed.new w2 3 (.int .i64 (posK l pre0 : Int))
 obtain ⟨w3, hw3⟩ : ∃ w3, w2.alloc (.cells #[.int .i64 (posK l pre0 : Int)] 3) = w3 := ⟨_, rfl⟩
 rw [hw3] at b3 ⊢
 go_wp2
 have hsz3 : w2.heap.size < w3.heap.size := by rw [← hw3, my_alloc_size]; omega
 have hsz02 := hb02.size
 have hw2 := p2.lt
 have hB3 : Below w.heap.size w w3 := by rw [← hw3]; exact hb02.alloc (by omega) _
 have p3 : Boxed w3 w.heap.size 9 (.string pre0) := by rw [← hw3]; exact p2.alloc _
 have bN := Boxed.new w3 35 (.slice A' (l.length - posK l pre0) (c - posK l pre0))
 have b5 := b3.alloc (.cells #[.slice A' (l.length - posK l pre0) (c - posK l pre0)] 35)
 have p5 := p3.alloc (.cells #[.slice A' (l.length - posK l pre0) (c - posK l pre0)] 35)
 have hB5 := hB3.alloc (by omega) (.cells #[.slice A' (l.length - posK l pre0) (c - posK l pre0)] 35)
 have hsz5 : w3.heap.size < (w3.alloc (.cells #[.slice A' (l.length - posK l pre0) (c - posK l pre0)] 35)).heap.size := by rw [my_alloc_size]; omega
 obtain ⟨w5, hw5⟩ : ∃ w5, w3.alloc (.cells #[.slice A' (l.length - posK l pre0) (c - posK l pre0)] 35) = w5 := ⟨_, rfl⟩
 rw [hw5] at bN b5 p5 hB5 hsz5 ⊢
 clear hw5 b3 p3 hB3 hw3
 refine (wpIn_wide (n := 8)).1 ?_
 refine wpIn_rangeFunc_ownH rfl h1 (gf := 108) (lb := #[.pointer (some ⟨w3.heap.size, 0, none⟩)]) rfl trivial (enters_of Tryz.func108 (by kernel_rfl) rfl)
  (valsP_stops Fence.wide (8 - 1) trivial rfl (by decide) w3.heap.size w.heap.size A' (c - posK l pre0) (l.drop (posK l pre0)) (by rw [List.length_drop]; omega) w5 (by omega) (by omega) (by rw [List.length_drop]; exact bN.cell) (hcut.below hB5)) belowK_t (belowK_b (by omega)) (Below.refl _ _) (fun _ => rfl)
  (fun pre W => ((Boxed W w2.heap.size 3 (.int .i64 ((posK l pre0 + pre.length : Nat) : Int)) ∧ Boxed W w.heap.size 9 (.string pre0)) ∧ (∀ x ∈ pre, pre0.toList.isPrefixOf x.f0.toList = true)) ∧ Below w.heap.size w W)
  (fun c pre W => (c = .exit 0 ∧ ∃ ini last, pre = ini ++ [last] ∧ (∀ x ∈ ini, pre0.toList.isPrefixOf x.f0.toList = true) ∧ pre0.toList.isPrefixOf last.f0.toList = false ∧ Boxed W w2.heap.size 3 (.int .i64 ((posK l pre0 + ini.length : Nat) : Int))) ∧ Below w.heap.size w W)
  (OwnFrom.and (OwnFrom.and (OwnFrom.and (Own.from (boxed_own _ _ _) _) (Own.from (boxed_own _ _ _) _)) (ownFrom_pure _ _)) (ownFrom_below (Nat.le_refl _) (by omega)))
  (fun c => OwnFrom.and (fun s X Y row hs hg hr => by
   obtain ⟨e1, ini, last, e2, e3, e4, e5⟩ := hs
   exact ⟨e1, ini, last, e2, e3, e4, boxed_own w2.heap.size 3 (fun (_ : Unit) => Value.int .i64 ((posK l pre0 + ini.length : Nat) : Int)) () X Y row e5 hg (fun r e => (hr r e).2)⟩) (ownFrom_below (Nat.le_refl _) (by omega)))
  ⟨⟨⟨b5, p5⟩, fun x hx => absurd hx (by simp)⟩, hB5⟩
  (fun x a' W => ∃ Bx, w2.heap.size < Bx ∧ W.heap[Bx]? = some (.cells #[.string x.f0, .string x.f1] 82 (0, 0)) ∧ a' = { tmps := #[.pointer (some ⟨g, 0, none⟩), .string pre0, undef, .pointer (some ⟨w.heap.size, 0, none⟩), .slice none 0 0, .int .i64 (posK l pre0), .bool (hasK l pre0), .pointer (some ⟨w2.heap.size, 0, none⟩), .pointer (some ⟨Bx, 0, none⟩), .pointer (some ⟨g, 0, none⟩), .bool false, .tuple #[.int .i64 (posK l pre0), .bool (hasK l pre0)], .pointer (some ⟨g, 0, none⟩), .string pre0, .tuple #[.int .i64 (posK l pre0), .bool (hasK l pre0)], .int .i64 (posK l pre0), .bool (hasK l pre0), .int .i64 (posK l pre0), .pointer (some ⟨g, 0, none⟩), .pointer (some ⟨g, 0, none⟩), .pointer (some ⟨g, 0, none⟩), .slice A l.length c, .int .i64 (posK l pre0), .slice A' (l.length - posK l pre0) (c - posK l pre0), .func (.func 108) #[] #[.pointer (some ⟨w3.heap.size, 0, none⟩)], .agg #[.string x.f0, .string x.f1], undef, undef, undef, undef, undef, undef, undef, undef, undef, undef, undef, undef, undef, undef, undef], defers := [] })
  (fun x a' _ X Y row hs hg hr => by
   obtain ⟨Bx, h1, h2, h3⟩ := hs
   refine ⟨Bx, h1, (hg.block Bx (blk_lt h2) (fun e' => ?_)).trans h2, h3⟩
   obtain ⟨_, o, ho, hc⟩ := hr Bx e'.symm
   rw [h2] at ho; cases ho; cases hc)
  ?assign ?body ?done ?stop
 case assign =>
  rintro lp pre x W K ⟨⟨⟨b6, p6⟩, hall⟩, hB6⟩ hK
  unfold aggP
  have nx := my_alloc_new W (.cells #[.string x.f0, .string x.f1] 82)
  gi_wp2
  exact hK _ _ ((KeepsOthers.alloc _ _).from _) ((Below.refl _ W).alloc hB6.size _) ⟨⟨⟨b6.alloc _, p6.alloc _⟩, hall⟩, hB6.alloc hB6.size _⟩ ⟨W.heap.size, b6.lt, nx, rfl⟩
 case body =>
  rintro lp pre x a' W hlp _ ⟨⟨⟨b6, p6⟩, hall⟩, hB6⟩ ⟨Bx, hBx, bX, rfl⟩ hlt
  have c1 := p6.cell
  have c2 : ∀ n, (W.drewN n).cell? _ = _ := fun n => b6.cell
  have f2 : ∀ n, (W.drewN n).frozen? _ = _ := fun n => b6.frozen
  have cx : W.cell? ⟨Bx, 0, none⟩ = some (.string x.f0) := (blk_cell bX 0).trans rfl
  have hpl : pre.length < l.length - posK l pre0 := by rw [← List.length_drop]; exact hlt
  gi_wp2_with (refine ⟨trivial, ?_⟩; gi_at_call 97; refine (CallsIn.inRound lp (callsIn_wide.2 (strings_HasPrefix.calls _ _ _ _ (hasPrefix_f _ _)))).mono ?_; rintro e w' ⟨rfl, hd⟩; obtain ⟨nd, rfl⟩ := hd.out)
  ·have hx : (!pre0.toList.isPrefixOf x.f0.toList) = true := by assumption
   exact ⟨KeepsOthers.from (⟨Nat.le_refl _, fun _ _ h _ => h⟩ : KeepsOthers W (W.drewN nd)) _, ⟨rfl, pre, x, rfl, hall, by simpa using hx, b6⟩, pw_below_drewN hB6 nd⟩
  ·have hx : (!pre0.toList.isPrefixOf x.f0.toList) = false := by assumption
   have ev : ((posK l pre0 + (pre ++ [x]).length : Nat) : Int) = (posK l pre0 : Int) + (pre.length : Int) + 1 := by rw [List.length_append, List.length_singleton]; omega
   have b7 : Boxed (W.drewN nd) w2.heap.size 3 (.int .i64 ((posK l pre0 + pre.length : Nat) : Int)) := b6
   have p7 : Boxed (W.drewN nd) w.heap.size 9 (.string pre0) := p6
   refine ⟨KeepsFrom.trans (KeepsOthers.from (⟨Nat.le_refl _, fun _ _ h _ => h⟩ : KeepsOthers W (W.drewN nd)) _) ((KeepsOthers.setCell _ _ _).from _), Below.setCell (pw_below_drewN (Below.refl _ _) nd) (p := ⟨w2.heap.size, 0, none⟩) hsz02 _, ⟨⟨by rw [ev]; exact b7.set _, p7.other (by omega) _⟩, fun y hy => ?_⟩, Below.setCell (pw_below_drewN hB6 nd) (p := ⟨w2.heap.size, 0, none⟩) hsz02 _⟩
   rcases List.mem_append.1 hy with hy | hy
   ·exact hall y hy
   ·rw [List.mem_singleton.1 hy]; simpa using hx
 case' done =>
  rintro D ms W hD hms ⟨⟨⟨b6, p6⟩, hall⟩, hB6⟩ hK
  have hpre : ms <+: l.drop (posK l pre0) := by rw [hms]; exact List.prefix_refl _
  have hall2 : allK l pre0 = ms := by
   have h := takeWhile_pre (fun x : S82 => pre0.toList.isPrefixOf x.f0.toList) ms [] hall
   rw [List.append_nil, List.takeWhile_nil, List.append_nil] at h
   unfold allK; rw [← hms]; exact h
  clear hms p6 hall
 case' stop =>
  rintro D c' pre W hD hpre1 ⟨⟨rfl, ms, last, rfl, hini, hlast, b6⟩, hB6⟩ hK
  have hpre : ms <+: l.drop (posK l pre0) := (List.prefix_append ms [last]).trans hpre1
  have hall2 : allK l pre0 = ms := by
   obtain ⟨r, hr⟩ := hpre1
   unfold allK
   rw [← hr, List.append_assoc, takeWhile_pre _ ms _ hini, List.singleton_append, List.takeWhile_cons, if_neg (by rw [hlast]; simp), List.append_nil]
  clear hpre1 hini hlast
  refine wpIn_wide.2 ?_
 all_goals
  replace hall2 := As_ (hal.symm.trans hall2)
  have hml := hpre.length_le
  rw [List.length_drop] at hml
  have e3 := fun w => e2 ms.length w (by omega)
  have yW : W.cell? ⟨g, 0, none⟩ = some (.slice A l.length c) := (hB6.cell (p := ⟨g, 0, none⟩) hgs).trans ((blk_cell h.2.2.1 0).trans rfl)
  have cW : W.cell? ⟨w2.heap.size, 0, none⟩ = some (.int .i64 ((posK l pre0 : Int) + (ms.length : Int))) := b6.cell
  obtain ⟨f1, f2⟩ := CutP.flat (hcut.below hB6) hpre
  clear e1 e2 s1 p1 p2 hcut b6 hpre hal
  go_upto_region 9 with (fail)
  refine wp_calm ?_
  have hml2 : ms.length ≤ 1000000000 := by omega
  have hclone := clone_calls A' (c - posK l pre0) ms W.drew hml2 f1 f2
  go_region_with (go_at_call 86; refine hclone.mono ?_; rintro e w7 ⟨v7, rfl, o7, hb7⟩)
  all_goals
   rw [calmQ_normal]
   simp only [List.getElem_toArray, List.getElem_cons_succ, List.getElem_cons_zero, Act.put, List.setIfInBounds_toArray, List.set_cons_succ, List.set_cons_zero]
   have hK7 : w7.heap[D]? = some (.deferred (some [])) := (hb7.block D (blk_lt hK)).trans hK
   have hBw : Below w.heap.size w w7 := (below_drew hB6).trans (hb7.mono hB6.size)
   have hfin : ∃ v', Ending.returned v7 = .returned v' ∧ (w7.putObj D (.deferred none)).ownsRow w.heap.size 82 2 v' al.length (encP al) ∧ Below w.heap.size w (w7.putObj D (.deferred none)) :=
    ⟨v7, rfl, by rw [hall2.out]; exact ownsRow_putObj (own_weaken o7 hB6.size) _ hK7 rfl, hBw.trans (belowK_b (w := w) (Nat.le_refl _) w7 D _ _ (by omega) hK7 rfl rfl)⟩
   replace hfin := As_ hfin
   clear hclone o7 hb7 hBw f2 f1 e3 yW cW
   go_wp2
   try rw [Exit.noGoto_ret]
   refine ⟨by simp, .inl ⟨_, _, rfl, run_takeDeferred hK7, ?_⟩⟩
   refine ⟨_, results_tmp rfl _ _ _, ?_⟩
   exact hfin.out
end
theorem st_new (w : World) : Calls Tryz.prog 62 #[] w fun e w' => e = .returned (.pointer (some ⟨w.heap.size, 0, none⟩)) ∧ StoreIs w.heap.size w.heap.size (.slice none 0 0) [] w' ∧ Below w.heap.size w w' := by
 have n1 := my_alloc_new w (.cells #[.slice none 0 0] 118)
 have hfin : StoreIs w.heap.size w.heap.size (.slice none 0 0) [] (w.alloc (.cells #[.slice none 0 0] 118)) := ⟨Nat.le_refl _, List.Pairwise.nil, n1, World.ownsRow_nil _ _ _ _⟩
 have hb : Below w.heap.size w (w.alloc (.cells #[.slice none 0 0] 118)) := (Below.refl _ w).alloc (Nat.le_refl _) _
 replace hfin := As_ hfin
 replace hb := As_ hb
 clear n1
 go_enter Tryz.func62, Tryz.ntmps62
 go_wp2
 go_ret
 exact ⟨rfl, hfin.out, hb.out⟩
theorem allK_nil (l : List S82) : allK l ⟨#[]⟩ = l := by
 have e0 : (⟨#[]⟩ : ByteArray).toList = [] := by rw [ByteArray.toList_eq]
 have hp : posK l ⟨#[]⟩ = 0 := posK_none l _ (fun p _ => by
  unfold kLt
  rw [e0]
  cases p.f0.toList <;> rfl)
 unfold allK
 rw [hp, List.drop_zero]
 have h := takeWhile_pre (fun x : S82 => (⟨#[]⟩ : ByteArray).toList.isPrefixOf x.f0.toList) l [] (fun x _ => by rw [e0]; rfl)
 rw [List.append_nil, List.takeWhile_nil, List.append_nil] at h
 exact h
theorem st_list (base g : Nat) (v : Value) (l : List S82) (w : World) (h : StoreIs base g v l w) (hl : l.length ≤ 1000000000) :
  Calls Tryz.prog 48 #[.pointer (some ⟨g, 0, none⟩)] w fun e w' => ∃ v', e = .returned v' ∧ w'.ownsRow w.heap.size 82 2 v' l.length (encP l) ∧ Below w.heap.size w w' := by
 have hbeg := st_begins base g v l ⟨#[]⟩ w h hl
 rw [allK_nil] at hbeg
 clear h
 go_enter Tryz.func48, Tryz.ntmps48
 go_wp2_with fail
 refine hbeg.mono ?_
 rintro e w2 ⟨v2, rfl, o2, hb2⟩
 clear hbeg
 replace o2 := As_ o2
 replace hb2 := As_ hb2
 go_wp2
 go_ret
 exact ⟨_, rfl, o2.out, hb2.out⟩
end
theorem rdP (l : List S82) (i : Nat) (h : i < l.length) : rd_T82 l (i : Int) = l[i] := by
 unfold rd_T82
 rw [Int.toNat_natCast, List.getD_eq_getElem?_getD, List.getElem?_eq_getElem h]; rfl
theorem w64p (n : Nat) (h : n < 4398046511104) : wrap64 ((n : Int) + 1) = ((n + 1 : Nat) : Int) := by
 unfold wrap64; omega
theorem setK_len (l : List S82) (key value : ByteArray) : (setK l key value).length ≤ l.length + 1 := by
 unfold setK
 split
 ·rw [List.length_set]; omega
 ·rw [List.length_append, List.length_cons, List.length_take, List.length_drop]; omega
theorem delK_len (l : List S82) (key : ByteArray) : (delK l key).length ≤ l.length := by
 unfold delK
 split
 ·rw [List.length_append, List.length_take, List.length_drop]; omega
 ·exact Nat.le_refl _
theorem StoreIs.below {base g : Nat} {v : Value} {l : List S82} {w w' : World} (h : StoreIs base g v l w) (hb : Below w.heap.size w w') : StoreIs base g v l w' := ⟨h.1, h.2.1, blk_below h.2.2.1 hb, own_below h.2.2.2 hb⟩
theorem StoreIs.glt {base g : Nat} {v : Value} {l : List S82} {w : World} (h : StoreIs base g v l w) : g < w.heap.size := blk_lt h.2.2.1
def ByP (g : Nat) (v : Value) (w : World) (xv : Value) (l : List S82) : Prop := Kd.V k82 82 w 0 (fun k => k ≠ g ∧ some k ≠ v.ownBlock) xv l
theorem ByP.store {g : Nat} {v v' : Value} {w w' : World} {xv : Value} {l : List S82} (hx : ByP g v w xv l) (hw : StoreW g v w w') (hv : v'.ownBlock = v.ownBlock ∨ ∃ b, v'.ownBlock = some b ∧ w.heap.size ≤ b) : ByP g v' w' xv l := by
 have h2 := Kd.V_step (Kd.V_bound hx) (fun k hk hlt => hw.block k hlt hk.1.1 hk.1.2)
 refine Kd.V_mono h2 (fun k hk => ⟨hk.1.1, ?_⟩)
 rcases hv with hv | ⟨b, hv, hle⟩
 ·rw [hv]; exact hk.1.2
 ·rw [hv]; intro e; injection e with e; have := hk.2; omega
theorem ByP.below {g : Nat} {v : Value} {w w' : World} {xv : Value} {l : List S82} (hx : ByP g v w xv l) (hb : Below w.heap.size w w') : ByP g v w' xv l := Kd.V_below hx hb
theorem StoreIs.other {b' g' base g : Nat} {u v : Value} {m l : List S82} {w w' : World} (h : StoreIs b' g' u m w) (hs : StoreIs base g v l w) (hw : StoreW g v w w') (h1 : g' ≠ g) (h2 : u.ownBlock = none ∨ u.ownBlock ≠ v.ownBlock) : StoreIs b' g' u m w' := by
 refine ⟨h.1, h.2.1, (hw.block g' h.glt h1 (own_ne hs.2.2.2 h.2.2.1 (by decide))).trans h.2.2.1, ?_⟩
 refine ⟨h.2.2.2.1, ?_⟩
 rcases h.2.2.2.2 with hn | ⟨gr, cap, cur, rfl, hb, hgg, rest⟩
 ·exact .inl hn
 ·refine .inr ⟨gr, cap, cur, rfl, hb, (hw.block gr (blk_lt hgg) (blk_ne hgg hs.2.2.1 (by decide)) ?_).trans hgg, rest⟩
  have e : (Value.slice (some ⟨gr, 0, none⟩) m.length cap).ownBlock = some gr := rfl
  rw [e] at h2
  rcases h2 with h2 | h2
  ·exact absurd h2 (by simp)
  ·exact h2
theorem StoreW.toBelow {n base g : Nat} {v : Value} {l : List S82} {w w1 w2 : World} (hb : Below n w w1) (hn : n ≤ w1.heap.size) (hs : StoreIs base g v l w1) (hbase : n ≤ base) (hw : StoreW g v w1 w2) : Below n w w2 :=
 hb.trans ⟨hw.os, hw.tape, hw.output, hw.size, fun i hi => hw.block i (Nat.lt_of_lt_of_le hi hn) (by have := hs.1; omega) (fun e => by have := (hs.2.2.2.lt i e.symm).1; omega)⟩
structure JSt where
 cur : List S82
 lv : List (List S128)
def encU (l : List S128) : List Value := l.flatMap (fun p => [.string p.f0, .string p.f1, .bool p.f2])
theorem encU_append (l m : List S128) : encU (l ++ m) = encU l ++ encU m := by unfold encU; rw [List.flatMap_append]
structure LvIs (base : Nat) (ok : Nat → Prop) (lvv : Value) (vs : List Value) (L : List (List S128)) (w : World) : Prop where
 len : vs.length = L.length
 ok0 : ∀ k, lvv.ownBlock = some k → ok k
 own : w.ownsRow base 126 1 lvv L.length vs
 row : ∀ (i : Nat) v l, vs[i]? = some v → L[i]? = some l → w.ownsRow base 128 3 v l.length (encU l)
 oks : ∀ (i : Nat) v k, vs[i]? = some v → v.ownBlock = some k → ok k
 dis : ∀ (i j : Nat) a b k, i ≠ j → vs[i]? = some a → vs[j]? = some b → a.ownBlock = some k → b.ownBlock ≠ some k
theorem LvIs.mono {base : Nat} {ok ok' : Nat → Prop} {lvv : Value} {vs : List Value} {L : List (List S128)} {w : World} (h : LvIs base ok lvv vs L w) (hk : ∀ k, ok k → ok' k) : LvIs base ok' lvv vs L w :=
 ⟨h.len, fun k e => hk k (h.ok0 k e), h.own, h.row, fun i v k e1 e2 => hk k (h.oks i v k e1 e2), h.dis⟩
theorem LvIs.get {base : Nat} {ok : Nat → Prop} {lvv : Value} {vs : List Value} {L : List (List S128)} {w : World} (h : LvIs base ok lvv vs L w) {i : Nat} {v : Value} (e : vs[i]? = some v) : ∃ l, L[i]? = some l ∧ w.ownsRow base 128 3 v l.length (encU l) := by
 have hi : i < L.length := by rw [← h.len]; exact (List.getElem?_eq_some_iff.1 e).1
 exact ⟨L[i], List.getElem?_eq_getElem hi, h.row i v _ e (List.getElem?_eq_getElem hi)⟩
theorem LvIs.step {base : Nat} {ok : Nat → Prop} {lvv : Value} {vs : List Value} {L : List (List S128)} {w w1 : World} (h : LvIs base ok lvv vs L w)
  (hm : ∀ k, ok k → base ≤ k → k < w.heap.size → (∃ cells, w.heap[k]? = some (.cells cells 126 (0, 0)) ∨ w.heap[k]? = some (.cells cells 128 (0, 0))) → w1.heap[k]? = w.heap[k]?) : LvIs base ok lvv vs L w1 := by
 refine ⟨h.len, h.ok0, own_move h.own (fun k hk => ?_), fun i v l e1 e2 => own_move (h.row i v l e1 e2) (fun k hk => ?_), h.oks, h.dis⟩
 ·obtain ⟨cells, hc⟩ := own_typed h.own k hk
  exact hm k (h.ok0 k hk) (own_base h.own k hk) (own_lt h.own k hk) ⟨cells, .inl hc⟩
 ·obtain ⟨cells, hc⟩ := own_typed (h.row i v l e1 e2) k hk
  exact hm k (h.oks i v k e1 hk) (own_base (h.row i v l e1 e2) k hk) (own_lt (h.row i v l e1 e2) k hk) ⟨cells, .inr hc⟩
theorem LvIs.below {base : Nat} {ok : Nat → Prop} {lvv : Value} {vs : List Value} {L : List (List S128)} {w w1 : World} (h : LvIs base ok lvv vs L w) (hb : Below w.heap.size w w1) : LvIs base ok lvv vs L w1 := h.step (fun k _ _ hk _ => hb.block k hk)
theorem LvIs.bound {base : Nat} {ok : Nat → Prop} {lvv : Value} {vs : List Value} {L : List (List S128)} {w : World} (h : LvIs base ok lvv vs L w) : LvIs base (fun k => ok k ∧ base ≤ k ∧ k < w.heap.size ∧ ∃ q, q ∈ [126, 128] ∧ ∃ cells, w.heap[k]? = some (.cells cells q (0, 0))) lvv vs L w := by
 refine ⟨h.len, fun k hk => ?_, h.own, h.row, fun i v k e hk => ?_, h.dis⟩
 ·obtain ⟨cells, hc⟩ := own_typed h.own k hk
  exact ⟨h.ok0 k hk, own_base h.own k hk, own_lt h.own k hk, _, List.mem_cons_self, cells, hc⟩
 ·obtain ⟨l, e2, hr⟩ := h.get e
  obtain ⟨cells, hc⟩ := own_typed hr k hk
  exact ⟨h.oks i v k e hk, own_base hr k hk, own_lt hr k hk, _, List.mem_cons_of_mem _ List.mem_cons_self, cells, hc⟩
theorem LvIs.put {base : Nat} {ok ok' : Nat → Prop} {b c : Nat} {v v' : Value} {vs : List Value} {L : List (List S128)} {l' : List S128} {w w1 : World} {i : Nat} (h : LvIs base ok (.slice (some ⟨b, 0, none⟩) L.length c) vs L w) (hk : ∀ k, ok k → ok' k) (hn : ∀ k, w.heap.size ≤ k → ok' k)
  (hi : vs[i]? = some v) (hr : w1.ownsRow base 128 3 v' l'.length (encU l')) (hg : w.grownBy w1 v.ownBlock) (hat : v'.ownBlock = v.ownBlock ∨ ∃ b, v'.ownBlock = some b ∧ w.heap.size ≤ b) (h1 : v'.oneCell' = true) :
  LvIs base ok' (.slice (some ⟨b, 0, none⟩) L.length c) (vs.set i v') (L.set i l') (w1.setCell ⟨b, i, none⟩ v') := by
 obtain ⟨l, el, hl⟩ := h.get hi
 have hil : i < vs.length := (List.getElem?_eq_some_iff.1 hi).1
 have hbo : (Value.slice (some ⟨b, 0, none⟩) L.length c).ownBlock = some b := rfl
 obtain ⟨cb, hcb⟩ := own_typed h.own b hbo
 have hblt := own_lt h.own b hbo
 have hvb : v.ownBlock ≠ some b := by
  intro e
  obtain ⟨c1, h1⟩ := own_typed hl b e
  rw [h1] at hcb
  injection hcb with h2
  injection h2 with _ h2
  exact absurd h2 (by decide)
 have hv'b : v'.ownBlock ≠ some b := by
  rcases hat with hat | ⟨b', hb, hle⟩
  ·rw [hat]; exact hvb
  ·rw [hb]; intro e; injection e with e; omega
 have hb1 : w1.heap[b]? = w.heap[b]? := hg.block b hblt (fun e => hvb e.symm)
 have hown1 : w1.ownsRow base 126 1 (.slice (some ⟨b, 0, none⟩) L.length c) L.length vs := own_move h.own (fun k e => by rw [hbo] at e; injection e with e; rw [← e]; exact hb1)
 have hset : (w1.setCell ⟨b, i, none⟩ v').ownsRow base 126 1 (.slice (some ⟨b, 0, none⟩) L.length c) L.length (vs.set i v') := by
  rcases hown1.2 with ⟨e, _⟩ | ⟨b2, cap, cur, e, hbb, hgg, hnn, hmm, hss, hxx⟩
  ·cases e
  ·injection e with e1 e2 e3
   injection e1 with e1
   injection e1 with e1
   subst e1; subst e3
   have e1 := setCell_eq_setRow w1 b i cur _ _ v' hgg
   have r5 := setRow_heap w1 b cur (cur.setIfInBounds i v') _ _ hgg
   rw [e1]
   refine ⟨by rw [List.length_set]; exact hown1.1, .inr ⟨b, c, _, rfl, hbb, r5, hnn, hmm, by rw [Array.size_setIfInBounds, hss], ?_⟩⟩
   rw [Array.toList_setIfInBounds, List.take_set, hxx]
 have hfar : ∀ k, k ≠ b → (w1.setCell ⟨b, i, none⟩ v').heap[k]? = w1.heap[k]? := fun k hk => Below.heap_setCell w1 ⟨b, i, none⟩ v' k hk
 refine ⟨by simp [h.len], fun k e => hk k (h.ok0 k e), by rw [List.length_set]; exact hset, fun j u m e1 e2 => ?_, fun j u k e1 e2 => ?_, fun j j2 x y k hjj e1 e2 e3 e4 => ?_⟩
 ·by_cases hji : j = i
  ·subst hji
   rw [List.getElem?_set_self hil] at e1
   rw [List.getElem?_set_self (by rw [← h.len]; exact hil)] at e2
   injection e1 with e1; injection e2 with e2
   subst e1; subst e2
   exact own_move hr (fun k e => hfar k (fun e2 => hv'b (by rw [e, e2])))
  ·rw [List.getElem?_set_ne (Ne.symm hji)] at e1 e2
   have hu := h.row j u m e1 e2
   refine own_move hu (fun k e => ?_)
   obtain ⟨c1, h1⟩ := own_typed hu k e
   have hkb : k ≠ b := by
    rintro rfl
    rw [h1] at hcb
    injection hcb with h2
    injection h2 with _ h2
    exact absurd h2 (by decide)
   rw [hfar k hkb]
   exact hg.block k (own_lt hu k e) (fun e2 => h.dis j i u v k hji e1 hi e e2.symm)
 ·by_cases hji : j = i
  ·subst hji
   rw [List.getElem?_set_self hil] at e1
   injection e1 with e1; subst e1
   rcases hat with hat | ⟨b', hb, hle⟩
   ·exact hk k (h.oks j v k hi (hat ▸ e2))
   ·rw [hb] at e2; injection e2 with e2; exact hn k (by omega)
  ·rw [List.getElem?_set_ne (Ne.symm hji)] at e1
   exact hk k (h.oks j u k e1 e2)
 ·have key : ∀ (j : Nat) x k, j ≠ i → vs[j]? = some x → x.ownBlock = some k → v'.ownBlock ≠ some k := by
   intro j x k hji e1 e2 e3
   rcases hat with hat | ⟨b', hb, hle⟩
   ·exact h.dis j i x v k hji e1 hi e2 (hat ▸ e3)
   ·obtain ⟨m, _, hm⟩ := h.get e1
    have := own_lt hm k e2
    rw [hb] at e3; injection e3 with e3; omega
  by_cases hji : j = i
  ·subst hji
   rw [List.getElem?_set_self hil] at e1
   injection e1 with e1; subst e1
   rw [List.getElem?_set_ne hjj] at e2
   exact key j2 y k (Ne.symm hjj) e2 e4 e3
  ·rw [List.getElem?_set_ne (Ne.symm hji)] at e1
   by_cases hj2 : j2 = i
   ·subst hj2
    rw [List.getElem?_set_self hil] at e2
    injection e2 with e2; subst e2
    exact key j x k hji e1 e3 e4
   ·rw [List.getElem?_set_ne (Ne.symm hj2)] at e2
    exact h.dis j j2 x y k hjj e1 e2 e3 e4
structure JX (base : Nat) (ok : Nat → Prop) (g gs : Nat) (sv lvv : Value) (vs : List Value) (st : JSt) (w : World) : Prop where
 okg : ok g
 oks : ok gs
 okv : ∀ k, sv.ownBlock = some k → ok k
 ge : base ≤ g
 blk : w.heap[g]? = some (.cells #[.pointer (some ⟨gs, 0, none⟩), lvv] 86 (0, 0))
 store : StoreIs base gs sv st.cur w
 lv : LvIs base ok lvv vs st.lv w
def JM (base : Nat) (ok : Nat → Prop) (g : Nat) (st : JSt) (w : World) : Prop := ∃ gs sv lvv vs, JX base ok g gs sv lvv vs st w
structure JW (ok : Nat → Prop) (w w' : World) : Prop where
 os : w'.os = w.os
 tape : w'.tape = w.tape
 output : w'.output = w.output
 size : w.heap.size ≤ w'.heap.size
 block : ∀ i, i < w.heap.size → ¬ ok i → w'.heap[i]? = w.heap[i]?
theorem JW.of_below {ok : Nat → Prop} {w w' : World} (h : Below w.heap.size w w') : JW ok w w' := ⟨h.os, h.tape, h.output, h.size, fun i hi _ => h.block i hi⟩
theorem JW.of_grown {ok : Nat → Prop} {row : Option Nat} {w w' : World} (h : w.grownBy w' row) (hk : ∀ k, row = some k → ok k) : JW ok w w' := ⟨h.os, h.tape, h.output, h.size, fun i hi hn => h.block i hi (fun e => hn (hk i e.symm))⟩
theorem JW.of_store {ok : Nat → Prop} {gs : Nat} {sv : Value} {w w' : World} (h : StoreW gs sv w w') (h1 : ok gs) (h2 : ∀ k, sv.ownBlock = some k → ok k) : JW ok w w' := ⟨h.os, h.tape, h.output, h.size, fun i hi hn => h.block i hi (fun e => hn (e ▸ h1)) (fun e => hn (h2 i e.symm))⟩
theorem JW.set {ok : Nat → Prop} {w : World} {b : Nat} (h : ok b) (j : Nat) (v : Value) : JW ok w (w.setCell ⟨b, j, none⟩ v) := ⟨rfl, rfl, rfl, by simp [World.setCell], fun i _ hn => Below.heap_setCell w ⟨b, j, none⟩ v i (fun e => hn (by rw [e]; exact h))⟩
theorem JW.trans {ok ok' : Nat → Prop} {w w1 w2 : World} (h : JW ok w w1) (k : JW ok' w1 w2) (hk : ∀ i, ok' i → ok i ∨ w.heap.size ≤ i) : JW ok w w2 :=
 ⟨k.os.trans h.os, k.tape.trans h.tape, k.output.trans h.output, Nat.le_trans h.size k.size, fun i hi hn => (k.block i (Nat.lt_of_lt_of_le hi h.size) (fun e => (hk i e).elim hn (fun e => by omega))).trans (h.block i hi hn)⟩
theorem JW.toBelow {n : Nat} {ok : Nat → Prop} {w w1 w2 : World} (hb : Below n w w1) (hn : n ≤ w1.heap.size) (hw : JW ok w1 w2) (hk : ∀ k, ok k → n ≤ k) : Below n w w2 :=
 hb.trans ⟨hw.os, hw.tape, hw.output, hw.size, fun i hi => hw.block i (Nat.lt_of_lt_of_le hi hn) (fun e => by have := hk i e; omega)⟩
theorem JX.step {base : Nat} {ok : Nat → Prop} {g gs : Nat} {sv lvv : Value} {vs : List Value} {st : JSt} {w w1 : World} (h : JX base ok g gs sv lvv vs st w) (hb : Below w.heap.size w w1) : JX base ok g gs sv lvv vs st w1 :=
 ⟨h.okg, h.oks, h.okv, h.ge, blk_below h.blk hb, StoreIs.below h.store hb, h.lv.below hb⟩
theorem JX.mono {base : Nat} {ok ok' : Nat → Prop} {g gs : Nat} {sv lvv : Value} {vs : List Value} {st : JSt} {w : World} (h : JX base ok g gs sv lvv vs st w) (hk : ∀ k, ok k → ok' k) : JX base ok' g gs sv lvv vs st w :=
 ⟨hk _ h.okg, hk _ h.oks, fun k e => hk k (h.okv k e), h.ge, h.blk, h.store, h.lv.mono hk⟩
theorem JM.below {base : Nat} {ok : Nat → Prop} {g : Nat} {st : JSt} {w w1 : World} (h : JM base ok g st w) (hb : Below w.heap.size w w1) : JM base ok g st w1 := by
 obtain ⟨gs, sv, lvv, vs, h⟩ := h
 exact ⟨gs, sv, lvv, vs, h.step hb⟩
theorem JM.mono {base : Nat} {ok ok' : Nat → Prop} {g : Nat} {st : JSt} {w : World} (h : JM base ok g st w) (hk : ∀ k, ok k → ok' k) : JM base ok' g st w := by
 obtain ⟨gs, sv, lvv, vs, h⟩ := h
 exact ⟨gs, sv, lvv, vs, h.mono hk⟩
theorem blk_ty {w : World} {a : Nat} {c d : Array Value} {t u : TypeId} {x y : Nat × Nat} (h1 : w.heap[a]? = some (.cells c t x)) (h2 : w.heap[a]? = some (.cells d u y)) : t = u := by
 rw [h1] at h2
 injection h2 with h2
 injection h2 with _ h2
theorem JX.stored {base : Nat} {ok : Nat → Prop} {g gs : Nat} {sv lvv sv' : Value} {vs : List Value} {st : JSt} {l' : List S82} {w w1 : World} (h : JX base ok g gs sv lvv vs st w) (hs : StoreIs base gs sv' l' w1) (hw : StoreW gs sv w w1) (hat : sv'.ownBlock = sv.ownBlock ∨ ∃ b, sv'.ownBlock = some b ∧ w.heap.size ≤ b) :
  JX base (fun k => ok k ∨ w.heap.size ≤ k) g gs sv' lvv vs { st with cur := l' } w1 := by
 obtain ⟨c0, hc0⟩ : ∃ c, w.heap[gs]? = some (.cells c 118 (0, 0)) := ⟨_, h.store.2.2.1⟩
 have hsv : ∀ k, sv.ownBlock = some k → ∃ c, w.heap[k]? = some (.cells c 82 (0, 0)) := fun k e => own_typed h.store.2.2.2 k e
 refine ⟨.inl h.okg, .inl h.oks, fun k e => ?_, h.ge, ?_, hs, (h.lv.step (fun k _ _ hlt ht => ?_)).mono (fun k hk => .inl hk)⟩
 ·rcases hat with hat | ⟨b, hb, hle⟩
  ·exact .inl (h.okv k (hat ▸ e))
  ·rw [hb] at e; injection e with e; exact .inr (by omega)
 ·refine (hw.block g (blk_lt h.blk) (fun e => ?_) (fun e => ?_)).trans h.blk
  ·rw [← e] at hc0; exact absurd (blk_ty h.blk hc0) (by decide)
  ·obtain ⟨c, hc⟩ := hsv g e.symm
   exact absurd (blk_ty h.blk hc) (by decide)
 ·obtain ⟨cells, ht | ht⟩ := ht
  all_goals
   refine hw.block k hlt (fun e => ?_) (fun e => ?_)
   ·rw [← e] at hc0; exact absurd (blk_ty ht hc0) (by decide)
   ·obtain ⟨c, hc⟩ := hsv k e.symm
    exact absurd (blk_ty ht hc) (by decide)
def JT : List Nat := [86, 118, 82, 126, 128]
theorem JX.bound {base : Nat} {ok : Nat → Prop} {g gs : Nat} {sv lvv : Value} {vs : List Value} {st : JSt} {w : World} (h : JX base ok g gs sv lvv vs st w) : JX base (fun k => ok k ∧ base ≤ k ∧ k < w.heap.size ∧ ∃ q, q ∈ JT ∧ ∃ cells, w.heap[k]? = some (.cells cells q (0, 0))) g gs sv lvv vs st w := by
 refine ⟨⟨h.okg, h.ge, blk_lt h.blk, _, by simp [JT], _, h.blk⟩, ⟨h.oks, h.store.1, blk_lt h.store.2.2.1, _, by simp [JT], _, h.store.2.2.1⟩, fun k e => ?_, h.ge, h.blk, h.store, h.lv.bound.mono (fun k hk => ?_)⟩
 ·obtain ⟨cells, hc⟩ := own_typed h.store.2.2.2 k e
  exact ⟨h.okv k e, own_base h.store.2.2.2 k e, own_lt h.store.2.2.2 k e, _, by simp [JT], cells, hc⟩
 ·obtain ⟨h1, h2, h3, q, hq, hc⟩ := hk
  refine ⟨h1, h2, h3, q, ?_, hc⟩
  simp only [List.mem_cons, List.not_mem_nil, or_false] at hq
  rcases hq with rfl | rfl <;> simp [JT]
theorem JM.bound {base : Nat} {ok : Nat → Prop} {g : Nat} {st : JSt} {w : World} (h : JM base ok g st w) : JM base (fun k => ok k ∧ base ≤ k ∧ k < w.heap.size ∧ ∃ q, q ∈ JT ∧ ∃ cells, w.heap[k]? = some (.cells cells q (0, 0))) g st w := by
 obtain ⟨gs, sv, lvv, vs, h⟩ := h
 exact ⟨gs, sv, lvv, vs, h.bound⟩
def JPost (base : Nat) (ok : Nat → Prop) (g : Nat) (st' : JSt) (r : Value) (w : World) (e : Ending) (w' : World) : Prop := e = .returned r ∧ JM base (fun k => ok k ∨ w.heap.size ≤ k) g st' w' ∧ JW ok w w'
theorem exec_append {P : Program} {o : Oper} {a : Act} {w : World} (d x : Operand) (dT sT : TypeId) (hop : o.op = Op.call { callee := Callee.builtin Builtin.append, args := #[d, x], argTypes := #[dT, sT] }) (v u : Value) (hd : a.eval d = v) (hx : a.eval x = u) {v' : Value} {w' : World} (hr : (Builtin.append_ #[dT, sT] o.type #[v, u]).run P w = .ok v' w') :
  (execOp a.eval o).run P w = .ok (.value v') w' := by
 unfold execOp
 simp only [hop, resolve, invoke, builtin, Sem.run_bind, Sem.run_pure, Result.andThen_ok, List.map_toArray, List.map_cons, List.map_nil, hd, hx, hr]
theorem JX.putLv {base : Nat} {ok : Nat → Prop} {g gs b c i : Nat} {sv v v' : Value} {vs : List Value} {st : JSt} {l' : List S128} {w w1 : World} (h : JX base ok g gs sv (.slice (some ⟨b, 0, none⟩) st.lv.length c) vs st w)
  (hi : vs[i]? = some v) (hr : w1.ownsRow base 128 3 v' l'.length (encU l')) (hg : w.grownBy w1 v.ownBlock) (hat : v'.ownBlock = v.ownBlock ∨ ∃ b, v'.ownBlock = some b ∧ w.heap.size ≤ b) (h1 : v'.oneCell' = true) :
  JX base (fun k => ok k ∨ w.heap.size ≤ k) g gs sv (.slice (some ⟨b, 0, none⟩) st.lv.length c) (vs.set i v') ⟨st.cur, st.lv.set i l'⟩ (w1.setCell ⟨b, i, none⟩ v') := by
 obtain ⟨l, el, hl⟩ := h.lv.get hi
 obtain ⟨cb, hcb⟩ := own_typed h.lv.own b rfl
 have hmv : ∀ (k : Nat) (cells : Array Value) (q : TypeId), w.heap[k]? = some (.cells cells q (0, 0)) → q ≠ 128 → q ≠ 126 → (w1.setCell ⟨b, i, none⟩ v').heap[k]? = w.heap[k]? := by
  intro k cells q hk h1 h2
  refine (Below.heap_setCell w1 ⟨b, i, none⟩ v' k (fun e => ?_)).trans (hg.block k (blk_lt hk) (fun e => ?_))
  ·have e : k = b := e
   subst e; exact h2 (blk_ty hk hcb)
  ·obtain ⟨cs, hc⟩ := own_typed hl k e.symm
   exact h1 (blk_ty hk hc)
 refine ⟨.inl h.okg, .inl h.oks, fun k e => .inl (h.okv k e), h.ge, (hmv g _ _ h.blk (by decide) (by decide)).trans h.blk, ⟨h.store.1, h.store.2.1, (hmv gs _ _ h.store.2.2.1 (by decide) (by decide)).trans h.store.2.2.1, own_move h.store.2.2.2 (fun k e => ?_)⟩, ?_⟩
 ·obtain ⟨cs, hc⟩ := own_typed h.store.2.2.2 k e
  exact hmv k _ _ hc (by decide) (by decide)
 ·show LvIs base _ _ _ (st.lv.set i l') _
  have := h.lv.put (ok' := fun k => ok k ∨ w.heap.size ≤ k) (fun k hk => .inl hk) (fun k hk => .inr hk) hi hr hg hat h1
  exact this
theorem JX.move {base : Nat} {ok : Nat → Prop} {g gs : Nat} {sv lvv : Value} {vs : List Value} {st : JSt} {w w1 : World} (h : JX base ok g gs sv lvv vs st w) (hm : ∀ (k : Nat) (cells : Array Value) (q : TypeId), ok k → w.heap[k]? = some (.cells cells q (0, 0)) → w1.heap[k]? = w.heap[k]?) : JX base ok g gs sv lvv vs st w1 := by
 refine ⟨h.okg, h.oks, h.okv, h.ge, (hm g _ _ h.okg h.blk).trans h.blk, ⟨h.store.1, h.store.2.1, (hm gs _ _ h.oks h.store.2.2.1).trans h.store.2.2.1, own_move h.store.2.2.2 (fun k e => ?_)⟩, h.lv.step (fun k hk _ _ ht => ?_)⟩
 ·obtain ⟨c, hc⟩ := own_typed h.store.2.2.2 k e
  exact hm k _ _ (h.okv k e) hc
 ·obtain ⟨cells, ht | ht⟩ := ht
  all_goals exact hm k _ _ hk ht
theorem JM.move {base : Nat} {ok : Nat → Prop} {g : Nat} {st : JSt} {w w1 : World} (h : JM base ok g st w) (hm : ∀ (k : Nat) (cells : Array Value) (q : TypeId), ok k → w.heap[k]? = some (.cells cells q (0, 0)) → w1.heap[k]? = w.heap[k]?) : JM base ok g st w1 := by
 obtain ⟨gs, sv, lvv, vs, h⟩ := h
 exact ⟨gs, sv, lvv, vs, h.move hm⟩
theorem posK_app {A B : List S82} {key : ByteArray} (hA : ∀ p ∈ A, kLt p.f0 key = true) (hB : ∀ p ∈ B, kLt p.f0 key = false) : posK (A ++ B) key = A.length := by
 unfold posK
 rw [List.countP_append, List.countP_eq_length.2 (fun p hp => hA p hp), List.countP_eq_zero.2 (fun p hp e => by rw [hB p hp] at e; exact absurd e (by simp)), Nat.add_zero]
theorem mid_ge {x : S82} {B : List S82} {key : ByteArray} (hx : x.f0 = key) (hB : ∀ p ∈ B, kLt p.f0 key = false) : ∀ p ∈ x :: B, kLt p.f0 key = false := by
 intro p hp
 rcases List.mem_cons.1 hp with rfl | hp
 ·rw [hx]; exact kLt_irr _
 ·exact hB p hp
theorem hasK_mid {A B : List S82} {x : S82} {key : ByteArray} (hA : ∀ p ∈ A, kLt p.f0 key = true) (hx : x.f0 = key) (hB : ∀ p ∈ B, kLt p.f0 key = false) : hasK (A ++ x :: B) key = true := by
 unfold hasK
 rw [posK_app hA (mid_ge hx hB), List.getElem?_append_right (Nat.le_refl _), Nat.sub_self, List.getElem?_cons_zero]
 show (x.f0.toList == key.toList) = true
 rw [hx]; exact beq_self_eq_true _
theorem setK_mid {A B : List S82} {x : S82} {key : ByteArray} (value : ByteArray) (hA : ∀ p ∈ A, kLt p.f0 key = true) (hx : x.f0 = key) (hB : ∀ p ∈ B, kLt p.f0 key = false) : setK (A ++ x :: B) key value = A ++ ⟨key, value⟩ :: B := by
 unfold setK
 rw [hasK_mid hA hx hB, if_pos rfl, posK_app hA (mid_ge hx hB), List.set_append_right _ _ (Nat.le_refl _), Nat.sub_self, List.set_cons_zero]
theorem delK_mid {A B : List S82} {x : S82} {key : ByteArray} (hA : ∀ p ∈ A, kLt p.f0 key = true) (hx : x.f0 = key) (hB : ∀ p ∈ B, kLt p.f0 key = false) : delK (A ++ x :: B) key = A ++ B := by
 unfold delK
 rw [hasK_mid hA hx hB, if_pos rfl, posK_app hA (mid_ge hx hB), List.take_left, List.drop_append, List.drop_eq_nil_of_le (by omega), List.nil_append, show A.length + 1 - A.length = 1 by omega]
 rfl
theorem getK_mid {A B : List S82} {x : S82} {key : ByteArray} (hA : ∀ p ∈ A, kLt p.f0 key = true) (hx : x.f0 = key) (hB : ∀ p ∈ B, kLt p.f0 key = false) : getK (A ++ x :: B) key = (x.f1, true) := by
 unfold getK
 rw [hasK_mid hA hx hB, if_pos rfl, posK_app hA (mid_ge hx hB), rdP _ _ (by simp)]
 simp
theorem setK_new {A B : List S82} {key : ByteArray} (value : ByteArray) (hA : ∀ p ∈ A, kLt p.f0 key = true) (hB : ∀ p ∈ B, kLt p.f0 key = false) (hh : hasK (A ++ B) key = false) : setK (A ++ B) key value = A ++ ⟨key, value⟩ :: B := by
 unfold setK
 rw [hh, if_neg (by simp), posK_app hA hB, List.take_left, List.drop_left]
theorem decK {c : List S82} (hs : sortK c) (key : ByteArray) : ∃ A B, (∀ p ∈ A, kLt p.f0 key = true) ∧ (∀ p ∈ B, kLt p.f0 key = false) ∧ ((hasK c key = true ∧ ∃ x : S82, x.f0 = key ∧ c = A ++ x :: B) ∨ (hasK c key = false ∧ c = A ++ B)) := by
 have h1 : ∀ p ∈ c.take (posK c key), kLt p.f0 key = true := by
  intro p hp
  obtain ⟨i, hi, rfl⟩ := List.mem_iff_getElem.1 hp
  rw [List.length_take] at hi
  rw [List.getElem_take, posK_spec c key hs i (by omega)]
  exact decide_eq_true (by omega)
 have h2 : ∀ p ∈ c.drop (posK c key), kLt p.f0 key = false := by
  intro p hp
  obtain ⟨i, hi, rfl⟩ := List.mem_iff_getElem.1 hp
  rw [List.length_drop] at hi
  rw [List.getElem_drop, posK_spec c key hs _ (by omega)]
  exact decide_eq_false (by omega)
 cases hh : hasK c key with
 | true =>
  obtain ⟨hp, hk⟩ := hasK_lt hh
  refine ⟨c.take (posK c key), c.drop (posK c key + 1), h1, fun p hp2 => h2 p ?_, .inl ⟨rfl, c[posK c key], hk, ?_⟩⟩
  ·rw [List.drop_eq_getElem_cons hp]; exact List.mem_cons_of_mem _ hp2
  ·rw [← List.drop_eq_getElem_cons hp, List.take_append_drop]
 | false => exact ⟨c.take (posK c key), c.drop (posK c key), h1, h2, .inr ⟨rfl, (List.take_append_drop _ _).symm⟩⟩
def noteU (c : List S82) (key : ByteArray) : S128 := ⟨key, (getK c key).1, (getK c key).2⟩
def lvAt (L : List (List S128)) (i : Nat) : List S128 := L.getD i []
def noteJ (st : JSt) (key : ByteArray) : JSt := { st with lv := st.lv.set (st.lv.length - 1) (lvAt st.lv (st.lv.length - 1) ++ [noteU st.cur key]) }
def setJ (st : JSt) (key value : ByteArray) : JSt := if key.size > 65536 ∨ value.size > 65536 then st else { noteJ st key with cur := setK st.cur key value }
def setE (key value : ByteArray) : Int := if key.size > 65536 ∨ value.size > 65536 then 4 else 0
def delJ (st : JSt) (key : ByteArray) : JSt := if hasK st.cur key = true then { noteJ st key with cur := delK st.cur key } else st
def delE (st : JSt) (key : ByteArray) : Int := if hasK st.cur key = true then 0 else 8
theorem j_get (base g : Nat) (ok : Nat → Prop) (st : JSt) (key : ByteArray) (w : World) (h : JM base ok g st w) (hl : st.cur.length ≤ 1000000000) :
  Calls Tryz.prog 20 #[.pointer (some ⟨g, 0, none⟩), .string key] w fun e w' => e = .returned (.tuple #[.string (getK st.cur key).1, .bool (getK st.cur key).2]) ∧ Below w.heap.size w w' := by
 obtain ⟨gs, sv, lvv, vs, h⟩ := h
 have y0 : w.cell? ⟨g, 0, none⟩ = some (.pointer (some ⟨gs, 0, none⟩)) := (blk_cell h.blk 0).trans rfl
 have hst := h.store
 clear h
 go_enter Tryz.func20, Tryz.ntmps20
 go_wp2_with fail
 refine (st_get base gs st.cur key _ hst.at_ hl).mono ?_
 rintro e w2 ⟨rfl, hb⟩
 go_wp2
 go_ret2
 exact ⟨rfl, hb⟩
theorem j_list (base g : Nat) (ok : Nat → Prop) (st : JSt) (w : World) (h : JM base ok g st w) (hl : st.cur.length ≤ 1000000000) :
  Calls Tryz.prog 18 #[.pointer (some ⟨g, 0, none⟩)] w fun e w' => ∃ v', e = .returned v' ∧ w'.ownsRow w.heap.size 82 2 v' st.cur.length (encP st.cur) ∧ Below w.heap.size w w' := by
 obtain ⟨gs, sv, lvv, vs, h⟩ := h
 have y0 : w.cell? ⟨g, 0, none⟩ = some (.pointer (some ⟨gs, 0, none⟩)) := (blk_cell h.blk 0).trans rfl
 have hst := h.store
 clear h
 go_enter Tryz.func18, Tryz.ntmps18
 go_wp2_with fail
 refine (st_list base gs sv st.cur _ hst hl).mono ?_
 rintro e w2 ⟨v2, rfl, o2, hb⟩
 go_wp2
 go_ret
 exact ⟨_, rfl, o2, hb⟩
theorem lvl_append (base : Nat) (v : Value) (l : List S128) (u : S128) (w : World) (ho : w.ownsRow base 128 3 v l.length (encU l)) (hn : l.length ≤ 1000000) (hb : base ≤ w.heap.size) (b : Nat) (hbk : w.heap[b]? = some (.cells #[.string u.f0, .string u.f1, .bool u.f2] 128 (0, 0))) (ty : TypeId) :
  ∃ v1 w1, (Builtin.append_ #[126, 126] ty #[v, .slice (some ⟨b, 0, none⟩) 1 1]).run Tryz.prog w = .ok v1 w1 ∧ w1.ownsRow base 128 3 v1 (l ++ [u]).length (encU (l ++ [u])) ∧ w.grownBy w1 v.ownBlock ∧ (v1.ownBlock = v.ownBlock ∨ ∃ b, v1.ownBlock = some b ∧ w.heap.size ≤ b) := by
 obtain ⟨i0, hi0, hz⟩ := Option.map_eq_some_iff.1 info128
 simp only [Prod.mk.injEq] at hz
 obtain ⟨hz0, hz1, hz2⟩ := hz
 obtain ⟨v1, w1, hrun, a1, a2, _, a3⟩ := run_append_own_at (P := Tryz.prog) (w := w) base 126 ty 128 i0 _ 3 40 Tryz.underlying126 hi0 hz0 hz1 hz2 rfl (by decide) v l.length (encU l) ho ⟨b, 0, none⟩ 1 1 [.string u.f0, .string u.f1, .bool u.f2] rfl
  (fun j x hj => by
   match j with
   | 0 => obtain rfl := Option.some.inj hj; exact (blk_cell hbk 0).trans rfl
   | 1 => obtain rfl := Option.some.inj hj; exact (blk_cell hbk 1).trans rfl
   | 2 => obtain rfl := Option.some.inj hj; exact (blk_cell hbk 2).trans rfl
   | j + 3 => exact absurd hj (by simp)) (by intro x hx; simp at hx; rcases hx with rfl | rfl | rfl <;> rfl) (by unfold maxLen; omega) (by omega) hb
 refine ⟨v1, w1, hrun, ?_, a2, a3.imp_right (fun h => ⟨_, h, Nat.le_refl _⟩)⟩
 rw [List.length_append, List.length_singleton, encU_append]
 exact a1
theorem j_note (base g : Nat) (ok : Nat → Prop) (st : JSt) (key : ByteArray) (w : World) (h : JM base ok g st w) (hl : st.cur.length ≤ 1000000000) (hn : st.lv.length ≤ 1000000) (hm : ∀ l ∈ st.lv, l.length ≤ 1000000) (hb : base ≤ w.heap.size) :
  Calls Tryz.prog 59 #[.pointer (some ⟨g, 0, none⟩), .string key] w (JPost base ok g (noteJ st key) (.tuple #[]) w) := by
 obtain ⟨gs, sv, lvv, vs, h⟩ := h
 obtain ⟨A, c, rfl, hnc, hc63⟩ := row_slice h.lv.own
 have y1 : w.cell? ⟨g, 1, none⟩ = some (.slice A st.lv.length c) := (blk_cell h.blk 1).trans rfl
 have y0 : w.cell? ⟨g, 0, none⟩ = some (.pointer (some ⟨gs, 0, none⟩)) := (blk_cell h.blk 0).trans rfl
 by_cases h0 : st.lv.length = 0
 ·have e : noteJ st key = st := by
   unfold noteJ
   rw [List.length_eq_zero_iff.1 h0]
   exact congrArg (JSt.mk st.cur) (List.length_eq_zero_iff.1 h0).symm
  rw [e]
  have hfin : JPost base ok g st (.tuple #[]) w (.returned (.tuple #[])) w := ⟨rfl, ⟨_, _, _, _, h.mono (fun k hk => .inl hk)⟩, JW.of_below (Below.refl _ _)⟩
  replace hfin := As_ hfin
  clear h
  rw [h0] at y1
  go_enter Tryz.func59, Tryz.ntmps59
  go_wp2
  go_end0
  exact hfin.out
 ·go_enter Tryz.func59, Tryz.ntmps59
  go_wp2_with fail
  refine (st_get base gs st.cur key _ h.store.at_ hl).mono ?_
  rintro e w2 ⟨rfl, hb2⟩
  have h2 := h.step hb2
  obtain ⟨b, rfl⟩ : ∃ b, A = some ⟨b, 0, none⟩ := by
   rcases h.lv.own.2 with ⟨e, hx⟩ | ⟨b, _, _, e, _⟩
   ·omega
   ·injection e with e; exact ⟨b, e⟩
  obtain ⟨i, hi⟩ : ∃ i, st.lv.length = i + 1 := ⟨st.lv.length - 1, by omega⟩
  have hiv : i < vs.length := by rw [h.lv.len]; omega
  have ev : vs[i]? = some vs[i] := List.getElem?_eq_getElem hiv
  obtain ⟨l, el, ol⟩ := h2.lv.get ev
  have cv : w2.cell? ⟨b, i, none⟩ = some vs[i] := by
   have := h2.lv.own.cells (g := b) rfl i vs[i] ev
   rwa [add_plain] at this
  have hll : l.length ≤ 1000000 := hm l (List.mem_of_getElem? el)
  have x1 : w2.cell? ⟨g, 1, none⟩ = some (.slice (some ⟨b, 0, none⟩) (i + 1) c) := by rw [← hi]; exact (blk_cell h2.blk 1).trans rfl
  rw [hi]
  have hwi : IntKind.i64.wrap (i : Int) = (i : Int) := by rw [i64_w]; unfold wrap64; omega
  go_upto_region 3 with (fail)
  refine start_ (n := 22) (S := fun w' => w'.cell? ⟨g, 1, none⟩ = some (.slice (some ⟨b, 0, none⟩) (i + 1) c) ∧ w'.cell? ⟨b, i, none⟩ = some vs[i]) (ds := [21]) #[false, false, false, false, false, false, false, false, false, false, false, false, false, false, false, false, false, false, false, false, false, false] (by kernel_rfl) rfl rfl ⟨x1, cv⟩ (fun hHeld => ?_)
  have J4 := As_ (h2.step (below_drew (Below.refl _ _)))
  have W4 := As_ ((JW.of_below hb2 : JW ok w w2).trans (JW.of_below (below_drew (Below.refl _ _)) : JW ok w2 w2.drew) (fun k hk => .inl hk))
  have O4 := As_ (own_below ol (below_drew (Below.refl _ _)))
  have hsz4 : w.heap.size ≤ w2.drew.heap.size := hb2.size
  clear h h2 ol x1 cv hb2
  generalize w2.drew = w4 at hHeld J4 W4 O4 hsz4 ⊢
  refine pure_ (i := 0) (N := some 23) #[true, false, false, false, false, false, false, false, false, false, false, false, false, false, false, false, false, false, false, false, false, false] rfl rfl (by kernel_rfl) (fun _ _ _ h => h) (Or.inl ⟨by rfl, ap2_⟩) ap35_ ?_
  refine pure_ (i := 1) (N := some 24) #[true, true, false, false, false, false, false, false, false, false, false, false, false, false, false, false, false, false, false, false, false, false] rfl rfl (by kernel_rfl) (fun _ _ _ h => h) (Or.inl ⟨by rfl, ap2_⟩) ap35_ ?_
  refine pure_ (i := 2) (N := some 25) #[true, true, true, false, false, false, false, false, false, false, false, false, false, false, false, false, false, false, false, false, false, false] rfl rfl (by kernel_rfl) (fun _ _ _ h => h) (Or.inl ⟨by rfl, ap2_⟩) ap35_ ?_
  refine take_ (i := 3) (N := some 26) #[true, true, true, true, false, false, false, false, false, false, false, false, false, false, false, false, false, false, false, false, false, false] rfl rfl (by kernel_rfl) (fun _ _ _ h => h) (Or.inl ⟨by rfl, ap6_⟩) hHeld ap35_ ?_
  refine pure_ (i := 4) (N := some 27) #[true, true, true, true, true, false, false, false, false, false, false, false, false, false, false, false, false, false, false, false, false, false] rfl rfl (by kernel_rfl) (fun _ _ _ h => h) (Or.inl ⟨by rfl, ap2_⟩) ap35_ ?_
  refine pure_ (i := 5) (N := some 28) #[true, true, true, true, true, true, false, false, false, false, false, false, false, false, false, false, false, false, false, false, false, false] rfl rfl (by kernel_rfl) (fun _ _ _ h => h) (Or.inl ⟨by rfl, (by intro w'; go_simp; (try rw [hwi]); with_reducible rfl)⟩) ap35_ ?_
  refine pure_ (i := 6) (N := some 29) #[true, true, true, true, true, true, true, false, false, false, false, false, false, false, false, false, false, false, false, false, false, false] rfl rfl (by kernel_rfl) (fun _ _ _ h => h) (Or.inl ⟨by rfl, ap2_⟩) ap35_ ?_
  refine pure_ (i := 7) (N := some 30) #[true, true, true, true, true, true, true, true, false, false, false, false, false, false, false, false, false, false, false, false, false, false] rfl rfl (by kernel_rfl) (fun _ _ _ h => h) (Or.inl ⟨by rfl, ap2_⟩) ap35_ ?_
  refine pure_ (i := 8) (N := some 31) #[true, true, true, true, true, true, true, true, true, false, false, false, false, false, false, false, false, false, false, false, false, false] rfl rfl (by kernel_rfl) (fun _ _ _ h => h) (Or.inl ⟨by rfl, ap2_⟩) ap35_ ?_
  refine take_ (i := 9) (N := some 32) #[true, true, true, true, true, true, true, true, true, true, false, false, false, false, false, false, false, false, false, false, false, false] rfl rfl (by kernel_rfl) (fun _ _ _ h => h) (Or.inl ⟨by rfl, ap6_⟩) hHeld ap35_ ?_
  refine pure_ (i := 10) (N := some 33) #[true, true, true, true, true, true, true, true, true, true, true, false, false, false, false, false, false, false, false, false, false, false] rfl rfl (by kernel_rfl) (fun _ _ _ h => h) (Or.inl ⟨by rfl, ap2_⟩) ap35_ ?_
  refine pure_ (i := 11) (N := some 34) #[true, true, true, true, true, true, true, true, true, true, true, true, false, false, false, false, false, false, false, false, false, false] rfl rfl (by kernel_rfl) (fun _ _ _ h => h) (Or.inl ⟨by rfl, (by intro w'; go_simp; (try rw [hwi]); with_reducible rfl)⟩) ap35_ ?_
  refine pure_ (i := 12) (N := some 35) #[true, true, true, true, true, true, true, true, true, true, true, true, true, false, false, false, false, false, false, false, false, false] rfl rfl (by kernel_rfl) (fun _ _ _ h => h) (Or.inl ⟨by rfl, (by intro w'; go_simp; rw [if_pos (by omega : (i : Int) < (i : Int) + 1)])⟩) ap35_ ?_
  refine take_ (i := 13) (N := some 36) #[true, true, true, true, true, true, true, true, true, true, true, true, true, true, false, false, false, false, false, false, false, false] rfl rfl (by kernel_rfl) (fun _ _ _ h => h) (Or.inl ⟨by rfl, ap6_⟩) hHeld ap35_ ?_
  refine pure_ (i := 14) (N := some 37) #[true, true, true, true, true, true, true, true, true, true, true, true, true, true, true, false, false, false, false, false, false, false] rfl rfl (by kernel_rfl) (fun _ _ _ h => h) (Or.inl ⟨by rfl, ap2_⟩) ap35_ ?_
  refine pure_ (i := 15) (N := some 38) #[true, true, true, true, true, true, true, true, true, true, true, true, true, true, true, true, false, false, false, false, false, false] rfl rfl (by kernel_rfl) (fun _ _ _ h => h) (Or.inl ⟨by rfl, ap2_⟩) ap35_ ?_
  refine pure_ (i := 16) (N := some 39) #[true, true, true, true, true, true, true, true, true, true, true, true, true, true, true, true, true, false, false, false, false, false] rfl rfl (by kernel_rfl) (fun _ _ _ h => h) (Or.inl ⟨by rfl, ap2_⟩) ap35_ ?_
  refine pure_ (i := 17) (N := some 40) #[true, true, true, true, true, true, true, true, true, true, true, true, true, true, true, true, true, true, false, false, false, false] rfl rfl (by kernel_rfl) (fun _ _ _ h => h) (Or.inl ⟨by rfl, ap2_⟩) ap35_ ?_
  refine one_ (i := 18) (N := some 41) #[true, true, true, true, true, true, true, true, true, true, true, true, true, true, true, true, true, true, true, false, false, false] rfl rfl (by kernel_rfl) (by decide) (fun K hK => ?_)
  refine value_ (w1 := ?_) (v := ?_) (by rfl) rfl ?_ ?_
  rotate_left 2
  ·go_simp
   constructor
   ·rfl
   ·rfl
  refine hK.out _ _ ⟨(blk_cell (blk_alloc J4.out.blk _) 1).trans (by rw [hi]; rfl), Lib.cell?_alloc_some _ hHeld.2⟩ (fun hHeld => ?_)
  clear hK K
  refine norm_ (a' := ?_) ?_ ?_
  rotate_left
  ·show Act.put _ (some 41) _ = _
   simp only [Act.put, List.setIfInBounds_toArray, List.set_cons_zero, List.set_cons_succ, i64_w, i32_w]
   rfl
  obtain ⟨v6, w6, hrun, o6, g6, at6⟩ := lvl_append base vs[i] l ⟨key, (getK st.cur key).1, (getK st.cur key).2⟩ (w4.alloc (.cells #[.string key, .string (getK st.cur key).1, .bool (getK st.cur key).2] 128)) (own_alloc O4.out _) hll (by rw [my_alloc_size]; omega) w4.heap.size (my_alloc_new w4 _) 126
  obtain ⟨A6, c6, rfl, _, _⟩ := row_slice o6
  have J5 := As_ (J4.out.step (below_alloc (Below.refl _ _) (.cells #[.string key, .string (getK st.cur key).1, .bool (getK st.cur key).2] 128)))
  have g5b : w6.heap[g]? = _ := (g6.block g (blk_lt J5.out.blk) (fun e => by obtain ⟨cs, hc⟩ := own_typed (own_alloc O4.out (.cells #[.string key, .string (getK st.cur key).1, .bool (getK st.cur key).2] 128)) g e.symm; exact absurd (blk_ty J5.out.blk hc) (by decide))).trans J5.out.blk
  obtain ⟨cb, hcb⟩ := own_typed J5.out.lv.own b rfl
  have b5b : w6.heap[b]? = _ := (g6.block b (blk_lt hcb) (fun e => by obtain ⟨cs, hc⟩ := own_typed (own_alloc O4.out (.cells #[.string key, .string (getK st.cur key).1, .bool (getK st.cur key).2] 128)) b e.symm; exact absurd (blk_ty hcb hc) (by decide))).trans hcb
  have cv6 : w6.cell? ⟨b, i, none⟩ = some vs[i] := (World.cell?_of_block (a := ⟨b, i, none⟩) (b5b.trans hcb.symm)).trans hHeld.2
  refine one_ (i := 19) (N := some 42) #[true, true, true, true, true, true, true, true, true, true, true, true, true, true, true, true, true, true, true, true, false, false] rfl rfl (by kernel_rfl) (by decide) (fun K hK => ?_)
  refine value_ (by rfl) rfl (exec_append _ _ _ _ rfl _ _ rfl rfl hrun) ?_
  refine hK.out _ _ ⟨(blk_cell g5b 1).trans (by rw [hi]; rfl), cv6⟩ (fun hHeld => ?_)
  clear hK K
  refine norm_ (a' := ?_) ?_ ?_
  rotate_left
  ·show Act.put _ (some 42) _ = _
   simp only [Act.put, List.setIfInBounds_toArray, List.set_cons_zero, List.set_cons_succ, i64_w, i32_w]
   rfl
  refine pure_ (i := 20) (N := some 43) #[true, true, true, true, true, true, true, true, true, true, true, true, true, true, true, true, true, true, true, true, true, false] rfl rfl (by kernel_rfl) (fun _ _ _ h => h) (Or.inl ⟨by rfl, (by intro w'; go_simp; rw [if_pos (by omega : (i : Int) < (i : Int) + 1)])⟩) ap35_ ?_
  refine last_ (i := 21) (N := none) #[true, true, true, true, true, true, true, true, true, true, true, true, true, true, true, true, true, true, true, true, true, true] rfl rfl (by kernel_rfl) (by decide) (fun K hK => ?_)
  have z6 := blk_frozen b5b i
  refine skip_ (w1 := w6.setCell ⟨b, i, none⟩ (.slice A6 (l ++ [(⟨key, (getK st.cur key).1, (getK st.cur key).2⟩ : S128)]).length c6)) (by rfl) rfl ?_ ?_
  ·go_simp
   try rfl
  refine hK.out _ _ ?_
  refine done_ (by kernel_rfl) ?_
  have hJ := J5.out.putLv ev o6 g6 at6 rfl
  have hfin : JPost base ok g (noteJ st key) (.tuple #[]) w (.returned (.tuple #[])) (w6.setCell ⟨b, i, none⟩ (.slice A6 (l ++ [(⟨key, (getK st.cur key).1, (getK st.cur key).2⟩ : S128)]).length c6)) := by
   have e : noteJ st key = ⟨st.cur, st.lv.set i (l ++ [(⟨key, (getK st.cur key).1, (getK st.cur key).2⟩ : S128)])⟩ := by
    unfold noteJ noteU lvAt
    rw [hi, Nat.add_sub_cancel, List.getD_eq_getElem?_getD, el]; rfl
   rw [e]
   have hsz5 : w4.heap.size ≤ (w4.alloc (.cells #[.string key, .string (getK st.cur key).1, .bool (getK st.cur key).2] 128)).heap.size := by rw [my_alloc_size]; omega
   refine ⟨rfl, ⟨_, _, _, _, hJ.mono (fun k hk => hk.imp_right (fun h => by omega))⟩, ((W4.out.trans (JW.of_below (below_alloc (Below.refl _ _) _) : JW ok w4 _) (fun k hk => .inl hk)).trans (JW.of_grown g6 (fun k e => J4.out.lv.oks i _ k ev e) : JW ok _ _) (fun k hk => .inl hk)).trans (JW.set (J4.out.lv.ok0 b rfl) i _) (fun k hk => .inl hk)⟩
  replace hfin := As_ hfin
  clear hJ g6 o6 at6 J4 J5 O4 W4 hHeld b5b g5b hcb cv6
  try go_wp2
  go_end0
  exact hfin.out
def IsS88 (w0 W : World) (g : Nat) (f0 : ByteArray) (f1 : Int) : Prop := W.heap[g]? = some (.cells #[.string f0, .int .i64 f1] 88 (0, 0)) ∧ w0.heap.size ≤ g
theorem IsS88.grown {w0 W : World} {g : Nat} {f0 : ByteArray} {f1 : Int} {W1 : World} {row : Option Nat} (h : IsS88 w0 W g f0 f1) (hw : W.grownBy W1 row) (hne : some g ≠ row) : IsS88 w0 W1 g f0 f1 := by
 obtain ⟨hb, hg⟩ := h
 exact ⟨blk_grown hb hw hne, hg⟩
theorem IsS88.kept {w0 W : World} {g : Nat} {f0 : ByteArray} {f1 : Int} {W1 : World} {S : Nat → Prop} (h : IsS88 w0 W g f0 f1) (hk : Kept W W1 S) (hne : ¬ S g) : IsS88 w0 W1 g f0 f1 := by
 obtain ⟨hb, hg⟩ := h
 exact ⟨blk_kept hb hk hne, hg⟩
theorem IsS88.below {w0 W : World} {g : Nat} {f0 : ByteArray} {f1 : Int} {W1 : World} (h : IsS88 w0 W g f0 f1) (hw : Below W.heap.size W W1) : IsS88 w0 W1 g f0 f1 := h.grown (grown_of_below hw none) (by simp)
theorem IsS88.alloc {w0 W : World} {g : Nat} {f0 : ByteArray} {f1 : Int} (h : IsS88 w0 W g f0 f1) (o : Obj) : IsS88 w0 (W.alloc o) g f0 f1 := h.below (below_alloc (Below.refl _ _) o)
theorem IsS88.drewN {w0 W : World} {g : Nat} {f0 : ByteArray} {f1 : Int} (h : IsS88 w0 W g f0 f1) (m : Nat) : IsS88 w0 (W.drewN m) g f0 f1 := h
theorem IsS88.drew {w0 W : World} {g : Nat} {f0 : ByteArray} {f1 : Int} (h : IsS88 w0 W g f0 f1) : IsS88 w0 W.drew g f0 f1 := h
theorem IsS88.at_ {w0 W : World} {g : Nat} {f0 : ByteArray} {f1 : Int} {w' : World} {m : Nat} (hq : W.drewN m = w') (h : IsS88 w0 W g f0 f1) : IsS88 w0 w' g f0 f1 := by subst hq; exact IsS88.drewN h m
theorem IsS88.own_ne {w0 W : World} {g : Nat} {f0 : ByteArray} {f1 : Int} {α : Type} {d : Kd α} {e : Nat} {base : Nat} {ok : Nat → Prop} {v : Value} {xs : List α} (h : IsS88 w0 W g f0 f1) (ho : d.R e W base ok v xs) (ht : e ≠ 88) : some g ≠ v.ownBlock := by
 obtain ⟨hb, hg⟩ := h
 exact Kd.R_ne ho hb ht
theorem IsS88.lt {w0 W : World} {g : Nat} {f0 : ByteArray} {f1 : Int} (h : IsS88 w0 W g f0 f1) : g < W.heap.size := by
 obtain ⟨hb, hg⟩ := h
 exact blk_lt hb
theorem IsS88.ge {w0 W : World} {g : Nat} {f0 : ByteArray} {f1 : Int} (h : IsS88 w0 W g f0 f1) : w0.heap.size ≤ g := by
 obtain ⟨hb, hg⟩ := h
 exact hg
theorem IsS88.ne_blk {w0 W : World} {g : Nat} {f0 : ByteArray} {f1 : Int} {a : Nat} {cs : Array Value} {t : TypeId} {fr : Nat × Nat} (h : IsS88 w0 W g f0 f1) (hb2 : W.heap[a]? = some (.cells cs t fr)) (ht : t ≠ 88) : g ≠ a := by
 obtain ⟨hb, hg⟩ := h
 rintro rfl
 rw [hb] at hb2
 injection hb2 with hb2
 injection hb2 with _ ht2
 exact ht ht2.symm
theorem IsS88.far {w0 W : World} {g : Nat} {f0 : ByteArray} {f1 : Int} {p : Addr} (h : IsS88 w0 W g f0 f1) (hne : g ≠ p.block) (u : Value) : IsS88 w0 (W.setCell p u) g f0 f1 := by
 obtain ⟨hb, hg⟩ := h
 exact ⟨blk_far hb hne u, hg⟩
theorem cellS88_0 {W : World} {g : Nat} {f0 : ByteArray} {f1 : Int} (h : W.heap[g]? = some (.cells #[.string f0, .int .i64 f1] 88 (0, 0))) : W.cell? ⟨g, 0, none⟩ = some (.string f0) := (blk_cell h 0).trans rfl
theorem IsS88.set_0 {w0 W : World} {g : Nat} {f0 : ByteArray} {f1 : Int} (h : IsS88 w0 W g f0 f1) (x : ByteArray) : IsS88 w0 (W.setCell ⟨g, 0, none⟩ (.string x)) g x f1 := by
 obtain ⟨hb, hg⟩ := h
 exact ⟨by simpa using blk_set hb 0 (.string x), hg⟩
theorem cellS88_1 {W : World} {g : Nat} {f0 : ByteArray} {f1 : Int} (h : W.heap[g]? = some (.cells #[.string f0, .int .i64 f1] 88 (0, 0))) : W.cell? ⟨g, 1, none⟩ = some (.int .i64 f1) := (blk_cell h 1).trans rfl
theorem IsS88.set_1 {w0 W : World} {g : Nat} {f0 : ByteArray} {f1 : Int} (h : IsS88 w0 W g f0 f1) (x : Int) : IsS88 w0 (W.setCell ⟨g, 1, none⟩ (.int .i64 x)) g f0 x := by
 obtain ⟨hb, hg⟩ := h
 exact ⟨by simpa using blk_set hb 1 (.int .i64 x), hg⟩
theorem IsS88.new (w0 W : World) (f0 : ByteArray) (f1 : Int) (hB : Below w0.heap.size w0 W) : IsS88 w0 (W.alloc (.cells #[.string f0, .int .i64 f1] 88)) W.heap.size f0 f1 := ⟨by simpa using heap_alloc_new W _, hB.size⟩
def wire_New.f (a0 : ByteArray) : Option (ByteArray × Int) := some (a0, 0)
theorem wire_New.calls (a0 : ByteArray) (r1 : ByteArray) (r2 : Int) (w0 w : World) (hB : Below w0.heap.size w0 w) (h : wire_New.f a0 = some (r1, r2)) :
  Calls Tryz.prog 22 #[.string a0] w fun e w' => ∃ g_ : Nat, e = .returned (.pointer (some ⟨g_, 0, none⟩)) ∧ IsS88 w0 w' g_ r1 r2 ∧ Below w0.heap.size w0 w' ∧ Below w.heap.size w w' := by
 have hu88 := Tryz.underlying88
 have HBW := As_ (Below.refl w.heap.size w)
 have HW0 := As_ hB.size
 have HB := As_ hB
 clear hB
 have H : (some (a0, 0)) = some (r1, r2) := h
 clear h
 simp only [Option.some.injEq, Prod.mk.injEq] at H
 obtain ⟨rfl, rfl⟩ := H
 go_enter Tryz.func22, Tryz.ntmps22
 go_wp2_with (first | ((with_reducible refine gate_dst (N := 5) rfl ?_); refine bxE (N := 5) (cs := #[.string a0, .int .i64 0]) (t := 88) ?_; intro gb121 hg w2 hbox hb; replace HB := As_ (below_step ap50_ hb); have BK121 := As_ (hbox); have GW121 := As_ ((by rw [hg]; exact (below_size ap53_) : w.heap.size ≤ gb121)); have GE121 := As_ ((Nat.le_trans HW0.out (by rw [hg]; exact (below_size ap53_) : w.heap.size ≤ gb121) : w0.heap.size ≤ gb121)); replace HBW := As_ (below_step HBW.out hb); clear hb hbox hg))
 go_ret
 exact ⟨_, rfl, (show IsS88 w0 _ gb121 a0 0 from ⟨by (with_reducible repeat (first | refine blk_drewN ?_ _ | refine blk_drew ?_ | refine blk_alloc ?_ _)); exact BK121.out, GE121.out⟩), by repeat (first | (with_reducible first | exact HB.out | apply below_alloc | apply pw_below_drewN | apply below_drew1 | refine below_set ?_ GE121.out) | exact HB.out), by repeat (first | (with_reducible first | exact HBW.out | apply below_alloc | apply pw_below_drewN | apply below_drew1 | refine below_set ?_ GW121.out) | exact HBW.out)⟩
def wire_Reader_stopped.f (s0_0 : ByteArray) (s0_1 : Int) : Option (Bool × ByteArray × Int) := some ((s0_1 != 0), s0_0, s0_1)
theorem wire_Reader_stopped.calls (g : Nat) (s0_0 : ByteArray) (s0_1 : Int) (r1 : Bool) (r2 : ByteArray) (r3 : Int) (w0 w : World) (hI : IsS88 w0 w g s0_0 s0_1) (hB : Below w0.heap.size w0 w) (h : wire_Reader_stopped.f s0_0 s0_1 = some (r1, r2, r3)) :
  Calls Tryz.prog 50 #[.pointer (some ⟨g, 0, none⟩)] w fun e w' => e = .returned (.bool r1) ∧ IsS88 w0 w' g r2 r3 ∧ Below w0.heap.size w0 w' ∧ KeepBut w w' g none := by
 have HI0 := As_ hI
 have HK := As_ (KeepBut.refl w g none)
 have HL := As_ hB.size
 clear hI
 have HW0 := As_ hB.size
 have HB := As_ hB
 clear hB
 have H : (some ((s0_1 != 0), s0_0, s0_1)) = some (r1, r2, r3) := h
 clear h
 simp only [Option.some.injEq, Prod.mk.injEq] at H
 obtain ⟨rfl, rfl, rfl⟩ := H
 obtain ⟨HGz2, hgz2⟩ := HI0.out
 have hcz2_0 := cellS88_0 HGz2
 have hcz2_1 := cellS88_1 HGz2
 have hfz2_0 := blk_frozen HGz2 0
 have hfz2_1 := blk_frozen HGz2 1
 clear HGz2 hgz2
 go_enter Tryz.func50, Tryz.ntmps50
 go_wp2
 go_ret
 exact ⟨ap17_, ap71_, ap72_, ap55_⟩
end Go.Proofs.YtjappgjpikbdeaaGreatDoor.PTkp
