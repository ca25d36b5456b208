/- A part of the walk of QuotaPlays. No condition. -/
import Derived.Test.YtgapkicplhbidaaGreatDoorPQupx0
import Derived.Test.YtgapkicplhbidaaGreatDoorPQupx1
import Derived.Test.YtgapkicplhbidaaGreatDoorPQupx2
namespace Go.Proofs.YtgapkicplhbidaaGreatDoor.PQup
set_option maxRecDepth 100000
set_option maxHeartbeats 8000000
open Go.RowKit Go.Proofs.YtgapkicplhbidaaGreatDoorW.PrintWords Go.Proofs.YtgapkicplhbidaaGreatDoorW.PrintLast Go.Proofs.YtgapkicplhbidaaGreatDoorW.PrintMore
attribute [local go_sem] max2_int min2_int max_two min_two max_three min_three max_four min_four   -- for this text's walks alone
set_option linter.unusedVariables false
set_option linter.unusedSimpArgs false
theorem sortK_ext : ∀ (a b : List S55), sortK a → sortK b → (∀ p, p ∈ a ↔ p ∈ b) → a = b
 | [], [], _, _, _ => rfl
 | [], y :: b, _, _, h => absurd ((h y).2 List.mem_cons_self) (by simp)
 | x :: a, [], _, _, h => absurd ((h x).1 List.mem_cons_self) (by simp)
 | x :: a, y :: b, ha, hb, h => by
  have hxa := fun p (hp : p ∈ a) => List.rel_of_pairwise_cons ha hp
  have hyb := fun p (hp : p ∈ b) => List.rel_of_pairwise_cons hb hp
  have hxy : x = y := by
   rcases List.mem_cons.1 ((h x).1 List.mem_cons_self) with e | e
   ·exact e
   ·rcases List.mem_cons.1 ((h y).2 List.mem_cons_self) with e2 | e2
    ·exact e2.symm
    ·have := kLt_trans (hyb x e) (hxa y e2)
     rw [kLt_irr] at this; cases this
  subst hxy
  rw [sortK_ext a b (List.Pairwise.of_cons ha) (List.Pairwise.of_cons hb) (fun p => ?_)]
  constructor
  ·intro hp
   rcases List.mem_cons.1 ((h p).1 (List.mem_cons_of_mem _ hp)) with rfl | e
   ·have := hxa _ hp
    rw [kLt_irr] at this; cases this
   ·exact e
  ·intro hp
   rcases List.mem_cons.1 ((h p).2 (List.mem_cons_of_mem _ hp)) with rfl | e
   ·have := hyb _ hp
    rw [kLt_irr] at this; cases this
   ·exact e
theorem getK_iff {a : List S55} (ha : sortK a) (p : S55) : p ∈ a ↔ getK a p.f0 = (p.f1, true) := by
 constructor
 ·intro hp; exact (getK_mem ha hp).1
 ·intro e
  have hh : hasK a p.f0 = true := by
   unfold getK at e
   split at e
   ·assumption
   ·exact Bool.noConfusion (congrArg Prod.snd e : false = true)
  obtain ⟨q, hq, hqk⟩ := hasK_in hh
  have h2 := (getK_mem ha hq).1
  rw [hqk, e] at h2
  have h3 : p.f1 = q.f1 := congrArg Prod.fst h2
  obtain ⟨p0, p1⟩ := p
  obtain ⟨q0, q1⟩ := q
  simp only at hqk h3
  subst hqk h3
  exact hq
theorem sortK_get {a b : List S55} (ha : sortK a) (hb : sortK b) (h : ∀ k, getK a k = getK b k) : a = b :=
 sortK_ext a b ha hb (fun p => by rw [getK_iff ha, getK_iff hb, h])
theorem getK_setK {l : List S55} (hs : sortK l) (key value k2 : ByteArray) : getK (setK l key value) k2 = if k2 = key then (value, true) else getK l k2 := by
 by_cases h : k2 = key
 ·rw [if_pos h, h]; exact getK_set hs key value
 ·rw [if_neg h]; exact (hasK_setK hs value h).2
theorem getK_delK {l : List S55} (hs : sortK l) (key k2 : ByteArray) : getK (delK l key) k2 = if k2 = key then ((⟨#[]⟩ : ByteArray), false) else getK l k2 := by
 by_cases h : k2 = key
 ·rw [if_pos h, h]; exact getK_no (hasK_gone hs key)
 ·rw [if_neg h]; exact (hasK_delK hs h).2
theorem sortK_setC {l : List S55} (hs : sortK l) (key value : ByteArray) : sortK (setC l key value) := by
 unfold setC
 split
 ·exact hs
 ·exact sortK_set hs _ _
theorem getK_setC {l : List S55} (hs : sortK l) (key value k2 : ByteArray) : getK (setC l key value) k2 = if k2 = key ∧ ¬ (key.size > 65536 ∨ value.size > 65536) then (value, true) else getK l k2 := by
 unfold setC
 by_cases hb : key.size > 65536 ∨ value.size > 65536
 ·rw [if_pos hb, if_neg (fun e => e.2 hb)]
 ·rw [if_neg hb, getK_setK hs]
  by_cases h : k2 = key
  ·rw [if_pos h, if_pos ⟨h, hb⟩]
  ·rw [if_neg h, if_neg (fun e => h e.1)]
theorem strOf_list (l : List Int) : (strOfNums l).toList = l.map fun n => UInt8.ofNat n.toNat := by rw [ByteArray.toList_eq, strOfNums_data]
def valD (l : List Int) : Nat := l.foldl (fun a d => a * 256 + d.toNat) 0
theorem valD_snoc (l : List Int) (d : Int) : valD (l ++ [d]) = valD l * 256 + d.toNat := by unfold valD; rw [List.foldl_append]; rfl
theorem digB_val : ∀ k n, n < 256 ^ k → valD (digB k n) = n
 | 0, n, h => by
  have : n = 0 := by simpa using h
  subst this; rfl
 | k + 1, n, h => by
  unfold digB
  split
  ·rename_i h0; subst h0; rfl
  ·rw [valD_snoc, digB_val k (n / 256) ap10_, Int.toNat_natCast]; omega
theorem digB_rng : ∀ k n, ∀ d ∈ digB k n, 0 ≤ d ∧ d < 256
 | 0, _, d, h => by simp [digB] at h
 | k + 1, n, d, h => by
  unfold digB at h
  split at h
  ·simp at h
  ·rcases List.mem_append.1 h with h | h
   ·exact digB_rng k _ d h
   ·obtain rfl := List.mem_singleton.1 h
    omega
theorem digB_le : ∀ k n m, n < 256 ^ m → (digB k n).length ≤ m
 | 0, _, _, _ => Nat.zero_le _
 | k + 1, n, m, h => by
  unfold digB
  split
  ·exact Nat.zero_le _
  ·cases m with
   | zero => simp at h; omega
   | succ m =>
    have := digB_le k (n / 256) m ap10_
    rw [List.length_append, List.length_singleton]; omega
theorem digB_0 : ∀ k, digB k 0 = []
 | 0 => rfl
 | k + 1 => by unfold digB; exact if_pos rfl
theorem digB_head : ∀ k n, n < 256 ^ k → n ≠ 0 → ∃ d t, digB k n = d :: t ∧ d ≠ 0
 | 0, n, h, h0 => by simp at h; omega
 | k + 1, n, h, h0 => by
  unfold digB
  rw [if_neg h0]
  by_cases h1 : n / 256 = 0
  ·rw [h1, digB_0]; exact ⟨_, _, rfl, by omega⟩
  ·obtain ⟨d, t, e, hd⟩ := digB_head k (n / 256) ap10_ h1
   rw [e]; exact ⟨d, _, rfl, hd⟩
theorem nBy_val {s : ByteArray} {ds : List Int} (h : ∀ i (hi : i < ds.length), bt s ((i + 1 : Nat) : Int) = ds[i]) : ∀ i, i ≤ ds.length → nBy s i = valD (ds.take i)
 | 0, _ => by rw [List.take_zero]; rfl
 | i + 1, hi => by
  have e : nBy s (i + 1) = nBy s i * 256 + (bt s ((i + 1 : Nat) : Int)).toNat := rfl
  rw [e, nBy_val h i (by omega), h i (by omega), List.take_add_one, List.getElem?_eq_getElem (by omega)]
  exact (valD_snoc _ _).symm
theorem bt_put {a : List Int} {t : ByteArray} (hr : ∀ d ∈ a, 0 ≤ d ∧ d < 256) (i : Nat) (hi : i < a.length) : bt (strOfNums a ++ t) (i : Int) = a[i] := by
 have hl : i < (strOfNums a ++ t).toList.length := by rw [ba_append, strOf_list, List.length_append, List.length_map]; omega
 rw [bt_get _ i hl]
 have e : (strOfNums a ++ t).toList[i] = UInt8.ofNat (a[i]).toNat := by
  simp only [ba_append, strOf_list]
  rw [List.getElem_append_left (by rw [List.length_map]; exact hi), List.getElem_map]
 rw [e]
 have := hr _ (List.getElem_mem hi)
 rw [UInt8.toNat_ofNat']
 omega
theorem numB_one (n : Nat) : numB n = strOfNums (((digB 8 n).length : Int) :: digB 8 n) := by
 unfold numB
 apply ba_ext
 rw [ba_append, strOf_list, strOf_list, strOf_list]; rfl
theorem numW_numB (n : Nat) (h : n ≤ 9007199254740992) (t : ByteArray) : numW (numB n ++ t) = ((n : Int), ((digB 8 n).length : Int) + 1, 0) := by
 have h7 : (digB 8 n).length ≤ 7 := digB_le 8 n 7 (by omega)
 have hr : ∀ d ∈ (((digB 8 n).length : Int) :: digB 8 n), 0 ≤ d ∧ d < 256 := fun d hd => by
  rcases List.mem_cons.1 hd with rfl | hd
  ·omega
  ·exact digB_rng _ _ d hd
 have hv := digB_val 8 n (by omega)
 have hh := digB_head 8 n (by omega)
 have h0 := digB_0 8
 rw [numB_one]
 generalize hD : digB 8 n = D at h7 hr hv hh
 have b0 : bt (strOfNums ((D.length : Int) :: D) ++ t) 0 = (D.length : Int) := bt_put hr 0 (by simp)
 have hb : ∀ i (hi : i < D.length), bt (strOfNums ((D.length : Int) :: D) ++ t) ((i + 1 : Nat) : Int) = D[i] := fun i hi => bt_put hr (i + 1) (by simpa using hi)
 have hn : nBy (strOfNums ((D.length : Int) :: D) ++ t) D.length = n := by rw [nBy_val hb D.length (Nat.le_refl _), List.take_length, hv]
 have hs : (strOfNums ((D.length : Int) :: D) ++ t).size = D.length + 1 + t.size := by rw [ByteArray.size_append, strOfNums_sz, List.length_cons]
 unfold numW wire_number.f
 rw [if_neg (by omega), b0, if_neg (by
  rintro (e | ⟨e1, e2, e3⟩)
  ·omega
  ·by_cases hz : n = 0
   ·rw [hz, h0] at hD; subst hD; simp at e1
   ·obtain ⟨d, u, e, hd⟩ := hh hz
    have := hb 0 (by omega)
    subst e
    exact hd (this.symm.trans e3)), if_neg (by omega), Int.toNat_natCast, hn, if_neg (by omega)]
 rfl
theorem rNum_numB (n : Nat) (h : n ≤ 9007199254740992) (t : ByteArray) : rNum (numB n ++ t) 0 = ((n : Int), t, 0) := by
 unfold rNum
 rw [numW_numB n h t, if_pos rfl]
 dsimp only
 rw [if_pos rfl]
 congr 2
 apply ba_ext
 rw [ba_extract, ba_size (numB n ++ t), List.take_length, ba_append]
 have hl : (numB n).toList.length = (((digB 8 n).length : Int) + 1).toNat := by rw [← ba_size, numB_one, strOfNums_sz, List.length_cons]; omega
 rw [← hl, List.drop_left]
theorem rNum_numB0 (n : Nat) (h : n ≤ 9007199254740992) : rNum (numB n) 0 = ((n : Int), (⟨#[]⟩ : ByteArray), 0) := by
 have := rNum_numB n h (⟨#[]⟩ : ByteArray)
 rw [show numB n ++ (⟨#[]⟩ : ByteArray) = numB n from ba_ext (by rw [ba_append]; simp [ByteArray.toList_eq])] at this
 exact this
theorem keyB_ne {a b : ByteArray} {l m : List ByteArray} {c d : UInt8} {t u : List UInt8} (ha : a.toList = c :: t) (hb : b.toList = d :: u) (h1 : c ≠ 37) (h2 : c ≠ 47) (h3 : d ≠ 37) (h4 : d ≠ 47) (h : c ≠ d) : keyB a l ≠ keyB b m := fun e => by
 have x := key_head a l c t ha h1 h2
 rw [e, key_head b m d u hb h3 h4] at x
 exact h (Option.some.inj x).symm
theorem hidL_inj : ∀ a b : List UInt8, hidL a = hidL b → a = b
 | [], [], _ => rfl
 | [], y :: b, h => by
  rw [hidL_cons] at h
  split at h
  ·cases h
  ·split at h <;> cases h
 | x :: a, [], h => by
  rw [hidL_cons] at h
  split at h
  ·cases h
  ·split at h <;> cases h
 | x :: a, y :: b, h => by
  rw [hidL_cons, hidL_cons] at h
  by_cases x1 : x = 37
  ·rw [if_pos x1] at h
   by_cases y1 : y = 37
   ·rw [if_pos y1] at h
    rw [x1, y1, hidL_inj a b (by simpa using h)]
   ·rw [if_neg y1] at h
    by_cases y2 : y = 47
    ·rw [if_pos y2] at h; simp at h
    ·rw [if_neg y2] at h; simp only [List.cons_append, List.nil_append, List.cons.injEq] at h; exact absurd h.1.symm y1
  ·rw [if_neg x1] at h
   by_cases x2 : x = 47
   ·rw [if_pos x2] at h
    by_cases y1 : y = 37
    ·rw [if_pos y1] at h; simp at h
    ·rw [if_neg y1] at h
     by_cases y2 : y = 47
     ·rw [if_pos y2] at h
      rw [x2, y2, hidL_inj a b (by simpa using h)]
     ·rw [if_neg y2] at h; simp only [List.cons_append, List.nil_append, List.cons.injEq] at h; exact absurd h.1.symm y1
   ·rw [if_neg x2] at h
    by_cases y1 : y = 37
    ·rw [if_pos y1] at h; simp only [List.cons_append, List.nil_append, List.cons.injEq] at h; exact absurd h.1 x1
    ·rw [if_neg y1] at h
     by_cases y2 : y = 47
     ·rw [if_pos y2] at h; simp only [List.cons_append, List.nil_append, List.cons.injEq] at h; exact absurd h.1 x1
     ·rw [if_neg y2] at h
      simp only [List.cons_append, List.nil_append, List.cons.injEq] at h
      rw [h.1, hidL_inj a b h.2]
theorem ofL_inj {a b : List UInt8} (h : ofL a = ofL b) : a = b := by
 have h2 := congrArg ByteArray.toList h
 rwa [ofL_toList, ofL_toList] at h2
def HeldC (g : Nat) (cs : Array Value) (t : TypeId) (w : World) : Prop := w.heap[g]? = some (.cells cs t (0, 0))
theorem HeldC.of {g : Nat} {cs : Array Value} {t : TypeId} {w : World} (h : w.heap[g]? = some (.cells cs t (0, 0))) : HeldC g cs t w := h
theorem HeldC.blk {g : Nat} {cs : Array Value} {t : TypeId} {w : World} (h : HeldC g cs t w) : w.heap[g]? = some (.cells cs t (0, 0)) := h
theorem at_world {g : Nat} {cs : Array Value} {t : TypeId} {w : World} (_ : HeldC g cs t w) {F : World → Prop} (h : F w) : Aside0 (F w) := As_ h
theorem cellsN2 {w : World} {g : Nat} {a0 a1 : Value} {t : TypeId} (h : w.heap[g]? = some (.cells #[a0, a1] t (0, 0))) : w.cell? ⟨g, 0, none⟩ = some a0 ∧ w.frozen? ⟨g, 0, none⟩ = false ∧ w.cell? ⟨g, 1, none⟩ = some a1 ∧ w.frozen? ⟨g, 1, none⟩ = false :=
 ⟨(blk_cell h 0).trans rfl, blk_frozen h 0, (blk_cell h 1).trans rfl, blk_frozen h 1⟩
theorem cellsN4 {w : World} {g : Nat} {a0 a1 a2 a3 : Value} {t : TypeId} (h : w.heap[g]? = some (.cells #[a0, a1, a2, a3] t (0, 0))) : w.cell? ⟨g, 0, none⟩ = some a0 ∧ w.frozen? ⟨g, 0, none⟩ = false ∧ w.cell? ⟨g, 1, none⟩ = some a1 ∧ w.frozen? ⟨g, 1, none⟩ = false ∧ w.cell? ⟨g, 2, none⟩ = some a2 ∧ w.frozen? ⟨g, 2, none⟩ = false ∧ w.cell? ⟨g, 3, none⟩ = some a3 ∧ w.frozen? ⟨g, 3, none⟩ = false :=
 ⟨(blk_cell h 0).trans rfl, blk_frozen h 0, (blk_cell h 1).trans rfl, blk_frozen h 1, (blk_cell h 2).trans rfl, blk_frozen h 2, (blk_cell h 3).trans rfl, blk_frozen h 3⟩
theorem blk_fin {w : World} {g : Nat} {c c' : Array Value} {q : TypeId} (h : w.heap[g]? = some (.cells c q (0, 0))) (e : c = c') : w.heap[g]? = some (.cells c' q (0, 0)) := e ▸ h
theorem blk_put_ {w : World} {g : Nat} {q : TypeId} {cs : Array Value} {k : Nat} {v : Value} (h : w.heap[g]? = some (.cells cs q (0, 0))) : (w.setCell ⟨g, k, none⟩ v).heap[g]? = some (.cells (cs.setIfInBounds k v) q (0, 0)) := blk_put h k v rfl
theorem blk_far_ {w : World} {g b k : Nat} {t : TypeId} {cs : Array Value} {u : Value} (hp : g ≠ b) (h : w.heap[g]? = some (.cells cs t (0, 0))) : (w.setCell ⟨b, k, none⟩ u).heap[g]? = some (.cells cs t (0, 0)) := blk_far h hp u
theorem bkR_a {p : Prop} (h : p := by repeat (with_reducible first | exact BKa.out | apply blk_drewN | apply blk_drew | apply blk_alloc | apply blk_put_ | apply blk_far_ NBa_c.out | apply blk_far_ NBa_d.out | apply blk_far_ NBa_h.out | apply blk_far_ NBa_j.out | apply blk_far_ NBa_m.out | apply blk_far_ NBa_n.out | apply blk_far_ NBa_q.out | apply blk_far_ NBa_t.out | apply blk_far_ NBa_x.out | apply blk_far_ NBa_y.out | apply blk_far_ NBa_z.out | apply blk_far_ NBa_s.out | apply blk_far_ NBa_p.out | apply blk_far_ NBa_b.out | apply blk_far_ NBa_e.out)) : p := h
theorem bkR_c {p : Prop} (h : p := by repeat (with_reducible first | exact BKc.out | apply blk_drewN | apply blk_drew | apply blk_alloc | apply blk_put_ | apply blk_far_ NBc_a.out | apply blk_far_ NBc_d.out | apply blk_far_ NBc_h.out | apply blk_far_ NBc_j.out | apply blk_far_ NBc_m.out | apply blk_far_ NBc_n.out | apply blk_far_ NBc_q.out | apply blk_far_ NBc_t.out | apply blk_far_ NBc_x.out | apply blk_far_ NBc_y.out | apply blk_far_ NBc_z.out | apply blk_far_ NBc_s.out | apply blk_far_ NBc_p.out | apply blk_far_ NBc_b.out | apply blk_far_ NBc_e.out)) : p := h
theorem bkR_d {p : Prop} (h : p := by repeat (with_reducible first | exact BKd.out | apply blk_drewN | apply blk_drew | apply blk_alloc | apply blk_put_ | apply blk_far_ NBd_a.out | apply blk_far_ NBd_c.out | apply blk_far_ NBd_h.out | apply blk_far_ NBd_j.out | apply blk_far_ NBd_m.out | apply blk_far_ NBd_n.out | apply blk_far_ NBd_q.out | apply blk_far_ NBd_t.out | apply blk_far_ NBd_x.out | apply blk_far_ NBd_y.out | apply blk_far_ NBd_z.out | apply blk_far_ NBd_s.out | apply blk_far_ NBd_p.out | apply blk_far_ NBd_b.out | apply blk_far_ NBd_e.out)) : p := h
theorem bkG_d {p : Prop} (h : p := by first | (with_reducible exact BKd.out) | exact blk_fin bkR_d (by rfl) | exact BKd.out) : p := h
theorem bkR_h {p : Prop} (h : p := by repeat (with_reducible first | exact BKh.out | apply blk_drewN | apply blk_drew | apply blk_alloc | apply blk_put_ | apply blk_far_ NBh_a.out | apply blk_far_ NBh_c.out | apply blk_far_ NBh_d.out | apply blk_far_ NBh_j.out | apply blk_far_ NBh_m.out | apply blk_far_ NBh_n.out | apply blk_far_ NBh_q.out | apply blk_far_ NBh_t.out | apply blk_far_ NBh_x.out | apply blk_far_ NBh_y.out | apply blk_far_ NBh_z.out | apply blk_far_ NBh_s.out | apply blk_far_ NBh_p.out | apply blk_far_ NBh_b.out | apply blk_far_ NBh_e.out)) : p := h
theorem bkR_j {p : Prop} (h : p := by repeat (with_reducible first | exact BKj.out | apply blk_drewN | apply blk_drew | apply blk_alloc | apply blk_put_ | apply blk_far_ NBj_a.out | apply blk_far_ NBj_c.out | apply blk_far_ NBj_d.out | apply blk_far_ NBj_h.out | apply blk_far_ NBj_m.out | apply blk_far_ NBj_n.out | apply blk_far_ NBj_q.out | apply blk_far_ NBj_t.out | apply blk_far_ NBj_x.out | apply blk_far_ NBj_y.out | apply blk_far_ NBj_z.out | apply blk_far_ NBj_s.out | apply blk_far_ NBj_p.out | apply blk_far_ NBj_b.out | apply blk_far_ NBj_e.out)) : p := h
theorem bkR_m {p : Prop} (h : p := by repeat (with_reducible first | exact BKm.out | apply blk_drewN | apply blk_drew | apply blk_alloc | apply blk_put_ | apply blk_far_ NBm_a.out | apply blk_far_ NBm_c.out | apply blk_far_ NBm_d.out | apply blk_far_ NBm_h.out | apply blk_far_ NBm_j.out | apply blk_far_ NBm_n.out | apply blk_far_ NBm_q.out | apply blk_far_ NBm_t.out | apply blk_far_ NBm_x.out | apply blk_far_ NBm_y.out | apply blk_far_ NBm_z.out | apply blk_far_ NBm_s.out | apply blk_far_ NBm_p.out | apply blk_far_ NBm_b.out | apply blk_far_ NBm_e.out)) : p := h
theorem bkR_n {p : Prop} (h : p := by repeat (with_reducible first | exact BKn.out | apply blk_drewN | apply blk_drew | apply blk_alloc | apply blk_put_ | apply blk_far_ NBn_a.out | apply blk_far_ NBn_c.out | apply blk_far_ NBn_d.out | apply blk_far_ NBn_h.out | apply blk_far_ NBn_j.out | apply blk_far_ NBn_m.out | apply blk_far_ NBn_q.out | apply blk_far_ NBn_t.out | apply blk_far_ NBn_x.out | apply blk_far_ NBn_y.out | apply blk_far_ NBn_z.out | apply blk_far_ NBn_s.out | apply blk_far_ NBn_p.out | apply blk_far_ NBn_b.out | apply blk_far_ NBn_e.out)) : p := h
theorem bkG_n {p : Prop} (h : p := by first | (with_reducible exact BKn.out) | exact blk_fin bkR_n (by rfl) | exact BKn.out) : p := h
theorem bkR_q {p : Prop} (h : p := by repeat (with_reducible first | exact BKq.out | apply blk_drewN | apply blk_drew | apply blk_alloc | apply blk_put_ | apply blk_far_ NBq_a.out | apply blk_far_ NBq_c.out | apply blk_far_ NBq_d.out | apply blk_far_ NBq_h.out | apply blk_far_ NBq_j.out | apply blk_far_ NBq_m.out | apply blk_far_ NBq_n.out | apply blk_far_ NBq_t.out | apply blk_far_ NBq_x.out | apply blk_far_ NBq_y.out | apply blk_far_ NBq_z.out | apply blk_far_ NBq_s.out | apply blk_far_ NBq_p.out | apply blk_far_ NBq_b.out | apply blk_far_ NBq_e.out)) : p := h
theorem bkG_q {p : Prop} (h : p := by first | (with_reducible exact BKq.out) | exact blk_fin bkR_q (by rfl) | exact BKq.out) : p := h
theorem bkR_t {p : Prop} (h : p := by repeat (with_reducible first | exact BKt.out | apply blk_drewN | apply blk_drew | apply blk_alloc | apply blk_put_ | apply blk_far_ NBt_a.out | apply blk_far_ NBt_c.out | apply blk_far_ NBt_d.out | apply blk_far_ NBt_h.out | apply blk_far_ NBt_j.out | apply blk_far_ NBt_m.out | apply blk_far_ NBt_n.out | apply blk_far_ NBt_q.out | apply blk_far_ NBt_x.out | apply blk_far_ NBt_y.out | apply blk_far_ NBt_z.out | apply blk_far_ NBt_s.out | apply blk_far_ NBt_p.out | apply blk_far_ NBt_b.out | apply blk_far_ NBt_e.out)) : p := h
theorem bkG_t {p : Prop} (h : p := by first | (with_reducible exact BKt.out) | exact blk_fin bkR_t (by rfl) | exact BKt.out) : p := h
theorem bkR_x {p : Prop} (h : p := by repeat (with_reducible first | exact BKx.out | apply blk_drewN | apply blk_drew | apply blk_alloc | apply blk_put_ | apply blk_far_ NBx_a.out | apply blk_far_ NBx_c.out | apply blk_far_ NBx_d.out | apply blk_far_ NBx_h.out | apply blk_far_ NBx_j.out | apply blk_far_ NBx_m.out | apply blk_far_ NBx_n.out | apply blk_far_ NBx_q.out | apply blk_far_ NBx_t.out | apply blk_far_ NBx_y.out | apply blk_far_ NBx_z.out | apply blk_far_ NBx_s.out | apply blk_far_ NBx_p.out | apply blk_far_ NBx_b.out | apply blk_far_ NBx_e.out)) : p := h
theorem bkR_y {p : Prop} (h : p := by repeat (with_reducible first | exact BKy.out | apply blk_drewN | apply blk_drew | apply blk_alloc | apply blk_put_ | apply blk_far_ NBy_a.out | apply blk_far_ NBy_c.out | apply blk_far_ NBy_d.out | apply blk_far_ NBy_h.out | apply blk_far_ NBy_j.out | apply blk_far_ NBy_m.out | apply blk_far_ NBy_n.out | apply blk_far_ NBy_q.out | apply blk_far_ NBy_t.out | apply blk_far_ NBy_x.out | apply blk_far_ NBy_z.out | apply blk_far_ NBy_s.out | apply blk_far_ NBy_p.out | apply blk_far_ NBy_b.out | apply blk_far_ NBy_e.out)) : p := h
theorem bkR_z {p : Prop} (h : p := by repeat (with_reducible first | exact BKz.out | apply blk_drewN | apply blk_drew | apply blk_alloc | apply blk_put_ | apply blk_far_ NBz_a.out | apply blk_far_ NBz_c.out | apply blk_far_ NBz_d.out | apply blk_far_ NBz_h.out | apply blk_far_ NBz_j.out | apply blk_far_ NBz_m.out | apply blk_far_ NBz_n.out | apply blk_far_ NBz_q.out | apply blk_far_ NBz_t.out | apply blk_far_ NBz_x.out | apply blk_far_ NBz_y.out | apply blk_far_ NBz_s.out | apply blk_far_ NBz_p.out | apply blk_far_ NBz_b.out | apply blk_far_ NBz_e.out)) : p := h
theorem bkR_s {p : Prop} (h : p := by repeat (with_reducible first | exact BKs.out | apply blk_drewN | apply blk_drew | apply blk_alloc | apply blk_put_ | apply blk_far_ NBs_a.out | apply blk_far_ NBs_c.out | apply blk_far_ NBs_d.out | apply blk_far_ NBs_h.out | apply blk_far_ NBs_j.out | apply blk_far_ NBs_m.out | apply blk_far_ NBs_n.out | apply blk_far_ NBs_q.out | apply blk_far_ NBs_t.out | apply blk_far_ NBs_x.out | apply blk_far_ NBs_y.out | apply blk_far_ NBs_z.out | apply blk_far_ NBs_p.out | apply blk_far_ NBs_b.out | apply blk_far_ NBs_e.out)) : p := h
theorem bkG_s {p : Prop} (h : p := by first | (with_reducible exact BKs.out) | exact blk_fin bkR_s (by rfl) | exact BKs.out) : p := h
theorem bkR_p {p : Prop} (h : p := by repeat (with_reducible first | exact BKp.out | apply blk_drewN | apply blk_drew | apply blk_alloc | apply blk_put_ | apply blk_far_ NBp_a.out | apply blk_far_ NBp_c.out | apply blk_far_ NBp_d.out | apply blk_far_ NBp_h.out | apply blk_far_ NBp_j.out | apply blk_far_ NBp_m.out | apply blk_far_ NBp_n.out | apply blk_far_ NBp_q.out | apply blk_far_ NBp_t.out | apply blk_far_ NBp_x.out | apply blk_far_ NBp_y.out | apply blk_far_ NBp_z.out | apply blk_far_ NBp_s.out | apply blk_far_ NBp_b.out | apply blk_far_ NBp_e.out)) : p := h
theorem bkR_b {p : Prop} (h : p := by repeat (with_reducible first | exact BKb.out | apply blk_drewN | apply blk_drew | apply blk_alloc | apply blk_put_ | apply blk_far_ NBb_a.out | apply blk_far_ NBb_c.out | apply blk_far_ NBb_d.out | apply blk_far_ NBb_h.out | apply blk_far_ NBb_j.out | apply blk_far_ NBb_m.out | apply blk_far_ NBb_n.out | apply blk_far_ NBb_q.out | apply blk_far_ NBb_t.out | apply blk_far_ NBb_x.out | apply blk_far_ NBb_y.out | apply blk_far_ NBb_z.out | apply blk_far_ NBb_s.out | apply blk_far_ NBb_p.out | apply blk_far_ NBb_e.out)) : p := h
theorem bkR_e {p : Prop} (h : p := by repeat (with_reducible first | exact BKe.out | apply blk_drewN | apply blk_drew | apply blk_alloc | apply blk_put_ | apply blk_far_ NBe_a.out | apply blk_far_ NBe_c.out | apply blk_far_ NBe_d.out | apply blk_far_ NBe_h.out | apply blk_far_ NBe_j.out | apply blk_far_ NBe_m.out | apply blk_far_ NBe_n.out | apply blk_far_ NBe_q.out | apply blk_far_ NBe_t.out | apply blk_far_ NBe_x.out | apply blk_far_ NBe_y.out | apply blk_far_ NBe_z.out | apply blk_far_ NBe_s.out | apply blk_far_ NBe_p.out | apply blk_far_ NBe_b.out)) : p := h
theorem jsG {p : Prop} (h : p := by (repeat (with_reducible first | exact HJ.out | apply JS.drewN | apply JS.drew | apply JS.alloc | refine JS.setb ?_ GJa.out bkR_a _ (by decide) | refine JS.setb ?_ GJc.out bkR_c _ (by decide) | refine JS.setb ?_ GJd.out bkR_d _ (by decide) | refine JS.setb ?_ GJh.out bkR_h _ (by decide) | refine JS.setb ?_ GJj.out bkR_j _ (by decide) | refine JS.setb ?_ GJm.out bkR_m _ (by decide) | refine JS.setb ?_ GJn.out bkR_n _ (by decide) | refine JS.setb ?_ GJq.out bkR_q _ (by decide) | refine JS.setb ?_ GJt.out bkR_t _ (by decide) | refine JS.setb ?_ GJx.out bkR_x _ (by decide) | refine JS.setb ?_ GJy.out bkR_y _ (by decide) | refine JS.setb ?_ GJz.out bkR_z _ (by decide) | refine JS.setb ?_ GJs.out bkR_s _ (by decide) | refine JS.setb ?_ GJp.out bkR_p _ (by decide) | refine JS.setb ?_ GJb.out bkR_b _ (by decide) | refine JS.setb ?_ GJe.out bkR_e _ (by decide))); first | done | exact HJ.out) : p := h
theorem jkG {p : Prop} (h : p := by (repeat (with_reducible first | exact HK.out | apply JK.drewN | apply JK.drew | apply JK.alloc | refine JK.setb ?_ GKa.out _ | refine JK.setb ?_ GKc.out _ | refine JK.setb ?_ GKd.out _ | refine JK.setb ?_ GKh.out _ | refine JK.setb ?_ GKj.out _ | refine JK.setb ?_ GKm.out _ | refine JK.setb ?_ GKn.out _ | refine JK.setb ?_ GKq.out _ | refine JK.setb ?_ GKt.out _ | refine JK.setb ?_ GKx.out _ | refine JK.setb ?_ GKy.out _ | refine JK.setb ?_ GKz.out _ | refine JK.setb ?_ GKs.out _ | refine JK.setb ?_ GKp.out _ | refine JK.setb ?_ GKb.out _ | refine JK.setb ?_ GKe.out _)); first | done | exact HK.out) : p := h
theorem blwG {p : Prop} (h : p := by (repeat (with_reducible first | exact HB.out | apply below_alloc | apply pw_below_drewN | apply below_drew1 | refine below_set ?_ GEa.out | refine below_set ?_ GEc.out | refine below_set ?_ GEd.out | refine below_set ?_ GEh.out | refine below_set ?_ GEj.out | refine below_set ?_ GEm.out | refine below_set ?_ GEn.out | refine below_set ?_ GEq.out | refine below_set ?_ GEt.out | refine below_set ?_ GEx.out | refine below_set ?_ GEy.out | refine below_set ?_ GEz.out | refine below_set ?_ GEs.out | refine below_set ?_ GEp.out | refine below_set ?_ GEb.out | refine below_set ?_ GEe.out)); first | done | exact HB.out) : p := h
theorem rdG_r {p : Prop} (h : p := by (repeat (with_reducible first | exact HIr.out | apply IsS96.drewN | apply IsS96.drew | apply IsS96.alloc | refine IsS96.far ?_ NRr_a.out _ | refine IsS96.far ?_ NRr_c.out _ | refine IsS96.far ?_ NRr_d.out _ | refine IsS96.far ?_ NRr_h.out _ | refine IsS96.far ?_ NRr_j.out _ | refine IsS96.far ?_ NRr_m.out _ | refine IsS96.far ?_ NRr_n.out _ | refine IsS96.far ?_ NRr_q.out _ | refine IsS96.far ?_ NRr_t.out _ | refine IsS96.far ?_ NRr_x.out _ | refine IsS96.far ?_ NRr_y.out _ | refine IsS96.far ?_ NRr_z.out _ | refine IsS96.far ?_ NRr_s.out _ | refine IsS96.far ?_ NRr_p.out _ | refine IsS96.far ?_ NRr_b.out _ | refine IsS96.far ?_ NRr_e.out _)); first | done | exact HIr.out) : p := h
section
theorem bkNum_is (n : Int) : ∃ er, wire_Num.f n = some (bkNum n, er) := by
 unfold bkNum
 by_cases h : n < 0 ∨ 9007199254740992 < n
 ·rw [if_pos h]; unfold wire_Num.f; rw [if_pos h]; exact ⟨_, rfl⟩
 ·rw [if_neg h]
  obtain ⟨m, rfl⟩ : ∃ m : Nat, n = (m : Int) := ⟨n.toNat, by omega⟩
  rw [Int.toNat_natCast]; exact ⟨_, wNum_is m (by omega)⟩
theorem bkNum_sz (n : Int) : (bkNum n).size ≤ 9 := by
 unfold bkNum
 split
 ·exact Nat.zero_le _
 ·exact numB_len _
theorem tdiv_bd (t q : Int) (h1 : -9223372036854775808 ≤ t) (h2 : t ≤ 9223372036854775807) (hq : 1 ≤ q) : -9223372036854775808 ≤ t.tdiv q ∧ t.tdiv q ≤ 9223372036854775807 := by
 rcases Int.lt_or_le t 0 with a | a
 ·have e : t.tdiv q = -((-t).tdiv q) := by rw [Int.neg_tdiv, Int.neg_neg]
  have b : (-t).tdiv q ≤ -t := by rw [Int.tdiv_eq_ediv_of_nonneg (by omega)]; exact Int.ediv_le_self _ (by omega)
  have c : 0 ≤ (-t).tdiv q := Int.tdiv_nonneg (by omega) (by omega)
  omega
 ·have b : t.tdiv q ≤ t := by rw [Int.tdiv_eq_ediv_of_nonneg a]; exact Int.ediv_le_self _ a
  have c : 0 ≤ t.tdiv q := Int.tdiv_nonneg a (by omega)
  omega
def quK (name : ByteArray) : ByteArray := keyB (⟨#[113, 117, 111, 116, 97]⟩ : ByteArray) [name]
def spK (name : ByteArray) : ByteArray := keyB (⟨#[115, 112, 101, 110, 116]⟩ : ByteArray) [name]
theorem qu_ne (a b : ByteArray) : quK a ≠ spK b := keyB_ne (c := 113) (t := [117, 111, 116, 97]) (d := 115) (u := [112, 101, 110, 116]) (by simp [ByteArray.toList_eq]) (by simp [ByteArray.toList_eq]) (by decide) (by decide) (by decide) (by decide) (by decide)
def two2 (v : ByteArray) : Int × Int × Int := ((rNum v 0).1, (rNum (rNum v 0).2.1 (rNum v 0).2.2).1, rDone (rNum (rNum v 0).2.1 (rNum v 0).2.2).2.1 (rNum (rNum v 0).2.1 (rNum v 0).2.2).2.2)
def quTwo (cur : List S55) (key : ByteArray) : Int × Int × Bool := ((two2 (getK cur key).1).1, (two2 (getK cur key).1).2.1, hasK cur key && ((two2 (getK cur key).1).2.2 == 0))
noncomputable def quSetE (name : ByteArray) (n long : Int) : Int := if nm_checkSpec 6 name = 0 then (if n < 0 ∨ n > 1099511627776 ∨ long < 1 ∨ long > 1099511627776 then 3 else 0) else 7
noncomputable def quSet (cur : List S55) (name : ByteArray) (n long : Int) : List S55 := if quSetE name n long = 0 then setC (delK cur (spK name)) (quK name) (bkNum n ++ bkNum long) else cur
def quRest (cur : List S55) (name : ByteArray) (most every time : Int) : Int := if (quTwo cur (spK name)).2.2 = true ∧ (quTwo cur (spK name)).1 = time.tdiv every then most - (quTwo cur (spK name)).2.1 else most
def quLeft (cur : List S55) (name : ByteArray) (time : Int) : Int :=
 if (quTwo cur (quK name)).2.2 = true then (if time < 0 ∨ time > 1099511627776 then 0 else quRest cur name (quTwo cur (quK name)).1 (quTwo cur (quK name)).2.1 time) else 0
def quSpendE (cur : List S55) (name : ByteArray) (time n : Int) : Int :=
 if (quTwo cur (quK name)).2.2 = true then
  (if time < 0 ∨ time > 1099511627776 ∨ n < 1 ∨ n > 1099511627776 then 3
   else if (quTwo cur (spK name)).2.2 = true ∧ (quTwo cur (spK name)).1 > time.tdiv (quTwo cur (quK name)).2.1 then 14
   else if n > quRest cur name (quTwo cur (quK name)).1 (quTwo cur (quK name)).2.1 time then 21 else 0)
 else 8
def quSpend (cur : List S55) (name : ByteArray) (time n : Int) : List S55 :=
 if quSpendE cur name time n = 0 then setC cur (spK name) (bkNum (time.tdiv (quTwo cur (quK name)).2.1) ++ bkNum ((quTwo cur (quK name)).1 - quRest cur name (quTwo cur (quK name)).1 (quTwo cur (quK name)).2.1 time + n)) else cur
def QInv (cur : List S55) : Prop := ∀ name, (quTwo cur (quK name)).2.2 = true → 0 ≤ (quTwo cur (quK name)).1 ∧ (quTwo cur (quK name)).1 ≤ 1099511627776 ∧ 1 ≤ (quTwo cur (quK name)).2.1 ∧ (quTwo cur (quK name)).2.1 ≤ 1099511627776
theorem bkNum_of {n : Int} (h : 0 ≤ n) (h2 : n ≤ 9007199254740992) : bkNum n = numB n.toNat := by unfold bkNum; rw [if_neg (by omega)]
theorem two2_num {a b : Int} (h : 0 ≤ a) (h2 : a ≤ 9007199254740992) (h3 : 0 ≤ b) (h4 : b ≤ 9007199254740992) : two2 (bkNum a ++ bkNum b) = (a, b, 0) := by
 rw [bkNum_of h h2, bkNum_of h3 h4]
 unfold two2
 rw [rNum_numB _ (by omega)]
 dsimp only
 rw [rNum_numB0 _ (by omega)]
 dsimp only
 rw [show rDone (⟨#[]⟩ : ByteArray) 0 = 0 by simp [rDone, ByteArray.toList_eq], Int.toNat_of_nonneg h, Int.toNat_of_nonneg h3]
theorem two2_bd (v : ByteArray) : (0 ≤ (two2 v).1 ∧ (two2 v).1 ≤ 9007199254740992) ∧ 0 ≤ (two2 v).2.1 ∧ (two2 v).2.1 ≤ 9007199254740992 := ⟨rNum_bd _ _, rNum_bd _ _⟩
theorem quTwo_get {cur : List S55} {key : ByteArray} {a b : Int} (h : getK cur key = (bkNum a ++ bkNum b, true)) (h1 : 0 ≤ a) (h2 : a ≤ 9007199254740992) (h3 : 0 ≤ b) (h4 : b ≤ 9007199254740992) : quTwo cur key = (a, b, true) := by
 have hk : hasK cur key = true := by have := congrArg Prod.snd h; unfold getK at this; revert this; cases hasK cur key <;> simp
 unfold quTwo
 rw [h, hk]
 dsimp only
 rw [two2_num h1 h2 h3 h4]
 rfl
theorem quTwo_cong {a b : List S55} {key : ByteArray} (h : getK a key = getK b key) : quTwo a key = quTwo b key := by
 have h1 : ∀ c : List S55, hasK c key = (getK c key).2 := fun c => by unfold getK; cases hasK c key <;> rfl
 unfold quTwo
 rw [h1, h1, h]
theorem quTwo_no {cur : List S55} {key : ByteArray} (h : getK cur key = ((⟨#[]⟩ : ByteArray), false)) : (quTwo cur key).2.2 = false := by
 have h1 : hasK cur key = (getK cur key).2 := by unfold getK; cases hasK cur key <;> rfl
 unfold quTwo
 rw [h1, h]
 rfl
theorem quK_inj {a b : ByteArray} (h : quK a = quK b) : a = b := by
 unfold quK keyB keyL glue at h
 have h2 := ofL_inj h
 simp only [List.map_cons, List.map_nil, List.flatMap_cons, List.flatMap_nil, List.append_nil, List.append_cancel_left_eq, List.cons.injEq, true_and] at h2
 exact ba_ext (hidL_inj _ _ h2)
theorem spK_len (name : ByteArray) : (spK name).size ≤ 11 + 2 * name.size := by
 have h1 := hidL_len ((⟨#[115, 112, 101, 110, 116]⟩ : ByteArray)).toList
 have h2 := hidL_len name.toList
 rw [← ba_size] at h1 h2
 have h3 : ((⟨#[115, 112, 101, 110, 116]⟩ : ByteArray)).size = 5 := rfl
 unfold spK keyB keyL glue
 rw [ofL_size]
 simp only [List.map_cons, List.map_nil, List.flatMap_cons, List.flatMap_nil, List.length_append, List.length_cons, List.length_nil]
 omega
theorem quK_len (name : ByteArray) : (quK name).size ≤ 11 + 2 * name.size := by
 have h1 := hidL_len ((⟨#[113, 117, 111, 116, 97]⟩ : ByteArray)).toList
 have h2 := hidL_len name.toList
 rw [← ba_size] at h1 h2
 have h3 : ((⟨#[113, 117, 111, 116, 97]⟩ : ByteArray)).size = 5 := rfl
 unfold quK keyB keyL glue
 rw [ofL_size]
 simp only [List.map_cons, List.map_nil, List.flatMap_cons, List.flatMap_nil, List.length_append, List.length_cons, List.length_nil]
 omega
theorem bk2_sz (a b : Int) : (bkNum a ++ bkNum b).size ≤ 18 := by
 have h1 := bkNum_sz a
 have h2 := bkNum_sz b
 rw [ByteArray.size_append]; omega
theorem setC_in {cur : List S55} (hs : sortK cur) {key value : ByteArray} (k : ByteArray) (h1 : key.size ≤ 65536) (h2 : value.size ≤ 65536) : getK (setC cur key value) k = if k = key then (value, true) else getK cur k := by
 rw [getK_setC hs]
 by_cases h : k = key
 ·rw [if_pos ⟨h, by omega⟩, if_pos h]
 ·rw [if_neg (fun e => h e.1), if_neg h]
theorem quSet_KV {m : Nat} {cur : List S55} (h : KV m cur) (name : ByteArray) (n long : Int) : KV (m + 1) (quSet cur name n long) := by
 unfold quSet
 split
 ·exact (h.del _).put _ _
 ·exact h.mono (by omega)
theorem quSpend_KV {m : Nat} {cur : List S55} (h : KV m cur) (name : ByteArray) (time n : Int) : KV (m + 1) (quSpend cur name time n) := by
 unfold quSpend
 split
 ·exact h.put _ _
 ·exact h.mono (by omega)
theorem QInv.nil : QInv [] := fun name h => by
 have : (quTwo [] (quK name)).2.2 = false := quTwo_no rfl
 rw [this] at h; cases h
theorem QInv.set {cur : List S55} (h : QInv cur) (hs : sortK cur) {name : ByteArray} (hn : name.size ≤ 1000) (n long : Int) : QInv (quSet cur name n long) := by
 unfold quSet quSetE
 by_cases a : nm_checkSpec 6 name = 0
 ·rw [if_pos a]
  by_cases b : n < 0 ∨ n > 1099511627776 ∨ long < 1 ∨ long > 1099511627776
  ·rw [if_pos b, if_neg (by decide)]; exact h
  ·rw [if_neg b, if_pos rfl]
   have hl := quK_len name
   have hz := bk2_sz n long
   intro nm
   have hg := setC_in (sortK_del hs (spK name)) (quK nm) (key := quK name) (value := bkNum n ++ bkNum long) (by omega) (by omega)
   by_cases e : quK nm = quK name
   ·rw [if_pos e] at hg
    rw [quTwo_get hg (by omega) (by omega) (by omega) (by omega)]
    intro _
    dsimp only
    omega
   ·rw [if_neg e, getK_delK hs, if_neg (qu_ne nm name)] at hg
    rw [quTwo_cong hg]
    exact h nm
 ·rw [if_neg a, if_neg (by decide)]; exact h
theorem QInv.spend {cur : List S55} (h : QInv cur) (hs : sortK cur) {name : ByteArray} (hn : name.size ≤ 1000) (time n : Int) : QInv (quSpend cur name time n) := by
 unfold quSpend
 split
 ·intro nm
  have hl := spK_len name
  have hz := bk2_sz (time.tdiv (quTwo cur (quK name)).2.1) ((quTwo cur (quK name)).1 - quRest cur name (quTwo cur (quK name)).1 (quTwo cur (quK name)).2.1 time + n)
  have hg := setC_in hs (quK nm) (key := spK name) (value := bkNum (time.tdiv (quTwo cur (quK name)).2.1) ++ bkNum ((quTwo cur (quK name)).1 - quRest cur name (quTwo cur (quK name)).1 (quTwo cur (quK name)).2.1 time + n)) (by omega) (by omega)
  rw [if_neg (qu_ne nm name)] at hg
  rw [quTwo_cong hg]
  exact h nm
 ·exact h
theorem qu_get {base g : Nat} {ok : Nat → Prop} {w0 : World} {cur : List S55} (word name key : ByteArray) (a b : Int) (bb : Bool) {w : World} (h : JS base ok w0 g cur w) (hk : KV 1000000 cur) (hw : word.size ≤ 50000000) (hn : name.size ≤ 50000000) (hkey : keyB word [name] = key) (hx : quTwo cur key = (a, b, bb)) :
  Calls Tryz.prog 17 #[.pointer (some ⟨g, 0, none⟩), .string word, .string name] w fun e w' => e = .returned (.tuple #[.agg #[.int .i64 a, .int .i64 b], .bool bb]) ∧ Below w.heap.size w w' := by
 obtain ⟨y1, hy1⟩ : ∃ y : List ByteArray, y = [name] := ⟨_, rfl⟩
 obtain ⟨k1, key1⟩ := key_ev word y1 hw (by rw [hy1]; simp) (by rw [hy1]; simpa using hn)
 have ekey : keyB word y1 = key := by rw [hy1]; exact hkey
 rw [ekey] at key1
 have Ny1 := As_ hy1
 obtain ⟨v, hv⟩ : ∃ v, (getK cur key).1 = v := ⟨_, rfl⟩
 obtain ⟨bh, hb0⟩ : ∃ b, hasK cur key = b := ⟨_, rfl⟩
 obtain ⟨q1, q2, q3, hq⟩ : ∃ a b c, rNum v 0 = (a, b, c) := ⟨_, _, _, rfl⟩
 obtain ⟨p1, p2, p3, hp⟩ : ∃ a b c, rNum q2 q3 = (a, b, c) := ⟨_, _, _, rfl⟩
 unfold quTwo two2 at hx
 rw [hv, hb0, hq] at hx
 dsimp only at hx
 rw [hp] at hx
 dsimp only at hx
 have hn1 : wire_Reader_Num.f v 0 = some (q1, q2, q3) := by rw [rNum_is, hq]
 have hn2 : wire_Reader_Num.f q2 q3 = some (p1, p2, p3) := by rw [rNum_is, hp]
 simp only [Prod.mk.injEq] at hx
 obtain ⟨rfl, rfl, hbb⟩ := hx
 have AB := As_ hbb
 have HJ := As_ h
 have HB := As_ (Below.refl w.heap.size w)
 clear h hy1 ekey hkey hbb hq hp
 go_enter Tryz.func17, Tryz.ntmps17
 go_wp2_with (first | ((with_reducible refine gate_dst (N := 6) rfl ?_); refine bxE (N := 6) (cs := #[.int .i64 0, .int .i64 0]) (t := 47) ?_; intro gbq hg wq hbox hb; have GEq := As_ ((by rw [hg]; exact (below_size (blwG)) : w.heap.size ≤ gbq)); have GJq := As_ ((by rw [hg]; exact JS.size0 (base := base) (ok := ok) (w0 := w0) (g := g) (cur := cur) (jsG) : w0.heap.size ≤ gbq)); replace HB := As_ (below_step (blwG) hb); replace HJ := As_ (JS.below (base := base) (ok := ok) (w0 := w0) (g := g) (cur := cur) (jsG) hb); have BKq := As_ hbox; clear hb hbox hg; obtain ⟨zq_0, fq_0, zq_1, fq_1⟩ := cellsN2 BKq.out) | ((with_reducible refine gate_dst (N := 17) rfl ?_); (try (refine gate_guard (by rfl) ?_; dsimp only)); refine Kd.R_lit Kd.string _ 9 ?hg (N := 17) ?hd (xs := ([name] : List ByteArray)) (inner := [.string name]) (ok := fun _ => True) (okp := fun _ => True) ?hr ?hp (fun _ hk => hk) trivial (Below.refl _ _) (Nat.le_refl _) (by simp) ?_; (case hd => rfl); (case hg => rfl); (case hr => first | (go_simp; done) | (go_simp; rfl)); (case hp => exact (Reps.one (show Kd.M Kd.string _ _ _ name [.string name] from rfl) (Reps.none _ _))); intro vlit wy1 hlit hb hg_ hnew_; clear hg_ hnew_; rw [← Ny1.out] at hlit; obtain ⟨Ay1, cy1, el_⟩ := Kd.R_slice hlit; subst el_; have Ry1 := As_ hlit; clear hlit; replace HB := As_ (below_step (blwG) hb); replace HJ := As_ (JS.below (base := base) (ok := ok) (w0 := w0) (g := g) (cur := cur) (jsG) hb); replace BKq := As_ (blk_below (g := gbq) (o := .cells #[.int .i64 0, .int .i64 0] 47 (0, 0)) (bkG_q) hb); clear hb))
 refine (path_Join.calls k1 word Ay1 cy1 y1 key _ (Kd.R_reads' Ry1.out).2.2 (Kd.R_reads' Ry1.out).2.1 key1).mono ?_
 rintro e w1 ⟨rfl, hb⟩
 replace HB := As_ (below_step (blwG) hb)
 replace HJ := As_ (JS.below (base := base) (ok := ok) (w0 := w0) (g := g) (cur := cur) (jsG) hb)
 replace BKq := As_ (blk_below (g := gbq) (o := .cells #[.int .i64 0, .int .i64 0] 47 (0, 0)) (bkG_q) hb)
 clear hb
 clear Ry1 Ny1
 go_wp2_with fail
 refine (js_get key v bh HJ.out hk hv hb0).mono ?_
 rintro e w2 ⟨rfl, hb⟩
 replace HB := As_ (below_step (blwG) hb)
 replace HJ := As_ (JS.below (base := base) (ok := ok) (w0 := w0) (g := g) (cur := cur) (jsG) hb)
 replace BKq := As_ (blk_below (g := gbq) (o := .cells #[.int .i64 0, .int .i64 0] 47 (0, 0)) (bkG_q) hb)
 clear hb
 clear HJ
 go_wp2_with fail
 refine (wire_New.calls v v 0 w _ (blwG) rfl).mono ?_
 rintro e w_1 ⟨grr, rfl, hI, _, hb⟩
 replace HB := As_ (below_step (blwG) hb)
 replace BKq := As_ (blk_below (g := gbq) (o := .cells #[.int .i64 0, .int .i64 0] 47 (0, 0)) (bkG_q) hb)
 clear hb
 have HIr := As_ hI
 clear hI
 have NRr_q := As_ (IsS96.ne_blk HIr.out BKq.out (by decide) : grr ≠ gbq)
 go_wp2_with (first | ((with_reducible refine gate_dst (N := 11) rfl ?_); refine bxE (N := 11) (cs := #[.int .i64 0, .int .i64 0]) (t := 47) ?_; intro gbn hg wn hbox hb; have GEn := As_ ((by rw [hg]; exact (below_size (blwG)) : w.heap.size ≤ gbn)); have NBq_n := As_ ((by rw [hg]; exact Nat.ne_of_lt (blk_lt (g := gbq) (o := .cells #[.int .i64 0, .int .i64 0] 47 (0, 0)) (bkG_q)) : gbq ≠ gbn)); have NBn_q := As_ ((by rw [hg]; exact Nat.ne_of_gt (blk_lt (g := gbq) (o := .cells #[.int .i64 0, .int .i64 0] 47 (0, 0)) (bkG_q)) : gbn ≠ gbq)); replace HB := As_ (below_step (blwG) hb); replace BKq := As_ (blk_below (g := gbq) (o := .cells #[.int .i64 0, .int .i64 0] 47 (0, 0)) (bkG_q) hb); replace HIr := As_ (IsS96.below (rdG_r) hb); have BKn := As_ hbox; have NRr_n := As_ (IsS96.ne_blk HIr.out hbox (by decide) : grr ≠ gbn); clear hb hbox hg; obtain ⟨zn_0, fn_0, zn_1, fn_1⟩ := cellsN2 BKn.out; have hnnq := NBn_q.out; have hmnq := NBq_n.out))
 go_loopg [24] 2 (fun gg si wx => (si = .int .i64 0 ∧ gg = 2 ∧ Aside0 (Below w.heap.size w wx) ∧ Aside0 (wx.heap[gbn]? = some (.cells #[.int .i64 0, .int .i64 0] 47 (0, 0))) ∧ Aside0 (wx.heap[gbq]? = some (.cells #[.int .i64 0, .int .i64 0] 47 (0, 0))) ∧ Aside0 (IsS96 w wx grr v 0)) ∨ (si = .int .i64 1 ∧ gg = 1 ∧ Aside0 (Below w.heap.size w wx) ∧ Aside0 (wx.heap[gbn]? = some (.cells #[.int .i64 q1, .int .i64 0] 47 (0, 0))) ∧ Aside0 (wx.heap[gbq]? = some (.cells #[.int .i64 0, .int .i64 0] 47 (0, 0))) ∧ Aside0 (IsS96 w wx grr q2 q3)) ∨ (si = .int .i64 2 ∧ gg = 0 ∧ Aside0 (Below w.heap.size w wx) ∧ Aside0 (wx.heap[gbn]? = some (.cells #[.int .i64 q1, .int .i64 p1] 47 (0, 0))) ∧ Aside0 (wx.heap[gbq]? = some (.cells #[.int .i64 0, .int .i64 0] 47 (0, 0))) ∧ Aside0 (IsS96 w wx grr p2 p3)))
 case atStart => exact .inl ⟨rfl, rfl, ⟨blwG⟩, ⟨bkG_n⟩, ⟨bkG_q⟩, ⟨rdG_r⟩⟩
 case round =>
  clear HB BKn BKq HIr
  rcases hrel with ⟨rfl, rfl, HB, BKn, BKq, HIr⟩ | ⟨rfl, rfl, HB, BKn, BKq, HIr⟩ | ⟨rfl, rfl, HB, BKn, BKq, HIr⟩
  ·go_wp2_with fail
   refine (wire_Reader_Num.calls grr v 0 _ _ _ w _ (rdG_r) (blwG) hn1).mono ?_
   rintro e w_2 ⟨rfl, hI, hB, hK⟩
   replace HB := As_ (hB)
   replace HIr := As_ (hI)
   replace BKq := As_ (KeepBut.blk (g' := gbq) hK (o := .cells #[.int .i64 0, .int .i64 0] 47 (0, 0)) (bkG_q) NRr_q.out.symm (by simp))
   replace BKn := As_ (KeepBut.blk (g' := gbn) hK (o := .cells #[.int .i64 0, .int .i64 0] 47 (0, 0)) (bkG_n) NRr_n.out.symm (by simp))
   clear hI hB hK
   obtain ⟨zn_0, fn_0, zn_1, fn_1⟩ := cellsN2 BKn.out
   have hnnq := NBn_q.out
   have hmnq := NBq_n.out
   go_wp2
   go_roundg 1
   case measure => omega
   case rel => exact .inr <| .inl ⟨by first | rfl | (simp; done), rfl, ⟨blwG⟩, ⟨bkG_n⟩, ⟨bkG_q⟩, ⟨rdG_r⟩⟩
  ·go_wp2_with fail
   refine (wire_Reader_Num.calls grr q2 q3 _ _ _ w _ (rdG_r) (blwG) hn2).mono ?_
   rintro e w_3 ⟨rfl, hI, hB, hK⟩
   replace HB := As_ (hB)
   replace HIr := As_ (hI)
   replace BKq := As_ (KeepBut.blk (g' := gbq) hK (o := .cells #[.int .i64 0, .int .i64 0] 47 (0, 0)) (bkG_q) NRr_q.out.symm (by simp))
   replace BKn := As_ (KeepBut.blk (g' := gbn) hK (o := .cells #[.int .i64 q1, .int .i64 0] 47 (0, 0)) (bkG_n) NRr_n.out.symm (by simp))
   clear hI hB hK
   obtain ⟨zn_0, fn_0, zn_1, fn_1⟩ := cellsN2 BKn.out
   have hnnq := NBn_q.out
   have hmnq := NBq_n.out
   go_wp2
   go_roundg 0
   case measure => omega
   case rel => exact .inr <| .inr ⟨by first | rfl | (simp; done), rfl, ⟨blwG⟩, ⟨bkG_n⟩, ⟨bkG_q⟩, ⟨rdG_r⟩⟩
  ·have hbb := AB.out
   clear AB
   cases bh with
   | false =>
    rw [Bool.false_and] at hbb
    subst hbb
    go_upto_region 9 with (fail)
    refine start_ (n := 9) (S := fun w' => HeldC gbn #[.int .i64 q1, .int .i64 p1] 47 w') (ds := []) #[false, false, false, false, false, false, false, false, false] (by kernel_rfl) rfl rfl (HeldC.of (bkG_n)) (fun hHeld => ?_)
    have n_HB := at_world hHeld (F := fun Y => Below w.heap.size w Y) (blwG)
    have n_BKn := at_world hHeld (F := fun Y => Y.heap[gbn]? = some (.cells #[.int .i64 q1, .int .i64 p1] 47 (0, 0))) (bkG_n)
    have n_BKq := at_world hHeld (F := fun Y => Y.heap[gbq]? = some (.cells #[.int .i64 0, .int .i64 0] 47 (0, 0))) (bkG_q)
    have n_HIr := at_world hHeld (F := fun Y => IsS96 w Y grr p2 p3) (rdG_r)
    clear HB BKn BKq HIr
    have HB := n_HB
    have BKn := n_BKn
    have BKq := n_BKq
    have HIr := n_HIr
    clear n_HB n_BKn n_BKq n_HIr
    generalize World.drew _ = w8 at hHeld HB BKn BKq HIr ⊢
    refine take_ (i := 0) (N := some 32) #[true, false, false, false, false, false, false, false, false] rfl rfl (by kernel_rfl) (fun _ _ _ h => h) (Or.inl ⟨by rfl, (by rintro w' s0; have t0 : w'.cell? ⟨gbn, 0, none⟩ = some (.int .i64 q1) := (blk_cell (HeldC.blk s0) 0).trans rfl; have t1 : w'.cell? ⟨gbn, 1, none⟩ = some (.int .i64 p1) := (blk_cell (HeldC.blk s0) 1).trans rfl; go_simp; with_reducible rfl)⟩) hHeld ap25_ ?_
    refine pure_ (i := 1) (N := some 33) #[true, true, false, false, false, false, false, false, false] rfl rfl (by kernel_rfl) (fun _ _ _ h => h) (Or.inl ⟨by rfl, ap2_⟩) ap25_ ?_
    refine pure_ (i := 2) (N := some 34) #[true, true, true, false, false, false, false, false, false] rfl rfl (by kernel_rfl) (fun _ _ _ h => h) (Or.inl ⟨by rfl, ap2_⟩) ap25_ ?_
    refine pure_ (i := 3) (N := some 35) (v := undef) (a' := ?_) #[true, true, true, true, false, false, false, false, false] rfl rfl (by kernel_rfl) (fun _ _ _ h => h) (Or.inr ⟨by rfl, rfl⟩) ?_ ?_
    rotate_left
    ·simp only [Act.put, List.setIfInBounds_toArray, List.set_cons_zero, List.set_cons_succ, i64_w, i32_w]
     rfl
    refine pure_ (i := 4) (N := some 36) (v := undef) (a' := ?_) #[true, true, true, true, true, false, false, false, false] rfl rfl (by kernel_rfl) (fun _ _ _ h => h) (Or.inr ⟨by rfl, rfl⟩) ?_ ?_
    rotate_left
    ·simp only [Act.put, List.setIfInBounds_toArray, List.set_cons_zero, List.set_cons_succ, i64_w, i32_w]
     rfl
    refine pure_ (i := 5) (N := some 37) (v := undef) (a' := ?_) #[true, true, true, true, true, true, false, false, false] rfl rfl (by kernel_rfl) (fun _ _ _ h => h) (Or.inr ⟨by rfl, rfl⟩) ?_ ?_
    rotate_left
    ·simp only [Act.put, List.setIfInBounds_toArray, List.set_cons_zero, List.set_cons_succ, i64_w, i32_w]
     rfl
    refine pure_ (i := 6) (N := some 38) #[true, true, true, true, true, true, true, false, false] rfl rfl (by kernel_rfl) (fun _ _ _ h => h) (Or.inl ⟨by rfl, ap2_⟩) ap25_ ?_
    obtain ⟨zq_0, fq_0, zq_1, fq_1⟩ := cellsN2 BKq.out
    have hnqn := NBq_n.out
    have hmqn := NBn_q.out
    refine one_ (i := 7) (N := none) #[true, true, true, true, true, true, true, true, false] rfl rfl (by kernel_rfl) (by decide) (fun K hK => ?_)
    refine skip_ (w1 := ?_) (by rfl) rfl ?_ ?_
    rotate_left
    ·go_simp
     rfl
    refine hK.out _ _ (HeldC.of (bkG_n)) (fun hHeld => ?_)
    clear hK K
    refine pure_ (i := 8) (N := some 7) #[true, true, true, true, true, true, true, true, true] rfl rfl (by kernel_rfl) (fun _ _ _ h => h) (Or.inl ⟨by rfl, ap2_⟩) ap25_ ?_
    refine done_ (by kernel_rfl) ?_
    clear hHeld
    skip
    first | (go_wp2; refine bodyPost_ret (results_ct rfl _ _ gbq 47 #[.int .i64 q1, .int .i64 p1] (0, 0) _ rfl (bkG_q) Tryz.underlying47 rfl (by kernel_rfl)) rfl ?_) | refine bodyPost_ret (results_ct rfl _ _ gbq 47 #[.int .i64 q1, .int .i64 p1] (0, 0) _ rfl (bkG_q) Tryz.underlying47 rfl (by kernel_rfl)) rfl ?_
    exact ⟨by first | (rfl) | rfl, blwG⟩
   | true =>
    rw [Bool.true_and] at hbb
    go_upto_region 9 with (fail)
    refine start_ (n := 9) (S := fun w' => HeldC gbn #[.int .i64 q1, .int .i64 p1] 47 w') (ds := []) #[false, false, false, false, false, false, false, false, false] (by kernel_rfl) rfl rfl (HeldC.of (bkG_n)) (fun hHeld => ?_)
    have n_HB := at_world hHeld (F := fun Y => Below w.heap.size w Y) (blwG)
    have n_BKn := at_world hHeld (F := fun Y => Y.heap[gbn]? = some (.cells #[.int .i64 q1, .int .i64 p1] 47 (0, 0))) (bkG_n)
    have n_BKq := at_world hHeld (F := fun Y => Y.heap[gbq]? = some (.cells #[.int .i64 0, .int .i64 0] 47 (0, 0))) (bkG_q)
    have n_HIr := at_world hHeld (F := fun Y => IsS96 w Y grr p2 p3) (rdG_r)
    clear HB BKn BKq HIr
    have HB := n_HB
    have BKn := n_BKn
    have BKq := n_BKq
    have HIr := n_HIr
    clear n_HB n_BKn n_BKq n_HIr
    generalize World.drew _ = w8 at hHeld HB BKn BKq HIr ⊢
    refine take_ (i := 0) (N := some 32) #[true, false, false, false, false, false, false, false, false] rfl rfl (by kernel_rfl) (fun _ _ _ h => h) (Or.inl ⟨by rfl, (by rintro w' s0; have t0 : w'.cell? ⟨gbn, 0, none⟩ = some (.int .i64 q1) := (blk_cell (HeldC.blk s0) 0).trans rfl; have t1 : w'.cell? ⟨gbn, 1, none⟩ = some (.int .i64 p1) := (blk_cell (HeldC.blk s0) 1).trans rfl; go_simp; with_reducible rfl)⟩) hHeld ap25_ ?_
    refine pure_ (i := 1) (N := some 33) #[true, true, false, false, false, false, false, false, false] rfl rfl (by kernel_rfl) (fun _ _ _ h => h) (Or.inl ⟨by rfl, ap2_⟩) ap25_ ?_
    refine pure_ (i := 2) (N := some 34) #[true, true, true, false, false, false, false, false, false] rfl rfl (by kernel_rfl) (fun _ _ _ h => h) (Or.inl ⟨by rfl, ap2_⟩) ap25_ ?_
    refine pure_ (i := 3) (N := some 35) #[true, true, true, true, false, false, false, false, false] rfl rfl (by kernel_rfl) (fun _ _ _ h => h) (Or.inl ⟨by rfl, ap2_⟩) ap25_ ?_
    refine one_ (i := 4) (N := some 36) #[true, true, true, true, true, false, false, false, false] rfl rfl (by kernel_rfl) (by decide) (fun K hK => ?_)
    refine goes_ Tryz.func34 (by kernel_rfl) rfl #[.pointer (some ⟨grr, 0, none⟩)] (by rfl) rfl rfl ap13_ ?_
    refine (wire_Reader_Done.calls grr p2 p3 _ _ _ w _ HIr.out HB.out (rDone_is p2 p3)).mono ?_
    rintro e w9 ⟨rfl, hI, hB, hK2⟩
    refine ⟨_, rfl, ?_⟩
    replace HB := As_ (hB)
    replace HIr := As_ (hI)
    replace BKn := As_ (KeepBut.blk (g' := gbn) hK2 (o := .cells #[.int .i64 q1, .int .i64 p1] 47 (0, 0)) BKn.out NRr_n.out.symm (by simp))
    replace BKq := As_ (KeepBut.blk (g' := gbq) hK2 (o := .cells #[.int .i64 0, .int .i64 0] 47 (0, 0)) BKq.out NRr_q.out.symm (by simp))
    clear hI hB hK2
    refine hK.out _ _ (HeldC.of BKn.out) (fun hHeld => ?_)
    clear hK K
    refine norm_ (a' := ?_) ?_ ?_
    rotate_left
    ·show Act.put _ (some 36) _ = _
     simp only [Act.put, List.setIfInBounds_toArray, List.set_cons_zero, List.set_cons_succ, i64_w, i32_w]
     rfl
    refine pure_ (i := 5) (N := some 37) #[true, true, true, true, true, true, false, false, false] rfl rfl (by kernel_rfl) (fun _ _ _ h => h) (Or.inl ⟨by rfl, ap2_⟩) ap25_ ?_
    refine pure_ (i := 6) (N := some 38) #[true, true, true, true, true, true, true, false, false] rfl rfl (by kernel_rfl) (fun _ _ _ h => h) (Or.inl ⟨by rfl, ap2_⟩) ap25_ ?_
    obtain ⟨zq_0, fq_0, zq_1, fq_1⟩ := cellsN2 BKq.out
    have hnqn := NBq_n.out
    have hmqn := NBn_q.out
    refine one_ (i := 7) (N := none) #[true, true, true, true, true, true, true, true, false] rfl rfl (by kernel_rfl) (by decide) (fun K hK => ?_)
    refine skip_ (w1 := ?_) (by rfl) rfl ?_ ?_
    rotate_left
    ·go_simp
     rfl
    refine hK.out _ _ (HeldC.of (bkG_n)) (fun hHeld => ?_)
    clear hK K
    refine pure_ (i := 8) (N := some 7) #[true, true, true, true, true, true, true, true, true] rfl rfl (by kernel_rfl) (fun _ _ _ h => h) (Or.inl ⟨by rfl, ap2_⟩) ap25_ ?_
    refine done_ (by kernel_rfl) ?_
    clear hHeld
    skip
    first | (go_wp2; refine bodyPost_ret (results_ct rfl _ _ gbq 47 #[.int .i64 q1, .int .i64 p1] (0, 0) _ rfl (bkG_q) Tryz.underlying47 rfl (by kernel_rfl)) rfl ?_) | refine bodyPost_ret (results_ct rfl _ _ gbq 47 #[.int .i64 q1, .int .i64 p1] (0, 0) _ rfl (bkG_q) Tryz.underlying47 rfl (by kernel_rfl)) rfl ?_
    exact ⟨by first | (rw [← hbb]; first | rfl | (simp; done)) | rfl, blwG⟩
theorem two_at0 (a b : Int) (w : World) : (Instr.index 47 (.agg #[.int .i64 a, .int .i64 b]) (.int .i64 0)).run Tryz.prog w = .ok (.int .i64 a) w := by
 have h := Tryz.underlying47
 simp [Instr.index, run_underlying h, go_sem]
theorem two_at1 (a b : Int) (w : World) : (Instr.index 47 (.agg #[.int .i64 a, .int .i64 b]) (.int .i64 1)).run Tryz.prog w = .ok (.int .i64 b) w := by
 have h := Tryz.underlying47
 simp [Instr.index, run_underlying h, go_sem]
attribute [local go_sem] two_at0 two_at1
theorem qu_put {base g : Nat} {ok : Nat → Prop} {w0 : World} {cur : List S55} (word name key : ByteArray) (a b : Int) {w : World} (h : JS base ok w0 g cur w) (hk : KV 1000000 cur) (hw : word.size ≤ 50000000) (hn : name.size ≤ 50000000) (hkey : keyB word [name] = key) :
  Calls Tryz.prog 22 #[.pointer (some ⟨g, 0, none⟩), .string word, .string name, .agg #[.int .i64 a, .int .i64 b]] w fun e w' => e = .returned (.int .i64 (setE key (bkNum a ++ bkNum b))) ∧ JS base ok w0 g (setC cur key (bkNum a ++ bkNum b)) w' ∧ JK w w' := by
 obtain ⟨y1, hy1⟩ : ∃ y : List ByteArray, y = [name] := ⟨_, rfl⟩
 obtain ⟨k1, key1⟩ := key_ev word y1 hw (by rw [hy1]; simp) (by rw [hy1]; simpa using hn)
 have ekey : keyB word y1 = key := by rw [hy1]; exact hkey
 rw [ekey] at key1
 have Ny1 := As_ hy1
 obtain ⟨ea, hna⟩ := bkNum_is a
 obtain ⟨eb, hnb⟩ := bkNum_is b
 have sa := bkNum_sz a
 have sb := bkNum_sz b
 obtain ⟨A, hA⟩ : ∃ z, bkNum a = z := ⟨_, rfl⟩
 obtain ⟨B, hB⟩ : ∃ z, bkNum b = z := ⟨_, rfl⟩
 rw [hA] at hna sa ⊢
 rw [hB] at hnb sb ⊢
 have c1 : (⟨#[]⟩ : ByteArray).size + A.size ≤ 9223372036854775807 := by rw [show (⟨#[]⟩ : ByteArray).size = 0 from rfl]; omega
 have c2 : A.size + B.size ≤ 9223372036854775807 := by omega
 have AC1 := As_ c1
 have AC2 := As_ c2
 have e0 : (⟨#[]⟩ : ByteArray) ++ A = A := ba_ext (by rw [ba_append]; simp [ByteArray.toList_eq])
 have AE := As_ e0
 have HJ := As_ h
 have HK := As_ (JK.of_below (Below.refl w.heap.size w))
 clear h hy1 ekey hkey hA hB sa sb c1 c2 e0
 go_enter Tryz.func22, Tryz.ntmps22
 go_wp2_with (first | ((with_reducible refine gate_dst (N := 7) rfl ?_); refine bxE (N := 7) (cs := #[.int .i64 a, .int .i64 b]) (t := 47) ?_; intro gbt hg wt hbox hb; have GKt := As_ ((by rw [hg]; exact JK.size (jkG) : w.heap.size ≤ gbt)); have GJt := As_ ((by rw [hg]; exact JS.size0 (base := base) (ok := ok) (w0 := w0) (g := g) (cur := cur) (jsG) : w0.heap.size ≤ gbt)); replace HK := As_ (HK.out.trans (JK.of_below hb)); replace HJ := As_ (JS.below (base := base) (ok := ok) (w0 := w0) (g := g) (cur := cur) (jsG) hb); have BKt := As_ hbox; clear hb hbox hg; obtain ⟨zt_0, ft_0, zt_1, ft_1⟩ := cellsN2 BKt.out; obtain ⟨zt_0, ft_0, zt_1, ft_1⟩ := cellsN2 BKt.out))
 go_loopg [9, 15] 2 (fun gg so si wx => (so = .string ⟨#[]⟩ ∧ si = .int .i64 0 ∧ gg = 2 ∧ Aside0 (JS base ok w0 g cur wx) ∧ Aside0 (JK w wx) ∧ Aside0 (wx.heap[gbt]? = some (.cells #[.int .i64 a, .int .i64 b] 47 (0, 0)))) ∨ (so = .string A ∧ si = .int .i64 1 ∧ gg = 1 ∧ Aside0 (JS base ok w0 g cur wx) ∧ Aside0 (JK w wx) ∧ Aside0 (wx.heap[gbt]? = some (.cells #[.int .i64 a, .int .i64 b] 47 (0, 0)))) ∨ (so = .string (A ++ B) ∧ si = .int .i64 2 ∧ gg = 0 ∧ Aside0 (JS base ok w0 g cur wx) ∧ Aside0 (JK w wx) ∧ Aside0 (wx.heap[gbt]? = some (.cells #[.int .i64 a, .int .i64 b] 47 (0, 0)))))
 case atStart => exact .inl ⟨rfl, rfl, rfl, ⟨jsG⟩, ⟨jkG⟩, ⟨bkG_t⟩⟩
 case round =>
  clear HJ HK BKt
  rcases hrel with ⟨rfl, rfl, rfl, HJ, HK, BKt⟩ | ⟨rfl, rfl, rfl, HJ, HK, BKt⟩ | ⟨rfl, rfl, rfl, HJ, HK, BKt⟩
  ·go_wp2_with fail
   refine (wire_Num.calls a A ea _ hna).mono ?_
   rintro e w2 ⟨rfl, hb⟩
   replace HK := As_ (HK.out.trans (JK.of_below hb))
   replace HJ := As_ (JS.below (base := base) (ok := ok) (w0 := w0) (g := g) (cur := cur) (jsG) hb)
   replace BKt := As_ (blk_below (g := gbt) (o := .cells #[.int .i64 a, .int .i64 b] 47 (0, 0)) (bkG_t) hb)
   clear hb
   have c9z : A.size ≤ 9223372036854775807 := by have h_ := AC1.out; rw [show (⟨#[]⟩ : ByteArray).size = 0 from rfl] at h_; omega
   have c9y := eq_true c9z
   have c9x : (9223372036854775807 < A.size) = False := eq_false (Nat.not_lt.2 c9z)
   clear c9z
   have c9b0 := eq_true AC1.out
   have c9b2 : (9223372036854775807 < (⟨#[]⟩ : ByteArray).size + A.size) = False := eq_false (Nat.not_lt.2 AC1.out)
   go_wp2
   go_roundg 1
   case measure => omega
   case rel => exact .inr <| .inl ⟨by rw [AE.out], by first | rfl | (simp; done), rfl, ⟨jsG⟩, ⟨jkG⟩, ⟨bkG_t⟩⟩
  ·go_wp2_with fail
   refine (wire_Num.calls b B eb _ hnb).mono ?_
   rintro e w3 ⟨rfl, hb⟩
   replace HK := As_ (HK.out.trans (JK.of_below hb))
   replace HJ := As_ (JS.below (base := base) (ok := ok) (w0 := w0) (g := g) (cur := cur) (jsG) hb)
   replace BKt := As_ (blk_below (g := gbt) (o := .cells #[.int .i64 a, .int .i64 b] 47 (0, 0)) (bkG_t) hb)
   clear hb
   have c9b0 := eq_true AC2.out
   have c9b2 : (9223372036854775807 < A.size + B.size) = False := eq_false (Nat.not_lt.2 AC2.out)
   go_wp2
   go_roundg 0
   case measure => omega
   case rel => exact .inr <| .inr ⟨rfl, by first | rfl | (simp; done), rfl, ⟨jsG⟩, ⟨jkG⟩, ⟨bkG_t⟩⟩
  ·go_wp2_with (first | ((with_reducible refine gate_dst (N := 30) rfl ?_); (try (refine gate_guard (by rfl) ?_; dsimp only)); refine Kd.R_lit Kd.string _ 9 ?hg (N := 30) ?hd (xs := ([name] : List ByteArray)) (inner := [.string name]) (ok := fun _ => True) (okp := fun _ => True) ?hr ?hp (fun _ hk => hk) trivial (Below.refl _ _) (Nat.le_refl _) (by simp) ?_; (case hd => rfl); (case hg => rfl); (case hr => first | (go_simp; done) | (go_simp; rfl)); (case hp => exact (Reps.one (show Kd.M Kd.string _ _ _ name [.string name] from rfl) (Reps.none _ _))); intro vlit wy1 hlit hb hg_ hnew_; clear hg_ hnew_; rw [← Ny1.out] at hlit; obtain ⟨Ay1, cy1, el_⟩ := Kd.R_slice hlit; subst el_; have Ry1 := As_ hlit; clear hlit; replace HK := As_ (HK.out.trans (JK.of_below hb)); replace HJ := As_ (JS.below (base := base) (ok := ok) (w0 := w0) (g := g) (cur := cur) (jsG) hb); replace BKt := As_ (blk_below (g := gbt) (o := .cells #[.int .i64 a, .int .i64 b] 47 (0, 0)) (bkG_t) hb); clear hb))
   refine (path_Join.calls k1 word Ay1 cy1 y1 key _ (Kd.R_reads' Ry1.out).2.2 (Kd.R_reads' Ry1.out).2.1 key1).mono ?_
   rintro e w6 ⟨rfl, hb⟩
   replace HK := As_ (HK.out.trans (JK.of_below hb))
   replace HJ := As_ (JS.below (base := base) (ok := ok) (w0 := w0) (g := g) (cur := cur) (jsG) hb)
   replace BKt := As_ (blk_below (g := gbt) (o := .cells #[.int .i64 a, .int .i64 b] 47 (0, 0)) (bkG_t) hb)
   clear hb
   clear Ry1 Ny1
   go_wp2_with fail
   refine (js_set key (A ++ B) HJ.out hk).mono ?_
   rintro e w7 ⟨rfl, hj, hk⟩
   replace HK := As_ (HK.out.trans hk)
   replace HJ := As_ (hj)
   replace BKt := As_ (JK.blk (b := gbt) (c := #[.int .i64 a, .int .i64 b]) (q := 47) (x := (0, 0)) hk (bkG_t) (by decide))
   clear hj hk
   go_wp2
   go_ret
   exact ⟨rfl, HJ.out, HK.out⟩
end
theorem qu_left {base g : Nat} {ok : Nat → Prop} {w0 : World} {cur : List S55} (name : ByteArray) (qa qb time x : Int) {w : World} (h : JS base ok w0 g cur w) (hk : KV 1000000 cur) (hn : name.size ≤ 50000000) (hqb : 1 ≤ qb) (hqb2 : qb ≤ 9007199254740992) (hqa : 0 ≤ qa ∧ qa ≤ 9007199254740992) (ht : -9223372036854775808 ≤ time ∧ time ≤ 9223372036854775807) (hx : quRest cur name qa qb time = x) :
  Calls Tryz.prog 19 #[.pointer (some ⟨g, 0, none⟩), .string name, .agg #[.int .i64 qa, .int .i64 qb], .int .i64 time] w fun e w' => e = .returned (.int .i64 x) ∧ Below w.heap.size w w' := by
 obtain ⟨sa, sb, so, hs⟩ : ∃ a b c, quTwo cur (spK name) = (a, b, c) := ⟨_, _, _, rfl⟩
 have hsb : 0 ≤ sb ∧ sb ≤ 9007199254740992 := by
  have := (two2_bd (getK cur (spK name)).1).2
  have e : (two2 (getK cur (spK name)).1).2.1 = sb := congrArg (fun z => z.2.1) hs
  rw [e] at this; exact this
 unfold quRest at hx
 rw [hs] at hx
 dsimp only at hx
 have hq0 : ¬ qb = 0 := by omega
 have hdv := tdiv_bd time qb ht.1 ht.2 hqb
 have HW1 := As_ (show wrap64 (qa - sb) = qa - sb from w64 (by omega) (by omega))
 have HW2 := As_ (show wrap64 (time.tdiv qb) = time.tdiv qb from w64 hdv.1 hdv.2)
 generalize hD : time.tdiv qb = D at hx HW2 hdv
 have AD := As_ hD
 have AS := As_ hs
 have A0_ := As_ hq0
 have HJ := As_ h
 have HB := As_ (Below.refl w.heap.size w)
 clear h hs hqb hqb2 hqa ht hsb hq0 hdv hD
 go_enter Tryz.func19, Tryz.ntmps19
 go_wp2_with (first | ((with_reducible refine gate_dst (N := 6) rfl ?_); refine bxE (N := 6) (cs := #[.int .i64 qa, .int .i64 qb]) (t := 47) ?_; intro gbq hg wq hbox hb; have GEq := As_ ((by rw [hg]; exact (below_size (blwG)) : w.heap.size ≤ gbq)); have GJq := As_ ((by rw [hg]; exact JS.size0 (base := base) (ok := ok) (w0 := w0) (g := g) (cur := cur) (jsG) : w0.heap.size ≤ gbq)); replace HB := As_ (below_step (blwG) hb); replace HJ := As_ (JS.below (base := base) (ok := ok) (w0 := w0) (g := g) (cur := cur) (jsG) hb); have BKq := As_ hbox; clear hb hbox hg; obtain ⟨zq_0, fq_0, zq_1, fq_1⟩ := cellsN2 BKq.out; obtain ⟨zq_0, fq_0, zq_1, fq_1⟩ := cellsN2 BKq.out))
 refine (qu_get (⟨#[115, 112, 101, 110, 116]⟩ : ByteArray) name _ sa sb so HJ.out hk (by decide) hn rfl AS.out).mono ?_
 rintro e w1 ⟨rfl, hb⟩
 replace HB := As_ (below_step (blwG) hb)
 replace HJ := As_ (JS.below (base := base) (ok := ok) (w0 := w0) (g := g) (cur := cur) (jsG) hb)
 replace BKq := As_ (blk_below (g := gbq) (o := .cells #[.int .i64 qa, .int .i64 qb] 47 (0, 0)) (bkG_q) hb)
 clear hb
 obtain ⟨zq_0, fq_0, zq_1, fq_1⟩ := cellsN2 BKq.out
 clear HJ AS
 cases so with
 | false =>
  go_upto_region 2 with (first | ((with_reducible refine gate_dst (N := 9) rfl ?_); refine bxE (N := 9) (cs := #[.int .i64 0, .int .i64 0]) (t := 47) ?_; intro gbs hg ws hbox hb; have GEs := As_ ((by rw [hg]; exact (below_size (blwG)) : w.heap.size ≤ gbs)); have NBq_s := As_ ((by rw [hg]; exact Nat.ne_of_lt (blk_lt (g := gbq) (o := .cells #[.int .i64 qa, .int .i64 qb] 47 (0, 0)) (bkG_q)) : gbq ≠ gbs)); have NBs_q := As_ ((by rw [hg]; exact Nat.ne_of_gt (blk_lt (g := gbq) (o := .cells #[.int .i64 qa, .int .i64 qb] 47 (0, 0)) (bkG_q)) : gbs ≠ gbq)); replace HB := As_ (below_step (blwG) hb); replace BKq := As_ (blk_below (g := gbq) (o := .cells #[.int .i64 qa, .int .i64 qb] 47 (0, 0)) (bkG_q) hb); have BKs := As_ hbox; clear hb hbox hg; obtain ⟨zs_0, fs_0, zs_1, fs_1⟩ := cellsN2 BKs.out; have hnsq := NBs_q.out; have hmsq := NBq_s.out; obtain ⟨zq_0, fq_0, zq_1, fq_1⟩ := cellsN2 BKq.out; have hnqs := NBq_s.out; have hmqs := NBs_q.out; obtain ⟨zs_0, fs_0, zs_1, fs_1⟩ := cellsN2 BKs.out; have hnsq := NBs_q.out; have hmsq := NBq_s.out))
  refine start_ (n := 10) (S := fun w' => HeldC gbq #[.int .i64 qa, .int .i64 qb] 47 w' ∧ HeldC gbs #[.int .i64 sa, .int .i64 sb] 47 w') (ds := []) #[false, false, false, false, false, false, false, false, false, false] (by kernel_rfl) rfl rfl ⟨HeldC.of (bkG_q), HeldC.of (bkG_s)⟩ (fun hHeld => ?_)
  have n_HB := at_world hHeld.1 (F := fun Y => Below w.heap.size w Y) (blwG)
  have n_BKq := at_world hHeld.1 (F := fun Y => Y.heap[gbq]? = some (.cells #[.int .i64 qa, .int .i64 qb] 47 (0, 0))) (bkG_q)
  have n_BKs := at_world hHeld.1 (F := fun Y => Y.heap[gbs]? = some (.cells #[.int .i64 sa, .int .i64 sb] 47 (0, 0))) (bkG_s)
  clear HB BKq BKs
  have HB := n_HB
  have BKq := n_BKq
  have BKs := n_BKs
  clear n_HB n_BKq n_BKs
  generalize World.drew _ = w8 at hHeld HB BKq BKs ⊢
  refine pure_ (i := 0) (N := some 17) #[true, false, false, false, false, false, false, false, false, false] rfl rfl (by kernel_rfl) (fun _ _ _ h => h) (Or.inl ⟨by rfl, ap2_⟩) ap25_ ?_
  refine pure_ (i := 1) (N := some 18) #[true, true, false, false, false, false, false, false, false, false] rfl rfl (by kernel_rfl) (fun _ _ _ h => h) (Or.inl ⟨by rfl, ap2_⟩) ap25_ ?_
  refine pure_ (i := 2) (N := some 19) (v := undef) (a' := ?_) #[true, true, true, false, false, false, false, false, false, false] rfl rfl (by kernel_rfl) (fun _ _ _ h => h) (Or.inr ⟨by rfl, rfl⟩) ?_ ?_
  rotate_left
  ·simp only [Act.put, List.setIfInBounds_toArray, List.set_cons_zero, List.set_cons_succ, i64_w, i32_w]
   rfl
  refine pure_ (i := 3) (N := some 20) (v := undef) (a' := ?_) #[true, true, true, true, false, false, false, false, false, false] rfl rfl (by kernel_rfl) (fun _ _ _ h => h) (Or.inr ⟨by rfl, rfl⟩) ?_ ?_
  rotate_left
  ·simp only [Act.put, List.setIfInBounds_toArray, List.set_cons_zero, List.set_cons_succ, i64_w, i32_w]
   rfl
  refine pure_ (i := 4) (N := some 21) (v := undef) (a' := ?_) #[true, true, true, true, true, false, false, false, false, false] rfl rfl (by kernel_rfl) (fun _ _ _ h => h) (Or.inr ⟨by rfl, rfl⟩) ?_ ?_
  rotate_left
  ·simp only [Act.put, List.setIfInBounds_toArray, List.set_cons_zero, List.set_cons_succ, i64_w, i32_w]
   rfl
  refine pure_ (i := 5) (N := some 22) (v := undef) (a' := ?_) #[true, true, true, true, true, true, false, false, false, false] rfl rfl (by kernel_rfl) (fun _ _ _ h => h) (Or.inr ⟨by rfl, rfl⟩) ?_ ?_
  rotate_left
  ·simp only [Act.put, List.setIfInBounds_toArray, List.set_cons_zero, List.set_cons_succ, i64_w, i32_w]
   rfl
  refine pure_ (i := 6) (N := some 23) (v := undef) (a' := ?_) #[true, true, true, true, true, true, true, false, false, false] rfl rfl (by kernel_rfl) (fun _ _ _ h => h) (Or.inr ⟨by rfl, rfl⟩) ?_ ?_
  rotate_left
  ·simp only [Act.put, List.setIfInBounds_toArray, List.set_cons_zero, List.set_cons_succ, i64_w, i32_w]
   rfl
  refine pure_ (i := 7) (N := some 24) (v := undef) (a' := ?_) #[true, true, true, true, true, true, true, true, false, false] rfl rfl (by kernel_rfl) (fun _ _ _ h => h) (Or.inr ⟨by rfl, rfl⟩) ?_ ?_
  rotate_left
  ·simp only [Act.put, List.setIfInBounds_toArray, List.set_cons_zero, List.set_cons_succ, i64_w, i32_w]
   rfl
  refine pure_ (i := 8) (N := some 25) (v := undef) (a' := ?_) #[true, true, true, true, true, true, true, true, true, false] rfl rfl (by kernel_rfl) (fun _ _ _ h => h) (Or.inr ⟨by rfl, rfl⟩) ?_ ?_
  rotate_left
  ·simp only [Act.put, List.setIfInBounds_toArray, List.set_cons_zero, List.set_cons_succ, i64_w, i32_w]
   rfl
  refine pure_ (i := 9) (N := some 26) #[true, true, true, true, true, true, true, true, true, true] rfl rfl (by kernel_rfl) (fun _ _ _ h => h) (Or.inl ⟨by rfl, ap2_⟩) ap25_ ?_
  refine done_ (by kernel_rfl) ?_
  clear hHeld
  rw [if_neg (by simp)] at hx
  subst hx
  obtain ⟨zq_0, fq_0, zq_1, fq_1⟩ := cellsN2 BKq.out
  have hnqs := NBq_s.out
  have hmqs := NBs_q.out
  go_wp2
  go_ret
  exact ⟨rfl, blwG⟩
 | true =>
  go_upto_region 2 with (first | ((with_reducible refine gate_dst (N := 9) rfl ?_); refine bxE (N := 9) (cs := #[.int .i64 0, .int .i64 0]) (t := 47) ?_; intro gbs hg ws hbox hb; have GEs := As_ ((by rw [hg]; exact (below_size (blwG)) : w.heap.size ≤ gbs)); have NBq_s := As_ ((by rw [hg]; exact Nat.ne_of_lt (blk_lt (g := gbq) (o := .cells #[.int .i64 qa, .int .i64 qb] 47 (0, 0)) (bkG_q)) : gbq ≠ gbs)); have NBs_q := As_ ((by rw [hg]; exact Nat.ne_of_gt (blk_lt (g := gbq) (o := .cells #[.int .i64 qa, .int .i64 qb] 47 (0, 0)) (bkG_q)) : gbs ≠ gbq)); replace HB := As_ (below_step (blwG) hb); replace BKq := As_ (blk_below (g := gbq) (o := .cells #[.int .i64 qa, .int .i64 qb] 47 (0, 0)) (bkG_q) hb); have BKs := As_ hbox; clear hb hbox hg; obtain ⟨zs_0, fs_0, zs_1, fs_1⟩ := cellsN2 BKs.out; have hnsq := NBs_q.out; have hmsq := NBq_s.out; obtain ⟨zq_0, fq_0, zq_1, fq_1⟩ := cellsN2 BKq.out; have hnqs := NBq_s.out; have hmqs := NBs_q.out; obtain ⟨zs_0, fs_0, zs_1, fs_1⟩ := cellsN2 BKs.out; have hnsq := NBs_q.out; have hmsq := NBq_s.out))
  refine start_ (n := 10) (S := fun w' => HeldC gbq #[.int .i64 qa, .int .i64 qb] 47 w' ∧ HeldC gbs #[.int .i64 sa, .int .i64 sb] 47 w') (ds := []) #[false, false, false, false, false, false, false, false, false, false] (by kernel_rfl) rfl rfl ⟨HeldC.of (bkG_q), HeldC.of (bkG_s)⟩ (fun hHeld => ?_)
  have n_HB := at_world hHeld.1 (F := fun Y => Below w.heap.size w Y) (blwG)
  have n_BKq := at_world hHeld.1 (F := fun Y => Y.heap[gbq]? = some (.cells #[.int .i64 qa, .int .i64 qb] 47 (0, 0))) (bkG_q)
  have n_BKs := at_world hHeld.1 (F := fun Y => Y.heap[gbs]? = some (.cells #[.int .i64 sa, .int .i64 sb] 47 (0, 0))) (bkG_s)
  clear HB BKq BKs
  have HB := n_HB
  have BKq := n_BKq
  have BKs := n_BKs
  clear n_HB n_BKq n_BKs
  generalize World.drew _ = w8 at hHeld HB BKq BKs ⊢
  refine pure_ (i := 0) (N := some 17) #[true, false, false, false, false, false, false, false, false, false] rfl rfl (by kernel_rfl) (fun _ _ _ h => h) (Or.inl ⟨by rfl, ap2_⟩) ap25_ ?_
  refine pure_ (i := 1) (N := some 18) #[true, true, false, false, false, false, false, false, false, false] rfl rfl (by kernel_rfl) (fun _ _ _ h => h) (Or.inl ⟨by rfl, ap2_⟩) ap25_ ?_
  refine pure_ (i := 2) (N := some 19) #[true, true, true, false, false, false, false, false, false, false] rfl rfl (by kernel_rfl) (fun _ _ _ h => h) (Or.inl ⟨by rfl, ap2_⟩) ap25_ ?_
  refine take_ (i := 3) (N := some 20) #[true, true, true, true, false, false, false, false, false, false] rfl rfl (by kernel_rfl) (fun _ _ _ h => h) (Or.inl ⟨by rfl, (by rintro w' ⟨s0, s1⟩; have t0 : w'.cell? ⟨gbq, 1, none⟩ = some (.int .i64 qb) := (blk_cell (HeldC.blk s0) 1).trans rfl; have t1 : w'.cell? ⟨gbs, 0, none⟩ = some (.int .i64 sa) := (blk_cell (HeldC.blk s1) 0).trans rfl; go_simp; with_reducible rfl)⟩) hHeld ap25_ ?_
  refine pure_ (i := 4) (N := some 21) #[true, true, true, true, true, false, false, false, false, false] rfl rfl (by kernel_rfl) (fun _ _ _ h => h) (Or.inl ⟨by rfl, ap2_⟩) ap25_ ?_
  refine pure_ (i := 5) (N := some 22) #[true, true, true, true, true, true, false, false, false, false] rfl rfl (by kernel_rfl) (fun _ _ _ h => h) (Or.inl ⟨by rfl, ap2_⟩) ap25_ ?_
  refine take_ (i := 6) (N := some 23) #[true, true, true, true, true, true, true, false, false, false] rfl rfl (by kernel_rfl) (fun _ _ _ h => h) (Or.inl ⟨by rfl, (by rintro w' ⟨s0, s1⟩; have t0 : w'.cell? ⟨gbq, 1, none⟩ = some (.int .i64 qb) := (blk_cell (HeldC.blk s0) 1).trans rfl; have t1 : w'.cell? ⟨gbs, 0, none⟩ = some (.int .i64 sa) := (blk_cell (HeldC.blk s1) 0).trans rfl; go_simp; with_reducible rfl)⟩) hHeld ap25_ ?_
  refine pure_ (i := 7) (N := some 24) #[true, true, true, true, true, true, true, true, false, false] rfl rfl (by kernel_rfl) (fun _ _ _ h => h) (Or.inl ⟨by rfl, (by intro w'; go_simp; have a0 := A0_.out; have hW := HW2.out; have hD := AD.out; rw [if_neg a0, i64_w, hD, hW]; first | done | with_reducible rfl)⟩) ap25_ ?_
  refine pure_ (i := 8) (N := some 25) #[true, true, true, true, true, true, true, true, true, false] rfl rfl (by kernel_rfl) (fun _ _ _ h => h) (Or.inl ⟨by rfl, ap2_⟩) ap25_ ?_
  refine pure_ (i := 9) (N := some 26) #[true, true, true, true, true, true, true, true, true, true] rfl rfl (by kernel_rfl) (fun _ _ _ h => h) (Or.inl ⟨by rfl, ap2_⟩) ap25_ ?_
  refine done_ (by kernel_rfl) ?_
  clear hHeld
  by_cases hw_ : sa = D
  ·rw [if_pos ⟨trivial, hw_⟩] at hx
   subst hx
   have c9 : (sa == D) = true := beq_iff_eq.2 hw_
   obtain ⟨zq_0, fq_0, zq_1, fq_1⟩ := cellsN2 BKq.out
   have hnqs := NBq_s.out
   have hmqs := NBs_q.out
   obtain ⟨zs_0, fs_0, zs_1, fs_1⟩ := cellsN2 BKs.out
   have hnsq := NBs_q.out
   have hmsq := NBq_s.out
   go_wp2
   go_ret
   exact ⟨congrArg (fun z => Ending.returned (Value.int .i64 z)) HW1.out, blwG⟩
  ·rw [if_neg (fun e => hw_ e.2)] at hx
   subst hx
   have c9 : (sa == D) = false := beq_eq_false_iff_ne.2 hw_
   obtain ⟨zq_0, fq_0, zq_1, fq_1⟩ := cellsN2 BKq.out
   have hnqs := NBq_s.out
   have hmqs := NBs_q.out
   go_wp2
   go_ret
   exact ⟨rfl, blwG⟩
theorem quBad_is (n l : Int) : quota_bad.f n l = some (decide (n < l ∨ n > 1099511627776)) := by
 unfold quota_bad.f
 by_cases h : n < l
 ·rw [if_pos h, decide_eq_true (.inl h)]
 ·rw [if_neg h]; congr 1; exact decide_eq_decide.2 ⟨.inr, fun e => e.resolve_left h⟩
theorem setE_0 {key value : ByteArray} (h1 : key.size ≤ 65536) (h2 : value.size ≤ 65536) : setE key value = 0 := if_neg (by omega)
theorem qu_Left {base g : Nat} {ok : Nat → Prop} {w0 : World} {cur : List S55} (name : ByteArray) (time x : Int) {w : World} (h : JS base ok w0 g cur w) (hk : KV 1000000 cur) (hn : name.size ≤ 50000000) (hinv : QInv cur) (hx : quLeft cur name time = x) :
  Calls Tryz.prog 7 #[.pointer (some ⟨g, 0, none⟩), .string name, .int .i64 time] w fun e w' => e = .returned (.int .i64 x) ∧ Below w.heap.size w w' := by
 obtain ⟨qa, qb, qo, hq⟩ : ∃ a b c, quTwo cur (quK name) = (a, b, c) := ⟨_, _, _, rfl⟩
 have hi := hinv name
 unfold quLeft at hx
 rw [hq] at hx hi
 dsimp only at hx hi
 have hbad := quBad_is time 0
 obtain ⟨z, hz⟩ : ∃ z, decide (time < 0 ∨ time > 1099511627776) = z := ⟨_, rfl⟩
 rw [hz] at hbad
 have AI := As_ hi
 have AX := As_ hx
 have AZ := As_ hz
 have AQ := As_ hq
 have HJ := As_ h
 have HB := As_ (Below.refl w.heap.size w)
 clear h hq hinv hi hx hz
 go_enter Tryz.func7, Tryz.ntmps7
 go_wp2_with fail
 refine (qu_get (⟨#[113, 117, 111, 116, 97]⟩ : ByteArray) name _ qa qb qo HJ.out hk (by decide) hn rfl AQ.out).mono ?_
 rintro e w1 ⟨rfl, hb⟩
 replace HB := As_ (below_step (blwG) hb)
 replace HJ := As_ (JS.below (base := base) (ok := ok) (w0 := w0) (g := g) (cur := cur) (jsG) hb)
 clear hb
 clear AQ
 cases qo with
 | false =>
  have hx := AX.out
  clear AX
  rw [if_neg (by simp)] at hx
  subst hx
  go_wp2_with (first | ((with_reducible refine gate_dst (N := 7) rfl ?_); refine bxE (N := 7) (cs := #[.int .i64 0, .int .i64 0]) (t := 47) ?_; intro gbq hg wq hbox hb; have GEq := As_ ((by rw [hg]; exact (below_size (blwG)) : w.heap.size ≤ gbq)); have GJq := As_ ((by rw [hg]; exact JS.size0 (base := base) (ok := ok) (w0 := w0) (g := g) (cur := cur) (jsG) : w0.heap.size ≤ gbq)); replace HB := As_ (below_step (blwG) hb); replace HJ := As_ (JS.below (base := base) (ok := ok) (w0 := w0) (g := g) (cur := cur) (jsG) hb); have BKq := As_ hbox; clear hb hbox hg; obtain ⟨zq_0, fq_0, zq_1, fq_1⟩ := cellsN2 BKq.out; obtain ⟨zq_0, fq_0, zq_1, fq_1⟩ := cellsN2 BKq.out))
  go_ret
  exact ⟨rfl, blwG⟩
 | true =>
  have hx := AX.out
  clear AX
  rw [if_pos rfl] at hx
  go_wp2_with (first | ((with_reducible refine gate_dst (N := 7) rfl ?_); refine bxE (N := 7) (cs := #[.int .i64 0, .int .i64 0]) (t := 47) ?_; intro gbq hg wq hbox hb; have GEq := As_ ((by rw [hg]; exact (below_size (blwG)) : w.heap.size ≤ gbq)); have GJq := As_ ((by rw [hg]; exact JS.size0 (base := base) (ok := ok) (w0 := w0) (g := g) (cur := cur) (jsG) : w0.heap.size ≤ gbq)); replace HB := As_ (below_step (blwG) hb); replace HJ := As_ (JS.below (base := base) (ok := ok) (w0 := w0) (g := g) (cur := cur) (jsG) hb); have BKq := As_ hbox; clear hb hbox hg; obtain ⟨zq_0, fq_0, zq_1, fq_1⟩ := cellsN2 BKq.out; obtain ⟨zq_0, fq_0, zq_1, fq_1⟩ := cellsN2 BKq.out))
  refine (quota_bad.calls time 0 z _ hbad).mono ?_
  rintro e w2 ⟨rfl, hd⟩
  have hb := hd.below
  clear hd
  replace HB := As_ (below_step (blwG) hb)
  replace HJ := As_ (JS.below (base := base) (ok := ok) (w0 := w0) (g := g) (cur := cur) (jsG) hb)
  replace BKq := As_ (blk_below (g := gbq) (o := .cells #[.int .i64 qa, .int .i64 qb] 47 (0, 0)) (bkG_q) hb)
  clear hb
  cases z with
  | false =>
   rw [if_neg (of_decide_eq_false AZ.out)] at hx
   obtain ⟨zq_0, fq_0, zq_1, fq_1⟩ := cellsN2 BKq.out
   go_wp2_with fail
   refine (qu_left name qa qb time x HJ.out hk hn (AI.out (by trivial)).2.2.1 (Int.le_trans (AI.out (by trivial)).2.2.2 (by decide)) ⟨(AI.out (by trivial)).1, Int.le_trans (AI.out (by trivial)).2.1 (by decide)⟩ (by have := of_decide_eq_false AZ.out; omega) hx).mono ?_
   rintro e w3 ⟨rfl, hb⟩
   replace HB := As_ (below_step (blwG) hb)
   replace HJ := As_ (JS.below (base := base) (ok := ok) (w0 := w0) (g := g) (cur := cur) (jsG) hb)
   replace BKq := As_ (blk_below (g := gbq) (o := .cells #[.int .i64 qa, .int .i64 qb] 47 (0, 0)) (bkG_q) hb)
   clear hb
   go_wp2
   go_ret
   exact ⟨rfl, HB.out⟩
  | true =>
   rw [if_pos (of_decide_eq_true AZ.out)] at hx
   subst hx
   go_wp2
   go_ret
   exact ⟨rfl, HB.out⟩
theorem qu_Spend {base g : Nat} {ok : Nat → Prop} {w0 : World} {cur : List S55} (name : ByteArray) (time n E : Int) (cur' : List S55) {w : World} (h : JS base ok w0 g cur w) (hk : KV 1000000 cur) (hn : name.size ≤ 1000) (hinv : QInv cur) (hE : quSpendE cur name time n = E) (hcur : quSpend cur name time n = cur') :
  Calls Tryz.prog 11 #[.pointer (some ⟨g, 0, none⟩), .string name, .int .i64 time, .int .i64 n] w fun e w' => e = .returned (.int .i64 E) ∧ JS base ok w0 g cur' w' ∧ JK w w' := by
 obtain ⟨qa, qb, qo, hq⟩ : ∃ a b c, quTwo cur (quK name) = (a, b, c) := ⟨_, _, _, rfl⟩
 obtain ⟨sa, sb, so, hs⟩ : ∃ a b c, quTwo cur (spK name) = (a, b, c) := ⟨_, _, _, rfl⟩
 obtain ⟨rest, hrest⟩ : ∃ z, quRest cur name qa qb time = z := ⟨_, rfl⟩
 have hi := hinv name
 unfold quSpend at hcur
 rw [hE] at hcur
 unfold quSpendE at hE
 rw [hq] at hE hi hcur
 dsimp only at hE hi hcur
 rw [hs, hrest] at hE
 rw [hrest] at hcur
 dsimp only at hE hcur
 have hrb : qo = true → -9007199254740992 ≤ rest ∧ rest ≤ 1099511627776 := fun e => by
  have h1 := hi e
  have h2 : 0 ≤ sb ∧ sb ≤ 9007199254740992 := by
   have := (two2_bd (getK cur (spK name)).1).2
   have e : (two2 (getK cur (spK name)).1).2.1 = sb := congrArg (fun z => z.2.1) hs
   rw [e] at this; exact this
  rw [← hrest]
  unfold quRest
  rw [hs]
  dsimp only
  split <;> omega
 have hb1 := quBad_is time 0
 obtain ⟨z1, hz1⟩ : ∃ z, decide (time < 0 ∨ time > 1099511627776) = z := ⟨_, rfl⟩
 rw [hz1] at hb1
 have hb2 := quBad_is n 1
 obtain ⟨z2, hz2⟩ : ∃ z, decide (n < 1 ∨ n > 1099511627776) = z := ⟨_, rfl⟩
 rw [hz2] at hb2
 obtain ⟨D, hD⟩ : ∃ z, time.tdiv qb = z := ⟨_, rfl⟩
 rw [hD] at hE hcur
 have hn5 : name.size ≤ 50000000 := by omega
 have AI := As_ hi
 have AR := As_ hrb
 have AE := As_ hE
 have AC := As_ hcur
 have AZ1 := As_ hz1
 have AZ2 := As_ hz2
 have AQ := As_ hq
 have AS := As_ hs
 have AT := As_ hrest
 have AD := As_ hD
 have HJ := As_ h
 have HK := As_ (JK.of_below (Below.refl w.heap.size w))
 clear h hq hs hinv hi hE hcur hz1 hz2 hrest hrb hD
 go_enter Tryz.func11, Tryz.ntmps11
 go_wp2_with fail
 refine (qu_get (⟨#[113, 117, 111, 116, 97]⟩ : ByteArray) name _ qa qb qo HJ.out hk (by decide) hn5 rfl AQ.out).mono ?_
 rintro e w1 ⟨rfl, hb⟩
 replace HK := As_ (HK.out.trans (JK.of_below hb))
 replace HJ := As_ (JS.below (base := base) (ok := ok) (w0 := w0) (g := g) (cur := cur) (jsG) hb)
 clear hb
 clear AQ
 cases qo with
 | false =>
  have hE := AE.out
  have hcur := AC.out
  rw [if_neg (by simp)] at hE
  subst hE
  rw [if_neg (by decide)] at hcur
  subst hcur
  go_wp2_with (first | ((with_reducible refine gate_dst (N := 9) rfl ?_); refine bxE (N := 9) (cs := #[.int .i64 0, .int .i64 0]) (t := 47) ?_; intro gbq hg wq hbox hb; have GKq := As_ ((by rw [hg]; exact JK.size (jkG) : w.heap.size ≤ gbq)); have GJq := As_ ((by rw [hg]; exact JS.size0 (base := base) (ok := ok) (w0 := w0) (g := g) (cur := cur) (jsG) : w0.heap.size ≤ gbq)); replace HK := As_ (HK.out.trans (JK.of_below hb)); replace HJ := As_ (JS.below (base := base) (ok := ok) (w0 := w0) (g := g) (cur := cur) (jsG) hb); have BKq := As_ hbox; clear hb hbox hg; obtain ⟨zq_0, fq_0, zq_1, fq_1⟩ := cellsN2 BKq.out; obtain ⟨zq_0, fq_0, zq_1, fq_1⟩ := cellsN2 BKq.out))
  go_ret
  exact ⟨rfl, jsG, jkG⟩
 | true =>
  have hI := AI.out (by trivial)
  have hR := AR.out (by trivial)
  have hE0 := AE.out
  rw [if_pos rfl] at hE0
  clear AE
  have AE := As_ hE0
  clear hE0
  have AHI := As_ hI
  have AHR := As_ hR
  clear hI hR AI AR
  go_wp2_with (first | ((with_reducible refine gate_dst (N := 9) rfl ?_); refine bxE (N := 9) (cs := #[.int .i64 0, .int .i64 0]) (t := 47) ?_; intro gbq hg wq hbox hb; have GKq := As_ ((by rw [hg]; exact JK.size (jkG) : w.heap.size ≤ gbq)); have GJq := As_ ((by rw [hg]; exact JS.size0 (base := base) (ok := ok) (w0 := w0) (g := g) (cur := cur) (jsG) : w0.heap.size ≤ gbq)); replace HK := As_ (HK.out.trans (JK.of_below hb)); replace HJ := As_ (JS.below (base := base) (ok := ok) (w0 := w0) (g := g) (cur := cur) (jsG) hb); have BKq := As_ hbox; clear hb hbox hg; obtain ⟨zq_0, fq_0, zq_1, fq_1⟩ := cellsN2 BKq.out; obtain ⟨zq_0, fq_0, zq_1, fq_1⟩ := cellsN2 BKq.out))
  refine (quota_bad.calls time 0 z1 _ hb1).mono ?_
  rintro e w2 ⟨rfl, hd⟩
  have hb := hd.below
  clear hd
  replace HK := As_ ((jkG : JK _ _).trans (JK.of_below hb))
  replace HJ := As_ (JS.below (base := base) (ok := ok) (w0 := w0) (g := g) (cur := cur) (jsG) hb)
  replace BKq := As_ (blk_below (g := gbq) (o := .cells #[.int .i64 qa, .int .i64 qb] 47 (0, 0)) (bkG_q) hb)
  clear hb
  cases z1 with
  | true =>
   have hE := AE.out
   have hcur := AC.out
   rw [if_pos ((of_decide_eq_true AZ1.out).imp id .inl)] at hE
   subst hE
   rw [if_neg (by decide)] at hcur
   subst hcur
   go_wp2
   go_ret
   exact ⟨rfl, jsG, jkG⟩
  | false =>
   go_wp2_with fail
   refine (quota_bad.calls n 1 z2 _ hb2).mono ?_
   rintro e w3 ⟨rfl, hd⟩
   have hb := hd.below
   clear hd
   replace HK := As_ (HK.out.trans (JK.of_below hb))
   replace HJ := As_ (JS.below (base := base) (ok := ok) (w0 := w0) (g := g) (cur := cur) (jsG) hb)
   replace BKq := As_ (blk_below (g := gbq) (o := .cells #[.int .i64 qa, .int .i64 qb] 47 (0, 0)) (bkG_q) hb)
   clear hb
   cases z2 with
   | true =>
    have hE := AE.out
    have hcur := AC.out
    rw [if_pos ((of_decide_eq_true AZ2.out).elim (fun e => .inr (.inr (.inl e))) (fun e => .inr (.inr (.inr e))))] at hE
    subst hE
    rw [if_neg (by decide)] at hcur
    subst hcur
    go_wp2
    go_ret
    exact ⟨rfl, jsG, jkG⟩
   | false =>
    have nz1 := of_decide_eq_false AZ1.out
    have nz2 := of_decide_eq_false AZ2.out
    have hE0 := AE.out
    rw [if_neg (by omega)] at hE0
    clear AE AZ1 AZ2
    have AE := As_ hE0
    have ATB := As_ (show 0 ≤ time ∧ time ≤ 1099511627776 by omega)
    have ANB := As_ (show 1 ≤ n ∧ n ≤ 1099511627776 by omega)
    clear hE0 nz1 nz2
    go_wp2_with fail
    refine (qu_get (⟨#[115, 112, 101, 110, 116]⟩ : ByteArray) name _ sa sb so HJ.out hk (by decide) hn5 rfl AS.out).mono ?_
    rintro e w4 ⟨rfl, hb⟩
    replace HK := As_ (HK.out.trans (JK.of_below hb))
    replace HJ := As_ (JS.below (base := base) (ok := ok) (w0 := w0) (g := g) (cur := cur) (jsG) hb)
    replace BKq := As_ (blk_below (g := gbq) (o := .cells #[.int .i64 qa, .int .i64 qb] 47 (0, 0)) (bkG_q) hb)
    clear hb
    obtain ⟨zq_0, fq_0, zq_1, fq_1⟩ := cellsN2 BKq.out
    clear AS
    go_wp2_with (first | ((with_reducible refine gate_dst (N := 11) rfl ?_); refine bxE (N := 11) (cs := #[.int .i64 0, .int .i64 0]) (t := 47) ?_; intro gbs hg ws hbox hb; have GKs := As_ ((by rw [hg]; exact JK.size (jkG) : w.heap.size ≤ gbs)); have GJs := As_ ((by rw [hg]; exact JS.size0 (base := base) (ok := ok) (w0 := w0) (g := g) (cur := cur) (jsG) : w0.heap.size ≤ gbs)); have NBq_s := As_ ((by rw [hg]; exact Nat.ne_of_lt (blk_lt (g := gbq) (o := .cells #[.int .i64 qa, .int .i64 qb] 47 (0, 0)) (bkG_q)) : gbq ≠ gbs)); have NBs_q := As_ ((by rw [hg]; exact Nat.ne_of_gt (blk_lt (g := gbq) (o := .cells #[.int .i64 qa, .int .i64 qb] 47 (0, 0)) (bkG_q)) : gbs ≠ gbq)); replace HK := As_ (HK.out.trans (JK.of_below hb)); replace HJ := As_ (JS.below (base := base) (ok := ok) (w0 := w0) (g := g) (cur := cur) (jsG) hb); replace BKq := As_ (blk_below (g := gbq) (o := .cells #[.int .i64 qa, .int .i64 qb] 47 (0, 0)) (bkG_q) hb); have BKs := As_ hbox; clear hb hbox hg; obtain ⟨zs_0, fs_0, zs_1, fs_1⟩ := cellsN2 BKs.out; have hnsq := NBs_q.out; have hmsq := NBq_s.out; obtain ⟨zs_0, fs_0, zs_1, fs_1⟩ := cellsN2 BKs.out; have hnsq := NBs_q.out; have hmsq := NBq_s.out; obtain ⟨zq_0, fq_0, zq_1, fq_1⟩ := cellsN2 BKq.out; have hnqs := NBq_s.out; have hmqs := NBs_q.out))
    refine (qu_left (base := base) (ok := ok) (w0 := w0) (g := g) (cur := cur) name qa qb time rest (jsG) hk hn5 AHI.out.2.2.1 (Int.le_trans AHI.out.2.2.2 (by decide)) ⟨AHI.out.1, Int.le_trans AHI.out.2.1 (by decide)⟩ (by have := ATB.out; omega) AT.out).mono ?_
    rintro e w5 ⟨rfl, hb⟩
    replace HK := As_ ((jkG : JK _ _).trans (JK.of_below hb))
    replace HJ := As_ (JS.below (base := base) (ok := ok) (w0 := w0) (g := g) (cur := cur) (jsG) hb)
    replace BKq := As_ (blk_below (g := gbq) (o := .cells #[.int .i64 qa, .int .i64 qb] 47 (0, 0)) (bkG_q) hb)
    replace BKs := As_ (blk_below (g := gbs) (o := .cells #[.int .i64 sa, .int .i64 sb] 47 (0, 0)) (bkG_s) hb)
    clear hb
    clear AT
    have HWD := As_ (show wrap64 D = D by have h1 := ATB.out; have h2 := tdiv_bd time qb (by omega) (by omega) AHI.out.2.2.1; rw [AD.out] at h2; exact w64 h2.1 h2.2)
    have HQ0 := As_ (show ¬ qb = 0 by have := AHI.out.2.2.1; omega)
    by_cases hg : so = true ∧ sa > D
    ·obtain ⟨rfl, hgt⟩ := hg
     go_upto_region 10 with (fail)
     refine start_ (n := 11) (S := fun w' => HeldC gbq #[.int .i64 qa, .int .i64 qb] 47 w' ∧ HeldC gbs #[.int .i64 sa, .int .i64 sb] 47 w') (ds := []) #[false, false, false, false, false, false, false, false, false, false, false] (by kernel_rfl) rfl rfl ⟨HeldC.of (bkG_q), HeldC.of (bkG_s)⟩ (fun hHeld => ?_)
     have n_HJ := at_world hHeld.1 (F := fun Y => JS base ok w0 g cur Y) (jsG)
     have n_HK := at_world hHeld.1 (F := fun Y => JK w Y) (jkG)
     have n_BKq := at_world hHeld.1 (F := fun Y => Y.heap[gbq]? = some (.cells #[.int .i64 qa, .int .i64 qb] 47 (0, 0))) (bkG_q)
     have n_BKs := at_world hHeld.1 (F := fun Y => Y.heap[gbs]? = some (.cells #[.int .i64 sa, .int .i64 sb] 47 (0, 0))) (bkG_s)
     clear HJ HK BKq BKs
     have HJ := n_HJ
     have HK := n_HK
     have BKq := n_BKq
     have BKs := n_BKs
     clear n_HJ n_HK n_BKq n_BKs
     generalize World.drew _ = w8 at hHeld HJ HK BKq BKs ⊢
     refine pure_ (i := 0) (N := some 44) #[true, false, false, false, false, false, false, false, false, false, false] rfl rfl (by kernel_rfl) (fun _ _ _ h => h) (Or.inl ⟨by rfl, ap2_⟩) ap25_ ?_
     refine pure_ (i := 1) (N := some 45) #[true, true, false, false, false, false, false, false, false, false, false] rfl rfl (by kernel_rfl) (fun _ _ _ h => h) (Or.inl ⟨by rfl, ap2_⟩) ap25_ ?_
     refine pure_ (i := 2) (N := some 46) #[true, true, true, false, false, false, false, false, false, false, false] rfl rfl (by kernel_rfl) (fun _ _ _ h => h) (Or.inl ⟨by rfl, ap2_⟩) ap25_ ?_
     refine take_ (i := 3) (N := some 47) #[true, true, true, true, false, false, false, false, false, false, false] rfl rfl (by kernel_rfl) (fun _ _ _ h => h) (Or.inl ⟨by rfl, (by rintro w' ⟨s0, s1⟩; have t0 : w'.cell? ⟨gbq, 1, none⟩ = some (.int .i64 qb) := (blk_cell (HeldC.blk s0) 1).trans rfl; have t1 : w'.cell? ⟨gbs, 0, none⟩ = some (.int .i64 sa) := (blk_cell (HeldC.blk s1) 0).trans rfl; go_simp; with_reducible rfl)⟩) hHeld ap25_ ?_
     refine pure_ (i := 4) (N := some 48) #[true, true, true, true, true, false, false, false, false, false, false] rfl rfl (by kernel_rfl) (fun _ _ _ h => h) (Or.inl ⟨by rfl, ap2_⟩) ap25_ ?_
     refine pure_ (i := 5) (N := some 49) #[true, true, true, true, true, true, false, false, false, false, false] rfl rfl (by kernel_rfl) (fun _ _ _ h => h) (Or.inl ⟨by rfl, ap2_⟩) ap25_ ?_
     refine take_ (i := 6) (N := some 50) #[true, true, true, true, true, true, true, false, false, false, false] rfl rfl (by kernel_rfl) (fun _ _ _ h => h) (Or.inl ⟨by rfl, (by rintro w' ⟨s0, s1⟩; have t0 : w'.cell? ⟨gbq, 1, none⟩ = some (.int .i64 qb) := (blk_cell (HeldC.blk s0) 1).trans rfl; have t1 : w'.cell? ⟨gbs, 0, none⟩ = some (.int .i64 sa) := (blk_cell (HeldC.blk s1) 0).trans rfl; go_simp; with_reducible rfl)⟩) hHeld ap25_ ?_
     refine pure_ (i := 7) (N := some 51) #[true, true, true, true, true, true, true, true, false, false, false] rfl rfl (by kernel_rfl) (fun _ _ _ h => h) (Or.inl ⟨by rfl, ap31_⟩) ap25_ ?_
     refine pure_ (i := 8) (N := some 52) #[true, true, true, true, true, true, true, true, true, false, false] rfl rfl (by kernel_rfl) (fun _ _ _ h => h) (Or.inl ⟨by rfl, ap2_⟩) ap25_ ?_
     refine pure_ (i := 9) (N := some 53) #[true, true, true, true, true, true, true, true, true, true, false] rfl rfl (by kernel_rfl) (fun _ _ _ h => h) (Or.inl ⟨by rfl, ap2_⟩) ap25_ ?_
     refine pure_ (i := 10) (N := some 43) #[true, true, true, true, true, true, true, true, true, true, true] rfl rfl (by kernel_rfl) (fun _ _ _ h => h) (Or.inl ⟨by rfl, ap2_⟩) ap25_ ?_
     refine done_ (by kernel_rfl) ?_
     clear hHeld
     have hE := AE.out
     have hcur := AC.out
     rw [if_pos ⟨by trivial, hgt⟩] at hE
     subst hE
     rw [if_neg (by decide)] at hcur
     subst hcur
     have c9 : decide (D < sa) = true := decide_eq_true hgt
     go_wp2
     go_ret
     exact ⟨rfl, jsG, jkG⟩
    ·have hE0 := AE.out
     rw [if_neg hg] at hE0
     clear AE
     have AE := As_ hE0
     clear hE0
     cases so with
     | false =>
      go_upto_region 10 with (fail)
      refine start_ (n := 11) (S := fun w' => HeldC gbq #[.int .i64 qa, .int .i64 qb] 47 w' ∧ HeldC gbs #[.int .i64 sa, .int .i64 sb] 47 w') (ds := []) #[false, false, false, false, false, false, false, false, false, false, false] (by kernel_rfl) rfl rfl ⟨HeldC.of (bkG_q), HeldC.of (bkG_s)⟩ (fun hHeld => ?_)
      have n_HJ := at_world hHeld.1 (F := fun Y => JS base ok w0 g cur Y) (jsG)
      have n_HK := at_world hHeld.1 (F := fun Y => JK w Y) (jkG)
      have n_BKq := at_world hHeld.1 (F := fun Y => Y.heap[gbq]? = some (.cells #[.int .i64 qa, .int .i64 qb] 47 (0, 0))) (bkG_q)
      have n_BKs := at_world hHeld.1 (F := fun Y => Y.heap[gbs]? = some (.cells #[.int .i64 sa, .int .i64 sb] 47 (0, 0))) (bkG_s)
      clear HJ HK BKq BKs
      have HJ := n_HJ
      have HK := n_HK
      have BKq := n_BKq
      have BKs := n_BKs
      clear n_HJ n_HK n_BKq n_BKs
      generalize World.drew _ = w8 at hHeld HJ HK BKq BKs ⊢
      refine pure_ (i := 0) (N := some 44) #[true, false, false, false, false, false, false, false, false, false, false] rfl rfl (by kernel_rfl) (fun _ _ _ h => h) (Or.inl ⟨by rfl, ap2_⟩) ap25_ ?_
      refine pure_ (i := 1) (N := some 45) #[true, true, false, false, false, false, false, false, false, false, false] rfl rfl (by kernel_rfl) (fun _ _ _ h => h) (Or.inl ⟨by rfl, ap2_⟩) ap25_ ?_
      refine pure_ (i := 2) (N := some 46) (v := undef) (a' := ?_) #[true, true, true, false, false, false, false, false, false, false, false] rfl rfl (by kernel_rfl) (fun _ _ _ h => h) (Or.inr ⟨by rfl, rfl⟩) ?_ ?_
      rotate_left
      ·simp only [Act.put, List.setIfInBounds_toArray, List.set_cons_zero, List.set_cons_succ, i64_w, i32_w]
       rfl
      refine pure_ (i := 3) (N := some 47) (v := undef) (a' := ?_) #[true, true, true, true, false, false, false, false, false, false, false] rfl rfl (by kernel_rfl) (fun _ _ _ h => h) (Or.inr ⟨by rfl, rfl⟩) ?_ ?_
      rotate_left
      ·simp only [Act.put, List.setIfInBounds_toArray, List.set_cons_zero, List.set_cons_succ, i64_w, i32_w]
       rfl
      refine pure_ (i := 4) (N := some 48) (v := undef) (a' := ?_) #[true, true, true, true, true, false, false, false, false, false, false] rfl rfl (by kernel_rfl) (fun _ _ _ h => h) (Or.inr ⟨by rfl, rfl⟩) ?_ ?_
      rotate_left
      ·simp only [Act.put, List.setIfInBounds_toArray, List.set_cons_zero, List.set_cons_succ, i64_w, i32_w]
       rfl
      refine pure_ (i := 5) (N := some 49) (v := undef) (a' := ?_) #[true, true, true, true, true, true, false, false, false, false, false] rfl rfl (by kernel_rfl) (fun _ _ _ h => h) (Or.inr ⟨by rfl, rfl⟩) ?_ ?_
      rotate_left
      ·simp only [Act.put, List.setIfInBounds_toArray, List.set_cons_zero, List.set_cons_succ, i64_w, i32_w]
       rfl
      refine pure_ (i := 6) (N := some 50) (v := undef) (a' := ?_) #[true, true, true, true, true, true, true, false, false, false, false] rfl rfl (by kernel_rfl) (fun _ _ _ h => h) (Or.inr ⟨by rfl, rfl⟩) ?_ ?_
      rotate_left
      ·simp only [Act.put, List.setIfInBounds_toArray, List.set_cons_zero, List.set_cons_succ, i64_w, i32_w]
       rfl
      refine pure_ (i := 7) (N := some 51) (v := undef) (a' := ?_) #[true, true, true, true, true, true, true, true, false, false, false] rfl rfl (by kernel_rfl) (fun _ _ _ h => h) (Or.inr ⟨by rfl, rfl⟩) ?_ ?_
      rotate_left
      ·simp only [Act.put, List.setIfInBounds_toArray, List.set_cons_zero, List.set_cons_succ, i64_w, i32_w]
       rfl
      refine pure_ (i := 8) (N := some 52) (v := undef) (a' := ?_) #[true, true, true, true, true, true, true, true, true, false, false] rfl rfl (by kernel_rfl) (fun _ _ _ h => h) (Or.inr ⟨by rfl, rfl⟩) ?_ ?_
      rotate_left
      ·simp only [Act.put, List.setIfInBounds_toArray, List.set_cons_zero, List.set_cons_succ, i64_w, i32_w]
       rfl
      refine pure_ (i := 9) (N := some 53) #[true, true, true, true, true, true, true, true, true, true, false] rfl rfl (by kernel_rfl) (fun _ _ _ h => h) (Or.inl ⟨by rfl, ap2_⟩) ap25_ ?_
      refine pure_ (i := 10) (N := some 43) #[true, true, true, true, true, true, true, true, true, true, true] rfl rfl (by kernel_rfl) (fun _ _ _ h => h) (Or.inl ⟨by rfl, ap2_⟩) ap25_ ?_
      refine done_ (by kernel_rfl) ?_
      clear hHeld
      by_cases hlt : n > rest
      ·have hE := AE.out
       have hcur := AC.out
       rw [if_pos hlt] at hE
       subst hE
       rw [if_neg (by decide)] at hcur
       subst hcur
       have c8 : decide (rest < n) = true := decide_eq_true hlt
       go_wp2
       go_ret
       exact ⟨rfl, jsG, jkG⟩
      ·have hE := AE.out
       have hcur := AC.out
       rw [if_neg hlt] at hE
       subst hE
       rw [if_pos rfl] at hcur
       have c8 : decide (rest < n) = false := decide_eq_false hlt
       clear hlt AE AC
       have HWS := As_ (show wrap64 (qa - rest) = qa - rest from w64 ap3_ ap3_)
       have HWN := As_ (show wrap64 (qa - rest + n) = qa - rest + n from w64 ap8_ ap8_)
       have hse := setE_0 (key := spK name) (value := bkNum D ++ bkNum (qa - rest + n)) (by have := spK_len name; omega) (by have := bk2_sz D (qa - rest + n); omega)
       have AP := As_ hse
       have AC := As_ hcur
       clear hse hcur
       go_upto_region 14 with (fail)
       refine start_ (n := 15) (S := fun w' => HeldC gbq #[.int .i64 qa, .int .i64 qb] 47 w') (ds := []) #[false, false, false, false, false, false, false, false, false, false, false, false, false, false, false] (by kernel_rfl) rfl rfl (HeldC.of (bkG_q)) (fun hHeld => ?_)
       have n_HJ := at_world hHeld (F := fun Y => JS base ok w0 g cur Y) (jsG)
       have n_HK := at_world hHeld (F := fun Y => JK w Y) (jkG)
       have n_BKq := at_world hHeld (F := fun Y => Y.heap[gbq]? = some (.cells #[.int .i64 qa, .int .i64 qb] 47 (0, 0))) (bkG_q)
       have n_BKs := at_world hHeld (F := fun Y => Y.heap[gbs]? = some (.cells #[.int .i64 sa, .int .i64 sb] 47 (0, 0))) (bkG_s)
       clear HJ HK BKq BKs
       have HJ := n_HJ
       have HK := n_HK
       have BKq := n_BKq
       have BKs := n_BKs
       clear n_HJ n_HK n_BKq n_BKs
       generalize World.drew _ = w9 at hHeld HJ HK BKq BKs ⊢
       refine pure_ (i := 0) (N := some 58) #[true, false, false, false, false, false, false, false, false, false, false, false, false, false, false] rfl rfl (by kernel_rfl) (fun _ _ _ h => h) (Or.inl ⟨by rfl, ap2_⟩) ap25_ ?_
       refine pure_ (i := 1) (N := some 59) #[true, true, false, false, false, false, false, false, false, false, false, false, false, false, false] rfl rfl (by kernel_rfl) (fun _ _ _ h => h) (Or.inl ⟨by rfl, ap2_⟩) ap25_ ?_
       refine pure_ (i := 2) (N := some 60) #[true, true, true, false, false, false, false, false, false, false, false, false, false, false, false] rfl rfl (by kernel_rfl) (fun _ _ _ h => h) (Or.inl ⟨by rfl, ap2_⟩) ap25_ ?_
       refine pure_ (i := 3) (N := some 61) #[true, true, true, true, false, false, false, false, false, false, false, false, false, false, false] rfl rfl (by kernel_rfl) (fun _ _ _ h => h) (Or.inl ⟨by rfl, ap2_⟩) ap25_ ?_
       refine take_ (i := 4) (N := some 62) #[true, true, true, true, true, false, false, false, false, false, false, false, false, false, false] rfl rfl (by kernel_rfl) (fun _ _ _ h => h) (Or.inl ⟨by rfl, (by rintro w' s0; have t0 : w'.cell? ⟨gbq, 1, none⟩ = some (.int .i64 qb) := (blk_cell (HeldC.blk s0) 1).trans rfl; go_simp; with_reducible rfl)⟩) hHeld ap25_ ?_
       refine pure_ (i := 5) (N := some 63) #[true, true, true, true, true, true, false, false, false, false, false, false, false, false, false] rfl rfl (by kernel_rfl) (fun _ _ _ h => h) (Or.inl ⟨by rfl, ap31_⟩) ap25_ ?_
       refine pure_ (i := 6) (N := some 64) #[true, true, true, true, true, true, true, false, false, false, false, false, false, false, false] rfl rfl (by kernel_rfl) (fun _ _ _ h => h) (Or.inl ⟨by rfl, ap2_⟩) ap25_ ?_
       refine take_ (i := 7) (N := some 65) #[true, true, true, true, true, true, true, true, false, false, false, false, false, false, false] rfl rfl (by kernel_rfl) (fun _ _ _ h => h) (Or.inl ⟨by rfl, (by rintro w' s0; have t0 : w'.cell? ⟨gbq, 0, none⟩ = some (.int .i64 qa) := (blk_cell (HeldC.blk s0) 0).trans rfl; go_simp; with_reducible rfl)⟩) hHeld ap25_ ?_
       refine pure_ (i := 8) (N := some 66) #[true, true, true, true, true, true, true, true, true, false, false, false, false, false, false] rfl rfl (by kernel_rfl) (fun _ _ _ h => h) (Or.inl ⟨by rfl, ap2_⟩) ap25_ ?_
       refine pure_ (i := 9) (N := some 67) #[true, true, true, true, true, true, true, true, true, true, false, false, false, false, false] rfl rfl (by kernel_rfl) (fun _ _ _ h => h) (Or.inl ⟨by rfl, ap32_⟩) ap25_ ?_
       refine pure_ (i := 10) (N := some 68) #[true, true, true, true, true, true, true, true, true, true, true, false, false, false, false] rfl rfl (by kernel_rfl) (fun _ _ _ h => h) (Or.inl ⟨by rfl, ap2_⟩) ap25_ ?_
       refine pure_ (i := 11) (N := some 69) #[true, true, true, true, true, true, true, true, true, true, true, true, false, false, false] rfl rfl (by kernel_rfl) (fun _ _ _ h => h) (Or.inl ⟨by rfl, ap33_⟩) ap25_ ?_
       refine pure_ (i := 12) (N := some 70) #[true, true, true, true, true, true, true, true, true, true, true, true, true, false, false] rfl rfl (by kernel_rfl) (fun _ _ _ h => h) (Or.inl ⟨by rfl, ap2_⟩) ap25_ ?_
       refine one_ (i := 13) (N := some 71) #[true, true, true, true, true, true, true, true, true, true, true, true, true, true, false] rfl rfl (by kernel_rfl) (by decide) (fun K hK => ?_)
       refine goes_ Tryz.func22 (by kernel_rfl) rfl #[.pointer (some ⟨g, 0, none⟩), .string ⟨#[115, 112, 101, 110, 116]⟩, .string name, .agg #[.int .i64 D, .int .i64 (qa - rest + n)]] (by rfl) rfl rfl ap13_ ?_
       refine (qu_put (⟨#[115, 112, 101, 110, 116]⟩ : ByteArray) name (spK name) D (qa - rest + n) HJ.out hk (by decide) hn5 rfl).mono ?_
       rintro e w7 ⟨rfl, hj, hk9⟩
       refine ⟨_, rfl, ?_⟩
       rw [AC.out] at hj
       rw [AP.out]
       have n_HK := As_ (HK.out.trans hk9)
       have n_BKq := As_ (JK.blk (b := gbq) (c := #[.int .i64 qa, .int .i64 qb]) (q := 47) (x := (0, 0)) hk9 BKq.out (by decide))
       clear HJ HK BKq BKs hk9
       have HJ := As_ hj
       have HK := n_HK
       have BKq := n_BKq
       clear n_HK n_BKq hj
       refine hK.out _ _ (HeldC.of BKq.out) (fun hHeld => ?_)
       clear hK K
       refine norm_ (a' := ?_) ?_ ?_
       rotate_left
       ·show Act.put _ (some 71) _ = _
        simp only [Act.put, List.setIfInBounds_toArray, List.set_cons_zero, List.set_cons_succ, i64_w, i32_w]
        rfl
       refine pure_ (i := 14) (N := some 8) #[true, true, true, true, true, true, true, true, true, true, true, true, true, true, true] rfl rfl (by kernel_rfl) (fun _ _ _ h => h) (Or.inl ⟨by rfl, ap2_⟩) ap25_ ?_
       refine done_ (by kernel_rfl) ?_
       clear hHeld
       first | (go_wp2; go_ret) | go_ret
       exact ⟨rfl, HJ.out, HK.out⟩
     | true =>
      have hle : ¬ sa > D := fun e => hg ⟨by trivial, e⟩
      have c9 : decide (D < sa) = false := decide_eq_false hle
      clear hle
      go_upto_region 10 with (fail)
      refine start_ (n := 11) (S := fun w' => HeldC gbq #[.int .i64 qa, .int .i64 qb] 47 w' ∧ HeldC gbs #[.int .i64 sa, .int .i64 sb] 47 w') (ds := []) #[false, false, false, false, false, false, false, false, false, false, false] (by kernel_rfl) rfl rfl ⟨HeldC.of (bkG_q), HeldC.of (bkG_s)⟩ (fun hHeld => ?_)
      have n_HJ := at_world hHeld.1 (F := fun Y => JS base ok w0 g cur Y) (jsG)
      have n_HK := at_world hHeld.1 (F := fun Y => JK w Y) (jkG)
      have n_BKq := at_world hHeld.1 (F := fun Y => Y.heap[gbq]? = some (.cells #[.int .i64 qa, .int .i64 qb] 47 (0, 0))) (bkG_q)
      have n_BKs := at_world hHeld.1 (F := fun Y => Y.heap[gbs]? = some (.cells #[.int .i64 sa, .int .i64 sb] 47 (0, 0))) (bkG_s)
      clear HJ HK BKq BKs
      have HJ := n_HJ
      have HK := n_HK
      have BKq := n_BKq
      have BKs := n_BKs
      clear n_HJ n_HK n_BKq n_BKs
      generalize World.drew _ = w8 at hHeld HJ HK BKq BKs ⊢
      refine pure_ (i := 0) (N := some 44) #[true, false, false, false, false, false, false, false, false, false, false] rfl rfl (by kernel_rfl) (fun _ _ _ h => h) (Or.inl ⟨by rfl, ap2_⟩) ap25_ ?_
      refine pure_ (i := 1) (N := some 45) #[true, true, false, false, false, false, false, false, false, false, false] rfl rfl (by kernel_rfl) (fun _ _ _ h => h) (Or.inl ⟨by rfl, ap2_⟩) ap25_ ?_
      refine pure_ (i := 2) (N := some 46) #[true, true, true, false, false, false, false, false, false, false, false] rfl rfl (by kernel_rfl) (fun _ _ _ h => h) (Or.inl ⟨by rfl, ap2_⟩) ap25_ ?_
      refine take_ (i := 3) (N := some 47) #[true, true, true, true, false, false, false, false, false, false, false] rfl rfl (by kernel_rfl) (fun _ _ _ h => h) (Or.inl ⟨by rfl, (by rintro w' ⟨s0, s1⟩; have t0 : w'.cell? ⟨gbq, 1, none⟩ = some (.int .i64 qb) := (blk_cell (HeldC.blk s0) 1).trans rfl; have t1 : w'.cell? ⟨gbs, 0, none⟩ = some (.int .i64 sa) := (blk_cell (HeldC.blk s1) 0).trans rfl; go_simp; with_reducible rfl)⟩) hHeld ap25_ ?_
      refine pure_ (i := 4) (N := some 48) #[true, true, true, true, true, false, false, false, false, false, false] rfl rfl (by kernel_rfl) (fun _ _ _ h => h) (Or.inl ⟨by rfl, ap2_⟩) ap25_ ?_
      refine pure_ (i := 5) (N := some 49) #[true, true, true, true, true, true, false, false, false, false, false] rfl rfl (by kernel_rfl) (fun _ _ _ h => h) (Or.inl ⟨by rfl, ap2_⟩) ap25_ ?_
      refine take_ (i := 6) (N := some 50) #[true, true, true, true, true, true, true, false, false, false, false] rfl rfl (by kernel_rfl) (fun _ _ _ h => h) (Or.inl ⟨by rfl, (by rintro w' ⟨s0, s1⟩; have t0 : w'.cell? ⟨gbq, 1, none⟩ = some (.int .i64 qb) := (blk_cell (HeldC.blk s0) 1).trans rfl; have t1 : w'.cell? ⟨gbs, 0, none⟩ = some (.int .i64 sa) := (blk_cell (HeldC.blk s1) 0).trans rfl; go_simp; with_reducible rfl)⟩) hHeld ap25_ ?_
      refine pure_ (i := 7) (N := some 51) #[true, true, true, true, true, true, true, true, false, false, false] rfl rfl (by kernel_rfl) (fun _ _ _ h => h) (Or.inl ⟨by rfl, ap31_⟩) ap25_ ?_
      refine pure_ (i := 8) (N := some 52) #[true, true, true, true, true, true, true, true, true, false, false] rfl rfl (by kernel_rfl) (fun _ _ _ h => h) (Or.inl ⟨by rfl, ap2_⟩) ap25_ ?_
      refine pure_ (i := 9) (N := some 53) #[true, true, true, true, true, true, true, true, true, true, false] rfl rfl (by kernel_rfl) (fun _ _ _ h => h) (Or.inl ⟨by rfl, ap2_⟩) ap25_ ?_
      refine pure_ (i := 10) (N := some 43) #[true, true, true, true, true, true, true, true, true, true, true] rfl rfl (by kernel_rfl) (fun _ _ _ h => h) (Or.inl ⟨by rfl, ap2_⟩) ap25_ ?_
      refine done_ (by kernel_rfl) ?_
      clear hHeld
      clear hg
      by_cases hlt : n > rest
      ·have hE := AE.out
       have hcur := AC.out
       rw [if_pos hlt] at hE
       subst hE
       rw [if_neg (by decide)] at hcur
       subst hcur
       have c8 : decide (rest < n) = true := decide_eq_true hlt
       go_wp2
       go_ret
       exact ⟨rfl, jsG, jkG⟩
      ·have hE := AE.out
       have hcur := AC.out
       rw [if_neg hlt] at hE
       subst hE
       rw [if_pos rfl] at hcur
       have c8 : decide (rest < n) = false := decide_eq_false hlt
       clear hlt AE AC
       have HWS := As_ (show wrap64 (qa - rest) = qa - rest from w64 ap3_ ap3_)
       have HWN := As_ (show wrap64 (qa - rest + n) = qa - rest + n from w64 ap8_ ap8_)
       have hse := setE_0 (key := spK name) (value := bkNum D ++ bkNum (qa - rest + n)) (by have := spK_len name; omega) (by have := bk2_sz D (qa - rest + n); omega)
       have AP := As_ hse
       have AC := As_ hcur
       clear hse hcur
       go_upto_region 14 with (fail)
       refine start_ (n := 15) (S := fun w' => HeldC gbq #[.int .i64 qa, .int .i64 qb] 47 w') (ds := []) #[false, false, false, false, false, false, false, false, false, false, false, false, false, false, false] (by kernel_rfl) rfl rfl (HeldC.of (bkG_q)) (fun hHeld => ?_)
       have n_HJ := at_world hHeld (F := fun Y => JS base ok w0 g cur Y) (jsG)
       have n_HK := at_world hHeld (F := fun Y => JK w Y) (jkG)
       have n_BKq := at_world hHeld (F := fun Y => Y.heap[gbq]? = some (.cells #[.int .i64 qa, .int .i64 qb] 47 (0, 0))) (bkG_q)
       have n_BKs := at_world hHeld (F := fun Y => Y.heap[gbs]? = some (.cells #[.int .i64 sa, .int .i64 sb] 47 (0, 0))) (bkG_s)
       clear HJ HK BKq BKs
       have HJ := n_HJ
       have HK := n_HK
       have BKq := n_BKq
       have BKs := n_BKs
       clear n_HJ n_HK n_BKq n_BKs
       generalize World.drew _ = w9 at hHeld HJ HK BKq BKs ⊢
       refine pure_ (i := 0) (N := some 58) #[true, false, false, false, false, false, false, false, false, false, false, false, false, false, false] rfl rfl (by kernel_rfl) (fun _ _ _ h => h) (Or.inl ⟨by rfl, ap2_⟩) ap25_ ?_
       refine pure_ (i := 1) (N := some 59) #[true, true, false, false, false, false, false, false, false, false, false, false, false, false, false] rfl rfl (by kernel_rfl) (fun _ _ _ h => h) (Or.inl ⟨by rfl, ap2_⟩) ap25_ ?_
       refine pure_ (i := 2) (N := some 60) #[true, true, true, false, false, false, false, false, false, false, false, false, false, false, false] rfl rfl (by kernel_rfl) (fun _ _ _ h => h) (Or.inl ⟨by rfl, ap2_⟩) ap25_ ?_
       refine pure_ (i := 3) (N := some 61) #[true, true, true, true, false, false, false, false, false, false, false, false, false, false, false] rfl rfl (by kernel_rfl) (fun _ _ _ h => h) (Or.inl ⟨by rfl, ap2_⟩) ap25_ ?_
       refine take_ (i := 4) (N := some 62) #[true, true, true, true, true, false, false, false, false, false, false, false, false, false, false] rfl rfl (by kernel_rfl) (fun _ _ _ h => h) (Or.inl ⟨by rfl, (by rintro w' s0; have t0 : w'.cell? ⟨gbq, 1, none⟩ = some (.int .i64 qb) := (blk_cell (HeldC.blk s0) 1).trans rfl; go_simp; with_reducible rfl)⟩) hHeld ap25_ ?_
       refine pure_ (i := 5) (N := some 63) #[true, true, true, true, true, true, false, false, false, false, false, false, false, false, false] rfl rfl (by kernel_rfl) (fun _ _ _ h => h) (Or.inl ⟨by rfl, ap31_⟩) ap25_ ?_
       refine pure_ (i := 6) (N := some 64) #[true, true, true, true, true, true, true, false, false, false, false, false, false, false, false] rfl rfl (by kernel_rfl) (fun _ _ _ h => h) (Or.inl ⟨by rfl, ap2_⟩) ap25_ ?_
       refine take_ (i := 7) (N := some 65) #[true, true, true, true, true, true, true, true, false, false, false, false, false, false, false] rfl rfl (by kernel_rfl) (fun _ _ _ h => h) (Or.inl ⟨by rfl, (by rintro w' s0; have t0 : w'.cell? ⟨gbq, 0, none⟩ = some (.int .i64 qa) := (blk_cell (HeldC.blk s0) 0).trans rfl; go_simp; with_reducible rfl)⟩) hHeld ap25_ ?_
       refine pure_ (i := 8) (N := some 66) #[true, true, true, true, true, true, true, true, true, false, false, false, false, false, false] rfl rfl (by kernel_rfl) (fun _ _ _ h => h) (Or.inl ⟨by rfl, ap2_⟩) ap25_ ?_
       refine pure_ (i := 9) (N := some 67) #[true, true, true, true, true, true, true, true, true, true, false, false, false, false, false] rfl rfl (by kernel_rfl) (fun _ _ _ h => h) (Or.inl ⟨by rfl, ap32_⟩) ap25_ ?_
       refine pure_ (i := 10) (N := some 68) #[true, true, true, true, true, true, true, true, true, true, true, false, false, false, false] rfl rfl (by kernel_rfl) (fun _ _ _ h => h) (Or.inl ⟨by rfl, ap2_⟩) ap25_ ?_
       refine pure_ (i := 11) (N := some 69) #[true, true, true, true, true, true, true, true, true, true, true, true, false, false, false] rfl rfl (by kernel_rfl) (fun _ _ _ h => h) (Or.inl ⟨by rfl, ap33_⟩) ap25_ ?_
       refine pure_ (i := 12) (N := some 70) #[true, true, true, true, true, true, true, true, true, true, true, true, true, false, false] rfl rfl (by kernel_rfl) (fun _ _ _ h => h) (Or.inl ⟨by rfl, ap2_⟩) ap25_ ?_
       refine one_ (i := 13) (N := some 71) #[true, true, true, true, true, true, true, true, true, true, true, true, true, true, false] rfl rfl (by kernel_rfl) (by decide) (fun K hK => ?_)
       refine goes_ Tryz.func22 (by kernel_rfl) rfl #[.pointer (some ⟨g, 0, none⟩), .string ⟨#[115, 112, 101, 110, 116]⟩, .string name, .agg #[.int .i64 D, .int .i64 (qa - rest + n)]] (by rfl) rfl rfl ap13_ ?_
       refine (qu_put (⟨#[115, 112, 101, 110, 116]⟩ : ByteArray) name (spK name) D (qa - rest + n) HJ.out hk (by decide) hn5 rfl).mono ?_
       rintro e w7 ⟨rfl, hj, hk9⟩
       refine ⟨_, rfl, ?_⟩
       rw [AC.out] at hj
       rw [AP.out]
       have n_HK := As_ (HK.out.trans hk9)
       have n_BKq := As_ (JK.blk (b := gbq) (c := #[.int .i64 qa, .int .i64 qb]) (q := 47) (x := (0, 0)) hk9 BKq.out (by decide))
       clear HJ HK BKq BKs hk9
       have HJ := As_ hj
       have HK := n_HK
       have BKq := n_BKq
       clear n_HK n_BKq hj
       refine hK.out _ _ (HeldC.of BKq.out) (fun hHeld => ?_)
       clear hK K
       refine norm_ (a' := ?_) ?_ ?_
       rotate_left
       ·show Act.put _ (some 71) _ = _
        simp only [Act.put, List.setIfInBounds_toArray, List.set_cons_zero, List.set_cons_succ, i64_w, i32_w]
        rfl
       refine pure_ (i := 14) (N := some 8) #[true, true, true, true, true, true, true, true, true, true, true, true, true, true, true] rfl rfl (by kernel_rfl) (fun _ _ _ h => h) (Or.inl ⟨by rfl, ap2_⟩) ap25_ ?_
       refine done_ (by kernel_rfl) ?_
       clear hHeld
       first | (go_wp2; go_ret) | go_ret
       exact ⟨rfl, HJ.out, HK.out⟩
theorem qu_Set {base g : Nat} {ok : Nat → Prop} {w0 : World} {cur : List S55} (name : ByteArray) (n long E : Int) (cur' : List S55) {w : World} (h : JS base ok w0 g cur w) (hk : KV 1000000 cur) (hn : name.size ≤ 1000) (hE : quSetE name n long = E) (hcur : quSet cur name n long = cur') :
  Calls Tryz.prog 12 #[.pointer (some ⟨g, 0, none⟩), .string name, .int .i64 n, .int .i64 long] w fun e w' => e = .returned (.int .i64 E) ∧ JS base ok w0 g cur' w' ∧ JK w w' := by
 obtain ⟨K0, c0⟩ := nm_check_ev 6 name (by omega)
 obtain ⟨n0, hn0⟩ : ∃ z, nm_checkSpec 6 name = z := ⟨_, rfl⟩
 rw [hn0] at c0
 replace c0 : names_Check.f K0 6 name = some n0 := c0 K0 (Nat.le_refl _)
 unfold quSet at hcur
 rw [hE] at hcur
 unfold quSetE at hE
 rw [hn0] at hE
 have hb1 := quBad_is n 0
 obtain ⟨z1, hz1⟩ : ∃ z, decide (n < 0 ∨ n > 1099511627776) = z := ⟨_, rfl⟩
 rw [hz1] at hb1
 have hb2 := quBad_is long 1
 obtain ⟨z2, hz2⟩ : ∃ z, decide (long < 1 ∨ long > 1099511627776) = z := ⟨_, rfl⟩
 rw [hz2] at hb2
 obtain ⟨y1, hy1⟩ : ∃ y : List ByteArray, y = [name] := ⟨_, rfl⟩
 obtain ⟨k1, key1⟩ := key_ev (⟨#[115, 112, 101, 110, 116]⟩ : ByteArray) y1 (by decide) (by rw [hy1]; simp) (by rw [hy1]; simp; omega)
 have ekey : keyB (⟨#[115, 112, 101, 110, 116]⟩ : ByteArray) y1 = spK name := by rw [hy1]; rfl
 rw [ekey] at key1
 have hn5 : name.size ≤ 50000000 := by omega
 have hse := setE_0 (key := quK name) (value := bkNum n ++ bkNum long) (by have := quK_len name; omega) (by have := bk2_sz n long; omega)
 have hkd := hk.del (spK name)
 have Ny1 := As_ hy1
 have AP := As_ hse
 have AE := As_ hE
 have AC := As_ hcur
 have AZ1 := As_ hz1
 have AZ2 := As_ hz2
 have HJ := As_ h
 have HK := As_ (JK.of_below (Below.refl w.heap.size w))
 clear h hE hcur hz1 hz2 hn0 hse hy1 ekey
 go_enter Tryz.func12, Tryz.ntmps12
 go_wp2_with fail
 refine (names_Check.calls K0 6 name n0 _ c0).mono ?_
 rintro e w1 ⟨rfl, hb⟩
 replace HK := As_ (HK.out.trans (JK.of_below hb))
 replace HJ := As_ (JS.below (base := base) (ok := ok) (w0 := w0) (g := g) (cur := cur) (jsG) hb)
 clear hb
 by_cases z0 : n0 = 0
 ·subst z0
  have hE0 := AE.out
  rw [if_pos rfl] at hE0
  clear AE
  have AE := As_ hE0
  clear hE0
  go_wp2_with fail
  refine (quota_bad.calls n 0 z1 _ hb1).mono ?_
  rintro e w2 ⟨rfl, hd⟩
  have hb := hd.below
  clear hd
  replace HK := As_ (HK.out.trans (JK.of_below hb))
  replace HJ := As_ (JS.below (base := base) (ok := ok) (w0 := w0) (g := g) (cur := cur) (jsG) hb)
  clear hb
  cases z1 with
  | true =>
   have hE := AE.out
   have hcur := AC.out
   rw [if_pos ((of_decide_eq_true AZ1.out).imp id .inl)] at hE
   subst hE
   rw [if_neg (by decide)] at hcur
   subst hcur
   go_wp2
   go_ret
   exact ⟨rfl, jsG, jkG⟩
  | false =>
   go_wp2_with fail
   refine (quota_bad.calls long 1 z2 _ hb2).mono ?_
   rintro e w3 ⟨rfl, hd⟩
   have hb := hd.below
   clear hd
   replace HK := As_ (HK.out.trans (JK.of_below hb))
   replace HJ := As_ (JS.below (base := base) (ok := ok) (w0 := w0) (g := g) (cur := cur) (jsG) hb)
   clear hb
   cases z2 with
   | true =>
    have hE := AE.out
    have hcur := AC.out
    rw [if_pos ((of_decide_eq_true AZ2.out).elim (fun e => .inr (.inr (.inl e))) (fun e => .inr (.inr (.inr e))))] at hE
    subst hE
    rw [if_neg (by decide)] at hcur
    subst hcur
    go_wp2
    go_ret
    exact ⟨rfl, jsG, jkG⟩
   | false =>
    have nz1 := of_decide_eq_false AZ1.out
    have nz2 := of_decide_eq_false AZ2.out
    have hE := AE.out
    have hcur := AC.out
    rw [if_neg (by omega)] at hE
    subst hE
    rw [if_pos rfl] at hcur
    clear AE AC AZ1 AZ2 nz1 nz2
    have AC := As_ hcur
    clear hcur
    go_wp2_with (first | ((with_reducible refine gate_dst (N := 25) rfl ?_); (try (refine gate_guard (by rfl) ?_; dsimp only)); refine Kd.R_lit Kd.string _ 9 ?hg (N := 25) ?hd (xs := ([name] : List ByteArray)) (inner := [.string name]) (ok := fun _ => True) (okp := fun _ => True) ?hr ?hp (fun _ hk => hk) trivial (Below.refl _ _) (Nat.le_refl _) (by simp) ?_; (case hd => rfl); (case hg => rfl); (case hr => first | (go_simp; done) | (go_simp; rfl)); (case hp => exact (Reps.one (show Kd.M Kd.string _ _ _ name [.string name] from rfl) (Reps.none _ _))); intro vlit wy1 hlit hb hg_ hnew_; clear hg_ hnew_; rw [← Ny1.out] at hlit; obtain ⟨Ay1, cy1, el_⟩ := Kd.R_slice hlit; subst el_; have Ry1 := As_ hlit; clear hlit; replace HK := As_ (HK.out.trans (JK.of_below hb)); replace HJ := As_ (JS.below (base := base) (ok := ok) (w0 := w0) (g := g) (cur := cur) (jsG) hb); clear hb))
    refine (path_Join.calls k1 (⟨#[115, 112, 101, 110, 116]⟩ : ByteArray) Ay1 cy1 y1 (spK name) _ (Kd.R_reads' Ry1.out).2.2 (Kd.R_reads' Ry1.out).2.1 key1).mono ?_
    rintro e w4 ⟨rfl, hb⟩
    replace HK := As_ (HK.out.trans (JK.of_below hb))
    replace HJ := As_ (JS.below (base := base) (ok := ok) (w0 := w0) (g := g) (cur := cur) (jsG) hb)
    clear hb
    clear Ry1 Ny1
    go_wp2_with fail
    refine (js_del (spK name) HJ.out hk).mono ?_
    rintro e w5 ⟨rfl, hj, hk9⟩
    have n_HK := As_ (HK.out.trans hk9)
    clear HJ HK hk9
    have HJ := As_ hj
    have HK := n_HK
    clear n_HK hj
    go_wp2_with fail
    refine (qu_put (⟨#[113, 117, 111, 116, 97]⟩ : ByteArray) name (quK name) n long HJ.out hkd (by decide) hn5 rfl).mono ?_
    rintro e w6 ⟨rfl, hj, hk9⟩
    rw [AC.out] at hj
    rw [AP.out]
    have n_HK := As_ (HK.out.trans hk9)
    clear HJ HK hk9
    have HJ := As_ hj
    have HK := n_HK
    clear n_HK hj
    go_wp2
    go_ret
    exact ⟨rfl, HJ.out, HK.out⟩
 ·have hE := AE.out
  have hcur := AC.out
  rw [if_neg z0] at hE
  subst hE
  rw [if_neg (by decide)] at hcur
  subst hcur
  have c7 : (n0 == 0) = false := beq_eq_false_iff_ne.2 z0
  go_wp2
  go_ret
  exact ⟨rfl, jsG, jkG⟩
end Go.Proofs.YtgapkicplhbidaaGreatDoor.PQup
