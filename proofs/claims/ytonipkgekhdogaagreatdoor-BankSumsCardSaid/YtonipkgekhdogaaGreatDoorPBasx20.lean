-- written by wip/myprint.py over the kit's print; not a printed text of print.sh
import Derived.Test.YtonipkgekhdogaaGreatDoorPBasx0
import Derived.Test.YtonipkgekhdogaaGreatDoorPBasx2
import Derived.Test.YtonipkgekhdogaaGreatDoorPBasx7
import Derived.Test.YtonipkgekhdogaaGreatDoorPBasx8
import Derived.Test.YtonipkgekhdogaaGreatDoorPBasx15
import Derived.Test.YtonipkgekhdogaaGreatDoorPBasx17
import Derived.Test.YtonipkgekhdogaaGreatDoorPBasx18
namespace Go.Proofs.YtonipkgekhdogaaGreatDoor.PBas
open Go.RowKit Go.Proofs.YtonipkgekhdogaaGreatDoorW.PrintWords Go.Proofs.YtonipkgekhdogaaGreatDoorW.PrintLast Go.Proofs.YtonipkgekhdogaaGreatDoorW.PrintMore
attribute [local go_sem] max2_int min2_int max_two min_two max_three min_three max_four min_four   -- for this text's walks alone
set_option linter.unusedVariables false
set_option linter.unusedSimpArgs false

/-! ### bank_check: function 51 -/
-- @break
theorem bkChk_bad {n : Int} {l : List ByteArray} {s : ByteArray} (hs : s ∈ l) (h : ¬ nm_checkSpec 6 s = 0) : bkChk n l = 7 := if_neg (fun e => h (e s hs))
set_option maxHeartbeats 4000000 in
set_option maxRecDepth 100000 in
theorem bk_check (g : Nat) (n : Int) (A : Option Addr) (c : Nat) (l : List ByteArray) (x : Int) {w : World} (hr : Kd.C Kd.string w A l.length l) (hc : l.length ≤ c) (hs : ∀ s ∈ l, s.size ≤ 140737488351232) (hl : l.length ≤ 1000) (hx : bkChk n l = x) :
    Calls Tryz.prog 51 #[.pointer (some ⟨g, 0, none⟩), .int .i64 n, .slice A l.length c] w fun e w' => e = .returned (.int .i64 x) ∧ Below w.heap.size w w' := by
  have HR := Aside0.mk hr
  have HB := Aside0.mk (Below.refl w.heap.size w)
  clear hr
  go_enter Tryz.func51, Tryz.ntmps51
  go_wp2_with fail
  go_loopg [13] l.length (fun gg si wx => ∃ i : Nat, si = .int .i64 (i : Int) ∧ i + gg = l.length ∧ (∀ s ∈ l.take i, nm_checkSpec 6 s = 0) ∧ Aside0 (Below w.heap.size w wx))
  case atStart => exact ⟨0, rfl, by omega, (fun s h => by simp at h), HB⟩
  case round =>
    clear HB
    obtain ⟨i, rfl, hi, hall, HL⟩ := hrel
    by_cases hlt : i < l.length
    · have p1 : (0 : Int) ≤ (i : Int) := by omega
      have q1 : (i : Int) < (l.length : Int) := by omega
      obtain ⟨ad, e1, hx1⟩ := Kd.at_string HR.out (i : Int) p1 q1
      cases e1
      replace hx1 := (HL.out.cell (World.block_lt_of_cell? _ _ hx1)).trans hx1
      rw [rdOf_get l i hlt] at hx1
      simp only [Int.toNat_natCast] at hx1
      have hm := List.getElem_mem hlt
      have htk : l.take (i + 1) = l.take i ++ [l[i]] := by rw [List.take_add_one, List.getElem?_eq_getElem hlt]; rfl
      obtain ⟨K0, c0⟩ := nm_check_ev 6 l[i] (hs _ hm)
      have A1 := Aside0.mk (And.intro hm htk)
      clear hm htk
      generalize l[i] = d at hx1 c0 A1
      generalize hn0 : nm_checkSpec 6 d = n0 at c0
      replace c0 : names_Check.f K0 6 d = some n0 := c0 K0 (Nat.le_refl _)
      have A2 := Aside0.mk (And.intro hx hn0)
      have A3 := Aside0.mk hall
      have AW := Aside0.mk (w_one i (by omega))
      clear hx hn0 hall hs
      go_wp2_with fail
      refine (names_Check.calls K0 6 d n0 _ c0).mono ?_
      rintro e w1 ⟨rfl, hb⟩
      have HL2 := Aside0.mk (below_then HL.out HL.out.size hb)
      clear HL hb hx1 c0
      by_cases hz : n0 = 0
      · subst hz
        go_wp2
        go_roundg (l.length - (i + 1))
        case measure => omega
        case rel => exact ⟨i + 1, by first | rfl | (rw [AW.out]) | (simp; done), by omega, (by
          intro s hs2
          rw [A1.out.2] at hs2
          rcases List.mem_append.1 hs2 with hs2 | hs2
          · exact A3.out s hs2
          · obtain rfl := List.mem_singleton.1 hs2
            exact A2.out.2), HL2⟩
      · obtain rfl : x = 7 := by rw [← A2.out.1]; exact bkChk_bad A1.out.1 (fun e => hz (A2.out.2.symm.trans e))
        go_wp2
        go_ret
        exact ⟨rfl, HL2.out⟩
    · obtain rfl : i = l.length := by omega
      rw [List.take_length] at hall
      unfold bkChk at hx
      rw [if_pos hall] at hx
      clear hall hs
      by_cases h1 : n < 1
      · obtain rfl : x = 3 := by rw [← hx, if_pos (.inl h1)]
        go_wp2
        go_ret
        exact ⟨rfl, HL.out⟩
      · by_cases h2 : 1099511627776 < n
        · obtain rfl : x = 3 := by rw [← hx, if_pos (.inr h2)]
          go_wp2
          go_ret
          exact ⟨rfl, HL.out⟩
        · obtain rfl : x = 0 := by rw [← hx, if_neg (by omega)]
          go_wp2
          go_ret
          exact ⟨rfl, HL.out⟩
set_option maxHeartbeats 4000000 in
set_option maxRecDepth 100000 in
theorem bkn_check (n : Int) (v : Value) (w : World) :
    Calls Tryz.prog 51 #[.pointer none, .int .i64 n, v] w fun e w' => e = .returned (.int .i64 2) ∧ w' = w := by
  go_enter Tryz.func51, Tryz.ntmps51
  go_wp2
  go_ret
  exact ⟨rfl, rfl⟩

/-! ### words: j1.inc -/
/-! ### a journal without levels, and the document's store, beside each other -/
/-- A journal (blocks from n on), and a store v of pairs that lies elsewhere. -/
def J1 (n g : Nat) (cur : List S73) (v : Value) (l : List S73) (W : World) : Prop :=
  ∃ ok : Nat → Prop, (∀ k, ok k → n ≤ k ∧ k < W.heap.size) ∧ JM n ok g ⟨cur, []⟩ W ∧ Kd.V k73 73 W 0 (fun k => ¬ ok k) v l
theorem J1.of {n g : Nat} {cur : List S73} {v : Value} {l : List S73} {W : World} {ok : Nat → Prop} (hm : JM n ok g ⟨cur, []⟩ W) (hv : Kd.V k73 73 W 0 (fun k => ¬ ok k) v l) : J1 n g cur v l W :=
  ⟨_, fun k hk => ⟨hk.2.1, hk.2.2.1⟩, hm.bound, Kd.V_mono hv (fun k hk h => hk h.1)⟩
theorem J1.below {n g : Nat} {cur : List S73} {v : Value} {l : List S73} {W W' : World} (h : J1 n g cur v l W) (hb : Below W.heap.size W W') : J1 n g cur v l W' := by
  obtain ⟨ok, h1, h2, h3⟩ := h
  exact ⟨ok, fun k hk => ⟨(h1 k hk).1, Nat.lt_of_lt_of_le (h1 k hk).2 hb.size⟩, h2.below hb, Kd.V_below h3 hb⟩
/-- A deed of the journal: the document's store stays. -/
theorem J1.did {n g : Nat} {cur : List S73} {v : Value} {l : List S73} {ok : Nat → Prop} {W W' : World} (hv : Kd.V k73 73 W 0 (fun k => ¬ ok k) v l)
    (h : JS n ok W g cur W') : J1 n g cur v l W' :=
  J1.of h.m (Kd.V_mono (Kd.V_step (Kd.V_bound hv) (fun k hk hlt => h.jw.block k hlt hk.1)) (fun k hk h => h.elim hk.1 (fun h => by have := hk.2; omega)))
/-! ### stores: plain -/
theorem hasK_in {l : List S73} {key : ByteArray} (h : hasK l key = true) : ∃ p ∈ l, p.f0 = key := by
  obtain ⟨hp, e⟩ := hasK_lt h
  exact ⟨_, List.getElem_mem hp, e⟩
theorem hasK_not {l : List S73} {key : ByteArray} (h : ∀ p ∈ l, p.f0 ≠ key) : hasK l key = false := by
  cases e : hasK l key with
  | false => rfl
  | true => obtain ⟨p, hp, hk⟩ := hasK_in e; exact absurd hk (h p hp)
theorem getK_no {l : List S73} {key : ByteArray} (h : hasK l key = false) : getK l key = ((⟨#[]⟩ : ByteArray), false) := by unfold getK; rw [h]; rfl
theorem mem_setK {l : List S73} {key value : ByteArray} {p : S73} (h : p ∈ setK l key value) : p = ⟨key, value⟩ ∨ p ∈ l := by
  unfold setK at h
  split at h
  · rcases List.mem_or_eq_of_mem_set h with h | h
    · exact .inr h
    · exact .inl h
  · rcases List.mem_append.1 h with h | h
    · exact .inr (List.mem_of_mem_take h)
    · rcases List.mem_cons.1 h with h | h
      · exact .inl h
      · exact .inr (List.mem_of_mem_drop h)
theorem mem_delK {l : List S73} {key : ByteArray} {p : S73} (h : p ∈ delK l key) : p ∈ l := by
  unfold delK at h
  split at h
  · rcases List.mem_append.1 h with h | h
    · exact List.mem_of_mem_take h
    · exact List.mem_of_mem_drop h
  · exact h
/-- What is set is there. -/
theorem getK_set {l : List S73} (hs : sortK l) (key value : ByteArray) : getK (setK l key value) key = (value, true) := by
  obtain ⟨A, B, hA, hB, h⟩ := decK hs key
  rcases h with ⟨_, x, hx, rfl⟩ | ⟨hn, rfl⟩
  · rw [setK_mid value hA hx hB]; exact getK_mid hA rfl hB
  · rw [setK_new value hA hB hn]; exact getK_mid hA rfl hB
theorem hasK_set {l : List S73} (hs : sortK l) (key value : ByteArray) : hasK (setK l key value) key = true := by
  have h := getK_set hs key value
  unfold getK at h
  split at h
  · assumption
  · cases h
/-- The first byte of a key is its word's. -/
theorem key_head (a : ByteArray) (l : List ByteArray) (c : UInt8) (t : List UInt8) (h : a.toList = c :: t) (h1 : c ≠ 37) (h2 : c ≠ 47) : (keyB a l).toList.head? = some c := by
  unfold keyB keyL glue
  rw [ofL_toList, h, hidL_cons, if_neg h1, if_neg h2]
  rfl
/-! ### what stands elsewhere than the journal -/
theorem V_js {n g t : Nat} {ok : Nat → Prop} {cur l : List S73} {v : Value} {w0 W : World} (h : JS n ok w0 g cur W) (hv : Kd.V k73 t w0 0 (fun k => ¬ ok k) v l) : Kd.V k73 t W 0 (fun k => ¬ ok k ∧ k < w0.heap.size) v l :=
  Kd.V_step (Kd.V_bound hv) (fun k hk hlt => h.jw.block k hlt hk.1)
theorem V_C {P : Nat → Prop} {A : Option Addr} {c m t : Nat} {l : List S73} {W : World} (h : Kd.V k73 t W 0 P (.slice A m c) l) : Kd.C k73 W A l.length l ∧ l.length ≤ c := by
  obtain ⟨A', c', e, hl, hf⟩ := h
  injection e with e1 e2 e3
  subst e1 e3
  exact ⟨Kd.F_now hf, hl⟩
theorem JS.old {n m g : Nat} {ok : Nat → Prop} {cur : List S73} {w w0 W : World} (h : JS n ok w0 g cur W) (hb : Below m w w0) (hm : m ≤ w0.heap.size) (hk : ∀ k, ok k → m ≤ k) : Below m w W := JW.toBelow hb hm h.jw hk

/-! ### words: held.inc -/
/-- A box's cells, in a world. -/
def HeldC (g : Nat) (cs : Array Value) (t : TypeId) (w : World) : Prop := w.heap[g]? = some (.cells cs t (0, 0))
theorem HeldC.of {g : Nat} {cs : Array Value} {t : TypeId} {w : World} (h : w.heap[g]? = some (.cells cs t (0, 0))) : HeldC g cs t w := h
theorem HeldC.blk {g : Nat} {cs : Array Value} {t : TypeId} {w : World} (h : HeldC g cs t w) : w.heap[g]? = some (.cells cs t (0, 0)) := h
theorem at_world {g : Nat} {cs : Array Value} {t : TypeId} {w : World} (_ : HeldC g cs t w) {F : World → Prop} (h : F w) : Aside0 (F w) := Aside0.mk h

end Go.Proofs.YtonipkgekhdogaaGreatDoor.PBas
