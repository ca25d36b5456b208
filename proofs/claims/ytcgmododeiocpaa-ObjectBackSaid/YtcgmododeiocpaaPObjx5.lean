-- written by wip/myprint.py over the kit's print; not a printed text of print.sh
import Derived.Test.YtcgmododeiocpaaPObjx0
import Derived.Test.YtcgmododeiocpaaPObjx1
import Derived.Test.YtcgmododeiocpaaPObjx4
namespace Go.Proofs.Ytcgmododeiocpaa.PObj
open Go.RowKit Go.Proofs.YtcgmododeiocpaaW.PrintWords Go.Proofs.YtcgmododeiocpaaW.PrintLast Go.Proofs.YtcgmododeiocpaaW.PrintMore
attribute [local go_sem] max2_int min2_int max_two min_two max_three min_three max_four min_four   -- for this text's walks alone
set_option linter.unusedVariables false
set_option linter.unusedSimpArgs false

/-! ### object_Read: function 22 -/
/-- What is left of a text, and whether it was right so far: as the reader's block holds it. -/
def RdAt (g : Nat) (s : ByteArray) (ok : Bool) (w : World) : Prop := w.heap[g]? = some (.cells #[.string s, .bool ok] 82 (0, 0))
def rdIs (s : ByteArray) (c : UInt8) : Bool := s.toList.head? == some c
set_option maxHeartbeats 1000000 in
set_option maxRecDepth 100000 in
theorem rd_is (g : Nat) (s : ByteArray) (ok : Bool) (c : UInt8) (w : World) (h : RdAt g s ok w) :
    Calls Try.prog 61 #[.pointer (some ⟨g, 0, none⟩), .int .u8 (c.toNat : Int)] w fun e w' => e = .returned (.bool (rdIs s c)) ∧ w' = w := by
  have y0 : w.cell? ⟨g, 0, none⟩ = some (.string s) := (blk_cell h 0).trans rfl
  have hl := s.toList
  rcases hs : s.toList with _ | ⟨x, t⟩
  · have h1 : (s.toList == []) = true := by rw [hs]; rfl
    have h2 : s.toList.isEmpty = true := by rw [hs]; rfl
    have hr : rdIs s c = false := by unfold rdIs; rw [hs]; rfl
    rw [hr]
    go_enter Try.func61, Try.ntmps61
    go_wp2
    go_ret
    exact ⟨rfl, rfl⟩
  · have h1 : (s.toList == []) = false := by rw [hs]; rfl
    have h2 : s.toList.isEmpty = false := by rw [hs]; rfl
    have h3 : 0 < s.size := by rw [ba_size, hs]; simp
    have h3' : (0 : Int) < (s.size : Int) := by omega
    obtain rfl : s = ofL (x :: t) := by rw [← hs, ofL_of]
    have hr : rdIs (ofL (x :: t)) c = ((x.toNat : Int) == (c.toNat : Int)) := by
      unfold rdIs
      rw [hs, List.head?_cons]
      by_cases hxc : x = c
      · subst hxc; simp
      · have h4 : ¬ (x.toNat : Int) = (c.toNat : Int) := fun e => hxc (UInt8.toNat_inj.1 (by omega))
        rw [beq_eq_false_iff_ne.2 h4]; simp [hxc]
    rw [hr]
    go_enter Try.func61, Try.ntmps61
    go_wp2
    go_ret
    exact ⟨rfl, rfl⟩
theorem gb_set (w : World) (g k : Nat) (v : Value) : w.grownBy (w.setCell ⟨g, k, none⟩ v) (some g) := ⟨rfl, rfl, rfl, by simp [World.setCell], fun i _ hi => Below.heap_setCell w ⟨g, k, none⟩ v i (fun e => hi (by rw [e]))⟩
theorem gb_below {w w' : World} {g : Nat} (h : Below w.heap.size w w') : w.grownBy w' (some g) := ⟨h.os, h.tape, h.output, h.size, fun i hi _ => h.block i hi⟩
theorem gb_drewN (w : World) (g n : Nat) : w.grownBy (w.drewN n) (some g) := gb_below (by repeat (first | exact Below.refl _ _ | apply pw_below_drewN | apply below_drew1))
theorem gb_step {w w' : World} {g : Nat} (h : w.grownBy w' (some g)) (b k : Nat) (v : Value) (hb : w.heap.size ≤ b) : w.grownBy (w'.setCell ⟨b, k, none⟩ v) (some g) := ⟨h.os, h.tape, h.output, Nat.le_trans h.size (gb_set w' b k v).size, fun i hi hne => (Below.heap_setCell w' ⟨b, k, none⟩ v i (by intro e; have e : i = b := e; omega)).trans (h.block i hi hne)⟩
def rdSign (s : ByteArray) (ok : Bool) (c : UInt8) : ByteArray × Bool := if rdIs s c = true then (s.extract 1 s.size, ok) else (s, false)
set_option maxHeartbeats 1000000 in
set_option maxRecDepth 100000 in
theorem rd_sign (g : Nat) (s : ByteArray) (ok : Bool) (c : UInt8) (w : World) (h : RdAt g s ok w) :
    Calls Try.prog 60 #[.pointer (some ⟨g, 0, none⟩), .int .u8 (c.toNat : Int)] w fun e w' => e = .returned (.tuple #[]) ∧ RdAt g (rdSign s ok c).1 (rdSign s ok c).2 w' ∧ w.grownBy w' (some g) := by
  have y0 : w.cell? ⟨g, 0, none⟩ = some (.string s) := (blk_cell h 0).trans rfl
  have y1 : w.cell? ⟨g, 1, none⟩ = some (.bool ok) := (blk_cell h 1).trans rfl
  have z0 := blk_frozen h 0
  have z1 := blk_frozen h 1
  cases hi : rdIs s c with
  | false =>
    have hr : rdSign s ok c = (s, false) := by unfold rdSign; rw [hi]; rfl
    rw [hr]
    go_enter Try.func60, Try.ntmps60
    go_wp2_with fail
    refine (rd_is g s ok c _ h).mono ?_
    rintro e w1 ⟨rfl, rfl⟩
    rw [hi]
    go_wp2
    first | go_end0 | ((try simp only [Exit.inBlock, Exit.then]); refine bodyPost_ret (results_none rfl _ _ _) rfl ?_)
    exact ⟨rfl, blk_put h 1 _ rfl, gb_set _ _ _ _⟩
  | true =>
    have hr : rdSign s ok c = (s.extract 1 s.size, ok) := by unfold rdSign; rw [hi]; rfl
    have h3 : 1 ≤ s.size := by
      rw [ba_size]
      cases hl : s.toList with
      | nil => unfold rdIs at hi; rw [hl] at hi; exact absurd hi (by simp)
      | cons x t => simp
    have h4 : (1 : Int) ≤ (s.size : Int) := by omega
    rw [hr]
    go_enter Try.func60, Try.ntmps60
    go_wp2_with fail
    refine (rd_is g s ok c _ h).mono ?_
    rintro e w1 ⟨rfl, rfl⟩
    rw [hi]
    go_wp2
    first | go_end0 | ((try simp only [Exit.inBlock, Exit.then]); refine bodyPost_ret (results_none rfl _ _ _) rfl ?_)
    exact ⟨rfl, blk_put h 0 _ rfl, gb_set _ _ _ _⟩
set_option maxHeartbeats 1000000 in
set_option maxRecDepth 100000 in
theorem rd_text (k g : Nat) (s : ByteArray) (ok : Bool) (t r : ByteArray) (er : Int) (hq : quote_Read.f k s = some (t, r, er)) (w : World) (h : RdAt g s ok w) :
    Calls Try.prog 62 #[.pointer (some ⟨g, 0, none⟩)] w fun e w' => e = .returned (.string t) ∧ RdAt g r (ok && (er == 0)) w' ∧ w.grownBy w' (some g) := by
  have y0 : w.cell? ⟨g, 0, none⟩ = some (.string s) := (blk_cell h 0).trans rfl
  replace hq := Aside0.mk hq
  go_enter Try.func62, Try.ntmps62
  go_wp2_with fail
  refine (quote_Read.calls k s t r er _ hq.out).mono ?_
  rintro e w1 ⟨rfl, hb⟩
  have h1 : RdAt g s ok w1 := (hb.block g (blk_lt h)).trans h
  have x0 : w1.cell? ⟨g, 0, none⟩ = some (.string s) := (blk_cell h1 0).trans rfl
  have z0 := blk_frozen h1 0
  have h2 : RdAt g r ok (w1.setCell ⟨g, 0, none⟩ (.string r)) := blk_put h1 0 _ rfl
  have x1 : (w1.setCell ⟨g, 0, none⟩ (.string r)).cell? ⟨g, 1, none⟩ = some (.bool ok) := (blk_cell h2 1).trans rfl
  have z1 := blk_frozen h2 1
  have HF := Aside0.mk (((gb_below hb).trans (gb_set w1 g 0 (.string r))).trans (gb_set _ g 1 (.bool (ok && (er == 0)))))
  have HR := Aside0.mk (blk_put h2 1 (.bool (ok && (er == 0))) rfl : RdAt g r (ok && (er == 0)) _)
  clear hb
  cases ok with
  | false =>
    go_wp2
    go_ret
    exact ⟨rfl, HR.out, HF.out⟩
  | true =>
    go_wp2
    go_ret
    exact ⟨rfl, HR.out, HF.out⟩
/-- Things between two signs, with commas; 'one' reads a thing. -/
def rowL {σ : Type} (one : ByteArray → σ → Option ((ByteArray × Bool) × σ)) (c2 : UInt8) : Nat → Nat → ByteArray → Bool → σ → Option ((ByteArray × Bool) × σ)
  | 0, _, _, _, _ => none
  | d + 1, n, s, ok, x => if ok = true ∧ rdIs s c2 = false then
      (let p := if n = 0 then (s, ok) else rdSign s ok 44
       if p.2 = true ∧ n ≠ 256 then (one p.1 x).bind fun r => rowL one c2 d (n + 1) r.1.1 r.1.2 r.2 else rowL one c2 d (n + 1) p.1 false x)
    else some (if ok = true then rdSign s ok c2 else (s, ok), x)
def rowF {σ : Type} (one : ByteArray → σ → Option ((ByteArray × Bool) × σ)) (c1 c2 : UInt8) (s : ByteArray) (ok : Bool) (x : σ) : Option ((ByteArray × Bool) × σ) := rowL one c2 300 0 (rdSign s ok c1).1 (rdSign s ok c1).2 x
set_option maxHeartbeats 4000000 in
set_option maxRecDepth 100000 in
theorem rd_row {σ : Type} (one : ByteArray → σ → Option ((ByteArray × Bool) × σ)) (J : σ → World → Prop) (g F : Nat) (caps : Array Value) (c1 c2 : UInt8)
    (eg : ∀ args w, (callFunc F args).run Try.prog w = .ok (.enter F args) w)
    (hJ : ∀ x s ok w w', RdAt g s ok w → J x w → w.grownBy w' (some g) → J x w')
    (hone : ∀ s x w r, RdAt g s true w → J x w → one s x = some r → Calls Try.prog F caps w fun e w' => e = .returned (.tuple #[]) ∧ RdAt g r.1.1 r.1.2 w' ∧ J r.2 w')
    (s : ByteArray) (ok : Bool) (x : σ) (r : (ByteArray × Bool) × σ) (hr : rowF one c1 c2 s ok x = some r) (w : World) (h : RdAt g s ok w) (hj : J x w) :
    Calls Try.prog 42 #[.pointer (some ⟨g, 0, none⟩), .int .u8 (c1.toNat : Int), .int .u8 (c2.toNat : Int), .func (.func F) #[] caps] w fun e w' => e = .returned (.tuple #[]) ∧ RdAt g r.1.1 r.1.2 w' ∧ J r.2 w' := by
  replace hJ := Aside0.mk hJ
  replace hone := Aside0.mk hone
  replace hj := Aside0.mk hj
  replace hr := Aside0.mk hr
  go_enter Try.func42, Try.ntmps42
  go_wp2_with fail
  refine (rd_sign g s ok c1 _ h).mono ?_
  rintro e w1 ⟨rfl, h1, hg1⟩
  have H1 := Aside0.mk h1
  have J1 := Aside0.mk (hJ.out _ _ _ _ _ h hj.out hg1)
  clear h h1 hg1 hj
  go_wp2_with fail
  go_loopg [8] 300 (fun d s8 wx => ∃ (n : Nat) (s : ByteArray) (ok : Bool) (x : σ), s8 = .int .i64 n ∧ n + d = 300 ∧ Aside0 (RdAt g s ok wx) ∧ Aside0 (J x wx) ∧ Aside0 (rowL one c2 d n s ok x = some r))
  case atStart => exact ⟨0, _, _, x, rfl, rfl, H1, J1, hr⟩
  case round =>
    clear hr H1 J1
    obtain ⟨n, s, ok, x, rfl, hn, H, HJ, HR⟩ := hrel
    cases gk with
    | zero => exact absurd HR.out (by simp [rowL])
    | succ d =>
      have hw : wrap64 ((n : Int) + 1) = ((n + 1 : Nat) : Int) := by rw [w64 (by omega) (by omega)]; omega
      have h := H.out
      have y1 : wr.cell? ⟨g, 1, none⟩ = some (.bool ok) := (blk_cell h 1).trans rfl
      have hR := HR.out
      simp only [rowL] at hR
      by_cases hc : ok = true ∧ rdIs s c2 = false
      · rw [if_pos hc] at hR
        obtain ⟨rfl, hi⟩ := hc
        -- the state behind the comma
        have hcomma : ∃ s1 ok1, (if n = 0 then (s, true) else rdSign s true 44) = (s1, ok1) := ⟨_, _, rfl⟩
        obtain ⟨s1, ok1, hp⟩ := hcomma
        rw [hp] at hR
        dsimp only at hR
        replace hR := Aside0.mk hR
        clear HR
        have key : ∀ (a : Act) (wq : World) (Q : Exit → Act → World → Prop), True := fun _ _ _ => trivial
        by_cases h0 : n = 0
        · rw [if_pos h0] at hp
          obtain ⟨rfl, rfl⟩ := Prod.mk.inj hp
          subst h0
          clear hp key
          have hR1 := hR.out
          rw [if_pos ⟨rfl, by decide⟩] at hR1
          obtain ⟨q, hq, hR2⟩ := Option.bind_eq_some_iff.1 hR1
          replace hq := Aside0.mk hq
          replace hR2 := Aside0.mk hR2
          clear hR hR1
          go_wp2_with fail
          refine (rd_is g s true c2 _ h).mono ?_
          rintro e w2 ⟨rfl, rfl⟩
          rw [hi]
          go_wp2_with fail
          refine (hone.out s x w2 q h HJ.out hq.out).mono ?_
          rintro e w3 ⟨rfl, h3, hj3⟩
          go_wp2
          go_roundg d
          case measure => omega
          case rel => exact ⟨1, q.1.1, q.1.2, q.2, by first | rfl | (simp; done), by omega, ⟨h3⟩, ⟨hj3⟩, hR2⟩
        · rw [if_neg h0] at hp
          have h0b : decide ((0 : Int) < (n : Int)) = true := decide_eq_true (by omega)
          have h0c : (0 : Int) < (n : Int) := by omega
          replace hp := Aside0.mk hp
          clear key
          by_cases h6 : n = 256
          · subst h6
            have hR1 := hR.out
            rw [if_neg (fun e => e.2 rfl)] at hR1
            replace hR1 := Aside0.mk hR1
            clear hR
            go_wp2_with fail
            refine (rd_is g s true c2 _ h).mono ?_
            rintro e w2 ⟨rfl, rfl⟩
            rw [hi]
            go_wp2_with fail
            refine (rd_sign g s true 44 _ h).mono ?_
            rintro e w3 ⟨rfl, h3, hg3⟩
            have J3 := Aside0.mk (hJ.out _ _ _ _ _ h HJ.out hg3)
            rw [hp.out] at h3
            have z1 := blk_frozen h3 1
            have x1 : w3.cell? ⟨g, 1, none⟩ = some (.bool ok1) := (blk_cell h3 1).trans rfl
            have h4 : RdAt g s1 false (w3.setCell ⟨g, 1, none⟩ (.bool false)) := blk_put h3 1 _ rfl
            have x2 : (w3.setCell ⟨g, 1, none⟩ (.bool false)).cell? ⟨g, 1, none⟩ = some (.bool false) := (blk_cell h4 1).trans rfl
            have J4 := Aside0.mk (hJ.out _ _ _ _ _ h3 J3.out (gb_set w3 g 1 (.bool false)))
            have H4 := Aside0.mk h4
            clear h hg3 h4 J3 HJ H y1
            go_wp2
            go_roundg d
            case measure => omega
            case rel => exact ⟨257, s1, false, x, by first | rfl | (simp; done), by omega, H4, J4, hR1⟩
          · have h6b : ((n : Int) == 256) = false := beq_eq_false_iff_ne.2 (by omega)
            cases ok1 with
            | false =>
              have hR1 := hR.out
              rw [if_neg (fun e => absurd e.1 (by simp))] at hR1
              replace hR1 := Aside0.mk hR1
              clear hR
              go_wp2_with fail
              refine (rd_is g s true c2 _ h).mono ?_
              rintro e w2 ⟨rfl, rfl⟩
              rw [hi]
              go_wp2_with fail
              refine (rd_sign g s true 44 _ h).mono ?_
              rintro e w3 ⟨rfl, h3, hg3⟩
              have J3 := Aside0.mk (hJ.out _ _ _ _ _ h HJ.out hg3)
              rw [hp.out] at h3
              have x1 : w3.cell? ⟨g, 1, none⟩ = some (.bool false) := (blk_cell h3 1).trans rfl
              have H3 := Aside0.mk h3
              clear h hg3 h3 HJ H y1
              go_wp2
              go_roundg d
              case measure => omega
              case rel => exact ⟨n + 1, s1, false, x, by first | rfl | (simp; done), by omega, H3, J3, hR1⟩
            | true =>
              have hR1 := hR.out
              rw [if_pos ⟨rfl, h6⟩] at hR1
              obtain ⟨q, hq, hR2⟩ := Option.bind_eq_some_iff.1 hR1
              replace hq := Aside0.mk hq
              replace hR2 := Aside0.mk hR2
              clear hR hR1
              go_wp2_with fail
              refine (rd_is g s true c2 _ h).mono ?_
              rintro e w2 ⟨rfl, rfl⟩
              rw [hi]
              go_wp2_with fail
              refine (rd_sign g s true 44 _ h).mono ?_
              rintro e w3 ⟨rfl, h3, hg3⟩
              have J3 := Aside0.mk (hJ.out _ _ _ _ _ h HJ.out hg3)
              rw [hp.out] at h3
              have x1 : w3.cell? ⟨g, 1, none⟩ = some (.bool true) := (blk_cell h3 1).trans rfl
              have H3 := Aside0.mk h3
              clear h hg3 h3 HJ H y1
              go_wp2_with fail
              refine (hone.out s1 x w3 q H3.out J3.out hq.out).mono ?_
              rintro e w4 ⟨rfl, h4, hj4⟩
              go_wp2
              go_roundg d
              case measure => omega
              case rel => exact ⟨n + 1, q.1.1, q.1.2, q.2, by first | rfl | (simp; done), by omega, ⟨h4⟩, ⟨hj4⟩, hR2⟩
      · rw [if_neg hc] at hR
        obtain rfl := Option.some.inj hR
        cases ok with
        | false =>
          go_wp2
          first | go_end0 | ((try simp only [Exit.inBlock, Exit.then]); refine bodyPost_ret (results_none rfl _ _ _) rfl ?_)
          exact ⟨rfl, h, HJ.out⟩
        | true =>
          have hi : rdIs s c2 = true := by
            cases hi : rdIs s c2 with
            | true => rfl
            | false => exact absurd ⟨rfl, hi⟩ hc
          go_wp2_with fail
          refine (rd_is g s true c2 _ h).mono ?_
          rintro e w2 ⟨rfl, rfl⟩
          rw [hi]
          go_wp2_with fail
          refine (rd_sign g s true c2 _ h).mono ?_
          rintro e w3 ⟨rfl, h3, hg3⟩
          have J3 := hJ.out _ _ _ _ _ h HJ.out hg3
          go_wp2
          first | go_end0 | ((try simp only [Exit.inBlock, Exit.then]); refine bodyPost_ret (results_none rfl _ _ _) rfl ?_)
          exact ⟨rfl, h3, J3⟩
/-- An append of one element to a row of the call's own, as an equation on its run. -/
theorem R_append_eq {α : Type} (d : Kd α) {P : Program} {W : World} (base : Nat) (t ty e : TypeId) (z : Value) (bytes : Nat)
    (ht : P.underlying t = some (.slice e)) (hinfo : (P.info? e).map (fun i => (i.zero, i.size, i.bytes)) = some (some z, d.sz, bytes)) (hz : z.cells.size = d.sz) (hs0 : 0 < d.sz) (hb0 : 0 < bytes)
    (v : Value) (xs : List α) (p : α) (cs : List Value) (ok okp : Nat → Prop) (hp : d.M W base okp p cs) (hokp : ∀ k, okp k → ok k ∧ some k ≠ v.ownBlock) (hfresh : ∀ k, W.heap.size ≤ k → ok k)
    (HO : d.R e W base ok v xs) (hbase : base ≤ W.heap.size) (hl : (xs.length + 1) * bytes ≤ 140737488355328) :
    ∃ v1 w1, (Builtin.append_ #[t, t] ty #[v, .slice (some ⟨W.heap.size, 0, none⟩) 1 1]).run P (W.alloc (.cells cs.toArray e)) = .ok v1 w1 ∧ d.R e w1 base ok v1 (xs ++ [p]) ∧ W.grownBy w1 v.ownBlock := by
  obtain ⟨h0, inner, hown, hr⟩ := HO
  obtain ⟨i0, hi, hzz⟩ := Option.map_eq_some_iff.1 hinfo
  simp only [Prod.mk.injEq] at hzz
  obtain ⟨hz0, hz1, hz2⟩ := hzz
  have hys : cs.length = d.sz := d.K_len (d.K_of_M hp)
  have hlen : xs.length + 1 ≤ 140737488355328 := Nat.le_trans (Nat.le_mul_of_pos_right _ hb0) hl
  obtain ⟨v1, w1, hrun, h1, h2, _, h3⟩ := run_append_own_at (P := P) (w := W.alloc (.cells cs.toArray e)) base t ty e i0 z d.sz bytes ht hi hz0 hz1 hz2 hz hs0 v xs.length inner (hown.alloc _) ⟨W.heap.size, 0, none⟩ 1 1 cs (by rw [hys]; simp)
    (by simpa using World.news_of_block (cs := cs.toArray) (t := e) (fr := (0, 0)) (heap_alloc_new W (.cells cs.toArray e))) (d.K_one (d.K_of_M hp)) (by simp only [maxLen]; omega) hl (by simp; omega)
  have hg : W.grownBy w1 v.ownBlock := World.grownBy.trans (World.grownBy_alloc W _ _) h2
  have hat : v1.ownBlock = v.ownBlock ∨ ∃ b, v1.ownBlock = some b ∧ W.heap.size ≤ b := by
    rcases h3 with h3 | h3
    · exact .inl h3
    · exact .inr ⟨_, h3, by simp⟩
  exact ⟨v1, w1, hrun, Kd.R_appended h0 hr hp hokp hfresh h1 hg hat, hg⟩
/-- The field that is being read: its block, its list's row, the reader's box; all of the call's own. -/
def FldAt (W0 : World) (g gf gb gr : Nat) (key : ByteArray) (l : List ByteArray) (w : World) : Prop :=
  g < W0.heap.size ∧ W0.heap.size ≤ gf ∧ (∃ v, w.heap[gf]? = some (.cells #[.string key, .string (⟨#[]⟩ : ByteArray), v, .bool true] 42 (0, 0)) ∧ Kd.R Kd.string 9 w W0.heap.size (fun k => W0.heap.size ≤ k) v l) ∧ w.heap[gb]? = some (.cells #[.pointer (some ⟨g, 0, none⟩)] 80 (0, 0)) ∧ W0.grownBy w (some g) ∧ l.length ≤ 300 ∧ w.heap[gr]? = some (.cells #[.string (⟨#[]⟩ : ByteArray), .string (⟨#[]⟩ : ByteArray), .slice none 0 0, .bool false] 42 (0, 0)) ∧ gr ≠ gf ∧ W0.heap.size ≤ gr
theorem FldAt.step {W0 : World} {g gf gb gr : Nat} {key : ByteArray} (l : List ByteArray) (s : ByteArray) (ok : Bool) (w w' : World) (hr : RdAt g s ok w) (h : FldAt W0 g gf gb gr key l w) (hg : w.grownBy w' (some g)) : FldAt W0 g gf gb gr key l w' := by
  obtain ⟨h1, h2, ⟨v, h3, h4⟩, h5, h6, h7, h8, h9, h10⟩ := h
  have n3 : gr ≠ g := by omega
  have n1 : gf ≠ g := by omega
  have n2 : gb ≠ g := blk_ne h5 hr (by decide)
  exact ⟨h1, h2, ⟨v, blk_grown h3 hg (fun e => n1 (by injection e)), Kd.R_grown h4 hg (fun k hk e => by injection e with e; omega)⟩, blk_grown h5 hg (fun e => n2 (by injection e)), h6.trans hg, h7, blk_grown h8 hg (fun e => n3 (by injection e)), h9, h10⟩
def oneText (k : Nat) (s : ByteArray) (l : List ByteArray) : Option ((ByteArray × Bool) × List ByteArray) := (quote_Read.f k s).bind fun q => if l.length < 300 then some ((q.2.1, q.2.2 == 0), l ++ [q.1]) else none
set_option maxHeartbeats 4000000 in
set_option maxRecDepth 100000 in
theorem rd_field1 (k : Nat) (W0 : World) (g gf gb gr : Nat) (key : ByteArray) (s : ByteArray) (l : List ByteArray) (w : World) (r : (ByteArray × Bool) × List ByteArray) (hr : RdAt g s true w) (hf : FldAt W0 g gf gb gr key l w) (h1 : oneText k s l = some r) :
    Calls Try.prog 63 #[.pointer (some ⟨gf, 0, none⟩), .pointer (some ⟨gb, 0, none⟩)] w fun e w' => e = .returned (.tuple #[]) ∧ RdAt g r.1.1 r.1.2 w' ∧ FldAt W0 g gf gb gr key r.2 w' := by
  unfold oneText at h1
  obtain ⟨⟨t, rest, er⟩, hq, h2⟩ := Option.bind_eq_some_iff.1 h1
  by_cases hl : l.length < 300
  case neg => rw [if_neg hl] at h2; exact absurd h2 (by simp)
  rw [if_pos hl] at h2
  obtain rfl := Option.some.inj h2
  clear h1 h2
  obtain ⟨f1, f2, ⟨v, f3, f4⟩, f5, f6, f7, f8, f9, f10⟩ := id hf
  replace f8 := Aside0.mk f8
  replace f9 := Aside0.mk f9
  replace f10 := Aside0.mk f10
  have y2 : w.cell? ⟨gf, 2, none⟩ = some v := (blk_cell f3 2).trans rfl
  have yb : w.cell? ⟨gb, 0, none⟩ = some (.pointer (some ⟨g, 0, none⟩)) := (blk_cell f5 0).trans rfl
  replace hq := Aside0.mk hq
  replace f6 := Aside0.mk f6
  replace f3 := Aside0.mk f3
  replace f4 := Aside0.mk f4
  replace f5 := Aside0.mk f5
  go_enter Try.func63, Try.ntmps63
  refine start_ (n := 8) (S := fun w' => w'.cell? ⟨gf, 2, none⟩ = some v ∧ w'.cell? ⟨gb, 0, none⟩ = some (.pointer (some ⟨g, 0, none⟩))) (ds := [7]) #[false, false, false, false, false, false, false, false] (by kernel_rfl) rfl rfl ⟨y2, yb⟩ (fun hHeld => ?_)
  have f3d : w.drew.heap[gf]? = _ := f3.out
  have f5d : w.drew.heap[gb]? = _ := f5.out
  have f8d : w.drew.heap[gr]? = _ := f8.out
  have hrd : RdAt g s true w.drew := hr
  have f4d := Kd.R_grown (w1 := w.drew) (row := some g) f4.out (gb_below (below_drew (Below.refl _ _))) (fun k hk e => by injection e with e; omega)
  have f6d : W0.grownBy w.drew (some g) := f6.out.trans (gb_below (below_drew (Below.refl _ _)))
  clear f3 f4 f5 f6 f8 hr hf y2 yb
  generalize w.drew = wd at hHeld f3d f4d f5d f6d f8d hrd ⊢
  have f3 := Aside0.mk f3d
  have f4 := Aside0.mk f4d
  have f5 := Aside0.mk f5d
  have f6 := Aside0.mk f6d
  have f8 := Aside0.mk f8d
  have hr := Aside0.mk hrd
  clear f3d f4d f5d f6d f8d hrd
  refine pure_ (i := 0) (N := some 2) (v := ?_) (a' := ?_) #[true, false, false, false, false, false, false, false] rfl rfl (by kernel_rfl) (fun _ _ _ h => h) (Or.inl ⟨by rfl, ?_⟩) ?_ ?_
  rotate_left
  · intro w'
    go_simp
    with_reducible rfl
  rotate_left
  · simp only [Act.put, List.setIfInBounds_toArray, List.set_cons_zero, List.set_cons_succ, i64_w, i32_w]
    rfl
  refine take_ (i := 1) (N := some 3) (v := ?_) (a' := ?_) #[true, true, false, false, false, false, false, false] rfl rfl (by kernel_rfl) (fun _ _ _ h => h) (Or.inl ⟨by rfl, ?_⟩) hHeld ?_ ?_
  rotate_left
  · rintro w' ⟨s0, s1⟩
    go_simp
    with_reducible rfl
  rotate_left
  · simp only [Act.put, List.setIfInBounds_toArray, List.set_cons_zero, List.set_cons_succ, i64_w, i32_w]
    rfl
  refine take_ (i := 2) (N := some 4) (v := ?_) (a' := ?_) #[true, true, true, false, false, false, false, false] rfl rfl (by kernel_rfl) (fun _ _ _ h => h) (Or.inl ⟨by rfl, ?_⟩) hHeld ?_ ?_
  rotate_left
  · rintro w' ⟨s0, s1⟩
    go_simp
    with_reducible rfl
  rotate_left
  · simp only [Act.put, List.setIfInBounds_toArray, List.set_cons_zero, List.set_cons_succ, i64_w, i32_w]
    rfl
  refine one_ (i := 3) (N := some 5) #[true, true, true, true, false, false, false, false] rfl rfl (by kernel_rfl) (by decide) (fun K hK => ?_)
  refine goes_ Try.func62 (by kernel_rfl) rfl #[.pointer (some ⟨g, 0, none⟩)] (by rfl) rfl rfl (by (try simp only [List.map_toArray, List.map_cons, List.map_nil]); first | done | rfl) ?_
  refine (rd_text k g s true t rest er hq.out _ hr.out).mono ?_
  rintro e w1 ⟨rfl, h1, hg1⟩
  refine ⟨_, rfl, ?_⟩
  have nf : some gf ≠ some g := (by intro e; injection e with e; omega)
  have q3 := blk_grown f3.out hg1 nf
  have q4 := Kd.R_grown f4.out hg1 (fun k hk e => by injection e with e; omega)
  have q5 := blk_grown f5.out hg1 (fun e => by injection e with e; exact (blk_ne f5.out hr.out (by decide)) e)
  have q6 := Aside0.mk (f6.out.trans hg1)
  have Q8 := Aside0.mk (blk_grown f8.out hg1 (fun e => by injection e with e; have := f10.out; omega))
  have Q3 := Aside0.mk q3
  have Q4 := Aside0.mk q4
  have Q5 := Aside0.mk q5
  have H1 := Aside0.mk h1
  clear f3 f4 f5 f6 f8 hr hg1 nf hHeld
  refine hK.out _ _ ⟨(blk_cell q3 2).trans rfl, (blk_cell q5 0).trans rfl⟩ (fun hHeld => ?_)
  clear q3 q4 q5 h1
  clear hK K
  refine norm_ (a' := ?_) ?_ ?_
  rotate_left
  · show Act.put _ (some 5) _ = _
    simp only [Act.put, List.setIfInBounds_toArray, List.set_cons_zero, List.set_cons_succ, i64_w, i32_w]
    rfl
  refine one_ (i := 4) (N := some 6) #[true, true, true, true, true, false, false, false] rfl rfl (by kernel_rfl) (by decide) (fun K hK => ?_)
  refine value_ (w1 := ?_) (v := ?_) (by rfl) rfl ?_ ?_
  rotate_left 2
  · go_simp
    constructor
    · rfl
    · rfl
  refine hK.out _ _ ⟨(blk_cell (blk_alloc Q3.out _) 2).trans rfl, (blk_cell (blk_alloc Q5.out _) 0).trans rfl⟩ (fun hHeld => ?_)
  clear hK K
  refine norm_ (a' := ?_) ?_ ?_
  rotate_left
  · show Act.put _ (some 6) _ = _
    simp only [Act.put, List.setIfInBounds_toArray, List.set_cons_zero, List.set_cons_succ, i64_w, i32_w]
    rfl
  refine one_ (i := 5) (N := some 7) #[true, true, true, true, true, true, false, false] rfl rfl (by kernel_rfl) (by decide) (fun K hK => ?_)
  refine Kd.R_append_step Kd.string (w0 := w1) W0.heap.size (by rfl) (.tmp 3) (.tmp 6) 40 9 (.string ⟨#[]⟩) 16 rfl Try.underlying40 info9 rfl (by decide) (by omega) v l t [.string t] (fun k => W0.heap.size ≤ k) (fun _ => False) rfl rfl ?aP (fun _ hk => hk.elim) ?aF ?aO ?aB ?aS ?aL ?_
  (case aP => exact rfl)
  (case aB => exact Below.refl _ _)
  (case aF => exact fun k hk => Nat.le_trans q6.out.size hk)
  (case aO => exact Q4.out)
  (case aS => exact q6.out.size)
  (case aL => omega)
  intro v1 w2 ho hb hg2 hat
  obtain ⟨A1, c1, e1, _, _⟩ := Kd.R_reads ho
  subst e1
  have hne := own_ne (Kd.R_own Q4.out).choose_spec Q3.out (by decide)
  have hneg := own_ne (Kd.R_own Q4.out).choose_spec H1.out (by decide)
  have hneb := own_ne (Kd.R_own Q4.out).choose_spec Q5.out (by decide)
  have p3 := blk_grown Q3.out hg2 hne
  have p1 : RdAt g rest (true && (er == 0)) w2 := blk_grown H1.out hg2 hneg
  have p5 := blk_grown Q5.out hg2 hneb
  have P1 := Aside0.mk p1
  have P3 := Aside0.mk p3
  have P5 := Aside0.mk p5
  have P8 := Aside0.mk (blk_grown Q8.out hg2 (own_ne (Kd.R_own Q4.out).choose_spec Q8.out (by decide)))
  have HO := Aside0.mk ho
  have G2 := Aside0.mk (And.intro hg2 (And.intro hne (Kd.R_base Q4.out)))
  have G1 := Aside0.mk (Below.size hb)
  clear ho hb hg2 hat hne hneg hneb Q3 Q4 Q5 Q8 H1 hHeld
  refine hK.out _ _ ⟨(blk_cell p3 2).trans rfl, (blk_cell p5 0).trans rfl⟩ (fun hHeld => ?_)
  clear p1 p3 p5
  clear hK K
  refine norm_ (a' := ?_) ?_ ?_
  rotate_left
  · show Act.put _ (some 7) _ = _
    simp only [Act.put, List.setIfInBounds_toArray, List.set_cons_zero, List.set_cons_succ, i64_w, i32_w]
    rfl
  refine pure_ (i := 6) (N := some 8) (v := ?_) (a' := ?_) #[true, true, true, true, true, true, true, false] rfl rfl (by kernel_rfl) (fun _ _ _ h => h) (Or.inl ⟨by rfl, ?_⟩) ?_ ?_
  rotate_left
  · intro w'
    go_simp
    with_reducible rfl
  rotate_left
  · simp only [Act.put, List.setIfInBounds_toArray, List.set_cons_zero, List.set_cons_succ, i64_w, i32_w]
    rfl
  refine last_ (i := 7) (N := none) #[true, true, true, true, true, true, true, true] rfl rfl (by kernel_rfl) (by decide) (fun K hK => ?_)
  have u2 : w2.cell? ⟨gf, 2, none⟩ = some v := hHeld.1
  have z2 := blk_frozen P3.out 2
  refine skip_ (w1 := w2.setCell ⟨gf, 2, none⟩ (.slice A1 (l ++ [t]).length c1)) (by rfl) rfl ?_ ?_
  · go_simp
    try rfl
  refine hK.out _ _ ?_
  refine done_ (by kernel_rfl) ?_
  try go_wp2
  first | go_end0 | ((try simp only [Exit.inBlock, Exit.then]); refine bodyPost_ret (results_none rfl _ _ _) rfl ?_)
  have nfg : gf ≠ g := by omega
  have nfb : gb ≠ gf := blk_ne P5.out P3.out (by decide)
  have nog := own_ne (Kd.R_own HO.out).choose_spec P3.out (by decide)
  refine ⟨rfl, blk_far P1.out (p := ⟨gf, 2, none⟩) (fun e => nfg e.symm) _, f1, f2, ⟨.slice A1 (l ++ [t]).length c1, blk_put P3.out 2 _ rfl, ?_⟩, blk_far P5.out (p := ⟨gf, 2, none⟩) nfb _, ?_, by rw [List.length_append, List.length_singleton]; omega, blk_far P8.out (p := ⟨gf, 2, none⟩) f9.out _, f9.out, f10.out⟩
  · exact Kd.R_of_own (own_setCell (Kd.own_of_R HO.out) (p := ⟨gf, 2, none⟩) nog _) (fun k hk => Kd.R_base HO.out k hk)
  · obtain ⟨g2, g3, g4⟩ := G2.out
    refine ⟨g2.os.trans q6.out.os, g2.tape.trans q6.out.tape, g2.output.trans q6.out.output, ?_, fun i hi hig => ?_⟩
    · show W0.heap.size ≤ (w2.setCell ⟨gf, 2, none⟩ _).heap.size
      have := (gb_set w2 gf 2 (.slice A1 (l ++ [t]).length c1)).size
      have := q6.out.size
      have := g2.size
      omega
    · rw [Below.heap_setCell w2 ⟨gf, 2, none⟩ _ i (by intro e; have e : i = gf := e; omega)]
      refine (g2.block i (Nat.lt_of_lt_of_le hi q6.out.size) (fun e => ?_)).trans (q6.out.block i hi hig)
      have := g4 i e.symm
      omega
/-- A field. -/
def rdField (k : Nat) (s : ByteArray) : Option ((ByteArray × Bool) × S42) := (quote_Read.f k s).bind fun q =>
  (fun st : ByteArray × Bool => if st.2 = true then (if rdIs st.1 91 = true then (rowF (oneText k) 91 93 st.1 true []).bind fun r => some (r.1, ⟨q.1, (⟨#[]⟩ : ByteArray), r.2, true⟩)
    else (quote_Read.f k st.1).bind fun q2 => some ((q2.2.1, q2.2.2 == 0), ⟨q.1, q2.1, [], false⟩)) else some (st, ⟨q.1, (⟨#[]⟩ : ByteArray), [], false⟩))
  (if (q.2.2 == 0) = true then rdSign q.2.1 true 58 else (q.2.1, false))
set_option maxHeartbeats 4000000 in
set_option maxRecDepth 100000 in
theorem rd_field (k g : Nat) (s : ByteArray) (r : (ByteArray × Bool) × S42) (hr : rdField k s = some r) (w : World) (h : RdAt g s true w) :
    Calls Try.prog 44 #[.pointer (some ⟨g, 0, none⟩)] w fun e w' => (∃ v2, e = .returned (.agg #[.string r.2.f0, .string r.2.f1, v2, .bool r.2.f3]) ∧ Kd.R Kd.string 9 w' w.heap.size (fun k => w.heap.size ≤ k) v2 r.2.f2) ∧ RdAt g r.1.1 r.1.2 w' ∧ w.grownBy w' (some g) := by
  unfold rdField at hr
  obtain ⟨⟨t, rest, er⟩, hq, hr2⟩ := Option.bind_eq_some_iff.1 hr
  replace hq := Aside0.mk hq
  replace hr2 := Aside0.mk hr2
  clear hr
  replace h := Aside0.mk h
  go_enter Try.func44, Try.ntmps44
  go_wp2_with fail
  have GW : Aside0 (w.grownBy ((w.alloc (.cells #[.pointer (some ⟨g, 0, none⟩)] 80)).alloc (.cells #[.string (⟨#[]⟩ : ByteArray), .string (⟨#[]⟩ : ByteArray), .slice none 0 0, .bool false] 42)) (some g)) := ⟨(World.grownBy_alloc _ _ _).trans (World.grownBy_alloc _ _ _)⟩
  have GB := Aside0.mk (blk_alloc (my_alloc_new w (.cells #[.pointer (some ⟨g, 0, none⟩)] 80)) (.cells #[.string (⟨#[]⟩ : ByteArray), .string (⟨#[]⟩ : ByteArray), .slice none 0 0, .bool false] 42))
  have GR : Aside0 (((w.alloc (.cells #[.pointer (some ⟨g, 0, none⟩)] 80)).alloc (.cells #[.string (⟨#[]⟩ : ByteArray), .string (⟨#[]⟩ : ByteArray), .slice none 0 0, .bool false] 42)).heap[w.heap.size + 1]? = some (.cells #[.string (⟨#[]⟩ : ByteArray), .string (⟨#[]⟩ : ByteArray), .slice none 0 0, .bool false] 42 (0, 0))) := ⟨by
    have h1 := my_alloc_new (w.alloc (.cells #[.pointer (some ⟨g, 0, none⟩)] 80)) (.cells #[.string (⟨#[]⟩ : ByteArray), .string (⟨#[]⟩ : ByteArray), .slice none 0 0, .bool false] 42)
    rw [my_alloc_size] at h1
    exact h1⟩
  have HA : Aside0 (RdAt g s true ((w.alloc (.cells #[.pointer (some ⟨g, 0, none⟩)] 80)).alloc (.cells #[.string (⟨#[]⟩ : ByteArray), .string (⟨#[]⟩ : ByteArray), .slice none 0 0, .bool false] 42))) := ⟨blk_alloc (blk_alloc h.out _) _⟩
  have hglt := Aside0.mk (blk_lt h.out)
  generalize (w.alloc (.cells #[.pointer (some ⟨g, 0, none⟩)] 80)).alloc (.cells #[.string (⟨#[]⟩ : ByteArray), .string (⟨#[]⟩ : ByteArray), .slice none 0 0, .bool false] 42) = wa at GW GB GR HA ⊢
  refine (rd_text k g s true t rest er hq.out _ HA.out).mono ?_
  rintro e w1 ⟨rfl, h1, hg1⟩
  have H1 := Aside0.mk h1
  have GW1 := Aside0.mk (GW.out.trans hg1)
  have GB1 := Aside0.mk (blk_grown GB.out hg1 (fun e => by injection e with e; have := hglt.out; omega))
  have GR1 := Aside0.mk (blk_grown GR.out hg1 (fun e => by injection e with e; have := hglt.out; omega))
  clear h1 hg1 GW GB GR HA
  have HW := Aside0.mk (Below.refl w1.heap.size w1)
  go_upto_region 2 with (first | ((with_reducible refine gate_dst (N := 3) rfl ?_); (try (refine gate_guard (by rfl) ?_; dsimp only)); refine box_event ?hg (N := 3) ?hd (cs := #[.string (⟨#[]⟩ : ByteArray), .string (⟨#[]⟩ : ByteArray), .slice none 0 0, .bool false]) (t := 42) ?hr ?_; (case hd => rfl); (case hg => rfl); (case hr => first | (go_simp; done) | (go_simp; rfl)); intro gf hg w8 hbox hb; have n0_ := Aside0.mk (below_step (by repeat (first | exact HW.out | apply pw_below_drewN | apply below_drew1)) hb); have BC := Aside0.mk hbox; have GC := Aside0.mk ((by rw [hg]; exact (below_size (by repeat (first | exact HW.out | apply pw_below_drewN | apply below_drew1))) : w1.heap.size ≤ gf)); clear HW; have HW := n0_; clear n0_ hb hbox hg; have hz0 : w8.cell? ⟨gf, 0, none⟩ = some (.string (⟨#[]⟩ : ByteArray)) := (blk_cell BC.out 0).trans rfl; have hz1 : w8.cell? ⟨gf, 1, none⟩ = some (.string (⟨#[]⟩ : ByteArray)) := (blk_cell BC.out 1).trans rfl; have hz2 : w8.cell? ⟨gf, 2, none⟩ = some (.slice none 0 0) := (blk_cell BC.out 2).trans rfl; have hz3 : w8.cell? ⟨gf, 3, none⟩ = some (.bool false) := (blk_cell BC.out 3).trans rfl; have hf0 := blk_frozen BC.out 0; have hf1 := blk_frozen BC.out 1; have hf2_ := blk_frozen BC.out 2; have hf3 := blk_frozen BC.out 3) | fail)
  have HW9 := Aside0.mk (by repeat (first | exact HW.out | refine below_set ?_ GC.out) : Below w1.heap.size w1 ((((w8.setCell ⟨gf, 0, none⟩ (.string t)).setCell ⟨gf, 1, none⟩ (.string (⟨#[]⟩ : ByteArray))).setCell ⟨gf, 2, none⟩ (.slice none 0 0)).setCell ⟨gf, 3, none⟩ (.bool false)))
  have BC9 := Aside0.mk (blk_set (blk_set (blk_set (blk_set BC.out 0 (.string t)) 1 (.string (⟨#[]⟩ : ByteArray))) 2 (.slice none 0 0)) 3 (.bool false))
  clear HW BC hz0 hz1 hz2 hz3 hf0 hf1 hf2_ hf3
  generalize ((((w8.setCell ⟨gf, 0, none⟩ (.string t)).setCell ⟨gf, 1, none⟩ (.string (⟨#[]⟩ : ByteArray))).setCell ⟨gf, 2, none⟩ (.slice none 0 0)).setCell ⟨gf, 3, none⟩ (.bool false)) = w9 at HW9 BC9 ⊢
  replace BC9 : Aside0 (w9.heap[gf]? = some (.cells #[.string t, .string (⟨#[]⟩ : ByteArray), .slice none 0 0, .bool false] 42 (0, 0))) := ⟨BC9.out⟩
  have H9 : Aside0 (RdAt g rest (true && (er == 0)) w9) := ⟨(HW9.out.block g (blk_lt H1.out)).trans H1.out⟩
  have GB9 := Aside0.mk ((HW9.out.block _ (blk_lt GB1.out)).trans GB1.out)
  have GR9 := Aside0.mk ((HW9.out.block _ (blk_lt GR1.out)).trans GR1.out)
  have GW9 := Aside0.mk (GW1.out.trans (gb_below (g := g) HW9.out))
  have nfg := Aside0.mk (show gf ≠ g by have := blk_lt H1.out; have := GC.out; omega)
  have nfb := Aside0.mk (show gf ≠ w.heap.size by have := blk_lt GB1.out; have := GC.out; omega)
  have nfr := Aside0.mk (show gf ≠ w.heap.size + 1 by have := blk_lt GR1.out; have := GC.out; omega)
  have GF := Aside0.mk (show w.heap.size ≤ gf by have := blk_lt GB1.out; have := GC.out; omega)
  clear HW9 H1 GB1 GR1 GW1 GC
  have yb : w9.cell? ⟨w.heap.size, 0, none⟩ = some (.pointer (some ⟨g, 0, none⟩)) := (blk_cell GB9.out 0).trans rfl
  have r1 : w9.cell? ⟨g, 1, none⟩ = some (.bool (true && (er == 0))) := (blk_cell H9.out 1).trans rfl
  cases he : (er == 0) with
  | false =>
    have hR := hr2.out
    simp only [he] at hR
    rw [if_neg (by simp), if_neg (by simp)] at hR
    obtain rfl := Option.some.inj hR
    rw [he] at r1 H9
    have y0 : w9.cell? ⟨gf, 0, none⟩ = some (.string t) := (blk_cell BC9.out 0).trans rfl
    have y1 : w9.cell? ⟨gf, 1, none⟩ = some (.string (⟨#[]⟩ : ByteArray)) := (blk_cell BC9.out 1).trans rfl
    have y2 : w9.cell? ⟨gf, 2, none⟩ = some (.slice none 0 0) := (blk_cell BC9.out 2).trans rfl
    have y3 : w9.cell? ⟨gf, 3, none⟩ = some (.bool false) := (blk_cell BC9.out 3).trans rfl
    have x0 : w9.cell? ⟨w.heap.size + 1, 0, none⟩ = some (.string (⟨#[]⟩ : ByteArray)) := (blk_cell GR9.out 0).trans rfl
    have x1 : w9.cell? ⟨w.heap.size + 1, 1, none⟩ = some (.string (⟨#[]⟩ : ByteArray)) := (blk_cell GR9.out 1).trans rfl
    have x2 : w9.cell? ⟨w.heap.size + 1, 2, none⟩ = some (.slice none 0 0) := (blk_cell GR9.out 2).trans rfl
    have x3 : w9.cell? ⟨w.heap.size + 1, 3, none⟩ = some (.bool false) := (blk_cell GR9.out 3).trans rfl
    have v0 := blk_frozen GR9.out 0
    have v1 := blk_frozen GR9.out 1
    have v2 := blk_frozen GR9.out 2
    have v3 := blk_frozen GR9.out 3
    have BR := Aside0.mk (blk_set (blk_set (blk_set (blk_set GR9.out 0 (.string t)) 1 (.string (⟨#[]⟩ : ByteArray))) 2 (.slice none 0 0)) 3 (.bool false))
    have ngr : g ≠ w.heap.size + 1 := by have := hglt.out; omega
    have RR := Aside0.mk (blk_far (blk_far (blk_far (blk_far H9.out (p := ⟨w.heap.size + 1, 0, none⟩) ngr (.string t)) (p := ⟨w.heap.size + 1, 1, none⟩) ngr (.string (⟨#[]⟩ : ByteArray))) (p := ⟨w.heap.size + 1, 2, none⟩) ngr (.slice none 0 0)) (p := ⟨w.heap.size + 1, 3, none⟩) ngr (.bool false))
    have GG := Aside0.mk (gb_step (gb_step (gb_step (gb_step GW9.out (w.heap.size + 1) 0 (.string t) (by omega)) (w.heap.size + 1) 1 (.string (⟨#[]⟩ : ByteArray)) (by omega)) (w.heap.size + 1) 2 (.slice none 0 0) (by omega)) (w.heap.size + 1) 3 (.bool false) (by omega))
    go_wp2
    refine bodyPost_ret (results_cell_row (fn := Try.f44) (p := 2) (ty := 42) (by kernel_rfl) _ _ (w.heap.size + 1) 42 _ (0, 0) _ rfl BR.out Try.underlying42 rfl (by kernel_rfl)) rfl ?_
    exact ⟨⟨_, rfl, Kd.R_nil _ _ _ _ _⟩, RR.out, GG.out⟩
  | true =>
    replace r1 : w9.cell? ⟨g, 1, none⟩ = some (.bool true) := by rw [r1, he]; rfl
    replace H9 : Aside0 (RdAt g rest true w9) := ⟨by have h9 := H9.out; rw [he] at h9; exact h9⟩
    have hR := hr2.out
    simp only [he, ↓reduceIte] at hR
    obtain ⟨s2, ok2, hs2⟩ : ∃ s2 ok2, rdSign rest true 58 = (s2, ok2) := ⟨_, _, rfl⟩
    rw [hs2] at hR
    dsimp only at hR
    replace hR := Aside0.mk hR
    replace hs2 := Aside0.mk hs2
    go_wp2_with fail
    refine (rd_sign g rest true 58 _ H9.out).mono ?_
    rintro e w2 ⟨rfl, h2, hg2⟩
    rw [hs2.out] at h2
    have H2 := Aside0.mk h2
    have BC2 := Aside0.mk (blk_grown BC9.out hg2 (fun e => nfg.out (by injection e)))
    have GB2 := Aside0.mk (blk_grown GB9.out hg2 (fun e => by injection e with e; have := hglt.out; omega))
    have GR2 := Aside0.mk (blk_grown GR9.out hg2 (fun e => by injection e with e; have := hglt.out; omega))
    have GW2 := Aside0.mk (GW9.out.trans hg2)
    have yb : w2.cell? ⟨w.heap.size, 0, none⟩ = some (.pointer (some ⟨g, 0, none⟩)) := (blk_cell GB2.out 0).trans rfl
    have r1 : w2.cell? ⟨g, 1, none⟩ = some (.bool ok2) := (blk_cell H2.out 1).trans rfl
    clear h2 hg2 H9 BC9 GB9 GR9 GW9 hr2 he
    cases ok2 with
    | false =>
      have hR1 := hR.out
      rw [if_neg (by simp)] at hR1
      obtain rfl := Option.some.inj hR1
      have y0 : w2.cell? ⟨gf, 0, none⟩ = some (.string t) := (blk_cell BC2.out 0).trans rfl
      have y1 : w2.cell? ⟨gf, 1, none⟩ = some (.string (⟨#[]⟩ : ByteArray)) := (blk_cell BC2.out 1).trans rfl
      have y2 : w2.cell? ⟨gf, 2, none⟩ = some (.slice none 0 0) := (blk_cell BC2.out 2).trans rfl
      have y3 : w2.cell? ⟨gf, 3, none⟩ = some (.bool false) := (blk_cell BC2.out 3).trans rfl
      have x0 : w2.cell? ⟨w.heap.size + 1, 0, none⟩ = some (.string (⟨#[]⟩ : ByteArray)) := (blk_cell GR2.out 0).trans rfl
      have x1 : w2.cell? ⟨w.heap.size + 1, 1, none⟩ = some (.string (⟨#[]⟩ : ByteArray)) := (blk_cell GR2.out 1).trans rfl
      have x2 : w2.cell? ⟨w.heap.size + 1, 2, none⟩ = some (.slice none 0 0) := (blk_cell GR2.out 2).trans rfl
      have x3 : w2.cell? ⟨w.heap.size + 1, 3, none⟩ = some (.bool false) := (blk_cell GR2.out 3).trans rfl
      have v0 := blk_frozen GR2.out 0
      have v1 := blk_frozen GR2.out 1
      have v2 := blk_frozen GR2.out 2
      have v3 := blk_frozen GR2.out 3
      have BR := Aside0.mk (blk_set (blk_set (blk_set (blk_set GR2.out 0 (.string t)) 1 (.string (⟨#[]⟩ : ByteArray))) 2 (.slice none 0 0)) 3 (.bool false))
      have ngr : g ≠ w.heap.size + 1 := by have := hglt.out; omega
      have RR := Aside0.mk (blk_far (blk_far (blk_far (blk_far H2.out (p := ⟨w.heap.size + 1, 0, none⟩) ngr (.string t)) (p := ⟨w.heap.size + 1, 1, none⟩) ngr (.string (⟨#[]⟩ : ByteArray))) (p := ⟨w.heap.size + 1, 2, none⟩) ngr (.slice none 0 0)) (p := ⟨w.heap.size + 1, 3, none⟩) ngr (.bool false))
      have GG := Aside0.mk (gb_step (gb_step (gb_step (gb_step GW2.out (w.heap.size + 1) 0 (.string t) (by omega)) (w.heap.size + 1) 1 (.string (⟨#[]⟩ : ByteArray)) (by omega)) (w.heap.size + 1) 2 (.slice none 0 0) (by omega)) (w.heap.size + 1) 3 (.bool false) (by omega))
      go_wp2
      refine bodyPost_ret (results_cell_row (fn := Try.f44) (p := 2) (ty := 42) (by kernel_rfl) _ _ (w.heap.size + 1) 42 _ (0, 0) _ rfl BR.out Try.underlying42 rfl (by kernel_rfl)) rfl ?_
      exact ⟨⟨_, rfl, Kd.R_nil _ _ _ _ _⟩, RR.out, GG.out⟩
    | true =>
      have hR1 := hR.out
      rw [if_pos rfl] at hR1
      cases hi : rdIs s2 91 with
      | false =>
        rw [if_neg (by rw [hi]; simp)] at hR1
        obtain ⟨⟨t2, rest2, er2⟩, hq2, hR2⟩ := Option.bind_eq_some_iff.1 hR1
        obtain rfl := Option.some.inj hR2
        replace hq2 := Aside0.mk hq2
        clear hR hR1 hR2
        go_wp2_with fail
        refine (rd_is g s2 true 91 _ H2.out).mono ?_
        rintro e w3 ⟨rfl, rfl⟩
        rw [hi]
        go_wp2_with fail
        refine (rd_text k g s2 true t2 rest2 er2 hq2.out _ H2.out).mono ?_
        rintro e w4 ⟨rfl, h4, hg4⟩
        have H4 := Aside0.mk (blk_far h4 (p := ⟨gf, 1, none⟩) (fun e => nfg.out e.symm) (.string t2))
        have b4 := blk_grown BC2.out hg4 (fun e => nfg.out (by injection e))
        have z4 := blk_frozen b4 1
        have c4 : w4.cell? ⟨gf, 1, none⟩ = some (.string (⟨#[]⟩ : ByteArray)) := (blk_cell b4 1).trans rfl
        have BC4 : Aside0 ((w4.setCell ⟨gf, 1, none⟩ (.string t2)).heap[gf]? = some (.cells #[.string t, .string t2, .slice none 0 0, .bool false] 42 (0, 0))) := ⟨blk_put b4 1 _ rfl⟩
        have GR4 := Aside0.mk (blk_far (blk_grown GR2.out hg4 (fun e => by injection e with e; have := hglt.out; omega)) (p := ⟨gf, 1, none⟩) (fun e => nfr.out e.symm) (.string t2))
        have GW4 := Aside0.mk (gb_step (GW2.out.trans hg4) gf 1 (.string t2) GF.out)
        clear h4 hg4 H2 BC2 GB2 GR2 GW2 b4
        have y0 : (w4.setCell ⟨gf, 1, none⟩ (.string t2)).cell? ⟨gf, 0, none⟩ = some (.string t) := (blk_cell BC4.out 0).trans rfl
        have y1 : (w4.setCell ⟨gf, 1, none⟩ (.string t2)).cell? ⟨gf, 1, none⟩ = some (.string t2) := (blk_cell BC4.out 1).trans rfl
        have y2 : (w4.setCell ⟨gf, 1, none⟩ (.string t2)).cell? ⟨gf, 2, none⟩ = some (.slice none 0 0) := (blk_cell BC4.out 2).trans rfl
        have y3 : (w4.setCell ⟨gf, 1, none⟩ (.string t2)).cell? ⟨gf, 3, none⟩ = some (.bool false) := (blk_cell BC4.out 3).trans rfl
        have x0 : (w4.setCell ⟨gf, 1, none⟩ (.string t2)).cell? ⟨w.heap.size + 1, 0, none⟩ = some (.string (⟨#[]⟩ : ByteArray)) := (blk_cell GR4.out 0).trans rfl
        have x1 : (w4.setCell ⟨gf, 1, none⟩ (.string t2)).cell? ⟨w.heap.size + 1, 1, none⟩ = some (.string (⟨#[]⟩ : ByteArray)) := (blk_cell GR4.out 1).trans rfl
        have x2 : (w4.setCell ⟨gf, 1, none⟩ (.string t2)).cell? ⟨w.heap.size + 1, 2, none⟩ = some (.slice none 0 0) := (blk_cell GR4.out 2).trans rfl
        have x3 : (w4.setCell ⟨gf, 1, none⟩ (.string t2)).cell? ⟨w.heap.size + 1, 3, none⟩ = some (.bool false) := (blk_cell GR4.out 3).trans rfl
        have v0 := blk_frozen GR4.out 0
        have v1 := blk_frozen GR4.out 1
        have v2 := blk_frozen GR4.out 2
        have v3 := blk_frozen GR4.out 3
        have BR := Aside0.mk (blk_set (blk_set (blk_set (blk_set GR4.out 0 (.string t)) 1 (.string t2)) 2 (.slice none 0 0)) 3 (.bool false))
        have ngr : g ≠ w.heap.size + 1 := by have := hglt.out; omega
        have RR := Aside0.mk (blk_far (blk_far (blk_far (blk_far H4.out (p := ⟨w.heap.size + 1, 0, none⟩) ngr (.string t)) (p := ⟨w.heap.size + 1, 1, none⟩) ngr (.string t2)) (p := ⟨w.heap.size + 1, 2, none⟩) ngr (.slice none 0 0)) (p := ⟨w.heap.size + 1, 3, none⟩) ngr (.bool false))
        have GG := Aside0.mk (gb_step (gb_step (gb_step (gb_step GW4.out (w.heap.size + 1) 0 (.string t) (by omega)) (w.heap.size + 1) 1 (.string t2) (by omega)) (w.heap.size + 1) 2 (.slice none 0 0) (by omega)) (w.heap.size + 1) 3 (.bool false) (by omega))
        go_wp2
        refine bodyPost_ret (results_cell_row (fn := Try.f44) (p := 2) (ty := 42) (by kernel_rfl) _ _ (w.heap.size + 1) 42 _ (0, 0) _ rfl BR.out Try.underlying42 rfl (by kernel_rfl)) rfl ?_
        exact ⟨⟨_, rfl, Kd.R_nil _ _ _ _ _⟩, RR.out, GG.out⟩
      | true =>
        rw [if_pos hi] at hR1
        obtain ⟨q, hq2, hR2⟩ := Option.bind_eq_some_iff.1 hR1
        obtain rfl := Option.some.inj hR2
        obtain ⟨⟨s3, ok3⟩, l3⟩ := q
        replace hq2 := Aside0.mk hq2
        clear hR hR1 hR2
        have z2 := blk_frozen BC2.out 3
        have c2 : w2.cell? ⟨gf, 3, none⟩ = some (.bool false) := (blk_cell BC2.out 3).trans rfl
        have yb3 : (w2.setCell ⟨gf, 3, none⟩ (.bool true)).cell? ⟨w.heap.size, 0, none⟩ = some (.pointer (some ⟨g, 0, none⟩)) := (blk_cell (blk_far GB2.out (p := ⟨gf, 3, none⟩) (fun e => nfb.out e.symm) (.bool true)) 0).trans rfl
        have H3 := Aside0.mk (blk_far H2.out (p := ⟨gf, 3, none⟩) (fun e => nfg.out e.symm) (.bool true))
        have J3 : Aside0 (FldAt w g gf w.heap.size (w.heap.size + 1) t [] (w2.setCell ⟨gf, 3, none⟩ (.bool true))) := ⟨hglt.out, GF.out, ⟨.slice none 0 0, blk_put BC2.out 3 _ rfl, Kd.R_nil _ _ _ _ _⟩, blk_far GB2.out (p := ⟨gf, 3, none⟩) (fun e => nfb.out e.symm) _, gb_step GW2.out gf 3 _ GF.out, by simp, blk_far GR2.out (p := ⟨gf, 3, none⟩) (fun e => nfr.out e.symm) _, fun e => nfr.out e.symm, by omega⟩
        clear GB2 GR2 GW2 BC2
        go_wp2_with fail
        refine (rd_is g s2 true 91 _ H2.out).mono ?_
        rintro e w3 ⟨rfl, rfl⟩
        rw [hi]
        go_wp2_with fail
        refine (rd_row (oneText k) (FldAt w g gf w.heap.size (w.heap.size + 1) t) g 63 #[.pointer (some ⟨gf, 0, none⟩), .pointer (some ⟨w.heap.size, 0, none⟩)] 91 93 (fun args w' => enters_ Try.func63 (by kernel_rfl) rfl args w') (fun x s ok w1 w2 hr hf hg => FldAt.step x s ok w1 w2 hr hf hg) (fun s x w1 r hr hf h1 => rd_field1 k w g gf w.heap.size (w.heap.size + 1) t s x w1 r hr hf h1) s2 true [] _ hq2.out _ H3.out J3.out).mono ?_
        rintro e w5 ⟨rfl, h5, j5⟩
        obtain ⟨_, _, ⟨v5, b5, r5⟩, _, g5, _, gr5, _, _⟩ := j5
        obtain ⟨A5, c5, e5, _, _⟩ := Kd.R_reads r5
        subst e5
        have H5 : Aside0 (RdAt g s3 ok3 w5) := ⟨h5⟩
        have BC5 := Aside0.mk b5
        have GR5 := Aside0.mk gr5
        have GW5 := Aside0.mk g5
        have R5 := Aside0.mk r5
        clear h5 b5 r5 g5 gr5 H2 H3 J3
        have y0 : w5.cell? ⟨gf, 0, none⟩ = some (.string t) := (blk_cell BC5.out 0).trans rfl
        have y1 : w5.cell? ⟨gf, 1, none⟩ = some (.string (⟨#[]⟩ : ByteArray)) := (blk_cell BC5.out 1).trans rfl
        have y2 : w5.cell? ⟨gf, 2, none⟩ = some (.slice A5 l3.length c5) := (blk_cell BC5.out 2).trans rfl
        have y3 : w5.cell? ⟨gf, 3, none⟩ = some (.bool true) := (blk_cell BC5.out 3).trans rfl
        have x0 : w5.cell? ⟨w.heap.size + 1, 0, none⟩ = some (.string (⟨#[]⟩ : ByteArray)) := (blk_cell GR5.out 0).trans rfl
        have x1 : w5.cell? ⟨w.heap.size + 1, 1, none⟩ = some (.string (⟨#[]⟩ : ByteArray)) := (blk_cell GR5.out 1).trans rfl
        have x2 : w5.cell? ⟨w.heap.size + 1, 2, none⟩ = some (.slice none 0 0) := (blk_cell GR5.out 2).trans rfl
        have x3 : w5.cell? ⟨w.heap.size + 1, 3, none⟩ = some (.bool false) := (blk_cell GR5.out 3).trans rfl
        have v0 := blk_frozen GR5.out 0
        have v1 := blk_frozen GR5.out 1
        have v2 := blk_frozen GR5.out 2
        have v3 := blk_frozen GR5.out 3
        have BR := Aside0.mk (blk_set (blk_set (blk_set (blk_set GR5.out 0 (.string t)) 1 (.string (⟨#[]⟩ : ByteArray))) 2 (.slice A5 l3.length c5)) 3 (.bool true))
        have ngr : g ≠ w.heap.size + 1 := by have := hglt.out; omega
        have RR := Aside0.mk (blk_far (blk_far (blk_far (blk_far H5.out (p := ⟨w.heap.size + 1, 0, none⟩) ngr (.string t)) (p := ⟨w.heap.size + 1, 1, none⟩) ngr (.string (⟨#[]⟩ : ByteArray))) (p := ⟨w.heap.size + 1, 2, none⟩) ngr (.slice A5 l3.length c5)) (p := ⟨w.heap.size + 1, 3, none⟩) ngr (.bool true))
        have GG := Aside0.mk (gb_step (gb_step (gb_step (gb_step GW5.out (w.heap.size + 1) 0 (.string t) (by omega)) (w.heap.size + 1) 1 (.string (⟨#[]⟩ : ByteArray)) (by omega)) (w.heap.size + 1) 2 (.slice A5 l3.length c5) (by omega)) (w.heap.size + 1) 3 (.bool true) (by omega))
        go_wp2
        refine bodyPost_ret (results_cell_row (fn := Try.f44) (p := 2) (ty := 42) (by kernel_rfl) _ _ (w.heap.size + 1) 42 _ (0, 0) _ rfl BR.out Try.underlying42 rfl (by kernel_rfl)) rfl ?_
        exact ⟨⟨_, rfl, by
          have h6 := Kd.own_of_R R5.out
          have n6 := own_ne (Kd.R_own R5.out).choose_spec GR5.out (by decide)
          exact Kd.R_of_own (own_setCell (own_setCell (own_setCell (own_setCell h6 (p := ⟨w.heap.size + 1, 0, none⟩) n6 _) (p := ⟨w.heap.size + 1, 1, none⟩) n6 _) (p := ⟨w.heap.size + 1, 2, none⟩) n6 _) (p := ⟨w.heap.size + 1, 3, none⟩) n6 _) (fun k hk => Kd.R_base R5.out k hk)⟩, RR.out, GG.out⟩
/-- The fields read so far: the variable's block, its row, the reader's pointer's block; all of the call's own. -/
def OutAt (W0 : World) (g go gp : Nat) (l : List S42) (w : World) : Prop :=
  W0.heap.size ≤ g ∧ W0.heap.size ≤ go ∧ (∃ v, w.heap[go]? = some (.cells #[v] 36 (0, 0)) ∧ Kd.R k42 42 w W0.heap.size (fun k => W0.heap.size ≤ k ∧ k ≠ g ∧ k ≠ go) v l) ∧ w.heap[gp]? = some (.cells #[.pointer (some ⟨g, 0, none⟩)] 80 (0, 0)) ∧ Below W0.heap.size W0 w ∧ l.length ≤ 300
theorem OutAt.step {W0 : World} {g go gp : Nat} (l : List S42) (s : ByteArray) (ok : Bool) (w w' : World) (hr : RdAt g s ok w) (h : OutAt W0 g go gp l w) (hg : w.grownBy w' (some g)) : OutAt W0 g go gp l w' := by
  obtain ⟨h1, h2, ⟨v, h3, h4⟩, h5, h6, h7⟩ := h
  have n1 : go ≠ g := blk_ne h3 hr (by decide)
  have n2 : gp ≠ g := blk_ne h5 hr (by decide)
  exact ⟨h1, h2, ⟨v, blk_grown h3 hg (fun e => n1 (by injection e)), Kd.R_grown h4 hg (fun k hk e => hk.2.1 (by injection e))⟩, blk_grown h5 hg (fun e => n2 (by injection e)), h6.grown hg h6.size (fun k hk => by injection hk with hk; omega), h7⟩
def oneField (k : Nat) (s : ByteArray) (l : List S42) : Option ((ByteArray × Bool) × List S42) := (rdField k s).bind fun q => if l.length < 300 then some (q.1, l ++ [q.2]) else none
set_option maxHeartbeats 4000000 in
set_option maxRecDepth 100000 in
theorem rd_out (k : Nat) (W0 : World) (g go gp : Nat) (s : ByteArray) (l : List S42) (w : World) (r : (ByteArray × Bool) × List S42) (hr : RdAt g s true w) (hf : OutAt W0 g go gp l w) (h1 : oneField k s l = some r) :
    Calls Try.prog 43 #[.pointer (some ⟨go, 0, none⟩), .pointer (some ⟨gp, 0, none⟩)] w fun e w' => e = .returned (.tuple #[]) ∧ RdAt g r.1.1 r.1.2 w' ∧ OutAt W0 g go gp r.2 w' := by
  unfold oneField at h1
  obtain ⟨⟨⟨s2, ok2⟩, x⟩, hq, h2⟩ := Option.bind_eq_some_iff.1 h1
  by_cases hl : l.length < 300
  case neg => rw [if_neg hl] at h2; exact absurd h2 (by simp)
  rw [if_pos hl] at h2
  obtain rfl := Option.some.inj h2
  clear h1 h2
  have hfd : OutAt W0 g go gp l w.drew := OutAt.step l s true w _ hr hf (gb_below (below_drew (Below.refl _ _)))
  have hrd : RdAt g s true w.drew := hr
  obtain ⟨f1, f2, ⟨v, f3, f4⟩, f5, f6, f7⟩ := hfd
  have y0 : w.drew.cell? ⟨go, 0, none⟩ = some v := (blk_cell f3 0).trans rfl
  have yb : w.drew.cell? ⟨gp, 0, none⟩ = some (.pointer (some ⟨g, 0, none⟩)) := (blk_cell f5 0).trans rfl
  replace hq := Aside0.mk hq
  replace f3 := Aside0.mk f3
  replace f4 := Aside0.mk f4
  replace f5 := Aside0.mk f5
  replace f6 := Aside0.mk f6
  replace hrd := Aside0.mk hrd
  clear hr hf
  go_enter Try.func43, Try.ntmps43
  refine start_ (n := 6) (S := fun w' => w'.cell? ⟨go, 0, none⟩ = some v ∧ w'.cell? ⟨gp, 0, none⟩ = some (.pointer (some ⟨g, 0, none⟩))) (ds := [5]) #[false, false, false, false, false, false] (by kernel_rfl) rfl rfl ⟨y0, yb⟩ (fun hHeld => ?_)
  clear y0 yb
  generalize w.drew = wd at hHeld f3 f4 f5 f6 hrd ⊢
  refine take_ (i := 0) (N := some 2) (v := ?_) (a' := ?_) #[true, false, false, false, false, false] rfl rfl (by kernel_rfl) (fun _ _ _ h => h) (Or.inl ⟨by rfl, ?_⟩) hHeld ?_ ?_
  rotate_left
  · rintro w' ⟨s0, s1⟩
    go_simp
    with_reducible rfl
  rotate_left
  · simp only [Act.put, List.setIfInBounds_toArray, List.set_cons_zero, List.set_cons_succ, i64_w, i32_w]
    rfl
  refine take_ (i := 1) (N := some 3) (v := ?_) (a' := ?_) #[true, true, false, false, false, false] rfl rfl (by kernel_rfl) (fun _ _ _ h => h) (Or.inl ⟨by rfl, ?_⟩) hHeld ?_ ?_
  rotate_left
  · rintro w' ⟨s0, s1⟩
    go_simp
    with_reducible rfl
  rotate_left
  · simp only [Act.put, List.setIfInBounds_toArray, List.set_cons_zero, List.set_cons_succ, i64_w, i32_w]
    rfl
  refine one_ (i := 2) (N := some 4) #[true, true, true, false, false, false] rfl rfl (by kernel_rfl) (by decide) (fun K hK => ?_)
  refine goes_ Try.func44 (by kernel_rfl) rfl #[.pointer (some ⟨g, 0, none⟩)] (by rfl) rfl rfl (by (try simp only [List.map_toArray, List.map_cons, List.map_nil]); first | done | rfl) ?_
  refine (rd_field k g s _ hq.out _ hrd.out).mono ?_
  rintro e w1 ⟨⟨v2, rfl, hx⟩, h1, hg1⟩
  obtain ⟨A2, c2, e2, _, _⟩ := Kd.R_reads hx
  subst e2
  refine ⟨_, rfl, ?_⟩
  have n1 : go ≠ g := blk_ne f3.out hrd.out (by decide)
  have n2 : gp ≠ g := blk_ne f5.out hrd.out (by decide)
  have lg := Aside0.mk (blk_lt hrd.out)
  have lo := Aside0.mk (blk_lt f3.out)
  have lv := Aside0.mk (fun k hk => own_lt (Kd.R_own f4.out).choose_spec k hk)
  have q3 := blk_grown f3.out hg1 (fun e => n1 (by injection e))
  have q5 := blk_grown f5.out hg1 (fun e => n2 (by injection e))
  have Q4 := Aside0.mk (Kd.R_grown f4.out hg1 (fun k hk e => hk.2.1 (by injection e)))
  have Q6 := Aside0.mk (f6.out.grown hg1 f6.out.size (fun k hk => by injection hk with hk; omega))
  have X1 := Aside0.mk (Kd.R_lower hx f6.out.size)
  have Q3 := Aside0.mk q3
  have Q5 := Aside0.mk q5
  have H1 := Aside0.mk h1
  have G1 := Aside0.mk hg1.size
  have D6 := Aside0.mk f6.out.size
  clear f3 f4 f5 f6 hrd hHeld hx h1 hg1
  refine hK.out _ _ ⟨(blk_cell q3 0).trans rfl, (blk_cell q5 0).trans rfl⟩ (fun hHeld => ?_)
  clear q3 q5
  clear hK K
  refine norm_ (a' := ?_) ?_ ?_
  rotate_left
  · show Act.put _ (some 4) _ = _
    simp only [Act.put, List.setIfInBounds_toArray, List.set_cons_zero, List.set_cons_succ, i64_w, i32_w]
    rfl
  refine one_ (i := 3) (N := some 5) #[true, true, true, true, false, false] rfl rfl (by kernel_rfl) (by decide) (fun K hK => ?_)
  refine value_ (w1 := ?_) (v := ?_) (by rfl) rfl ?_ ?_
  rotate_left 2
  · go_simp
    constructor
    · rfl
    · rfl
  refine hK.out _ _ ⟨(blk_cell (blk_alloc Q3.out _) 0).trans rfl, (blk_cell (blk_alloc Q5.out _) 0).trans rfl⟩ (fun hHeld => ?_)
  clear hK K
  refine norm_ (a' := ?_) ?_ ?_
  rotate_left
  · show Act.put _ (some 5) _ = _
    simp only [Act.put, List.setIfInBounds_toArray, List.set_cons_zero, List.set_cons_succ, i64_w, i32_w]
    rfl
  refine one_ (i := 4) (N := some 6) #[true, true, true, true, true, false] rfl rfl (by kernel_rfl) (by decide) (fun K hK => ?_)
  refine Kd.R_append_step k42 (w0 := w1) W0.heap.size (by rfl) (.tmp 2) (.tmp 5) 36 42 (.agg #[.string ⟨#[]⟩, .string ⟨#[]⟩, .slice none 0 0, .bool false]) 64 rfl Try.underlying36 info42 rfl (by decide) (by omega) v l x [.string x.f0, .string x.f1, .slice A2 x.f2.length c2, .bool x.f3] (fun k => W0.heap.size ≤ k ∧ k ≠ g ∧ k ≠ go) (fun k => wd.heap.size ≤ k) rfl rfl ?aP ?aQ ?aF ?aO ?aB ?aS ?aL ?_
  (case aP => exact k42_mkM w1 _ _ x X1.out)
  (case aQ => exact fun k hk => ⟨⟨Nat.le_trans D6.out hk, fun e => by have := lg.out; omega, fun e => by have := lo.out; omega⟩, fun e => by have := lv.out k e.symm; omega⟩)
  (case aB => exact Below.refl _ _)
  (case aF => exact fun k hk => ⟨Nat.le_trans Q6.out.size hk, fun e => by have := lg.out; have := G1.out; omega, fun e => by have := lo.out; have := G1.out; omega⟩)
  (case aO => exact Q4.out)
  (case aS => exact Q6.out.size)
  (case aL => omega)
  intro v1 w2 ho hb hg2 hat
  obtain ⟨A1, c1, e1, _, _⟩ := Kd.R_reads ho
  subst e1
  have hne := own_ne (Kd.R_own Q4.out).choose_spec Q3.out (by decide)
  have hneg := own_ne (Kd.R_own Q4.out).choose_spec H1.out (by decide)
  have hneb := own_ne (Kd.R_own Q4.out).choose_spec Q5.out (by decide)
  have p3 := blk_grown Q3.out hg2 hne
  have P1 : Aside0 (RdAt g s2 ok2 w2) := ⟨blk_grown H1.out hg2 hneg⟩
  have p5 := blk_grown Q5.out hg2 hneb
  have P3 := Aside0.mk p3
  have P5 := Aside0.mk p5
  have HO := Aside0.mk ho
  have P6 := Aside0.mk (Q6.out.grown hg2 Q6.out.size (fun k hk => Kd.R_base Q4.out k hk))
  clear ho hb hg2 hat hne hneg hneb Q3 Q4 Q5 Q6 H1 X1 hHeld
  refine hK.out _ _ ⟨(blk_cell p3 0).trans rfl, (blk_cell p5 0).trans rfl⟩ (fun hHeld => ?_)
  clear p3 p5
  clear hK K
  refine norm_ (a' := ?_) ?_ ?_
  rotate_left
  · show Act.put _ (some 6) _ = _
    simp only [Act.put, List.setIfInBounds_toArray, List.set_cons_zero, List.set_cons_succ, i64_w, i32_w]
    rfl
  refine last_ (i := 5) (N := none) #[true, true, true, true, true, true] rfl rfl (by kernel_rfl) (by decide) (fun K hK => ?_)
  have u2 : w2.cell? ⟨go, 0, none⟩ = some v := hHeld.1
  have z2 := blk_frozen P3.out 0
  refine skip_ (w1 := w2.setCell ⟨go, 0, none⟩ (.slice A1 (l ++ [x]).length c1)) (by rfl) rfl ?_ ?_
  · go_simp
    try rfl
  refine hK.out _ _ ?_
  refine done_ (by kernel_rfl) ?_
  try go_wp2
  first | go_end0 | ((try simp only [Exit.inBlock, Exit.then]); refine bodyPost_ret (results_none rfl _ _ _) rfl ?_)
  have nfb : gp ≠ go := blk_ne P5.out P3.out (by decide)
  refine ⟨rfl, blk_far P1.out (p := ⟨go, 0, none⟩) (fun e => n1 e.symm) _, f1, f2, ⟨.slice A1 (l ++ [x]).length c1, blk_put P3.out 0 _ (by simp), Kd.R_far HO.out (p := ⟨go, 0, none⟩) (fun k hk => hk.2.2) _⟩, blk_far P5.out (p := ⟨go, 0, none⟩) nfb _, P6.out.setCell (p := ⟨go, 0, none⟩) f2 _, by rw [List.length_append, List.length_singleton]; omega⟩
theorem rowL.mono {σ : Type} {one one' : ByteArray → σ → Option ((ByteArray × Bool) × σ)} (c2 : UInt8) (h : ∀ s x, LeO (one s x) (one' s x)) : ∀ d n s ok x, LeO (rowL one c2 d n s ok x) (rowL one' c2 d n s ok x)
  | 0, _, _, _, _ => LeO.refl _
  | d + 1, n, s, ok, x => by
    simp only [rowL]
    refine LeO.ite ?_ (LeO.refl _)
    refine LeO.ite ?_ (rowL.mono c2 h d _ _ _ _)
    exact LeO.bind (h _ _) (fun r => rowL.mono c2 h d _ _ _ _)
theorem oneText.mono (k : Nat) (s : ByteArray) (l : List ByteArray) : LeO (oneText k s l) (oneText (k + 1) s l) := LeO.bind (quote_Read.mono _ _) (fun _ => LeO.refl _)
theorem rdField.mono (k : Nat) (s : ByteArray) : LeO (rdField k s) (rdField (k + 1) s) := by
  unfold rdField
  refine LeO.bind (quote_Read.mono _ _) (fun q => ?_)
  refine LeO.ite ?_ (LeO.refl _)
  refine LeO.ite ?_ ?_
  · exact LeO.bind (rowL.mono _ (oneText.mono k) _ _ _ _ _) (fun _ => LeO.refl _)
  · exact LeO.bind (quote_Read.mono _ _) (fun _ => LeO.refl _)
theorem oneField.mono (k : Nat) (s : ByteArray) (l : List S42) : LeO (oneField k s l) (oneField (k + 1) s l) := LeO.bind (rdField.mono _ _) (fun _ => LeO.refl _)
def object_Read.f (k : Nat) (a0 : ByteArray) : Option (List S42 × Int) := (rowF (oneField k) 123 125 a0 true []).bind fun r => if r.1.2 = true ∧ r.1.1.toList = [] then (object_fine.f r.2).bind fun b => if b = true then some (r.2, 0) else some ([], 6) else some ([], 6)
theorem object_Read.mono : ∀ a0 k, LeO (object_Read.f k a0) (object_Read.f (k + 1) a0) := fun a0 k => by
  unfold object_Read.f rowF
  exact LeO.bind (rowL.mono _ (oneField.mono k) _ _ _ _ _) (fun _ => LeO.refl _)
set_option maxHeartbeats 4000000 in
set_option maxRecDepth 100000 in
theorem object_Read.calls (k : Nat) (a0 : ByteArray) (r1 : List S42) (r2 : Int) (w : World) (h : object_Read.f k a0 = some (r1, r2)) :
    Calls Try.prog 22 #[.string a0] w fun e w' => ∃ v0_ : Value, e = .returned (.tuple #[v0_, .int .i64 r2]) ∧ Kd.V k42 42 w' w.heap.size (fun k_ => w.heap.size ≤ k_) v0_ r1 ∧ Below w.heap.size w w' := by
  unfold object_Read.f at h
  obtain ⟨⟨⟨s, ok⟩, l⟩, hq, h2⟩ := Option.bind_eq_some_iff.1 h
  replace hq := Aside0.mk hq
  replace h2 := Aside0.mk h2
  clear h
  go_enter Try.func22, Try.ntmps22
  go_wp2_with fail
  have hA : RdAt w.heap.size a0 true (((w.alloc (.cells #[.string a0, .bool true] 82)).alloc (.cells #[.pointer (some ⟨w.heap.size, 0, none⟩)] 80)).alloc (.cells #[.slice none 0 0] 36)) := blk_alloc (blk_alloc (my_alloc_new w _) _) _
  have hB : (((w.alloc (.cells #[.string a0, .bool true] 82)).alloc (.cells #[.pointer (some ⟨w.heap.size, 0, none⟩)] 80)).alloc (.cells #[.slice none 0 0] 36)).heap[w.heap.size + 1]? = some (.cells #[.pointer (some ⟨w.heap.size, 0, none⟩)] 80 (0, 0)) := blk_alloc (by
    have h1 := my_alloc_new (w.alloc (.cells #[.string a0, .bool true] 82)) (.cells #[.pointer (some ⟨w.heap.size, 0, none⟩)] 80)
    rw [my_alloc_size] at h1
    exact h1) _
  have hC : (((w.alloc (.cells #[.string a0, .bool true] 82)).alloc (.cells #[.pointer (some ⟨w.heap.size, 0, none⟩)] 80)).alloc (.cells #[.slice none 0 0] 36)).heap[w.heap.size + 1 + 1]? = some (.cells #[.slice none 0 0] 36 (0, 0)) := by
    have h1 := my_alloc_new ((w.alloc (.cells #[.string a0, .bool true] 82)).alloc (.cells #[.pointer (some ⟨w.heap.size, 0, none⟩)] 80)) (.cells #[.slice none 0 0] 36)
    rw [my_alloc_size, my_alloc_size] at h1
    exact h1
  have hO : OutAt w w.heap.size (w.heap.size + 1 + 1) (w.heap.size + 1) [] (((w.alloc (.cells #[.string a0, .bool true] 82)).alloc (.cells #[.pointer (some ⟨w.heap.size, 0, none⟩)] 80)).alloc (.cells #[.slice none 0 0] 36)) := ⟨Nat.le_refl _, by omega, ⟨_, hC, Kd.R_nil _ _ _ _ _⟩, hB, (((Below.refl w.heap.size w).alloc (Nat.le_refl _) _).alloc (by rw [my_alloc_size]; omega) _).alloc (by rw [my_alloc_size, my_alloc_size]; omega) _, by simp⟩
  generalize (((w.alloc (.cells #[.string a0, .bool true] 82)).alloc (.cells #[.pointer (some ⟨w.heap.size, 0, none⟩)] 80)).alloc (.cells #[.slice none 0 0] 36)) = w3 at hA hO ⊢
  clear hB hC
  refine (rd_row (oneField k) (OutAt w w.heap.size (w.heap.size + 1 + 1) (w.heap.size + 1)) w.heap.size 43 #[.pointer (some ⟨w.heap.size + 1 + 1, 0, none⟩), .pointer (some ⟨w.heap.size + 1, 0, none⟩)] 123 125 (fun args w' => enters_ Try.func43 (by kernel_rfl) rfl args w') (fun x s ok w1 w2 hr hf hg => OutAt.step x s ok w1 w2 hr hf hg) (fun s x w1 r hr hf h1 => rd_out k w w.heap.size (w.heap.size + 1 + 1) (w.heap.size + 1) s x w1 r hr hf h1) a0 true [] _ hq.out _ hA hO).mono ?_
  rintro e w5 ⟨rfl, h5, o5⟩
  obtain ⟨_, _, ⟨v5, b5, r5⟩, p5, g5, _⟩ := o5
  obtain ⟨A5, c5, e5, hl5, hc5⟩ := Kd.R_reads r5
  subst e5
  have x0 : w5.cell? ⟨w.heap.size, 0, none⟩ = some (.string s) := (blk_cell h5 0).trans rfl
  have x1 : w5.cell? ⟨w.heap.size, 1, none⟩ = some (.bool ok) := (blk_cell h5 1).trans rfl
  have yp : w5.cell? ⟨w.heap.size + 1, 0, none⟩ = some (.pointer (some ⟨w.heap.size, 0, none⟩)) := (blk_cell p5 0).trans rfl
  have yo : w5.cell? ⟨w.heap.size + 1 + 1, 0, none⟩ = some (.slice A5 l.length c5) := (blk_cell b5 0).trans rfl
  have R5 := Aside0.mk r5
  have G5 := Aside0.mk g5
  have B5 := Aside0.mk b5
  have hC5 := Aside0.mk hc5
  clear hA hO h5 b5 p5 g5 r5 hc5
  have hR := h2.out
  by_cases hc : ok = true ∧ s.toList = []
  case neg =>
    rw [if_neg hc] at hR
    simp only [Option.some.injEq, Prod.mk.injEq] at hR
    obtain ⟨rfl, rfl⟩ := hR
    cases ok with
    | false =>
      go_wp2
      go_ret2
      exact ⟨_, rfl, Kd.Q_V (base := 0) (Kd.Q_nil _ _ _ _ _), G5.out⟩
    | true =>
      have hs : ¬ s.toList = [] := fun e => hc ⟨rfl, e⟩
      have h1b : (s.toList == []) = false := beq_eq_false_iff_ne.2 hs
      have h1c : s.toList.isEmpty = false := by rw [List.isEmpty_eq_false_iff]; exact hs
      go_wp2
      go_ret2
      exact ⟨_, rfl, Kd.Q_V (base := 0) (Kd.Q_nil _ _ _ _ _), G5.out⟩
  case pos =>
    rw [if_pos hc] at hR
    obtain ⟨rfl, hs⟩ := hc
    obtain ⟨b, hb, hR2⟩ := Option.bind_eq_some_iff.1 hR
    replace hb := Aside0.mk hb
    have h1b : (s.toList == []) = true := by rw [hs]; rfl
    have h1c : s.toList.isEmpty = true := by rw [hs]; rfl
    clear hR
    go_wp2_with fail
    refine (object_fine.calls A5 c5 l b _ hC5.out hl5 hb.out).mono ?_
    rintro e w6 ⟨rfl, hb6⟩
    have yo6 : w6.cell? ⟨w.heap.size + 1 + 1, 0, none⟩ = some (.slice A5 l.length c5) := (blk_cell (blk_below B5.out hb6) 0).trans rfl
    have R6 := Aside0.mk (Kd.R_below R5.out hb6)
    have G6 := Aside0.mk (below_step G5.out hb6)
    clear hb6
    cases b with
    | false =>
      rw [if_neg (by simp)] at hR2
      simp only [Option.some.injEq, Prod.mk.injEq] at hR2
      obtain ⟨rfl, rfl⟩ := hR2
      go_wp2
      go_ret2
      exact ⟨_, rfl, Kd.Q_V (base := 0) (Kd.Q_nil _ _ _ _ _), G6.out⟩
    | true =>
      rw [if_pos rfl] at hR2
      simp only [Option.some.injEq, Prod.mk.injEq] at hR2
      obtain ⟨rfl, rfl⟩ := hR2
      go_wp2
      go_ret2
      exact ⟨_, rfl, Kd.Q_V (Kd.Q_mono (Kd.Q_of_R R6.out) (fun _ h_ => h_.1)), G6.out⟩

end Go.Proofs.Ytcgmododeiocpaa.PObj
