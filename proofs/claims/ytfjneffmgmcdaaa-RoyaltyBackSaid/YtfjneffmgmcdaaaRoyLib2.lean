/- Plain facts on the printed functions of royalty and of its reference. -/
import Derived.Test.YtfjneffmgmcdaaaRoyLib
namespace Go.Proofs.Ytfjneffmgmcdaaa.PureRoy
open Go.RowKit Go.Proofs.Ytfjneffmgmcdaaa.PRoy Go.Proofs.YtfjneffmgmcdaaaW.PrintWords Go.Proofs.YtfjneffmgmcdaaaW.PrintLast
set_option linter.unusedVariables false
set_option linter.unusedSimpArgs false
open Classical in
theorem readRef_ev (s : List UInt8) (hs : s.length ≤ 1000000) : Ev (fun k => footbridgeref33_Read.f k (ofL s)) (readS s) := by
  have e8 : (((ofL s).extract 0 8).toList != ([114, 111, 121, 97, 108, 116, 121, 58] : List UInt8)) = decide (¬ s.take 8 = roy) := by
    rw [ofL_extract, ofL_toList, List.drop_zero]
    show (!(s.take 8 == roy)) = _
    by_cases h : s.take 8 = roy
    · rw [h]; simp
    · rw [decide_eq_true h, show (s.take 8 == roy) = false from beq_eq_false_iff_ne.2 h]; rfl
  have hroy : roy <+: s ↔ s.take 8 = roy := by
    constructor
    · rintro ⟨r, rfl⟩; rfl
    · intro h; exact ⟨s.drop 8, by rw [← h]; exact List.take_append_drop 8 s⟩
  unfold readS
  by_cases hp : roy <+: s
  · have ht := hroy.1 hp
    have hl8 : 8 ≤ s.length := by
      have := congrArg List.length ht
      rw [List.length_take] at this
      have e : roy.length = 8 := rfl
      omega
    have e8 : (((ofL s).extract 0 8).toList != ([114, 111, 121, 97, 108, 116, 121, 58] : List UInt8)) = false := by rw [e8]; exact decide_eq_false (fun h => h ht)
    have hsd : s = roy ++ s.drop 8 := by conv => lhs; rw [← List.take_append_drop 8 s, ht]
    have hl1 : (s.drop 8).length ≤ 1000000 := by rw [List.length_drop]; omega
    rw [if_pos hp]
    cases h1 : cutL 58 (s.drop 8) with
    | none =>
      refine ⟨s.length + 5, fun k hk => ?_⟩
      obtain ⟨k, rfl⟩ : ∃ m, k = m + 2 := ⟨k - 2, by omega⟩
      show footbridgeref33_Read.f _ (ofL s) = _
      unfold footbridgeref33_Read.f
      rw [e8, ofL_size, if_neg (by omega), if_pos (by omega)]
      simp only [footbridgeref33_Read.j0]
      have hu := until_is (s.drop 8) 58 hl1 (k + 1) (by rw [List.length_drop]; omega)
      have hu : footbridgeref33_until.f (k + 1) (ofL (s.drop 8)) 58 = _ := hu
      rw [if_neg (by simp), ofL_size, if_pos (by omega), ofL_tail, hu, Option.bind_some]
      unfold cutS
      rw [h1]
      simp only
      have hu2 : footbridgeref33_until.f (k + 1) (ofL []) 59 = _ := until_is [] 59 (by simp) (k + 1) (by simp)
      rw [hu2, Option.bind_some, if_neg (by simp)]
      simp only [footbridgeref33_Read.j1]
      rw [if_pos trivial]
      rfl
    | some p =>
      obtain ⟨o, r⟩ := p
      have c1 := cutL_some h1
      have e1 := congrArg List.length c1
      rw [List.length_append, List.length_cons] at e1
      simp only
      cases h2 : cutL 59 r with
      | none =>
        refine ⟨s.length + 5, fun k hk => ?_⟩
        obtain ⟨k, rfl⟩ : ∃ m, k = m + 2 := ⟨k - 2, by omega⟩
        show footbridgeref33_Read.f _ (ofL s) = _
        unfold footbridgeref33_Read.f
        rw [e8, ofL_size, if_neg (by omega), if_pos (by omega)]
        simp only [footbridgeref33_Read.j0]
        have hu := until_is (s.drop 8) 58 hl1 (k + 1) (by rw [List.length_drop]; omega)
        have hu : footbridgeref33_until.f (k + 1) (ofL (s.drop 8)) 58 = _ := hu
        rw [if_neg (by simp), ofL_size, if_pos (by omega), ofL_tail, hu, Option.bind_some]
        unfold cutS
        rw [h1]
        simp only
        have hu2 : footbridgeref33_until.f (k + 1) (ofL r) 59 = _ := until_is r 59 (by omega) (k + 1) (by rw [List.length_drop] at e1; omega)
        rw [hu2, Option.bind_some]
        unfold cutS
        rw [h2]
        simp only
        rw [if_pos trivial, if_neg (by simp)]
        simp only [footbridgeref33_Read.j1]
        rw [if_pos trivial]
        rfl
      | some q =>
        obtain ⟨t, d⟩ := q
        have c2 := cutL_some h2
        have e2 := congrArg List.length c2
        rw [List.length_append, List.length_cons] at e2
        simp only
        obtain ⟨K, hK⟩ := putRef_ev o (ival t 0) d (by omega) (by omega)
        refine ⟨K + s.length + 20, fun k hk => ?_⟩
        obtain ⟨k, rfl⟩ : ∃ m, k = m + 2 := ⟨k - 2, by omega⟩
        show footbridgeref33_Read.f _ (ofL s) = _
        unfold footbridgeref33_Read.f
        rw [e8, ofL_size, if_neg (by omega), if_pos (by omega)]
        simp only [footbridgeref33_Read.j0]
        have hu := until_is (s.drop 8) 58 hl1 (k + 1) (by rw [List.length_drop]; omega)
        have hu : footbridgeref33_until.f (k + 1) (ofL (s.drop 8)) 58 = _ := hu
        rw [if_neg (by simp), ofL_size, if_pos (by omega), ofL_tail, hu, Option.bind_some]
        unfold cutS
        rw [h1]
        simp only
        have hu2 : footbridgeref33_until.f (k + 1) (ofL r) 59 = _ := until_is r 59 (by omega) (k + 1) (by rw [List.length_drop] at e1; omega)
        rw [hu2, Option.bind_some]
        unfold cutS
        rw [h2]
        simp only
        rw [if_pos trivial, if_pos trivial, ofL_size]
        simp only [footbridgeref33_Read.j1]
        by_cases h5 : t.length ≤ 5
        · rw [decide_eq_false (by omega), if_neg (by simp)]
          obtain ⟨f, f0, fs, fle⟩ := bnd_ex
          have loop : ∀ (y x : List UInt8) (k : Nat) (n : Int), t = x ++ y → K + y.length + 1 ≤ k → -(f x.length : Int) ≤ n → n ≤ (f x.length : Int) → ival y n = ival t 0 → footbridgeref33_Read.l0 k (ofL s) (ofL o) (ofL t) (ofL d) n (x.length : Int) = some (if digsOk t ∧ dval t ≤ 10000 ∧ plainP (ofL o) then (ofL o, (dval t : Int), ofL d, 0) else badR) := by
            intro y
            induction y with
            | nil =>
              intro x k n hx hk _ _ hv
              obtain ⟨k, rfl⟩ : ∃ m, k = m + 1 := ⟨k - 1, by omega⟩
              rw [List.append_nil] at hx
              have hn : n = ival t 0 := hv
              subst hn
              have hK : footbridgeref33_Put.f k (ofL o) (ival t 0) (ofL d) = _ := hK k (by simp at hk; omega)
              simp only [footbridgeref33_Read.l0]
              rw [ofL_size, hx, if_neg (by omega), ← hx, hK, Option.bind_some]
              unfold putS
              by_cases a3 : plainP (ofL o)
              · rw [if_pos a3]
                by_cases b1 : ival t 0 < 0
                · rw [if_pos b1, if_neg (by decide), if_neg]; rfl
                  rintro ⟨g1, g2, g3⟩
                  have := ival_digs t 0 g1.2.2.2
                  rw [show ((0 : Nat) : Int) = 0 from rfl] at this
                  omega
                · rw [if_neg b1]
                  by_cases b2 : ival t 0 > 10000
                  · rw [if_pos b2, if_neg (by decide), if_neg]; rfl
                    rintro ⟨g1, g2, g3⟩
                    have := ival_digs t 0 g1.2.2.2
                    rw [show ((0 : Nat) : Int) = 0 from rfl] at this
                    unfold dval at g2
                    omega
                  · rw [if_neg b2, if_pos rfl, ofL_toList, ofL_toList]
                    by_cases b3 : [114, 111, 121, 97, 108, 116, 121, 58] ++ o ++ [58] ++ dec (ival t 0).toNat ++ [59] ++ d = s
                    · have hs2 : [114, 111, 121, 97, 108, 116, 121, 58] ++ o ++ [58] ++ t ++ [59] ++ d = s := by
                        conv => rhs; rw [hsd, c1, c2]
                        simp [roy]
                      have hd : dec (ival t 0).toNat = t := by
                        rw [← hs2] at b3
                        have := List.append_cancel_right b3
                        have := List.append_cancel_right this
                        exact List.append_cancel_left this
                      have hdig : ∀ c ∈ t, isDig c := by rw [← hd]; exact dec_digs _
                      have hv2 := ival_digs t 0 hdig
                      rw [show ((0 : Nat) : Int) = 0 from rfl] at hv2
                      have hv3 : ival t 0 = (dval t : Int) := hv2
                      rw [if_pos b3, if_pos, hv3]
                      refine ⟨⟨?_, h5, ?_, hdig⟩, by omega, a3⟩
                      · rw [← hd]; exact dec_ne _
                      · rw [← hd]; exact dec_head _
                    · rw [if_neg b3, if_neg]; rfl
                      rintro ⟨g1, g2, g3⟩
                      have hv2 := ival_digs t 0 g1.2.2.2
                      rw [show ((0 : Nat) : Int) = 0 from rfl] at hv2
                      have hv3 : ival t 0 = (dval t : Int) := hv2
                      apply b3
                      rw [hv3, Int.toNat_natCast, dec_dval t g1.2.2.2 g1.1 g1.2.2.1]
                      conv => rhs; rw [hsd, c1, c2]
                      simp [roy]
              · rw [if_neg a3, if_neg (by decide), if_neg (fun h => a3 h.2.2)]; rfl
            | cons c y ih =>
              intro x k n hx hk hn1 hn2 hv
              obtain ⟨k, rfl⟩ : ∃ m, k = m + 1 := ⟨k - 1, by omega⟩
              rw [List.length_cons] at hk
              have hlen := congrArg List.length hx
              rw [List.length_append, List.length_cons] at hlen
              have hb : bt (ofL t) (x.length : Int) = (c.toNat : Int) := by
                rw [bt_toList _ _ (by omega), ofL_toList, Int.toNat_natCast, hx]
                simp [List.getD_eq_getElem?_getD]
              have hc := c.toNat_lt
              have e1 : wrap64 ((x.length : Int) + 1) = ((x.length + 1 : Nat) : Int) := by rw [w64 (by omega) (by omega)]; omega
              have hpw := fs x.length
              have hxl : x.length ≤ 5 := by rw [hlen] at h5; exact Nat.le_trans (Nat.le_add_right _ _) h5
              have hpw2 := fle x.length hxl
              have e2 : wrap64 ((wrap64 ((wrap64 (n * 10)) + (wrap64 (c.toNat : Int)))) - 48) = n * 10 + (c.toNat : Int) - 48 := by
                clear hlen hb e1 hx ih hk
                rw [w64 (x := n * 10) (by omega) (by omega), w64 (x := (c.toNat : Int)) (by omega) (by omega), w64 (x := n * 10 + (c.toNat : Int)) (by omega) (by omega), w64 (by omega) (by omega)]
              have hlx : x.length < t.length := by rw [hlen]; omega
              clear hlen
              have := ih (x ++ [c]) k (n * 10 + (c.toNat : Int) - 48) (by rw [hx]; simp) (by omega) (by rw [List.length_append, List.length_cons, List.length_nil, hpw]; omega) (by rw [List.length_append, List.length_cons, List.length_nil, hpw]; omega) (by rw [← hv]; rfl)
              rw [List.length_append] at this
              simp only [footbridgeref33_Read.l0]
              rw [ofL_size, if_pos (by omega), if_pos (by omega), hb, e1, e2]
              exact this
          exact loop t [] k 0 rfl (by omega) (by rw [List.length_nil, f0]; decide) (by rw [List.length_nil, f0]; decide) rfl
        · rw [decide_eq_true (by omega), if_pos rfl, if_neg (fun h => h5 h.1.2.1)]
          rfl
  · rw [if_neg hp]
    have hnt : ¬ s.take 8 = roy := fun h => hp (hroy.2 h)
    refine ⟨1, fun k hk => ?_⟩
    obtain ⟨k, rfl⟩ : ∃ m, k = m + 1 := ⟨k - 1, by omega⟩
    show footbridgeref33_Read.f _ (ofL s) = _
    unfold footbridgeref33_Read.f
    rw [e8, ofL_size, decide_eq_true hnt]
    by_cases h8 : (s.length : Int) < 8
    · rw [if_pos h8]
      simp only [footbridgeref33_Read.j0]
      rw [if_pos trivial]; rfl
    · rw [if_neg h8, if_pos (by omega)]
      simp only [footbridgeref33_Read.j0]
      rw [if_pos trivial]; rfl
theorem awake33 : footbridgelaw33_awake.f 60 = some true := by kernel_rfl
theorem awake33_ev : Ev footbridgelaw33_awake.f true := Ev.of footbridgelaw33_awake.mono awake33
end Go.Proofs.Ytfjneffmgmcdaaa.PureRoy
