/- For any record, data and price the program's Put, Read, Check and Share answer as the reference's do. No condition beyond the inputs' own sizes. -/
import Derived.Test.YtfjneffmgmcdaaaRoyLib2
import Derived.Test.YtfjneffmgmcdaaaPRoyo
namespace Go.Proofs.Ytfjneffmgmcdaaa.Pure
open Go.RowKit Go.Proofs.Ytfjneffmgmcdaaa.PRoy Go.Proofs.Ytfjneffmgmcdaaa.PureRoy Go.Proofs.YtfjneffmgmcdaaaW.PrintWords Go.Proofs.YtfjneffmgmcdaaaW.PrintLast
set_option linter.unusedVariables false
theorem share_same (a : ByteArray) (b c : Int) : footbridgeref33_Share.f a b c = royalty_Share.f a b c := rfl
theorem share_some (a : ByteArray) (b c : Int) : ∃ r, royalty_Share.f a b c = some r := by
  unfold royalty_Share.f
  repeat' split
  all_goals exact ⟨_, rfl⟩
theorem RoyaltyReads (x0 : S45) (x1 : ByteArray) (x2 : Int) (h0 : ok45 x0) (h1 : x1.size ≤ 140737488351232) (h2 : (Lit.int .i64 x2).wf = true) : ∃ k, footbridgelaw33_RoyaltyReads.f k x0.f0 x0.f1 x1 x2 = some true := by
  obtain ⟨o, n⟩ := x0
  obtain ⟨K, hK⟩ := awake33_ev
  have out : ∀ b, b = true → footbridgelaw33_RoyaltyReads.j0 (K + 1) x1 x2 b o n = some true := by
    intro b hb
    subst hb
    simp only [footbridgelaw33_RoyaltyReads.j0]
    rw [if_pos trivial, hK K (Nat.le_refl _)]; rfl
  show ∃ k, footbridgelaw33_RoyaltyReads.f k o n x1 x2 = some true
  by_cases c1 : (o.size : Int) > 300
  · exact ⟨K + 1, by unfold footbridgelaw33_RoyaltyReads.f; rw [if_pos c1, out _ rfl]⟩
  · by_cases c2 : (x1.size : Int) > 1000
    · exact ⟨K + 1, by unfold footbridgelaw33_RoyaltyReads.f; rw [if_neg c1, out _ (decide_eq_true c2)]⟩
    · have lo : o.toList.length ≤ 1000000 := by rw [← ba_size]; omega
      have lx : x1.toList.length ≤ 1000000 := by rw [← ba_size]; omega
      obtain ⟨K1, e1⟩ := put_ev o.toList n x1.toList lo lx
      obtain ⟨K2, e2⟩ := putRef_ev o.toList n x1.toList lo lx
      obtain ⟨K3, e3⟩ := read_ev x1.toList lx
      obtain ⟨K4, e4⟩ := readRef_ev x1.toList lx
      rw [ofL_of] at e3 e4
      rw [ofL_of, ofL_of] at e1 e2
      obtain ⟨r, hr⟩ := share_some o n x2
      refine ⟨K + K1 + K2 + K3 + K4 + 1, ?_⟩
      have e0 := hK (K + K1 + K2 + K3 + K4) (by omega)
      have e1 : royalty_Put.f (K + K1 + K2 + K3 + K4) o n x1 = _ := e1 _ (by omega)
      have e2 : footbridgeref33_Put.f (K + K1 + K2 + K3 + K4) o n x1 = _ := e2 _ (by omega)
      have e3 : royalty_Read.f (K + K1 + K2 + K3 + K4) x1 = _ := e3 _ (by omega)
      have e4 : footbridgeref33_Read.f (K + K1 + K2 + K3 + K4) x1 = _ := e4 _ (by omega)
      have e5 : royalty_Check.f (K + K1 + K2 + K3 + K4) x1 = some (readS x1.toList).2.2.2 := by unfold royalty_Check.f; rw [e3]; rfl
      unfold footbridgelaw33_RoyaltyReads.f
      rw [if_neg c1, decide_eq_false c2]
      simp only [footbridgelaw33_RoyaltyReads.j0]
      rw [if_neg (by simp), e1, Option.bind_some, e2, Option.bind_some, e3, Option.bind_some, e4, Option.bind_some, share_same, hr, Option.bind_some, Option.bind_some, if_pos rfl, if_pos rfl, if_pos (by simp), if_pos rfl, if_pos rfl, e5, Option.bind_some, if_pos rfl, if_pos rfl, if_pos rfl, e0]
      rfl
end Go.Proofs.Ytfjneffmgmcdaaa.Pure
