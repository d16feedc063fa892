import Derived.Test.YtmjfenbbgfohlaaSgn
import Derived.Test.YtmjfenbbgfohlaaPAtrunnionlaw10SignAgain
set_option linter.unusedVariables false
set_option linter.unusedSimpArgs false
namespace Go.Proofs.Ytmjfenbbgfohlaa.Th
open Go.RowKit Go.Proofs.YtmjfenbbgfohlaaW.PrintWords Go.Proofs.YtmjfenbbgfohlaaW.PrintLast Go.Proofs.YtmjfenbbgfohlaaW.PrintMore Go.Proofs.Ytmjfenbbgfohlaa.PA Bit
theorem SignAgainP : trunnionlaw10_SignAgain.Pure := by
  intro w a b c hw0 ha0 hb0 hc0
  obtain ⟨ha1, ha2⟩ := wf_u64 ha0
  obtain ⟨hb1, hb2⟩ := wf_u64 hb0
  obtain ⟨hc1, hc2⟩ := wf_u64 hc0
  obtain ⟨a, rfl⟩ := Int.eq_ofNat_of_zero_le ha1
  obtain ⟨b, rfl⟩ := Int.eq_ofNat_of_zero_le hb1
  obtain ⟨c, rfl⟩ := Int.eq_ofNat_of_zero_le hc1
  have ha : a < 18446744073709551616 := by omega
  have hb : b < 18446744073709551616 := by omega
  have hc : c < 18446744073709551616 := by omega
  unfold trunnionlaw10_SignAgain.f
  rw [awake10, Option.bind_some, if_pos rfl]
  by_cases hw : w = 32 ∨ w = 64
  · have hm := magN_lt w hw a
    have h1 := mkN_lt w hw (magN w a) (sgB w b) hm
    have h2 := mkN_lt w hw (magN w a) (!sgB w a) hm
    rw [copyS w hw a b ha hb, Option.bind_some, copyS w hw _ c h1 hc, Option.bind_some, mag_mk w hw _ _ hm, copyS w hw a c ha hc, Option.bind_some, if_pos rfl, negS w hw a ha, Option.bind_some, absS w hw _ h2, Option.bind_some,
      mag_mk w hw _ _ hm, absS w hw a ha, Option.bind_some, if_pos rfl, copyS w hw a a ha ha, Option.bind_some]
    rw [Option.bind_some, negS w hw _ h2, Option.bind_some, mag_mk w hw _ _ hm, sg_mk w hw _ _ hm, Bool.not_not]
    simp
  · have hs : sign_bit.f w = some 0 := by unfold sign_bit.f; rw [if_neg (by omega), if_neg (by omega)]
    have h0 : ∀ x : Nat, x < 18446744073709551616 → Go.bits .and .u64 (x : Int) 0 = 0 := by
      intro x hx
      rw [show (0 : Int) = ((0 : Nat) : Int) from rfl, u64_and_nat x 0 hx (by decide)]; simp
    have hcut : ∀ x : Int, shape_Cut.f w x = some 0 := by intro x; unfold shape_Cut.f; rw [if_neg (by omega), if_neg (by omega)]
    have h1 : ∀ x : Int, sign_Abs.f w x = some 0 := by intro x; unfold sign_Abs.f; rw [hcut, Option.bind_some, hs, Option.bind_some]; rfl
    have h2 : ∀ x : Int, sign_Neg.f w x = some 0 := by intro x; unfold sign_Neg.f; rw [hcut, Option.bind_some, hs, Option.bind_some]; rfl
    have h3 : ∀ (x : Int) (y : Nat), y < 18446744073709551616 → sign_Copysign.f w x y = some 0 := by intro x y hy; unfold sign_Copysign.f; rw [h1, Option.bind_some, hs, Option.bind_some, h0 y hy]; rfl
    rw [h3 _ b hb, Option.bind_some, h3 _ c hc, Option.bind_some, h3 _ c hc, Option.bind_some, if_pos rfl, h2, Option.bind_some, h1, Option.bind_some, h1, Option.bind_some, if_pos rfl, h3 _ a ha, Option.bind_some]
    rw [Option.bind_some, h2, Option.bind_some]
    rfl
end Go.Proofs.Ytmjfenbbgfohlaa.Th
