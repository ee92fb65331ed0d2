/- What is proved: for all arguments the program's PairingOfProof returns what the reference's returns, shares no memory with its argument, changes none, and answers the same again (the law FnExactPairingOfProof as plain Lean); no condition. -/
import Derived.Test.YtgifhmjbmnopcaaPx24
import Derived.Test.YtgifhmjbmnopcaaQPoP
import Derived.Test.YtgifhmjbmnopcaaQInt
import Derived.Test.YtgifhmjbmnopcaaQMark
namespace Go.Proofs.Ytgifhmjbmnopcaa.Pure
open Go.RowKit Go.Proofs.Ytgifhmjbmnopcaa.Px Go.Proofs.Ytgifhmjbmnopcaa.Giv Go.Proofs.YtgifhmjbmnopcaaW.PrintWords Go.Proofs.YtgifhmjbmnopcaaW.PrintLast Go.Proofs.Ytgifhmjbmnopcaa.Q
set_option linter.unusedVariables false
set_option linter.unusedSimpArgs false
theorem FnExactPairingOfProof : laws_FnExactPairingOfProof.Pure := by
  intro l0 l1 hy0 hy1 hy2 hy3 hy4 hy5
  by_cases hbig0 : (l0.length : Int) > 1048576
  · exact ⟨0, by simp only [laws_FnExactPairingOfProof.f, hbig0, if_true, if_false]⟩
  by_cases hbig1 : (l1.length : Int) > 1048576
  · exact ⟨0, by simp only [laws_FnExactPairingOfProof.f, hbig0, hbig1, if_true, if_false]⟩
  obtain ⟨K, r1, r2, hlenr1, hA⟩ := PairingOfProof_agree l0 l1 (by omega) (by omega)
  obtain ⟨M, hM⟩ : ∃ M, M = K + l0.length + l1.length + r1.length + 1 := ⟨_, rfl⟩
  have hS : ∀ j, spec_PairingOfProof.f (M + j) l0 l1 = some (r1, r2) := fun j => (hA (M + j) (by omega)).1
  have hI : ∀ j, impl_PairingOfProof.f (M + j) l0 l1 = some (r1, r2) := fun j => (hA (M + j) (by omega)).2
  have htol0 : ∀ j, laws_toIntS.f (M + j) l0 = some l0 := fun j => toIntS_f l0 (by omega) _ (by omega)
  have htol1 : ∀ j, laws_toIntS.f (M + j) l1 = some l1 := fun j => toIntS_f l1 (by omega) _ (by omega)
  have hel0 : ∀ j, laws_eqIntS.f (M + j) l0 l0 = some true := fun j => eqIntS_f l0 (by omega) _ (by omega)
  have hml0 : ∀ j, laws_markIntS.f (M + j) l0 1 = some ((l0.length : Int) + 1, marks l0.length) := fun j => markIntS_f l0 (by omega) _ (by omega)
  have hhl0 : ∀ j, laws_heldIntS.f (M + j) (marks l0.length) 1 = some ((l0.length : Int) + 1) := fun j => heldIntS_f l0.length (by omega) _ (by omega)
  have hnl0 : ¬ ((l0.length : Int) + 1 < 0) := by omega
  have hel1 : ∀ j, laws_eqIntS.f (M + j) l1 l1 = some true := fun j => eqIntS_f l1 (by omega) _ (by omega)
  have hml1 : ∀ j, laws_markIntS.f (M + j) l1 1 = some ((l1.length : Int) + 1, marks l1.length) := fun j => markIntS_f l1 (by omega) _ (by omega)
  have hhl1 : ∀ j, laws_heldIntS.f (M + j) (marks l1.length) 1 = some ((l1.length : Int) + 1) := fun j => heldIntS_f l1.length (by omega) _ (by omega)
  have hnl1 : ¬ ((l1.length : Int) + 1 < 0) := by omega
  have her1 : ∀ j, laws_eqIntS.f (M + j) r1 r1 = some true := fun j => eqIntS_f r1 (by omega) _ (by omega)
  have hmr1 : ∀ j, laws_markIntS.f (M + j) r1 1 = some ((r1.length : Int) + 1, marks r1.length) := fun j => markIntS_f r1 (by omega) _ (by omega)
  have hhr1 : ∀ j, laws_heldIntS.f (M + j) (marks r1.length) 1 = some ((r1.length : Int) + 1) := fun j => heldIntS_f r1.length (by omega) _ (by omega)
  have hnr1 : ¬ ((r1.length : Int) + 1 < 0) := by omega
  have hfl1 : ∀ j, laws_markIntS.f (M + j) l1 ((l0.length : Int) + 1) = some ((l1.length : Int) + ((l0.length + 1 : Nat) : Int), marksF (l0.length + 1) l1.length) := fun j => by have h_ := markIntS_from (l0.length + 1) l1 (by omega) (by omega) (M + j) (by omega); rwa [show ((l0.length + 1 : Nat) : Int) = (l0.length : Int) + 1 from by omega] at h_ ⊢
  have hgl1 : ¬ ((l1.length : Int) + ((l0.length + 1 : Nat) : Int) < 0) := by omega
  clear hA hM
  refine ⟨M + 4, ?_⟩
  simp only [laws_FnExactPairingOfProof.f, laws_FnExactPairingOfProof.j0, laws_FnExactPairingOfProof.j1, laws_FnExactPairingOfProof.j2, hbig0, hbig1, hS, hI, htol0, htol1, hel0, hml0, hhl0, hnl0, hel1, hml1, hhl1, hnl1, her1, hmr1, hhr1, hnr1, hfl1, hgl1, Option.bind_some, if_true, if_false, bne_self_eq_false, Bool.false_eq_true]
end Go.Proofs.Ytgifhmjbmnopcaa.Pure
