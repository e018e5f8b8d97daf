/-
  OptionsOk of the program answers as OptionsOk of the reference does, for all arguments: the plain law.
-/
import Derived.Test.YtdakegolcmcgmaaBase
import Derived.Test.YtdakegolcmcgmaaCAx1
namespace Go.Proofs.Ytdakegolcmcgmaa.Pure
open Go.RowKit Go.Proofs.Ytdakegolcmcgmaa.B Go.Proofs.Ytdakegolcmcgmaa.CA Go.Proofs.YtdakegolcmcgmaaW.PrintWords
theorem FnExactOptionsOk : laws_FnExactOptionsOk.Pure := by
  intro a b c d e f _ _ _ _
  have h1 : ∀ a b c, impl_within.f a b c = some (inR a b c) := inR_ite
  have h2 : ∀ a b c, spec_l01Between.f a b c = some (inR a b c) := inR_ite
  simp only [laws_FnExactOptionsOk.f, laws_toOptions.f, spec_OptionsOk.f, impl_OptionsOk.f, h1, h2, Option.bind_some]
  cases inR a 0 100 <;> cases inR b 0 1 <;> cases inR c 0 2 <;> cases inR d 0 255 <;> simp
end Go.Proofs.Ytdakegolcmcgmaa.Pure
