-- Own text.
import Derived.Test.YtlbleemoiabmdaaLFnTeaching
namespace Go.Proofs.Ytlbleemoiabmdaa.Pure
open Go Go.RowKit Go.Proofs.Ytlbleemoiabmdaa.Base Go.Proofs.Ytlbleemoiabmdaa.PFnTeaching Go.Proofs.YtlbleemoiabmdaaW.PrintWords Go.Proofs.YtlbleemoiabmdaaW.PrintLast
theorem FnTeaching : laws_FnTeaching.Pure := by
 intro l0 _ _ hb
 exact (LFnTeaching.law l0 hb).rounds
end Go.Proofs.Ytlbleemoiabmdaa.Pure
