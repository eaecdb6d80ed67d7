-- Own text.
import Derived.Test.YtkgekmpnbhomgaaLFnBits
namespace Go.Proofs.Ytkgekmpnbhomgaa.Pure
open Go Go.RowKit Go.Proofs.Ytkgekmpnbhomgaa.Base Go.Proofs.Ytkgekmpnbhomgaa.PFnBits Go.Proofs.YtkgekmpnbhomgaaW.PrintWords Go.Proofs.YtkgekmpnbhomgaaW.PrintLast
theorem FnBits : laws_FnBits.Pure := by
 intro l0 h1 h2 hb
 exact (LFnBits.law l0 hb).rounds
end Go.Proofs.Ytkgekmpnbhomgaa.Pure
