-- Own text.
import Derived.Test.YtkgekmpnbhomgaaLFnSides
namespace Go.Proofs.Ytkgekmpnbhomgaa.Pure
open Go Go.RowKit Go.Proofs.Ytkgekmpnbhomgaa.Base Go.Proofs.Ytkgekmpnbhomgaa.PFnSides Go.Proofs.YtkgekmpnbhomgaaW.PrintWords Go.Proofs.YtkgekmpnbhomgaaW.PrintLast
theorem FnSides : laws_FnSides.Pure := by
 intro l0 h1 h2 hb
 exact (LFnSides.law l0 hb).rounds
end Go.Proofs.Ytkgekmpnbhomgaa.Pure
