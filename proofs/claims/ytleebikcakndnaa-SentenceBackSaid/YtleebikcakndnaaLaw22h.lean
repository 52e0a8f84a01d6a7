/- The law SentenceBack, walked: whole. -/
import Derived.Test.YtleebikcakndnaaLaw22f
import Derived.Test.YtleebikcakndnaaLaw22g
namespace Go.Proofs.Ytleebikcakndnaa
set_option linter.unusedVariables false
open Go.RowKit

theorem sentenceBack_walk (t y : ByteArray) (fs : List ByteArray) (A : Option Addr) (c : Nat) (u : ByteArray) (w : World) (hn : fs.length ≤ maxLen) (ht : t.size ≤ maxLen) (hy : y.size ≤ maxLen) (hs : Strs w w.heap.size A fs) (hfz : ∀ f ∈ fs, f.size ≤ maxLen) (hu : u.size ≤ maxLen) :
    Calls Try.prog 5 #[.agg #[.string t, .string y, .slice A fs.length c], .string u] w fun e w' => e = .returned (.bool true) ∧ Below w.heap.size w w' := by
  cases hfew : fewB t y fs with
  | false => exact sentenceBack_few t y fs A c u w hn ht hy hs hfz hfew
  | true =>
    by_cases h : u.size ≤ 500
    · by_cases hE : (putS t y fs).2 = 0
      · by_cases hg : (takeS u).2.2 = 0
        · exact sentenceBack_ok_ok t y fs A c u w hn ht hy hs hfz hfew h hE hg
        · exact sentenceBack_ok_err t y fs A c u w hn ht hy hs hfz hfew h hE hg
      · by_cases hg : (takeS u).2.2 = 0
        · exact sentenceBack_err_ok t y fs A c u w hn ht hy hs hfz hfew h hE hg
        · exact sentenceBack_err_err t y fs A c u w hn ht hy hs hfz hfew h hE hg
    · exact sentenceBack_long t y fs A c u w hn ht hy hs hfz hfew hu (by omega)

end Go.Proofs.Ytleebikcakndnaa
