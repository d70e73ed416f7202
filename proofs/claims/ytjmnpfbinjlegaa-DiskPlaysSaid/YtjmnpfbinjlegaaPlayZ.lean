/-
  The law DiskPlays: the walk, as the statement hands its arguments in. No statement is proved here; no condition.
-/
import Derived.Test.YtjmnpfbinjlegaaPlayS
import Derived.Test.YtjmnpfbinjlegaaActs
namespace Go.Proofs.Ytjmnpfbinjlegaa
open Go.RowKit Go.Maps

theorem plays_walk {w : World} (n : Int) (_ : (Lit.int .i64 n).wf = true) (size : Int) (_ : (Lit.int .i64 size).wf = true) (aa : Option Addr) (la ca : Nat) (l : List ActV) (h : ActsIn w aa la l) :
    Calls Try.prog 5 #[.int .i64 n, .int .i64 size, .slice aa la ca] w fun e w' => e = .returned (.bool true) ∧ Mod No w w' :=
  plays_any aa la ca l n size w h

end Go.Proofs.Ytjmnpfbinjlegaa
