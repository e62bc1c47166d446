/- The statement SpellLong, as its row asks for it. -/
import Derived.Test.YtmfenegkeiipnaaDoorSpT
import Derived.Test.YtmfenegkeiipnaaDoorSpW
namespace Go.Proofs.YtmfenegkeiipnaaDoor
open Go.RowKit

theorem law_SpellLong (w : World) (hL : Laid w) (o : Opp) (A : Option Addr) (n c : Nat) (hk : InR o.k) (ho : o.Ok) (hD : Sl w A n c (by8 (nat8 o.da))) :
    Calls Tryd.prog 5 #[.agg (opV o A n c)] w fun e w' => e = .returned (.bool true) ∧ Ext w w' :=
  walk_SpellLong w hL o A n c hk ho hD
end Go.Proofs.YtmfenegkeiipnaaDoor
