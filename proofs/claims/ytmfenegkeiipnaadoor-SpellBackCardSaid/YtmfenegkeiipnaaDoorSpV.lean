/- The statement SpellBack, as its row asks for it. -/
import Derived.Test.YtmfenegkeiipnaaDoorSpT
import Derived.Test.YtmfenegkeiipnaaDoorSpU
namespace Go.Proofs.YtmfenegkeiipnaaDoor
open Go.RowKit

theorem law_SpellBack (w : World) (hL : Laid w) (o : Opp) (A : Option Addr) (n c : Nat) (hk : InR o.k) (ho : o.Ok) (hD : Sl w A n c (by8 (nat8 o.da))) (p : Opp) (A2 : Option Addr) (n2 c2 : Nat) (hk2 : InR p.k) (ho2 : p.Ok) (hD2 : Sl w A2 n2 c2 (by8 (nat8 p.da))) (a : Int) (h1 : -9223372036854775808 ≤ a) (h2 : a ≤ 9223372036854775807) :
    Calls Tryd.prog 4 #[.agg (opV o A n c), .agg (opV p A2 n2 c2), .int .i64 a] w fun e w' => e = .returned (.bool true) ∧ Ext w w' :=
  walk_SpellBack w hL o A n c hk ho hD p A2 n2 c2 hk2 ho2 hD2 a ⟨h1, h2⟩
end Go.Proofs.YtmfenegkeiipnaaDoor
