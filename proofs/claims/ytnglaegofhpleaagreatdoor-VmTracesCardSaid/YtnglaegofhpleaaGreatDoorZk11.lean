/- What the claim needs, part 11. No conditions. -/
import Derived.Test.YtnglaegofhpleaaGreatDoorZk10
set_option maxRecDepth 100000
set_option maxHeartbeats 64000000
namespace Go.Proofs.YtnglaegofhpleaaGreatDoor
open Go.ChangeShapes Go.RowKit
theorem runsLaw18(pa ia aa ra wa:Option Addr)(pc ic ac rc wac:Nat)(c:Cd)(A:List Vl)(F:Ft){W:World}(hr:RunIn W pa ia aa ra wa pc ic ac rc wac c A F)(sa:Option Addr)(sc:Nat)(M:List Pr)(hM:CellsAt W (.slice sa M.length sc) M.length (prLs M))(hl:M.length≤2932031007402)(hn:∀x∈M,PrN x)(hLB:LaidB W):
  Calls Tryz.prog 3 #[.agg #[.slice pa c.p.length pc,.int .i64 c.sl,.slice ia c.l.length ic,.slice aa A.length ac,.bool F.all,.slice ra F.rd.length rc,.slice wa F.wr.length wac],.slice sa M.length sc] W fun e w'=>e=.returned (.bool true)∧Below W.heap.size W w':=
 runsWalk18 pa ia aa sa ra wa pc ic ac sc rc wac c A M F (vargs_of hr hM) (vlim_of hr hl hn) hLB
theorem tracesLaw18(pa ia aa ra wa:Option Addr)(pc ic ac rc wac:Nat)(c:Cd)(A:List Vl)(F:Ft){W:World}(hr:RunIn W pa ia aa ra wa pc ic ac rc wac c A F)(sa:Option Addr)(sc:Nat)(M:List Pr)(hM:CellsAt W (.slice sa M.length sc) M.length (prLs M))(hl:M.length≤2932031007402)(hn:∀x∈M,PrN x)(most:Int)(_wm:(Lit.int .i64 most).wf=true)(hLB:LaidB W):
  Calls Tryz.prog 4 #[.agg #[.slice pa c.p.length pc,.int .i64 c.sl,.slice ia c.l.length ic,.slice aa A.length ac,.bool F.all,.slice ra F.rd.length rc,.slice wa F.wr.length wac],.slice sa M.length sc,.int .i64 most] W fun e w'=>e=.returned (.bool true)∧Below W.heap.size W w':=
 tracesWalk18 pa ia aa sa ra wa pc ic ac sc rc wac c A M F most (vargs_of hr hM) (vlim_of hr hl hn) hLB
end Go.Proofs.YtnglaegofhpleaaGreatDoor
