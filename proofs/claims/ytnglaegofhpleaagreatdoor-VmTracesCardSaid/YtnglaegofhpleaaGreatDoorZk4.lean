/- What the claim needs, part 4. No conditions. -/
import Derived.Test.YtnglaegofhpleaaGreatDoorZk3
set_option maxRecDepth 100000
set_option maxHeartbeats 64000000
namespace Go.Proofs.YtnglaegofhpleaaGreatDoor
open Go.RowKit Go.Proofs.Tryz
theorem ibinary_any(op:Int)(a b:Vl)(w:World)(h4:4≤op)(h19:op≤19)(h9:op≠9)(h18:op≠18)(ha1:-9223372036854775808≤a.n)(ha2:a.n≤9223372036854775807)(hb1:-9223372036854775808≤b.n)(hb2:b.n≤9223372036854775807)(hal:a.s.length≤1000000)(hbl:b.s.length≤1000000):
  Calls prog 138 #[.int .i64 op,.agg (vV a),.agg (vV b)] w fun E w'=>E=endR (binS op a b)∧Below w.heap.size w w':=by
 obtain⟨ak,an,az⟩:=a;obtain⟨bk,bn,bz⟩:=b;simp only at ha1 ha2 hb1 hb2 hal hbl;obtain⟨R,hR⟩:=ex_ (binS op ⟨ak,an,az⟩ ⟨bk,bn,bz⟩);rw[hR];simp only[vV];have HR:=h_ hR;clear hR
 have hz1:¬9223372036854775807<az.length+bz.length:=by omega
 have hb0:=((((Below.refl w.heap.size w).alloc (Nat.le_refl _) (.cells #[.int .i64 ak,.int .i64 an,.string (bs az)] 52)).alloc (by simp) (.cells #[.int .i64 bk,.int .i64 bn,.string (bs bz)] 52)).alloc (by simp;try omega) (.cells #[.int .i64 0,.int .i64 0,.string ⟨#[]⟩] 52));have h_HA:=(((Bx.new w #[.int .i64 ak,.int .i64 an,.string (bs az)] 52).alloc (.cells #[.int .i64 bk,.int .i64 bn,.string (bs bz)] 52)).alloc (.cells #[.int .i64 0,.int .i64 0,.string ⟨#[]⟩] 52));have h_HC:=((Bx.new (w.alloc (.cells #[.int .i64 ak,.int .i64 an,.string (bs az)] 52)) #[.int .i64 bk,.int .i64 bn,.string (bs bz)] 52).alloc (.cells #[.int .i64 0,.int .i64 0,.string ⟨#[]⟩] 52));rw[show (w.alloc (.cells #[.int .i64 ak,.int .i64 an,.string (bs az)] 52)).heap.size=w.heap.size+1 by simp]at h_HC;have h_HRB:=(Bx.new ((w.alloc (.cells #[.int .i64 ak,.int .i64 an,.string (bs az)] 52)).alloc (.cells #[.int .i64 bk,.int .i64 bn,.string (bs bz)] 52)) #[.int .i64 0,.int .i64 0,.string ⟨#[]⟩] 52);rw[show ((w.alloc (.cells #[.int .i64 ak,.int .i64 an,.string (bs az)] 52)).alloc (.cells #[.int .i64 bk,.int .i64 bn,.string (bs bz)] 52)).heap.size=w.heap.size+2 by simp]at h_HRB;have HB:=h_ hb0;have HA:=h_ h_HA;have HC:=h_ h_HC;have HRB:=h_ h_HRB;clear hb0 h_HA h_HC h_HRB;go_enter func138,ntmps138;go_upto_region 1 with (fail);generalize hW0:((w.alloc (.cells #[.int .i64 ak,.int .i64 an,.string (bs az)] 52)).alloc (.cells #[.int .i64 bk,.int .i64 bn,.string (bs bz)] 52)).alloc (.cells #[.int .i64 0,.int .i64 0,.string ⟨#[]⟩] 52)=v0 at HB HA HC HRB ⊢;clear hW0;obtain⟨a0,a1,a2⟩:=HA.out.d3 0 1 2;obtain⟨b0,b1,b2⟩:=HC.out.d3 0 1 2
 have hop:op=4∨op=5∨op=6∨op=7∨op=8∨op=16∨op=17∨op=19∨(10≤op∧op≤15):=by omega
 clear h4 h19 h9 h18;rcases hop with rfl|rfl|rfl|rfl|rfl|rfl|rfl|rfl|hcm
 ·skip
  by_cases hak:ak=1;rotate_left
  ·have HF:=h_ (show R=.ab 1009 from HR.out.symm.trans (by unfold binS;rw[if_pos (by decide),if_neg (fun h=>hak h.1)]))
   have tak:(ak==1)=false:=by rw[beq_eq_false_iff_ne];exact hak
   clear hak;go_wp2_with fail;refine(must_no _).mono ?_;rintro er w9 ⟨rfl,rfl⟩;go_wp2;exact⟨rfl,by rw[HF.out]<;>rfl,HB.out⟩
  have tak:(ak==1)=true:=by rw[hak];rfl
  by_cases hbk:bk=1;rotate_left
  ·have HF:=h_ (show R=.ab 1009 from HR.out.symm.trans (by unfold binS;rw[if_pos (by decide),if_neg (fun h=>hbk h.2)]))
   have tbk:(bk==1)=false:=by rw[beq_eq_false_iff_ne];exact hbk
   clear hbk hak;go_wp2_with fail;refine(must_no _).mono ?_;rintro er w9 ⟨rfl,rfl⟩;go_wp2;exact⟨rfl,by rw[HF.out]<;>rfl,HB.out⟩
  have tbk:(bk==1)=true:=by rw[hbk];rfl
  have HF:=h_ (show exS (ariS 4 an bn)=R from(show binS 4 ⟨ak,an,az⟩ ⟨bk,bn,bz⟩=_ by unfold binS;rw[if_pos (by decide),if_pos ⟨hak,hbk⟩]).symm.trans HR.out);clear hak hbk;go_wp2_with fail;refine(must_yes _).mono ?_;rintro er w1 ⟨rfl,rfl⟩;go_wp2_with fail;refine(arith_any 4 an bn _ ha1 ha2 hb1 hb2).mono ?_;rw[HF.out];rintro er w2 ⟨rfl,hb2⟩;clear a0 a1 a2;clear b0 b1 b2;have HA:=HA.out.k hb2;have HC:=HC.out.k hb2;have HRB:=HRB.out.k hb2;have HB:=bt HB hb2;clear hb2;rcases R with v|c|q
  ·simp only[endR,vV]
   go_wp2_with (refine HRB.out.wa (#[.int .i64 v.k,.int .i64 v.n,.string (bs v.s)]) ?_);intro W9 HRB p9;have HB:=pb HB p9;clear p9;go_wp2;exact HRB.out.r1 underlying52 ⟨rfl,HB.out⟩
  ·simp only[endR]
   go_wp2;exact⟨rfl,rfl,HB.out⟩
  ·simp only[endR]
   go_wp2;exact⟨rfl,rfl,HB.out⟩
 ·skip
  by_cases hak:ak=1;rotate_left
  ·have HF:=h_ (show R=.ab 1009 from HR.out.symm.trans (by unfold binS;rw[if_pos (by decide),if_neg (fun h=>hak h.1)]))
   have tak:(ak==1)=false:=by rw[beq_eq_false_iff_ne];exact hak
   clear hak;go_wp2_with fail;refine(must_no _).mono ?_;rintro er w9 ⟨rfl,rfl⟩;go_wp2;exact⟨rfl,by rw[HF.out]<;>rfl,HB.out⟩
  have tak:(ak==1)=true:=by rw[hak];rfl
  by_cases hbk:bk=1;rotate_left
  ·have HF:=h_ (show R=.ab 1009 from HR.out.symm.trans (by unfold binS;rw[if_pos (by decide),if_neg (fun h=>hbk h.2)]))
   have tbk:(bk==1)=false:=by rw[beq_eq_false_iff_ne];exact hbk
   clear hbk hak;go_wp2_with fail;refine(must_no _).mono ?_;rintro er w9 ⟨rfl,rfl⟩;go_wp2;exact⟨rfl,by rw[HF.out]<;>rfl,HB.out⟩
  have tbk:(bk==1)=true:=by rw[hbk];rfl
  have HF:=h_ (show exS (ariS 5 an bn)=R from(show binS 5 ⟨ak,an,az⟩ ⟨bk,bn,bz⟩=_ by unfold binS;rw[if_pos (by decide),if_pos ⟨hak,hbk⟩]).symm.trans HR.out);clear hak hbk;go_wp2_with fail;refine(must_yes _).mono ?_;rintro er w1 ⟨rfl,rfl⟩;go_wp2_with fail;refine(arith_any 5 an bn _ ha1 ha2 hb1 hb2).mono ?_;rw[HF.out];rintro er w2 ⟨rfl,hb2⟩;clear a0 a1 a2;clear b0 b1 b2;have HA:=HA.out.k hb2;have HC:=HC.out.k hb2;have HRB:=HRB.out.k hb2;have HB:=bt HB hb2;clear hb2;rcases R with v|c|q
  ·simp only[endR,vV]
   go_wp2_with (refine HRB.out.wa (#[.int .i64 v.k,.int .i64 v.n,.string (bs v.s)]) ?_);intro W9 HRB p9;have HB:=pb HB p9;clear p9;go_wp2;exact HRB.out.r1 underlying52 ⟨rfl,HB.out⟩
  ·simp only[endR]
   go_wp2;exact⟨rfl,rfl,HB.out⟩
  ·simp only[endR]
   go_wp2;exact⟨rfl,rfl,HB.out⟩
 ·skip
  by_cases hak:ak=1;rotate_left
  ·have HF:=h_ (show R=.ab 1009 from HR.out.symm.trans (by unfold binS;rw[if_pos (by decide),if_neg (fun h=>hak h.1)]))
   have tak:(ak==1)=false:=by rw[beq_eq_false_iff_ne];exact hak
   clear hak;go_wp2_with fail;refine(must_no _).mono ?_;rintro er w9 ⟨rfl,rfl⟩;go_wp2;exact⟨rfl,by rw[HF.out]<;>rfl,HB.out⟩
  have tak:(ak==1)=true:=by rw[hak];rfl
  by_cases hbk:bk=1;rotate_left
  ·have HF:=h_ (show R=.ab 1009 from HR.out.symm.trans (by unfold binS;rw[if_pos (by decide),if_neg (fun h=>hbk h.2)]))
   have tbk:(bk==1)=false:=by rw[beq_eq_false_iff_ne];exact hbk
   clear hbk hak;go_wp2_with fail;refine(must_no _).mono ?_;rintro er w9 ⟨rfl,rfl⟩;go_wp2;exact⟨rfl,by rw[HF.out]<;>rfl,HB.out⟩
  have tbk:(bk==1)=true:=by rw[hbk];rfl
  have HF:=h_ (show exS (ariS 6 an bn)=R from(show binS 6 ⟨ak,an,az⟩ ⟨bk,bn,bz⟩=_ by unfold binS;rw[if_pos (by decide),if_pos ⟨hak,hbk⟩]).symm.trans HR.out);clear hak hbk;go_wp2_with fail;refine(must_yes _).mono ?_;rintro er w1 ⟨rfl,rfl⟩;go_wp2_with fail;refine(arith_any 6 an bn _ ha1 ha2 hb1 hb2).mono ?_;rw[HF.out];rintro er w2 ⟨rfl,hb2⟩;clear a0 a1 a2;clear b0 b1 b2;have HA:=HA.out.k hb2;have HC:=HC.out.k hb2;have HRB:=HRB.out.k hb2;have HB:=bt HB hb2;clear hb2;rcases R with v|c|q
  ·simp only[endR,vV]
   go_wp2_with (refine HRB.out.wa (#[.int .i64 v.k,.int .i64 v.n,.string (bs v.s)]) ?_);intro W9 HRB p9;have HB:=pb HB p9;clear p9;go_wp2;exact HRB.out.r1 underlying52 ⟨rfl,HB.out⟩
  ·simp only[endR]
   go_wp2;exact⟨rfl,rfl,HB.out⟩
  ·simp only[endR]
   go_wp2;exact⟨rfl,rfl,HB.out⟩
 ·skip
  by_cases hak:ak=1;rotate_left
  ·have HF:=h_ (show R=.ab 1009 from HR.out.symm.trans (by unfold binS;rw[if_pos (by decide),if_neg (fun h=>hak h.1)]))
   have tak:(ak==1)=false:=by rw[beq_eq_false_iff_ne];exact hak
   clear hak;go_wp2_with fail;refine(must_no _).mono ?_;rintro er w9 ⟨rfl,rfl⟩;go_wp2;exact⟨rfl,by rw[HF.out]<;>rfl,HB.out⟩
  have tak:(ak==1)=true:=by rw[hak];rfl
  by_cases hbk:bk=1;rotate_left
  ·have HF:=h_ (show R=.ab 1009 from HR.out.symm.trans (by unfold binS;rw[if_pos (by decide),if_neg (fun h=>hbk h.2)]))
   have tbk:(bk==1)=false:=by rw[beq_eq_false_iff_ne];exact hbk
   clear hbk hak;go_wp2_with fail;refine(must_no _).mono ?_;rintro er w9 ⟨rfl,rfl⟩;go_wp2;exact⟨rfl,by rw[HF.out]<;>rfl,HB.out⟩
  have tbk:(bk==1)=true:=by rw[hbk];rfl
  have HF:=h_ (show exS (ariS 7 an bn)=R from(show binS 7 ⟨ak,an,az⟩ ⟨bk,bn,bz⟩=_ by unfold binS;rw[if_pos (by decide),if_pos ⟨hak,hbk⟩]).symm.trans HR.out);clear hak hbk;go_wp2_with fail;refine(must_yes _).mono ?_;rintro er w1 ⟨rfl,rfl⟩;go_wp2_with fail;refine(arith_any 7 an bn _ ha1 ha2 hb1 hb2).mono ?_;rw[HF.out];rintro er w2 ⟨rfl,hb2⟩;clear a0 a1 a2;clear b0 b1 b2;have HA:=HA.out.k hb2;have HC:=HC.out.k hb2;have HRB:=HRB.out.k hb2;have HB:=bt HB hb2;clear hb2;rcases R with v|c|q
  ·simp only[endR,vV]
   go_wp2_with (refine HRB.out.wa (#[.int .i64 v.k,.int .i64 v.n,.string (bs v.s)]) ?_);intro W9 HRB p9;have HB:=pb HB p9;clear p9;go_wp2;exact HRB.out.r1 underlying52 ⟨rfl,HB.out⟩
  ·simp only[endR]
   go_wp2;exact⟨rfl,rfl,HB.out⟩
  ·simp only[endR]
   go_wp2;exact⟨rfl,rfl,HB.out⟩
 ·skip
  by_cases hak:ak=1;rotate_left
  ·have HF:=h_ (show R=.ab 1009 from HR.out.symm.trans (by unfold binS;rw[if_pos (by decide),if_neg (fun h=>hak h.1)]))
   have tak:(ak==1)=false:=by rw[beq_eq_false_iff_ne];exact hak
   clear hak;go_wp2_with fail;refine(must_no _).mono ?_;rintro er w9 ⟨rfl,rfl⟩;go_wp2;exact⟨rfl,by rw[HF.out]<;>rfl,HB.out⟩
  have tak:(ak==1)=true:=by rw[hak];rfl
  by_cases hbk:bk=1;rotate_left
  ·have HF:=h_ (show R=.ab 1009 from HR.out.symm.trans (by unfold binS;rw[if_pos (by decide),if_neg (fun h=>hbk h.2)]))
   have tbk:(bk==1)=false:=by rw[beq_eq_false_iff_ne];exact hbk
   clear hbk hak;go_wp2_with fail;refine(must_no _).mono ?_;rintro er w9 ⟨rfl,rfl⟩;go_wp2;exact⟨rfl,by rw[HF.out]<;>rfl,HB.out⟩
  have tbk:(bk==1)=true:=by rw[hbk];rfl
  have HF:=h_ (show exS (ariS 8 an bn)=R from(show binS 8 ⟨ak,an,az⟩ ⟨bk,bn,bz⟩=_ by unfold binS;rw[if_pos (by decide),if_pos ⟨hak,hbk⟩]).symm.trans HR.out);clear hak hbk;go_wp2_with fail;refine(must_yes _).mono ?_;rintro er w1 ⟨rfl,rfl⟩;go_wp2_with fail;refine(arith_any 8 an bn _ ha1 ha2 hb1 hb2).mono ?_;rw[HF.out];rintro er w2 ⟨rfl,hb2⟩;clear a0 a1 a2;clear b0 b1 b2;have HA:=HA.out.k hb2;have HC:=HC.out.k hb2;have HRB:=HRB.out.k hb2;have HB:=bt HB hb2;clear hb2;rcases R with v|c|q
  ·simp only[endR,vV]
   go_wp2_with (refine HRB.out.wa (#[.int .i64 v.k,.int .i64 v.n,.string (bs v.s)]) ?_);intro W9 HRB p9;have HB:=pb HB p9;clear p9;go_wp2;exact HRB.out.r1 underlying52 ⟨rfl,HB.out⟩
  ·simp only[endR]
   go_wp2;exact⟨rfl,rfl,HB.out⟩
  ·simp only[endR]
   go_wp2;exact⟨rfl,rfl,HB.out⟩
 ·skip
  by_cases hak:ak=3;rotate_left
  ·have HF:=h_ (show R=.ab 1009 from HR.out.symm.trans (by unfold binS;rw[if_neg (by decide),if_pos rfl,if_neg (fun h=>hak h.1)]))
   have tak:(ak==3)=false:=by rw[beq_eq_false_iff_ne];exact hak
   clear hak;go_wp2_with fail;refine(must_no _).mono ?_;rintro er w9 ⟨rfl,rfl⟩;go_wp2;exact⟨rfl,by rw[HF.out]<;>rfl,HB.out⟩
  have tak:(ak==3)=true:=by rw[hak];rfl
  by_cases hbk:bk=3;rotate_left
  ·have HF:=h_ (show R=.ab 1009 from HR.out.symm.trans (by unfold binS;rw[if_neg (by decide),if_pos rfl,if_neg (fun h=>hbk h.2)]))
   have tbk:(bk==3)=false:=by rw[beq_eq_false_iff_ne];exact hbk
   clear hbk hak;go_wp2_with fail;refine(must_no _).mono ?_;rintro er w9 ⟨rfl,rfl⟩;go_wp2;exact⟨rfl,by rw[HF.out]<;>rfl,HB.out⟩
  have tbk:(bk==3)=true:=by rw[hbk];rfl
  have HF:=h_ (show .ok (truV (decide (an=1) && decide (bn=1)))=R from(show binS 16 ⟨ak,an,az⟩ ⟨bk,bn,bz⟩=_ by unfold binS;rw[if_neg (by decide),if_pos rfl,if_pos ⟨hak,hbk⟩]).symm.trans HR.out);clear hak hbk;go_wp2_with fail;refine(must_yes _).mono ?_;rintro er w1 ⟨rfl,rfl⟩;by_cases hx:an=1
  ·have tx:(an==1)=true:=by rw[hx];rfl
   by_cases hy:bn=1
   ·have ty:(bn==1)=true:=by rw[hy];rfl
    have HG:=h_ (show R=.ok (truV true) by rw[←HF.out,decide_eq_true hx,decide_eq_true hy];rfl);clear hx hy;go_wp2_with fail;refine(itruth_any true _).mono ?_;rintro er w3 ⟨rfl,hb3⟩;clear a0 a1 a2;clear b0 b1 b2;have HA:=HA.out.k hb3;have HC:=HC.out.k hb3;have HRB:=HRB.out.k hb3;have HB:=bt HB hb3;clear hb3;simp only[endR,vV,truV,if_true];go_wp2_with (refine HRB.out.wa (#[.int .i64 3,.int .i64 1,.string (bs [])]) ?_);intro W9 HRB p9;have HB:=pb HB p9;clear p9;go_wp2;exact HRB.out.r1 underlying52 ⟨by rw[HG.out]<;>rfl,HB.out⟩
   ·have ty:(bn==1)=false:=by rw[beq_eq_false_iff_ne];exact hy
    have HG:=h_ (show R=.ok (truV false) by rw[←HF.out,decide_eq_true hx,decide_eq_false hy];rfl);clear hx hy;go_wp2_with fail;refine(itruth_any false _).mono ?_;rintro er w3 ⟨rfl,hb3⟩;clear a0 a1 a2;clear b0 b1 b2;have HA:=HA.out.k hb3;have HC:=HC.out.k hb3;have HRB:=HRB.out.k hb3;have HB:=bt HB hb3;clear hb3;simp only[endR,vV,truV,Bool.false_eq_true,if_false];go_wp2_with (refine HRB.out.wa (#[.int .i64 3,.int .i64 0,.string (bs [])]) ?_);intro W9 HRB p9;have HB:=pb HB p9;clear p9;go_wp2;exact HRB.out.r1 underlying52 ⟨by rw[HG.out]<;>rfl,HB.out⟩
  ·have tx:(an==1)=false:=by rw[beq_eq_false_iff_ne];exact hx
   by_cases hy:bn=1
   ·have ty:(bn==1)=true:=by rw[hy];rfl
    have HG:=h_ (show R=.ok (truV false) by rw[←HF.out,decide_eq_false hx,decide_eq_true hy];rfl);clear hx hy;go_wp2_with fail;refine(itruth_any false _).mono ?_;rintro er w3 ⟨rfl,hb3⟩;clear a0 a1 a2;clear b0 b1 b2;have HA:=HA.out.k hb3;have HC:=HC.out.k hb3;have HRB:=HRB.out.k hb3;have HB:=bt HB hb3;clear hb3;simp only[endR,vV,truV,Bool.false_eq_true,if_false];go_wp2_with (refine HRB.out.wa (#[.int .i64 3,.int .i64 0,.string (bs [])]) ?_);intro W9 HRB p9;have HB:=pb HB p9;clear p9;go_wp2;exact HRB.out.r1 underlying52 ⟨by rw[HG.out]<;>rfl,HB.out⟩
   ·have ty:(bn==1)=false:=by rw[beq_eq_false_iff_ne];exact hy
    have HG:=h_ (show R=.ok (truV false) by rw[←HF.out,decide_eq_false hx,decide_eq_false hy];rfl);clear hx hy;go_wp2_with fail;refine(itruth_any false _).mono ?_;rintro er w3 ⟨rfl,hb3⟩;clear a0 a1 a2;clear b0 b1 b2;have HA:=HA.out.k hb3;have HC:=HC.out.k hb3;have HRB:=HRB.out.k hb3;have HB:=bt HB hb3;clear hb3;simp only[endR,vV,truV,Bool.false_eq_true,if_false];go_wp2_with (refine HRB.out.wa (#[.int .i64 3,.int .i64 0,.string (bs [])]) ?_);intro W9 HRB p9;have HB:=pb HB p9;clear p9;go_wp2;exact HRB.out.r1 underlying52 ⟨by rw[HG.out]<;>rfl,HB.out⟩
 ·skip
  by_cases hak:ak=3;rotate_left
  ·have HF:=h_ (show R=.ab 1009 from HR.out.symm.trans (by unfold binS;rw[if_neg (by decide),if_neg (by decide),if_pos rfl,if_neg (fun h=>hak h.1)]))
   have tak:(ak==3)=false:=by rw[beq_eq_false_iff_ne];exact hak
   clear hak;go_wp2_with fail;refine(must_no _).mono ?_;rintro er w9 ⟨rfl,rfl⟩;go_wp2;exact⟨rfl,by rw[HF.out]<;>rfl,HB.out⟩
  have tak:(ak==3)=true:=by rw[hak];rfl
  by_cases hbk:bk=3;rotate_left
  ·have HF:=h_ (show R=.ab 1009 from HR.out.symm.trans (by unfold binS;rw[if_neg (by decide),if_neg (by decide),if_pos rfl,if_neg (fun h=>hbk h.2)]))
   have tbk:(bk==3)=false:=by rw[beq_eq_false_iff_ne];exact hbk
   clear hbk hak;go_wp2_with fail;refine(must_no _).mono ?_;rintro er w9 ⟨rfl,rfl⟩;go_wp2;exact⟨rfl,by rw[HF.out]<;>rfl,HB.out⟩
  have tbk:(bk==3)=true:=by rw[hbk];rfl
  have HF:=h_ (show .ok (truV (decide (an=1) || decide (bn=1)))=R from(show binS 17 ⟨ak,an,az⟩ ⟨bk,bn,bz⟩=_ by unfold binS;rw[if_neg (by decide),if_neg (by decide),if_pos rfl,if_pos ⟨hak,hbk⟩]).symm.trans HR.out);clear hak hbk;go_wp2_with fail;refine(must_yes _).mono ?_;rintro er w1 ⟨rfl,rfl⟩;by_cases hx:an=1
  ·have tx:(an==1)=true:=by rw[hx];rfl
   by_cases hy:bn=1
   ·have ty:(bn==1)=true:=by rw[hy];rfl
    have HG:=h_ (show R=.ok (truV true) by rw[←HF.out,decide_eq_true hx,decide_eq_true hy];rfl);clear hx hy;go_wp2_with fail;refine(itruth_any true _).mono ?_;rintro er w3 ⟨rfl,hb3⟩;clear a0 a1 a2;clear b0 b1 b2;have HA:=HA.out.k hb3;have HC:=HC.out.k hb3;have HRB:=HRB.out.k hb3;have HB:=bt HB hb3;clear hb3;simp only[endR,vV,truV,if_true];go_wp2_with (refine HRB.out.wa (#[.int .i64 3,.int .i64 1,.string (bs [])]) ?_);intro W9 HRB p9;have HB:=pb HB p9;clear p9;go_wp2;exact HRB.out.r1 underlying52 ⟨by rw[HG.out]<;>rfl,HB.out⟩
   ·have ty:(bn==1)=false:=by rw[beq_eq_false_iff_ne];exact hy
    have HG:=h_ (show R=.ok (truV true) by rw[←HF.out,decide_eq_true hx,decide_eq_false hy];rfl);clear hx hy;go_wp2_with fail;refine(itruth_any true _).mono ?_;rintro er w3 ⟨rfl,hb3⟩;clear a0 a1 a2;clear b0 b1 b2;have HA:=HA.out.k hb3;have HC:=HC.out.k hb3;have HRB:=HRB.out.k hb3;have HB:=bt HB hb3;clear hb3;simp only[endR,vV,truV,if_true];go_wp2_with (refine HRB.out.wa (#[.int .i64 3,.int .i64 1,.string (bs [])]) ?_);intro W9 HRB p9;have HB:=pb HB p9;clear p9;go_wp2;exact HRB.out.r1 underlying52 ⟨by rw[HG.out]<;>rfl,HB.out⟩
  ·have tx:(an==1)=false:=by rw[beq_eq_false_iff_ne];exact hx
   by_cases hy:bn=1
   ·have ty:(bn==1)=true:=by rw[hy];rfl
    have HG:=h_ (show R=.ok (truV true) by rw[←HF.out,decide_eq_false hx,decide_eq_true hy];rfl);clear hx hy;go_wp2_with fail;refine(itruth_any true _).mono ?_;rintro er w3 ⟨rfl,hb3⟩;clear a0 a1 a2;clear b0 b1 b2;have HA:=HA.out.k hb3;have HC:=HC.out.k hb3;have HRB:=HRB.out.k hb3;have HB:=bt HB hb3;clear hb3;simp only[endR,vV,truV,if_true];go_wp2_with (refine HRB.out.wa (#[.int .i64 3,.int .i64 1,.string (bs [])]) ?_);intro W9 HRB p9;have HB:=pb HB p9;clear p9;go_wp2;exact HRB.out.r1 underlying52 ⟨by rw[HG.out]<;>rfl,HB.out⟩
   ·have ty:(bn==1)=false:=by rw[beq_eq_false_iff_ne];exact hy
    have HG:=h_ (show R=.ok (truV false) by rw[←HF.out,decide_eq_false hx,decide_eq_false hy];rfl);clear hx hy;go_wp2_with fail;refine(itruth_any false _).mono ?_;rintro er w3 ⟨rfl,hb3⟩;clear a0 a1 a2;clear b0 b1 b2;have HA:=HA.out.k hb3;have HC:=HC.out.k hb3;have HRB:=HRB.out.k hb3;have HB:=bt HB hb3;clear hb3;simp only[endR,vV,truV,Bool.false_eq_true,if_false];go_wp2_with (refine HRB.out.wa (#[.int .i64 3,.int .i64 0,.string (bs [])]) ?_);intro W9 HRB p9;have HB:=pb HB p9;clear p9;go_wp2;exact HRB.out.r1 underlying52 ⟨by rw[HG.out]<;>rfl,HB.out⟩
 ·skip
  by_cases hak:ak=2;rotate_left
  ·have HF:=h_ (show R=.ab 1009 from HR.out.symm.trans (by unfold binS;rw[if_neg (by decide),if_neg (by decide),if_neg (by decide),if_pos rfl,if_neg (fun h=>hak h.1)]))
   have tak:(ak==2)=false:=by rw[beq_eq_false_iff_ne];exact hak
   clear hak;go_wp2_with fail;refine(must_no _).mono ?_;rintro er w9 ⟨rfl,rfl⟩;go_wp2;exact⟨rfl,by rw[HF.out]<;>rfl,HB.out⟩
  have tak:(ak==2)=true:=by rw[hak];rfl
  by_cases hbk:bk=2;rotate_left
  ·have HF:=h_ (show R=.ab 1009 from HR.out.symm.trans (by unfold binS;rw[if_neg (by decide),if_neg (by decide),if_neg (by decide),if_pos rfl,if_neg (fun h=>hbk h.2)]))
   have tbk:(bk==2)=false:=by rw[beq_eq_false_iff_ne];exact hbk
   clear hbk hak;go_wp2_with fail;refine(must_no _).mono ?_;rintro er w9 ⟨rfl,rfl⟩;go_wp2;exact⟨rfl,by rw[HF.out]<;>rfl,HB.out⟩
  have tbk:(bk==2)=true:=by rw[hbk];rfl
  have HF:=h_ (show txS (az++bz)=R from(show binS 19 ⟨ak,an,az⟩ ⟨bk,bn,bz⟩=_ by unfold binS;rw[if_neg (by decide),if_neg (by decide),if_neg (by decide),if_pos rfl,if_pos ⟨hak,hbk⟩]).symm.trans HR.out);clear hak hbk;go_wp2_with fail;refine(must_yes _).mono ?_;rintro er w1 ⟨rfl,rfl⟩;go_wp2_with fail;refine(itext_any (az++bz) (by rw[List.length_append];omega) _).mono ?_;rw[HF.out];rintro er w2 ⟨rfl,hb2⟩;clear a0 a1 a2;clear b0 b1 b2;have HA:=HA.out.k hb2;have HC:=HC.out.k hb2;have HRB:=HRB.out.k hb2;have HB:=bt HB hb2;clear hb2;rcases R with v|c|q
  ·simp only[endR,vV]
   go_wp2_with (refine HRB.out.wa (#[.int .i64 v.k,.int .i64 v.n,.string (bs v.s)]) ?_);intro W9 HRB p9;have HB:=pb HB p9;clear p9;go_wp2;exact HRB.out.r1 underlying52 ⟨rfl,HB.out⟩
  ·simp only[endR]
   go_wp2;exact⟨rfl,rfl,HB.out⟩
  ·simp only[endR]
   go_wp2;exact⟨rfl,rfl,HB.out⟩
 ·obtain⟨c1,c2⟩:=hcm
  have n4:(op==4)=false:=by rw[beq_eq_false_iff_ne];omega
  have n5:(op==5)=false:=by rw[beq_eq_false_iff_ne];omega
  have n6:(op==6)=false:=by rw[beq_eq_false_iff_ne];omega
  have n7:(op==7)=false:=by rw[beq_eq_false_iff_ne];omega
  have n8:(op==8)=false:=by rw[beq_eq_false_iff_ne];omega
  have n16:(op==16)=false:=by rw[beq_eq_false_iff_ne];omega
  have n17:(op==17)=false:=by rw[beq_eq_false_iff_ne];omega
  have n19:(op==19)=false:=by rw[beq_eq_false_iff_ne];omega
  have HF:=h_ (show cmpS op ⟨ak,an,az⟩ ⟨bk,bn,bz⟩=R from(show binS op ⟨ak,an,az⟩ ⟨bk,bn,bz⟩=_ by unfold binS;rw[if_neg (by omega),if_neg (by omega),if_neg (by omega),if_neg (by omega)]).symm.trans HR.out);go_wp2_with fail;refine(icompare_any op ⟨ak,an,az⟩ ⟨bk,bn,bz⟩ _ c1 c2).mono ?_;rw[HF.out];rintro er w2 ⟨rfl,hb2⟩;clear a0 a1 a2;clear b0 b1 b2;have HA:=HA.out.k hb2;have HC:=HC.out.k hb2;have HRB:=HRB.out.k hb2;have HB:=bt HB hb2;clear hb2;rcases R with v|c|q
  ·simp only[endR,vV]
   go_wp2_with (refine HRB.out.wa (#[.int .i64 v.k,.int .i64 v.n,.string (bs v.s)]) ?_);intro W9 HRB p9;have HB:=pb HB p9;clear p9;go_wp2;exact HRB.out.r1 underlying52 ⟨rfl,HB.out⟩
  ·simp only[endR]
   go_wp2;exact⟨rfl,rfl,HB.out⟩
  ·simp only[endR]
   go_wp2;exact⟨rfl,rfl,HB.out⟩
theorem Bx.c14{b:Nat}{u0 u1 u2 u3 u4 u5 u6 u7 u8 u9 u10 u11 u12 u13:Value}{T:TypeId}{W:World}(h:Bx b #[u0,u1,u2,u3,u4,u5,u6,u7,u8,u9,u10,u11,u12,u13] T W):W.cell? ⟨b,0,none⟩=some u0∧W.cell? ⟨b,1,none⟩=some u1∧W.cell? ⟨b,2,none⟩=some u2∧W.cell? ⟨b,3,none⟩=some u3∧W.cell? ⟨b,4,none⟩=some u4∧W.cell? ⟨b,5,none⟩=some u5∧W.cell? ⟨b,6,none⟩=some u6∧W.cell? ⟨b,7,none⟩=some u7∧W.cell? ⟨b,8,none⟩=some u8∧W.cell? ⟨b,9,none⟩=some u9∧W.cell? ⟨b,10,none⟩=some u10∧W.cell? ⟨b,11,none⟩=some u11∧W.cell? ⟨b,12,none⟩=some u12∧W.cell? ⟨b,13,none⟩=some u13:=⟨h.cell 0,h.cell 1,h.cell 2,h.cell 3,h.cell 4,h.cell 5,h.cell 6,h.cell 7,h.cell 8,h.cell 9,h.cell 10,h.cell 11,h.cell 12,h.cell 13⟩
theorem Cont_any(a:Option Addr)(cap:Nat)(M:List (List UInt8))(x:List UInt8)(w:World)(hl:M.length≤9000000000000)(hM:StrS w (.slice a M.length cap) M):
  Calls prog 96 #[.slice a M.length cap,.string (bs x)] w fun e w'=>e=.returned (.bool (M.contains x))∧w'=w:=by
 by_cases h0:M=[]
 ·subst h0
  exact Tryz.slices_Contains_string_empty a cap (bs x) w
 ·obtain⟨a0,c0,he,hcp,hc⟩:=hM
  cases he;obtain⟨b,off,rfl,hcell⟩:=hc h0;have e:(M.map bs).take M.length=M.map bs:=List.take_of_length_le (by simp)
  have h:=Tryz.slices_Contains_string b off M.length cap (M.map bs) (bs x) w (by simp) (by omega) (fun j hj=>by
   have hj':j<M.length:=by simpa using hj
   rw[hcell j hj'];unfold strV
   rw[List.getD_eq_getElem?_getD,List.getElem?_map,List.getElem?_eq_getElem hj'];rfl)
  rw[e]at h
  have e2:Lib.containsS (M.map bs) (bs x)=M.contains x:=by
   rw[Bool.eq_iff_iff,Lib.containsS_iff,List.contains_iff_mem,List.mem_map];exact⟨fun ⟨y,hy,he⟩=>bs_inj he ▸ hy,fun h=>⟨x,h,rfl⟩⟩
  rw[e2]at h;exact h
def fetS (al:Bool) (rd:List (List UInt8)) (M:List Pr) (k:List UInt8):Rs:=if keyB k=false then .ab 1004 else if al=false∧rd.contains k=false then .re k else .ok (getP M k)
def rdsR (R:Rs) (k:List UInt8):List (List UInt8):=match R with
 | .ok _=>[k]
 | _=>[]
theorem below_grown{B mb:Nat}{W0 w w':World}(h:Below B W0 w)(hg:w.grownBy w' (some mb))(hB:B≤mb)(hs:B≤w.heap.size):Below B W0 w':=
 ⟨hg.os.trans h.os,hg.tape.trans h.tape,hg.output.trans h.output,Nat.le_trans h.size hg.size,fun k hk=>(hg.block k (by omega) (fun e=>by cases e;omega)).trans (h.block k hk)⟩
theorem grown_below{w w':World}(h:Below w.heap.size w w')(row:Option Nat):w.grownBy w' row:=⟨h.os,h.tape,h.output,h.size,fun k hk _=>h.block k hk⟩
theorem Bx.kept{b:Nat}{cs:Array Value}{T:TypeId}{W W':World}{row:Option Nat}(h:Bx b cs T W)(hg:W.grownBy W' row)(hne:row≠some b):Bx b cs T W':=(hg.block b h.lt (fun e=>hne e.symm)).trans h
theorem own_st{B k n:Nat}{e T:TypeId}{v:Value}{xs:List Value}{w:World}{b:Nat}{cs:Array Value}(h:w.ownsRow B e k v n xs)(hb:Bx b cs T w)(hT:T≠e)(i:Nat)(u:Value):(w.setCell ⟨b,i,none⟩ u).ownsRow B e k v n xs:=by
 refine h.kept (grown_set w ⟨b,i,none⟩ u) ?_
 cases hv:v.ownBlock with
 | none=>exact .inl rfl
 | some g2 =>
  refine .inr (fun q=>?_)
  have hq:g2=b:=by simpa using q
  rcases own_form h with ⟨rfl,_⟩|⟨g,cap,rfl,_,_⟩
  ·simp[Value.ownBlock]at hv
  ·have hgg:g=g2:=by simpa[Value.ownBlock] using hv
   exact own_other h hb hT (hgg.trans hq)
theorem fin_sets3{w W:World}{mb b B k n:Nat}{cs:Array Value}{T1 T2 e:TypeId}{z0 z1 z2 v:Value}{xs:List Value}(hg:w.grownBy W (some mb))(hx:Bx mb cs T1 W)(hr:Bx b #[z0,z1,z2] T2 W)(hT:T2≠e)(hb:w.heap.size≤b)(hne:mb≠b)(ho:W.ownsRow B e k v n xs)(u0 u1 u2:Value):
  w.grownBy (((W.setCell ⟨b,0,none⟩ u0).setCell ⟨b,1,none⟩ u1).setCell ⟨b,2,none⟩ u2) (some mb)∧Bx mb cs T1 (((W.setCell ⟨b,0,none⟩ u0).setCell ⟨b,1,none⟩ u1).setCell ⟨b,2,none⟩ u2)∧(((W.setCell ⟨b,0,none⟩ u0).setCell ⟨b,1,none⟩ u1).setCell ⟨b,2,none⟩ u2).ownsRow B e k v n xs:=by
 have h1:=hr.set 0 u0;have h2:=h1.set 1 u1;refine⟨hg.andThen (((grown_set W ⟨b,0,none⟩ u0).trans (grown_set _ ⟨b,1,none⟩ u1)).trans (grown_set _ ⟨b,2,none⟩ u2)) (fun j hj=>.inl (by cases hj;exact hb)),((hx.other hne u0).other hne u1).other hne u2,?_⟩;exact own_st (own_st (own_st ho hr hT 0 u0) h1 hT 1 u1) h2 hT 2 u2
theorem own_sl{w:World}{base size n:Nat}{e:TypeId}{v:Value}{xs:List Value}(h:w.ownsRow base e size v n xs):∃a cap,v=.slice a n cap:=by
 rcases own_form h with ⟨rfl,rfl⟩|⟨g,cap,rfl,_⟩
 ·exact⟨none,0,rfl⟩
 ·exact⟨_,cap,rfl⟩
theorem with_nil(k:List UInt8):withK [] k=[k]:=rfl
theorem fetch_any(mb vm om:Nat)(sa ra wa:Option Addr)(sc rc wc:Nat)(M:List Pr)(al:Bool)(rd wr:List (List UInt8))(k:List UInt8)(hk:k.length≤9223372036854775807)(w W0:World)(hX:Bx mb #[.slice sa M.length sc,.bool al,.slice ra rd.length rc,.slice wa wr.length wc,.map (some vm),.map (some om),.int .i64 0,.int .i64 0,.slice none 0 0,.slice none 0 0,.slice none 0 0,.slice none 0 0,.string ⟨#[]⟩,.int .i64 0] 143 w)(hO:Mp om [] w)(hmb:W0.heap.size≤mb)(hW0:Below W0.heap.size W0 w)(hM:CellsAt W0 (.slice sa M.length sc) M.length (prLs M))(hR:StrS W0 (.slice ra rd.length rc) rd)(hl1:M.length≤9000000000000)(hl2:rd.length≤9000000000000):
  Calls prog 161 #[.pointer (some ⟨mb,0,none⟩),.string (bs k)] w fun e w'=>e=endR (fetS al rd M k)∧w.grownBy w' (some mb)∧∃rv,Bx mb #[.slice sa M.length sc,.bool al,.slice ra rd.length rc,.slice wa wr.length wc,.map (some vm),.map (some om),.int .i64 0,.int .i64 0,.slice none 0 0,rv,.slice none 0 0,.slice none 0 0,.string ⟨#[]⟩,.int .i64 0] 143 w'∧w'.ownsRow w.heap.size 9 1 rv (rdsR (fetS al rd M k) k).length ((rdsR (fetS al rd M k) k).map strV):=by
 obtain⟨R,hR_⟩:=ex_ (fetS al rd M k);rw[hR_];obtain⟨kb,hkb⟩:=ex_ (keyB k);obtain⟨cb,hcb⟩:=ex_ (rd.contains k);have hmw:=hX.lt;have hsz:=hW0.size;have HFR:=h_ hR_;have HKB:=h_ hkb;have HCB:=h_ hcb;have HM:=h_ hM;have HRS:=h_ hR;clear hR_ hkb hcb hM hR;have hal0:=(Below.refl w.heap.size w).alloc (Nat.le_refl _) (.cells #[.int .i64 0,.int .i64 0,.string ⟨#[]⟩] 52);have HG:=h_ (grown_below hal0 (some mb));have HRB:=h_ (Bx.new w #[.int .i64 0,.int .i64 0,.string ⟨#[]⟩] 52);have HX:=h_ (hX.call hal0);have HO:=h_ (hO.call hal0);have HW:=h_ (btrans hW0 hsz hal0);clear hX hO hW0 hal0;go_enter func161,ntmps161;go_upto_region 1 with (fail);generalize hW:w.alloc (.cells #[.int .i64 0,.int .i64 0,.string ⟨#[]⟩] 52)=v0 at HG HRB HX HO HW ⊢;clear hW;go_wp2_with fail;refine(KValid_any k hk _).mono ?_;rw[HKB.out];rintro er w1 ⟨rfl,hb1⟩;have HG:=h_ (HG.out.trans (grown_below hb1 _));have HRB:=HRB.out.k hb1;have HX:=HX.out.k hb1;have HO:=HO.out.k hb1;have HW:=h_ (btrans HW.out HW.out.size hb1);clear hb1
 cases kb with
 | false =>
  have HF:=h_ (show R=.ab 1004 from HFR.out.symm.trans (if_pos HKB.out));go_wp2_with fail;refine(iabort_any 1004 _).mono ?_;rintro er w2 ⟨rfl,rfl⟩;go_wp2;exact⟨rfl,by rw[HF.out]<;>rfl,HG.out,⟨_,HX.out,by rw[HF.out];exact own_nil _ _ _ _⟩⟩
 | true =>
  have HFR:=h_ (show (if al=false∧rd.contains k=false then Rs.re k else .ok (getP M k))=R from(show fetS al rd M k=_ from if_neg (by rw[HKB.out];simp)).symm.trans HFR.out);have hlk:(Instr.lookup 141 (.map (some om)) (.string (bs k)) true).run prog w1=.ok (.tuple #[.agg #[.int .i64 0,.int .i64 0,.string ⟨#[]⟩],.bool false]) w1:=run_look HO.out k;obtain⟨m0,m1,m2,m3,m4,m5,m6,m7,m8,m9,m10,m11,m12,m13⟩:=HX.out.c14;have hb2:=(Below.refl w1.heap.size w1).alloc (Nat.le_refl _) (.cells #[.int .i64 0,.int .i64 0,.string ⟨#[]⟩] 52);go_upto_region 4 with (fail);clear m0 m1 m2 m3 m4 m5 m6 m7 m8 m9 m10 m11 m12 m13;clear hlk;have HG:=h_ (HG.out.trans (grown_below hb2 _));have HRB:=HRB.out.k hb2;have HX:=HX.out.k hb2;have HO:=HO.out.k hb2;have HW:=h_ (btrans HW.out HW.out.size hb2);clear hb2;generalize hW:w1.alloc (.cells #[.int .i64 0,.int .i64 0,.string ⟨#[]⟩] 52)=v1 at HG HRB HX HO HW ⊢;clear hW;obtain⟨m0,m1,m2,m3,m4,m5,m6,m7,m8,m9,m10,m11,m12,m13⟩:=HX.out.c14
  cases al with
  | true =>
   have HF:=h_ (show R=.ok (getP M k) from HFR.out.symm.trans (if_neg (by simp)));clear HFR;go_wp2_with fail;refine(iwith_any v1.heap.size (.slice none 0 0) [] k _ List.Pairwise.nil (own_nil _ _ _ _) (Nat.le_refl _) (by simp)).mono ?_;rintro er w3 ⟨rv,rfl,hown,hgr,-⟩;rw[with_nil]at hown;simp only[List.length_singleton]at hown;obtain⟨rq,rqc,rfl⟩:=own_sl hown;clear m0 m1 m2 m3 m4 m5 m6 m7 m8 m9 m10 m11 m12 m13;have hb3:Below v1.heap.size v1 w3:=⟨hgr.os,hgr.tape,hgr.output,hgr.size,fun c hc=>hgr.block c hc (by simp[Value.ownBlock])⟩;have hmv:=HX.out.lt;have hwv:=HG.out.size;clear hgr;have HG:=h_ (HG.out.trans (grown_below hb3 _));have HRB:=HRB.out.k hb3;have HX:=HX.out.k hb3;have HO:=HO.out.k hb3;have HW:=h_ (btrans HW.out HW.out.size hb3);clear hb3;obtain⟨m0,m1,m2,m3,m4,m5,m6,m7,m8,m9,m10,m11,m12,m13⟩:=HX.out.c14;have z9:=HX.out.free 9;have HX2:=h_ (show Bx mb #[.slice sa M.length sc,.bool true,.slice ra rd.length rc,.slice wa wr.length wc,.map (some vm),.map (some om),.int .i64 0,.int .i64 0,.slice none 0 0,.slice rq 1 rqc,.slice none 0 0,.slice none 0 0,.string ⟨#[]⟩,.int .i64 0] 143 (w3.setCell ⟨mb,9,none⟩ (.slice rq 1 rqc)) from by have:=HX.out.set 9 (.slice rq 1 rqc);simpa using this);have HG2:=h_ (HG.out.trans (grown_set w3 ⟨mb,9,none⟩ (.slice rq 1 rqc)));have HRB2:=h_ (HRB.out.other (c:=mb) (i:=9) (by omega) (.slice rq 1 rqc));have HW2:=h_ (below_set HW.out mb 9 hmb (.slice rq 1 rqc));have HOW:=h_ (own_set hown mb 9 hmv (.slice rq 1 rqc));clear hown;go_upto_region 9 with (fail);clear z9 HX HG HRB HW HO;clear m0 m1 m2 m3 m4 m5 m6 m7 m8 m9 m10 m11 m12 m13;generalize hWE:w3.setCell ⟨mb,9,none⟩ (.slice rq 1 rqc)=v3 at HX2 HG2 HRB2 HW2 HOW ⊢;clear hWE;have HX:=HX2;have HG:=HG2;have HRB:=HRB2;have HW:=HW2;clear HX2 HG2 HRB2 HW2;obtain⟨m0,-⟩:=HX.out.c14;obtain⟨gv,hgv⟩:=ex_ (getP M k);have HGV:=h_ hgv;rw[hgv]at HF;clear hgv;go_wp2_with fail;refine(SGet_any sa sc M k _ hl1 (HM.out.below HW.out)).mono ?_;rw[HGV.out];rintro er w4 ⟨rfl,hb4⟩;simp only[vV];clear m0;have HG:=h_ (HG.out.trans (grown_below hb4 _));have HRB:=HRB.out.k hb4;have HX:=HX.out.k hb4;have HOW:=h_ (own_below HOW.out hb4);clear hb4;obtain⟨r0,r1,r2⟩:=HRB.out.d3 0 1 2;have f0:=HRB.out.free 0;have f1:=HRB.out.free 1;have f2:=HRB.out.free 2;have HK:=h_ (HRB.out.sets3 (.int .i64 gv.k) (.int .i64 gv.n) (.string (bs gv.s)));have HFIN:=h_ (fin_sets3 HG.out HX.out HRB.out (by decide) (Nat.le_refl _) (by omega) HOW.out (.int .i64 gv.k) (.int .i64 gv.n) (.string (bs gv.s)));go_wp2;have k0:=HK.out.cell 0;have k1:=HK.out.cell 1;have k2:=HK.out.cell 2;simp only[List.getElem?_toArray,List.getElem?_cons_zero,List.getElem?_cons_succ]at k0 k1 k2;refine bodyPost_ret (v:=.agg #[.int .i64 gv.k,.int .i64 gv.n,.string (bs gv.s)]) (by simp[results,results161,go_sem,k0,k1,k2]<;>rfl) rfl ⟨by rw[HF.out]<;>rfl,HFIN.out.1,_,HFIN.out.2.1,?_⟩;rw[HF.out];exact own_mono HFIN.out.2.2 hwv
  | false =>
   go_wp2_with fail;refine(Cont_any ra rc rd k _ hl2 (HRS.out.below HW.out)).mono ?_;rw[HCB.out];rintro er w2 ⟨rfl,rfl⟩
   cases cb with
   | true =>
    have HF:=h_ (show R=.ok (getP M k) from HFR.out.symm.trans (if_neg (by rw[HCB.out];simp)));clear HFR;go_wp2_with fail;refine(iwith_any w2.heap.size (.slice none 0 0) [] k _ List.Pairwise.nil (own_nil _ _ _ _) (Nat.le_refl _) (by simp)).mono ?_;rintro er w3 ⟨rv,rfl,hown,hgr,-⟩;rw[with_nil]at hown;simp only[List.length_singleton]at hown;obtain⟨rq,rqc,rfl⟩:=own_sl hown;clear m0 m1 m2 m3 m4 m5 m6 m7 m8 m9 m10 m11 m12 m13;have hb3:Below w2.heap.size w2 w3:=⟨hgr.os,hgr.tape,hgr.output,hgr.size,fun c hc=>hgr.block c hc (by simp[Value.ownBlock])⟩;have hmv:=HX.out.lt;have hwv:=HG.out.size;clear hgr;have HG:=h_ (HG.out.trans (grown_below hb3 _));have HRB:=HRB.out.k hb3;have HX:=HX.out.k hb3;have HO:=HO.out.k hb3;have HW:=h_ (btrans HW.out HW.out.size hb3);clear hb3;obtain⟨m0,m1,m2,m3,m4,m5,m6,m7,m8,m9,m10,m11,m12,m13⟩:=HX.out.c14;have z9:=HX.out.free 9;have HX2:=h_ (show Bx mb #[.slice sa M.length sc,.bool false,.slice ra rd.length rc,.slice wa wr.length wc,.map (some vm),.map (some om),.int .i64 0,.int .i64 0,.slice none 0 0,.slice rq 1 rqc,.slice none 0 0,.slice none 0 0,.string ⟨#[]⟩,.int .i64 0] 143 (w3.setCell ⟨mb,9,none⟩ (.slice rq 1 rqc)) from by have:=HX.out.set 9 (.slice rq 1 rqc);simpa using this);have HG2:=h_ (HG.out.trans (grown_set w3 ⟨mb,9,none⟩ (.slice rq 1 rqc)));have HRB2:=h_ (HRB.out.other (c:=mb) (i:=9) (by omega) (.slice rq 1 rqc));have HW2:=h_ (below_set HW.out mb 9 hmb (.slice rq 1 rqc));have HOW:=h_ (own_set hown mb 9 hmv (.slice rq 1 rqc));clear hown;go_upto_region 9 with (fail);clear z9 HX HG HRB HW HO;clear m0 m1 m2 m3 m4 m5 m6 m7 m8 m9 m10 m11 m12 m13;generalize hWE:w3.setCell ⟨mb,9,none⟩ (.slice rq 1 rqc)=v3 at HX2 HG2 HRB2 HW2 HOW ⊢;clear hWE;have HX:=HX2;have HG:=HG2;have HRB:=HRB2;have HW:=HW2;clear HX2 HG2 HRB2 HW2;obtain⟨m0,-⟩:=HX.out.c14;obtain⟨gv,hgv⟩:=ex_ (getP M k);have HGV:=h_ hgv;rw[hgv]at HF;clear hgv;go_wp2_with fail;refine(SGet_any sa sc M k _ hl1 (HM.out.below HW.out)).mono ?_;rw[HGV.out];rintro er w4 ⟨rfl,hb4⟩;simp only[vV];clear m0;have HG:=h_ (HG.out.trans (grown_below hb4 _));have HRB:=HRB.out.k hb4;have HX:=HX.out.k hb4;have HOW:=h_ (own_below HOW.out hb4);clear hb4;obtain⟨r0,r1,r2⟩:=HRB.out.d3 0 1 2;have f0:=HRB.out.free 0;have f1:=HRB.out.free 1;have f2:=HRB.out.free 2;have HK:=h_ (HRB.out.sets3 (.int .i64 gv.k) (.int .i64 gv.n) (.string (bs gv.s)));have HFIN:=h_ (fin_sets3 HG.out HX.out HRB.out (by decide) (Nat.le_refl _) (by omega) HOW.out (.int .i64 gv.k) (.int .i64 gv.n) (.string (bs gv.s)));go_wp2;have k0:=HK.out.cell 0;have k1:=HK.out.cell 1;have k2:=HK.out.cell 2;simp only[List.getElem?_toArray,List.getElem?_cons_zero,List.getElem?_cons_succ]at k0 k1 k2;refine bodyPost_ret (v:=.agg #[.int .i64 gv.k,.int .i64 gv.n,.string (bs gv.s)]) (by simp[results,results161,go_sem,k0,k1,k2]<;>rfl) rfl ⟨by rw[HF.out]<;>rfl,HFIN.out.1,_,HFIN.out.2.1,?_⟩;rw[HF.out];exact own_mono HFIN.out.2.2 hwv
   | false =>
    have HF:=h_ (show R=.re k from HFR.out.symm.trans (if_pos ⟨(by first|exact True.intro|rfl),HCB.out⟩));clear m0 m1 m2 m3 m4 m5 m6 m7 m8 m9 m10 m11 m12 m13;go_wp2_with fail;refine(irestart_any k _).mono ?_;rintro er w9 ⟨rfl,rfl⟩;go_wp2;exact⟨(by first|exact True.intro|rfl),by rw[HF.out]<;>rfl,HG.out,⟨_,HX.out,by rw[HF.out];exact own_nil _ _ _ _⟩⟩
def thenG (op:Int):Rs→Rs
 | .ok v=>gotS op v
 | r=>r
def uneS (al:Bool) (rd:List (List UInt8)) (M:List Pr) (op:Int) (a:Vl):Rs × List (List UInt8):=
 if op=9∨op=18∨op=20∨op=21 then (unS op a,[])
 else if a.k=2 then (thenG op (fetS al rd M a.s),rdsR (fetS al rd M a.s) a.s) else (.ab 1009,[])
theorem pair_eq{α β:Type}{x y:α}{z t:β}(h:(x,z)=(y,t)):x=y∧z=t:=⟨congrArg Prod.fst h,congrArg Prod.snd h⟩
theorem unary_any(mb vm om:Nat)(sa ra wa:Option Addr)(sc rc wc:Nat)(M:List Pr)(al:Bool)(rd wr:List (List UInt8))(op:Int)(a:Vl)(hop:op=9∨op=18∨op=20∨op=21∨op=22∨op=23∨op=24)(ha1:-9223372036854775808≤a.n)(ha2:a.n≤9223372036854775807)(hal:a.s.length≤1000000)(w W0:World)(hX:Bx mb #[.slice sa M.length sc,.bool al,.slice ra rd.length rc,.slice wa wr.length wc,.map (some vm),.map (some om),.int .i64 0,.int .i64 0,.slice none 0 0,.slice none 0 0,.slice none 0 0,.slice none 0 0,.string ⟨#[]⟩,.int .i64 0] 143 w)(hO:Mp om [] w)(hmb:W0.heap.size≤mb)(hW0:Below W0.heap.size W0 w)(hM:CellsAt W0 (.slice sa M.length sc) M.length (prLs M))(hR:StrS W0 (.slice ra rd.length rc) rd)(hl1:M.length≤9000000000000)(hl2:rd.length≤9000000000000)(hLd:Laid W0):
  Calls prog 137 #[.pointer (some ⟨mb,0,none⟩),.int .i64 op,.agg (vV a)] w fun e w'=>e=endR (uneS al rd M op a).1∧w.grownBy w' (some mb)∧∃rv,Bx mb #[.slice sa M.length sc,.bool al,.slice ra rd.length rc,.slice wa wr.length wc,.map (some vm),.map (some om),.int .i64 0,.int .i64 0,.slice none 0 0,rv,.slice none 0 0,.slice none 0 0,.string ⟨#[]⟩,.int .i64 0] 143 w'∧w'.ownsRow w.heap.size 9 1 rv (uneS al rd M op a).2.length ((uneS al rd M op a).2.map strV):=by
 obtain⟨ak,an,az⟩:=a;simp only at ha1 ha2 hal;simp only[vV];obtain⟨⟨R,ks⟩,hU⟩:∃x,uneS al rd M op ⟨ak,an,az⟩=x:=⟨_,rfl⟩;rw[hU];simp only;have hmw:=hX.lt;have hsz:=hW0.size;have HU:=h_ hU;have HM:=h_ hM;have HRS:=h_ hR;have HLD:=h_ hLd;clear hU hM hR hLd;have hal0:=((Below.refl w.heap.size w).alloc (Nat.le_refl _) (.cells #[.int .i64 ak,.int .i64 an,.string (bs az)] 52)).alloc (by simp) (.cells #[.int .i64 0,.int .i64 0,.string ⟨#[]⟩] 52);have hr0:=Bx.new (w.alloc (.cells #[.int .i64 ak,.int .i64 an,.string (bs az)] 52)) #[.int .i64 0,.int .i64 0,.string ⟨#[]⟩] 52;rw[show (w.alloc (.cells #[.int .i64 ak,.int .i64 an,.string (bs az)] 52)).heap.size=w.heap.size+1 by simp]at hr0;have HA:=h_ ((Bx.new w #[.int .i64 ak,.int .i64 an,.string (bs az)] 52).alloc (.cells #[.int .i64 0,.int .i64 0,.string ⟨#[]⟩] 52));have HG:=h_ (grown_below hal0 (some mb));have HRB:=h_ hr0;have HX:=h_ (hX.call hal0);have HO:=h_ (hO.call hal0);have HW:=h_ (btrans hW0 hsz hal0);clear hX hO hW0 hal0 hr0;go_enter func137,ntmps137;go_upto_region 1 with (fail);generalize hW:(w.alloc (.cells #[.int .i64 ak,.int .i64 an,.string (bs az)] 52)).alloc (.cells #[.int .i64 0,.int .i64 0,.string ⟨#[]⟩] 52)=v0 at HG HRB HA HX HO HW ⊢;clear hW;obtain⟨a0,a1,a2⟩:=HA.out.c3;rcases hop with rfl|rfl|rfl|rfl|hop2
 ·skip
  by_cases hk:ak=1;rotate_left
  ·have tk:(ak==1)=false:=by rw[beq_eq_false_iff_ne];exact hk
   obtain⟨hRe,rfl⟩:R=.ab 1009∧ks=[]:=pair_eq (HU.out.symm.trans (by unfold uneS unS;rw[if_pos (by decide),if_pos rfl,if_neg hk]));have HF:=h_ hRe;clear hRe;clear hk HU;go_wp2_with fail;refine(must_no _).mono ?_;rintro er w9 ⟨rfl,rfl⟩;go_wp2;exact⟨(by first|exact True.intro|rfl),by rw[HF.out]<;>rfl,HG.out,_,HX.out,own_nil _ _ _ _⟩
  have tk:(ak==1)=true:=by rw[hk];rfl
  obtain⟨hRe,rfl⟩:R=exS (negS an)∧ks=[]:=pair_eq (HU.out.symm.trans (by unfold uneS unS;rw[if_pos (by decide),if_pos rfl,if_pos hk]));have HF:=h_ hRe;clear hRe;clear hk HU;go_wp2_with fail;refine(must_yes _).mono ?_;rintro er w1 ⟨rfl,rfl⟩;obtain⟨⟨n,e⟩,hx⟩:∃x,negS an=x:=⟨_,rfl⟩;rw[hx]at HF;have HXN:=h_ hx;clear hx;go_wp2_with fail;refine(Neg_any an _ ha1 ha2).mono ?_;rw[HXN.out];rintro er w2 ⟨rfl,rfl⟩;obtain⟨R2,hR2⟩:=ex_ (exS (n,e));have HF:=h_ (HF.out.trans hR2);have HR2:=h_ hR2;clear hR2;go_wp2_with fail;refine(exact_any n e _).mono ?_;rw[HR2.out];rintro er w3 ⟨rfl,hb3⟩;clear a0 a1 a2;have HG:=h_ (HG.out.trans (grown_below hb3 _));have HA:=HA.out.k hb3;have HRB:=HRB.out.k hb3;have HX:=HX.out.k hb3;have HO:=HO.out.k hb3;have HW:=h_ (btrans HW.out HW.out.size hb3);clear hb3;rcases R2 with v|c|q
  ·simp only[endR,vV]
   go_wp2_with (refine HRB.out.wa (#[.int .i64 v.k,.int .i64 v.n,.string (bs v.s)]) ?_);intro W9 HRB p9;have HG9:=h_ (grown_put HG.out p9 (by omega));have HX9:=HX.out.q p9;clear p9;go_wp2;exact HRB.out.r1 underlying52 ⟨by rw[HF.out]<;>rfl,HG9.out,_,HX9.out,own_nil _ _ _ _⟩
  ·simp only[endR]
   go_wp2;exact⟨(by first|exact True.intro|rfl),by rw[HF.out]<;>rfl,HG.out,_,HX.out,own_nil _ _ _ _⟩
  ·simp only[endR]
   go_wp2;exact⟨(by first|exact True.intro|rfl),by rw[HF.out]<;>rfl,HG.out,_,HX.out,own_nil _ _ _ _⟩
 ·skip
  by_cases hk:ak=3;rotate_left
  ·have tk:(ak==3)=false:=by rw[beq_eq_false_iff_ne];exact hk
   obtain⟨hRe,rfl⟩:R=.ab 1009∧ks=[]:=pair_eq (HU.out.symm.trans (by unfold uneS unS;rw[if_pos (by decide),if_neg (by decide),if_pos rfl,if_neg hk]));have HF:=h_ hRe;clear hRe;clear hk HU;go_wp2_with fail;refine(must_no _).mono ?_;rintro er w9 ⟨rfl,rfl⟩;go_wp2;exact⟨(by first|exact True.intro|rfl),by rw[HF.out]<;>rfl,HG.out,_,HX.out,own_nil _ _ _ _⟩
  have tk:(ak==3)=true:=by rw[hk];rfl
  obtain⟨hRe,rfl⟩:R=.ok (truV (decide (an=0)))∧ks=[]:=pair_eq (HU.out.symm.trans (by unfold uneS unS;rw[if_pos (by decide),if_neg (by decide),if_pos rfl,if_pos hk]));have HF:=h_ hRe;clear hRe;clear hk HU;go_wp2_with fail;refine(must_yes _).mono ?_;rintro er w1 ⟨rfl,rfl⟩;by_cases hy:an=0
  ·have ty:(an==0)=true:=by rw[hy];rfl
   rw[decide_eq_true hy]at HF;clear hy;go_wp2_with fail;refine(itruth_any true _).mono ?_;rintro er w3 ⟨rfl,hb3⟩;clear a0 a1 a2;have HG:=h_ (HG.out.trans (grown_below hb3 _));have HA:=HA.out.k hb3;have HRB:=HRB.out.k hb3;have HX:=HX.out.k hb3;have HO:=HO.out.k hb3;have HW:=h_ (btrans HW.out HW.out.size hb3);clear hb3;simp only[endR,vV,truV,if_true];go_wp2_with (refine HRB.out.wa (#[.int .i64 3,.int .i64 1,.string (bs [])]) ?_);intro W9 HRB p9;have HG9:=h_ (grown_put HG.out p9 (by omega));have HX9:=HX.out.q p9;clear p9;go_wp2;exact HRB.out.r1 underlying52 ⟨by rw[HF.out]<;>rfl,HG9.out,_,HX9.out,own_nil _ _ _ _⟩
  ·have ty:(an==0)=false:=by rw[beq_eq_false_iff_ne];exact hy
   rw[decide_eq_false hy]at HF;clear hy;go_wp2_with fail;refine(itruth_any false _).mono ?_;rintro er w3 ⟨rfl,hb3⟩;clear a0 a1 a2;have HG:=h_ (HG.out.trans (grown_below hb3 _));have HA:=HA.out.k hb3;have HRB:=HRB.out.k hb3;have HX:=HX.out.k hb3;have HO:=HO.out.k hb3;have HW:=h_ (btrans HW.out HW.out.size hb3);clear hb3;simp only[endR,vV,truV,Bool.false_eq_true,if_false];go_wp2_with (refine HRB.out.wa (#[.int .i64 3,.int .i64 0,.string (bs [])]) ?_);intro W9 HRB p9;have HG9:=h_ (grown_put HG.out p9 (by omega));have HX9:=HX.out.q p9;clear p9;go_wp2;exact HRB.out.r1 underlying52 ⟨by rw[HF.out]<;>rfl,HG9.out,_,HX9.out,own_nil _ _ _ _⟩
 ·skip
  by_cases hk:ak=1;rotate_left
  ·have tk:(ak==1)=false:=by rw[beq_eq_false_iff_ne];exact hk
   obtain⟨hRe,rfl⟩:R=.ab 1009∧ks=[]:=pair_eq (HU.out.symm.trans (by unfold uneS unS;rw[if_pos (by decide),if_neg (by decide),if_neg (by decide),if_pos rfl,if_neg hk]));have HF:=h_ hRe;clear hRe;clear hk HU;go_wp2_with fail;refine(must_no _).mono ?_;rintro er w9 ⟨rfl,rfl⟩;go_wp2;exact⟨(by first|exact True.intro|rfl),by rw[HF.out]<;>rfl,HG.out,_,HX.out,own_nil _ _ _ _⟩
  have tk:(ak==1)=true:=by rw[hk];rfl
  obtain⟨hRe,rfl⟩:R=txS (Lib.itoa an)∧ks=[]:=pair_eq (HU.out.symm.trans (by unfold uneS unS;rw[if_pos (by decide),if_neg (by decide),if_neg (by decide),if_pos rfl,if_pos hk]));have HF:=h_ hRe;clear hRe;clear hk HU;go_wp2_with fail;refine(must_yes _).mono ?_;rintro er w1 ⟨rfl,rfl⟩
  have hil:(Lib.itoa an).length≤1000:=by have:=Lib.itoa_length_le an (by omega) (by omega);omega
  obtain⟨I,hI⟩:=ex_ (Lib.itoa an);rw[hI]at hil;rw[hI]at HF;have HI:=h_ hI;clear hI;go_wp2_with fail;refine(Format_any an _ ha1 ha2 (HLD.out.below HW.out)).mono ?_;rw[HI.out];rintro er w2 ⟨rfl,hb2⟩;clear a0 a1 a2;have HG:=h_ (HG.out.trans (grown_below hb2 _));have HA:=HA.out.k hb2;have HRB:=HRB.out.k hb2;have HX:=HX.out.k hb2;have HO:=HO.out.k hb2;have HW:=h_ (btrans HW.out HW.out.size hb2);clear hb2;obtain⟨a0,a1,a2⟩:=HA.out.c3;obtain⟨R2,hR2⟩:=ex_ (txS I);have HF:=h_ (HF.out.trans hR2);have HR2:=h_ hR2;clear hR2;go_wp2_with fail;refine(itext_any I (by omega) _).mono ?_;rw[HR2.out];rintro er w3 ⟨rfl,hb3⟩;clear a0 a1 a2;have HG:=h_ (HG.out.trans (grown_below hb3 _));have HA:=HA.out.k hb3;have HRB:=HRB.out.k hb3;have HX:=HX.out.k hb3;have HO:=HO.out.k hb3;have HW:=h_ (btrans HW.out HW.out.size hb3);clear hb3;rcases R2 with v|c|q
  ·simp only[endR,vV]
   go_wp2_with (refine HRB.out.wa (#[.int .i64 v.k,.int .i64 v.n,.string (bs v.s)]) ?_);intro W9 HRB p9;have HG9:=h_ (grown_put HG.out p9 (by omega));have HX9:=HX.out.q p9;clear p9;go_wp2;exact HRB.out.r1 underlying52 ⟨by rw[HF.out]<;>rfl,HG9.out,_,HX9.out,own_nil _ _ _ _⟩
  ·simp only[endR]
   go_wp2;exact⟨(by first|exact True.intro|rfl),by rw[HF.out]<;>rfl,HG.out,_,HX.out,own_nil _ _ _ _⟩
  ·simp only[endR]
   go_wp2;exact⟨(by first|exact True.intro|rfl),by rw[HF.out]<;>rfl,HG.out,_,HX.out,own_nil _ _ _ _⟩
 ·skip
  by_cases hk:ak=2;rotate_left
  ·have tk:(ak==2)=false:=by rw[beq_eq_false_iff_ne];exact hk
   obtain⟨hRe,rfl⟩:R=.ab 1009∧ks=[]:=pair_eq (HU.out.symm.trans (by unfold uneS unS;rw[if_pos (by decide),if_neg (by decide),if_neg (by decide),if_neg (by decide),if_neg hk]));have HF:=h_ hRe;clear hRe;clear hk HU;go_wp2_with fail;refine(must_no _).mono ?_;rintro er w9 ⟨rfl,rfl⟩;go_wp2;exact⟨(by first|exact True.intro|rfl),by rw[HF.out]<;>rfl,HG.out,_,HX.out,own_nil _ _ _ _⟩
  have tk:(ak==2)=true:=by rw[hk];rfl
  obtain⟨hRe,rfl⟩:R=.ok (numV (az.length:Int))∧ks=[]:=pair_eq (HU.out.symm.trans (by unfold uneS unS;rw[if_pos (by decide),if_neg (by decide),if_neg (by decide),if_neg (by decide),if_pos hk]));have HF:=h_ hRe;clear hRe;clear hk HU;go_wp2_with fail;refine(must_yes _).mono ?_;rintro er w1 ⟨rfl,rfl⟩
  have hwl:IntKind.i64.wrap (az.length:Int)=(az.length:Int):=by rw[IntKind.wrap_i64];omega
  go_wp2_with fail;refine(integer_any (az.length:Int) _).mono ?_;rintro er w2 ⟨rfl,hb2⟩;clear a0 a1 a2;have HG:=h_ (HG.out.trans (grown_below hb2 _));have HA:=HA.out.k hb2;have HRB:=HRB.out.k hb2;have HX:=HX.out.k hb2;have HO:=HO.out.k hb2;have HW:=h_ (btrans HW.out HW.out.size hb2);clear hb2;simp only[endR,vV,numV];go_wp2_with (refine HRB.out.wa (#[.int .i64 1,.int .i64 (az.length:Int),.string (bs [])]) ?_);intro W9 HRB p9;have HG9:=h_ (grown_put HG.out p9 (by omega));have HX9:=HX.out.q p9;clear p9;go_wp2;exact HRB.out.r1 underlying52 ⟨by rw[HF.out]<;>rfl,HG9.out,_,HX9.out,own_nil _ _ _ _⟩
 ·have n9:(op==9)=false:=by rw[beq_eq_false_iff_ne];omega
  have n18:(op==18)=false:=by rw[beq_eq_false_iff_ne];omega
  have n20:(op==20)=false:=by rw[beq_eq_false_iff_ne];omega
  have n21:(op==21)=false:=by rw[beq_eq_false_iff_ne];omega
  by_cases hk:ak=2;rotate_left
  ·have tk:(ak==2)=false:=by rw[beq_eq_false_iff_ne];exact hk
   obtain⟨hRe,rfl⟩:R=.ab 1009∧ks=[]:=pair_eq (HU.out.symm.trans (by unfold uneS;rw[if_neg (by omega),if_neg hk]));have HF:=h_ hRe;clear hRe;clear hk HU;go_wp2_with fail;refine(must_no _).mono ?_;rintro er w9 ⟨rfl,rfl⟩;go_wp2;exact⟨(by first|exact True.intro|rfl),by rw[HF.out]<;>rfl,HG.out,_,HX.out,own_nil _ _ _ _⟩
  have tk:(ak==2)=true:=by rw[hk];rfl
  obtain⟨F,hF⟩:=ex_ (fetS al rd M az);obtain⟨hRe,rfl⟩:R=thenG op F∧ks=rdsR F az:=pair_eq (HU.out.symm.trans (by unfold uneS;rw[if_neg (by omega),if_pos hk];simp only[hF]));have HF:=h_ hRe;clear hRe;have HFE:=h_ hF;clear hk HU hF;go_wp2_with fail;refine(must_yes _).mono ?_;rintro er w1 ⟨rfl,rfl⟩;go_wp2_with fail;refine(fetch_any mb vm om sa ra wa sc rc wc M al rd wr az (by omega) _ W0 HX.out HO.out hmb HW.out HM.out HRS.out hl1 hl2).mono ?_;rw[HFE.out];rintro er w2 ⟨rfl,hg2,rv,hx2,ho2⟩;clear a0 a1 a2;have hgw:=HG.out.size;have HA:=h_ (HA.out.kept hg2 (by simp;omega));have HRB:=h_ (HRB.out.kept hg2 (by simp;omega));have HG:=h_ (HG.out.trans hg2);have HX:=h_ hx2;have HOW:=h_ (own_mono ho2 hgw);clear hg2 hx2 ho2 HO;rcases F with v|c|q<;>simp only[thenG]at HF;rotate_left
  ·simp only[endR]
   go_wp2;exact⟨(by first|exact True.intro|rfl),by rw[HF.out]<;>rfl,HG.out,_,HX.out,HOW.out⟩
  ·simp only[endR]
   go_wp2;exact⟨(by first|exact True.intro|rfl),by rw[HF.out]<;>rfl,HG.out,_,HX.out,HOW.out⟩
  simp only[endR,vV];have hb3:=(Below.refl w2.heap.size w2).alloc (Nat.le_refl _) (.cells #[.int .i64 v.k,.int .i64 v.n,.string (bs v.s)] 52);have HVB:=h_ (Bx.new w2 #[.int .i64 v.k,.int .i64 v.n,.string (bs v.s)] 52);have HG:=h_ (HG.out.trans (grown_below hb3 _));have HRB:=HRB.out.k hb3;have HX:=HX.out.k hb3;have HOW:=h_ (own_below HOW.out hb3);clear hb3 HA;go_upto_region 16 with (fail);generalize hW:w2.alloc (.cells #[.int .i64 v.k,.int .i64 v.n,.string (bs v.s)] 52)=v2 at HVB HG HRB HX HOW ⊢;clear hW;obtain⟨x0,x1,x2⟩:=HVB.out.c3;rcases hop2 with rfl|rfl|rfl
  ·skip
   by_cases h0:v.k=0
   ·have t0:(v.k==0)=true:=by rw[h0];rfl
    rw[show gotS 22 v=.ok (numV 0) from by unfold gotS;rw[if_neg (by decide),if_pos h0];rfl]at HF;clear h0;go_wp2_with fail;refine(integer_any 0 _).mono ?_;rintro er w3 ⟨rfl,hb3⟩;clear x0 x1 x2;have HG:=h_ (HG.out.trans (grown_below hb3 _));have HRB:=HRB.out.k hb3;have HX:=HX.out.k hb3;have HOW:=h_ (own_below HOW.out hb3);clear hb3;simp only[endR,vV,numV];have hno:=own_not (HOW.out) HRB.out (by decide);go_wp2_with (refine HRB.out.wa (#[.int .i64 1,.int .i64 0,.string (bs [])]) ?_);intro W9 HRB p9;have HG9:=h_ (grown_put HG.out p9 (by omega));have HX9:=HX.out.q p9;have HO9:=h_ (own_putb (HOW.out) p9 hno);clear p9;go_wp2;exact HRB.out.r1 underlying52 ⟨by rw[HF.out]<;>rfl,HG9.out,_,HX9.out,HO9.out⟩
   have t0:(v.k==0)=false:=by rw[beq_eq_false_iff_ne];exact h0
   by_cases hkk:v.k=1
   ·have tk2:(v.k != 1)=false:=by rw[hkk];rfl
    rw[show gotS 22 v=.ok v from by unfold gotS;rw[if_neg (by decide),if_neg h0];exact if_pos hkk]at HF;clear h0 hkk;have hno:=own_not (HOW.out) HRB.out (by decide);go_wp2_with (refine HRB.out.wa (#[.int .i64 v.k,.int .i64 v.n,.string (bs v.s)]) ?_);intro W9 HRB p9;have HG9:=h_ (grown_put HG.out p9 (by omega));have HX9:=HX.out.q p9;have HO9:=h_ (own_putb (HOW.out) p9 hno);clear p9;go_wp2;exact HRB.out.r1 underlying52 ⟨by rw[HF.out]<;>rfl,HG9.out,_,HX9.out,HO9.out⟩
   have tk2:(v.k != 1)=true:=by rw[bne_iff_ne];exact hkk
   rw[show gotS 22 v=.ab 1003 from by unfold gotS;rw[if_neg (by decide),if_neg h0];exact if_neg hkk]at HF;clear h0 hkk;go_wp2_with fail;refine(iabort_any 1003 _).mono ?_;rintro er w3 ⟨rfl,rfl⟩;go_wp2;exact⟨(by first|exact True.intro|rfl),by rw[HF.out]<;>rfl,HG.out,_,HX.out,HOW.out⟩
  ·skip
   by_cases h0:v.k=0
   ·have t0:(v.k==0)=true:=by rw[h0];rfl
    rw[show gotS 23 v=.ok (strVl []) from by unfold gotS;rw[if_neg (by decide),if_pos h0];rfl]at HF;clear h0;go_wp2_with fail;refine(itext_any [] (by simp) _).mono ?_;rw[show txS []=.ok (strVl []) from rfl];rintro er w3 ⟨rfl,hb3⟩;clear x0 x1 x2;have HG:=h_ (HG.out.trans (grown_below hb3 _));have HRB:=HRB.out.k hb3;have HX:=HX.out.k hb3;have HOW:=h_ (own_below HOW.out hb3);clear hb3;simp only[endR,vV,strVl];have hno:=own_not (HOW.out) HRB.out (by decide);go_wp2_with (refine HRB.out.wa (#[.int .i64 2,.int .i64 0,.string (bs [])]) ?_);intro W9 HRB p9;have HG9:=h_ (grown_put HG.out p9 (by omega));have HX9:=HX.out.q p9;have HO9:=h_ (own_putb (HOW.out) p9 hno);clear p9;go_wp2;exact HRB.out.r1 underlying52 ⟨by rw[HF.out]<;>rfl,HG9.out,_,HX9.out,HO9.out⟩
   have t0:(v.k==0)=false:=by rw[beq_eq_false_iff_ne];exact h0
   by_cases hkk:v.k=2
   ·have tk2:(v.k != 2)=false:=by rw[hkk];rfl
    rw[show gotS 23 v=.ok v from by unfold gotS;rw[if_neg (by decide),if_neg h0];exact if_pos hkk]at HF;clear h0 hkk;have hno:=own_not (HOW.out) HRB.out (by decide);go_wp2_with (refine HRB.out.wa (#[.int .i64 v.k,.int .i64 v.n,.string (bs v.s)]) ?_);intro W9 HRB p9;have HG9:=h_ (grown_put HG.out p9 (by omega));have HX9:=HX.out.q p9;have HO9:=h_ (own_putb (HOW.out) p9 hno);clear p9;go_wp2;exact HRB.out.r1 underlying52 ⟨by rw[HF.out]<;>rfl,HG9.out,_,HX9.out,HO9.out⟩
   have tk2:(v.k != 2)=true:=by rw[bne_iff_ne];exact hkk
   rw[show gotS 23 v=.ab 1003 from by unfold gotS;rw[if_neg (by decide),if_neg h0];exact if_neg hkk]at HF;clear h0 hkk;go_wp2_with fail;refine(iabort_any 1003 _).mono ?_;rintro er w3 ⟨rfl,rfl⟩;go_wp2;exact⟨(by first|exact True.intro|rfl),by rw[HF.out]<;>rfl,HG.out,_,HX.out,HOW.out⟩
  ·skip
   by_cases hy:v.k=0
   ·have ty:(v.k != 0)=false:=by rw[hy];rfl
    rw[show gotS 24 v=.ok (truV false) from by unfold gotS;rw[if_pos rfl,decide_eq_false (fun h=>h hy)]]at HF;clear hy;go_wp2_with fail;refine(itruth_any false _).mono ?_;rintro er w3 ⟨rfl,hb3⟩;clear x0 x1 x2;have HG:=h_ (HG.out.trans (grown_below hb3 _));have HRB:=HRB.out.k hb3;have HX:=HX.out.k hb3;have HOW:=h_ (own_below HOW.out hb3);clear hb3;simp only[endR,vV,truV,Bool.false_eq_true,if_false];have hno:=own_not (HOW.out) HRB.out (by decide);go_wp2_with (refine HRB.out.wa (#[.int .i64 3,.int .i64 0,.string (bs [])]) ?_);intro W9 HRB p9;have HG9:=h_ (grown_put HG.out p9 (by omega));have HX9:=HX.out.q p9;have HO9:=h_ (own_putb (HOW.out) p9 hno);clear p9;go_wp2;exact HRB.out.r1 underlying52 ⟨by rw[HF.out]<;>rfl,HG9.out,_,HX9.out,HO9.out⟩
   ·have ty:(v.k != 0)=true:=by rw[bne_iff_ne];exact hy
    rw[show gotS 24 v=.ok (truV true) from by unfold gotS;rw[if_pos rfl,decide_eq_true hy]]at HF;clear hy;go_wp2_with fail;refine(itruth_any true _).mono ?_;rintro er w3 ⟨rfl,hb3⟩;clear x0 x1 x2;have HG:=h_ (HG.out.trans (grown_below hb3 _));have HRB:=HRB.out.k hb3;have HX:=HX.out.k hb3;have HOW:=h_ (own_below HOW.out hb3);clear hb3;simp only[endR,vV,truV,if_true];have hno:=own_not (HOW.out) HRB.out (by decide);go_wp2_with (refine HRB.out.wa (#[.int .i64 3,.int .i64 1,.string (bs [])]) ?_);intro W9 HRB p9;have HG9:=h_ (grown_put HG.out p9 (by omega));have HX9:=HX.out.q p9;have HO9:=h_ (own_putb (HOW.out) p9 hno);clear p9;go_wp2;exact HRB.out.r1 underlying52 ⟨by rw[HF.out]<;>rfl,HG9.out,_,HX9.out,HO9.out⟩
theorem run_assert(u:TypeId)(v:Value)(w:World):(Instr.typeAssert (.iface 145 v) u 145 true).run prog w=.ok (.tuple #[v,.bool true]) w:=by
 simp[Instr.typeAssert,run_underlying underlying145]
theorem catch_idle(p q:Nat)(w:World):
  CallsD prog 134 #[.pointer (some ⟨p,0,none⟩),.pointer (some ⟨q,0,none⟩)] .returning w fun e u' w'=>e=.returned (.tuple #[])∧u'=.returning∧w'=w:=by
 refine callsD_of_wpS func134 rfl fun c₀ cs hu=>?_;apply wpS_seq;apply wpS_region;simp[wpOpsS,go_sem,recoverD,hu,ntmps134,Exit.thenS];have hT:∀x:Value,#[Value.pointer (some ⟨p,0,none⟩),Value.pointer (some ⟨q,0,none⟩)]++(Array.replicate 10 undef).setIfInBounds 3 x=#[Value.pointer (some ⟨p,0,none⟩),Value.pointer (some ⟨q,0,none⟩),undef,undef,undef,x,undef,undef,undef,undef,undef,undef]:=fun _=>rfl;rw[hT];refine wpS_of_wp ?_;go_wp2;cases c₀
 simp_all [bodyPostS,results,results134]
theorem own_kept{B n k:Nat}{e:TypeId}{v:Value}{xs:List Value}{w w':World}(h:w.ownsRow B e k v n xs)(hk:∀g,B≤g→g<w.heap.size→w'.heap[g]? = w.heap[g]?):w'.ownsRow B e k v n xs:=by
 refine⟨h.1,?_⟩;rcases h.2 with hn|⟨g,cap,cur,rfl,hb,hgg,rest⟩
 ·exact .inl hn
 ·exact .inr ⟨g,cap,cur,rfl,hb,(hk g hb (lt_heap hgg)).trans hgg,rest⟩
structure K2 (a b:Nat) (w w':World):Prop where
 os:w'.os=w.os
 tape:w'.tape=w.tape
 output:w'.output=w.output
 size:w.heap.size≤w'.heap.size
 block:∀k,k<w.heap.size→k≠a→k≠b→w'.heap[k]? = w.heap[k]?
theorem K2.of_grown{a b:Nat}{w w':World}(h:w.grownBy w' (some a)):K2 a b w w':=⟨h.os,h.tape,h.output,h.size,fun k hk h1 _=>h.block k hk (fun e=>h1 (by cases e;rfl))⟩
theorem K2.of_below{a b:Nat}{w w':World}(h:Below w.heap.size w w'):K2 a b w w':=⟨h.os,h.tape,h.output,h.size,fun k hk _ _=>h.block k hk⟩
theorem K2.below{a b B:Nat}{w w':World}(h:K2 a b w w')(hB:B≤w.heap.size)(ha:B≤a)(hb:B≤b):Below B w w':=⟨h.os,h.tape,h.output,h.size,fun k hk=>h.block k (by omega) (by omega) (by omega)⟩
theorem K2.then{a b c d:Nat}{w w1 w2:World}(h:K2 a b w w1)(k:K2 c d w1 w2)(hc:c=a∨c=b∨w.heap.size≤c)(hd:d=a∨d=b∨w.heap.size≤d):K2 a b w w2:=
 ⟨k.os.trans h.os,k.tape.trans h.tape,k.output.trans h.output,Nat.le_trans h.size k.size,fun j hj h1 h2=>(k.block j (by have:=h.size;omega) (by omega) (by omega)).trans (h.block j hj h1 h2)⟩
theorem K2.set{a b c i:Nat}{w W:World}(h:K2 a b w W)(u:Value)(hc:c=a∨c=b∨w.heap.size≤c):K2 a b w (W.setCell ⟨c,i,none⟩ u):=
 h.then (c:=c) (d:=c) (K2.of_grown (grown_set W ⟨c,i,none⟩ u)) hc hc
theorem Bx.k2{a b c:Nat}{cs:Array Value}{T:TypeId}{w w':World}(h:Bx c cs T w)(k:K2 a b w w')(h1:c≠a)(h2:c≠b):Bx c cs T w':=(k.block c h.lt h1 h2).trans h
theorem own_k2{a b B n k:Nat}{e:TypeId}{v:Value}{xs:List Value}{w w':World}(h:w.ownsRow B e k v n xs)(hk:K2 a b w w')(ha:a<B)(hb:b<B):w'.ownsRow B e k v n xs:=
 own_kept h (fun g hg hl=>hk.block g hl (by omega) (by omega))
def cEnd:Rs→Ending
 | .ok _=>.returned (.tuple #[])
 | .ab c=>.panicked [stopE 2 c []]
 | .re k=>.panicked [stopE 3 0 k]
def vEnd:Rs→Array Value
 | .ok v=>vV v
 | _=>#[.int .i64 0,.int .i64 0,.string ⟨#[]⟩]
def stA:Rs→Array Value
 | .ok _=>#[.int .i64 0,.int .i64 0,.slice none 0 0,.string ⟨#[]⟩]
 | .ab c=>#[.int .i64 2,.int .i64 c,.slice none 0 0,.string (bs [])]
 | .re k=>#[.int .i64 3,.int .i64 0,.slice none 0 0,.string (bs k)]
def stB2:Rs→Bool
 | .ok _=>false
 | _=>true
def EvP (mb vb:Nat) (C:Value→Array Value) (R:Rs) (ks:List (List UInt8)) (w:World) (E:Ending) (w':World):Prop:=
 E=cEnd R∧K2 mb vb w w'∧Bx vb (vEnd R) 52 w'∧∃rv,Bx mb (C rv) 143 w'∧w'.ownsRow w.heap.size 9 1 rv ks.length (ks.map strV)
def RuP (mb vb:Nat) (C:Value→Array Value) (R:Rs) (ks:List (List UInt8)) (w:World) (E:Ending) (w':World):Prop:=
 E=.returned (.tuple #[.agg (stA R),.bool (stB2 R)])∧K2 mb vb w w'∧Bx vb (vEnd R) 52 w'∧∃rv,Bx mb (C rv) 143 w'∧w'.ownsRow w.heap.size 9 1 rv ks.length (ks.map strV)
theorem Bx.set4{b:Nat}{T:TypeId}{W:World}{z0 z1 z2 z3:Value}(h:Bx b #[z0,z1,z2,z3] T W)(u0 u1 u2 u3:Value):
  Bx b #[u0,u1,u2,u3] T ((((W.setCell ⟨b,0,none⟩ u0).setCell ⟨b,1,none⟩ u1).setCell ⟨b,2,none⟩ u2).setCell ⟨b,3,none⟩ u3):=(((h.set 0 u0).set 1 u1).set 2 u2).set 3 u3
theorem catch_pan(p q:Nat)(st c:Int)(k:List UInt8)(z0 z1 z2 z3:Value)(w:World)(hc:Bx p #[z0,z1,z2,z3] 145 w)(hq:Bx q #[.bool false] 4 w)(hne:p≠q):
  CallsD prog 134 #[.pointer (some ⟨p,0,none⟩),.pointer (some ⟨q,0,none⟩)] (.panicking [stopE st c k]) w fun E u' w'=>E=.returned (.tuple #[])∧u'=.panicking [{ stopE st c k with recovered:=true }]∧Bx p #[.int .i64 st,.int .i64 c,.slice none 0 0,.string (bs k)] 145 w'∧Bx q #[.bool true] 4 w'∧K2 p q w w':=by
 refine callsD_of_wpS func134 rfl fun c₀ cs hu=>?_;apply wpS_seq;apply wpS_region;unfold stopE at hu;simp[wpOpsS,go_sem,recoverD,hu,ntmps134,Exit.thenS];have hT:∀x:Value,#[Value.pointer (some ⟨p,0,none⟩),Value.pointer (some ⟨q,0,none⟩)]++(Array.replicate 10 undef).setIfInBounds 3 x=#[Value.pointer (some ⟨p,0,none⟩),Value.pointer (some ⟨q,0,none⟩),undef,undef,undef,x,undef,undef,undef,undef,undef,undef]:=fun _=>rfl;rw[hT];refine wpS_of_wp ?_;have hta:=run_assert;have HC:=h_ (hc.alloc (.cells #[.int .i64 st,.int .i64 c,.slice none 0 0,.string (bs k)] 145));have HQ:=h_ (hq.alloc (.cells #[.int .i64 st,.int .i64 c,.slice none 0 0,.string (bs k)] 145));have HY:=h_ (Bx.new w #[.int .i64 st,.int .i64 c,.slice none 0 0,.string (bs k)] 145);have HK:=h_ (K2.of_below (a:=p) (b:=q) ((Below.refl w.heap.size w).alloc (Nat.le_refl _) (.cells #[.int .i64 st,.int .i64 c,.slice none 0 0,.string (bs k)] 145)));clear hc hq;go_upto_region 7 with (fail);generalize hW0:w.alloc (.cells #[.int .i64 st,.int .i64 c,.slice none 0 0,.string (bs k)] 145)=v0 at HC HQ HY HK ⊢;clear hW0;obtain⟨y0,y1,y2,y3⟩:=HY.out.c4;obtain⟨c0,c1,c2,c3⟩:=HC.out.c4;have f0:=HC.out.free 0;have f1:=HC.out.free 1;have f2:=HC.out.free 2;have f3:=HC.out.free 3;have g0:((((v0.setCell ⟨p,0,none⟩ (.int .i64 st)).setCell ⟨p,1,none⟩ (.int .i64 c)).setCell ⟨p,2,none⟩ (.slice none 0 0)).setCell ⟨p,3,none⟩ (.string (bs k))).cell? ⟨q,0,none⟩=some (.bool false):=((((HQ.out.other (Ne.symm hne) _).other (Ne.symm hne) _).other (Ne.symm hne) _).other (Ne.symm hne) _).cell 0;have g1:=((((HQ.out.other (i:=0) (Ne.symm hne) (.int .i64 st)).other (i:=1) (Ne.symm hne) (.int .i64 c)).other (i:=2) (Ne.symm hne) (.slice none 0 0)).other (i:=3) (Ne.symm hne) (.string (bs k))).free 0;have q0:=HQ.out.cl 0;have q1:=HQ.out.free 0;have HP2:=h_ ((HC.out.set4 (.int .i64 st) (.int .i64 c) (.slice none 0 0) (.string (bs k))).other (c:=q) (i:=0) hne (.bool true));have HQ2:=h_ (((((HQ.out.other (i:=0) (Ne.symm hne) (.int .i64 st)).other (i:=1) (Ne.symm hne) (.int .i64 c)).other (i:=2) (Ne.symm hne) (.slice none 0 0)).other (i:=3) (Ne.symm hne) (.string (bs k))).set 0 (.bool true));have HK2:=h_ (((((HK.out.set (i:=0) (.int .i64 st) (.inl rfl)).set (i:=1) (.int .i64 c) (.inl rfl)).set (i:=2) (.slice none 0 0) (.inl rfl)).set (i:=3) (.string (bs k)) (.inl rfl)).set (i:=0) (.bool true) (.inr (.inl rfl)));go_wp2;exact⟨rfl,_,rfl,.tuple #[],results_none rfl _ _ _,rfl,rfl,HP2.out,HQ2.out,HK2.out⟩
theorem irun_any(K:FuncId)(caps:Array Value)(mp mb vb:Nat)(C:Value→Array Value)(R:Rs)(ks:List (List UInt8))(w w1:World)(hw1:w1=(w.alloc (.cells #[.int .i64 0,.int .i64 0,.slice none 0 0,.string ⟨#[]⟩] 145)).alloc (.cells #[.bool false] 4))(hE:∀w:World,(callFunc K caps).run prog w=.ok (.enter K caps) w)(hm:mb<w.heap.size)(hv:vb<w.heap.size)(hC:Calls prog K caps w1 (EvP mb vb C R ks w1)):
  Calls prog 117 #[.pointer (some ⟨mp,0,none⟩),.func (.func K) #[] caps] w (RuP mb vb C R ks w):=by
 have hmf:∀(fn:Fn) (first cap:Array Value) (w:World),(Instr.makeFunc fn first cap).run prog w=.ok (.func fn first cap) w:=fun _ _ _ _=>rfl;have hal:=((Below.refl w.heap.size w).alloc (Nat.le_refl _) (.cells #[.int .i64 0,.int .i64 0,.slice none 0 0,.string ⟨#[]⟩] 145)).alloc (by simp) (.cells #[.bool false] 4);have hp0:=(Bx.new w #[.int .i64 0,.int .i64 0,.slice none 0 0,.string ⟨#[]⟩] 145).alloc (.cells #[.bool false] 4);have hq0:=Bx.new1 w (.cells #[.int .i64 0,.int .i64 0,.slice none 0 0,.string ⟨#[]⟩] 145) #[.bool false] 4;rw[←hw1]at hal hp0 hq0;have HW1:=h_ hw1;have HB:=h_ hal;have HP:=h_ hp0;have HQ:=h_ hq0;have HCC:=h_ hC;clear hw1 hal hp0 hq0 hC
 go_enter_defers func117,ntmps117
 go_wp2_with fail;rw[←HW1.out];clear HW1;refine HCC.out.mono ?_;clear hE HCC;rintro E w2 ⟨rfl,hk,hvb,rv,hmb,hown⟩;have hsz:=HB.out.size;have HP2:=h_ (HP.out.k2 hk (by omega) (by omega));have HQ2:=h_ (HQ.out.k2 hk (by omega) (by omega));have HK:=h_ ((K2.of_below (a:=mb) (b:=vb) HB.out).then hk (.inl rfl) (.inr (.inl rfl)));have HV:=h_ hvb;have HM:=h_ hmb;have HO:=h_ (own_mono hown hsz);have hbb:=HQ.out.lt;have HO1:=h_ hown;clear hk hvb hmb hown HP HQ HB;rcases R with v|c|k
 ·simp only[cEnd]
  obtain⟨c0,c1,c2,c3⟩:=HP2.out.c4;have f0:=HP2.out.free 0;have f1:=HP2.out.free 1;have f2:=HP2.out.free 2;have f3:=HP2.out.free 3;have q0:=HQ2.out.cl 0;have q1:=HQ2.out.free 0;have g0:((((w2.setCell ⟨w.heap.size,0,none⟩ (.int .i64 0)).setCell ⟨w.heap.size,1,none⟩ (.int .i64 0)).setCell ⟨w.heap.size,2,none⟩ (.slice none 0 0)).setCell ⟨w.heap.size,3,none⟩ (.string ⟨#[]⟩)).cell? ⟨w.heap.size+1,0,none⟩=some (.bool false):=((((HQ2.out.other (i:=0) (c:=w.heap.size) (by omega) (.int .i64 0)).other (i:=1) (c:=w.heap.size) (by omega) (.int .i64 0)).other (i:=2) (c:=w.heap.size) (by omega) (.slice none 0 0)).other (i:=3) (c:=w.heap.size) (by omega) (.string ⟨#[]⟩)).cell 0;have g1:=((((HQ2.out.other (i:=0) (c:=w.heap.size) (by omega) (.int .i64 0)).other (i:=1) (c:=w.heap.size) (by omega) (.int .i64 0)).other (i:=2) (c:=w.heap.size) (by omega) (.slice none 0 0)).other (i:=3) (c:=w.heap.size) (by omega) (.string ⟨#[]⟩)).free 0;have HP3:=h_ ((HP2.out.set4 (.int .i64 0) (.int .i64 0) (.slice none 0 0) (.string ⟨#[]⟩)).other (c:=w.heap.size+1) (i:=0) (by omega) (.bool false));have HQ3:=h_ (((((HQ2.out.other (i:=0) (c:=w.heap.size) (by omega) (.int .i64 0)).other (i:=1) (c:=w.heap.size) (by omega) (.int .i64 0)).other (i:=2) (c:=w.heap.size) (by omega) (.slice none 0 0)).other (i:=3) (c:=w.heap.size) (by omega) (.string ⟨#[]⟩)).set 0 (.bool false));have HKL:=h_ (((((K2.of_below (a:=w.heap.size) (b:=w.heap.size+1) (Below.refl w2.heap.size w2)).set (i:=0) (.int .i64 0) (.inl rfl)).set (i:=1) (.int .i64 0) (.inl rfl)).set (i:=2) (.slice none 0 0) (.inl rfl)).set (i:=3) (.string ⟨#[]⟩) (.inl rfl) |>.set (i:=0) (.bool false) (.inr (.inl rfl)));go_wp2;generalize hWE:(((((w2.setCell ⟨w.heap.size,0,none⟩ (.int .i64 0)).setCell ⟨w.heap.size,1,none⟩ (.int .i64 0)).setCell ⟨w.heap.size,2,none⟩ (.slice none 0 0)).setCell ⟨w.heap.size,3,none⟩ (.string ⟨#[]⟩)).setCell ⟨w.heap.size+1,0,none⟩ (.bool false))=WE at HP3 HQ3 HKL ⊢;clear hWE;refine leaves_cons (f:=134) (args:=#[.pointer (some ⟨w.heap.size,0,none⟩),.pointer (some ⟨w.heap.size+1,0,none⟩)]) (by simp) (by simp[go_sem]) ?_;refine(catch_idle w.heap.size (w.heap.size+1) _).mono ?_;rintro e u' w'' ⟨rfl,rfl,rfl⟩;obtain⟨k0,k1,k2,k3⟩:=HP3.out.c4;have k4:=HQ3.out.cl 0
  have hpost:RuP mb vb C (.ok v) ks w (.returned (.tuple #[.agg (stA (.ok v)),.bool (stB2 (.ok v))])) w'':=
   ⟨rfl,HK.out.then HKL.out (by omega) (by omega),HV.out.k2 HKL.out (by omega) (by omega),rv,HM.out.k2 HKL.out (by omega) (by omega),own_mono (own_k2 HO1.out HKL.out (by omega) (by omega)) hsz⟩
  simpa[Leaves,settle,results,results117,go_sem,k0,k1,k2,k3,k4,stA,stB2] using hpost
 ·simp only[cEnd]
  refine leaves_cons (f:=134) (args:=#[.pointer (some ⟨w.heap.size,0,none⟩),.pointer (some ⟨w.heap.size+1,0,none⟩)]) (by simp) (by simp[go_sem]) ?_;refine(catch_pan w.heap.size (w.heap.size+1) 2 c [] _ _ _ _ _ HP2.out HQ2.out (by omega)).mono ?_;rintro e u' w'' ⟨rfl,rfl,hP3,hQ3,hKL⟩;obtain⟨k0,k1,k2,k3⟩:=hP3.c4;have k4:w''.cell? ⟨w.heap.size+1,0,none⟩=some (.bool true):=hQ3.cell 0
  have hpost:RuP mb vb C (.ab c) ks w (.returned (.tuple #[.agg (stA (.ab c)),.bool (stB2 (.ab c))])) w'':=
   ⟨rfl,HK.out.then hKL (by omega) (by omega),HV.out.k2 hKL (by omega) (by omega),rv,HM.out.k2 hKL (by omega) (by omega),own_mono (own_k2 HO1.out hKL (by omega) (by omega)) hsz⟩
  simpa[Leaves,settle,results,results117,go_sem,k0,k1,k2,k3,k4,stA,stB2,stopE] using hpost
 ·simp only[cEnd]
  refine leaves_cons (f:=134) (args:=#[.pointer (some ⟨w.heap.size,0,none⟩),.pointer (some ⟨w.heap.size+1,0,none⟩)]) (by simp) (by simp[go_sem]) ?_;refine(catch_pan w.heap.size (w.heap.size+1) 3 0 k _ _ _ _ _ HP2.out HQ2.out (by omega)).mono ?_;rintro e u' w'' ⟨rfl,rfl,hP3,hQ3,hKL⟩;obtain⟨k0,k1,k2,k3⟩:=hP3.c4;have k4:w''.cell? ⟨w.heap.size+1,0,none⟩=some (.bool true):=hQ3.cell 0
  have hpost:RuP mb vb C (.re k) ks w (.returned (.tuple #[.agg (stA (.re k)),.bool (stB2 (.re k))])) w'':=
   ⟨rfl,HK.out.then hKL (by omega) (by omega),HV.out.k2 hKL (by omega) (by omega),rv,HM.out.k2 hKL (by omega) (by omega),own_mono (own_k2 HO1.out hKL (by omega) (by omega)) hsz⟩
  simpa[Leaves,settle,results,results117,go_sem,k0,k1,k2,k3,k4,stA,stB2,stopE] using hpost
theorem cellsAt_val(w:World)(x:Vl):CellsAt (w.alloc (.cells (vV x) 52)) (.slice (some ⟨w.heap.size,0,none⟩) 1 1) 1 (vlL x):=by
 refine⟨_,_,rfl,fun _=>⟨_,_,rfl,fun j y hj=>?_⟩⟩;rw[Nat.zero_add];have h:=(Bx.new w (vV x) 52).cell j;rw[h];rcases j with _|_|_|j
 ·exact hj
 ·exact hj
 ·exact hj
 ·simp[vlL]at hj
theorem wpList_append_val{w1:World}{ops:Array Oper}{rest:List Oper}{o:Oper}{a:Act}{Q:Exit→Act→World→Prop}(hgd:o.guard=none)(s x:Operand)
  (ho:o.op=.call { callee:=.builtin .append,args:=#[s,x],argTypes:=#[26,26] }) (B:Nat) (v:Value) (L:List Vl) (y:Vl) (hown:w1.ownsRow B 52 3 v L.length (vlLs L))
  (hs:a.eval s=v) (hx:a.eval x=.slice (some ⟨w1.heap.size,0,none⟩) 1 1) (hlen:L.length≤1000000000000) (W0:World) (B0:Nat) (hbel:Below B0 W0 w1) (hB:B≤w1.heap.size) (hB0:B0≤B)
  (h:∀v' w',w'.ownsRow B 52 3 v' (L++[y]).length (vlLs (L++[y]))→Below B0 W0 w'→w1.grownBy w' v.ownBlock→wpList prog ops Q rest (a.put o.dst v') w'):
  wpList prog ops Q (o::rest) a (w1.alloc (.cells (vV y) 52)):=by
 obtain⟨i0,hi,hz0,hz1,hz2⟩:=info_parts infoVl
 refine wpList_append_any hgd s x 26 ho B 52 i0 (.agg #[.int .i64 0,.int .i64 0,.string ⟨#[]⟩]) 3 32 underlying26 hi hz0 hz1 hz2 rfl (by decide) v _ L.length 1 (vlLs L) (vlL y) hs (hown.alloc _) hx (cellsAt_val w1 y) rfl
  (by intro u hu;simp only[vlL,List.mem_cons,List.not_mem_nil,or_false]at hu;rcases hu with rfl|rfl|rfl<;>rfl) (by unfold maxLen;omega) (by omega) W0 B0 (hbel.alloc (Nat.le_trans hB0 hB) _) (by simp;omega) hB0 ?_
 intro v2 w2 hown2 hb2 hgrow;refine h v2 w2 (by rw[vlLs_snoc,List.length_append];exact hown2) hb2 ?_;exact⟨hgrow.os,hgrow.tape,hgrow.output,Nat.le_trans (by simp) hgrow.size,fun k hk hne=>(hgrow.block k (by simp;omega) hne).trans ((World.grownBy_alloc w1 (.cells (vV y) 52) none).block k hk (by simp))⟩
theorem own_valAt{W:World}{B:Nat}{v:Value}{L:List Vl}(h:W.ownsRow B 52 3 v L.length (vlLs L)):CellsAt W v L.length (vlLs L):=by
 rcases own_form h with ⟨rfl,h0⟩|⟨g,cap,rfl,hc,_⟩
 ·have:L=[]:=List.eq_nil_of_length_eq_zero h0
  subst this;exact⟨none,0,rfl,fun hne=>absurd rfl hne⟩
 ·refine⟨_,cap,rfl,fun _=>⟨g,0,rfl,fun j u hj=>?_⟩⟩
  have h1:=h.cells (g:=g) rfl j u hj
  have e:(⟨g,0,none⟩:Addr).add j=⟨g,0+j,none⟩:=by unfold Addr.add;split<;>simp_all
  rw[e]at h1;exact h1
theorem Mp.set{m b:Nat}{L:List Pr}{W:World}(h:Mp m L W)(hne:m≠b)(i:Nat)(u:Value):Mp m L (W.setCell ⟨b,i,none⟩ u):=by
 obtain⟨es,c,h1,h2⟩:=h;exact⟨es,c,(heap_setCell_other W ⟨b,i,none⟩ m u (fun e=>hne (by simpa using e))).trans h1,h2⟩
theorem Mp.grownv{m B k n:Nat}{e:TypeId}{v:Value}{xs:List Value}{L:List Pr}{W W':World}(h:Mp m L W)(hg:W.grownBy W' v.ownBlock)(ho:W.ownsRow B e k v n xs):Mp m L W':=by
 refine h.kept hg (fun q=>?_);obtain⟨es,c,h1,_⟩:=h;rcases ho.2 with ⟨rfl,_⟩|⟨g,cap,cur,rfl,_,h3,_⟩
 ·simp[Value.ownBlock]at q
 ·have hgm:g=m:=by simpa[Value.ownBlock] using q
  rw[hgm,h1]at h3;cases h3
theorem Mp.sets3{m b:Nat}{L:List Pr}{W:World}(h:Mp m L W)(hne:m≠b)(u0 u1 u2:Value):Mp m L (((W.setCell ⟨b,0,none⟩ u0).setCell ⟨b,1,none⟩ u1).setCell ⟨b,2,none⟩ u2):=((h.set hne 0 u0).set hne 1 u1).set hne 2 u2
theorem evalVar_any(mb vm om:Nat)(sa ra wa:Option Addr)(sc rc wc:Nat)(M:List Pr)(al:Bool)(rd wri:List (List UInt8))(V:List Pr)(x:List UInt8)(w:World)(hX:Bx mb #[.slice sa M.length sc,.bool al,.slice ra rd.length rc,.slice wa wri.length wc,.map (some vm),.map (some om),.int .i64 0,.int .i64 0,.slice none 0 0,.slice none 0 0,.slice none 0 0,.slice none 0 0,.string ⟨#[]⟩,.int .i64 0] 143 w)(hV:Mp vm V w)(hin:hasK V x=true):
  Calls prog 119 #[.pointer (some ⟨mb,0,none⟩),.agg #[.int .i64 3,.int .i64 0,.string (bs x),.slice none 0 0]] w fun e w'=>e=.returned (.agg (vV (getP V x)))∧Below w.heap.size w w':=by
 obtain⟨gv,hgv⟩:=ex_ (getP V x);rw[hgv];simp only[vV];have HGV:=h_ hgv;have HIN:=h_ hin;clear hgv hin;have hmw:=hX.lt;have hVw:=hV.lt;have hal0:=((Below.refl w.heap.size w).alloc (Nat.le_refl _) (.cells #[.int .i64 3,.int .i64 0,.string (bs x),.slice none 0 0] 116)).alloc (by simp) (.cells #[.int .i64 0,.int .i64 0,.string ⟨#[]⟩] 52);have hr0:=Bx.new (w.alloc (.cells #[.int .i64 3,.int .i64 0,.string (bs x),.slice none 0 0] 116)) #[.int .i64 0,.int .i64 0,.string ⟨#[]⟩] 52;rw[show (w.alloc (.cells #[.int .i64 3,.int .i64 0,.string (bs x),.slice none 0 0] 116)).heap.size=w.heap.size+1 by simp]at hr0;have HE:=h_ ((Bx.new w #[.int .i64 3,.int .i64 0,.string (bs x),.slice none 0 0] 116).alloc (.cells #[.int .i64 0,.int .i64 0,.string ⟨#[]⟩] 52));have HB:=h_ hal0;have HRB:=h_ hr0;have HX:=h_ (hX.call hal0);have HV:=h_ (hV.call hal0);clear hX hV hal0 hr0;go_enter func119,ntmps119;go_upto_region 1 with (fail);generalize hW:(w.alloc (.cells #[.int .i64 3,.int .i64 0,.string (bs x),.slice none 0 0] 116)).alloc (.cells #[.int .i64 0,.int .i64 0,.string ⟨#[]⟩] 52)=v0 at HB HRB HE HX HV ⊢;clear hW;obtain⟨e0,e1,e2,e3⟩:=HE.out.c4;go_upto_region 7 with (fail);clear e0 e1 e2 e3;have hs0:Bx mb #[.slice sa M.length sc,.bool al,.slice ra rd.length rc,.slice wa wri.length wc,.map (some vm),.map (some om),.int .i64 0,.int .i64 0,.slice none 0 0,.slice none 0 0,.slice none 0 0,.slice none 0 0,.string ⟨#[]⟩,.int .i64 0] 143 v0.drew∧Bx w.heap.size #[.int .i64 3,.int .i64 0,.string (bs x),.slice none 0 0] 116 v0.drew∧Mp vm V v0.drew:=⟨HX.out,HE.out,HV.out⟩;have HS0:=h_ hs0;clear hs0;go_wp2_with fail;refine wp_region_held_drew (S:=(fun w'=>Bx mb #[.slice sa M.length sc,.bool al,.slice ra rd.length rc,.slice wa wri.length wc,.map (some vm),.map (some om),.int .i64 0,.int .i64 0,.slice none 0 0,.slice none 0 0,.slice none 0 0,.slice none 0 0,.string ⟨#[]⟩,.int .i64 0] 143 w'∧Bx w.heap.size #[.int .i64 3,.int .i64 0,.string (bs x),.slice none 0 0] 116 w'∧Mp vm V w')) (by kernel_rfl) ?_ (fun hHeld=>?_)
 ·exact HS0.out
 refine tkX 0 25 ?_;refine tkX 1 26 ?_;refine tkX 2 27 ?_;refine tkY 3 (v:=?vv4) 28 ?yy4 ?_
 case yy4 =>
  intro wq hSw;obtain⟨m0,m1,m2,m3,m4,-⟩:=hSw.1.c14;clear hSw;go_simp
  (try with_reducible rfl)
 refine tkX 4 29 ?_;refine tkY 5 (v:=?vv6) 30 ?yy6 ?_
 case yy6 =>
  intro wq hSw;obtain⟨e0,e1,e2,e3⟩:=hSw.2.1.c4;clear hSw;go_simp
  (try with_reducible rfl)
 refine tkY 6 (v:=?vv7) 31 ?yy7 ?_
 case yy7 =>
  intro wq hSw;have hlk:=run_look hSw.2.2 x;rw[HGV.out,HIN.out]at hlk;simp only[vV]at hlk;clear hSw;go_simp
  (try with_reducible rfl)
 refine tkX 7 24 ?_;refine tkX 8 32 ?_;refine tkX 9 33 ?_;simp only[sA,sB,sC];refine rd1 10 fun K hK=>?_;go_simp;skip
 focus (try go_wp2_with fail)
 refine hK.out _ _ (⟨hHeld.1.alloc _,hHeld.2.1.alloc _,hHeld.2.2.call ((Below.refl _ _).alloc (Nat.le_refl _) _)⟩) fun hHeld=>?_;clear hK K
 (try simp only[Act.put,sA,sB,sC])
 have HN:=h_ (show Bx v0.heap.size #[.int .i64 0,.int .i64 0,.string ⟨#[]⟩] 52 (v0.drew.alloc (.cells #[.int .i64 0,.int .i64 0,.string ⟨#[]⟩] 52)) from Bx.new v0.drew #[.int .i64 0,.int .i64 0,.string ⟨#[]⟩] 52);have HBB:=h_ (show Below w.heap.size w (v0.drew.alloc (.cells #[.int .i64 0,.int .i64 0,.string ⟨#[]⟩] 52)) from btrans HB.out HB.out.size ((Below.refl v0.heap.size v0).drew.alloc (Nat.le_refl _) (.cells #[.int .i64 0,.int .i64 0,.string ⟨#[]⟩] 52)));have HRR:=h_ (show Bx (w.heap.size+1) #[.int .i64 0,.int .i64 0,.string ⟨#[]⟩] 52 (v0.drew.alloc (.cells #[.int .i64 0,.int .i64 0,.string ⟨#[]⟩] 52)) from HRB.out.drew.alloc _);have HH:=h_ (show Bx mb #[.slice sa M.length sc,.bool al,.slice ra rd.length rc,.slice wa wri.length wc,.map (some vm),.map (some om),.int .i64 0,.int .i64 0,.slice none 0 0,.slice none 0 0,.slice none 0 0,.slice none 0 0,.string ⟨#[]⟩,.int .i64 0] 143 (v0.drew.alloc (.cells #[.int .i64 0,.int .i64 0,.string ⟨#[]⟩] 52))∧Bx w.heap.size #[.int .i64 3,.int .i64 0,.string (bs x),.slice none 0 0] 116 (v0.drew.alloc (.cells #[.int .i64 0,.int .i64 0,.string ⟨#[]⟩] 52))∧Mp vm V (v0.drew.alloc (.cells #[.int .i64 0,.int .i64 0,.string ⟨#[]⟩] 52)) from hHeld);have hsz0:=HRB.out.lt;clear hHeld HB HRB HX HE HV HS0
 (try rw[show (v0.alloc (.cells #[.int .i64 0,.int .i64 0,.string ⟨#[]⟩] 52)).drew=v0.drew.alloc (.cells #[.int .i64 0,.int .i64 0,.string ⟨#[]⟩] 52) from rfl])
 generalize hW:v0.drew.alloc (.cells #[.int .i64 0,.int .i64 0,.string ⟨#[]⟩] 52)=v1 at HN HBB HRR HH ⊢;clear hW;have hHeld:=HH.out;clear HH;obtain⟨n0,n1,n2⟩:=HN.out.d3 0 1 2;have g0:=HN.out.free 0;have g1:=HN.out.free 1;have g2:=HN.out.free 2
 have hne1:mb≠v0.heap.size:=by omega
 have hne2:w.heap.size≠v0.heap.size:=by omega
 have hne3:vm≠v0.heap.size:=by omega
 have q1:Bx mb #[.slice sa M.length sc,.bool al,.slice ra rd.length rc,.slice wa wri.length wc,.map (some vm),.map (some om),.int .i64 0,.int .i64 0,.slice none 0 0,.slice none 0 0,.slice none 0 0,.slice none 0 0,.string ⟨#[]⟩,.int .i64 0] 143 v1:=hHeld.1;have q2:Bx w.heap.size #[.int .i64 3,.int .i64 0,.string (bs x),.slice none 0 0] 116 v1:=hHeld.2.1;have q3:Mp vm V v1:=hHeld.2.2;have HKK:=h_ (show Bx mb #[.slice sa M.length sc,.bool al,.slice ra rd.length rc,.slice wa wri.length wc,.map (some vm),.map (some om),.int .i64 0,.int .i64 0,.slice none 0 0,.slice none 0 0,.slice none 0 0,.slice none 0 0,.string ⟨#[]⟩,.int .i64 0] 143 (((v1.setCell ⟨v0.heap.size,0,none⟩ (.int .i64 gv.k)).setCell ⟨v0.heap.size,1,none⟩ (.int .i64 gv.n)).setCell ⟨v0.heap.size,2,none⟩ (.string (bs gv.s)))∧Bx w.heap.size #[.int .i64 3,.int .i64 0,.string (bs x),.slice none 0 0] 116 (((v1.setCell ⟨v0.heap.size,0,none⟩ (.int .i64 gv.k)).setCell ⟨v0.heap.size,1,none⟩ (.int .i64 gv.n)).setCell ⟨v0.heap.size,2,none⟩ (.string (bs gv.s)))∧Mp vm V (((v1.setCell ⟨v0.heap.size,0,none⟩ (.int .i64 gv.k)).setCell ⟨v0.heap.size,1,none⟩ (.int .i64 gv.n)).setCell ⟨v0.heap.size,2,none⟩ (.string (bs gv.s))) from⟨q1.sets3_ne hne1 (.int .i64 gv.k) (.int .i64 gv.n) (.string (bs gv.s)),q2.sets3_ne hne2 (.int .i64 gv.k) (.int .i64 gv.n) (.string (bs gv.s)),q3.sets3 hne3 (.int .i64 gv.k) (.int .i64 gv.n) (.string (bs gv.s))⟩);clear q1 q2 q3;refine rd1 11 fun K hK=>?_;go_simp
 focus (try go_wp2_with fail)
 refine hK.out _ _ (HKK.out) fun hHeld=>?_;clear hK K
 (try simp only[Act.put,sA,sB,sC])
 refine tkX 12 6 ?_;simp only[sA,sB,sC];refine wpAnyH_done (by kernel_rfl) ?_ _;have HN2:=h_ (HN.out.sets3 (.int .i64 gv.k) (.int .i64 gv.n) (.string (bs gv.s)));have HB2:=h_ (below_sets3 HBB.out v0.heap.size (by omega) (.int .i64 gv.k) (.int .i64 gv.n) (.string (bs gv.s)));have HR2:=h_ (HRR.out.sets3_ne (c:=v0.heap.size) (by omega) (.int .i64 gv.k) (.int .i64 gv.n) (.string (bs gv.s)));clear n0 n1 n2 g0 g1 g2 hHeld HN HBB HRR;generalize hW:((v1.setCell ⟨v0.heap.size,0,none⟩ (.int .i64 gv.k)).setCell ⟨v0.heap.size,1,none⟩ (.int .i64 gv.n)).setCell ⟨v0.heap.size,2,none⟩ (.string (bs gv.s))=v2 at HN2 HB2 HR2 ⊢;clear hW;go_wp2_with fail;refine(must_yes _).mono ?_;rintro er w3 ⟨rfl,rfl⟩;obtain⟨x0,x1,x2⟩:=HN2.out.d3 0 1 2;obtain⟨r0,r1,r2⟩:=HR2.out.d3 0 1 2;have f0:=HR2.out.free 0;have f1:=HR2.out.free 1;have f2:=HR2.out.free 2;have HK:=h_ (HR2.out.sets3 (.int .i64 gv.k) (.int .i64 gv.n) (.string (bs gv.s)));go_wp2;have k0:=HK.out.cell 0;have k1:=HK.out.cell 1;have k2:=HK.out.cell 2;simp only[List.getElem?_toArray,List.getElem?_cons_zero,List.getElem?_cons_succ]at k0 k1 k2;refine bodyPost_ret (v:=.agg #[.int .i64 gv.k,.int .i64 gv.n,.string (bs gv.s)]) (by simp[results,results119,go_sem,k0,k1,k2]<;>rfl) rfl ⟨rfl,below_sets3 HB2.out (w.heap.size+1) (by omega) _ _ _⟩
def exL (x:List UInt8):List Value:=[.int .i64 3,.int .i64 0,.string (bs x),.slice none 0 0]
def exLs (L:List (List UInt8)):List Value:=L.flatMap exL
theorem exLs_length(L:List (List UInt8)):(exLs L).length=L.length * 4:=by
 unfold exLs
 induction L with
 | nil=>rfl
 | cons x r ih=>rw[List.flatMap_cons,List.length_append,ih,List.length_cons];show 4+_=_;omega
theorem exLs_get:∀(M:List (List UInt8)) (k:Nat) (h:k<M.length),(exLs M)[k * 4]? = some (.int .i64 3)∧(exLs M)[k * 4+1]? = some (.int .i64 0)∧(exLs M)[k * 4+2]? = some (.string (bs M[k]))∧(exLs M)[k * 4+3]? = some (.slice none 0 0)
 | [],k,h=>by simp at h
 | x::r,0,h=>⟨rfl,rfl,rfl,rfl⟩
 | x::r,k+1,h=>by
  have ih:=exLs_get r k (by simpa using h)
  have e:∀j,(exLs (x::r))[j+4]? = (exLs r)[j]?:=fun j=>by
   show (exL x++exLs r)[j+4]? = _;rw[List.getElem?_append_right (by show 4≤_;omega)];rfl
  refine⟨?_,?_,?_,?_⟩
  ·rw[show (k+1) * 4=k * 4+4 by omega,e];exact ih.1
  ·rw[show (k+1) * 4+1=(k * 4+1)+4 by omega,e];exact ih.2.1
  ·rw[show (k+1) * 4+2=(k * 4+2)+4 by omega,e];exact ih.2.2.1
  ·rw[show (k+1) * 4+3=(k * 4+3)+4 by omega,e];exact ih.2.2.2
theorem ex_cells{W:World}{ad:Option Addr}{n cap:Nat}{M:List (List UInt8)}(h:CellsAt W (.slice ad n cap) n (exLs M)){k:Nat}(hk:k<M.length):∃b off,ad=some ⟨b,off,none⟩∧W.cell? ⟨b,off+k * 4,none⟩=some (.int .i64 3)∧W.cell? ⟨b,off+k * 4+1,none⟩=some (.int .i64 0)∧W.cell? ⟨b,off+k * 4+2,none⟩=some (.string (bs M[k]))∧W.cell? ⟨b,off+k * 4+3,none⟩=some (.slice none 0 0):=by
 obtain⟨a,c,hs,hc⟩:=h;obtain⟨b,off,ha,hcell⟩:=hc (by intro e;have:=exLs_length M;rw[e]at this;simp at this;omega);cases hs;obtain⟨h1,h2,h3,h4⟩:=exLs_get M k hk;exact⟨b,off,ha,hcell _ _ h1,by have:=hcell _ _ h2;rwa [←Nat.add_assoc]at this,by have:=hcell _ _ h3;rwa [←Nat.add_assoc]at this,by have:=hcell _ _ h4;rwa [←Nat.add_assoc]at this⟩
def evS (al:Bool) (rd:List (List UInt8)) (M:List Pr) (op:Int) (l:List Vl):Rs × List (List UInt8):=match l with
 | [a]=>uneS al rd M op a
 | [a,b]=>(binS op a b,[])
 | _=>(.ab 1009,[])
def VarsAre (V:List Pr) (names:List (List UInt8)) (vals:List Vl):Prop:=names.length=vals.length∧∀k (h:k<names.length) (h2:k<vals.length),hasK V names[k]=true∧getP V names[k]=vals[k]
def OkV (v:Vl):Prop:=-9223372036854775808≤v.n∧v.n≤9223372036854775807∧v.s.length≤1000000
theorem grown_drew0{w w':World}{row:Option Nat}(h:w.drew.grownBy w' row):w.grownBy w' row:=⟨h.os,h.tape,h.output,h.size,h.block⟩
theorem evalOp_any(mb vm om:Nat)(sa ra wa:Option Addr)(sc rc wc:Nat)(M:List Pr)(al:Bool)(rd wri:List (List UInt8))(op:Int)(aa:Option Addr)(ac:Nat)(V:List Pr)(names:List (List UInt8))(vals:List Vl)(hop:(vals.length=1∧(op=9∨op=18∨op=20∨op=21∨op=22∨op=23∨op=24))∨(vals.length=2∧4≤op∧op≤19∧op≠9∧op≠18))(hva:VarsAre V names vals)(hok:∀v∈vals,OkV v)(w W0:World)(hX:Bx mb #[.slice sa M.length sc,.bool al,.slice ra rd.length rc,.slice wa wri.length wc,.map (some vm),.map (some om),.int .i64 0,.int .i64 0,.slice none 0 0,.slice none 0 0,.slice none 0 0,.slice none 0 0,.string ⟨#[]⟩,.int .i64 0] 143 w)(hO:Mp om [] w)(hmb:W0.heap.size≤mb)(hW0:Below W0.heap.size W0 w)(hM:CellsAt W0 (.slice sa M.length sc) M.length (prLs M))(hR:StrS W0 (.slice ra rd.length rc) rd)(hl1:M.length≤9000000000000)(hl2:rd.length≤9000000000000)(hV:Mp vm V w)(hA:CellsAt W0 (.slice aa vals.length ac) vals.length (exLs names))(hLd:Laid W0):
  Calls prog 119 #[.pointer (some ⟨mb,0,none⟩),.agg #[.int .i64 op,.int .i64 0,.string ⟨#[]⟩,.slice aa vals.length ac]] w fun e w'=>e=endR (evS al rd M op vals).1∧w.grownBy w' (some mb)∧∃rv,Bx mb #[.slice sa M.length sc,.bool al,.slice ra rd.length rc,.slice wa wri.length wc,.map (some vm),.map (some om),.int .i64 0,.int .i64 0,.slice none 0 0,rv,.slice none 0 0,.slice none 0 0,.string ⟨#[]⟩,.int .i64 0] 143 w'∧w'.ownsRow w.heap.size 9 1 rv (evS al rd M op vals).2.length ((evS al rd M op vals).2.map strV):=by
 obtain⟨⟨R,ks⟩,hU⟩:∃x,evS al rd M op vals=x:=⟨_,rfl⟩;rw[hU];simp only;have hmw:=hX.lt;have hsz:=hW0.size;have HU:=h_ hU;have HM:=h_ hM;have HRS:=h_ hR;have HLD:=h_ hLd;have HVA:=h_ hva.2;have hnl:=hva.1;have HOK:=h_ hok;have HAR:=h_ hA;clear hU hM hR hLd hva hok hA
 have hvl:vals.length≤2:=by omega
 have h4:4≤op:=by omega
 have HOP:=h_ hop;clear hop
 have n1:(op==1)=false:=by rw[beq_eq_false_iff_ne];omega
 have n2:(op==2)=false:=by rw[beq_eq_false_iff_ne];omega
 have n3:(op==3)=false:=by rw[beq_eq_false_iff_ne];omega
 have hal0:=((Below.refl w.heap.size w).alloc (Nat.le_refl _) (.cells #[.int .i64 op,.int .i64 0,.string ⟨#[]⟩,.slice aa vals.length ac] 116)).alloc (by simp) (.cells #[.int .i64 0,.int .i64 0,.string ⟨#[]⟩] 52);have hr0:=Bx.new (w.alloc (.cells #[.int .i64 op,.int .i64 0,.string ⟨#[]⟩,.slice aa vals.length ac] 116)) #[.int .i64 0,.int .i64 0,.string ⟨#[]⟩] 52;rw[show (w.alloc (.cells #[.int .i64 op,.int .i64 0,.string ⟨#[]⟩,.slice aa vals.length ac] 116)).heap.size=w.heap.size+1 by simp]at hr0;have HE:=h_ ((Bx.new w #[.int .i64 op,.int .i64 0,.string ⟨#[]⟩,.slice aa vals.length ac] 116).alloc (.cells #[.int .i64 0,.int .i64 0,.string ⟨#[]⟩] 52));have HG:=h_ (grown_below hal0 (some mb));have HRB:=h_ hr0;have HX:=h_ (hX.call hal0);have HO:=h_ (hO.call hal0);have HV:=h_ (hV.call hal0);have HW:=h_ (btrans hW0 hsz hal0);clear hX hO hV hW0 hal0 hr0;go_enter func119,ntmps119;go_upto_region 1 with (fail);generalize hW:(w.alloc (.cells #[.int .i64 op,.int .i64 0,.string ⟨#[]⟩,.slice aa vals.length ac] 116)).alloc (.cells #[.int .i64 0,.int .i64 0,.string ⟨#[]⟩] 52)=v0 at HG HRB HE HX HO HV HW ⊢;clear hW;obtain⟨e0,e1,e2,e3⟩:=HE.out.c4;have HZ:=h_ (own_nil v0 (w.heap.size+2) 52 3);go_wp2;go_loopw [7,40] (fun v i wr=>∃(k:Nat) (A:List Vl),k≤vals.length∧i=.int .i64 k∧A.length=k∧Hid (A=vals.take k)∧Hid (Bx mb #[.slice sa M.length sc,.bool al,.slice ra rd.length rc,.slice wa wri.length wc,.map (some vm),.map (some om),.int .i64 0,.int .i64 0,.slice none 0 0,.slice none 0 0,.slice none 0 0,.slice none 0 0,.string ⟨#[]⟩,.int .i64 0] 143 wr)∧Hid (Mp om [] wr)∧Hid (Mp vm V wr)∧Hid (Bx w.heap.size #[.int .i64 op,.int .i64 0,.string ⟨#[]⟩,.slice aa vals.length ac] 116 wr)∧Hid (Bx (w.heap.size+1) #[.int .i64 0,.int .i64 0,.string ⟨#[]⟩] 52 wr)∧Hid (w.grownBy wr (some mb))∧Hid (wr.ownsRow (w.heap.size+2) 52 3 v A.length (vlLs A))∧Below W0.heap.size W0 wr) (fun _ i _=>vals.length-(intOf i).toNat)
 case atStart=>exact⟨0,[],Nat.zero_le _,by first|exact True.intro|rfl,rfl,h_ rfl,HX,HO,HV,HE,HRB,HG,HZ,HW.out⟩
 case round =>
  clear e0 e1 e2 e3 HX HO HV HE HRB HG HZ HW;obtain⟨k,A,hk,rfl,hAk,HA,HX,HO,HV,HE,HRB,HG,HOW,hW⟩:=hrel;have HW:=h_ hW;clear hW;obtain⟨e0,e1,e2,e3⟩:=HE.out.c4;by_cases hlt:k<vals.length
  ·have hlt':(k:Int)<(vals.length:Int):=by omega
   have hkb:(0:Int)≤(k:Int)∧(k:Int)<(vals.length:Int):=⟨by omega,by omega⟩
   have hw1:IntKind.i64.wrap ((k:Int)+1)=(k:Int)+1:=by rw[IntKind.wrap_i64];omega
   have hln:k<names.length:=by omega
   obtain⟨b,off,rfl,p0,p1,p2,p3⟩:=ex_cells (HAR.out.below HW.out) hln;obtain⟨x,hx⟩:=ex_ (names[k]);obtain⟨y,hy⟩:=ex_ (vals[k]);obtain⟨hin,hgt⟩:=HVA.out k hln hlt;rw[hx]at p2 hin hgt;rw[hy]at hgt;have HY:=h_ hy;clear hx hy;have hb1:=(Below.refl wr.heap.size wr).alloc (Nat.le_refl _) (.cells #[.int .i64 3,.int .i64 0,.string (bs x),.slice none 0 0] 116);have HXB:=h_ (Bx.new wr #[.int .i64 3,.int .i64 0,.string (bs x),.slice none 0 0] 116);have HG:=h_ (HG.out.trans (grown_below hb1 _));have HE:=HE.out.k hb1;have HRB:=HRB.out.k hb1;have HX:=HX.out.k hb1;have HO:=HO.out.k hb1;have HV:=HV.out.k hb1;have HOW:=h_ (own_below HOW.out hb1);have HW:=h_ (btrans HW.out HW.out.size hb1);clear hb1 e0 e1 e2 e3;go_upto_region 14 with (fail);generalize hW:wr.alloc (.cells #[.int .i64 3,.int .i64 0,.string (bs x),.slice none 0 0] 116)=v1 at HXB HG HE HRB HX HO HV HOW HW ⊢;clear hW p0 p1 p2 p3;obtain⟨x0,x1,x2,x3⟩:=HXB.out.c4;obtain⟨yk,yn,ys⟩:=y;have HN:=h_ (show A++[⟨yk,yn,ys⟩]=vals.take (k+1) by rw[HA.out,List.take_succ_eq_append_getElem hlt,HY.out]);go_wp2_with (first|(go_at_call 119;refine(evalVar_any mb vm om sa ra wa sc rc wc M al rd wri V x _ HX.out HV.out hin).mono ?_;rw[hgt];rintro er w2 ⟨rfl,hb2⟩;simp only[vV];have HG:=h_ (HG.out.trans (grown_below hb2 _));have HE:=HE.out.k hb2;have HRB:=HRB.out.k hb2;have HX:=HX.out.k hb2;have HO:=HO.out.k hb2;have HV:=HV.out.k hb2;have HOW:=h_ (own_below HOW.out hb2);have HW:=h_ (btrans HW.out HW.out.size hb2);clear hb2 x0 x1 x2 x3)|(at_builtin;refine wpList_append_val rfl _ _ rfl (w.heap.size+2) _ A ⟨yk,yn,ys⟩ HOW.out rfl rfl (by omega) W0 W0.heap.size HW.out HRB.out.lt (by omega) ?_;intro v5 w5 hown5 hb5 hg5;have HX:=h_ (HX.out.grown hg5 HOW.out (by decide));have HE:=h_ (HE.out.grown hg5 HOW.out (by decide));have HRB:=h_ (HRB.out.kept hg5 (fun e=>by have:=(HOW.out.lt _ e).1;omega));have HO:=h_ (HO.out.grownv hg5 HOW.out);have HV:=h_ (HV.out.grownv hg5 HOW.out);have HG:=h_ (HG.out.andThen hg5 (fun j hj=>.inl (by have:=(HOW.out.lt j hj).1;omega)));have HW:=h_ hb5;have HOW:=h_ hown5;clear hg5 hb5 hown5));go_wp2;go_roundw
   case rel=>exact⟨k+1,A++[⟨yk,yn,ys⟩],by omega,by go_num,by rw[List.length_append,hAk];rfl,HN,HX,HO,HV,HE,HRB,HG,HOW,HW.out⟩
   case measure=>simp[intOf];omega
  ·have hlt':¬(k:Int)<(vals.length:Int):=by omega
   have hAv:A=vals:=HA.out.trans (List.take_of_length_le (by omega));subst hAv;clear HA hlt hk;obtain⟨la,lc,rfl⟩:=own_sl HOW.out;have HCL:=h_ (own_valAt HOW.out);rcases A with _|⟨a,_|⟨c,_|⟨d,r⟩⟩⟩
   ·have:=HOP.out;simp at this
   rotate_right
   ·simp at hvl
   ·simp only[List.length_cons,List.length_nil]at HOW HCL HE e0 e1 e2 e3 hvl ⊢
    obtain⟨lb,lo,rfl,c0,c1,c2⟩:=vl_cells HCL.out (k:=0) (by simp);simp only[List.getElem_cons_zero,Nat.zero_mul,Nat.add_zero]at c0 c1 c2;have hlbw:w.heap.size+2≤lb:=(HOW.out.lt lb rfl).1;have HEE:=h_ (show Bx w.heap.size #[.int .i64 op,.int .i64 0,.string ⟨#[]⟩,.slice aa 1 ac] 116 wr from HE.out);have hsw:=HRB.out.lt;have hnl2:names.length=1:=hnl;have hop1:op=9∨op=18∨op=20∨op=21∨op=22∨op=23∨op=24:=(HOP.out.resolve_right (by simp)).2;have hoa:=HOK.out a (by simp);have HU1:=h_ (show uneS al rd M op a=(R,ks) from HU.out);clear HU;rcases R with v|e|e
    ·skip
     have hs0:((fun w'=>Bx w.heap.size #[.int .i64 op,.int .i64 0,.string ⟨#[]⟩,.slice aa 1 ac] 116 w'∧w'.cell? ⟨lb,lo,none⟩=some (.int .i64 a.k)∧w'.cell? ⟨lb,lo+1,none⟩=some (.int .i64 a.n)∧w'.cell? ⟨lb,lo+2,none⟩=some (.string (bs a.s)))) wr.drew:=⟨HEE.out,c0,c1,c2⟩;have HS0:=h_ hs0;clear hs0;go_wp2_with fail;refine wp_region_held_drew (S:=(fun w'=>Bx w.heap.size #[.int .i64 op,.int .i64 0,.string ⟨#[]⟩,.slice aa 1 ac] 116 w'∧w'.cell? ⟨lb,lo,none⟩=some (.int .i64 a.k)∧w'.cell? ⟨lb,lo+1,none⟩=some (.int .i64 a.n)∧w'.cell? ⟨lb,lo+2,none⟩=some (.string (bs a.s)))) (by kernel_rfl) ?_ (fun hHeld=>?_)
     ·exact HS0.out
     refine tkX 0 55 ?_;refine tkX 1 56 ?_;refine tkY 2 (v:=?vv14) 57 ?yy14 ?_
     case yy14 =>
      intro wq hSw;obtain⟨hE,c0,c1,c2⟩:=id hSw;obtain⟨e0,e1,e2,e3⟩:=hE.c4;clear hSw;go_simp
      (try with_reducible rfl)
     refine tkX 3 58 ?_;refine tkX 4 59 ?_;refine tkY 5 (v:=?vv17) 60 ?yy17 ?_
     case yy17 =>
      intro wq hSw;obtain⟨hE,c0,c1,c2⟩:=id hSw;obtain⟨e0,e1,e2,e3⟩:=hE.c4;clear hSw;go_simp
      (try with_reducible rfl)
     simp only[sA,sB,sC];refine rd1 6 fun K hK=>?_;go_simp
     (refine(unary_any mb vm om sa ra wa sc rc wc M al rd wri op a hop1 hoa.1 hoa.2.1 hoa.2.2 wr.drew W0 HX.out HO.out hmb HW.out.drew HM.out HRS.out hl1 hl2 HLD.out).mono ?_;rw[HU1.out];rintro er u1 ⟨rfl,hg2,rv,hx2,ho2⟩;simp only[endR,vV])
     have ho2:=own_mono ho2 (show w.heap.size≤wr.heap.size from by omega);have HG2:=h_ (HG.out.trans (grown_drew0 hg2));have HX2:=h_ hx2;have HO2:=h_ ho2;have HR2:=h_ (HRB.out.kept (grown_drew0 hg2) (by simp;omega));have HG0:=h_ hg2;clear hx2 ho2 hg2;refine hK.out _ _ (⟨hHeld.1.kept HG0.out (by simp;omega),HG0.out.cell hHeld.2.1 (by simp;omega),HG0.out.cell hHeld.2.2.1 (by simp;omega),HG0.out.cell hHeld.2.2.2 (by simp;omega)⟩) fun hHeld=>?_;clear hK K
     (try simp only[Act.put,sA,sB,sC])
     obtain⟨r0,r1,r2⟩:=HR2.out.d3 0 1 2;have f0:=HR2.out.free 0;have f1:=HR2.out.free 1;have f2:=HR2.out.free 2;have HKK:=h_ (show ((fun w'=>Bx w.heap.size #[.int .i64 op,.int .i64 0,.string ⟨#[]⟩,.slice aa 1 ac] 116 w'∧w'.cell? ⟨lb,lo,none⟩=some (.int .i64 a.k)∧w'.cell? ⟨lb,lo+1,none⟩=some (.int .i64 a.n)∧w'.cell? ⟨lb,lo+2,none⟩=some (.string (bs a.s)))) (((u1.setCell ⟨w.heap.size+1,0,none⟩ (.int .i64 v.k)).setCell ⟨w.heap.size+1,1,none⟩ (.int .i64 v.n)).setCell ⟨w.heap.size+1,2,none⟩ (.string (bs v.s))) from⟨hHeld.1.sets3_ne (c:=w.heap.size+1) (by omega) (.int .i64 v.k) (.int .i64 v.n) (.string (bs v.s)),cell1_set _ (by omega) (cell1_set _ (by omega) (cell1_set _ (by omega) hHeld.2.1)),cell1_set _ (by omega) (cell1_set _ (by omega) (cell1_set _ (by omega) hHeld.2.2.1)),cell1_set _ (by omega) (cell1_set _ (by omega) (cell1_set _ (by omega) hHeld.2.2.2))⟩);refine rd1 7 fun K hK=>?_;go_simp;refine hK.out _ _ ?_ (fun hHeld2=>?_)
     ·exact HKK.out
     clear hK K
     (try simp only[Act.put,sA,sB,sC])
     refine wpAnyH_done (by kernel_rfl) ?_ _;have HK:=h_ (HR2.out.sets3 (.int .i64 v.k) (.int .i64 v.n) (.string (bs v.s)));have HFIN:=h_ (fin_sets3 HG2.out HX2.out HR2.out (by decide) (by omega) (by omega) HO2.out (.int .i64 v.k) (.int .i64 v.n) (.string (bs v.s)));clear r0 r1 r2 f0 f1 f2 hHeld hHeld2 HKK HS0;generalize hWE:((u1.setCell ⟨w.heap.size+1,0,none⟩ (.int .i64 v.k)).setCell ⟨w.heap.size+1,1,none⟩ (.int .i64 v.n)).setCell ⟨w.heap.size+1,2,none⟩ (.string (bs v.s))=WE at HK HFIN ⊢;clear hWE;go_wp2;have k0:=HK.out.cell 0;have k1:=HK.out.cell 1;have k2:=HK.out.cell 2;simp only[List.getElem?_toArray,List.getElem?_cons_zero,List.getElem?_cons_succ]at k0 k1 k2;refine bodyPost_ret (v:=.agg #[.int .i64 v.k,.int .i64 v.n,.string (bs v.s)]) (by simp[results,results119,go_sem,k0,k1,k2]<;>rfl) rfl ⟨rfl,HFIN.out.1,_,HFIN.out.2.1,HFIN.out.2.2⟩
    ·skip
     have hs0:((fun w'=>Bx w.heap.size #[.int .i64 op,.int .i64 0,.string ⟨#[]⟩,.slice aa 1 ac] 116 w'∧w'.cell? ⟨lb,lo,none⟩=some (.int .i64 a.k)∧w'.cell? ⟨lb,lo+1,none⟩=some (.int .i64 a.n)∧w'.cell? ⟨lb,lo+2,none⟩=some (.string (bs a.s)))) wr.drew:=⟨HEE.out,c0,c1,c2⟩;have HS0:=h_ hs0;clear hs0;go_wp2_with fail;refine wp_region_held_drew (S:=(fun w'=>Bx w.heap.size #[.int .i64 op,.int .i64 0,.string ⟨#[]⟩,.slice aa 1 ac] 116 w'∧w'.cell? ⟨lb,lo,none⟩=some (.int .i64 a.k)∧w'.cell? ⟨lb,lo+1,none⟩=some (.int .i64 a.n)∧w'.cell? ⟨lb,lo+2,none⟩=some (.string (bs a.s)))) (by kernel_rfl) ?_ (fun hHeld=>?_)
     ·exact HS0.out
     refine tkX 0 55 ?_;refine tkX 1 56 ?_;refine tkY 2 (v:=?vv20) 57 ?yy20 ?_
     case yy20 =>
      intro wq hSw;obtain⟨hE,c0,c1,c2⟩:=id hSw;obtain⟨e0,e1,e2,e3⟩:=hE.c4;clear hSw;go_simp
      (try with_reducible rfl)
     refine tkX 3 58 ?_;refine tkX 4 59 ?_;refine tkY 5 (v:=?vv23) 60 ?yy23 ?_
     case yy23 =>
      intro wq hSw;obtain⟨hE,c0,c1,c2⟩:=id hSw;obtain⟨e0,e1,e2,e3⟩:=hE.c4;clear hSw;go_simp
      (try with_reducible rfl)
     simp only[sA,sB,sC];refine rd1 6 fun K hK=>?_;go_simp
     (refine(unary_any mb vm om sa ra wa sc rc wc M al rd wri op a hop1 hoa.1 hoa.2.1 hoa.2.2 wr.drew W0 HX.out HO.out hmb HW.out.drew HM.out HRS.out hl1 hl2 HLD.out).mono ?_;rw[HU1.out];rintro er u1 ⟨rfl,hg2,rv,hx2,ho2⟩;simp only[endR])
     have ho2:=own_mono ho2 (show w.heap.size≤wr.heap.size from by omega);have HG2:=h_ (HG.out.trans (grown_drew0 hg2));have HX2:=h_ hx2;have HO2:=h_ ho2;have HR2:=h_ (HRB.out.kept (grown_drew0 hg2) (by simp;omega));have HG0:=h_ hg2;clear hx2 ho2 hg2;go_wp2;exact⟨(by first|exact True.intro|rfl),rfl,HG2.out,_,HX2.out,HO2.out⟩
    ·skip
     have hs0:((fun w'=>Bx w.heap.size #[.int .i64 op,.int .i64 0,.string ⟨#[]⟩,.slice aa 1 ac] 116 w'∧w'.cell? ⟨lb,lo,none⟩=some (.int .i64 a.k)∧w'.cell? ⟨lb,lo+1,none⟩=some (.int .i64 a.n)∧w'.cell? ⟨lb,lo+2,none⟩=some (.string (bs a.s)))) wr.drew:=⟨HEE.out,c0,c1,c2⟩;have HS0:=h_ hs0;clear hs0;go_wp2_with fail;refine wp_region_held_drew (S:=(fun w'=>Bx w.heap.size #[.int .i64 op,.int .i64 0,.string ⟨#[]⟩,.slice aa 1 ac] 116 w'∧w'.cell? ⟨lb,lo,none⟩=some (.int .i64 a.k)∧w'.cell? ⟨lb,lo+1,none⟩=some (.int .i64 a.n)∧w'.cell? ⟨lb,lo+2,none⟩=some (.string (bs a.s)))) (by kernel_rfl) ?_ (fun hHeld=>?_)
     ·exact HS0.out
     refine tkX 0 55 ?_;refine tkX 1 56 ?_;refine tkY 2 (v:=?vv26) 57 ?yy26 ?_
     case yy26 =>
      intro wq hSw;obtain⟨hE,c0,c1,c2⟩:=id hSw;obtain⟨e0,e1,e2,e3⟩:=hE.c4;clear hSw;go_simp
      (try with_reducible rfl)
     refine tkX 3 58 ?_;refine tkX 4 59 ?_;refine tkY 5 (v:=?vv29) 60 ?yy29 ?_
     case yy29 =>
      intro wq hSw;obtain⟨hE,c0,c1,c2⟩:=id hSw;obtain⟨e0,e1,e2,e3⟩:=hE.c4;clear hSw;go_simp
      (try with_reducible rfl)
     simp only[sA,sB,sC];refine rd1 6 fun K hK=>?_;go_simp
     (refine(unary_any mb vm om sa ra wa sc rc wc M al rd wri op a hop1 hoa.1 hoa.2.1 hoa.2.2 wr.drew W0 HX.out HO.out hmb HW.out.drew HM.out HRS.out hl1 hl2 HLD.out).mono ?_;rw[HU1.out];rintro er u1 ⟨rfl,hg2,rv,hx2,ho2⟩;simp only[endR])
     have ho2:=own_mono ho2 (show w.heap.size≤wr.heap.size from by omega);have HG2:=h_ (HG.out.trans (grown_drew0 hg2));have HX2:=h_ hx2;have HO2:=h_ ho2;have HR2:=h_ (HRB.out.kept (grown_drew0 hg2) (by simp;omega));have HG0:=h_ hg2;clear hx2 ho2 hg2;go_wp2;exact⟨(by first|exact True.intro|rfl),rfl,HG2.out,_,HX2.out,HO2.out⟩
   ·simp only[List.length_cons,List.length_nil]at HOW HCL HE e0 e1 e2 e3 hvl ⊢
    obtain⟨lb,lo,rfl,c0,c1,c2⟩:=vl_cells HCL.out (k:=0) (by simp);simp only[List.getElem_cons_zero,Nat.zero_mul,Nat.add_zero]at c0 c1 c2;obtain⟨lb2,lo2,hlbe,c3,c4,c5⟩:=vl_cells HCL.out (k:=1) (by simp);cases hlbe;simp only[List.getElem_cons_succ,List.getElem_cons_zero,Nat.one_mul]at c3 c4 c5;have hlbw:w.heap.size+2≤lb:=(HOW.out.lt lb rfl).1;have HEE:=h_ (show Bx w.heap.size #[.int .i64 op,.int .i64 0,.string ⟨#[]⟩,.slice aa 2 ac] 116 wr from HE.out);have hsw:=HRB.out.lt;have hnl2:names.length=2:=hnl;have hop2:4≤op∧op≤19∧op≠9∧op≠18:=(HOP.out.resolve_left (by simp)).2;have hoa:=HOK.out a (by simp);have hoc:=HOK.out c (by simp);have hUU:=pair_eq (show (binS op a c,([]:List (List UInt8)))=(R,ks) from HU.out);obtain⟨hU1,rfl⟩:=hUU;have HU1:=h_ hU1;clear HU hU1;rcases R with v|e|e
    ·skip
     have hs0:((fun w'=>Bx w.heap.size #[.int .i64 op,.int .i64 0,.string ⟨#[]⟩,.slice aa 2 ac] 116 w'∧w'.cell? ⟨lb,lo,none⟩=some (.int .i64 a.k)∧w'.cell? ⟨lb,lo+1,none⟩=some (.int .i64 a.n)∧w'.cell? ⟨lb,lo+2,none⟩=some (.string (bs a.s))∧w'.cell? ⟨lb,lo+3,none⟩=some (.int .i64 c.k)∧w'.cell? ⟨lb,lo+3+1,none⟩=some (.int .i64 c.n)∧w'.cell? ⟨lb,lo+3+2,none⟩=some (.string (bs c.s)))) wr.drew:=⟨HEE.out,c0,c1,c2,c3,c4,c5⟩;have HS0:=h_ hs0;clear hs0;go_wp2_with fail;refine wp_region_held_drew (S:=(fun w'=>Bx w.heap.size #[.int .i64 op,.int .i64 0,.string ⟨#[]⟩,.slice aa 2 ac] 116 w'∧w'.cell? ⟨lb,lo,none⟩=some (.int .i64 a.k)∧w'.cell? ⟨lb,lo+1,none⟩=some (.int .i64 a.n)∧w'.cell? ⟨lb,lo+2,none⟩=some (.string (bs a.s))∧w'.cell? ⟨lb,lo+3,none⟩=some (.int .i64 c.k)∧w'.cell? ⟨lb,lo+3+1,none⟩=some (.int .i64 c.n)∧w'.cell? ⟨lb,lo+3+2,none⟩=some (.string (bs c.s)))) (by kernel_rfl) ?_ (fun hHeld=>?_)
     ·exact HS0.out
     refine tkX 0 64 ?_;refine tkY 1 (v:=?vv31) 65 ?yy31 ?_
     case yy31 =>
      intro wq hSw;obtain⟨hE,c0,c1,c2,c3,c4,c5⟩:=id hSw;obtain⟨e0,e1,e2,e3⟩:=hE.c4;clear hSw;go_simp
      (try with_reducible rfl)
     refine tkX 2 66 ?_;refine tkX 3 67 ?_;refine tkY 4 (v:=?vv34) 68 ?yy34 ?_
     case yy34 =>
      intro wq hSw;obtain⟨hE,c0,c1,c2,c3,c4,c5⟩:=id hSw;obtain⟨e0,e1,e2,e3⟩:=hE.c4;clear hSw;go_simp
      (try with_reducible rfl)
     refine tkX 5 69 ?_;refine tkX 6 70 ?_;refine tkY 7 (v:=?vv37) 71 ?yy37 ?_
     case yy37 =>
      intro wq hSw;obtain⟨hE,c0,c1,c2,c3,c4,c5⟩:=id hSw;obtain⟨e0,e1,e2,e3⟩:=hE.c4;clear hSw;go_simp
      (try with_reducible rfl)
     simp only[sA,sB,sC];refine rd1 8 fun K hK=>?_;go_simp
     (refine(ibinary_any op a c wr.drew hop2.1 hop2.2.1 hop2.2.2.1 hop2.2.2.2 hoa.1 hoa.2.1 hoc.1 hoc.2.1 hoa.2.2 hoc.2.2).mono ?_;rw[HU1.out];rintro er u1 ⟨rfl,hbb⟩;simp only[endR,vV])
     have hg2:wr.drew.grownBy u1 (some mb):=grown_below hbb _;have hx2:=HX.out.call (show Below wr.heap.size wr u1 from⟨hbb.os,hbb.tape,hbb.output,hbb.size,hbb.block⟩);have ho2:=own_nil u1 w.heap.size 9 1;clear hbb;have HG2:=h_ (HG.out.trans (grown_drew0 hg2));have HX2:=h_ hx2;have HO2:=h_ ho2;have HR2:=h_ (HRB.out.kept (grown_drew0 hg2) (by simp;omega));have HG0:=h_ hg2;clear hx2 ho2 hg2;refine hK.out _ _ (⟨hHeld.1.kept HG0.out (by simp;omega),HG0.out.cell hHeld.2.1 (by simp;omega),HG0.out.cell hHeld.2.2.1 (by simp;omega),HG0.out.cell hHeld.2.2.2.1 (by simp;omega),HG0.out.cell hHeld.2.2.2.2.1 (by simp;omega),HG0.out.cell hHeld.2.2.2.2.2.1 (by simp;omega),HG0.out.cell hHeld.2.2.2.2.2.2 (by simp;omega)⟩) fun hHeld=>?_;clear hK K
     (try simp only[Act.put,sA,sB,sC])
     obtain⟨r0,r1,r2⟩:=HR2.out.d3 0 1 2;have f0:=HR2.out.free 0;have f1:=HR2.out.free 1;have f2:=HR2.out.free 2;have HKK:=h_ (show ((fun w'=>Bx w.heap.size #[.int .i64 op,.int .i64 0,.string ⟨#[]⟩,.slice aa 2 ac] 116 w'∧w'.cell? ⟨lb,lo,none⟩=some (.int .i64 a.k)∧w'.cell? ⟨lb,lo+1,none⟩=some (.int .i64 a.n)∧w'.cell? ⟨lb,lo+2,none⟩=some (.string (bs a.s))∧w'.cell? ⟨lb,lo+3,none⟩=some (.int .i64 c.k)∧w'.cell? ⟨lb,lo+3+1,none⟩=some (.int .i64 c.n)∧w'.cell? ⟨lb,lo+3+2,none⟩=some (.string (bs c.s)))) (((u1.setCell ⟨w.heap.size+1,0,none⟩ (.int .i64 v.k)).setCell ⟨w.heap.size+1,1,none⟩ (.int .i64 v.n)).setCell ⟨w.heap.size+1,2,none⟩ (.string (bs v.s))) from⟨hHeld.1.sets3_ne (c:=w.heap.size+1) (by omega) (.int .i64 v.k) (.int .i64 v.n) (.string (bs v.s)),cell1_set _ (by omega) (cell1_set _ (by omega) (cell1_set _ (by omega) hHeld.2.1)),cell1_set _ (by omega) (cell1_set _ (by omega) (cell1_set _ (by omega) hHeld.2.2.1)),cell1_set _ (by omega) (cell1_set _ (by omega) (cell1_set _ (by omega) hHeld.2.2.2.1)),cell1_set _ (by omega) (cell1_set _ (by omega) (cell1_set _ (by omega) hHeld.2.2.2.2.1)),cell1_set _ (by omega) (cell1_set _ (by omega) (cell1_set _ (by omega) hHeld.2.2.2.2.2.1)),cell1_set _ (by omega) (cell1_set _ (by omega) (cell1_set _ (by omega) hHeld.2.2.2.2.2.2))⟩);refine rd1 9 fun K hK=>?_;go_simp;refine hK.out _ _ ?_ (fun hHeld2=>?_)
     ·exact HKK.out
     clear hK K
     (try simp only[Act.put,sA,sB,sC])
     refine wpAnyH_done (by kernel_rfl) ?_ _;have HK:=h_ (HR2.out.sets3 (.int .i64 v.k) (.int .i64 v.n) (.string (bs v.s)));have HFIN:=h_ (fin_sets3 HG2.out HX2.out HR2.out (by decide) (by omega) (by omega) HO2.out (.int .i64 v.k) (.int .i64 v.n) (.string (bs v.s)));clear r0 r1 r2 f0 f1 f2 hHeld hHeld2 HKK HS0;generalize hWE:((u1.setCell ⟨w.heap.size+1,0,none⟩ (.int .i64 v.k)).setCell ⟨w.heap.size+1,1,none⟩ (.int .i64 v.n)).setCell ⟨w.heap.size+1,2,none⟩ (.string (bs v.s))=WE at HK HFIN ⊢;clear hWE;go_wp2;have k0:=HK.out.cell 0;have k1:=HK.out.cell 1;have k2:=HK.out.cell 2;simp only[List.getElem?_toArray,List.getElem?_cons_zero,List.getElem?_cons_succ]at k0 k1 k2;refine bodyPost_ret (v:=.agg #[.int .i64 v.k,.int .i64 v.n,.string (bs v.s)]) (by simp[results,results119,go_sem,k0,k1,k2]<;>rfl) rfl ⟨rfl,HFIN.out.1,_,HFIN.out.2.1,HFIN.out.2.2⟩
    ·skip
     have hs0:((fun w'=>Bx w.heap.size #[.int .i64 op,.int .i64 0,.string ⟨#[]⟩,.slice aa 2 ac] 116 w'∧w'.cell? ⟨lb,lo,none⟩=some (.int .i64 a.k)∧w'.cell? ⟨lb,lo+1,none⟩=some (.int .i64 a.n)∧w'.cell? ⟨lb,lo+2,none⟩=some (.string (bs a.s))∧w'.cell? ⟨lb,lo+3,none⟩=some (.int .i64 c.k)∧w'.cell? ⟨lb,lo+3+1,none⟩=some (.int .i64 c.n)∧w'.cell? ⟨lb,lo+3+2,none⟩=some (.string (bs c.s)))) wr.drew:=⟨HEE.out,c0,c1,c2,c3,c4,c5⟩;have HS0:=h_ hs0;clear hs0;go_wp2_with fail;refine wp_region_held_drew (S:=(fun w'=>Bx w.heap.size #[.int .i64 op,.int .i64 0,.string ⟨#[]⟩,.slice aa 2 ac] 116 w'∧w'.cell? ⟨lb,lo,none⟩=some (.int .i64 a.k)∧w'.cell? ⟨lb,lo+1,none⟩=some (.int .i64 a.n)∧w'.cell? ⟨lb,lo+2,none⟩=some (.string (bs a.s))∧w'.cell? ⟨lb,lo+3,none⟩=some (.int .i64 c.k)∧w'.cell? ⟨lb,lo+3+1,none⟩=some (.int .i64 c.n)∧w'.cell? ⟨lb,lo+3+2,none⟩=some (.string (bs c.s)))) (by kernel_rfl) ?_ (fun hHeld=>?_)
     ·exact HS0.out
     refine tkX 0 64 ?_;refine tkY 1 (v:=?vv39) 65 ?yy39 ?_
     case yy39 =>
      intro wq hSw;obtain⟨hE,c0,c1,c2,c3,c4,c5⟩:=id hSw;obtain⟨e0,e1,e2,e3⟩:=hE.c4;clear hSw;go_simp
      (try with_reducible rfl)
     refine tkX 2 66 ?_;refine tkX 3 67 ?_;refine tkY 4 (v:=?vv42) 68 ?yy42 ?_
     case yy42 =>
      intro wq hSw;obtain⟨hE,c0,c1,c2,c3,c4,c5⟩:=id hSw;obtain⟨e0,e1,e2,e3⟩:=hE.c4;clear hSw;go_simp
      (try with_reducible rfl)
     refine tkX 5 69 ?_;refine tkX 6 70 ?_;refine tkY 7 (v:=?vv45) 71 ?yy45 ?_
     case yy45 =>
      intro wq hSw;obtain⟨hE,c0,c1,c2,c3,c4,c5⟩:=id hSw;obtain⟨e0,e1,e2,e3⟩:=hE.c4;clear hSw;go_simp
      (try with_reducible rfl)
     simp only[sA,sB,sC];refine rd1 8 fun K hK=>?_;go_simp
     (refine(ibinary_any op a c wr.drew hop2.1 hop2.2.1 hop2.2.2.1 hop2.2.2.2 hoa.1 hoa.2.1 hoc.1 hoc.2.1 hoa.2.2 hoc.2.2).mono ?_;rw[HU1.out];rintro er u1 ⟨rfl,hbb⟩;simp only[endR])
     have hg2:wr.drew.grownBy u1 (some mb):=grown_below hbb _;have hx2:=HX.out.call (show Below wr.heap.size wr u1 from⟨hbb.os,hbb.tape,hbb.output,hbb.size,hbb.block⟩);have ho2:=own_nil u1 w.heap.size 9 1;clear hbb;have HG2:=h_ (HG.out.trans (grown_drew0 hg2));have HX2:=h_ hx2;have HO2:=h_ ho2;have HR2:=h_ (HRB.out.kept (grown_drew0 hg2) (by simp;omega));have HG0:=h_ hg2;clear hx2 ho2 hg2;go_wp2;exact⟨(by first|exact True.intro|rfl),rfl,HG2.out,_,HX2.out,HO2.out⟩
    ·skip
     have hs0:((fun w'=>Bx w.heap.size #[.int .i64 op,.int .i64 0,.string ⟨#[]⟩,.slice aa 2 ac] 116 w'∧w'.cell? ⟨lb,lo,none⟩=some (.int .i64 a.k)∧w'.cell? ⟨lb,lo+1,none⟩=some (.int .i64 a.n)∧w'.cell? ⟨lb,lo+2,none⟩=some (.string (bs a.s))∧w'.cell? ⟨lb,lo+3,none⟩=some (.int .i64 c.k)∧w'.cell? ⟨lb,lo+3+1,none⟩=some (.int .i64 c.n)∧w'.cell? ⟨lb,lo+3+2,none⟩=some (.string (bs c.s)))) wr.drew:=⟨HEE.out,c0,c1,c2,c3,c4,c5⟩;have HS0:=h_ hs0;clear hs0;go_wp2_with fail;refine wp_region_held_drew (S:=(fun w'=>Bx w.heap.size #[.int .i64 op,.int .i64 0,.string ⟨#[]⟩,.slice aa 2 ac] 116 w'∧w'.cell? ⟨lb,lo,none⟩=some (.int .i64 a.k)∧w'.cell? ⟨lb,lo+1,none⟩=some (.int .i64 a.n)∧w'.cell? ⟨lb,lo+2,none⟩=some (.string (bs a.s))∧w'.cell? ⟨lb,lo+3,none⟩=some (.int .i64 c.k)∧w'.cell? ⟨lb,lo+3+1,none⟩=some (.int .i64 c.n)∧w'.cell? ⟨lb,lo+3+2,none⟩=some (.string (bs c.s)))) (by kernel_rfl) ?_ (fun hHeld=>?_)
     ·exact HS0.out
     refine tkX 0 64 ?_;refine tkY 1 (v:=?vv47) 65 ?yy47 ?_
     case yy47 =>
      intro wq hSw;obtain⟨hE,c0,c1,c2,c3,c4,c5⟩:=id hSw;obtain⟨e0,e1,e2,e3⟩:=hE.c4;clear hSw;go_simp
      (try with_reducible rfl)
     refine tkX 2 66 ?_;refine tkX 3 67 ?_;refine tkY 4 (v:=?vv50) 68 ?yy50 ?_
     case yy50 =>
      intro wq hSw;obtain⟨hE,c0,c1,c2,c3,c4,c5⟩:=id hSw;obtain⟨e0,e1,e2,e3⟩:=hE.c4;clear hSw;go_simp
      (try with_reducible rfl)
     refine tkX 5 69 ?_;refine tkX 6 70 ?_;refine tkY 7 (v:=?vv53) 71 ?yy53 ?_
     case yy53 =>
      intro wq hSw;obtain⟨hE,c0,c1,c2,c3,c4,c5⟩:=id hSw;obtain⟨e0,e1,e2,e3⟩:=hE.c4;clear hSw;go_simp
      (try with_reducible rfl)
     simp only[sA,sB,sC];refine rd1 8 fun K hK=>?_;go_simp
     (refine(ibinary_any op a c wr.drew hop2.1 hop2.2.1 hop2.2.2.1 hop2.2.2.2 hoa.1 hoa.2.1 hoc.1 hoc.2.1 hoa.2.2 hoc.2.2).mono ?_;rw[HU1.out];rintro er u1 ⟨rfl,hbb⟩;simp only[endR])
     have hg2:wr.drew.grownBy u1 (some mb):=grown_below hbb _;have hx2:=HX.out.call (show Below wr.heap.size wr u1 from⟨hbb.os,hbb.tape,hbb.output,hbb.size,hbb.block⟩);have ho2:=own_nil u1 w.heap.size 9 1;clear hbb;have HG2:=h_ (HG.out.trans (grown_drew0 hg2));have HX2:=h_ hx2;have HO2:=h_ ho2;have HR2:=h_ (HRB.out.kept (grown_drew0 hg2) (by simp;omega));have HG0:=h_ hg2;clear hx2 ho2 hg2;go_wp2;exact⟨(by first|exact True.intro|rfl),rfl,HG2.out,_,HX2.out,HO2.out⟩
theorem nodeVar_any(x:List UInt8)(hx:isNm x=true)(hlx:x.length≤1000000)(d:Int)(hd:d≤12)(w:World):
  Calls prog 155 #[.agg #[.int .i64 3,.int .i64 0,.string (bs x),.slice none 0 0],.int .i64 d] w fun e w'=>e=.returned (.int .i64 0)∧Below w.heap.size w w':=by
 have td:¬(12<d):=by omega
 have hal:=(Below.refl w.heap.size w).alloc (Nat.le_refl _) (.cells #[.int .i64 3,.int .i64 0,.string (bs x),.slice none 0 0] 116);have HX:=h_ (Bx.new w #[.int .i64 3,.int .i64 0,.string (bs x),.slice none 0 0] 116);have HB:=h_ hal;clear hal;go_enter func155,ntmps155;go_upto_region 1 with (fail);generalize hW:w.alloc (.cells #[.int .i64 3,.int .i64 0,.string (bs x),.slice none 0 0] 116)=v0 at HX HB ⊢;clear hW;obtain⟨e0,e1,e2,e3⟩:=HX.out.c4;go_wp2_with fail;refine(Arity_any 3 _).mono ?_;rw[show arS 3=0 from rfl];rintro er w1 ⟨rfl,rfl⟩;go_wp2_with fail;refine(IsName_any x hlx _).mono ?_;rw[hx];rintro er w1 ⟨rfl,hb1⟩;clear e0 e1 e2 e3;have HX:=HX.out.k hb1;have HB:=bt HB hb1;clear hb1;obtain⟨e0,e1,e2,e3⟩:=HX.out.c4;go_wp2;go_ret;exact⟨rfl,HB.out⟩
theorem nodeOp_any(op:Int)(n:Nat)(aa:Option Addr)(ac:Nat)(h4:4≤op)(hn:arS op=(n:Int))(w:World):
  Calls prog 155 #[.agg #[.int .i64 op,.int .i64 0,.string ⟨#[]⟩,.slice aa n ac],.int .i64 1] w fun e w'=>e=.returned (.int .i64 0)∧Below w.heap.size w w':=by
 have q1:(op==1)=false:=by rw[beq_eq_false_iff_ne];omega
 have q2:(op==2)=false:=by rw[beq_eq_false_iff_ne];omega
 have q3:(op==3)=false:=by rw[beq_eq_false_iff_ne];omega
 have p1:(op != 1)=true:=by rw[bne_iff_ne];omega
 have p2:(op != 2)=true:=by rw[bne_iff_ne];omega
 have p3:(op != 3)=true:=by rw[bne_iff_ne];omega
 have hal:=(Below.refl w.heap.size w).alloc (Nat.le_refl _) (.cells #[.int .i64 op,.int .i64 0,.string ⟨#[]⟩,.slice aa n ac] 116);have HX:=h_ (Bx.new w #[.int .i64 op,.int .i64 0,.string ⟨#[]⟩,.slice aa n ac] 116);have HB:=h_ hal;clear hal;go_enter func155,ntmps155;go_upto_region 1 with (fail);generalize hW:w.alloc (.cells #[.int .i64 op,.int .i64 0,.string ⟨#[]⟩,.slice aa n ac] 116)=v0 at HX HB ⊢;clear hW;obtain⟨e0,e1,e2,e3⟩:=HX.out.c4;go_wp2_with fail;refine(Arity_any op _).mono ?_;rw[hn];rintro er w1 ⟨rfl,rfl⟩;go_wp2;go_ret;exact⟨rfl,HB.out⟩
theorem checkVar_any(x:List UInt8)(hx:isNm x=true)(hlx:x.length≤1000000)(d:Int)(hd:d≤12)(w:World):
  Calls prog 132 #[.agg #[.int .i64 3,.int .i64 0,.string (bs x),.slice none 0 0],.int .i64 d] w fun e w'=>e=.returned (.int .i64 0)∧Below w.heap.size w w':=by
 have hal:=(Below.refl w.heap.size w).alloc (Nat.le_refl _) (.cells #[.int .i64 3,.int .i64 0,.string (bs x),.slice none 0 0] 116);have HX:=h_ (Bx.new w #[.int .i64 3,.int .i64 0,.string (bs x),.slice none 0 0] 116);have HB:=h_ hal;clear hal;go_enter func132,ntmps132;go_upto_region 1 with (fail);generalize hW:w.alloc (.cells #[.int .i64 3,.int .i64 0,.string (bs x),.slice none 0 0] 116)=v0 at HX HB ⊢;clear hW;obtain⟨e0,e1,e2,e3⟩:=HX.out.c4;go_wp2_with fail;refine(nodeVar_any x hx hlx d hd _).mono ?_;rintro er w1 ⟨rfl,hb1⟩;clear e0 e1 e2 e3;have HX:=HX.out.k hb1;have HB:=bt HB hb1;clear hb1;obtain⟨e0,e1,e2,e3⟩:=HX.out.c4;go_wp2;go_loopw [4,18] (fun v i wr=>i=.int .i64 0∧Below w.heap.size w wr) (fun _ i _=>0)
 case atStart=>exact⟨rfl,HB.out⟩
 case round =>
  obtain⟨rfl,hb⟩:=hrel;have HB:=h_ hb;clear hb HX e0 e1 e2 e3;go_wp2;go_ret;exact⟨rfl,HB.out⟩
theorem checkOp_any(op:Int)(n:Nat)(aa:Option Addr)(ac:Nat)(names:List (List UInt8))(h4:4≤op)(hn:arS op=(n:Int))(hnl:names.length=n)(hnb:n≤2)(hnm:∀x∈names,isNm x=true∧x.length≤1000000)(w:World)(hA:CellsAt w (.slice aa n ac) n (exLs names)):
  Calls prog 132 #[.agg #[.int .i64 op,.int .i64 0,.string ⟨#[]⟩,.slice aa n ac],.int .i64 1] w fun e w'=>e=.returned (.int .i64 0)∧Below w.heap.size w w':=by
 have HA:=h_ hA;have HNM:=h_ hnm;have HN:=h_ hn;clear hA hnm hn;have hal:=(Below.refl w.heap.size w).alloc (Nat.le_refl _) (.cells #[.int .i64 op,.int .i64 0,.string ⟨#[]⟩,.slice aa n ac] 116);have HX:=h_ (Bx.new w #[.int .i64 op,.int .i64 0,.string ⟨#[]⟩,.slice aa n ac] 116);have HB:=h_ hal;clear hal;go_enter func132,ntmps132;go_upto_region 1 with (fail);generalize hW:w.alloc (.cells #[.int .i64 op,.int .i64 0,.string ⟨#[]⟩,.slice aa n ac] 116)=v0 at HX HB ⊢;clear hW;obtain⟨e0,e1,e2,e3⟩:=HX.out.c4;go_wp2_with fail;refine(nodeOp_any op n aa ac h4 HN.out _).mono ?_;rintro er w1 ⟨rfl,hb1⟩;clear e0 e1 e2 e3;have HX:=HX.out.k hb1;have HB:=bt HB hb1;clear hb1;obtain⟨e0,e1,e2,e3⟩:=HX.out.c4;clear e0 e1 e2 e3;obtain⟨e0,e1,e2,e3⟩:=HX.out.c4;go_wp2;go_loopw [4,18] (fun v i wr=>∃k:Nat,k≤n∧i=.int .i64 k∧Below w.heap.size w wr) (fun _ i _=>n-(intOf i).toNat)
 case atStart=>exact⟨0,Nat.zero_le _,rfl,HB.out⟩
 case round =>
  clear e0 e1 e2 e3;obtain⟨k,hk,rfl,hb⟩:=hrel;have HB:=h_ hb;clear hb HX;by_cases hlt:k<n
  ·have hlt':(k:Int)<(n:Int):=by omega
   have hkb:(0:Int)≤(k:Int)∧(k:Int)<(n:Int):=⟨by omega,by omega⟩
   have hw1:IntKind.i64.wrap ((k:Int)+1)=(k:Int)+1:=by rw[IntKind.wrap_i64];omega
   have hln:k<names.length:=by omega
   obtain⟨b,off,rfl,p0,p1,p2,p3⟩:=ex_cells (HA.out.below HB.out) hln;obtain⟨x,hx⟩:=ex_ (names[k]);have hxn:=HNM.out x (hx ▸ List.getElem_mem _);have HXN:=h_ hxn;clear hxn;rw[hx]at p2;clear hx;have hb1:=(Below.refl wr.heap.size wr).alloc (Nat.le_refl _) (.cells #[.int .i64 3,.int .i64 0,.string (bs x),.slice none 0 0] 116);have HXB:=h_ (Bx.new wr #[.int .i64 3,.int .i64 0,.string (bs x),.slice none 0 0] 116);have HB:=bt HB hb1;clear hb1;go_upto_region 7 with (fail);generalize hW:wr.alloc (.cells #[.int .i64 3,.int .i64 0,.string (bs x),.slice none 0 0] 116)=v1 at HXB HB ⊢;clear hW p0 p1 p2 p3;obtain⟨x0,x1,x2,x3⟩:=HXB.out.c4;go_wp2_with fail;refine(checkVar_any x HXN.out.1 HXN.out.2 2 (by decide) _).mono ?_;rintro er w2 ⟨rfl,hb2⟩;have HB:=bt HB hb2;clear hb2 x0 x1 x2 x3;go_wp2;go_roundw
   case rel=>exact⟨k+1,by omega,by go_num,HB.out⟩
   case measure=>simp[intOf];omega
  ·have hlt':¬(k:Int)<(n:Int):=by omega
   go_wp2;go_ret;exact⟨rfl,HB.out⟩
theorem ValidExpr_any(op:Int)(n:Nat)(aa:Option Addr)(ac:Nat)(names:List (List UInt8))(h4:4≤op)(hn:arS op=(n:Int))(hnl:names.length=n)(hnb:n≤2)(hnm:∀x∈names,isNm x=true∧x.length≤1000000)(w:World)(hA:CellsAt w (.slice aa n ac) n (exLs names)):
  Calls prog 112 #[.agg #[.int .i64 op,.int .i64 0,.string ⟨#[]⟩,.slice aa n ac]] w fun e w'=>e=.returned (.int .i64 0)∧Below w.heap.size w w':=by
 have hal:=(Below.refl w.heap.size w).alloc (Nat.le_refl _) (.cells #[.int .i64 op,.int .i64 0,.string ⟨#[]⟩,.slice aa n ac] 116);have HA:=h_ (hA.below hal);have HNM:=h_ hnm;have HN:=h_ hn;clear hA hnm hn;have HX:=h_ (Bx.new w #[.int .i64 op,.int .i64 0,.string ⟨#[]⟩,.slice aa n ac] 116);have HB:=h_ hal;clear hal;go_enter func112,ntmps112;go_upto_region 1 with (fail);generalize hW:w.alloc (.cells #[.int .i64 op,.int .i64 0,.string ⟨#[]⟩,.slice aa n ac] 116)=v0 at HX HB HA ⊢;clear hW;obtain⟨e0,e1,e2,e3⟩:=HX.out.c4;go_wp2_with fail;refine(checkOp_any op n aa ac names h4 HN.out hnl hnb HNM.out _ HA.out).mono ?_;rintro er w1 ⟨rfl,hb1⟩;have HB:=bt HB hb1;clear hb1 e0 e1 e2 e3 HX;go_wp2;go_ret;exact⟨rfl,HB.out⟩
theorem evalC_any(tb eb vb:Nat)(mb vm om:Nat)(sa ra wa:Option Addr)(sc rc wc:Nat)(M:List Pr)(al:Bool)(rd wri:List (List UInt8))(op:Int)(aa:Option Addr)(ac:Nat)(V:List Pr)(names:List (List UInt8))(vals:List Vl)(hop:(vals.length=1∧(op=9∨op=18∨op=20∨op=21∨op=22∨op=23∨op=24))∨(vals.length=2∧4≤op∧op≤19∧op≠9∧op≠18))(hva:VarsAre V names vals)(hok:∀v∈vals,OkV v)(w W0:World)(hX:Bx mb #[.slice sa M.length sc,.bool al,.slice ra rd.length rc,.slice wa wri.length wc,.map (some vm),.map (some om),.int .i64 0,.int .i64 0,.slice none 0 0,.slice none 0 0,.slice none 0 0,.slice none 0 0,.string ⟨#[]⟩,.int .i64 0] 143 w)(hO:Mp om [] w)(hmb:W0.heap.size≤mb)(hW0:Below W0.heap.size W0 w)(hM:CellsAt W0 (.slice sa M.length sc) M.length (prLs M))(hR:StrS W0 (.slice ra rd.length rc) rd)(hl1:M.length≤9000000000000)(hl2:rd.length≤9000000000000)(hV:Mp vm V w)(hA:CellsAt W0 (.slice aa vals.length ac) vals.length (exLs names))(hLd:Laid W0)(hT:Bx tb #[.pointer (some ⟨mb,0,none⟩)] 138 w)(hE:Bx eb #[.int .i64 op,.int .i64 0,.string ⟨#[]⟩,.slice aa vals.length ac] 116 w)(hB:Bx vb #[.int .i64 0,.int .i64 0,.string ⟨#[]⟩] 52 w)(hne:mb≠vb):
  Calls prog 118 #[.pointer (some ⟨tb,0,none⟩),.pointer (some ⟨eb,0,none⟩),.pointer (some ⟨vb,0,none⟩)] w (EvP mb vb (fun rv=>#[.slice sa M.length sc,.bool al,.slice ra rd.length rc,.slice wa wri.length wc,.map (some vm),.map (some om),.int .i64 0,.int .i64 0,.slice none 0 0,rv,.slice none 0 0,.slice none 0 0,.string ⟨#[]⟩,.int .i64 0]) (evS al rd M op vals).1 (evS al rd M op vals).2 w):=by
 have HC:=h_ (evalOp_any mb vm om sa ra wa sc rc wc M al rd wri op aa ac V names vals hop hva hok w W0 hX hO hmb hW0 hM hR hl1 hl2 hV hA hLd);obtain⟨⟨R,ks⟩,hU⟩:∃x,evS al rd M op vals=x:=⟨_,rfl⟩;rw[hU]at HC ⊢;simp only at HC ⊢;have t0:w.cell? ⟨tb,0,none⟩=some (.pointer (some ⟨mb,0,none⟩)):=hT.cell 0;obtain⟨e0,e1,e2,e3⟩:=hE.c4;have HB:=h_ hB;have hlb:=hB.lt;have hlm:=hX.lt;clear hU hop hva hok hX hO hmb hW0 hM hR hl1 hl2 hV hA hLd hT hE hB;go_enter func118,ntmps118;go_wp2_with fail;refine HC.out.mono ?_;rintro er w1 ⟨rfl,hg,rv,hx,ho⟩;have HG:=h_ hg;have HX:=h_ hx;have HO:=h_ ho;have HB:=h_ (HB.out.kept hg (by simp;omega));clear hg hx ho HC e0 e1 e2 e3 t0;rcases R with v|c|k
 ·simp only[endR,vV]
  obtain⟨r0,r1,r2⟩:=HB.out.d3 0 1 2;have f0:=HB.out.free 0;have f1:=HB.out.free 1;have f2:=HB.out.free 2;have HB2:=h_ (HB.out.sets3 (.int .i64 v.k) (.int .i64 v.n) (.string (bs v.s)));have HF:=h_ ((((K2.of_grown (b:=vb) HG.out).set (i:=0) (.int .i64 v.k) (.inr (.inl rfl))).set (i:=1) (.int .i64 v.n) (.inr (.inl rfl))).set (i:=2) (.string (bs v.s)) (.inr (.inl rfl)));have HX2:=h_ (((HX.out.other (i:=0) hne (.int .i64 v.k)).other (i:=1) hne (.int .i64 v.n)).other (i:=2) hne (.string (bs v.s)));have HO2:=h_ (own_set (own_set (own_set HO.out vb 0 hlb (.int .i64 v.k)) vb 1 hlb (.int .i64 v.n)) vb 2 hlb (.string (bs v.s)));go_wp2;exact⟨rfl,.tuple #[],results_none rfl _ _ _,rfl,HF.out,HB2.out,rv,HX2.out,HO2.out⟩
 ·simp only[endR]
  go_wp2;exact⟨(by first|exact True.intro|rfl),rfl,K2.of_grown HG.out,HB.out,rv,HX.out,HO.out⟩
 ·simp only[endR]
  go_wp2;exact⟨(by first|exact True.intro|rfl),rfl,K2.of_grown HG.out,HB.out,rv,HX.out,HO.out⟩
theorem newM_mem(w v0:World)(cs:Array Value)(h:Below w.heap.size w v0)(hs:w.heap.size≤v0.heap.size):∃W,((v0.alloc (.map #[] 0)).alloc (.map #[] 0)).alloc (.cells cs 143)=W∧Bx (v0.heap.size+2) cs 143 W∧Mp v0.heap.size [] W∧Mp (v0.heap.size+1) [] W∧Below w.heap.size w W:=by
 have h1:=Mp.new v0;have h2:=Mp.new (v0.alloc (.map #[] 0));rw[show (v0.alloc (.map #[] 0)).heap.size=v0.heap.size+1 by simp]at h2;have b2:=(Below.refl (v0.alloc (.map #[] 0)).heap.size (v0.alloc (.map #[] 0))).alloc (Nat.le_refl _) (.map #[] 0);have b3:=(Below.refl ((v0.alloc (.map #[] 0)).alloc (.map #[] 0)).heap.size ((v0.alloc (.map #[] 0)).alloc (.map #[] 0))).alloc (Nat.le_refl _) (.cells cs 143);have hx:=Bx.new ((v0.alloc (.map #[] 0)).alloc (.map #[] 0)) cs 143;rw[show ((v0.alloc (.map #[] 0)).alloc (.map #[] 0)).heap.size=v0.heap.size+2 by simp]at hx;exact⟨_,rfl,hx,(h1.call b2).call b3,h2.call b3,((h.alloc hs _).alloc (by simp;omega) _).alloc (by simp;omega) _⟩
theorem newM_any(sa ra wa:Option Addr)(sc rc wc:Nat)(M:List Pr)(al:Bool)(rd wri:List (List UInt8))(w:World):
  Calls prog 115 #[.slice sa M.length sc,.agg #[.bool al,.slice ra rd.length rc,.slice wa wri.length wc]] w fun e w'=>∃mb vm om,e=.returned (.pointer (some ⟨mb,0,none⟩))∧Below w.heap.size w w'∧Bx mb #[.slice sa M.length sc,.bool al,.slice ra rd.length rc,.slice wa wri.length wc,.map (some vm),.map (some om),.int .i64 0,.int .i64 0,.slice none 0 0,.slice none 0 0,.slice none 0 0,.slice none 0 0,.string ⟨#[]⟩,.int .i64 0] 143 w'∧Mp vm [] w'∧Mp om [] w'∧w.heap.size≤mb∧w.heap.size≤vm∧w.heap.size≤om∧vm≠om:=by
 have hmm:=@run_makeMap prog;have HF:=h_ (Bx.new w #[.bool al,.slice ra rd.length rc,.slice wa wri.length wc] 29);have hb0:=(Below.refl w.heap.size w).alloc (Nat.le_refl _) (.cells #[.bool al,.slice ra rd.length rc,.slice wa wri.length wc] 29)
 have HB:=h_ hb0;have hs0:w.heap.size+1=(w.alloc (.cells #[.bool al,.slice ra rd.length rc,.slice wa wri.length wc] 29)).heap.size:=by simp
 clear hb0;go_enter func115,ntmps115;go_upto_region 1 with (fail);generalize hW:w.alloc (.cells #[.bool al,.slice ra rd.length rc,.slice wa wri.length wc] 29)=v0 at HF HB hs0 ⊢;clear hW;obtain⟨f0,f1,f2⟩:=HF.out.d3 0 1 2;go_wp2;obtain⟨WN,hWN,hx,h1,h2,hb⟩:=newM_mem w v0 #[.slice sa M.length sc,.bool al,.slice ra rd.length rc,.slice wa wri.length wc,.map (some v0.heap.size),.map (some (v0.heap.size+1)),.int .i64 0,.int .i64 0,.slice none 0 0,.slice none 0 0,.slice none 0 0,.slice none 0 0,.string ⟨#[]⟩,.int .i64 0] HB.out (by omega);rw[hWN];clear hWN;go_ret;exact⟨v0.heap.size+2,v0.heap.size,v0.heap.size+1,rfl,hb,hx,h1,h2,by omega,by omega,by omega,by omega⟩
def efA (R:Rs) (rv:Value):Array Value:=match R with
 | .ok _=>#[.int .i64 1,.int .i64 0,.slice none 0 0,rv,.slice none 0 0,.slice none 0 0,.string ⟨#[]⟩,.int .i64 0]
 | .ab c=>#[.int .i64 2,.int .i64 c,.slice none 0 0,rv,.slice none 0 0,.slice none 0 0,.string (bs []),.int .i64 0]
 | .re k=>#[.int .i64 3,.int .i64 0,.slice none 0 0,rv,.slice none 0 0,.slice none 0 0,.string (bs k),.int .i64 0]
theorem finish_any(mb vm om:Nat)(sa ra wa:Option Addr)(sc rc wc:Nat)(M:List Pr)(al:Bool)(rd wri:List (List UInt8))(oa:Option Addr)(on oc:Nat)(R:Rs)(w:World)(hX:Bx mb #[.slice sa M.length sc,.bool al,.slice ra rd.length rc,.slice wa wri.length wc,.map (some vm),.map (some om),.int .i64 0,.int .i64 0,.slice none 0 0,.slice oa on oc,.slice none 0 0,.slice none 0 0,.string ⟨#[]⟩,.int .i64 0] 143 w):
  Calls prog 120 #[.pointer (some ⟨mb,0,none⟩),.agg (stA R),.bool (stB2 R)] w fun e w'=>e=.returned (.agg (efA R (.slice oa on oc)))∧Below w.heap.size w w':=by
 have hmw:=hX.lt;have HX:=h_ hX;clear hX;rcases R with v|c|k
 ·simp only[stA,stB2,efA]
  have hal:=((Below.refl w.heap.size w).alloc (Nat.le_refl _) (.cells #[.int .i64 0,.int .i64 0,.slice none 0 0,.string ⟨#[]⟩] 145)).alloc (by simp) (.cells #[.int .i64 0,.int .i64 0,.slice none 0 0,.slice none 0 0,.slice none 0 0,.slice none 0 0,.string ⟨#[]⟩,.int .i64 0] 37);have hr0:=Bx.new1 w (.cells #[.int .i64 0,.int .i64 0,.slice none 0 0,.string ⟨#[]⟩] 145) #[.int .i64 0,.int .i64 0,.slice none 0 0,.slice none 0 0,.slice none 0 0,.slice none 0 0,.string ⟨#[]⟩,.int .i64 0] 37;have HS:=h_ ((Bx.new w #[.int .i64 0,.int .i64 0,.slice none 0 0,.string ⟨#[]⟩] 145).alloc (.cells #[.int .i64 0,.int .i64 0,.slice none 0 0,.slice none 0 0,.slice none 0 0,.slice none 0 0,.string ⟨#[]⟩,.int .i64 0] 37));have HRB:=h_ hr0;have HX:=HX.out.k hal;have HB:=h_ hal;clear hr0 hal;go_enter func120,ntmps120;go_upto_region 1 with (fail);generalize hW:(w.alloc (.cells #[.int .i64 0,.int .i64 0,.slice none 0 0,.string ⟨#[]⟩] 145)).alloc (.cells #[.int .i64 0,.int .i64 0,.slice none 0 0,.slice none 0 0,.slice none 0 0,.slice none 0 0,.string ⟨#[]⟩,.int .i64 0] 37)=v0 at HS HRB HX HB ⊢;clear hW;have hal:=(Below.refl v0.heap.size v0).alloc (Nat.le_refl _) (.cells #[.int .i64 0,.int .i64 0,.slice none 0 0,.slice oa on oc,.slice none 0 0,.slice none 0 0,.string ⟨#[]⟩,.int .i64 0] 37);have HE:=h_ (Bx.new v0 #[.int .i64 0,.int .i64 0,.slice none 0 0,.slice oa on oc,.slice none 0 0,.slice none 0 0,.string ⟨#[]⟩,.int .i64 0] 37);have hvs:=HRB.out.lt;have HS:=HS.out.k hal;have HRB:=HRB.out.k hal;have HB:=bt HB hal;clear hal;have hxc:=HX.out.c14;obtain⟨x0,x1,x2,x3,x4,x5,x6,x7,x8,x9,x10,x11,x12,x13⟩:=hxc;clear HX;go_upto_region 2 with (fail);generalize hW:v0.alloc (.cells #[.int .i64 0,.int .i64 0,.slice none 0 0,.slice oa on oc,.slice none 0 0,.slice none 0 0,.string ⟨#[]⟩,.int .i64 0] 37)=v1 at HS HRB HB HE ⊢;clear hW x0 x1 x2 x3 x4 x5 x6 x7 x8 x9 x10 x11 x12 x13;obtain⟨s0,s1,s2,s3⟩:=HS.out.c4;obtain⟨e0,e1,e2,e3,e4,e5,e6,e7⟩:=HE.out.c8;have f0:=HE.out.free 0;have f1:=HE.out.free 1;have f2:=HE.out.free 2;have f6:=HE.out.free 6;have HE2:=h_ (show Bx v0.heap.size #[.int .i64 1,.int .i64 0,.slice none 0 0,.slice oa on oc,.slice none 0 0,.slice none 0 0,.string ⟨#[]⟩,.int .i64 0] 37 (v1.setCell ⟨v0.heap.size,0,none⟩ (.int .i64 1)) from HE.out.set 0 (.int .i64 1));have HRB2:=h_ (HRB.out.other (c:=v0.heap.size) (i:=0) (by omega) (.int .i64 1));have HB2:=h_ (below_set HB.out v0.heap.size 0 (by omega) (.int .i64 1));go_upto_region 6 with (fail);generalize hW:v1.setCell ⟨v0.heap.size,0,none⟩ (.int .i64 1)=v2 at HE2 HRB2 HB2 ⊢;clear hW;clear HE HRB HB HS s0 s1 s2 s3 e0 e1 e2 e3 e4 e5 e6 e7 f0 f1 f2 f6;have HE:=HE2;have HRB:=HRB2;have HB:=HB2;clear HE2 HRB2 HB2;obtain⟨e0,e1,e2,e3,e4,e5,e6,e7⟩:=HE.out.c8;go_wp2
  go_loop [27] (fun i=>i=.int .i64 0) (fun _=>0)
  case atStart=>exact rfl
  case round =>
   obtain rfl:=hrel;obtain⟨r0,r1,r2,r3,r4,r5,r6,r7⟩:=HRB.out.d8 0 1 2 3 4 5 6 7;have f0:=HRB.out.free 0;have f1:=HRB.out.free 1;have f2:=HRB.out.free 2;have f3:=HRB.out.free 3;have f4:=HRB.out.free 4;have f5:=HRB.out.free 5;have f6:=HRB.out.free 6;have f7:=HRB.out.free 7;have HK:=h_ (HRB.out.sets8 (.int .i64 1) (.int .i64 0) (.slice none 0 0) (.slice oa on oc) (.slice none 0 0) (.slice none 0 0) (.string ⟨#[]⟩) (.int .i64 0));go_wp2;have k0:=HK.out.cell 0;have k1:=HK.out.cell 1;have k2:=HK.out.cell 2;have k3:=HK.out.cell 3;have k4:=HK.out.cell 4;have k5:=HK.out.cell 5;have k6:=HK.out.cell 6;have k7:=HK.out.cell 7;simp only[List.getElem?_toArray,List.getElem?_cons_zero,List.getElem?_cons_succ]at k0 k1 k2 k3 k4 k5 k6 k7;refine bodyPost_ret (v:=.agg #[.int .i64 1,.int .i64 0,.slice none 0 0,.slice oa on oc,.slice none 0 0,.slice none 0 0,.string ⟨#[]⟩,.int .i64 0]) (by simp[results,results120,go_sem,k0,k1,k2,k3,k4,k5,k6,k7]<;>rfl) rfl ⟨rfl,below_sets8 HB.out _ (by omega) _ _ _ _ _ _ _ _⟩
 ·simp only[stA,stB2,efA]
  have hal:=((Below.refl w.heap.size w).alloc (Nat.le_refl _) (.cells #[.int .i64 2,.int .i64 c,.slice none 0 0,.string (bs [])] 145)).alloc (by simp) (.cells #[.int .i64 0,.int .i64 0,.slice none 0 0,.slice none 0 0,.slice none 0 0,.slice none 0 0,.string ⟨#[]⟩,.int .i64 0] 37);have hr0:=Bx.new1 w (.cells #[.int .i64 2,.int .i64 c,.slice none 0 0,.string (bs [])] 145) #[.int .i64 0,.int .i64 0,.slice none 0 0,.slice none 0 0,.slice none 0 0,.slice none 0 0,.string ⟨#[]⟩,.int .i64 0] 37;have HS:=h_ ((Bx.new w #[.int .i64 2,.int .i64 c,.slice none 0 0,.string (bs [])] 145).alloc (.cells #[.int .i64 0,.int .i64 0,.slice none 0 0,.slice none 0 0,.slice none 0 0,.slice none 0 0,.string ⟨#[]⟩,.int .i64 0] 37));have HRB:=h_ hr0;have HX:=HX.out.k hal;have HB:=h_ hal;clear hr0 hal;go_enter func120,ntmps120;go_upto_region 1 with (fail);generalize hW:(w.alloc (.cells #[.int .i64 2,.int .i64 c,.slice none 0 0,.string (bs [])] 145)).alloc (.cells #[.int .i64 0,.int .i64 0,.slice none 0 0,.slice none 0 0,.slice none 0 0,.slice none 0 0,.string ⟨#[]⟩,.int .i64 0] 37)=v0 at HS HRB HX HB ⊢;clear hW;have hal:=(Below.refl v0.heap.size v0).alloc (Nat.le_refl _) (.cells #[.int .i64 0,.int .i64 0,.slice none 0 0,.slice oa on oc,.slice none 0 0,.slice none 0 0,.string ⟨#[]⟩,.int .i64 0] 37);have HE:=h_ (Bx.new v0 #[.int .i64 0,.int .i64 0,.slice none 0 0,.slice oa on oc,.slice none 0 0,.slice none 0 0,.string ⟨#[]⟩,.int .i64 0] 37);have hvs:=HRB.out.lt;have HS:=HS.out.k hal;have HRB:=HRB.out.k hal;have HB:=bt HB hal;clear hal;have hxc:=HX.out.c14;obtain⟨x0,x1,x2,x3,x4,x5,x6,x7,x8,x9,x10,x11,x12,x13⟩:=hxc;clear HX;go_upto_region 2 with (fail);generalize hW:v0.alloc (.cells #[.int .i64 0,.int .i64 0,.slice none 0 0,.slice oa on oc,.slice none 0 0,.slice none 0 0,.string ⟨#[]⟩,.int .i64 0] 37)=v1 at HS HRB HB HE ⊢;clear hW x0 x1 x2 x3 x4 x5 x6 x7 x8 x9 x10 x11 x12 x13;obtain⟨s0,s1,s2,s3⟩:=HS.out.c4;obtain⟨e0,e1,e2,e3,e4,e5,e6,e7⟩:=HE.out.c8;have f0:=HE.out.free 0;have f1:=HE.out.free 1;have f2:=HE.out.free 2;have f6:=HE.out.free 6;have HE2:=h_ (show Bx v0.heap.size #[.int .i64 2,.int .i64 c,.slice none 0 0,.slice oa on oc,.slice none 0 0,.slice none 0 0,.string (bs []),.int .i64 0] 37 ((((v1.setCell ⟨v0.heap.size,0,none⟩ (.int .i64 2)).setCell ⟨v0.heap.size,1,none⟩ (.int .i64 c)).setCell ⟨v0.heap.size,2,none⟩ (.slice none 0 0)).setCell ⟨v0.heap.size,6,none⟩ (.string (bs []))).drew from((((HE.out.set 0 (.int .i64 2)).set 1 (.int .i64 c)).set 2 (.slice none 0 0)).set 6 (.string (bs []))));have HRB2:=h_ (Bx.drew ((((HRB.out.other (c:=v0.heap.size) (i:=0) (by omega) (.int .i64 2)).other (c:=v0.heap.size) (i:=1) (by omega) (.int .i64 c)).other (c:=v0.heap.size) (i:=2) (by omega) (.slice none 0 0)).other (c:=v0.heap.size) (i:=6) (by omega) (.string (bs []))));have HB2:=h_ (Below.drew (below_set (below_set (below_set (below_set HB.out v0.heap.size 0 (by omega) (.int .i64 2)) v0.heap.size 1 (by omega) (.int .i64 c)) v0.heap.size 2 (by omega) (.slice none 0 0)) v0.heap.size 6 (by omega) (.string (bs []))));have HS0:=h_ (show (fun w'=>w'.cell? ⟨w.heap.size,0,none⟩=some (.int .i64 2)∧w'.cell? ⟨w.heap.size,1,none⟩=some (.int .i64 c)∧w'.cell? ⟨w.heap.size,2,none⟩=some (.slice none 0 0)∧w'.cell? ⟨w.heap.size,3,none⟩=some (.string (bs []))) v1.drew from⟨s0,s1,s2,s3⟩);have HKA:=h_ (show (fun w'=>w'.cell? ⟨w.heap.size,0,none⟩=some (.int .i64 2)∧w'.cell? ⟨w.heap.size,1,none⟩=some (.int .i64 c)∧w'.cell? ⟨w.heap.size,2,none⟩=some (.slice none 0 0)∧w'.cell? ⟨w.heap.size,3,none⟩=some (.string (bs []))) (((v1.setCell ⟨v0.heap.size,0,none⟩ (.int .i64 2)).setCell ⟨v0.heap.size,1,none⟩ (.int .i64 c)).setCell ⟨v0.heap.size,2,none⟩ (.slice none 0 0)) from⟨cell1_set _ (by omega) (cell1_set _ (by omega) (cell1_set _ (by omega) (s0))),cell1_set _ (by omega) (cell1_set _ (by omega) (cell1_set _ (by omega) (s1))),cell1_set _ (by omega) (cell1_set _ (by omega) (cell1_set _ (by omega) (s2))),cell1_set _ (by omega) (cell1_set _ (by omega) (cell1_set _ (by omega) (s3)))⟩);have HKB:=h_ (show (fun w'=>w'.cell? ⟨w.heap.size,0,none⟩=some (.int .i64 2)∧w'.cell? ⟨w.heap.size,1,none⟩=some (.int .i64 c)∧w'.cell? ⟨w.heap.size,2,none⟩=some (.slice none 0 0)∧w'.cell? ⟨w.heap.size,3,none⟩=some (.string (bs []))) ((((v1.setCell ⟨v0.heap.size,0,none⟩ (.int .i64 2)).setCell ⟨v0.heap.size,1,none⟩ (.int .i64 c)).setCell ⟨v0.heap.size,2,none⟩ (.slice none 0 0)).setCell ⟨v0.heap.size,6,none⟩ (.string (bs []))) from⟨cell1_set _ (by omega) (cell1_set _ (by omega) (cell1_set _ (by omega) (cell1_set _ (by omega) (s0)))),cell1_set _ (by omega) (cell1_set _ (by omega) (cell1_set _ (by omega) (cell1_set _ (by omega) (s1)))),cell1_set _ (by omega) (cell1_set _ (by omega) (cell1_set _ (by omega) (cell1_set _ (by omega) (s2)))),cell1_set _ (by omega) (cell1_set _ (by omega) (cell1_set _ (by omega) (cell1_set _ (by omega) (s3))))⟩);have g6:(((v1.setCell ⟨v0.heap.size,0,none⟩ (.int .i64 2)).setCell ⟨v0.heap.size,1,none⟩ (.int .i64 c)).setCell ⟨v0.heap.size,2,none⟩ (.slice none 0 0)).cell? ⟨v0.heap.size,6,none⟩=some (.string ⟨#[]⟩):=(((HE.out.set 0 (.int .i64 2)).set 1 (.int .i64 c)).set 2 (.slice none 0 0)).cell 6;have h6:=(((HE.out.set 0 (.int .i64 2)).set 1 (.int .i64 c)).set 2 (.slice none 0 0)).free 6;go_upto_region 3 with (fail);refine wp_region_held_drew (S:=(fun w'=>w'.cell? ⟨w.heap.size,0,none⟩=some (.int .i64 2)∧w'.cell? ⟨w.heap.size,1,none⟩=some (.int .i64 c)∧w'.cell? ⟨w.heap.size,2,none⟩=some (.slice none 0 0)∧w'.cell? ⟨w.heap.size,3,none⟩=some (.string (bs [])))) (by kernel_rfl) ?_ (fun hHeld=>?_)
  ·exact HS0.out
  refine tkX 0 15 ?_;refine tkX 1 16 ?_;refine tkX 2 17 ?_;refine tkX 3 18 ?_;refine tkX 4 19 ?_;simp only[sA,sB,sC];refine rd1 5 fun K hK=>?_;go_simp;refine hK.out _ _ ?_ (fun hHeld2=>?_)
  ·exact HKA.out
  clear hK K
  (try simp only[Act.put,sA,sB,sC])
  refine tkX 6 20 ?_;simp only[sA,sB,sC];refine rd1 7 fun K hK=>?_;go_simp;refine hK.out _ _ ?_ (fun hHeld3=>?_)
  ·exact HKB.out
  clear hK K
  (try simp only[Act.put,sA,sB,sC])
  refine wpAnyH_done (by kernel_rfl) ?_ _;generalize hW:((((v1.setCell ⟨v0.heap.size,0,none⟩ (.int .i64 2)).setCell ⟨v0.heap.size,1,none⟩ (.int .i64 c)).setCell ⟨v0.heap.size,2,none⟩ (.slice none 0 0)).setCell ⟨v0.heap.size,6,none⟩ (.string (bs []))).drew=v2 at HE2 HRB2 HB2 ⊢;clear hW hHeld hHeld2 hHeld3 HKA HKB HS0 g6 h6;clear HE HRB HB HS s0 s1 s2 s3 e0 e1 e2 e3 e4 e5 e6 e7 f0 f1 f2 f6;have HE:=HE2;have HRB:=HRB2;have HB:=HB2;clear HE2 HRB2 HB2;obtain⟨e0,e1,e2,e3,e4,e5,e6,e7⟩:=HE.out.c8;obtain⟨r0,r1,r2,r3,r4,r5,r6,r7⟩:=HRB.out.d8 0 1 2 3 4 5 6 7;have f0:=HRB.out.free 0;have f1:=HRB.out.free 1;have f2:=HRB.out.free 2;have f3:=HRB.out.free 3;have f4:=HRB.out.free 4;have f5:=HRB.out.free 5;have f6:=HRB.out.free 6;have f7:=HRB.out.free 7;have HK:=h_ (HRB.out.sets8 (.int .i64 2) (.int .i64 c) (.slice none 0 0) (.slice oa on oc) (.slice none 0 0) (.slice none 0 0) (.string (bs [])) (.int .i64 0));go_wp2;have k0:=HK.out.cell 0;have k1:=HK.out.cell 1;have k2:=HK.out.cell 2;have k3:=HK.out.cell 3;have k4:=HK.out.cell 4;have k5:=HK.out.cell 5;have k6:=HK.out.cell 6;have k7:=HK.out.cell 7;simp only[List.getElem?_toArray,List.getElem?_cons_zero,List.getElem?_cons_succ]at k0 k1 k2 k3 k4 k5 k6 k7;refine bodyPost_ret (v:=.agg #[.int .i64 2,.int .i64 c,.slice none 0 0,.slice oa on oc,.slice none 0 0,.slice none 0 0,.string (bs []),.int .i64 0]) (by simp[results,results120,go_sem,k0,k1,k2,k3,k4,k5,k6,k7]<;>rfl) rfl ⟨rfl,below_sets8 HB.out _ (by omega) _ _ _ _ _ _ _ _⟩
 ·simp only[stA,stB2,efA]
  have hal:=((Below.refl w.heap.size w).alloc (Nat.le_refl _) (.cells #[.int .i64 3,.int .i64 0,.slice none 0 0,.string (bs k)] 145)).alloc (by simp) (.cells #[.int .i64 0,.int .i64 0,.slice none 0 0,.slice none 0 0,.slice none 0 0,.slice none 0 0,.string ⟨#[]⟩,.int .i64 0] 37);have hr0:=Bx.new1 w (.cells #[.int .i64 3,.int .i64 0,.slice none 0 0,.string (bs k)] 145) #[.int .i64 0,.int .i64 0,.slice none 0 0,.slice none 0 0,.slice none 0 0,.slice none 0 0,.string ⟨#[]⟩,.int .i64 0] 37;have HS:=h_ ((Bx.new w #[.int .i64 3,.int .i64 0,.slice none 0 0,.string (bs k)] 145).alloc (.cells #[.int .i64 0,.int .i64 0,.slice none 0 0,.slice none 0 0,.slice none 0 0,.slice none 0 0,.string ⟨#[]⟩,.int .i64 0] 37));have HRB:=h_ hr0;have HX:=HX.out.k hal;have HB:=h_ hal;clear hr0 hal;go_enter func120,ntmps120;go_upto_region 1 with (fail);generalize hW:(w.alloc (.cells #[.int .i64 3,.int .i64 0,.slice none 0 0,.string (bs k)] 145)).alloc (.cells #[.int .i64 0,.int .i64 0,.slice none 0 0,.slice none 0 0,.slice none 0 0,.slice none 0 0,.string ⟨#[]⟩,.int .i64 0] 37)=v0 at HS HRB HX HB ⊢;clear hW;have hal:=(Below.refl v0.heap.size v0).alloc (Nat.le_refl _) (.cells #[.int .i64 0,.int .i64 0,.slice none 0 0,.slice oa on oc,.slice none 0 0,.slice none 0 0,.string ⟨#[]⟩,.int .i64 0] 37);have HE:=h_ (Bx.new v0 #[.int .i64 0,.int .i64 0,.slice none 0 0,.slice oa on oc,.slice none 0 0,.slice none 0 0,.string ⟨#[]⟩,.int .i64 0] 37);have hvs:=HRB.out.lt;have HS:=HS.out.k hal;have HRB:=HRB.out.k hal;have HB:=bt HB hal;clear hal;have hxc:=HX.out.c14;obtain⟨x0,x1,x2,x3,x4,x5,x6,x7,x8,x9,x10,x11,x12,x13⟩:=hxc;clear HX;go_upto_region 2 with (fail);generalize hW:v0.alloc (.cells #[.int .i64 0,.int .i64 0,.slice none 0 0,.slice oa on oc,.slice none 0 0,.slice none 0 0,.string ⟨#[]⟩,.int .i64 0] 37)=v1 at HS HRB HB HE ⊢;clear hW x0 x1 x2 x3 x4 x5 x6 x7 x8 x9 x10 x11 x12 x13;obtain⟨s0,s1,s2,s3⟩:=HS.out.c4;obtain⟨e0,e1,e2,e3,e4,e5,e6,e7⟩:=HE.out.c8;have f0:=HE.out.free 0;have f1:=HE.out.free 1;have f2:=HE.out.free 2;have f6:=HE.out.free 6;have HE2:=h_ (show Bx v0.heap.size #[.int .i64 3,.int .i64 0,.slice none 0 0,.slice oa on oc,.slice none 0 0,.slice none 0 0,.string (bs k),.int .i64 0] 37 ((((v1.setCell ⟨v0.heap.size,0,none⟩ (.int .i64 3)).setCell ⟨v0.heap.size,1,none⟩ (.int .i64 0)).setCell ⟨v0.heap.size,2,none⟩ (.slice none 0 0)).setCell ⟨v0.heap.size,6,none⟩ (.string (bs k))).drew from((((HE.out.set 0 (.int .i64 3)).set 1 (.int .i64 0)).set 2 (.slice none 0 0)).set 6 (.string (bs k))));have HRB2:=h_ (Bx.drew ((((HRB.out.other (c:=v0.heap.size) (i:=0) (by omega) (.int .i64 3)).other (c:=v0.heap.size) (i:=1) (by omega) (.int .i64 0)).other (c:=v0.heap.size) (i:=2) (by omega) (.slice none 0 0)).other (c:=v0.heap.size) (i:=6) (by omega) (.string (bs k))));have HB2:=h_ (Below.drew (below_set (below_set (below_set (below_set HB.out v0.heap.size 0 (by omega) (.int .i64 3)) v0.heap.size 1 (by omega) (.int .i64 0)) v0.heap.size 2 (by omega) (.slice none 0 0)) v0.heap.size 6 (by omega) (.string (bs k))));have HS0:=h_ (show (fun w'=>w'.cell? ⟨w.heap.size,0,none⟩=some (.int .i64 3)∧w'.cell? ⟨w.heap.size,1,none⟩=some (.int .i64 0)∧w'.cell? ⟨w.heap.size,2,none⟩=some (.slice none 0 0)∧w'.cell? ⟨w.heap.size,3,none⟩=some (.string (bs k))) v1.drew from⟨s0,s1,s2,s3⟩);have HKA:=h_ (show (fun w'=>w'.cell? ⟨w.heap.size,0,none⟩=some (.int .i64 3)∧w'.cell? ⟨w.heap.size,1,none⟩=some (.int .i64 0)∧w'.cell? ⟨w.heap.size,2,none⟩=some (.slice none 0 0)∧w'.cell? ⟨w.heap.size,3,none⟩=some (.string (bs k))) (((v1.setCell ⟨v0.heap.size,0,none⟩ (.int .i64 3)).setCell ⟨v0.heap.size,1,none⟩ (.int .i64 0)).setCell ⟨v0.heap.size,2,none⟩ (.slice none 0 0)) from⟨cell1_set _ (by omega) (cell1_set _ (by omega) (cell1_set _ (by omega) (s0))),cell1_set _ (by omega) (cell1_set _ (by omega) (cell1_set _ (by omega) (s1))),cell1_set _ (by omega) (cell1_set _ (by omega) (cell1_set _ (by omega) (s2))),cell1_set _ (by omega) (cell1_set _ (by omega) (cell1_set _ (by omega) (s3)))⟩);have HKB:=h_ (show (fun w'=>w'.cell? ⟨w.heap.size,0,none⟩=some (.int .i64 3)∧w'.cell? ⟨w.heap.size,1,none⟩=some (.int .i64 0)∧w'.cell? ⟨w.heap.size,2,none⟩=some (.slice none 0 0)∧w'.cell? ⟨w.heap.size,3,none⟩=some (.string (bs k))) ((((v1.setCell ⟨v0.heap.size,0,none⟩ (.int .i64 3)).setCell ⟨v0.heap.size,1,none⟩ (.int .i64 0)).setCell ⟨v0.heap.size,2,none⟩ (.slice none 0 0)).setCell ⟨v0.heap.size,6,none⟩ (.string (bs k))) from⟨cell1_set _ (by omega) (cell1_set _ (by omega) (cell1_set _ (by omega) (cell1_set _ (by omega) (s0)))),cell1_set _ (by omega) (cell1_set _ (by omega) (cell1_set _ (by omega) (cell1_set _ (by omega) (s1)))),cell1_set _ (by omega) (cell1_set _ (by omega) (cell1_set _ (by omega) (cell1_set _ (by omega) (s2)))),cell1_set _ (by omega) (cell1_set _ (by omega) (cell1_set _ (by omega) (cell1_set _ (by omega) (s3))))⟩);have g6:(((v1.setCell ⟨v0.heap.size,0,none⟩ (.int .i64 3)).setCell ⟨v0.heap.size,1,none⟩ (.int .i64 0)).setCell ⟨v0.heap.size,2,none⟩ (.slice none 0 0)).cell? ⟨v0.heap.size,6,none⟩=some (.string ⟨#[]⟩):=(((HE.out.set 0 (.int .i64 3)).set 1 (.int .i64 0)).set 2 (.slice none 0 0)).cell 6;have h6:=(((HE.out.set 0 (.int .i64 3)).set 1 (.int .i64 0)).set 2 (.slice none 0 0)).free 6;go_upto_region 3 with (fail);refine wp_region_held_drew (S:=(fun w'=>w'.cell? ⟨w.heap.size,0,none⟩=some (.int .i64 3)∧w'.cell? ⟨w.heap.size,1,none⟩=some (.int .i64 0)∧w'.cell? ⟨w.heap.size,2,none⟩=some (.slice none 0 0)∧w'.cell? ⟨w.heap.size,3,none⟩=some (.string (bs k)))) (by kernel_rfl) ?_ (fun hHeld=>?_)
  ·exact HS0.out
  refine tkX 0 15 ?_;refine tkX 1 16 ?_;refine tkX 2 17 ?_;refine tkX 3 18 ?_;refine tkX 4 19 ?_;simp only[sA,sB,sC];refine rd1 5 fun K hK=>?_;go_simp;refine hK.out _ _ ?_ (fun hHeld2=>?_)
  ·exact HKA.out
  clear hK K
  (try simp only[Act.put,sA,sB,sC])
  refine tkX 6 20 ?_;simp only[sA,sB,sC];refine rd1 7 fun K hK=>?_;go_simp;refine hK.out _ _ ?_ (fun hHeld3=>?_)
  ·exact HKB.out
  clear hK K
  (try simp only[Act.put,sA,sB,sC])
  refine wpAnyH_done (by kernel_rfl) ?_ _;generalize hW:((((v1.setCell ⟨v0.heap.size,0,none⟩ (.int .i64 3)).setCell ⟨v0.heap.size,1,none⟩ (.int .i64 0)).setCell ⟨v0.heap.size,2,none⟩ (.slice none 0 0)).setCell ⟨v0.heap.size,6,none⟩ (.string (bs k))).drew=v2 at HE2 HRB2 HB2 ⊢;clear hW hHeld hHeld2 hHeld3 HKA HKB HS0 g6 h6;clear HE HRB HB HS s0 s1 s2 s3 e0 e1 e2 e3 e4 e5 e6 e7 f0 f1 f2 f6;have HE:=HE2;have HRB:=HRB2;have HB:=HB2;clear HE2 HRB2 HB2;obtain⟨e0,e1,e2,e3,e4,e5,e6,e7⟩:=HE.out.c8;obtain⟨r0,r1,r2,r3,r4,r5,r6,r7⟩:=HRB.out.d8 0 1 2 3 4 5 6 7;have f0:=HRB.out.free 0;have f1:=HRB.out.free 1;have f2:=HRB.out.free 2;have f3:=HRB.out.free 3;have f4:=HRB.out.free 4;have f5:=HRB.out.free 5;have f6:=HRB.out.free 6;have f7:=HRB.out.free 7;have HK:=h_ (HRB.out.sets8 (.int .i64 3) (.int .i64 0) (.slice none 0 0) (.slice oa on oc) (.slice none 0 0) (.slice none 0 0) (.string (bs k)) (.int .i64 0));go_wp2;have k0:=HK.out.cell 0;have k1:=HK.out.cell 1;have k2:=HK.out.cell 2;have k3:=HK.out.cell 3;have k4:=HK.out.cell 4;have k5:=HK.out.cell 5;have k6:=HK.out.cell 6;have k7:=HK.out.cell 7;simp only[List.getElem?_toArray,List.getElem?_cons_zero,List.getElem?_cons_succ]at k0 k1 k2 k3 k4 k5 k6 k7;refine bodyPost_ret (v:=.agg #[.int .i64 3,.int .i64 0,.slice none 0 0,.slice oa on oc,.slice none 0 0,.slice none 0 0,.string (bs k),.int .i64 0]) (by simp[results,results120,go_sem,k0,k1,k2,k3,k4,k5,k6,k7]<;>rfl) rfl ⟨rfl,below_sets8 HB.out _ (by omega) _ _ _ _ _ _ _ _⟩
def evE (al:Bool) (rd wri:List (List UInt8)) (M:List Pr) (op:Int) (l:List Vl):Rs × List (List UInt8):=
 if (stB M && (ftB ⟨al,rd,wri⟩ && l.all varB))=true then evS al rd M op l else (.ab 1009,[])
theorem vars_are:∀(V:List Pr),(V.map Pr.key).Nodup→∀i (h:i<V.length),getP V V[i].key=V[i].v
 | [],_,i,h=>absurd h (Nat.not_lt_zero _)
 | p::L,hn,0,_=>by rw[getP_cons];simp
 | p::L,hn,i+1,h=>by
  rw[List.map_cons,List.nodup_cons]at hn
  have hi:i<L.length:=by simpa using h
  rw[getP_cons,List.getElem_cons_succ,if_neg,vars_are L hn.2 i hi];intro e
  have e2:p.key=L[i].key:=by simpa using e
  exact hn.1 (e2 ▸ List.mem_map.2 ⟨L[i],List.getElem_mem hi,rfl⟩)
theorem take_notin{V:List Pr}(hn:(V.map Pr.key).Nodup){k:Nat}(hk:k<V.length):V[k].key∉(V.take k).map Pr.key:=by
 intro hm;rw[List.mem_map]at hm;obtain⟨p,hp,he⟩:=hm;obtain⟨j,hj,hpj⟩:=List.mem_iff_getElem.1 hp;rw[List.length_take]at hj;rw[List.getElem_take]at hpj
 have hj2:j<V.length:=by omega
 have h3:(V.map Pr.key)[j]'(by simpa using hj2)=(V.map Pr.key)[k]'(by simpa using hk):=by rw[List.getElem_map,List.getElem_map,hpj,he]
 exact(List.pairwise_iff_getElem.1 hn) j k (by simpa using hj2) (by simpa using hk) (by omega) h3
theorem allv_bad{V:List Pr}{k:Nat}(hk:k<V.length){p:Pr}(hp:V[k]=p)(hb:varB p.v=false):V.all (fun p=>varB p.v)=false:=by
 rw[List.all_eq_false];exact⟨V[k],List.getElem_mem hk,by rw[hp,hb];simp⟩
theorem allv_next{V:List Pr}{k:Nat}(hk:k<V.length){p:Pr}(hp:V[k]=p)(hb:varB p.v=true)(h:(V.take k).all (fun p=>varB p.v)=true):(V.take (k+1)).all (fun p=>varB p.v)=true:=by
 rw[List.take_succ_eq_append_getElem hk,List.all_append,h,hp];simp[hb]
theorem Mp.ne{m b:Nat}{L:List Pr}{cs:Array Value}{T:TypeId}{W:World}(h:Mp m L W)(hb:Bx b cs T W):m≠b:=by
 intro e;subst e;obtain⟨_,_,h1,_⟩:=h;exact absurd (h1.symm.trans hb) (by intro h;cases h)
theorem boxes4(w:World)(A B C D:Array Value)(S T U X:TypeId):∃v0,(((w.alloc (.cells A S)).alloc (.cells B T)).alloc (.cells C U)).alloc (.cells D X)=v0∧Below w.heap.size w v0∧Bx w.heap.size A S v0∧Bx (w.heap.size+1) B T v0∧Bx (w.heap.size+2) C U v0∧Bx (w.heap.size+3) D X v0:=by
 have h2:=Bx.new1 w (.cells A S) B T;have h3:=Bx.new2 w (.cells A S) (.cells B T) C U;have h4:=Bx.new (((w.alloc (.cells A S)).alloc (.cells B T)).alloc (.cells C U)) D X;rw[show (((w.alloc (.cells A S)).alloc (.cells B T)).alloc (.cells C U)).heap.size=w.heap.size+3 by simp]at h4;exact⟨_,rfl,((((Below.refl w.heap.size w).alloc (Nat.le_refl _) _).alloc (by simp) _).alloc (by simp;omega) _).alloc (by simp;omega) _,(((Bx.new w A S).alloc _).alloc _).alloc _,(h2.alloc _).alloc _,h3.alloc _,h4⟩
end Go.Proofs.YtnglaegofhpleaaGreatDoor
