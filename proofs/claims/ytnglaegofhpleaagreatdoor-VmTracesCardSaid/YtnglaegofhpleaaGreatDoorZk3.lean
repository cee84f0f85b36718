/- What the claim needs, part 3. No conditions. -/
import Derived.Test.YtnglaegofhpleaaGreatDoorZk2
set_option maxRecDepth 100000
set_option maxHeartbeats 64000000
namespace Go.Proofs.YtnglaegofhpleaaGreatDoor
open Go.RowKit Go.Proofs.Tryz
theorem sameInts_any(va vb:Value)(M N:List Int)(w:World)(hA:CellsAt w va M.length (intsL M))(hC:CellsAt w vb N.length (intsL N))(hM:M.length≤9223372036854775806):
  Calls prog 11 #[va,vb] w fun e w'=>e=.returned (.bool (decide (M=N)))∧Below w.heap.size w w':=by
 obtain⟨aa,ca,rfl,-⟩:=id hA;obtain⟨ab,cb,rfl,-⟩:=id hC;by_cases hl:M.length=N.length;rotate_left
 ·have tl:((M.length:Int) != (N.length:Int))=true:=by rw[bne_iff_ne];omega
  have hr:decide (M=N)=false:=by rw[decide_eq_false];intro e;exact hl (by rw[e])
  rw[hr];have HL:=h_ hl;clear hl hr;go_enter func11,ntmps11;go_wp2;go_ret;exact⟨rfl,Below.refl _ _⟩
 have tl:((M.length:Int) != (N.length:Int))=false:=by rw[hl];simp
 obtain⟨R,hR⟩:=ex_ (decide (M=N));rw[hR];have HL:=h_ hl;have HR:=h_ (show decide (M.drop 0=N.drop 0)=R from hR);have HA:=h_ hA;have HC:=h_ hC;clear hl hR hA hC;go_enter func11,ntmps11;go_wp2;go_loopw [5] (fun i wr=>∃k:Nat,k≤M.length∧i=.int .i64 k∧Hid (decide (M.drop k=N.drop k)=R)∧Below w.heap.size w wr) (fun i _=>M.length-(intOf i).toNat)
 case atStart=>exact⟨0,Nat.zero_le _,rfl,HR,Below.refl _ _⟩
 case round =>
  obtain⟨k,hk,rfl,HQ,hB⟩:=hrel;clear HR;have HB:=h_ hB;clear hB;by_cases hlt:k<M.length
  ·have hlt':(k:Int)<(M.length:Int):=by omega
   have hlt2:k<N.length:=by rw[←HL.out];exact hlt
   have hlt3:(k:Int)<(N.length:Int):=by omega
   have hw1:IntKind.i64.wrap ((k:Int)+1)=(k:Int)+1:=by rw[IntKind.wrap_i64];omega
   obtain⟨ba,oa,hae,p0⟩:=int_cells (HA.out.below HB.out) hlt;cases hae;obtain⟨bb,ob,hbe,r0⟩:=int_cells (HC.out.below HB.out) hlt2;cases hbe;obtain⟨u,hx⟩:=ex_ (M[k]);obtain⟨v,hy⟩:=ex_ (N[k]);rw[hx]at p0;rw[hy]at r0;have HS0:=h_ (show wr.drew.cell? ⟨ba,oa+k,none⟩=some (.int .i64 u)∧wr.drew.cell? ⟨bb,ob+k,none⟩=some (.int .i64 v) from⟨p0,r0⟩);clear p0 r0;by_cases e0:u=v;rotate_left
   ·have t0:(u==v)=false:=by rw[beq_eq_false_iff_ne];exact e0
    have HF:=h_ (eq_no hlt hlt2 HQ.out (by rw[hx,hy];intro e;exact e0 e));have HXE:=h_ hx;have HYE:=h_ hy;clear hx hy e0;go_upto_region 6 with (fail);go_wp2_with fail;refine wp_region_held_drew (S:=(fun w'=>w'.cell? ⟨ba,oa+k,none⟩=some (.int .i64 u)∧w'.cell? ⟨bb,ob+k,none⟩=some (.int .i64 v))) (by kernel_rfl) ?_ (fun hHeld=>?_)
    ·exact HS0.out
    refine tkX 0 17 ?_;refine tkX 1 18 ?_;refine tkX 2 19 ?_;refine tkY 3 (v:=?vv4) 20 ?yy4 ?_
    case yy4 =>
     intro wq hSw;obtain⟨z0,z1⟩:=id hSw;clear hSw;go_simp
     (try with_reducible rfl)
    refine tkX 4 21 ?_;refine tkX 5 22 ?_;refine tkX 6 23 ?_;refine tkY 7 (v:=?vv8) 24 ?yy8 ?_
    case yy8 =>
     intro wq hSw;obtain⟨z0,z1⟩:=id hSw;clear hSw;go_simp
     (try with_reducible rfl)
    refine tkX 8 25 ?_;simp only[sA,sB,sC];refine wpAnyH_done (by kernel_rfl) ?_ _;go_wp2;go_ret;exact⟨by rw[HF.out]<;>rfl,HB.out.trans (Below.refl _ _).drew⟩
   have t0:(u==v)=true:=by rw[e0];simp
   have HN:=h_ (eq_go hlt hlt2 HQ.out (by rw[hx,hy,e0]));have HXE:=h_ hx;have HYE:=h_ hy;clear hx hy e0;go_upto_region 6 with (fail);go_wp2_with fail;refine wp_region_held_drew (S:=(fun w'=>w'.cell? ⟨ba,oa+k,none⟩=some (.int .i64 u)∧w'.cell? ⟨bb,ob+k,none⟩=some (.int .i64 v))) (by kernel_rfl) ?_ (fun hHeld=>?_)
   ·exact HS0.out
   refine tkX 0 17 ?_;refine tkX 1 18 ?_;refine tkX 2 19 ?_;refine tkY 3 (v:=?vv13) 20 ?yy13 ?_
   case yy13 =>
    intro wq hSw;obtain⟨z0,z1⟩:=id hSw;clear hSw;go_simp
    (try with_reducible rfl)
   refine tkX 4 21 ?_;refine tkX 5 22 ?_;refine tkX 6 23 ?_;refine tkY 7 (v:=?vv17) 24 ?yy17 ?_
   case yy17 =>
    intro wq hSw;obtain⟨z0,z1⟩:=id hSw;clear hSw;go_simp
    (try with_reducible rfl)
   refine tkX 8 25 ?_;simp only[sA,sB,sC];refine wpAnyH_done (by kernel_rfl) ?_ _;go_wp2;go_roundw
   case rel=>exact⟨k+1,by omega,by go_num,HN,HB.out.trans (Below.refl _ _).drew⟩
   case measure=>simp[intOf];omega
  ·have hlt':¬(k:Int)<(M.length:Int):=by omega
   have HF:=h_ (show R=true by rw[←HQ.out,List.drop_of_length_le (by omega),List.drop_of_length_le (by rw[←HL.out];omega)];rfl);go_wp2;go_ret;exact⟨by rw[HF.out]<;>rfl,HB.out⟩
theorem RsameKeys_any(va vb:Value)(M N:List (List UInt8))(w:World)(hA:StrS w va M)(hC:StrS w vb N)(hM:M.length≤9223372036854775806):
  Calls prog 19 #[va,vb] w fun e w'=>e=.returned (.bool (decide (M=N)))∧Below w.heap.size w w':=by
 obtain⟨aa,ca,rfl⟩:=hA.len2;obtain⟨ab,cb,rfl⟩:=hC.len2;by_cases hl:M.length=N.length;rotate_left
 ·have tl:((M.length:Int) != (N.length:Int))=true:=by rw[bne_iff_ne];omega
  have hr:decide (M=N)=false:=by rw[decide_eq_false];intro e;exact hl (by rw[e])
  rw[hr];have HL:=h_ hl;clear hl hr;go_enter func19,ntmps19;go_wp2;go_ret;exact⟨rfl,Below.refl _ _⟩
 have tl:((M.length:Int) != (N.length:Int))=false:=by rw[hl];simp
 obtain⟨R,hR⟩:=ex_ (decide (M=N));rw[hR];have HL:=h_ hl;have HR:=h_ (show decide (M.drop 0=N.drop 0)=R from hR);have HA:=h_ hA;have HC:=h_ hC;clear hl hR hA hC;go_enter func19,ntmps19;go_wp2;go_loopw [5] (fun i wr=>∃k:Nat,k≤M.length∧i=.int .i64 k∧Hid (decide (M.drop k=N.drop k)=R)∧Below w.heap.size w wr) (fun i _=>M.length-(intOf i).toNat)
 case atStart=>exact⟨0,Nat.zero_le _,rfl,HR,Below.refl _ _⟩
 case round =>
  obtain⟨k,hk,rfl,HQ,hB⟩:=hrel;clear HR;have HB:=h_ hB;clear hB;by_cases hlt:k<M.length
  ·have hlt':(k:Int)<(M.length:Int):=by omega
   have hlt2:k<N.length:=by rw[←HL.out];exact hlt
   have hlt3:(k:Int)<(N.length:Int):=by omega
   have hw1:IntKind.i64.wrap ((k:Int)+1)=(k:Int)+1:=by rw[IntKind.wrap_i64];omega
   obtain⟨ba,oa,hae,p0⟩:=str_cell (HA.out.below HB.out) hlt;cases hae;obtain⟨bb,ob,hbe,r0⟩:=str_cell (HC.out.below HB.out) hlt2;cases hbe;obtain⟨u,hx⟩:=ex_ (M[k]);obtain⟨v,hy⟩:=ex_ (N[k]);rw[hx]at p0;rw[hy]at r0;have HS0:=h_ (show wr.drew.cell? ⟨ba,oa+k,none⟩=some (.string (bs u))∧wr.drew.cell? ⟨bb,ob+k,none⟩=some (.string (bs v)) from⟨p0,r0⟩);clear p0 r0;by_cases e0:u=v;rotate_left
   ·have t0:(u==v)=false:=by rw[beq_eq_false_iff_ne];exact e0
    have HF:=h_ (eq_no hlt hlt2 HQ.out (by rw[hx,hy];intro e;exact e0 e));have HXE:=h_ hx;have HYE:=h_ hy;clear hx hy e0;go_upto_region 6 with (fail);go_wp2_with fail;refine wp_region_held_drew (S:=(fun w'=>w'.cell? ⟨ba,oa+k,none⟩=some (.string (bs u))∧w'.cell? ⟨bb,ob+k,none⟩=some (.string (bs v)))) (by kernel_rfl) ?_ (fun hHeld=>?_)
    ·exact HS0.out
    refine tkX 0 17 ?_;refine tkX 1 18 ?_;refine tkX 2 19 ?_;refine tkY 3 (v:=?vv22) 20 ?yy22 ?_
    case yy22 =>
     intro wq hSw;obtain⟨z0,z1⟩:=id hSw;clear hSw;go_simp
     (try with_reducible rfl)
    refine tkX 4 21 ?_;refine tkX 5 22 ?_;refine tkX 6 23 ?_;refine tkY 7 (v:=?vv26) 24 ?yy26 ?_
    case yy26 =>
     intro wq hSw;obtain⟨z0,z1⟩:=id hSw;clear hSw;go_simp
     (try with_reducible rfl)
    refine tkX 8 25 ?_;simp only[sA,sB,sC];refine wpAnyH_done (by kernel_rfl) ?_ _;go_wp2;go_ret;exact⟨by rw[HF.out]<;>rfl,HB.out.trans (Below.refl _ _).drew⟩
   have t0:(u==v)=true:=by rw[e0];simp
   have HN:=h_ (eq_go hlt hlt2 HQ.out (by rw[hx,hy,e0]));have HXE:=h_ hx;have HYE:=h_ hy;clear hx hy e0;go_upto_region 6 with (fail);go_wp2_with fail;refine wp_region_held_drew (S:=(fun w'=>w'.cell? ⟨ba,oa+k,none⟩=some (.string (bs u))∧w'.cell? ⟨bb,ob+k,none⟩=some (.string (bs v)))) (by kernel_rfl) ?_ (fun hHeld=>?_)
   ·exact HS0.out
   refine tkX 0 17 ?_;refine tkX 1 18 ?_;refine tkX 2 19 ?_;refine tkY 3 (v:=?vv31) 20 ?yy31 ?_
   case yy31 =>
    intro wq hSw;obtain⟨z0,z1⟩:=id hSw;clear hSw;go_simp
    (try with_reducible rfl)
   refine tkX 4 21 ?_;refine tkX 5 22 ?_;refine tkX 6 23 ?_;refine tkY 7 (v:=?vv35) 24 ?yy35 ?_
   case yy35 =>
    intro wq hSw;obtain⟨z0,z1⟩:=id hSw;clear hSw;go_simp
    (try with_reducible rfl)
   refine tkX 8 25 ?_;simp only[sA,sB,sC];refine wpAnyH_done (by kernel_rfl) ?_ _;go_wp2;go_roundw
   case rel=>exact⟨k+1,by omega,by go_num,HN,HB.out.trans (Below.refl _ _).drew⟩
   case measure=>simp[intOf];omega
  ·have hlt':¬(k:Int)<(M.length:Int):=by omega
   have HF:=h_ (show R=true by rw[←HQ.out,List.drop_of_length_le (by omega),List.drop_of_length_le (by rw[←HL.out];omega)];rfl);go_wp2;go_ret;exact⟨by rw[HF.out]<;>rfl,HB.out⟩
theorem RSame06_any(va vb:Value)(M N:List Pr)(w:World)(hA:CellsAt w va M.length (prLs M))(hC:CellsAt w vb N.length (prLs N))(hM:M.length≤9223372036854775806):
  Calls prog 20 #[va,vb] w fun e w'=>e=.returned (.bool (decide (M=N)))∧Below w.heap.size w w':=by
 obtain⟨aa,ca,rfl,-⟩:=id hA;obtain⟨ab,cb,rfl,-⟩:=id hC;by_cases hl:M.length=N.length;rotate_left
 ·have tl:((M.length:Int) != (N.length:Int))=true:=by rw[bne_iff_ne];omega
  have hr:decide (M=N)=false:=by rw[decide_eq_false];intro e;exact hl (by rw[e])
  rw[hr];have HL:=h_ hl;clear hl hr;go_enter func20,ntmps20;go_wp2;go_ret;exact⟨rfl,Below.refl _ _⟩
 have tl:((M.length:Int) != (N.length:Int))=false:=by rw[hl];simp
 obtain⟨R,hR⟩:=ex_ (decide (M=N));rw[hR];have HL:=h_ hl;have HR:=h_ (show decide (M.drop 0=N.drop 0)=R from hR);have HA:=h_ hA;have HC:=h_ hC;clear hl hR hA hC;go_enter func20,ntmps20;go_wp2;go_loopw [5] (fun i wr=>∃k:Nat,k≤M.length∧i=.int .i64 k∧Hid (decide (M.drop k=N.drop k)=R)∧Below w.heap.size w wr) (fun i _=>M.length-(intOf i).toNat)
 case atStart=>exact⟨0,Nat.zero_le _,rfl,HR,Below.refl _ _⟩
 case round =>
  obtain⟨k,hk,rfl,HQ,hB⟩:=hrel;clear HR;have HB:=h_ hB;clear hB;by_cases hlt:k<M.length
  ·have hlt':(k:Int)<(M.length:Int):=by omega
   have hlt2:k<N.length:=by rw[←HL.out];exact hlt
   have hlt3:(k:Int)<(N.length:Int):=by omega
   have hw1:IntKind.i64.wrap ((k:Int)+1)=(k:Int)+1:=by rw[IntKind.wrap_i64];omega
   obtain⟨ba,oa,hae,p0,p1,p2,p3⟩:=pr_cells (HA.out.below HB.out) hlt;cases hae;obtain⟨bb,ob,hbe,r0,r1,r2,r3⟩:=pr_cells (HC.out.below HB.out) hlt2;cases hbe;obtain⟨x,hx⟩:=ex_ (M[k]);obtain⟨y,hy⟩:=ex_ (N[k]);rw[hx]at p0 p1 p2 p3;rw[hy]at r0 r1 r2 r3;obtain⟨xk,xv⟩:=x;obtain⟨yk,yv⟩:=y;obtain⟨xd,xn,xs⟩:=xv;obtain⟨yd,yn,ys⟩:=yv;simp only at p0 p1 p2 p3 r0 r1 r2 r3;have HS0:=h_ (show wr.drew.cell? ⟨ba,oa+k * 4,none⟩=some (.string (bs xk))∧wr.drew.cell? ⟨ba,oa+k * 4+1,none⟩=some (.int .i64 xd)∧wr.drew.cell? ⟨ba,oa+k * 4+2,none⟩=some (.int .i64 xn)∧wr.drew.cell? ⟨ba,oa+k * 4+3,none⟩=some (.string (bs xs))∧wr.drew.cell? ⟨bb,ob+k * 4,none⟩=some (.string (bs yk))∧wr.drew.cell? ⟨bb,ob+k * 4+1,none⟩=some (.int .i64 yd)∧wr.drew.cell? ⟨bb,ob+k * 4+2,none⟩=some (.int .i64 yn)∧wr.drew.cell? ⟨bb,ob+k * 4+3,none⟩=some (.string (bs ys)) from⟨p0,p1,p2,p3,r0,r1,r2,r3⟩);clear p0 p1 p2 p3 r0 r1 r2 r3;by_cases e0:xk=yk;rotate_left
   ·have t0:(xk==yk)=false:=by rw[beq_eq_false_iff_ne];exact e0
    have HF:=h_ (eq_no hlt hlt2 HQ.out (by rw[hx,hy];intro e;exact e0 (by injection e)));have HXE:=h_ hx;have HYE:=h_ hy;clear hx hy e0;go_upto_region 6 with (fail);go_wp2_with fail;refine wp_region_held_drew (S:=(fun w'=>w'.cell? ⟨ba,oa+k * 4,none⟩=some (.string (bs xk))∧w'.cell? ⟨ba,oa+k * 4+1,none⟩=some (.int .i64 xd)∧w'.cell? ⟨ba,oa+k * 4+2,none⟩=some (.int .i64 xn)∧w'.cell? ⟨ba,oa+k * 4+3,none⟩=some (.string (bs xs))∧w'.cell? ⟨bb,ob+k * 4,none⟩=some (.string (bs yk))∧w'.cell? ⟨bb,ob+k * 4+1,none⟩=some (.int .i64 yd)∧w'.cell? ⟨bb,ob+k * 4+2,none⟩=some (.int .i64 yn)∧w'.cell? ⟨bb,ob+k * 4+3,none⟩=some (.string (bs ys)))) (by kernel_rfl) ?_ (fun hHeld=>?_)
    ·exact HS0.out
    refine tkX 0 17 ?_;refine tkX 1 18 ?_;refine tkX 2 19 ?_;refine tkY 3 (v:=?vv40) 20 ?yy40 ?_
    case yy40 =>
     intro wq hSw;obtain⟨z0,z1,z2,z3,z4,z5,z6,z7⟩:=id hSw;clear hSw;go_simp
     (try with_reducible rfl)
    refine tkX 4 21 ?_;refine tkX 5 22 ?_;refine tkX 6 23 ?_;refine tkY 7 (v:=?vv44) 24 ?yy44 ?_
    case yy44 =>
     intro wq hSw;obtain⟨z0,z1,z2,z3,z4,z5,z6,z7⟩:=id hSw;clear hSw;go_simp
     (try with_reducible rfl)
    refine tkX 8 25 ?_;simp only[sA,sB,sC];refine wpAnyH_done (by kernel_rfl) ?_ _;go_wp2;go_ret;exact⟨by rw[HF.out]<;>rfl,HB.out.trans (Below.refl _ _).drew⟩
   have t0:(xk==yk)=true:=by rw[e0];simp
   by_cases e1:xd=yd;rotate_left
   ·have t1:(xd==yd)=false:=by rw[beq_eq_false_iff_ne];exact e1
    have HF:=h_ (eq_no hlt hlt2 HQ.out (by rw[hx,hy];intro e;exact e1 (by injection e with h1 h2;injection h2)));have HXE:=h_ hx;have HYE:=h_ hy;clear hx hy e0 e1;go_upto_region 6 with (fail);go_wp2_with fail;refine wp_region_held_drew (S:=(fun w'=>w'.cell? ⟨ba,oa+k * 4,none⟩=some (.string (bs xk))∧w'.cell? ⟨ba,oa+k * 4+1,none⟩=some (.int .i64 xd)∧w'.cell? ⟨ba,oa+k * 4+2,none⟩=some (.int .i64 xn)∧w'.cell? ⟨ba,oa+k * 4+3,none⟩=some (.string (bs xs))∧w'.cell? ⟨bb,ob+k * 4,none⟩=some (.string (bs yk))∧w'.cell? ⟨bb,ob+k * 4+1,none⟩=some (.int .i64 yd)∧w'.cell? ⟨bb,ob+k * 4+2,none⟩=some (.int .i64 yn)∧w'.cell? ⟨bb,ob+k * 4+3,none⟩=some (.string (bs ys)))) (by kernel_rfl) ?_ (fun hHeld=>?_)
    ·exact HS0.out
    refine tkX 0 17 ?_;refine tkX 1 18 ?_;refine tkX 2 19 ?_;refine tkY 3 (v:=?vv49) 20 ?yy49 ?_
    case yy49 =>
     intro wq hSw;obtain⟨z0,z1,z2,z3,z4,z5,z6,z7⟩:=id hSw;clear hSw;go_simp
     (try with_reducible rfl)
    refine tkX 4 21 ?_;refine tkX 5 22 ?_;refine tkX 6 23 ?_;refine tkY 7 (v:=?vv53) 24 ?yy53 ?_
    case yy53 =>
     intro wq hSw;obtain⟨z0,z1,z2,z3,z4,z5,z6,z7⟩:=id hSw;clear hSw;go_simp
     (try with_reducible rfl)
    refine tkX 8 25 ?_;simp only[sA,sB,sC];refine wpAnyH_done (by kernel_rfl) ?_ _;go_wp2;go_ret;exact⟨by rw[HF.out]<;>rfl,HB.out.trans (Below.refl _ _).drew⟩
   have t1:(xd==yd)=true:=by rw[e1];simp
   by_cases e2:xn=yn;rotate_left
   ·have t2:(xn==yn)=false:=by rw[beq_eq_false_iff_ne];exact e2
    have HF:=h_ (eq_no hlt hlt2 HQ.out (by rw[hx,hy];intro e;exact e2 (by injection e with h1 h2;injection h2)));have HXE:=h_ hx;have HYE:=h_ hy;clear hx hy e0 e1 e2;go_upto_region 6 with (fail);go_wp2_with fail;refine wp_region_held_drew (S:=(fun w'=>w'.cell? ⟨ba,oa+k * 4,none⟩=some (.string (bs xk))∧w'.cell? ⟨ba,oa+k * 4+1,none⟩=some (.int .i64 xd)∧w'.cell? ⟨ba,oa+k * 4+2,none⟩=some (.int .i64 xn)∧w'.cell? ⟨ba,oa+k * 4+3,none⟩=some (.string (bs xs))∧w'.cell? ⟨bb,ob+k * 4,none⟩=some (.string (bs yk))∧w'.cell? ⟨bb,ob+k * 4+1,none⟩=some (.int .i64 yd)∧w'.cell? ⟨bb,ob+k * 4+2,none⟩=some (.int .i64 yn)∧w'.cell? ⟨bb,ob+k * 4+3,none⟩=some (.string (bs ys)))) (by kernel_rfl) ?_ (fun hHeld=>?_)
    ·exact HS0.out
    refine tkX 0 17 ?_;refine tkX 1 18 ?_;refine tkX 2 19 ?_;refine tkY 3 (v:=?vv58) 20 ?yy58 ?_
    case yy58 =>
     intro wq hSw;obtain⟨z0,z1,z2,z3,z4,z5,z6,z7⟩:=id hSw;clear hSw;go_simp
     (try with_reducible rfl)
    refine tkX 4 21 ?_;refine tkX 5 22 ?_;refine tkX 6 23 ?_;refine tkY 7 (v:=?vv62) 24 ?yy62 ?_
    case yy62 =>
     intro wq hSw;obtain⟨z0,z1,z2,z3,z4,z5,z6,z7⟩:=id hSw;clear hSw;go_simp
     (try with_reducible rfl)
    refine tkX 8 25 ?_;simp only[sA,sB,sC];refine wpAnyH_done (by kernel_rfl) ?_ _;go_wp2;go_ret;exact⟨by rw[HF.out]<;>rfl,HB.out.trans (Below.refl _ _).drew⟩
   have t2:(xn==yn)=true:=by rw[e2];simp
   by_cases e3:xs=ys;rotate_left
   ·have t3:(xs==ys)=false:=by rw[beq_eq_false_iff_ne];exact e3
    have HF:=h_ (eq_no hlt hlt2 HQ.out (by rw[hx,hy];intro e;exact e3 (by injection e with h1 h2;injection h2)));have HXE:=h_ hx;have HYE:=h_ hy;clear hx hy e0 e1 e2 e3;go_upto_region 6 with (fail);go_wp2_with fail;refine wp_region_held_drew (S:=(fun w'=>w'.cell? ⟨ba,oa+k * 4,none⟩=some (.string (bs xk))∧w'.cell? ⟨ba,oa+k * 4+1,none⟩=some (.int .i64 xd)∧w'.cell? ⟨ba,oa+k * 4+2,none⟩=some (.int .i64 xn)∧w'.cell? ⟨ba,oa+k * 4+3,none⟩=some (.string (bs xs))∧w'.cell? ⟨bb,ob+k * 4,none⟩=some (.string (bs yk))∧w'.cell? ⟨bb,ob+k * 4+1,none⟩=some (.int .i64 yd)∧w'.cell? ⟨bb,ob+k * 4+2,none⟩=some (.int .i64 yn)∧w'.cell? ⟨bb,ob+k * 4+3,none⟩=some (.string (bs ys)))) (by kernel_rfl) ?_ (fun hHeld=>?_)
    ·exact HS0.out
    refine tkX 0 17 ?_;refine tkX 1 18 ?_;refine tkX 2 19 ?_;refine tkY 3 (v:=?vv67) 20 ?yy67 ?_
    case yy67 =>
     intro wq hSw;obtain⟨z0,z1,z2,z3,z4,z5,z6,z7⟩:=id hSw;clear hSw;go_simp
     (try with_reducible rfl)
    refine tkX 4 21 ?_;refine tkX 5 22 ?_;refine tkX 6 23 ?_;refine tkY 7 (v:=?vv71) 24 ?yy71 ?_
    case yy71 =>
     intro wq hSw;obtain⟨z0,z1,z2,z3,z4,z5,z6,z7⟩:=id hSw;clear hSw;go_simp
     (try with_reducible rfl)
    refine tkX 8 25 ?_;simp only[sA,sB,sC];refine wpAnyH_done (by kernel_rfl) ?_ _;go_wp2;go_ret;exact⟨by rw[HF.out]<;>rfl,HB.out.trans (Below.refl _ _).drew⟩
   have t3:(xs==ys)=true:=by rw[e3];simp
   have HN:=h_ (eq_go hlt hlt2 HQ.out (by rw[hx,hy,e0,e1,e2,e3]));have HXE:=h_ hx;have HYE:=h_ hy;clear hx hy e0 e1 e2 e3;go_upto_region 6 with (fail);go_wp2_with fail;refine wp_region_held_drew (S:=(fun w'=>w'.cell? ⟨ba,oa+k * 4,none⟩=some (.string (bs xk))∧w'.cell? ⟨ba,oa+k * 4+1,none⟩=some (.int .i64 xd)∧w'.cell? ⟨ba,oa+k * 4+2,none⟩=some (.int .i64 xn)∧w'.cell? ⟨ba,oa+k * 4+3,none⟩=some (.string (bs xs))∧w'.cell? ⟨bb,ob+k * 4,none⟩=some (.string (bs yk))∧w'.cell? ⟨bb,ob+k * 4+1,none⟩=some (.int .i64 yd)∧w'.cell? ⟨bb,ob+k * 4+2,none⟩=some (.int .i64 yn)∧w'.cell? ⟨bb,ob+k * 4+3,none⟩=some (.string (bs ys)))) (by kernel_rfl) ?_ (fun hHeld=>?_)
   ·exact HS0.out
   refine tkX 0 17 ?_;refine tkX 1 18 ?_;refine tkX 2 19 ?_;refine tkY 3 (v:=?vv76) 20 ?yy76 ?_
   case yy76 =>
    intro wq hSw;obtain⟨z0,z1,z2,z3,z4,z5,z6,z7⟩:=id hSw;clear hSw;go_simp
    (try with_reducible rfl)
   refine tkX 4 21 ?_;refine tkX 5 22 ?_;refine tkX 6 23 ?_;refine tkY 7 (v:=?vv80) 24 ?yy80 ?_
   case yy80 =>
    intro wq hSw;obtain⟨z0,z1,z2,z3,z4,z5,z6,z7⟩:=id hSw;clear hSw;go_simp
    (try with_reducible rfl)
   refine tkX 8 25 ?_;simp only[sA,sB,sC];refine wpAnyH_done (by kernel_rfl) ?_ _;go_wp2;go_roundw
   case rel=>exact⟨k+1,by omega,by go_num,HN,HB.out.trans (Below.refl _ _).drew⟩
   case measure=>simp[intOf];omega
  ·have hlt':¬(k:Int)<(M.length:Int):=by omega
   have HF:=h_ (show R=true by rw[←HQ.out,List.drop_of_length_le (by omega),List.drop_of_length_le (by rw[←HL.out];omega)];rfl);go_wp2;go_ret;exact⟨by rw[HF.out]<;>rfl,HB.out⟩
theorem cont_at{x:List UInt8}{M:List (List UInt8)}{k:Nat}(h:k<M.length)(hx:M[k]=x):M.contains x=true:=by
 rw[List.contains_iff_mem,←hx];exact List.getElem_mem h
theorem cont_none{x:List UInt8}{M:List (List UInt8)}(h:x∉M):M.contains x=false:=by
 rw[Bool.eq_false_iff];intro q;exact h (List.contains_iff_mem.1 q)
theorem notin_next{x:List UInt8}{M:List (List UInt8)}{k:Nat}(h:k<M.length)(hn:x∉M.take k)(hx:M[k]≠x):x∉M.take (k+1):=by
 rw[List.take_succ_eq_append_getElem h];intro hm;rcases List.mem_append.1 hm with q|q
 ·exact hn q
 ·exact hx (by simp at q;exact q.symm)
theorem RHas15_any(va:Value)(M:List (List UInt8))(x:List UInt8)(w:World)(hl:M.length≤9000000000000)(hM:StrS w va M):
  Calls prog 16 #[va,.string (bs x)] w fun e w'=>e=.returned (.bool (M.contains x))∧w'=w:=by
 obtain⟨a,cap,rfl⟩:=hM.len2;obtain⟨R,hR⟩:=ex_ (M.contains x);rw[hR];have HR:=h_ hR;have HM:=h_ hM;clear hR hM;go_enter func16,ntmps16;go_wp2;go_loopw [5] (fun i wr=>∃k:Nat,k≤M.length∧i=.int .i64 k∧Hid (x∉M.take k)∧wr=w) (fun i _=>M.length-(intOf i).toNat)
 case atStart=>exact⟨0,Nat.zero_le _,by first|exact True.intro|rfl,h_ (by simp),by first|exact True.intro|rfl⟩
 case round =>
  obtain⟨k,hk,rfl,HQ,rfl⟩:=hrel;by_cases hlt:k<M.length
  ·have hlt':(k:Int)<(M.length:Int):=by omega
   have hkb:(0:Int)≤(k:Int)∧(k:Int)<(M.length:Int):=⟨by omega,by omega⟩
   have hw1:IntKind.i64.wrap ((k:Int)+1)=(k:Int)+1:=by rw[IntKind.wrap_i64];omega
   obtain⟨b,off,rfl,p0⟩:=str_cell HM.out hlt;obtain⟨m,hm⟩:=ex_ (M[k]);rw[hm]at p0;have HMK:=h_ hm;clear hm;by_cases h1:m=x
   ·have t1:(m==x)=true:=by rw[h1];exact beq_self_eq_true _
    have HF:=h_ (show R=true from HR.out.symm.trans (cont_at hlt (by rw[HMK.out];exact h1)));clear h1;go_wp2;go_ret;exact⟨by rw[HF.out]<;>rfl,rfl⟩
   have t1:(m==x)=false:=by rw[beq_eq_false_iff_ne];exact h1
   have HN:=h_ (notin_next hlt HQ.out (by rw[HMK.out];exact h1));clear h1;go_wp2;go_roundw
   case rel=>exact⟨k+1,by omega,by go_num,HN,by first|exact True.intro|rfl⟩
   case measure=>simp[intOf];omega
  ·have hlt':¬(k:Int)<(M.length:Int):=by omega
   have HF:=h_ (show R=false from HR.out.symm.trans (cont_none (by have h:=HQ.out;rw[List.take_of_length_le (by omega)]at h;exact h)));go_wp2;go_ret;exact⟨by rw[HF.out]<;>rfl,rfl⟩
structure Ef where
 st:Int
 code:Int
 out:List Vl
 rds:List (List UInt8)
 puts:List (List UInt8)
 wrs:List Pr
 miss:List UInt8
 steps:Int
deriving DecidableEq
structure Ev where
 o:Value
 r:Value
 p:Value
 w:Value
def efV (e:Ef) (v:Ev):Array Value:=#[.int .i64 e.st,.int .i64 e.code,v.o,v.r,v.p,v.w,.string (bs e.miss),.int .i64 e.steps]
structure EfIn (e:Ef) (v:Ev) (W:World):Prop where
 o:CellsAt W v.o e.out.length (vlLs e.out)
 r:StrS W v.r e.rds
 p:StrS W v.p e.puts
 w:CellsAt W v.w e.wrs.length (prLs e.wrs)
theorem EfIn.below{e:Ef}{v:Ev}{W W':World}(h:EfIn e v W)(hb:Below W.heap.size W W'):EfIn e v W':=⟨h.o.below hb,h.r.below hb,h.p.below hb,h.w.below hb⟩
def EfS (e:Ef):Prop:=e.out.length≤1000000000000∧e.rds.length≤1000000000000∧e.puts.length≤1000000000000∧e.wrs.length≤1000000000000
theorem ef_ne{a b:Ef}(h:a.st≠b.st∨a.code≠b.code∨a.out≠b.out∨a.rds≠b.rds∨a.puts≠b.puts∨a.wrs≠b.wrs∨a.miss≠b.miss∨a.steps≠b.steps):decide (a=b)=false:=by
 rw[decide_eq_false];rintro rfl;simp at h
theorem ef_eq{a b:Ef}(h1:a.st=b.st)(h2:a.code=b.code)(h3:a.out=b.out)(h4:a.rds=b.rds)(h5:a.puts=b.puts)(h6:a.wrs=b.wrs)(h7:a.miss=b.miss)(h8:a.steps=b.steps):decide (a=b)=true:=by
 rw[decide_eq_true_eq];cases a;cases b;simp only at h1 h2 h3 h4 h5 h6 h7 h8;simp[h1,h2,h3,h4,h5,h6,h7,h8]
theorem boxes2e(w:World)(A:Array Value)(S:TypeId)(B:Array Value)(T:TypeId):∃v0,(w.alloc (.cells A S)).alloc (.cells B T)=v0∧Below w.heap.size w v0∧Bx w.heap.size A S v0∧Bx (w.heap.size+1) B T v0:=boxes2 w A S B T
theorem RSame_any(a b:Ef)(va vb:Ev)(w:World)(hA:EfIn a va w)(hC:EfIn b vb w)(ha:EfS a)(hb:EfS b):
  Calls prog 7 #[.agg (efV a va),.agg (efV b vb)] w fun e w'=>e=.returned (.bool (decide (a=b)))∧Below w.heap.size w w':=by
 obtain⟨V,hV⟩:=ex_ (decide (a=b));rw[hV];have HV:=h_ hV;have HA:=h_ hA;have HBE:=h_ hC;clear hV;obtain⟨oa,oc,ho,-⟩:=id hA.o;obtain⟨ra,rc,hr⟩:=hA.r.len2;obtain⟨pa,pc,hp⟩:=hA.p.len2;obtain⟨wa,wac,hw,-⟩:=id hA.w;obtain⟨ob,od,ho2,-⟩:=id hC.o;obtain⟨rb,rd,hr2⟩:=hC.r.len2;obtain⟨pb,pd,hp2⟩:=hC.p.len2;obtain⟨wb,wd,hw2,-⟩:=id hC.w;obtain⟨ao,ar,ap,aw⟩:=va;obtain⟨bo,br,bp,bw⟩:=vb;simp only at ho hr hp hw ho2 hr2 hp2 hw2;subst ho hr hp hw ho2 hr2 hp2 hw2;obtain⟨ast,acode,aout,ards,aputs,awrs,amiss,asteps⟩:=a;obtain⟨bst,bcode,bout,brds,bputs,bwrs,bmiss,bsteps⟩:=b;simp only[efV]at hA hC HA HBE ⊢;clear hA hC;unfold EfS at ha hb;simp only at ha hb;obtain⟨v0,hW0,hb0,hx0,hy0⟩:=boxes2e w #[.int .i64 ast,.int .i64 acode,.slice oa aout.length oc,.slice ra ards.length rc,.slice pa aputs.length pc,.slice wa awrs.length wac,.string (bs amiss),.int .i64 asteps] 37 #[.int .i64 bst,.int .i64 bcode,.slice ob bout.length od,.slice rb brds.length rd,.slice pb bputs.length pd,.slice wb bwrs.length wd,.string (bs bmiss),.int .i64 bsteps] 37;have HW:=h_ hW0;have HB:=h_ hb0;have HX:=h_ hx0;have HY:=h_ hy0;clear hW0 hb0 hx0 hy0;go_enter func7,ntmps7;go_upto_region 1 with (fail);rw[HW.out];clear HW;go_cut [5,6] from 8 to 83 (fun s5 s6 W=>∃xb yb,s5=.pointer (some ⟨xb,0,none⟩)∧s6=.pointer (some ⟨yb,0,none⟩)∧Bx xb #[.int .i64 ast,.int .i64 acode,.slice oa aout.length oc] 35 W∧Bx yb #[.int .i64 bst,.int .i64 bcode,.slice ob bout.length od] 35 W∧Below v0.heap.size v0 W)
 case first =>
  have HS0:=h_ (show ((fun w'=>Bx w.heap.size #[.int .i64 ast,.int .i64 acode,.slice oa aout.length oc,.slice ra ards.length rc,.slice pa aputs.length pc,.slice wa awrs.length wac,.string (bs amiss),.int .i64 asteps] 37 w'∧Bx (w.heap.size+1) #[.int .i64 bst,.int .i64 bcode,.slice ob bout.length od,.slice rb brds.length rd,.slice pb bputs.length pd,.slice wb bwrs.length wd,.string (bs bmiss),.int .i64 bsteps] 37 w')) v0.drew from⟨HX.out,HY.out⟩);have hsz:=HY.out.lt;refine wp_region_held_drew (S:=(fun w'=>Bx w.heap.size #[.int .i64 ast,.int .i64 acode,.slice oa aout.length oc,.slice ra ards.length rc,.slice pa aputs.length pc,.slice wa awrs.length wac,.string (bs amiss),.int .i64 asteps] 37 w'∧Bx (w.heap.size+1) #[.int .i64 bst,.int .i64 bcode,.slice ob bout.length od,.slice rb brds.length rd,.slice pb bputs.length pd,.slice wb bwrs.length wd,.string (bs bmiss),.int .i64 bsteps] 37 w')) (by kernel_rfl) ?_ (fun hHeld=>?_)
  ·exact HS0.out
  refine tkX 0 8 ?_;refine tkY 1 (v:=?vv83) 9 ?yy83 ?_
  case yy83 =>
   intro wq hSw;obtain⟨z0,z1,z2,z3,z4,z5,z6,z7⟩:=hSw.1.c8;clear hSw;go_simp
   (try with_reducible rfl)
  refine tkX 2 10 ?_;refine tkY 3 (v:=?vv85) 11 ?yy85 ?_
  case yy85 =>
   intro wq hSw;obtain⟨z0,z1,z2,z3,z4,z5,z6,z7⟩:=hSw.2.c8;clear hSw;go_simp
   (try with_reducible rfl)
  simp only[sA,sB,sC];refine wpAnyH_ready (rs:=[4,5]) (by kernel_rfl) (by simp) ?_;refine(AllReadyH.cons rfl (fun K hK=>?_) (AllReadyH.cons rfl (fun K hK=>?_) AllReadyH.nil))
  ·skip
   go_simp;skip
   focus (try go_wp2_with fail)
   refine hK.out _ _ (⟨hHeld.1.alloc _,hHeld.2.alloc _⟩) fun hHeld=>?_;clear hK K
   (try simp only[Act.put,sA,sB,sC])
   refine rd1 5 fun K hK=>?_;go_simp;skip
   focus (try go_wp2_with fail)
   refine hK.out _ _ (⟨hHeld.1.alloc _,hHeld.2.alloc _⟩) fun hHeld=>?_;clear hK K
   (try simp only[Act.put,sA,sB,sC])
   obtain⟨u1,hu0,hub,hu1,hu2⟩:=boxes2e v0 #[.int .i64 0,.int .i64 0,.slice none 0 0] 35 #[.int .i64 0,.int .i64 0,.slice none 0 0] 35;have HUB:=h_ hub.drew;have HU1:=h_ hu1.drew;have HU2:=h_ hu2.drew;clear hub hu1 hu2;have hs0:=HX.out.lt;rw[hu0]at hHeld;have HH:=h_ hHeld;clear hHeld;rw[hu0];clear hu0;generalize hW:u1.drew=u0 at HUB HU1 HU2 HH ⊢;clear hW;obtain⟨r0,r1,r2⟩:=HU1.out.d3 0 1 2;have f0:=HU1.out.free 0;have f1:=HU1.out.free 1;have f2:=HU1.out.free 2;have HH1:=h_ (show ((fun w'=>Bx w.heap.size #[.int .i64 ast,.int .i64 acode,.slice oa aout.length oc,.slice ra ards.length rc,.slice pa aputs.length pc,.slice wa awrs.length wac,.string (bs amiss),.int .i64 asteps] 37 w'∧Bx (w.heap.size+1) #[.int .i64 bst,.int .i64 bcode,.slice ob bout.length od,.slice rb brds.length rd,.slice pb bputs.length pd,.slice wb bwrs.length wd,.string (bs bmiss),.int .i64 bsteps] 37 w')) (((u0.setCell ⟨v0.heap.size,0,none⟩ (.int .i64 ast)).setCell ⟨v0.heap.size,1,none⟩ (.int .i64 acode)).setCell ⟨v0.heap.size,2,none⟩ (.slice oa aout.length oc)) from⟨((HH.out.1.other (c:=v0.heap.size) (i:=0) (by omega) _).other (c:=v0.heap.size) (i:=1) (by omega) _).other (c:=v0.heap.size) (i:=2) (by omega) _,((HH.out.2.other (c:=v0.heap.size) (i:=0) (by omega) _).other (c:=v0.heap.size) (i:=1) (by omega) _).other (c:=v0.heap.size) (i:=2) (by omega) _⟩);have HA1:=h_ (HU1.out.sets3 (.int .i64 ast) (.int .i64 acode) (.slice oa aout.length oc));have HB1:=h_ (((HU2.out.other (c:=v0.heap.size) (i:=0) (by omega) (.int .i64 ast)).other (c:=v0.heap.size) (i:=1) (by omega) (.int .i64 acode)).other (c:=v0.heap.size) (i:=2) (by omega) (.slice oa aout.length oc));have HW1:=h_ (below_sets3 HUB.out v0.heap.size (by omega) (.int .i64 ast) (.int .i64 acode) (.slice oa aout.length oc));refine rd1 6 fun K hK=>?_;go_simp;refine hK.out _ _ (HH1.out) fun hHeld=>?_;clear hK K r0 r1 r2 f0 f1 f2
   (try simp only[Act.put,sA,sB,sC])
   clear hHeld;have HA2:=h_ (((HA1.out.other (c:=(v0.heap.size+1)) (i:=0) (by omega) (.int .i64 bst)).other (c:=(v0.heap.size+1)) (i:=1) (by omega) (.int .i64 bcode)).other (c:=(v0.heap.size+1)) (i:=2) (by omega) (.slice ob bout.length od));have HB2:=h_ (HB1.out.sets3 (.int .i64 bst) (.int .i64 bcode) (.slice ob bout.length od));have HW2:=h_ (below_sets3 HW1.out (v0.heap.size+1) (by omega) (.int .i64 bst) (.int .i64 bcode) (.slice ob bout.length od));have HH2:=h_ (show ((fun w'=>Bx w.heap.size #[.int .i64 ast,.int .i64 acode,.slice oa aout.length oc,.slice ra ards.length rc,.slice pa aputs.length pc,.slice wa awrs.length wac,.string (bs amiss),.int .i64 asteps] 37 w'∧Bx (w.heap.size+1) #[.int .i64 bst,.int .i64 bcode,.slice ob bout.length od,.slice rb brds.length rd,.slice pb bputs.length pd,.slice wb bwrs.length wd,.string (bs bmiss),.int .i64 bsteps] 37 w')) ((((((u0.setCell ⟨v0.heap.size,0,none⟩ (.int .i64 ast)).setCell ⟨v0.heap.size,1,none⟩ (.int .i64 acode)).setCell ⟨v0.heap.size,2,none⟩ (.slice oa aout.length oc)).setCell ⟨(v0.heap.size+1),0,none⟩ (.int .i64 bst)).setCell ⟨(v0.heap.size+1),1,none⟩ (.int .i64 bcode)).setCell ⟨(v0.heap.size+1),2,none⟩ (.slice ob bout.length od)) from⟨((HH1.out.1.other (c:=(v0.heap.size+1)) (i:=0) (by omega) _).other (c:=(v0.heap.size+1)) (i:=1) (by omega) _).other (c:=(v0.heap.size+1)) (i:=2) (by omega) _,((HH1.out.2.other (c:=(v0.heap.size+1)) (i:=0) (by omega) _).other (c:=(v0.heap.size+1)) (i:=1) (by omega) _).other (c:=(v0.heap.size+1)) (i:=2) (by omega) _⟩);obtain⟨r0,r1,r2⟩:=HB1.out.c3;have f0:=HB1.out.free 0;have f1:=HB1.out.free 1;have f2:=HB1.out.free 2;refine rd1 7 fun K hK=>?_;go_simp;refine hK.out _ _ (HH2.out) fun hHeld=>?_;clear hK K r0 r1 r2 f0 f1 f2
   (try simp only[Act.put,sA,sB,sC])
   clear hHeld HH1 HH2 HA1 HB1 HW1;refine wpAnyH_done (by kernel_rfl) ?_ _;go_wp2_with fail
   go_meet
   exact⟨v0.heap.size,(v0.heap.size+1),rfl,rfl,HA2.out,HB2.out,HW2.out⟩
  ·skip
   go_simp;skip
   focus (try go_wp2_with fail)
   refine hK.out _ _ (⟨hHeld.1.alloc _,hHeld.2.alloc _⟩) fun hHeld=>?_;clear hK K
   (try simp only[Act.put,sA,sB,sC])
   refine rd1 4 fun K hK=>?_;go_simp;skip
   focus (try go_wp2_with fail)
   refine hK.out _ _ (⟨hHeld.1.alloc _,hHeld.2.alloc _⟩) fun hHeld=>?_;clear hK K
   (try simp only[Act.put,sA,sB,sC])
   obtain⟨u1,hu0,hub,hu1,hu2⟩:=boxes2e v0 #[.int .i64 0,.int .i64 0,.slice none 0 0] 35 #[.int .i64 0,.int .i64 0,.slice none 0 0] 35;have HUB:=h_ hub.drew;have HU1:=h_ hu1.drew;have HU2:=h_ hu2.drew;clear hub hu1 hu2;have hs0:=HX.out.lt;rw[hu0]at hHeld;have HH:=h_ hHeld;clear hHeld;rw[hu0];clear hu0;generalize hW:u1.drew=u0 at HUB HU1 HU2 HH ⊢;clear hW;obtain⟨r0,r1,r2⟩:=HU2.out.d3 0 1 2;have f0:=HU2.out.free 0;have f1:=HU2.out.free 1;have f2:=HU2.out.free 2;have HH1:=h_ (show ((fun w'=>Bx w.heap.size #[.int .i64 ast,.int .i64 acode,.slice oa aout.length oc,.slice ra ards.length rc,.slice pa aputs.length pc,.slice wa awrs.length wac,.string (bs amiss),.int .i64 asteps] 37 w'∧Bx (w.heap.size+1) #[.int .i64 bst,.int .i64 bcode,.slice ob bout.length od,.slice rb brds.length rd,.slice pb bputs.length pd,.slice wb bwrs.length wd,.string (bs bmiss),.int .i64 bsteps] 37 w')) (((u0.setCell ⟨(v0.heap.size+1),0,none⟩ (.int .i64 ast)).setCell ⟨(v0.heap.size+1),1,none⟩ (.int .i64 acode)).setCell ⟨(v0.heap.size+1),2,none⟩ (.slice oa aout.length oc)) from⟨((HH.out.1.other (c:=(v0.heap.size+1)) (i:=0) (by omega) _).other (c:=(v0.heap.size+1)) (i:=1) (by omega) _).other (c:=(v0.heap.size+1)) (i:=2) (by omega) _,((HH.out.2.other (c:=(v0.heap.size+1)) (i:=0) (by omega) _).other (c:=(v0.heap.size+1)) (i:=1) (by omega) _).other (c:=(v0.heap.size+1)) (i:=2) (by omega) _⟩);have HA1:=h_ (HU2.out.sets3 (.int .i64 ast) (.int .i64 acode) (.slice oa aout.length oc));have HB1:=h_ (((HU1.out.other (c:=(v0.heap.size+1)) (i:=0) (by omega) (.int .i64 ast)).other (c:=(v0.heap.size+1)) (i:=1) (by omega) (.int .i64 acode)).other (c:=(v0.heap.size+1)) (i:=2) (by omega) (.slice oa aout.length oc));have HW1:=h_ (below_sets3 HUB.out (v0.heap.size+1) (by omega) (.int .i64 ast) (.int .i64 acode) (.slice oa aout.length oc));refine rd1 6 fun K hK=>?_;go_simp;refine hK.out _ _ (HH1.out) fun hHeld=>?_;clear hK K r0 r1 r2 f0 f1 f2
   (try simp only[Act.put,sA,sB,sC])
   clear hHeld;have HA2:=h_ (((HA1.out.other (c:=v0.heap.size) (i:=0) (by omega) (.int .i64 bst)).other (c:=v0.heap.size) (i:=1) (by omega) (.int .i64 bcode)).other (c:=v0.heap.size) (i:=2) (by omega) (.slice ob bout.length od));have HB2:=h_ (HB1.out.sets3 (.int .i64 bst) (.int .i64 bcode) (.slice ob bout.length od));have HW2:=h_ (below_sets3 HW1.out v0.heap.size (by omega) (.int .i64 bst) (.int .i64 bcode) (.slice ob bout.length od));have HH2:=h_ (show ((fun w'=>Bx w.heap.size #[.int .i64 ast,.int .i64 acode,.slice oa aout.length oc,.slice ra ards.length rc,.slice pa aputs.length pc,.slice wa awrs.length wac,.string (bs amiss),.int .i64 asteps] 37 w'∧Bx (w.heap.size+1) #[.int .i64 bst,.int .i64 bcode,.slice ob bout.length od,.slice rb brds.length rd,.slice pb bputs.length pd,.slice wb bwrs.length wd,.string (bs bmiss),.int .i64 bsteps] 37 w')) ((((((u0.setCell ⟨(v0.heap.size+1),0,none⟩ (.int .i64 ast)).setCell ⟨(v0.heap.size+1),1,none⟩ (.int .i64 acode)).setCell ⟨(v0.heap.size+1),2,none⟩ (.slice oa aout.length oc)).setCell ⟨v0.heap.size,0,none⟩ (.int .i64 bst)).setCell ⟨v0.heap.size,1,none⟩ (.int .i64 bcode)).setCell ⟨v0.heap.size,2,none⟩ (.slice ob bout.length od)) from⟨((HH1.out.1.other (c:=v0.heap.size) (i:=0) (by omega) _).other (c:=v0.heap.size) (i:=1) (by omega) _).other (c:=v0.heap.size) (i:=2) (by omega) _,((HH1.out.2.other (c:=v0.heap.size) (i:=0) (by omega) _).other (c:=v0.heap.size) (i:=1) (by omega) _).other (c:=v0.heap.size) (i:=2) (by omega) _⟩);obtain⟨r0,r1,r2⟩:=HB1.out.c3;have f0:=HB1.out.free 0;have f1:=HB1.out.free 1;have f2:=HB1.out.free 2;refine rd1 7 fun K hK=>?_;go_simp;refine hK.out _ _ (HH2.out) fun hHeld=>?_;clear hK K r0 r1 r2 f0 f1 f2
   (try simp only[Act.put,sA,sB,sC])
   clear hHeld HH1 HH2 HA1 HB1 HW1;refine wpAnyH_done (by kernel_rfl) ?_ _;go_wp2_with fail
   go_meet
   exact⟨(v0.heap.size+1),v0.heap.size,rfl,rfl,HA2.out,HB2.out,HW2.out⟩
 case rest =>
  obtain⟨xb,yb,rfl,rfl,h1,h2,hbc⟩:=hcut;have HP:=h_ h1;have HQ:=h_ h2;have HX:=HX.out.k hbc;have HY:=HY.out.k hbc;have HB:=bt HB hbc;clear h1 h2 hbc;obtain⟨p0,p1,p2⟩:=HP.out.c3;obtain⟨q0,q1,q2⟩:=HQ.out.c3;by_cases e1:ast=bst;rotate_left
  ·have t1:(ast != bst)=true:=by rw[bne_iff_ne];exact e1
   have HF:=h_ (HV.out.symm.trans (ef_ne (.inl e1)));clear e1;go_wp2;go_ret;exact⟨by rw[HF.out]<;>rfl,HB.out⟩
  have t1:(ast != bst)=false:=by rw[e1];simp
  have E1:=h_ e1;clear e1;by_cases e2:acode=bcode;rotate_left
  ·have t2:(acode != bcode)=true:=by rw[bne_iff_ne];exact e2
   have HF:=h_ (HV.out.symm.trans (ef_ne (.inr (.inl e2))));clear e2;go_wp2;go_ret;exact⟨by rw[HF.out]<;>rfl,HB.out⟩
  have t2:(acode != bcode)=false:=by rw[e2];simp
  have E2:=h_ e2;clear e2;by_cases e3:aout.length=bout.length;rotate_left
  ·have t3:((aout.length:Int) != (bout.length:Int))=true:=by rw[bne_iff_ne];omega
   have HF:=h_ (HV.out.symm.trans (ef_ne (.inr (.inr (.inl (fun e=>e3 (congrArg List.length e)))))));clear e3;go_wp2;go_ret;exact⟨by rw[HF.out]<;>rfl,HB.out⟩
  have t3:((aout.length:Int) != (bout.length:Int))=false:=by rw[e3];simp
  have E3:=h_ e3;clear e3;obtain⟨iv,hiv⟩:=ex_ (decide (aout.drop 0=bout.drop 0));have HIV:=h_ hiv;have HIVE:=h_ hiv;clear hiv;go_wp2;clear p0 p1 p2 q0 q1 q2;go_loopw [7] (fun i wr=>∃k:Nat,k≤aout.length∧i=.int .i64 k∧Hid (decide (aout.drop k=bout.drop k)=iv)∧Hid (Bx w.heap.size #[.int .i64 ast,.int .i64 acode,.slice oa aout.length oc,.slice ra ards.length rc,.slice pa aputs.length pc,.slice wa awrs.length wac,.string (bs amiss),.int .i64 asteps] 37 wr)∧Hid (Bx (w.heap.size+1) #[.int .i64 bst,.int .i64 bcode,.slice ob bout.length od,.slice rb brds.length rd,.slice pb bputs.length pd,.slice wb bwrs.length wd,.string (bs bmiss),.int .i64 bsteps] 37 wr)∧Hid (Bx xb #[.int .i64 ast,.int .i64 acode,.slice oa aout.length oc] 35 wr)∧Hid (Bx yb #[.int .i64 bst,.int .i64 bcode,.slice ob bout.length od] 35 wr)∧Below w.heap.size w wr) (fun i _=>aout.length-(intOf i).toNat)
  case atStart=>exact⟨0,Nat.zero_le _,rfl,HIV,HX,HY,HP,HQ,HB.out⟩
  case round =>
   clear HIV HB HX HY HP HQ;obtain⟨k,hk,rfl,HN0,HX,HY,HP,HQ,hB⟩:=hrel;have HB:=h_ hB;clear hB;obtain⟨p0,p1,p2⟩:=HP.out.c3;obtain⟨q0,q1,q2⟩:=HQ.out.c3;by_cases hlt:k<aout.length
   ·have hlt':(k:Int)<(aout.length:Int):=by omega
    have hlt2:k<bout.length:=by rw[←E3.out];exact hlt
    have hlt3:(k:Int)<(bout.length:Int):=by omega
    have hw1:IntKind.i64.wrap ((k:Int)+1)=(k:Int)+1:=by rw[IntKind.wrap_i64];omega
    obtain⟨ba,ofa,hae,z0,z1,z2⟩:=vl_cells (HA.out.o.below HB.out) hlt;cases hae;obtain⟨bb,ofb,hbe,y0,y1,y2⟩:=vl_cells (HBE.out.o.below HB.out) hlt2;cases hbe;obtain⟨⟨xd,xn,xs⟩,hx⟩:∃x,aout[k]=x:=⟨_,rfl⟩;obtain⟨⟨yd,yn,ys⟩,hy⟩:∃y,bout[k]=y:=⟨_,rfl⟩;simp only[hx]at z0 z1 z2;simp only[hy]at y0 y1 y2;have HS0:=h_ (show wr.drew.cell? ⟨ba,ofa+k * 3,none⟩=some (.int .i64 xd)∧wr.drew.cell? ⟨ba,ofa+k * 3+1,none⟩=some (.int .i64 xn)∧wr.drew.cell? ⟨ba,ofa+k * 3+2,none⟩=some (.string (bs xs))∧wr.drew.cell? ⟨bb,ofb+k * 3,none⟩=some (.int .i64 yd)∧wr.drew.cell? ⟨bb,ofb+k * 3+1,none⟩=some (.int .i64 yn)∧wr.drew.cell? ⟨bb,ofb+k * 3+2,none⟩=some (.string (bs ys))∧Bx xb #[.int .i64 ast,.int .i64 acode,.slice (some ⟨ba,ofa,none⟩) aout.length oc] 35 wr.drew∧Bx yb #[.int .i64 bst,.int .i64 bcode,.slice (some ⟨bb,ofb,none⟩) bout.length od] 35 wr.drew from⟨z0,z1,z2,y0,y1,y2,HP.out,HQ.out⟩);clear z0 z1 z2 y0 y1 y2;by_cases e0:xd=yd;rotate_left
    ·have t0:(xd==yd)=false:=by rw[beq_eq_false_iff_ne];exact e0
     have HF0:=h_ (eq_no hlt hlt2 HN0.out (by rw[hx,hy];intro e;exact e0 (by injection e)));have HF:=h_ (HV.out.symm.trans (ef_ne (.inr (.inr (.inl (fun e=>by have h1:=HIVE.out;rw[HF0.out,show aout=bout from e]at h1;simp at h1))))));have HXE:=h_ hx;have HYE:=h_ hy;clear hx hy e0;go_upto_region 7 with (fail);clear p0 p1 p2 q0 q1 q2;go_wp2_with fail;refine wp_region_held_drew (S:=(fun w'=>w'.cell? ⟨ba,ofa+k * 3,none⟩=some (.int .i64 xd)∧w'.cell? ⟨ba,ofa+k * 3+1,none⟩=some (.int .i64 xn)∧w'.cell? ⟨ba,ofa+k * 3+2,none⟩=some (.string (bs xs))∧w'.cell? ⟨bb,ofb+k * 3,none⟩=some (.int .i64 yd)∧w'.cell? ⟨bb,ofb+k * 3+1,none⟩=some (.int .i64 yn)∧w'.cell? ⟨bb,ofb+k * 3+2,none⟩=some (.string (bs ys))∧Bx xb #[.int .i64 ast,.int .i64 acode,.slice (some ⟨ba,ofa,none⟩) aout.length oc] 35 w'∧Bx yb #[.int .i64 bst,.int .i64 bcode,.slice (some ⟨bb,ofb,none⟩) bout.length od] 35 w')) (by kernel_rfl) ?_ (fun hHeld=>?_)
     ·exact HS0.out
     refine tkX 0 40 ?_;refine tkY 1 (v:=?vv87) 41 ?yy87 ?_
     case yy87 =>
      intro wq hSw;obtain⟨z0,z1,z2,y0,y1,y2,zx,zy⟩:=id hSw;obtain⟨p0,p1,p2⟩:=zx.c3;obtain⟨q0,q1,q2⟩:=zy.c3;clear zx zy;clear hSw;go_simp
      (try with_reducible rfl)
     refine tkX 2 42 ?_;refine tkX 3 43 ?_;refine tkY 4 (v:=?vv90) 44 ?yy90 ?_
     case yy90 =>
      intro wq hSw;obtain⟨z0,z1,z2,y0,y1,y2,zx,zy⟩:=id hSw;obtain⟨p0,p1,p2⟩:=zx.c3;obtain⟨q0,q1,q2⟩:=zy.c3;clear zx zy;clear hSw;go_simp
      (try with_reducible rfl)
     refine tkX 5 45 ?_;refine tkY 6 (v:=?vv92) 46 ?yy92 ?_
     case yy92 =>
      intro wq hSw;obtain⟨z0,z1,z2,y0,y1,y2,zx,zy⟩:=id hSw;obtain⟨p0,p1,p2⟩:=zx.c3;obtain⟨q0,q1,q2⟩:=zy.c3;clear zx zy;clear hSw;go_simp
      (try with_reducible rfl)
     refine tkX 7 47 ?_;refine tkX 8 48 ?_;refine tkY 9 (v:=?vv95) 49 ?yy95 ?_
     case yy95 =>
      intro wq hSw;obtain⟨z0,z1,z2,y0,y1,y2,zx,zy⟩:=id hSw;obtain⟨p0,p1,p2⟩:=zx.c3;obtain⟨q0,q1,q2⟩:=zy.c3;clear zx zy;clear hSw;go_simp
      (try with_reducible rfl)
     refine tkX 10 50 ?_;simp only[sA,sB,sC];refine wpAnyH_done (by kernel_rfl) ?_ _;go_wp2;go_ret;exact⟨by rw[HF.out]<;>rfl,HB.out.trans (Below.refl _ _).drew⟩
    have t0:(xd==yd)=true:=by rw[e0];simp
    by_cases e1:xn=yn;rotate_left
    ·have t1:(xn==yn)=false:=by rw[beq_eq_false_iff_ne];exact e1
     have HF0:=h_ (eq_no hlt hlt2 HN0.out (by rw[hx,hy];intro e;exact e1 (by injection e)));have HF:=h_ (HV.out.symm.trans (ef_ne (.inr (.inr (.inl (fun e=>by have h1:=HIVE.out;rw[HF0.out,show aout=bout from e]at h1;simp at h1))))));have HXE:=h_ hx;have HYE:=h_ hy;clear hx hy e0 e1;go_upto_region 7 with (fail);clear p0 p1 p2 q0 q1 q2;go_wp2_with fail;refine wp_region_held_drew (S:=(fun w'=>w'.cell? ⟨ba,ofa+k * 3,none⟩=some (.int .i64 xd)∧w'.cell? ⟨ba,ofa+k * 3+1,none⟩=some (.int .i64 xn)∧w'.cell? ⟨ba,ofa+k * 3+2,none⟩=some (.string (bs xs))∧w'.cell? ⟨bb,ofb+k * 3,none⟩=some (.int .i64 yd)∧w'.cell? ⟨bb,ofb+k * 3+1,none⟩=some (.int .i64 yn)∧w'.cell? ⟨bb,ofb+k * 3+2,none⟩=some (.string (bs ys))∧Bx xb #[.int .i64 ast,.int .i64 acode,.slice (some ⟨ba,ofa,none⟩) aout.length oc] 35 w'∧Bx yb #[.int .i64 bst,.int .i64 bcode,.slice (some ⟨bb,ofb,none⟩) bout.length od] 35 w')) (by kernel_rfl) ?_ (fun hHeld=>?_)
     ·exact HS0.out
     refine tkX 0 40 ?_;refine tkY 1 (v:=?vv98) 41 ?yy98 ?_
     case yy98 =>
      intro wq hSw;obtain⟨z0,z1,z2,y0,y1,y2,zx,zy⟩:=id hSw;obtain⟨p0,p1,p2⟩:=zx.c3;obtain⟨q0,q1,q2⟩:=zy.c3;clear zx zy;clear hSw;go_simp
      (try with_reducible rfl)
     refine tkX 2 42 ?_;refine tkX 3 43 ?_;refine tkY 4 (v:=?vv101) 44 ?yy101 ?_
     case yy101 =>
      intro wq hSw;obtain⟨z0,z1,z2,y0,y1,y2,zx,zy⟩:=id hSw;obtain⟨p0,p1,p2⟩:=zx.c3;obtain⟨q0,q1,q2⟩:=zy.c3;clear zx zy;clear hSw;go_simp
      (try with_reducible rfl)
     refine tkX 5 45 ?_;refine tkY 6 (v:=?vv103) 46 ?yy103 ?_
     case yy103 =>
      intro wq hSw;obtain⟨z0,z1,z2,y0,y1,y2,zx,zy⟩:=id hSw;obtain⟨p0,p1,p2⟩:=zx.c3;obtain⟨q0,q1,q2⟩:=zy.c3;clear zx zy;clear hSw;go_simp
      (try with_reducible rfl)
     refine tkX 7 47 ?_;refine tkX 8 48 ?_;refine tkY 9 (v:=?vv106) 49 ?yy106 ?_
     case yy106 =>
      intro wq hSw;obtain⟨z0,z1,z2,y0,y1,y2,zx,zy⟩:=id hSw;obtain⟨p0,p1,p2⟩:=zx.c3;obtain⟨q0,q1,q2⟩:=zy.c3;clear zx zy;clear hSw;go_simp
      (try with_reducible rfl)
     refine tkX 10 50 ?_;simp only[sA,sB,sC];refine wpAnyH_done (by kernel_rfl) ?_ _;go_wp2;go_ret;exact⟨by rw[HF.out]<;>rfl,HB.out.trans (Below.refl _ _).drew⟩
    have t1:(xn==yn)=true:=by rw[e1];simp
    by_cases e2:xs=ys;rotate_left
    ·have t2:(xs==ys)=false:=by rw[beq_eq_false_iff_ne];exact e2
     have HF0:=h_ (eq_no hlt hlt2 HN0.out (by rw[hx,hy];intro e;exact e2 (by injection e)));have HF:=h_ (HV.out.symm.trans (ef_ne (.inr (.inr (.inl (fun e=>by have h1:=HIVE.out;rw[HF0.out,show aout=bout from e]at h1;simp at h1))))));have HXE:=h_ hx;have HYE:=h_ hy;clear hx hy e0 e1 e2;go_upto_region 7 with (fail);clear p0 p1 p2 q0 q1 q2;go_wp2_with fail;refine wp_region_held_drew (S:=(fun w'=>w'.cell? ⟨ba,ofa+k * 3,none⟩=some (.int .i64 xd)∧w'.cell? ⟨ba,ofa+k * 3+1,none⟩=some (.int .i64 xn)∧w'.cell? ⟨ba,ofa+k * 3+2,none⟩=some (.string (bs xs))∧w'.cell? ⟨bb,ofb+k * 3,none⟩=some (.int .i64 yd)∧w'.cell? ⟨bb,ofb+k * 3+1,none⟩=some (.int .i64 yn)∧w'.cell? ⟨bb,ofb+k * 3+2,none⟩=some (.string (bs ys))∧Bx xb #[.int .i64 ast,.int .i64 acode,.slice (some ⟨ba,ofa,none⟩) aout.length oc] 35 w'∧Bx yb #[.int .i64 bst,.int .i64 bcode,.slice (some ⟨bb,ofb,none⟩) bout.length od] 35 w')) (by kernel_rfl) ?_ (fun hHeld=>?_)
     ·exact HS0.out
     refine tkX 0 40 ?_;refine tkY 1 (v:=?vv109) 41 ?yy109 ?_
     case yy109 =>
      intro wq hSw;obtain⟨z0,z1,z2,y0,y1,y2,zx,zy⟩:=id hSw;obtain⟨p0,p1,p2⟩:=zx.c3;obtain⟨q0,q1,q2⟩:=zy.c3;clear zx zy;clear hSw;go_simp
      (try with_reducible rfl)
     refine tkX 2 42 ?_;refine tkX 3 43 ?_;refine tkY 4 (v:=?vv112) 44 ?yy112 ?_
     case yy112 =>
      intro wq hSw;obtain⟨z0,z1,z2,y0,y1,y2,zx,zy⟩:=id hSw;obtain⟨p0,p1,p2⟩:=zx.c3;obtain⟨q0,q1,q2⟩:=zy.c3;clear zx zy;clear hSw;go_simp
      (try with_reducible rfl)
     refine tkX 5 45 ?_;refine tkY 6 (v:=?vv114) 46 ?yy114 ?_
     case yy114 =>
      intro wq hSw;obtain⟨z0,z1,z2,y0,y1,y2,zx,zy⟩:=id hSw;obtain⟨p0,p1,p2⟩:=zx.c3;obtain⟨q0,q1,q2⟩:=zy.c3;clear zx zy;clear hSw;go_simp
      (try with_reducible rfl)
     refine tkX 7 47 ?_;refine tkX 8 48 ?_;refine tkY 9 (v:=?vv117) 49 ?yy117 ?_
     case yy117 =>
      intro wq hSw;obtain⟨z0,z1,z2,y0,y1,y2,zx,zy⟩:=id hSw;obtain⟨p0,p1,p2⟩:=zx.c3;obtain⟨q0,q1,q2⟩:=zy.c3;clear zx zy;clear hSw;go_simp
      (try with_reducible rfl)
     refine tkX 10 50 ?_;simp only[sA,sB,sC];refine wpAnyH_done (by kernel_rfl) ?_ _;go_wp2;go_ret;exact⟨by rw[HF.out]<;>rfl,HB.out.trans (Below.refl _ _).drew⟩
    have t2:(xs==ys)=true:=by rw[e2];simp
    have HN:=h_ (eq_go hlt hlt2 HN0.out (by rw[hx,hy,e0,e1,e2]));have HXE:=h_ hx;have HYE:=h_ hy;clear hx hy e0 e1 e2;go_upto_region 7 with (fail);clear p0 p1 p2 q0 q1 q2;go_wp2_with fail;refine wp_region_held_drew (S:=(fun w'=>w'.cell? ⟨ba,ofa+k * 3,none⟩=some (.int .i64 xd)∧w'.cell? ⟨ba,ofa+k * 3+1,none⟩=some (.int .i64 xn)∧w'.cell? ⟨ba,ofa+k * 3+2,none⟩=some (.string (bs xs))∧w'.cell? ⟨bb,ofb+k * 3,none⟩=some (.int .i64 yd)∧w'.cell? ⟨bb,ofb+k * 3+1,none⟩=some (.int .i64 yn)∧w'.cell? ⟨bb,ofb+k * 3+2,none⟩=some (.string (bs ys))∧Bx xb #[.int .i64 ast,.int .i64 acode,.slice (some ⟨ba,ofa,none⟩) aout.length oc] 35 w'∧Bx yb #[.int .i64 bst,.int .i64 bcode,.slice (some ⟨bb,ofb,none⟩) bout.length od] 35 w')) (by kernel_rfl) ?_ (fun hHeld=>?_)
    ·exact HS0.out
    refine tkX 0 40 ?_;refine tkY 1 (v:=?vv120) 41 ?yy120 ?_
    case yy120 =>
     intro wq hSw;obtain⟨z0,z1,z2,y0,y1,y2,zx,zy⟩:=id hSw;obtain⟨p0,p1,p2⟩:=zx.c3;obtain⟨q0,q1,q2⟩:=zy.c3;clear zx zy;clear hSw;go_simp
     (try with_reducible rfl)
    refine tkX 2 42 ?_;refine tkX 3 43 ?_;refine tkY 4 (v:=?vv123) 44 ?yy123 ?_
    case yy123 =>
     intro wq hSw;obtain⟨z0,z1,z2,y0,y1,y2,zx,zy⟩:=id hSw;obtain⟨p0,p1,p2⟩:=zx.c3;obtain⟨q0,q1,q2⟩:=zy.c3;clear zx zy;clear hSw;go_simp
     (try with_reducible rfl)
    refine tkX 5 45 ?_;refine tkY 6 (v:=?vv125) 46 ?yy125 ?_
    case yy125 =>
     intro wq hSw;obtain⟨z0,z1,z2,y0,y1,y2,zx,zy⟩:=id hSw;obtain⟨p0,p1,p2⟩:=zx.c3;obtain⟨q0,q1,q2⟩:=zy.c3;clear zx zy;clear hSw;go_simp
     (try with_reducible rfl)
    refine tkX 7 47 ?_;refine tkX 8 48 ?_;refine tkY 9 (v:=?vv128) 49 ?yy128 ?_
    case yy128 =>
     intro wq hSw;obtain⟨z0,z1,z2,y0,y1,y2,zx,zy⟩:=id hSw;obtain⟨p0,p1,p2⟩:=zx.c3;obtain⟨q0,q1,q2⟩:=zy.c3;clear zx zy;clear hSw;go_simp
     (try with_reducible rfl)
    refine tkX 10 50 ?_;simp only[sA,sB,sC];refine wpAnyH_done (by kernel_rfl) ?_ _;go_wp2;go_roundw
    case rel=>exact⟨k+1,by omega,by go_num,HN,h_ HX.out.drew,h_ HY.out.drew,h_ HP.out.drew,h_ HQ.out.drew,HB.out.trans (Below.refl _ _).drew⟩
    case measure=>simp[intOf];omega
   ·have hlt':¬(k:Int)<(aout.length:Int):=by omega
    have hivt:iv=true:=by rw[←HN0.out,List.drop_of_length_le (by omega),List.drop_of_length_le (by rw[←E3.out];omega)];simp
    have EO:=h_ (show aout=bout from by have h:=HIVE.out;rw[hivt]at h;simpa using h);clear HN0 HP HQ hivt;obtain⟨x0,x1,x2,x3,x4,x5,x6,x7⟩:=HX.out.c8;obtain⟨y0,y1,y2,y3,y4,y5,y6,y7⟩:=HY.out.c8;go_wp2_with fail;clear p0 p1 p2 q0 q1 q2;clear x0 x1 x2 x3 x4 x5 x6 x7 y0 y1 y2 y3 y4 y5 y6 y7;refine(RsameKeys_any _ _ ards brds wr (HA.out.r.below HB.out) (HBE.out.r.below HB.out) (by have h:=ha;have h2:=hb;omega)).mono ?_;rintro er v1 ⟨rfl,hb0⟩;have HB:=bt HB hb0;have HX:=HX.out.k hb0;have HY:=HY.out.k hb0;clear hb0;by_cases ez:ards=brds;rotate_left
    ·rw[decide_eq_false ez]
     have HF:=h_ (HV.out.symm.trans (ef_ne (.inr (.inr (.inr (.inl ez))))));clear ez;go_wp2;go_ret;exact⟨by rw[HF.out]<;>rfl,HB.out⟩
    rw[decide_eq_true ez];have E4:=h_ ez;clear ez;obtain⟨x0,x1,x2,x3,x4,x5,x6,x7⟩:=HX.out.c8;obtain⟨y0,y1,y2,y3,y4,y5,y6,y7⟩:=HY.out.c8;go_wp2_with fail;clear x0 x1 x2 x3 x4 x5 x6 x7 y0 y1 y2 y3 y4 y5 y6 y7;refine(RsameKeys_any _ _ aputs bputs v1 (HA.out.p.below HB.out) (HBE.out.p.below HB.out) (by have h:=ha;have h2:=hb;omega)).mono ?_;rintro er v2 ⟨rfl,hb1⟩;have HB:=bt HB hb1;have HX:=HX.out.k hb1;have HY:=HY.out.k hb1;clear hb1;by_cases ez:aputs=bputs;rotate_left
    ·rw[decide_eq_false ez]
     have HF:=h_ (HV.out.symm.trans (ef_ne (.inr (.inr (.inr (.inr (.inl ez)))))));clear ez;go_wp2;go_ret;exact⟨by rw[HF.out]<;>rfl,HB.out⟩
    rw[decide_eq_true ez];have E5:=h_ ez;clear ez;obtain⟨x0,x1,x2,x3,x4,x5,x6,x7⟩:=HX.out.c8;obtain⟨y0,y1,y2,y3,y4,y5,y6,y7⟩:=HY.out.c8;go_wp2_with fail;clear x0 x1 x2 x3 x4 x5 x6 x7 y0 y1 y2 y3 y4 y5 y6 y7;refine(RSame06_any _ _ awrs bwrs v2 (HA.out.w.below HB.out) (HBE.out.w.below HB.out) (by have h:=ha;have h2:=hb;omega)).mono ?_;rintro er v3 ⟨rfl,hb2⟩;have HB:=bt HB hb2;have HX:=HX.out.k hb2;have HY:=HY.out.k hb2;clear hb2;by_cases ez:awrs=bwrs;rotate_left
    ·rw[decide_eq_false ez]
     have HF:=h_ (HV.out.symm.trans (ef_ne (.inr (.inr (.inr (.inr (.inr (.inl ez))))))));clear ez;go_wp2;go_ret;exact⟨by rw[HF.out]<;>rfl,HB.out⟩
    rw[decide_eq_true ez];have E6:=h_ ez;clear ez;obtain⟨x0,x1,x2,x3,x4,x5,x6,x7⟩:=HX.out.c8;obtain⟨y0,y1,y2,y3,y4,y5,y6,y7⟩:=HY.out.c8;by_cases e8:amiss=bmiss;rotate_left
    ·have t8:(amiss==bmiss)=false:=by rw[beq_eq_false_iff_ne];exact e8
     have HF:=h_ (HV.out.symm.trans (ef_ne (.inr (.inr (.inr (.inr (.inr (.inr (.inl e8)))))))));clear e8;go_wp2;go_ret;exact⟨by rw[HF.out]<;>rfl,HB.out⟩
    have t8:(amiss==bmiss)=true:=by rw[e8];simp
    have E8:=h_ e8;clear e8;by_cases e9:asteps=bsteps;rotate_left
    ·have t9:(asteps==bsteps)=false:=by rw[beq_eq_false_iff_ne];exact e9
     have HF:=h_ (HV.out.symm.trans (ef_ne (.inr (.inr (.inr (.inr (.inr (.inr (.inr e9)))))))));clear e9;go_wp2;go_ret;exact⟨by rw[HF.out]<;>rfl,HB.out⟩
    have t9:(asteps==bsteps)=true:=by rw[e9];simp
    have HF:=h_ (HV.out.symm.trans (ef_eq E1.out E2.out EO.out E4.out E5.out E6.out E8.out e9));clear e9;go_wp2;go_ret;exact⟨by rw[HF.out]<;>rfl,HB.out⟩
theorem Bx.c4{b:Nat}{u0 u1 u2 u3:Value}{T:TypeId}{W:World}(h:Bx b #[u0,u1,u2,u3] T W):W.cell? ⟨b,0,none⟩=some u0∧W.cell? ⟨b,1,none⟩=some u1∧W.cell? ⟨b,2,none⟩=some u2∧W.cell? ⟨b,3,none⟩=some u3:=⟨h.cell 0,h.cell 1,h.cell 2,h.cell 3⟩
def p00:Pr:=⟨[],v00⟩
def stpP (M:List Pr) (i:Nat):Bool:=keyB (M.getD i p00).key && (vaB (M.getD i p00).v && (decide (i=0) || Op.bytesLess (M.getD (i-1) p00).key (M.getD i p00).key))
def srtB (M:List Pr):Bool:=(List.range M.length).all (stpP M)
def absB (p:Pr):Bool:=decide (p.v.k=0)
def stB (M:List Pr):Bool:=srtB M && !(M.any absB)
theorem sorted_any(a:Option Addr)(cap:Nat)(M:List Pr)(w:World)(hl:M.length≤9000000000000)(hx:∀p∈M,p.key.length≤9223372036854775807∧p.v.s.length≤9223372036854775807)(hM:CellsAt w (.slice a M.length cap) M.length (prLs M)):
  Calls prog 55 #[.slice a M.length cap] w fun e w'=>e=.returned (.bool (srtB M))∧Below w.heap.size w w':=by
 obtain⟨R,hR⟩:=ex_ (srtB M);rw[hR];have HR:=h_ hR;have HM:=h_ hM;have HX:=h_ hx;clear hR hM hx;go_enter func55,ntmps55;go_wp2;go_loopw [7] (fun i wr=>∃k:Nat,k≤M.length∧i=.int .i64 k∧Hid ((List.range k).all (stpP M)=true)∧Below w.heap.size w wr) (fun i _=>M.length-(intOf i).toNat)
 case atStart=>exact⟨0,Nat.zero_le _,by first|exact True.intro|rfl,h_ rfl,Below.refl _ _⟩
 case round =>
  obtain⟨k,hk,rfl,HQ,hB⟩:=hrel;have HB:=h_ hB;clear hB;by_cases hlt:k<M.length
  ·have hlt':(k:Int)<(M.length:Int):=by omega
   have hkb:(0:Int)≤(k:Int)∧(k:Int)<(M.length:Int):=⟨by omega,by omega⟩
   have hw1:IntKind.i64.wrap ((k:Int)+1)=(k:Int)+1:=by rw[IntKind.wrap_i64];omega
   obtain⟨b,off,rfl,p0,p1,p2,p3⟩:=pr_cells (HM.out.below HB.out) hlt;obtain⟨m,hm⟩:=ex_ (M[k]);rw[hm]at p0 p1 p2 p3;obtain⟨hmk,hml⟩:=HX.out _ (List.getElem_mem hlt);rw[hm]at hmk hml;have HMK:=h_ (show M.getD k p00=m by rw[getD_at hlt,hm]);clear hm;have hal:=(Below.refl wr.heap.size wr).alloc (Nat.le_refl _) (.cells #[.string (bs m.key),.int .i64 m.v.k,.int .i64 m.v.n,.string (bs m.v.s)] 55);have HXB:=h_ (Bx.new wr #[.string (bs m.key),.int .i64 m.v.k,.int .i64 m.v.n,.string (bs m.v.s)] 55);have HB:=bt HB hal;clear hal;go_upto_region 4 with (fail);generalize hW:wr.alloc (.cells #[.string (bs m.key),.int .i64 m.v.k,.int .i64 m.v.n,.string (bs m.v.s)] 55)=v1 at HXB HB ⊢;clear hW p0 p1 p2 p3;obtain⟨kb,hkb⟩:=ex_ (keyB m.key);obtain⟨vb,hvb⟩:=ex_ (vaB m.v);have HKB:=h_ hkb;have HVB:=h_ hvb;clear hkb hvb;rcases k with _|j
   ·skip
    cases kb with
    | false =>
     have hs0:Bx wr.heap.size #[.string (bs m.key),.int .i64 m.v.k,.int .i64 m.v.n,.string (bs m.v.s)] 55 v1.drew:=HXB.out;have HS0:=h_ hs0;clear hs0;go_wp2_with fail;refine wp_region_held_drew (S:=(fun w'=>Bx wr.heap.size #[.string (bs m.key),.int .i64 m.v.k,.int .i64 m.v.n,.string (bs m.v.s)] 55 w')) (by kernel_rfl) ?_ (fun hHeld=>?_)
     ·exact HS0.out
     have hb0:Below v1.heap.size v1 v1.drew:=(Below.refl v1.heap.size v1).drew;refine tkX 0 12 ?_;refine tkY 1 (v:=?vv2) 13 ?yy2 ?_
     case yy2 =>
      intro wq hSw;obtain⟨x0,x1,x2,x3⟩:=(hSw).c4;clear hSw;go_simp
      (try with_reducible rfl)
     simp only[sA,sB,sC];refine rd1 2 fun K hK=>?_;go_simp
     (refine(KValid_any m.key hmk _).mono ?_;rw[HKB.out];rintro er u1 ⟨rfl,hb1⟩)
     focus (try go_wp2_with fail)
     refine hK.out _ _ (hHeld.call hb1) fun hHeld=>?_;clear hK K
     (try simp only[Act.put,sA,sB,sC])
     have hb2:=btrans hb0 hb0.size hb1;refine tkX 3 15 ?_;refine tkX 4 16 ?_;refine tkZ 5 17 ?_;refine tkZ 6 18 ?_;refine tkZ 7 19 ?_;refine tkZ 8 20 ?_;refine tkX 9 21 ?_;refine tkX 10 22 ?_;refine tkZ 11 23 ?_;refine tkZ 12 24 ?_;refine tkZ 13 25 ?_;refine tkZ 14 26 ?_;refine tkZ 15 27 ?_;refine tkZ 16 28 ?_;refine tkZ 17 29 ?_;refine tkZ 18 30 ?_;refine tkZ 19 31 ?_;refine tkZ 20 32 ?_;refine tkZ 21 33 ?_;refine tkZ 22 34 ?_;refine tkZ 23 35 ?_;refine tkX 24 36 ?_;simp only[sA,sB,sC];refine wpAnyH_done (by kernel_rfl) ?_ _;have HB:=bt HB hb2;have HF:=h_ (show R=false from HR.out.symm.trans (rng_bad hlt (show stpP M 0=false by unfold stpP;rw[HMK.out,HKB.out];rfl)));go_wp2;go_ret;exact⟨by rw[HF.out]<;>rfl,HB.out⟩
    | true =>
     cases vb with
     | false =>
      have hs0:Bx wr.heap.size #[.string (bs m.key),.int .i64 m.v.k,.int .i64 m.v.n,.string (bs m.v.s)] 55 v1.drew:=HXB.out;have HS0:=h_ hs0;clear hs0;go_wp2_with fail;refine wp_region_held_drew (S:=(fun w'=>Bx wr.heap.size #[.string (bs m.key),.int .i64 m.v.k,.int .i64 m.v.n,.string (bs m.v.s)] 55 w')) (by kernel_rfl) ?_ (fun hHeld=>?_)
      ·exact HS0.out
      have hb0:Below v1.heap.size v1 v1.drew:=(Below.refl v1.heap.size v1).drew;refine tkX 0 12 ?_;refine tkY 1 (v:=?vv9) 13 ?yy9 ?_
      case yy9 =>
       intro wq hSw;obtain⟨x0,x1,x2,x3⟩:=(hSw).c4;clear hSw;go_simp
       (try with_reducible rfl)
      simp only[sA,sB,sC];refine rd1 2 fun K hK=>?_;go_simp
      (refine(KValid_any m.key hmk _).mono ?_;rw[HKB.out];rintro er u1 ⟨rfl,hb1⟩)
      focus (try go_wp2_with fail)
      refine hK.out _ _ (hHeld.call hb1) fun hHeld=>?_;clear hK K
      (try simp only[Act.put,sA,sB,sC])
      have hb2:=btrans hb0 hb0.size hb1;refine tkX 3 15 ?_;refine tkX 4 16 ?_;refine tkX 5 17 ?_;refine tkY 6 (v:=?vv13) 18 ?yy13 ?_
      case yy13 =>
       intro wq hSw;obtain⟨x0,x1,x2,x3⟩:=(hSw).c4;clear hSw;go_simp
       (try with_reducible rfl)
      simp only[sA,sB,sC];refine rd1 7 fun K hK=>?_;go_simp
      (refine(VValid_any m.v hml _).mono ?_;rw[HVB.out];rintro er u2 ⟨rfl,hb3⟩)
      focus (try go_wp2_with fail)
      refine hK.out _ _ (hHeld.call hb3) fun hHeld=>?_;clear hK K
      (try simp only[Act.put,sA,sB,sC])
      have hb4:=btrans hb2 hb2.size hb3;refine tkX 8 20 ?_;refine tkX 9 21 ?_;refine tkX 10 22 ?_;refine tkZ 11 23 ?_;refine tkZ 12 24 ?_;refine tkZ 13 25 ?_;refine tkZ 14 26 ?_;refine tkZ 15 27 ?_;refine tkZ 16 28 ?_;refine tkZ 17 29 ?_;refine tkZ 18 30 ?_;refine tkZ 19 31 ?_;refine tkZ 20 32 ?_;refine tkZ 21 33 ?_;refine tkZ 22 34 ?_;refine tkZ 23 35 ?_;refine tkX 24 36 ?_;simp only[sA,sB,sC];refine wpAnyH_done (by kernel_rfl) ?_ _;have HB:=bt HB hb4;have HF:=h_ (show R=false from HR.out.symm.trans (rng_bad hlt (show stpP M 0=false by unfold stpP;rw[HMK.out,HKB.out,HVB.out];rfl)));go_wp2;go_ret;exact⟨by rw[HF.out]<;>rfl,HB.out⟩
     | true =>
      have hs0:Bx wr.heap.size #[.string (bs m.key),.int .i64 m.v.k,.int .i64 m.v.n,.string (bs m.v.s)] 55 v1.drew:=HXB.out;have HS0:=h_ hs0;clear hs0;go_wp2_with fail;refine wp_region_held_drew (S:=(fun w'=>Bx wr.heap.size #[.string (bs m.key),.int .i64 m.v.k,.int .i64 m.v.n,.string (bs m.v.s)] 55 w')) (by kernel_rfl) ?_ (fun hHeld=>?_)
      ·exact HS0.out
      have hb0:Below v1.heap.size v1 v1.drew:=(Below.refl v1.heap.size v1).drew;refine tkX 0 12 ?_;refine tkY 1 (v:=?vv19) 13 ?yy19 ?_
      case yy19 =>
       intro wq hSw;obtain⟨x0,x1,x2,x3⟩:=(hSw).c4;clear hSw;go_simp
       (try with_reducible rfl)
      simp only[sA,sB,sC];refine rd1 2 fun K hK=>?_;go_simp
      (refine(KValid_any m.key hmk _).mono ?_;rw[HKB.out];rintro er u1 ⟨rfl,hb1⟩)
      focus (try go_wp2_with fail)
      refine hK.out _ _ (hHeld.call hb1) fun hHeld=>?_;clear hK K
      (try simp only[Act.put,sA,sB,sC])
      have hb2:=btrans hb0 hb0.size hb1;refine tkX 3 15 ?_;refine tkX 4 16 ?_;refine tkX 5 17 ?_;refine tkY 6 (v:=?vv23) 18 ?yy23 ?_
      case yy23 =>
       intro wq hSw;obtain⟨x0,x1,x2,x3⟩:=(hSw).c4;clear hSw;go_simp
       (try with_reducible rfl)
      simp only[sA,sB,sC];refine rd1 7 fun K hK=>?_;go_simp
      (refine(VValid_any m.v hml _).mono ?_;rw[HVB.out];rintro er u2 ⟨rfl,hb3⟩)
      focus (try go_wp2_with fail)
      refine hK.out _ _ (hHeld.call hb3) fun hHeld=>?_;clear hK K
      (try simp only[Act.put,sA,sB,sC])
      have hb4:=btrans hb2 hb2.size hb3;refine tkX 8 20 ?_;refine tkX 9 21 ?_;refine tkX 10 22 ?_;refine tkX 11 23 ?_;refine tkX 12 24 ?_;refine tkX 13 25 ?_;refine tkZ 14 26 ?_;refine tkZ 15 27 ?_;refine tkZ 16 28 ?_;refine tkZ 17 29 ?_;refine tkZ 18 30 ?_;refine tkZ 19 31 ?_;refine tkZ 20 32 ?_;refine tkZ 21 33 ?_;refine tkZ 22 34 ?_;refine tkX 23 35 ?_;refine tkX 24 36 ?_;simp only[sA,sB,sC];refine wpAnyH_done (by kernel_rfl) ?_ _;have HB:=bt HB hb4;have HN:=h_ (rng_step HQ.out (show stpP M 0=true by unfold stpP;rw[HMK.out,HKB.out,HVB.out];rfl));go_wp2;go_roundw
      case rel=>exact⟨1,by omega,by go_num,HN,HB.out⟩
      case measure=>simp[intOf];omega
   have hj:j<M.length:=by omega
   obtain⟨b2,off2,hbe,q0,-⟩:=pr_cells (HM.out.below HB.out) hj;cases hbe;obtain⟨m2,hm2⟩:=ex_ (M[j]);rw[hm2]at q0;have HMJ:=h_ (show M.getD j p00=m2 by rw[getD_at hj,hm2]);clear hm2
   have hwj2:IntKind.i64.wrap ((j:Int)+1-1)=(j:Int):=by rw[IntKind.wrap_i64];omega
   have hwj3:IntKind.i64.wrap (j:Int)=(j:Int):=by rw[IntKind.wrap_i64];omega
   have hgt2:(0:Int)<(j:Int)+1:=by omega
   have hj0:(0:Int)≤(j:Int):=by omega
   have hj':(j:Int)<(M.length:Int):=by omega
   obtain⟨lb,hlb⟩:=ex_ (Op.bytesLess m2.key m.key);have HLB:=h_ hlb
   cases kb with
   | false =>
    have hs0:Bx wr.heap.size #[.string (bs m.key),.int .i64 m.v.k,.int .i64 m.v.n,.string (bs m.v.s)] 55 v1.drew∧v1.drew.cell? ⟨b,off+j * 4,none⟩=some (.string (bs m2.key)):=⟨HXB.out,q0⟩;have HS0:=h_ hs0;clear hs0;go_wp2_with fail;refine wp_region_held_drew (S:=(fun w'=>Bx wr.heap.size #[.string (bs m.key),.int .i64 m.v.k,.int .i64 m.v.n,.string (bs m.v.s)] 55 w'∧w'.cell? ⟨b,off+j * 4,none⟩=some (.string (bs m2.key)))) (by kernel_rfl) ?_ (fun hHeld=>?_)
    ·exact HS0.out
    have hb0:Below v1.heap.size v1 v1.drew:=(Below.refl v1.heap.size v1).drew;refine tkX 0 12 ?_;refine tkY 1 (v:=?vv33) 13 ?yy33 ?_
    case yy33 =>
     intro wq hSw;obtain⟨x0,x1,x2,x3⟩:=(hSw.1).c4;clear hSw;go_simp
     (try with_reducible rfl)
    simp only[sA,sB,sC];refine rd1 2 fun K hK=>?_;go_simp
    (refine(KValid_any m.key hmk _).mono ?_;rw[HKB.out];rintro er u1 ⟨rfl,hb1⟩)
    focus (try go_wp2_with fail)
    refine hK.out _ _ (⟨hHeld.1.call hb1,cell1_below hHeld.2 hb1⟩) fun hHeld=>?_;clear hK K
    (try simp only[Act.put,sA,sB,sC])
    have hb2:=btrans hb0 hb0.size hb1;refine tkX 3 15 ?_;refine tkX 4 16 ?_;refine tkZ 5 17 ?_;refine tkZ 6 18 ?_;refine tkZ 7 19 ?_;refine tkZ 8 20 ?_;refine tkX 9 21 ?_;refine tkX 10 22 ?_;refine tkZ 11 23 ?_;refine tkZ 12 24 ?_;refine tkZ 13 25 ?_;refine tkZ 14 26 ?_;refine tkZ 15 27 ?_;refine tkZ 16 28 ?_;refine tkZ 17 29 ?_;refine tkZ 18 30 ?_;refine tkZ 19 31 ?_;refine tkZ 20 32 ?_;refine tkZ 21 33 ?_;refine tkZ 22 34 ?_;refine tkZ 23 35 ?_;refine tkX 24 36 ?_;simp only[sA,sB,sC];refine wpAnyH_done (by kernel_rfl) ?_ _;have HB:=bt HB hb2;have HF:=h_ (show R=false from HR.out.symm.trans (rng_bad hlt (show stpP M (j+1)=false by unfold stpP;rw[HMK.out,HKB.out];rfl)));go_wp2;go_ret;exact⟨by rw[HF.out]<;>rfl,HB.out⟩
   | true =>
    cases vb with
    | false =>
     have hs0:Bx wr.heap.size #[.string (bs m.key),.int .i64 m.v.k,.int .i64 m.v.n,.string (bs m.v.s)] 55 v1.drew∧v1.drew.cell? ⟨b,off+j * 4,none⟩=some (.string (bs m2.key)):=⟨HXB.out,q0⟩;have HS0:=h_ hs0;clear hs0;go_wp2_with fail;refine wp_region_held_drew (S:=(fun w'=>Bx wr.heap.size #[.string (bs m.key),.int .i64 m.v.k,.int .i64 m.v.n,.string (bs m.v.s)] 55 w'∧w'.cell? ⟨b,off+j * 4,none⟩=some (.string (bs m2.key)))) (by kernel_rfl) ?_ (fun hHeld=>?_)
     ·exact HS0.out
     have hb0:Below v1.heap.size v1 v1.drew:=(Below.refl v1.heap.size v1).drew;refine tkX 0 12 ?_;refine tkY 1 (v:=?vv40) 13 ?yy40 ?_
     case yy40 =>
      intro wq hSw;obtain⟨x0,x1,x2,x3⟩:=(hSw.1).c4;clear hSw;go_simp
      (try with_reducible rfl)
     simp only[sA,sB,sC];refine rd1 2 fun K hK=>?_;go_simp
     (refine(KValid_any m.key hmk _).mono ?_;rw[HKB.out];rintro er u1 ⟨rfl,hb1⟩)
     focus (try go_wp2_with fail)
     refine hK.out _ _ (⟨hHeld.1.call hb1,cell1_below hHeld.2 hb1⟩) fun hHeld=>?_;clear hK K
     (try simp only[Act.put,sA,sB,sC])
     have hb2:=btrans hb0 hb0.size hb1;refine tkX 3 15 ?_;refine tkX 4 16 ?_;refine tkX 5 17 ?_;refine tkY 6 (v:=?vv44) 18 ?yy44 ?_
     case yy44 =>
      intro wq hSw;obtain⟨x0,x1,x2,x3⟩:=(hSw.1).c4;clear hSw;go_simp
      (try with_reducible rfl)
     simp only[sA,sB,sC];refine rd1 7 fun K hK=>?_;go_simp
     (refine(VValid_any m.v hml _).mono ?_;rw[HVB.out];rintro er u2 ⟨rfl,hb3⟩)
     focus (try go_wp2_with fail)
     refine hK.out _ _ (⟨hHeld.1.call hb3,cell1_below hHeld.2 hb3⟩) fun hHeld=>?_;clear hK K
     (try simp only[Act.put,sA,sB,sC])
     have hb4:=btrans hb2 hb2.size hb3;refine tkX 8 20 ?_;refine tkX 9 21 ?_;refine tkX 10 22 ?_;refine tkZ 11 23 ?_;refine tkZ 12 24 ?_;refine tkZ 13 25 ?_;refine tkZ 14 26 ?_;refine tkZ 15 27 ?_;refine tkZ 16 28 ?_;refine tkZ 17 29 ?_;refine tkZ 18 30 ?_;refine tkZ 19 31 ?_;refine tkZ 20 32 ?_;refine tkZ 21 33 ?_;refine tkZ 22 34 ?_;refine tkZ 23 35 ?_;refine tkX 24 36 ?_;simp only[sA,sB,sC];refine wpAnyH_done (by kernel_rfl) ?_ _;have HB:=bt HB hb4;have HF:=h_ (show R=false from HR.out.symm.trans (rng_bad hlt (show stpP M (j+1)=false by unfold stpP;rw[HMK.out,HKB.out,HVB.out];rfl)));go_wp2;go_ret;exact⟨by rw[HF.out]<;>rfl,HB.out⟩
    | true =>
     cases lb with
     | true =>
      have hs0:Bx wr.heap.size #[.string (bs m.key),.int .i64 m.v.k,.int .i64 m.v.n,.string (bs m.v.s)] 55 v1.drew∧v1.drew.cell? ⟨b,off+j * 4,none⟩=some (.string (bs m2.key)):=⟨HXB.out,q0⟩;have HS0:=h_ hs0;clear hs0;go_wp2_with fail;refine wp_region_held_drew (S:=(fun w'=>Bx wr.heap.size #[.string (bs m.key),.int .i64 m.v.k,.int .i64 m.v.n,.string (bs m.v.s)] 55 w'∧w'.cell? ⟨b,off+j * 4,none⟩=some (.string (bs m2.key)))) (by kernel_rfl) ?_ (fun hHeld=>?_)
      ·exact HS0.out
      have hb0:Below v1.heap.size v1 v1.drew:=(Below.refl v1.heap.size v1).drew;refine tkX 0 12 ?_;refine tkY 1 (v:=?vv50) 13 ?yy50 ?_
      case yy50 =>
       intro wq hSw;obtain⟨x0,x1,x2,x3⟩:=(hSw.1).c4;clear hSw;go_simp
       (try with_reducible rfl)
      simp only[sA,sB,sC];refine rd1 2 fun K hK=>?_;go_simp
      (refine(KValid_any m.key hmk _).mono ?_;rw[HKB.out];rintro er u1 ⟨rfl,hb1⟩)
      focus (try go_wp2_with fail)
      refine hK.out _ _ (⟨hHeld.1.call hb1,cell1_below hHeld.2 hb1⟩) fun hHeld=>?_;clear hK K
      (try simp only[Act.put,sA,sB,sC])
      have hb2:=btrans hb0 hb0.size hb1;refine tkX 3 15 ?_;refine tkX 4 16 ?_;refine tkX 5 17 ?_;refine tkY 6 (v:=?vv54) 18 ?yy54 ?_
      case yy54 =>
       intro wq hSw;obtain⟨x0,x1,x2,x3⟩:=(hSw.1).c4;clear hSw;go_simp
       (try with_reducible rfl)
      simp only[sA,sB,sC];refine rd1 7 fun K hK=>?_;go_simp
      (refine(VValid_any m.v hml _).mono ?_;rw[HVB.out];rintro er u2 ⟨rfl,hb3⟩)
      focus (try go_wp2_with fail)
      refine hK.out _ _ (⟨hHeld.1.call hb3,cell1_below hHeld.2 hb3⟩) fun hHeld=>?_;clear hK K
      (try simp only[Act.put,sA,sB,sC])
      have hb4:=btrans hb2 hb2.size hb3;refine tkX 8 20 ?_;refine tkX 9 21 ?_;refine tkX 10 22 ?_;refine tkX 11 23 ?_;refine tkX 12 24 ?_;refine tkX 13 25 ?_;refine tkX 14 26 ?_;refine tkX 15 27 ?_;refine tkX 16 28 ?_;refine tkX 17 29 ?_;refine tkX 18 30 ?_;refine tkY 19 (v:=?vv66) 31 ?yy66 ?_
      case yy66 =>
       intro wq hSw;have q0:=hSw.2;clear hSw;go_simp
       (try with_reducible rfl)
      refine tkX 20 32 ?_;refine tkY 21 (v:=?vv68) 33 ?yy68 ?_
      case yy68 =>
       intro wq hSw;obtain⟨x0,x1,x2,x3⟩:=(hSw.1).c4;clear hSw;go_simp
       (try with_reducible rfl)
      refine tkX 22 34 ?_;refine tkX 23 35 ?_;refine tkX 24 36 ?_;simp only[sA,sB,sC];refine wpAnyH_done (by kernel_rfl) ?_ _;have HB:=bt HB hb4;have HN:=h_ (rng_step HQ.out (show stpP M (j+1)=true by unfold stpP;rw[HMK.out,HKB.out,HVB.out,Nat.add_sub_cancel,HMJ.out,HLB.out];simp));go_wp2;go_roundw
      case rel=>exact⟨j+2,by omega,by go_num,HN,HB.out⟩
      case measure=>simp[intOf];omega
     | false =>
      have hs0:Bx wr.heap.size #[.string (bs m.key),.int .i64 m.v.k,.int .i64 m.v.n,.string (bs m.v.s)] 55 v1.drew∧v1.drew.cell? ⟨b,off+j * 4,none⟩=some (.string (bs m2.key)):=⟨HXB.out,q0⟩;have HS0:=h_ hs0;clear hs0;go_wp2_with fail;refine wp_region_held_drew (S:=(fun w'=>Bx wr.heap.size #[.string (bs m.key),.int .i64 m.v.k,.int .i64 m.v.n,.string (bs m.v.s)] 55 w'∧w'.cell? ⟨b,off+j * 4,none⟩=some (.string (bs m2.key)))) (by kernel_rfl) ?_ (fun hHeld=>?_)
      ·exact HS0.out
      have hb0:Below v1.heap.size v1 v1.drew:=(Below.refl v1.heap.size v1).drew;refine tkX 0 12 ?_;refine tkY 1 (v:=?vv73) 13 ?yy73 ?_
      case yy73 =>
       intro wq hSw;obtain⟨x0,x1,x2,x3⟩:=(hSw.1).c4;clear hSw;go_simp
       (try with_reducible rfl)
      simp only[sA,sB,sC];refine rd1 2 fun K hK=>?_;go_simp
      (refine(KValid_any m.key hmk _).mono ?_;rw[HKB.out];rintro er u1 ⟨rfl,hb1⟩)
      focus (try go_wp2_with fail)
      refine hK.out _ _ (⟨hHeld.1.call hb1,cell1_below hHeld.2 hb1⟩) fun hHeld=>?_;clear hK K
      (try simp only[Act.put,sA,sB,sC])
      have hb2:=btrans hb0 hb0.size hb1;refine tkX 3 15 ?_;refine tkX 4 16 ?_;refine tkX 5 17 ?_;refine tkY 6 (v:=?vv77) 18 ?yy77 ?_
      case yy77 =>
       intro wq hSw;obtain⟨x0,x1,x2,x3⟩:=(hSw.1).c4;clear hSw;go_simp
       (try with_reducible rfl)
      simp only[sA,sB,sC];refine rd1 7 fun K hK=>?_;go_simp
      (refine(VValid_any m.v hml _).mono ?_;rw[HVB.out];rintro er u2 ⟨rfl,hb3⟩)
      focus (try go_wp2_with fail)
      refine hK.out _ _ (⟨hHeld.1.call hb3,cell1_below hHeld.2 hb3⟩) fun hHeld=>?_;clear hK K
      (try simp only[Act.put,sA,sB,sC])
      have hb4:=btrans hb2 hb2.size hb3;refine tkX 8 20 ?_;refine tkX 9 21 ?_;refine tkX 10 22 ?_;refine tkX 11 23 ?_;refine tkX 12 24 ?_;refine tkX 13 25 ?_;refine tkX 14 26 ?_;refine tkX 15 27 ?_;refine tkX 16 28 ?_;refine tkX 17 29 ?_;refine tkX 18 30 ?_;refine tkY 19 (v:=?vv89) 31 ?yy89 ?_
      case yy89 =>
       intro wq hSw;have q0:=hSw.2;clear hSw;go_simp
       (try with_reducible rfl)
      refine tkX 20 32 ?_;refine tkY 21 (v:=?vv91) 33 ?yy91 ?_
      case yy91 =>
       intro wq hSw;obtain⟨x0,x1,x2,x3⟩:=(hSw.1).c4;clear hSw;go_simp
       (try with_reducible rfl)
      refine tkX 22 34 ?_;refine tkX 23 35 ?_;refine tkX 24 36 ?_;simp only[sA,sB,sC];refine wpAnyH_done (by kernel_rfl) ?_ _;have HB:=bt HB hb4;have HF:=h_ (show R=false from HR.out.symm.trans (rng_bad hlt (show stpP M (j+1)=false by unfold stpP;rw[HMK.out,HKB.out,HVB.out,Nat.add_sub_cancel,HMJ.out,HLB.out];simp)));go_wp2;go_ret;exact⟨by rw[HF.out]<;>rfl,HB.out⟩
  ·have hlt':¬(k:Int)<(M.length:Int):=by omega
   have hkl:k=M.length:=by omega
   have HF:=h_ (show R=true from HR.out.symm.trans (by unfold srtB;rw[←hkl];exact HQ.out));clear hkl;go_wp2;go_ret;exact⟨by rw[HF.out]<;>rfl,HB.out⟩
def idxP (p:Pr→Bool) (M:List Pr):Int:=if M.findIdx p<M.length then (M.findIdx p:Int) else -1
theorem find_at{p:Pr→Bool}:∀(M:List Pr) (k:Nat) (h:k<M.length),(M.take k).any p=false→p M[k]=true→M.findIdx p=k
 | m::r,0,_,_,hx=>by rw[List.findIdx_cons];have hx:p m=true:=hx;rw[hx];rfl
 | m::r,k+1,h,hn,hx=>by
  rw[List.take_succ_cons,List.any_cons,Bool.or_eq_false_iff]at hn;rw[List.findIdx_cons,hn.1,find_at r k (by simpa using h) hn.2 hx];rfl
theorem idxP_at{p:Pr→Bool}{M:List Pr}{k:Nat}(h:k<M.length)(hn:(M.take k).any p=false)(hx:p M[k]=true):idxP p M=(k:Int):=by
 unfold idxP;rw[find_at M k h hn hx,if_pos h]
theorem idxP_none{p:Pr→Bool}{M:List Pr}(hn:M.any p=false):idxP p M = -1:=by
 unfold idxP;rw[if_neg];intro h;have:=List.findIdx_getElem (w:=h);have h2:M.any p=true:=List.any_eq_true.2 ⟨_,List.getElem_mem h,this⟩;rw[hn]at h2;cases h2
theorem any_step{p:Pr→Bool}{M:List Pr}{k:Nat}(h:k<M.length)(hn:(M.take k).any p=false)(hx:p M[k]=false):(M.take (k+1)).any p=false:=by
 rw[List.take_succ_eq_append_getElem h,List.any_append,hn,List.any_cons,List.any_nil,hx];rfl
theorem absent_any(m:Pr)(w:World):
  Calls prog 57 #[.agg (prV m)] w fun e w'=>e=.returned (.bool (absB m))∧Below w.heap.size w w':=by
 simp only[prV];obtain⟨v0,hW0,hb0,hx0⟩:=boxes1 w #[.string (bs m.key),.int .i64 m.v.k,.int .i64 m.v.n,.string (bs m.v.s)] 55;have HW:=h_ hW0;have HB:=h_ hb0;have HC:=h_ hx0;clear hW0 hb0 hx0;go_enter func57,ntmps57;go_upto_region 1 with (fail);rw[HW.out];clear HW;obtain⟨c0,c1,c2,c3⟩:=HC.out.c4;by_cases h:m.v.k=0
 ·have t0:(m.v.k==0)=true:=by rw[h];rfl
  have HF:=h_ (show absB m=true from decide_eq_true h);clear h;go_wp2;go_ret;exact⟨by rw[HF.out]<;>rfl,HB.out⟩
 have t0:(m.v.k==0)=false:=by rw[beq_eq_false_iff_ne];exact h
 have HF:=h_ (show absB m=false from decide_eq_false h);clear h;go_wp2;go_ret;exact⟨by rw[HF.out]<;>rfl,HB.out⟩
theorem idxAbs_any(a:Option Addr)(cap:Nat)(M:List Pr) (w:World)(hl:M.length≤9000000000000) (hM:CellsAt w (.slice a M.length cap) M.length (prLs M)):
  Calls prog 89 #[.slice a M.length cap,.func (.func 57) #[] #[]] w fun e w'=>e=.returned (.int .i64 (idxP (absB) M))∧Below w.heap.size w w':=by
 obtain⟨p,hp⟩:∃p,p=(absB):=⟨_,rfl⟩;rw[←hp];have HPP:=h_ hp;clear hp;obtain⟨R,hR⟩:=ex_ (idxP p M);rw[hR];have HR:=h_ hR;have HM:=h_ hM;clear hR hM;skip;go_enter func89,ntmps89;go_wp2;go_loopw [8] (fun i wr=>∃k:Nat,k≤M.length∧i=.int .i64 k∧Hid ((M.take k).any p=false)∧Below w.heap.size w wr) (fun i _=>M.length-(intOf i).toNat)
 case atStart=>exact⟨0,Nat.zero_le _,by first|exact True.intro|rfl,h_ rfl,Below.refl _ _⟩
 case round =>
  obtain⟨k,hk,rfl,HQ,hB⟩:=hrel;have HB:=h_ hB;clear hB;by_cases hlt:k<M.length
  ·have hlt':(k:Int)<(M.length:Int):=by omega
   have hkb:(0:Int)≤(k:Int)∧(k:Int)<(M.length:Int):=⟨by omega,by omega⟩
   have hw1:IntKind.i64.wrap ((k:Int)+1)=(k:Int)+1:=by rw[IntKind.wrap_i64];omega
   obtain⟨b,off,rfl,p0,p1,p2,p3⟩:=pr_cells (HM.out.below HB.out) hlt;obtain⟨m,hm⟩:=ex_ (M[k]);rw[hm]at p0 p1 p2 p3;have HMK:=h_ hm;clear hm;obtain⟨pb,hpb⟩:=ex_ (p m);have HPB:=h_ hpb;have HPB2:=h_ (show (absB) m=pb by rw[←HPP.out];exact hpb);clear hpb;go_wp2_with fail;refine(absent_any m _).mono ?_;have hpe:=HPB2.out
   (try simp only at hpe)
   rw[hpe];clear hpe;rintro er w1 ⟨rfl,hb1⟩;have HB:=bt HB hb1;clear hb1 p0 p1 p2 p3
   cases pb with
   | true =>
    have HF:=h_ (show R=(k:Int) from HR.out.symm.trans (idxP_at hlt HQ.out (by rw[HMK.out];exact HPB.out)));go_wp2;go_ret;exact⟨by rw[HF.out]<;>rfl,HB.out⟩
   | false =>
    have HN:=h_ (any_step hlt HQ.out (by rw[HMK.out];exact HPB.out));go_wp2;go_roundw
    case rel=>exact⟨k+1,by omega,by go_num,HN,HB.out⟩
    case measure=>simp[intOf];omega
  ·have hlt':¬(k:Int)<(M.length:Int):=by omega
   have HF:=h_ (show R = -1 from HR.out.symm.trans (idxP_none (by have h:=HQ.out;rw[List.take_of_length_le (by omega)]at h;exact h)));go_wp2;go_ret;exact⟨by rw[HF.out]<;>rfl,HB.out⟩
theorem conAbs_any(a:Option Addr)(cap:Nat)(M:List Pr)(w:World)(hl:M.length≤9000000000000)(hM:CellsAt w (.slice a M.length cap) M.length (prLs M)):
  Calls prog 56 #[.slice a M.length cap,.func (.func 57) #[] #[]] w fun e w'=>e=.returned (.bool (M.any absB))∧Below w.heap.size w w':=by
 obtain⟨ix,hix⟩:=ex_ (idxP absB M);have HIX:=h_ hix;clear hix;go_enter func56,ntmps56;go_wp2_with fail;refine(idxAbs_any a cap M _ hl hM).mono ?_;rw[HIX.out];rintro er w1 ⟨rfl,hb1⟩;have HB:=h_ hb1;clear hb1
 cases hany:M.any absB with
 | false =>
  have e:ix = -1:=HIX.out.symm.trans (idxP_none hany);subst e;have HANY:=h_ hany;clear hany HIX;go_wp2;go_ret;exact⟨by rw[HANY.out]<;>rfl,HB.out⟩
 | true =>
  have hlt:M.findIdx absB<M.length:=by obtain⟨x,hx,hp⟩:=List.any_eq_true.1 hany;exact List.findIdx_lt_length_of_exists ⟨x,hx,hp⟩
  have hge:0≤ix:=by rw[←HIX.out];unfold idxP;rw[if_pos hlt];omega
  have HANY:=h_ hany;clear hany HIX hlt;go_wp2;go_ret;exact⟨by rw[HANY.out]<;>rfl,HB.out⟩
theorem SValid_any(a:Option Addr)(cap:Nat)(M:List Pr)(w:World)(hl:M.length≤9000000000000)(hx:∀p∈M,p.key.length≤9223372036854775807∧p.v.s.length≤9223372036854775807)(hM:CellsAt w (.slice a M.length cap) M.length (prLs M)):
  Calls prog 35 #[.slice a M.length cap] w fun e w'=>e=.returned (.bool (stB M))∧Below w.heap.size w w':=by
 obtain⟨sb,hsb⟩:=ex_ (srtB M);obtain⟨ab,hab⟩:=ex_ (M.any absB);have HF:=h_ (show stB M=(sb && !ab) by unfold stB;rw[hsb,hab]);have HSB:=h_ hsb;have HAB:=h_ hab;have HM:=h_ hM;clear hsb hab hM;go_enter func35,ntmps35;go_wp2_with fail;refine(sorted_any a cap M _ hl hx HM.out).mono ?_;rw[HSB.out];rintro er w1 ⟨rfl,hb1⟩;have HB:=h_ hb1;clear hb1
 cases sb with
 | false =>
  go_wp2;go_ret;exact⟨by rw[HF.out]<;>rfl,HB.out⟩
 | true =>
  go_wp2_with fail;refine(conAbs_any a cap M _ hl (HM.out.below HB.out)).mono ?_;rw[HAB.out];rintro er w2 ⟨rfl,hb2⟩;have HB:=bt HB hb2;clear hb2;go_wp2;go_ret;exact⟨by rw[HF.out]<;>rfl,HB.out⟩
end Go.Proofs.YtnglaegofhpleaaGreatDoor
namespace Go.Proofs
open Go.Shelf
def Tryz.lays2_22_ren:Go.Shelf.Ren:=⟨fun|22=>122|29=>142|30=>143|36=>165|17=>182|n=>n,fun|24=>27|9=>9|3=>3|4=>4|0=>0|n=>n,fun|n=>n⟩
theorem Tryz.lays2_22:Go.Proofs.Lays2.n22 Tryz.prog Tryz.lays2_22_ren:={
 mixed:=by kernel_rfl
 f17:=Tryz.func182.trans (congrArg some (by kernel_rfl))
 f22:=Tryz.func122.trans (congrArg some (by kernel_rfl))
 f29:=Tryz.func142.trans (congrArg some (by kernel_rfl))
 f30:=Tryz.func143.trans (congrArg some (by kernel_rfl))
 f36:=Tryz.func165.trans (congrArg some (by kernel_rfl))
 t0:=Tryz.underlying0
 a0:=Tryz.isAgg0
 z0:=Tryz.sizeOf0
 v0:=Tryz.zeroValue0
 t3:=Tryz.underlying3
 a3:=Tryz.isAgg3
 z3:=Tryz.sizeOf3
 v3:=Tryz.zeroValue3
 t4:=Tryz.underlying4
 a4:=Tryz.isAgg4
 z4:=Tryz.sizeOf4
 v4:=Tryz.zeroValue4
 t9:=Tryz.underlying9
 a9:=Tryz.isAgg9
 z9:=Tryz.sizeOf9
 v9:=Tryz.zeroValue9
 t24:=Tryz.underlying27
 a24:=Tryz.isAgg27
 z24:=Tryz.sizeOf27
 v24:=Tryz.zeroValue27
 i9:=by kernel_rfl }
open Go.Lib in
theorem Tryz.lays2_22_laid:Lays2.n22 Tryz.prog Tryz.lays2_22_ren:=Tryz.lays2_22
def Tryz.lays2_26_ren:Go.Shelf.Ren:=⟨fun|26=>121|33=>140|34=>141|38=>164|n=>n,fun|24=>27|9=>9|3=>3|4=>4|40=>170|0=>0|n=>n,fun|n=>n⟩
theorem Tryz.lays2_26:Go.Proofs.Lays2.n26 Tryz.prog Tryz.lays2_26_ren:={
 mixed:=by kernel_rfl
 f26:=Tryz.func121.trans (congrArg some (by kernel_rfl))
 f33:=Tryz.func140.trans (congrArg some (by kernel_rfl))
 f34:=Tryz.func141.trans (congrArg some (by kernel_rfl))
 f38:=Tryz.func164.trans (congrArg some (by kernel_rfl))
 t0:=Tryz.underlying0
 a0:=Tryz.isAgg0
 z0:=Tryz.sizeOf0
 v0:=Tryz.zeroValue0
 t3:=Tryz.underlying3
 a3:=Tryz.isAgg3
 z3:=Tryz.sizeOf3
 v3:=Tryz.zeroValue3
 t4:=Tryz.underlying4
 a4:=Tryz.isAgg4
 z4:=Tryz.sizeOf4
 v4:=Tryz.zeroValue4
 t9:=Tryz.underlying9
 a9:=Tryz.isAgg9
 z9:=Tryz.sizeOf9
 v9:=Tryz.zeroValue9
 t24:=Tryz.underlying27
 a24:=Tryz.isAgg27
 z24:=Tryz.sizeOf27
 v24:=Tryz.zeroValue27
 t40:=Tryz.underlying170
 a40:=Tryz.isAgg170
 z40:=Tryz.sizeOf170
 v40:=Tryz.zeroValue170 }
open Go.Lib in
theorem Tryz.lays2_26_laid:Lays2.n26 Tryz.prog Tryz.lays2_26_ren:=Tryz.lays2_26
end Go.Proofs
namespace Go.Proofs.YtnglaegofhpleaaGreatDoor
open Go.RowKit Go.Proofs.Tryz
theorem bl_irrefl:∀a:List UInt8,Op.bytesLess a a=false
 | []=>rfl
 | c::r=>by simp[Op.bytesLess,bl_irrefl r]
theorem bl_trans:∀{a b c:List UInt8},Op.bytesLess a b=true→Op.bytesLess b c=true→Op.bytesLess a c=true
 | _,[],_,h,_=>by simp[Op.bytesLess]at h
 | [],_::_,[],_,h=>by simp[Op.bytesLess]at h
 | [],_::_,_::_,_,_=>rfl
 | _::_,_::_,[],_,h=>by simp[Op.bytesLess]at h
 | x::a,y::b,z::c,h1,h2=>by
  simp only[Op.bytesLess,Bool.or_eq_true,Bool.and_eq_true,decide_eq_true_eq,beq_iff_eq]at h1 h2 ⊢;rcases h1 with h1|⟨rfl,h1⟩
  ·rcases h2 with h2|⟨rfl,_⟩
   ·exact .inl (UInt8.lt_trans h1 h2)
   ·exact .inl h1
  ·rcases h2 with h2|⟨rfl,h2⟩
   ·exact .inl h2
   ·exact .inr ⟨rfl,bl_trans h1 h2⟩
theorem bl_tri:∀{a b:List UInt8},Op.bytesLess a b=false→Op.bytesLess b a=false→a=b
 | [],[],_,_=>rfl
 | [],_::_,h,_=>by simp[Op.bytesLess]at h
 | _::_,[],_,h=>by simp[Op.bytesLess]at h
 | x::a,y::b,h1,h2=>by
  simp only[Op.bytesLess,Bool.or_eq_false_iff,Bool.and_eq_false_iff,decide_eq_false_iff_not,beq_eq_false_iff_ne]at h1 h2;have e:x=y:=UInt8.le_antisymm (UInt8.not_lt.1 h2.1) (UInt8.not_lt.1 h1.1);subst e;have h3:=h1.2.resolve_left (fun h=>h rfl);have h4:=h2.2.resolve_left (fun h=>h rfl);rw[bl_tri h3 h4]
def SortK (L:List (List UInt8)):Prop:=L.Pairwise fun a b=>Op.bytesLess a b=true
def posK (L:List (List UInt8)) (k:List UInt8):Nat:=L.findIdx fun q=>!Op.bytesLess q k
def fndK (L:List (List UInt8)) (k:List UInt8):Bool:=decide (posK L k<L.length∧L.getD (posK L k) k=k)
def putK (L:List (List UInt8)) (i:Nat) (k:List UInt8):List (List UInt8):=L.take i++k::L.drop i
def withK (L:List (List UInt8)) (k:List UInt8):List (List UInt8):=if fndK L k=true then L else putK L (posK L k) k
theorem pos_le(L:List (List UInt8))(k:List UInt8):posK L k≤L.length:=List.findIdx_le_length
theorem pos_lo{L:List (List UInt8)}{k:List UInt8}{t:Nat}(h:t<posK L k):Op.bytesLess (L.getD t k) k=true:=by
 have hl:t<L.length:=Nat.lt_of_lt_of_le h (pos_le L k);have:=List.not_of_lt_findIdx h;rw[getD_at hl];simpa using this
theorem pos_hi{L:List (List UInt8)}{k:List UInt8}(hs:SortK L){t:Nat}(h:posK L k≤t):Op.bytesLess (L.getD t k) k=false:=by
 by_cases hl:t<L.length
 ·rw[getD_at hl]
  have hp:posK L k<L.length:=Nat.lt_of_le_of_lt h hl
  have h1:Op.bytesLess (L[posK L k]'hp) k=false:=by
   have h':(!Op.bytesLess (L[posK L k]'hp) k)=true:=List.findIdx_getElem (w:=hp)
   revert h';cases Op.bytesLess (L[posK L k]'hp) k<;>simp
  rcases Nat.lt_or_ge (posK L k) t with h2|h2
  ·have h3:=List.pairwise_iff_getElem.1 hs _ _ hp hl h2
   rw[Bool.eq_false_iff];intro h4;rw[bl_trans h3 h4]at h1;cases h1
  ·have e:t=posK L k:=by omega
   subst e;exact h1
 ·rw[List.getD_eq_getElem?_getD,List.getElem?_eq_none (by omega)];exact bl_irrefl k
theorem BSearch_any(g cap:Nat)(L:List (List UInt8))(k:List UInt8)(w:World)(hs:SortK L)(hc:∀j (h:j<L.length),w.cell? ⟨g,j,none⟩=some (.string (bs L[j])))(hl:L.length≤1000000000000):
  Calls prog 121 #[.slice (some ⟨g,0,none⟩) L.length cap,.string (bs k)] w fun e w'=>e=.returned (.tuple #[.int .i64 (posK L k:Int),.bool (fndK L k)])∧∃q,w'=w.drewN q:=by
 have h:=Any2.slices_BinarySearch_string Tryz.lays2_26_laid g 0 L.length cap (fun j=>bs (L.getD j k)) (bs k) w (by omega) (fun j hj=>by rw[Nat.zero_add,getD_at hj];exact hc j hj)
 have e:Lib.bsGo (fun t=>Op.bytesLess (bs (L.getD t k)).toList (bs k).toList) L.length 0 L.length=posK L k:=by
  refine Lib.bsGo_spec _ _ (fun t ht=>?_) (fun t ht=>?_) _ _ _ (Nat.le_refl _) (Nat.zero_le _) (pos_le L k)
  ·rw[bs_toList',bs_toList'];exact pos_lo ht
  ·rw[bs_toList',bs_toList'];exact pos_hi hs ht
 rw[e]at h;refine h.mono ?_;rintro er w' ⟨rfl,hq⟩;refine⟨?_,hq⟩
 have e2:decide (posK L k<L.length∧bs (L.getD (posK L k) k)=bs k)=fndK L k:=by
  unfold fndK;congr 1;rw[eq_iff_iff];exact⟨fun q=>⟨q.1,bs_inj q.2⟩,fun q=>⟨q.1,by rw[q.2]⟩⟩
 rw[e2]
theorem grown_drewN(w:World)(n:Nat)(row:Option Nat):w.grownBy (w.drewN n) row:=⟨rfl,rfl,rfl,Nat.le_refl _,fun _ _ _=>rfl⟩
theorem grown_setCells(b:Nat):∀(vs:List Value) (o:Nat) (W:World),W.grownBy (W.setCells b o vs) (some b)
 | [],_,W=>World.grownBy.refl W _
 | v::r,o,W=>(grown_set W ⟨b,o,none⟩ v).trans (grown_setCells b r (o+1) _)
theorem own_grow(w:World)(B:Nat)(T:TypeId)(xs:List Value)(n gc:Nat)(pad:Array Value)(hB:B≤w.heap.size)(hn:xs.length=n)(hg:n≤gc)(hm:gc≤maxLen)(hp:pad.size=gc-n):
  (w.alloc (.cells (xs.toArray++pad) T)).ownsRow B T 1 (.slice (some ⟨w.heap.size,0,none⟩) n gc) n xs:=by
 refine⟨by rw[hn];omega,.inr ⟨w.heap.size,gc,_,rfl,hB,heap_alloc_new w _,hg,hm,?_,?_⟩⟩
 ·simp only[Array.size_append,List.size_toArray,hp];omega
 ·simp only[Array.toList_append,Nat.mul_one];rw[List.take_left' hn]
theorem putK_map(L:List (List UInt8))(i:Nat)(k:List UInt8):(putK L i k).map strV=(L.map strV).take i++strV k::(L.map strV).drop i:=by
 unfold putK;rw[List.map_append,List.map_cons,List.map_take,List.map_drop]
theorem strVs_one(l:List (List UInt8)):∀v∈l.map strV,v.oneCell'=true:=by
 intro v hv;obtain⟨x,_,rfl⟩:=List.mem_map.1 hv;rfl
theorem bx_shape{b:Nat}{cs:Array Value}{T:TypeId}{W:World}(h:Bx b cs T W):W.shape? b=some (T,cs.size):=by
 unfold Bx at h;simp[World.shape?,h]
theorem insRow_any(B:Nat)(v:Value)(L:List (List UInt8))(k:List UInt8)(i:Nat)(hi:i≤L.length)(w:World)(vb:Nat)(hown:w.ownsRow B 9 1 v L.length (L.map strV))(hB:B≤w.heap.size)(hX:Bx vb #[strV k] 9 w)(hne:v.ownBlock≠some vb)(hl:L.length≤1000000000000):
  Calls prog 122 #[v,.int .i64 (i:Int),.slice (some ⟨vb,0,none⟩) 1 1] w fun e w'=>∃v',e=.returned v'∧w'.ownsRow B 9 1 v' (L.length+1) ((putK L i k).map strV)∧w.grownBy w' v.ownBlock∧(v'.ownBlock=v.ownBlock∨v'.ownBlock=some w.heap.size):=by
 have hvs:∀j u,([strV k]:List Value)[j]? = some u→w.cell? ⟨vb,0+j,none⟩=some u:=by
  intro j u hj;rw[Nat.zero_add,hX.cell j];rcases j with _|j
  ·exact hj
  ·simp at hj
 have h1v:∀u∈[strV k],u.oneCell'=true:=strVs_one [k];rcases hown.2 with ⟨rfl,h0⟩|⟨g,cap,cur,rfl,hg,hheap,hcap,hmax,hsz,htake⟩
 ·have hL:L=[]:=List.eq_nil_of_length_eq_zero h0
  subst hL
  have hi0:i=0:=by simpa using hi
  subst hi0;refine(Any2.slices_Insert_string_end_grow Tryz.lays2_22_laid none 0 0 vb 0 1 1 [] [strV k] w (by omega) (by omega) (by omega) (by omega) rfl rfl (fun _=>rfl) (fun a h=>by cases h) hvs h1v).mono ?_;rintro e w' ⟨rfl,rfl⟩;refine⟨_,rfl,?_,(grown_drewN w 1 _).trans (World.grownBy_alloc _ _ _),.inr rfl⟩;have hge:=grownCap_ge w (0+1) 0 9;exact own_grow w.drew B 9 [strV k] 1 _ _ hB rfl hge (grownCap_le_maxLen w (0+1) 0 9 (by unfold maxLen;omega)) (by rw[size_zeroCells];exact Nat.mul_one _)
 ·have hXB:Bx g cur 9 w:=hheap
  have hgv:vb≠g:=by intro e;subst e;exact hne rfl
  have hcs0:∀j u,(L.map strV)[j]? = some u→w.cell? ⟨g,0+j,none⟩=some u:=by
   intro j u hj;rw[Nat.zero_add,hXB.cell j,←Array.getElem?_toList]
   have hlt:j<L.length * 1:=by have:=(List.getElem?_eq_some_iff.1 hj).1;rw[List.length_map]at this;omega
   rw[←hj,←htake,List.getElem?_take_of_lt hlt]
  have hclen:(L.map strV).length=L.length:=List.length_map ..
  have hsz1:cur.size=cap:=by omega
  have hfull:∀j,j<cap→(w.cell? ⟨g,0+j,none⟩).isSome=true:=by
   intro j hj;rw[Nat.zero_add,hXB.cell j,Array.getElem?_eq_getElem (by omega)];rfl
  have hc63:cap≤9223372036854775807:=by unfold maxLen at hmax;omega
  have hgs:g<w.heap.size:=hXB.lt
  have htk:cur.toList.take L.length=L.map strV:=by rw[←htake,Nat.mul_one]
  by_cases hlt:i<L.length
  ·by_cases hroom:L.length+1≤cap
   ·refine(Any2.slices_Insert_string_shift Tryz.lays2_22_laid g 0 L.length cap i vb 0 1 1 (L.map strV) [strV k] w hlt (by omega) hroom hc63 hgv hclen rfl hcs0 (fun j hj=>hfull j (by omega)) (fun j _=>hXB.free _) hvs (strVs_one L) h1v
     9 9 1 cap (bx_shape hX) (by rw[bx_shape hXB,hsz1]) (by omega) (hX.free 0) (hX.free 1)).mono ?_
    rintro e w' ⟨rfl,rfl⟩;obtain⟨c1,hb1,ht1⟩:=Bx.setCells ((L.map strV).drop i) (0+(i+1)) cur w.drew hXB.drew (by rw[List.length_drop,hclen];omega)
    have hs1:c1.size=cap:=by
     have:=congrArg List.length ht1;simp only[Array.length_toList,List.length_append,List.length_take,List.length_drop,hclen]at this;omega
    obtain⟨c2,hb2,ht2⟩:=Bx.setCells [strV k] (0+i) c1 _ hb1 (by show 0+i+1≤_;omega)
    have hs2:c2.size=cap:=by
     have:=congrArg List.length ht2;simp only[Array.length_toList,List.length_append,List.length_take,List.length_drop,List.length_singleton]at this;omega
    refine⟨_,rfl,⟨by rw[List.length_map];unfold putK;simp;omega,.inr ⟨g,cap,c2,rfl,hg,hb2,hroom,hmax,by omega,?_⟩⟩,?_,.inl rfl⟩
    ·rw[putK_map]
     have hcl:cur.toList.length=cap:=by rw[Array.length_toList,hsz1]
     have e1:c1.toList.take (0+i)=(L.map strV).take i:=by
      rw[ht1,Nat.zero_add,Nat.zero_add,List.append_assoc,List.take_append_of_le_length (by rw[List.length_take];omega),List.take_take,Nat.min_eq_left (by omega),←htk,List.take_take,Nat.min_eq_left (by omega)]
     have e2:c1.toList.drop (0+i+([strV k]:List Value).length)=(L.map strV).drop i++cur.toList.drop (0+(i+1)+((L.map strV).drop i).length):=by
      rw[ht1,List.append_assoc,List.drop_left' (by rw[List.length_take];show min (0+(i+1)) _=0+i+1;omega)]
     rw[ht2,e1,e2,show ∀r:List Value,(L.map strV).take i++[strV k]++((L.map strV).drop i++r)=((L.map strV).take i++strV k::(L.map strV).drop i)++r from fun r=>by simp,List.take_left' (by simp;omega)]
    ·exact((grown_drewN w 1 _).trans (grown_setCells g _ _ _)).trans (grown_setCells g _ _ _)
   ·refine(Any2.slices_Insert_string_grow Tryz.lays2_22_laid g 0 L.length cap i vb 0 1 1 (L.map strV) [strV k] w hlt (by omega) hcap (by omega) (by omega) hclen rfl hcs0 hvs (strVs_one L) h1v).mono ?_
    rintro e w' ⟨rfl,rfl⟩;have hge:=grownCap_ge w (L.length+1) cap 9;have hle:=grownCap_le_maxLen w (L.length+1) cap 9 (by unfold maxLen;omega);rw[show Tryz.lays2_22_ren.t 9=9 from rfl];generalize grownCap w (L.length+1) cap 9=gc at hge hle ⊢;obtain⟨c0,hc0⟩:∃c:Array Value,((L.map strV).take i).toArray++Builtin.zeroCells (Value.string ⟨#[]⟩).cells (L.length+1-i)++Builtin.zeroCells (Value.string ⟨#[]⟩).cells (gc-(L.length+1))=c:=⟨_,rfl⟩;have hz:(Value.string ⟨#[]⟩).cells.size=1:=rfl
    have hs0:c0.size=gc:=by
     rw[←hc0];simp only[Array.size_append,size_zeroCells,hz,List.size_toArray,List.length_take,hclen];omega
    have ht0:c0.toList.take i=(L.map strV).take i:=by
     rw[←hc0,Array.toList_append,Array.toList_append,List.append_assoc,List.take_append_of_le_length (by simp;omega),List.take_take,Nat.min_self]
    rw[hc0];obtain⟨c1,hb1,ht1⟩:=Bx.setCells [strV k] i c0 _ (Bx.new w c0 9).drew (by show i+1≤_;omega)
    have hs1:c1.size=gc:=by
     have:=congrArg List.length ht1;simp only[Array.length_toList,List.length_append,List.length_take,List.length_drop,List.length_singleton]at this;omega
    obtain⟨c2,hb2,ht2⟩:=Bx.setCells ((L.map strV).drop i) (i+1) c1 _ hb1.drew (by rw[List.length_drop,hclen];omega)
    have hs2:c2.size=gc:=by
     have:=congrArg List.length ht2;simp only[Array.length_toList,List.length_append,List.length_take,List.length_drop,hclen]at this;omega
    refine⟨_,rfl,⟨by rw[List.length_map];unfold putK;simp;omega,.inr ⟨w.heap.size,gc,c2,rfl,hB,hb2,hge,hle,by omega,?_⟩⟩,?_,.inr rfl⟩
    ·rw[putK_map]
     have e1:c1.toList.take (i+1)=(L.map strV).take i++[strV k]:=by
      rw[ht1,ht0,List.take_left' (by rw[List.length_append,List.length_take,hclen,List.length_singleton];omega)]
     rw[ht2,e1,show ∀r:List Value,(L.map strV).take i++[strV k]++(L.map strV).drop i++r=((L.map strV).take i++strV k::(L.map strV).drop i)++r from fun r=>by simp,List.take_left' (by simp;omega)]
    ·have h1:=(World.grownBy_alloc w (.cells c0 9) none).trans (grown_drewN _ 1 none)
     have h2:=(grown_setCells w.heap.size [strV k] i ((w.alloc (.cells c0 9)).drew)).trans ((grown_drewN _ 1 _).trans (grown_setCells w.heap.size ((L.map strV).drop i) (i+1) _));exact(h1.andThen h2 (fun j hj=>.inl (by cases hj;exact Nat.le_refl _))).but _
  ·have hin:i=L.length:=by omega
   subst hin;by_cases hroom:L.length+1≤cap
   ·refine(Any2.slices_Insert_string_end_room Tryz.lays2_22_laid g 0 L.length cap vb 0 1 1 [strV k] w (by omega) hroom hc63 rfl (fun j hj=>by have:=hfull (L.length+j) (by omega);rwa [Nat.zero_add]at this ⊢) (fun j _=>hXB.free _) hvs h1v).mono ?_
    rintro e w' ⟨rfl,rfl⟩;obtain⟨c1,hb1,ht1⟩:=Bx.setCells [strV k] (0+L.length) cur w hXB (by show 0+L.length+1≤_;omega)
    have hs1:c1.size=cap:=by
     have:=congrArg List.length ht1;simp only[Array.length_toList,List.length_append,List.length_take,List.length_drop,List.length_singleton]at this;omega
    refine⟨_,rfl,⟨by rw[List.length_map];unfold putK;simp,.inr ⟨g,cap,c1,rfl,hg,hb1,hroom,hmax,by omega,?_⟩⟩,grown_setCells g _ _ _,.inl rfl⟩;have t1:(L.map strV).take L.length=L.map strV:=List.take_of_length_le (by rw[hclen];exact Nat.le_refl _);have d1:(L.map strV).drop L.length=[]:=List.drop_of_length_le (by rw[hclen];exact Nat.le_refl _);rw[putK_map,t1,d1,ht1,Nat.zero_add,htk,List.take_left' (by simp)]
   ·refine(Any2.slices_Insert_string_end_grow Tryz.lays2_22_laid (some ⟨g,0,none⟩) L.length cap vb 0 1 1 (L.map strV) [strV k] w (by omega) hcap (by omega) (by omega) hclen rfl (fun h=>by cases h) (fun a h j u hj=>by cases h;have e2:(⟨g,0,none⟩:Addr).add j=⟨g,0+j,none⟩:=(by unfold Addr.add;split<;>simp_all);rw[e2];exact hcs0 j u hj) hvs h1v).mono ?_
    rintro e w' ⟨rfl,rfl⟩;have hge:=grownCap_ge w (L.length+1) cap 9;refine⟨_,rfl,?_,((grown_drewN w 1 none).trans (World.grownBy_alloc _ _ _)).but _,.inr rfl⟩;rw[putK_map,List.take_of_length_le (by rw[hclen];exact Nat.le_refl _),List.drop_of_length_le (by rw[hclen];exact Nat.le_refl _)];exact own_grow w.drew B 9 (L.map strV++[strV k]) (L.length+1) _ _ hB (by simp) hge (grownCap_le_maxLen w (L.length+1) cap 9 (by unfold maxLen;omega)) (by rw[size_zeroCells];exact Nat.mul_one _)
theorem own_strs{W:World}{B:Nat}{v:Value}{L:List (List UInt8)}(h:W.ownsRow B 9 1 v L.length (L.map strV)):(v=.slice none 0 0∧L=[])∨∃g cap,v=.slice (some ⟨g,0,none⟩) L.length cap∧B≤g∧∀j (_:j<L.length),W.cell? ⟨g,j,none⟩=some (.string (bs L[j])):=by
 rcases own_form h with ⟨e,h0⟩|⟨g,cap,e,_,hg⟩
 ·exact .inl ⟨e,List.eq_nil_of_length_eq_zero h0⟩
 ·refine .inr ⟨g,cap,e,hg,fun j hj=>?_⟩
  have:=h.cells (g:=g) (by rw[e];rfl) j (strV L[j]) (by simp[hj])
  have e2:(⟨g,0,none⟩:Addr).add j=⟨g,0+j,none⟩:=by unfold Addr.add;split<;>simp_all
  rw[e2,Nat.zero_add]at this;exact this
def Stab (D:Nat→Prop) (W:World) (P:World→Prop):Prop:=∀W',W.heap.size≤W'.heap.size→(∀k,k<W.heap.size→¬D k→W'.heap[k]? = W.heap[k]?)→P W'
theorem Stab.now{D:Nat→Prop}{W:World}{P:World→Prop}(h:Stab D W P):P W:=h W (Nat.le_refl _) fun _ _ _=>rfl
theorem Stab.imp{D:Nat→Prop}{W:World}{P Q:World→Prop}(h:Stab D W P)(f:∀W,P W→Q W):Stab D W Q:=fun W' hs hk=>f W' (h W' hs hk)
theorem Stab.both{D:Nat→Prop}{W:World}{P Q S:World→Prop}(h:Stab D W P)(h2:Stab D W Q)(f:∀W,P W→Q W→S W):Stab D W S:=fun W' hs hk=>f W' (h W' hs hk) (h2 W' hs hk)
theorem Stab.call{D:Nat→Prop}{W W':World}{P:World→Prop}(h:Stab D W P)(hb:Below W.heap.size W W'):Stab D W' P:=fun W2 hs hk=>h W2 (Nat.le_trans hb.size hs) fun k hk1 hk2=>(hk k (Nat.lt_of_lt_of_le hk1 hb.size) hk2).trans (hb.block k hk1)
theorem Stab.put{D:Nat→Prop}{W W':World}{P:World→Prop}{b:Nat}(h:Stab D W P)(hp:Put b W W')(hb:D b):Stab D W' P:=fun W2 hs hk=>h W2 (by rw[←hp.size];exact hs) fun k hk1 hk2=>(hk k (by rw[hp.size];exact hk1) hk2).trans (hp.other k fun e=>hk2 (e ▸ hb))
def boxD (D:Nat→Prop) (w:World) (N:Nat) (k:Nat):Prop:=D k∨(w.heap.size≤k∧k<w.heap.size+N)
theorem Stab.inn{D:Nat→Prop}{w v:World}{P:World→Prop}(h:Stab D w P)(hb:Below w.heap.size w v)(N:Nat):Stab (boxD D w N) v P:=fun W' hs hk=>h W' (Nat.le_trans hb.size hs) fun k hk1 hk2=>(hk k (Nat.lt_of_lt_of_le hk1 hb.size) (by rintro (q|q);exact hk2 q;omega)).trans (hb.block k hk1)
theorem Stab.out{D:Nat→Prop}{w W:World}{P:World→Prop}{N:Nat}(h:Stab (boxD D w N) W P):Stab D W P:=fun W' hs hk=>h W' hs fun k hk1 hk2=>hk k hk1 fun q=>hk2 (.inl q)
theorem boxD_lt{D:Nat→Prop}{w:World}{N B:Nat}(hD:∀k,D k→k<w.heap.size)(hB:w.heap.size+N≤B):∀k,boxD D w N k→k<B:=by
 rintro k (q|q)
 ·have:=hD k q;omega
 ·omega
theorem own_stab{D:Nat→Prop}{W:World}{B k n:Nat}{e:TypeId}{v:Value}{xs:List Value}(h:W.ownsRow B e k v n xs)(hD:∀j,D j→j<B):Stab D W (fun W'=>W'.ownsRow B e k v n xs):=by
 intro W' hs hk;refine⟨h.1,?_⟩;rcases h.2 with h2|⟨g,c,cur,h1,h2,h3,h4⟩
 ·exact .inl h2
 ·have hg:=lt_heap h3
  exact .inr ⟨g,c,cur,h1,h2,(hk g hg fun q=>absurd (hD g q) (by omega)).trans h3,h4⟩
theorem Stab.k{D:Nat→Prop}{W W':World}{P:World→Prop}(h:Stab D W P)(hb:Below W.heap.size W W'):Hid (Stab D W' P):=Lib.hid (h.call hb)
def moreD (D:Nat→Prop) (b c:Nat) (k:Nat):Prop:=D k∨k=b∨k=c
theorem Stab.q{D:Nat→Prop}{W W':World}{P:World→Prop}{b:Nat}(h:Stab D W P)(hp:Put b W W')(hb:D b:=by first|(unfold moreD boxD;omega)|(unfold boxD;omega)):Hid (Stab D W' P):=Lib.hid (h.put hp hb)
theorem bl{D:Nat→Prop}{w W:World}{b:Nat}{cs:Array Value}{T:TypeId}(N:Nat)(hD:∀k,D k→k<w.heap.size)(h:Hid (Bx b cs T W))(hb:w.heap.size+N≤b+1:=by omega):∀k,boxD D w N k→k<W.heap.size:=boxD_lt hD (by have:=h.out.lt;omega)
theorem RKValid_any(s:List UInt8)(w:World)(hs:s.length≤9223372036854775807):
  Calls prog 86 #[.string (bs s)] w fun e w'=>e=.returned (.bool (keyB s))∧w'=w:=by
 obtain⟨R,hR⟩:=ex_ (keyB s);rw[hR];have HR:=h_ hR;clear hR;go_enter func86,ntmps86;go_wp2;go_loopw [3] (fun i wr=>∃k:Nat,k≤s.length∧i=.int .i64 k∧Hid ((s.take k).all kyc=true)∧wr=w) (fun i _=>s.length-(intOf i).toNat)
 case atStart=>exact⟨0,Nat.zero_le _,by first|exact True.intro|rfl,h_ rfl,by first|exact True.intro|rfl⟩
 case round =>
  obtain⟨k,hk,rfl,HQ,rfl⟩:=hrel;by_cases hlt:k<s.length
  ·have hlt':(k:Int)<(s.length:Int):=by omega
   have hw1:IntKind.i64.wrap ((k:Int)+1)=(k:Int)+1:=by rw[IntKind.wrap_i64];omega
   have hkc:=kyc_int s[k];have HKC:=h_ hkc;clear hkc;by_cases a1:(s[k].toNat:Int)<97
   ·by_cases b1:(s[k].toNat:Int)<48
    ·skip
     by_cases e1:(s[k].toNat:Int)=47
     ·skip
      have HN:=h_ (kyc_step hlt HQ.out (show kycI (s[k].toNat:Int)=true from by unfold kycI;simp;omega))
      have n47:((s[k].toNat:Int) != 47)=false:=by rw[Bool.eq_false_iff,Ne,bne_iff_ne];omega
      go_wp2;go_roundw
      case rel=>exact⟨k+1,by omega,by go_num,HN,by first|exact True.intro|rfl⟩
      case measure=>simp[intOf];omega
     by_cases e2:(s[k].toNat:Int)=46
     ·skip
      have HN:=h_ (kyc_step hlt HQ.out (show kycI (s[k].toNat:Int)=true from by unfold kycI;simp;omega))
      have n47:((s[k].toNat:Int) != 47)=true:=by rw[bne_iff_ne];omega
      have n46:((s[k].toNat:Int) != 46)=false:=by rw[Bool.eq_false_iff,Ne,bne_iff_ne];omega
      go_wp2;go_roundw
      case rel=>exact⟨k+1,by omega,by go_num,HN,by first|exact True.intro|rfl⟩
      case measure=>simp[intOf];omega
     by_cases e3:(s[k].toNat:Int)=95
     ·skip
      have HN:=h_ (kyc_step hlt HQ.out (show kycI (s[k].toNat:Int)=true from by unfold kycI;simp;omega))
      have n47:((s[k].toNat:Int) != 47)=true:=by rw[bne_iff_ne];omega
      have n46:((s[k].toNat:Int) != 46)=true:=by rw[bne_iff_ne];omega
      have n95:((s[k].toNat:Int) != 95)=false:=by rw[Bool.eq_false_iff,Ne,bne_iff_ne];omega
      go_wp2;go_roundw
      case rel=>exact⟨k+1,by omega,by go_num,HN,by first|exact True.intro|rfl⟩
      case measure=>simp[intOf];omega
     by_cases e4:(s[k].toNat:Int)=45
     ·skip
      have HN:=h_ (kyc_step hlt HQ.out (show kycI (s[k].toNat:Int)=true from by unfold kycI;simp;omega))
      have n47:((s[k].toNat:Int) != 47)=true:=by rw[bne_iff_ne];omega
      have n46:((s[k].toNat:Int) != 46)=true:=by rw[bne_iff_ne];omega
      have n95:((s[k].toNat:Int) != 95)=true:=by rw[bne_iff_ne];omega
      have n45:((s[k].toNat:Int) != 45)=false:=by rw[Bool.eq_false_iff,Ne,bne_iff_ne];omega
      go_wp2;go_roundw
      case rel=>exact⟨k+1,by omega,by go_num,HN,by first|exact True.intro|rfl⟩
      case measure=>simp[intOf];omega
     have HF:=h_ (show R=false from HR.out.symm.trans (by unfold keyB;rw[kyc_bad k hlt (show kycI (s[k].toNat:Int)=false from by unfold kycI;simp;omega)];simp))
     have n47:((s[k].toNat:Int) != 47)=true:=by rw[bne_iff_ne];omega
     have n46:((s[k].toNat:Int) != 46)=true:=by rw[bne_iff_ne];omega
     have n95:((s[k].toNat:Int) != 95)=true:=by rw[bne_iff_ne];omega
     have n45:((s[k].toNat:Int) != 45)=true:=by rw[bne_iff_ne];omega
     go_wp2;go_ret;exact⟨by rw[HF.out]<;>rfl,by first|exact True.intro|rfl⟩
    by_cases b2:57<(s[k].toNat:Int)
    ·skip
     by_cases e1:(s[k].toNat:Int)=47
     ·skip
      have HN:=h_ (kyc_step hlt HQ.out (show kycI (s[k].toNat:Int)=true from by unfold kycI;simp;omega))
      have n47:((s[k].toNat:Int) != 47)=false:=by rw[Bool.eq_false_iff,Ne,bne_iff_ne];omega
      go_wp2;go_roundw
      case rel=>exact⟨k+1,by omega,by go_num,HN,by first|exact True.intro|rfl⟩
      case measure=>simp[intOf];omega
     by_cases e2:(s[k].toNat:Int)=46
     ·skip
      have HN:=h_ (kyc_step hlt HQ.out (show kycI (s[k].toNat:Int)=true from by unfold kycI;simp;omega))
      have n47:((s[k].toNat:Int) != 47)=true:=by rw[bne_iff_ne];omega
      have n46:((s[k].toNat:Int) != 46)=false:=by rw[Bool.eq_false_iff,Ne,bne_iff_ne];omega
      go_wp2;go_roundw
      case rel=>exact⟨k+1,by omega,by go_num,HN,by first|exact True.intro|rfl⟩
      case measure=>simp[intOf];omega
     by_cases e3:(s[k].toNat:Int)=95
     ·skip
      have HN:=h_ (kyc_step hlt HQ.out (show kycI (s[k].toNat:Int)=true from by unfold kycI;simp;omega))
      have n47:((s[k].toNat:Int) != 47)=true:=by rw[bne_iff_ne];omega
      have n46:((s[k].toNat:Int) != 46)=true:=by rw[bne_iff_ne];omega
      have n95:((s[k].toNat:Int) != 95)=false:=by rw[Bool.eq_false_iff,Ne,bne_iff_ne];omega
      go_wp2;go_roundw
      case rel=>exact⟨k+1,by omega,by go_num,HN,by first|exact True.intro|rfl⟩
      case measure=>simp[intOf];omega
     by_cases e4:(s[k].toNat:Int)=45
     ·skip
      have HN:=h_ (kyc_step hlt HQ.out (show kycI (s[k].toNat:Int)=true from by unfold kycI;simp;omega))
      have n47:((s[k].toNat:Int) != 47)=true:=by rw[bne_iff_ne];omega
      have n46:((s[k].toNat:Int) != 46)=true:=by rw[bne_iff_ne];omega
      have n95:((s[k].toNat:Int) != 95)=true:=by rw[bne_iff_ne];omega
      have n45:((s[k].toNat:Int) != 45)=false:=by rw[Bool.eq_false_iff,Ne,bne_iff_ne];omega
      go_wp2;go_roundw
      case rel=>exact⟨k+1,by omega,by go_num,HN,by first|exact True.intro|rfl⟩
      case measure=>simp[intOf];omega
     have HF:=h_ (show R=false from HR.out.symm.trans (by unfold keyB;rw[kyc_bad k hlt (show kycI (s[k].toNat:Int)=false from by unfold kycI;simp;omega)];simp))
     have n47:((s[k].toNat:Int) != 47)=true:=by rw[bne_iff_ne];omega
     have n46:((s[k].toNat:Int) != 46)=true:=by rw[bne_iff_ne];omega
     have n95:((s[k].toNat:Int) != 95)=true:=by rw[bne_iff_ne];omega
     have n45:((s[k].toNat:Int) != 45)=true:=by rw[bne_iff_ne];omega
     go_wp2;go_ret;exact⟨by rw[HF.out]<;>rfl,by first|exact True.intro|rfl⟩
    have HN:=h_ (kyc_step hlt HQ.out (show kycI (s[k].toNat:Int)=true from by unfold kycI;simp;omega));go_wp2;go_roundw
    case rel=>exact⟨k+1,by omega,by go_num,HN,by first|exact True.intro|rfl⟩
    case measure=>simp[intOf];omega
   by_cases a2:122<(s[k].toNat:Int)
   ·have b1:¬(s[k].toNat:Int)<48:=by omega
    have b2:57<(s[k].toNat:Int):=by omega
    by_cases e1:(s[k].toNat:Int)=47
    ·skip
     have HN:=h_ (kyc_step hlt HQ.out (show kycI (s[k].toNat:Int)=true from by unfold kycI;simp;omega))
     have n47:((s[k].toNat:Int) != 47)=false:=by rw[Bool.eq_false_iff,Ne,bne_iff_ne];omega
     go_wp2;go_roundw
     case rel=>exact⟨k+1,by omega,by go_num,HN,by first|exact True.intro|rfl⟩
     case measure=>simp[intOf];omega
    by_cases e2:(s[k].toNat:Int)=46
    ·skip
     have HN:=h_ (kyc_step hlt HQ.out (show kycI (s[k].toNat:Int)=true from by unfold kycI;simp;omega))
     have n47:((s[k].toNat:Int) != 47)=true:=by rw[bne_iff_ne];omega
     have n46:((s[k].toNat:Int) != 46)=false:=by rw[Bool.eq_false_iff,Ne,bne_iff_ne];omega
     go_wp2;go_roundw
     case rel=>exact⟨k+1,by omega,by go_num,HN,by first|exact True.intro|rfl⟩
     case measure=>simp[intOf];omega
    by_cases e3:(s[k].toNat:Int)=95
    ·skip
     have HN:=h_ (kyc_step hlt HQ.out (show kycI (s[k].toNat:Int)=true from by unfold kycI;simp;omega))
     have n47:((s[k].toNat:Int) != 47)=true:=by rw[bne_iff_ne];omega
     have n46:((s[k].toNat:Int) != 46)=true:=by rw[bne_iff_ne];omega
     have n95:((s[k].toNat:Int) != 95)=false:=by rw[Bool.eq_false_iff,Ne,bne_iff_ne];omega
     go_wp2;go_roundw
     case rel=>exact⟨k+1,by omega,by go_num,HN,by first|exact True.intro|rfl⟩
     case measure=>simp[intOf];omega
    by_cases e4:(s[k].toNat:Int)=45
    ·skip
     have HN:=h_ (kyc_step hlt HQ.out (show kycI (s[k].toNat:Int)=true from by unfold kycI;simp;omega))
     have n47:((s[k].toNat:Int) != 47)=true:=by rw[bne_iff_ne];omega
     have n46:((s[k].toNat:Int) != 46)=true:=by rw[bne_iff_ne];omega
     have n95:((s[k].toNat:Int) != 95)=true:=by rw[bne_iff_ne];omega
     have n45:((s[k].toNat:Int) != 45)=false:=by rw[Bool.eq_false_iff,Ne,bne_iff_ne];omega
     go_wp2;go_roundw
     case rel=>exact⟨k+1,by omega,by go_num,HN,by first|exact True.intro|rfl⟩
     case measure=>simp[intOf];omega
    have HF:=h_ (show R=false from HR.out.symm.trans (by unfold keyB;rw[kyc_bad k hlt (show kycI (s[k].toNat:Int)=false from by unfold kycI;simp;omega)];simp))
    have n47:((s[k].toNat:Int) != 47)=true:=by rw[bne_iff_ne];omega
    have n46:((s[k].toNat:Int) != 46)=true:=by rw[bne_iff_ne];omega
    have n95:((s[k].toNat:Int) != 95)=true:=by rw[bne_iff_ne];omega
    have n45:((s[k].toNat:Int) != 45)=true:=by rw[bne_iff_ne];omega
    go_wp2;go_ret;exact⟨by rw[HF.out]<;>rfl,by first|exact True.intro|rfl⟩
   have HN:=h_ (kyc_step hlt HQ.out (show kycI (s[k].toNat:Int)=true from by unfold kycI;simp;omega));go_wp2;go_roundw
   case rel=>exact⟨k+1,by omega,by go_num,HN,by first|exact True.intro|rfl⟩
   case measure=>simp[intOf];omega
  ·have hlt':¬(k:Int)<(s.length:Int):=by omega
   have HA:=h_ (show s.all kyc=true from by have h:=HQ.out;rw[List.take_of_length_le (by omega)]at h;exact h);by_cases h1:(1:Int)≤(s.length:Int)
   ·by_cases h2:(s.length:Int)≤24
    ·skip
     have HF:=h_ (show R=true from HR.out.symm.trans (by unfold keyB;rw[HA.out];simp;omega));go_wp2;go_ret;exact⟨by rw[HF.out]<;>rfl,by first|exact True.intro|rfl⟩
    have h2d:decide ((s.length:Int)≤24)=false:=decide_eq_false h2;have HF:=h_ (show R=false from HR.out.symm.trans (by unfold keyB;rw[HA.out];simp;omega));go_wp2;go_ret;exact⟨by rw[HF.out]<;>rfl,by first|exact True.intro|rfl⟩
   have h1d:decide ((1:Int)≤(s.length:Int))=false:=decide_eq_false h1;have HF:=h_ (show R=false from HR.out.symm.trans (by unfold keyB;rw[HA.out];simp;omega));go_wp2;go_ret;exact⟨by rw[HF.out]<;>rfl,by first|exact True.intro|rfl⟩
theorem bl_lo{a b:List UInt8}(h:Op.bytesLess a b=true):Op.bytesLess b a=false∧(b==a)=false:=by
 refine⟨?_,?_⟩
 ·rw[Bool.eq_false_iff];intro q;have:=bl_trans h q;rw[bl_irrefl]at this;cases this
 ·rw[beq_eq_false_iff_ne];rintro rfl;rw[bl_irrefl]at h;cases h
theorem bl_hi{a b:List UInt8}(h:Op.bytesLess a b=false):Op.bytesLess b a=true∨(b==a)=true:=by
 cases q:Op.bytesLess b a with
 | true=>exact .inl rfl
 | false=>exact .inr (beq_iff_eq.2 (bl_tri q h))
theorem bl_leq{a b:List UInt8}{x:Bool}(h:Op.bytesLess a b=x):(Op.bytesLess b a || (b==a))=!x:=by
 cases x with
 | true=>rw[(bl_lo h).1,(bl_lo h).2];rfl
 | false=>rcases bl_hi h with e|e<;>rw[e]<;>simp
def stpA (M:List Pr) (i:Nat):Bool:=keyB (M.getD i p00).key && (decide (i=0) || Op.bytesLess (M.getD (i-1) p00).key (M.getD i p00).key)
def ascP (M:List Pr):Bool:=(List.range M.length).all (stpA M)
theorem all_and6{α:Type}(p q:α→Bool):∀l:List α,l.all (fun x=>p x && q x)=(l.all p && l.all q)
 | []=>rfl
 | x::r=>by rw[List.all_cons,List.all_cons,List.all_cons,all_and6 p q r];cases p x<;>cases q x<;>simp
theorem srt_asc(M:List Pr):srtB M=(ascP M && M.all fun p=>vaB p.v):=by
 have h1:srtB M=(List.range M.length).all (fun i=>stpA M i && vaB (M.getD i p00).v):=by
  unfold srtB;congr 1;funext i;unfold stpP stpA;generalize keyB _=x;generalize vaB _=y;generalize (decide (i=0) || _)=z;cases x<;>cases y<;>cases z<;>rfl
 rw[h1,all_and6]
 congr 1
 rw[Bool.eq_iff_iff,List.all_eq_true,List.all_eq_true];constructor
 ·intro h p hp
  obtain⟨i,hi,rfl⟩:=List.mem_iff_getElem.1 hp;have:=h i (List.mem_range.2 hi)
  rwa [getD_at hi]at this
 ·intro h i hi
  have hi:=List.mem_range.1 hi;rw[getD_at hi];exact h _ (List.getElem_mem hi)
theorem Rasc06_any(a:Option Addr)(cap:Nat)(M:List Pr)(w:World)(hl:M.length≤9000000000000)(hx:∀p∈M,p.key.length≤9223372036854775807∧p.v.s.length≤9223372036854775807)(hM:CellsAt w (.slice a M.length cap) M.length (prLs M)):
  Calls prog 53 #[.slice a M.length cap] w fun e w'=>e=.returned (.bool (ascP M))∧Below w.heap.size w w':=by
 obtain⟨R,hR⟩:=ex_ (ascP M);rw[hR];have HR:=h_ hR;have HM:=h_ hM;have HX:=h_ hx;clear hR hM hx;go_enter func53,ntmps53;go_wp2;go_loopw [3] (fun i wr=>∃k:Nat,k≤M.length∧i=.int .i64 k∧Hid ((List.range k).all (stpA M)=true)∧Below w.heap.size w wr) (fun i _=>M.length-(intOf i).toNat)
 case atStart=>exact⟨0,Nat.zero_le _,by first|exact True.intro|rfl,h_ rfl,Below.refl _ _⟩
 case round =>
  obtain⟨k,hk,rfl,HQ,hB⟩:=hrel;have HB:=h_ hB;clear hB;by_cases hlt:k<M.length
  ·have hlt':(k:Int)<(M.length:Int):=by omega
   have hkb:(0:Int)≤(k:Int)∧(k:Int)<(M.length:Int):=⟨by omega,by omega⟩
   have hw1:IntKind.i64.wrap ((k:Int)+1)=(k:Int)+1:=by rw[IntKind.wrap_i64];omega
   obtain⟨b,off,rfl,p0,-⟩:=pr_cells (HM.out.below HB.out) hlt;obtain⟨m,hm⟩:=ex_ (M[k]);rw[hm]at p0
   have hmk:m.key.length≤9223372036854775807:=by have:=(HX.out _ (List.getElem_mem hlt)).1;rw[hm]at this;exact this
   have HMK:=h_ (show M.getD k p00=m by rw[getD_at hlt,hm]);clear hm;obtain⟨kb,hkb2⟩:=ex_ (keyB m.key);have HKB:=h_ hkb2;clear hkb2
   cases kb with
   | false =>
    have HF:=h_ (show R=false from HR.out.symm.trans (rng_bad hlt (by unfold stpA;rw[HMK.out,HKB.out];rfl)));go_wp2_with fail;have HP0:=h_ p0;refine wp_region_held_drew (S:=(fun w'=>Below wr.heap.size wr w')) (by kernel_rfl) ?_ (fun hHeld=>?_)
    ·exact(Below.refl _ _).drew
    refine tkX 0 10 ?_;refine tkX 1 11 ?_;refine tkX 2 12 ?_;refine tkX 3 13 ?_;refine tkY 4 (v:=?vv5) 14 ?yy5 ?_
    case yy5 =>
     intro wq hSw;have z0:=cell1_below HP0.out hSw;clear hSw;go_simp
     (try with_reducible rfl)
    simp only[sA,sB,sC];refine rd1 5 fun K hK=>?_;go_simp
    (refine(RKValid_any m.key _ hmk).mono ?_;rw[HKB.out];rintro er w1 ⟨rfl,rfl⟩)
    focus (try go_wp2_with fail)
    refine hK.out _ _ (hHeld) fun hHeld=>?_;clear hK K
    (try simp only[Act.put,sA,sB,sC])
    refine tkX 6 16 ?_;refine tkX 7 17 ?_;refine tkZ 8 18 ?_;refine tkZ 9 19 ?_;refine tkZ 10 20 ?_;refine tkZ 11 21 ?_;refine tkZ 12 22 ?_;refine tkZ 13 23 ?_;refine tkZ 14 24 ?_;refine tkZ 15 25 ?_;refine tkZ 16 26 ?_;refine tkZ 17 27 ?_;refine tkZ 18 28 ?_;refine tkZ 19 29 ?_;refine tkZ 20 30 ?_;refine tkZ 21 31 ?_;refine tkZ 22 32 ?_;refine tkZ 23 33 ?_;refine tkX 24 34 ?_;simp only[sA,sB,sC];refine wpAnyH_done (by kernel_rfl) ?_ _;clear hHeld;have HB:=h_ (HB.out.trans (Below.refl _ _).drew);go_wp2;go_ret;exact⟨by rw[HF.out]<;>rfl,HB.out⟩
   | true =>
    rcases k with _|j
    ·have HN:=h_ (rng_step HQ.out (show stpA M 0=true by unfold stpA;rw[HMK.out,HKB.out];rfl))
     rw[Nat.zero_mul,Nat.add_zero]at p0;go_wp2_with fail;have HP0:=h_ p0;refine wp_region_held_drew (S:=(fun w'=>Below wr.heap.size wr w')) (by kernel_rfl) ?_ (fun hHeld=>?_)
     ·exact(Below.refl _ _).drew
     refine tkX 0 10 ?_;refine tkX 1 11 ?_;refine tkX 2 12 ?_;refine tkX 3 13 ?_;refine tkY 4 (v:=?vv13) 14 ?yy13 ?_
     case yy13 =>
      intro wq hSw;have z0:=cell1_below HP0.out hSw;clear hSw;go_simp
      (try with_reducible rfl)
     simp only[sA,sB,sC];refine rd1 5 fun K hK=>?_;go_simp
     (refine(RKValid_any m.key _ hmk).mono ?_;rw[HKB.out];rintro er w1 ⟨rfl,rfl⟩)
     focus (try go_wp2_with fail)
     refine hK.out _ _ (hHeld) fun hHeld=>?_;clear hK K
     (try simp only[Act.put,sA,sB,sC])
     refine tkX 6 16 ?_;refine tkX 7 17 ?_;refine tkX 8 18 ?_;refine tkX 9 19 ?_;refine tkX 10 20 ?_;refine tkZ 11 21 ?_;refine tkZ 12 22 ?_;refine tkZ 13 23 ?_;refine tkZ 14 24 ?_;refine tkZ 15 25 ?_;refine tkZ 16 26 ?_;refine tkZ 17 27 ?_;refine tkZ 18 28 ?_;refine tkZ 19 29 ?_;refine tkZ 20 30 ?_;refine tkZ 21 31 ?_;refine tkZ 22 32 ?_;refine tkX 23 33 ?_;refine tkX 24 34 ?_;simp only[sA,sB,sC];refine wpAnyH_done (by kernel_rfl) ?_ _;clear hHeld;have HB:=h_ (HB.out.trans (Below.refl _ _).drew);go_wp2;go_roundw
     case rel=>exact⟨1,by omega,by go_num,HN,HB.out⟩
     case measure=>simp[intOf];omega
    have hj:j<M.length:=by omega
    obtain⟨b2,off2,hbe,q0,-⟩:=pr_cells (HM.out.below HB.out) hj;cases hbe;obtain⟨m2,hm2⟩:=ex_ (M[j]);rw[hm2]at q0;have HMJ:=h_ (show M.getD j p00=m2 by rw[getD_at hj,hm2]);clear hm2
    have hwj:IntKind.i64.wrap (((j+1:Nat):Int)-1)=(j:Int):=by rw[IntKind.wrap_i64];omega
    have hwj2:IntKind.i64.wrap ((j:Int)+1-1)=(j:Int):=by rw[IntKind.wrap_i64];omega
    have hwj3:IntKind.i64.wrap (j:Int)=(j:Int):=by rw[IntKind.wrap_i64];omega
    have hj0:(0:Int)≤(j:Int):=by omega
    have hgt:(0:Int)<((j+1:Nat):Int):=by omega
    have hgt2:(0:Int)<(j:Int)+1:=by omega
    have hge2:(0:Int)≤(j:Int)+1:=by omega
    have hj':(j:Int)<(M.length:Int):=by omega
    obtain⟨lb,hlb⟩:=ex_ (Op.bytesLess m2.key m.key);have HLB:=h_ hlb;go_wp2_with fail;have HP0:=h_ p0;have HQ0:=h_ q0;refine wp_region_held_drew (S:=(fun w'=>Below wr.heap.size wr w')) (by kernel_rfl) ?_ (fun hHeld=>?_)
    ·exact(Below.refl _ _).drew
    refine tkX 0 10 ?_;refine tkX 1 11 ?_;refine tkX 2 12 ?_;refine tkX 3 13 ?_;refine tkY 4 (v:=?vv25) 14 ?yy25 ?_
    case yy25 =>
     intro wq hSw;have z0:=cell1_below HP0.out hSw;clear hSw;go_simp
     (try with_reducible rfl)
    simp only[sA,sB,sC];refine rd1 5 fun K hK=>?_;go_simp
    (refine(RKValid_any m.key _ hmk).mono ?_;rw[HKB.out];rintro er w1 ⟨rfl,rfl⟩)
    focus (try go_wp2_with fail)
    refine hK.out _ _ (hHeld) fun hHeld=>?_;clear hK K
    (try simp only[Act.put,sA,sB,sC])
    refine tkX 6 16 ?_;refine tkX 7 17 ?_;refine tkX 8 18 ?_;refine tkX 9 19 ?_;refine tkX 10 20 ?_;refine tkX 11 21 ?_;refine tkX 12 22 ?_;refine tkX 13 23 ?_;refine tkX 14 24 ?_;refine tkY 15 (v:=?vv35) 25 ?yy35 ?_
    case yy35 =>
     intro wq hSw;have z0:=cell1_below HP0.out hSw;clear hSw;go_simp
     (try with_reducible rfl)
    refine tkX 16 26 ?_;refine tkX 17 27 ?_;refine tkX 18 28 ?_;refine tkX 19 29 ?_;refine tkX 20 30 ?_;refine tkY 21 (v:=?vv41) 31 ?yy41 ?_
    case yy41 =>
     intro wq hSw;have z0:=cell1_below HQ0.out hSw;clear hSw;go_simp
     (try with_reducible rfl)
    simp only[sA,sB,sC];have hleq:=bl_leq HLB.out;refine takeH (i:=22) (v:=.bool (!lb)) 32 rfl rfl (by kernel_rfl) (by kernel_rfl) (by kernel_rfl) (fun _ _ _ h=>h) (Or.inl ⟨by kernel_rfl,?yyl⟩) (by assumption) ?_
    case yyl=>intro w hSw;clear hSw;go_simp
    simp only[sA,sB,sC];clear hleq;refine tkX 23 33 ?_;refine tkX 24 34 ?_;simp only[sA,sB,sC];refine wpAnyH_done (by kernel_rfl) ?_ _;clear hHeld;have HB:=h_ (HB.out.trans (Below.refl _ _).drew)
    cases lb with
    | true =>
     have HN:=h_ (rng_step HQ.out (show stpA M (j+1)=true by unfold stpA;rw[HMK.out,HKB.out,Nat.add_sub_cancel,HMJ.out,HLB.out];simp));go_wp2;go_roundw
     case rel=>exact⟨j+2,by omega,by go_num,HN,HB.out⟩
     case measure=>simp[intOf];omega
    | false =>
     have HF:=h_ (show R=false from HR.out.symm.trans (rng_bad hlt (by unfold stpA;rw[HMK.out,HKB.out,Nat.add_sub_cancel,HMJ.out,HLB.out];simp)));go_wp2;go_ret;exact⟨by rw[HF.out]<;>rfl,HB.out⟩
  ·have hlt':¬(k:Int)<(M.length:Int):=by omega
   have hkl:k=M.length:=by omega
   have HF:=h_ (show R=true from HR.out.symm.trans (by unfold ascP;rw[←hkl];exact HQ.out));clear hkl;go_wp2;go_ret;exact⟨by rw[HF.out]<;>rfl,HB.out⟩
theorem all_take{p:Pr→Bool}{M:List Pr}{k:Nat}(h:k<M.length)(hq:(M.take k).all p=true)(h2:p M[k]=true):(M.take (k+1)).all p=true:=by
 rw[List.take_succ_eq_append_getElem h,List.all_append,hq];simp[h2]
theorem all_miss{p:Pr→Bool}{M:List Pr}{k:Nat}(h:k<M.length)(h2:p M[k]=false):M.all p=false:=by
 rw[List.all_eq_false];exact⟨M[k],List.getElem_mem h,by rw[h2];simp⟩
def vaP (p:Pr):Bool:=vaB p.v
theorem any_next6{p:Pr→Bool}{M:List Pr}{k:Nat}(h:k<M.length)(hq:(M.take k).any p=false)(h2:p M[k]=false):(M.take (k+1)).any p=false:=by
 rw[List.take_succ_eq_append_getElem h,List.any_append,hq];simp[h2]
theorem any_hit6{p:Pr→Bool}{M:List Pr}{k:Nat}(h:k<M.length)(h2:p M[k]=true):M.any p=true:=by
 rw[List.any_eq_true];exact⟨M[k],List.getElem_mem h,h2⟩
theorem RVW06_any(a:Option Addr)(cap:Nat)(M:List Pr)(w:World)(hl:M.length≤9000000000000)(hx:∀p∈M,p.key.length≤9223372036854775807∧p.v.s.length≤9223372036854775807)(hM:CellsAt w (.slice a M.length cap) M.length (prLs M)):
  Calls prog 31 #[.slice a M.length cap] w fun e w'=>e=.returned (.bool (srtB M))∧Below w.heap.size w w':=by
 obtain⟨R,hR⟩:=ex_ (srtB M);rw[hR];have HR:=h_ ((srt_asc M).symm.trans hR);have HM:=h_ hM;have HX:=h_ hx;clear hR hM hx;go_enter func31,ntmps31;go_wp2;go_loopw [3] (fun i wr=>∃k:Nat,k≤M.length∧i=.int .i64 k∧Hid ((M.take k).all vaP=true)∧Below w.heap.size w wr) (fun i _=>M.length-(intOf i).toNat)
 case atStart=>exact⟨0,Nat.zero_le _,by first|exact True.intro|rfl,h_ rfl,Below.refl _ _⟩
 case round =>
  obtain⟨k,hk,rfl,HQ,hB⟩:=hrel;have HB:=h_ hB;clear hB;by_cases hlt:k<M.length
  ·have hlt':(k:Int)<(M.length:Int):=by omega
   have hkb:(0:Int)≤(k:Int)∧(k:Int)<(M.length:Int):=⟨by omega,by omega⟩
   have hw1:IntKind.i64.wrap ((k:Int)+1)=(k:Int)+1:=by rw[IntKind.wrap_i64];omega
   obtain⟨b,off,rfl,p0,p1,p2,p3⟩:=pr_cells (HM.out.below HB.out) hlt;obtain⟨m,hm⟩:=ex_ (M[k]);rw[hm]at p0 p1 p2 p3
   have hml:m.v.s.length≤9223372036854775807:=by have:=(HX.out _ (List.getElem_mem hlt)).2;rw[hm]at this;exact this
   have HMK:=h_ hm;clear hm;obtain⟨vb,hvb⟩:=ex_ (vaB m.v);have HVB:=h_ hvb;clear hvb;go_wp2_with fail;refine(RVValid_any m.v hml _).mono ?_;rw[HVB.out];rintro er w1 ⟨rfl,hb1⟩;have HB:=bt HB hb1;clear hb1 p0 p1 p2 p3
   cases vb with
   | false =>
    have HF:=h_ (show R=false from HR.out.symm.trans (by rw[show (fun p:Pr=>vaB p.v)=vaP from rfl,all_miss hlt (show vaP M[k]=false by rw[HMK.out];exact HVB.out)];simp));go_wp2;go_ret;exact⟨by rw[HF.out]<;>rfl,HB.out⟩
   | true =>
    have HN:=h_ (all_take hlt HQ.out (show vaP M[k]=true by rw[HMK.out];exact HVB.out));go_wp2;go_roundw
    case rel=>exact⟨k+1,by omega,by go_num,HN,HB.out⟩
    case measure=>simp[intOf];omega
  ·have hlt':¬(k:Int)<(M.length:Int):=by omega
   have HA:=h_ (show ascP M=R from(show (ascP M && M.all vaP)=ascP M by have h:=HQ.out;rw[List.take_of_length_le (by omega)]at h;rw[h,Bool.and_true]).symm.trans HR.out);go_wp2_with fail;refine(Rasc06_any a cap M _ hl HX.out (HM.out.below HB.out)).mono ?_;rw[HA.out];rintro er w1 ⟨rfl,hb1⟩;have HB:=bt HB hb1;clear hb1;go_wp2;go_ret;exact⟨rfl,HB.out⟩
theorem RSV06_any(a:Option Addr)(cap:Nat)(M:List Pr)(w:World)(hl:M.length≤9000000000000)(hx:∀p∈M,p.key.length≤9223372036854775807∧p.v.s.length≤9223372036854775807)(hM:CellsAt w (.slice a M.length cap) M.length (prLs M)):
  Calls prog 15 #[.slice a M.length cap] w fun e w'=>e=.returned (.bool (stB M))∧Below w.heap.size w w':=by
 obtain⟨R,hR⟩:=ex_ (stB M);rw[hR];have HR:=h_ hR;have HM:=h_ hM;have HX:=h_ hx;clear hR hM hx;go_enter func15,ntmps15;go_wp2;go_loopw [3] (fun i wr=>∃k:Nat,k≤M.length∧i=.int .i64 k∧Hid ((M.take k).any absB=false)∧wr=w) (fun i _=>M.length-(intOf i).toNat)
 case atStart=>exact⟨0,Nat.zero_le _,by first|exact True.intro|rfl,h_ rfl,by first|exact True.intro|rfl⟩
 case round =>
  obtain⟨k,hk,rfl,HQ,rfl⟩:=hrel;by_cases hlt:k<M.length
  ·have hlt':(k:Int)<(M.length:Int):=by omega
   have hkb:(0:Int)≤(k:Int)∧(k:Int)<(M.length:Int):=⟨by omega,by omega⟩
   have hw1:IntKind.i64.wrap ((k:Int)+1)=(k:Int)+1:=by rw[IntKind.wrap_i64];omega
   obtain⟨b,off,rfl,p0,p1,p2,p3⟩:=pr_cells HM.out hlt;obtain⟨m,hm⟩:=ex_ (M[k]);rw[hm]at p0 p1 p2 p3;have HMK:=h_ hm;clear hm;by_cases h0:m.v.k=0
   ·have t0:(m.v.k==0)=true:=by rw[h0];rfl
    have HF:=h_ (show R=false from HR.out.symm.trans (by unfold stB;rw[any_hit6 hlt (show absB M[k]=true by rw[HMK.out];exact decide_eq_true h0)];simp));clear h0;go_wp2;go_ret;exact⟨by rw[HF.out]<;>rfl,Below.refl _ _⟩
   have t0:(m.v.k==0)=false:=by rw[beq_eq_false_iff_ne];exact h0
   have HN:=h_ (any_next6 hlt HQ.out (show absB M[k]=false by rw[HMK.out];exact decide_eq_false h0));clear h0;go_wp2;go_roundw
   case rel=>exact⟨k+1,by omega,by go_num,HN,by first|exact True.intro|rfl⟩
   case measure=>simp[intOf];omega
  ·have hlt':¬(k:Int)<(M.length:Int):=by omega
   have HA:=h_ (show srtB M=R from(show stB M=srtB M by unfold stB;have h:=HQ.out;rw[List.take_of_length_le (by omega)]at h;rw[h];simp).symm.trans HR.out);go_wp2_with fail;refine(RVW06_any a cap M _ hl HX.out HM.out).mono ?_;rw[HA.out];rintro er w1 ⟨rfl,hb1⟩;go_wp2;go_ret;exact⟨rfl,hb1⟩
def WithPost (B:Nat) (v:Value) (M:List (List UInt8)) (w:World) (e:Ending) (w':World):Prop:=
 ∃v',e=.returned v'∧w'.ownsRow B 9 1 v' M.length (M.map strV)∧w.grownBy w' v.ownBlock∧(v'.ownBlock=v.ownBlock∨∃b,v'.ownBlock=some b∧w.heap.size≤b)
theorem putK_len(L:List (List UInt8))(i:Nat)(k:List UInt8)(h:i≤L.length):(putK L i k).length=L.length+1:=by unfold putK;simp;omega
theorem own_drewN{B n k q:Nat}{e:TypeId}{v:Value}{xs:List Value}{w:World}(h:w.ownsRow B e k v n xs):(w.drewN q).ownsRow B e k v n xs:=h
theorem vwith_any(B:Nat)(v:Value)(L:List (List UInt8))(k:List UInt8)(w:World)(hs:SortK L)(hown:w.ownsRow B 9 1 v L.length (L.map strV))(hB:B≤w.heap.size)(hl:L.length≤1000000000000):
  Calls prog 94 #[v,.string (bs k)] w (WithPost B v (withK L k) w):=by
 have HO:=h_ hown;have HS:=h_ hs;clear hs;rcases own_strs hown with ⟨rfl,rfl⟩|⟨g,cap,rfl,hg,hc⟩
 ·clear hown
  go_enter func94,ntmps94;go_wp2_with fail;refine(Any2.slices_BinarySearch_string_empty Tryz.lays2_26_laid none 0 (bs k) _).mono ?_;rintro er w1 ⟨rfl,rfl⟩;have HX:=h_ (Bx.new w1 #[strV k] 9);have HO:=h_ (HO.out.alloc (.cells #[strV k] 9));have HG:=h_ (World.grownBy_alloc w1 (.cells #[strV k] 9) none);go_wp2_with fail;refine(insRow_any B (.slice none 0 0) [] k 0 (Nat.le_refl _) _ w1.heap.size HO.out (by simp;omega) HX.out (by simp[Value.ownBlock]) (by simp)).mono ?_;rintro er w2 ⟨v',rfl,ho,hgr,hov⟩;have hfin:WithPost B (.slice none 0 0) (withK [] k) w1 (.returned v') w2:=⟨_,rfl,ho,HG.out.trans hgr,hov.imp id (fun h=>⟨_,h,by simp⟩)⟩;have HFIN:=h_ hfin;clear ho hgr hov hfin;go_wp2;go_ret;exact HFIN.out
 ·obtain⟨p,hp⟩:=ex_ (posK L k)
  obtain⟨fb,hfb⟩:=ex_ (fndK L k)
  have hpl:p≤L.length:=by rw[←hp];exact pos_le L k
  have HP:=h_ hp;have HF:=h_ hfb;have HC:=h_ hc;clear hp hfb hc hown;go_enter func94,ntmps94;go_wp2_with fail;refine(BSearch_any g cap L k _ HS.out HC.out hl).mono ?_;rw[HP.out,HF.out];rintro er w1 ⟨rfl,q,rfl⟩;have HO:=h_ (own_drewN (q:=q) HO.out);have HG:=h_ (grown_drewN w q (some g));have hBq:B≤(w.drewN q).heap.size:=hB;have hgq:g<(w.drewN q).heap.size:=(HO.out.lt g rfl).2;have hsz:w.heap.size=(w.drewN q).heap.size:=rfl;generalize hW:w.drewN q=v1 at HO HG hBq hgq hsz ⊢;clear hW
  cases fb with
  | true =>
   have hfin:WithPost B (.slice (some ⟨g,0,none⟩) L.length cap) (withK L k) w (.returned (.slice (some ⟨g,0,none⟩) L.length cap)) v1:=⟨_,rfl,by unfold withK;rw[if_pos HF.out];exact HO.out,HG.out,.inl rfl⟩;have HFIN:=h_ hfin;clear hfin;go_wp2;go_ret;exact HFIN.out
  | false =>
   have HX:=h_ (Bx.new v1 #[strV k] 9);have HO:=h_ (HO.out.alloc (.cells #[strV k] 9));have HG:=h_ (HG.out.trans (World.grownBy_alloc v1 (.cells #[strV k] 9) (some g)));go_wp2_with fail;refine(insRow_any B (.slice (some ⟨g,0,none⟩) L.length cap) L k p hpl _ v1.heap.size HO.out (by simp;omega) HX.out (by simp[Value.ownBlock];omega) hl).mono ?_;rintro er w2 ⟨v',rfl,ho,hgr,hov⟩;have hfin:WithPost B (.slice (some ⟨g,0,none⟩) L.length cap) (withK L k) w (.returned v') w2:=⟨_,rfl,by unfold withK;rw[if_neg (by rw[HF.out];simp),HP.out,putK_len _ _ _ hpl];exact ho,HG.out.trans hgr,hov.imp id (fun h=>⟨_,h,by simp;omega⟩)⟩;have HFIN:=h_ hfin;clear ho hgr hov hfin;go_wp2;go_ret;exact HFIN.out
theorem iwith_any(B:Nat)(v:Value)(L:List (List UInt8))(k:List UInt8)(w:World)(hs:SortK L)(hown:w.ownsRow B 9 1 v L.length (L.map strV))(hB:B≤w.heap.size)(hl:L.length≤1000000000000):
  Calls prog 175 #[v,.string (bs k)] w (WithPost B v (withK L k) w):=by
 have HO:=h_ hown;have HS:=h_ hs;clear hs;rcases own_strs hown with ⟨rfl,rfl⟩|⟨g,cap,rfl,hg,hc⟩
 ·clear hown
  go_enter func175,ntmps175;go_wp2_with fail;refine(Any2.slices_BinarySearch_string_empty Tryz.lays2_26_laid none 0 (bs k) _).mono ?_;rintro er w1 ⟨rfl,rfl⟩;have HX:=h_ (Bx.new w1 #[strV k] 9);have HO:=h_ (HO.out.alloc (.cells #[strV k] 9));have HG:=h_ (World.grownBy_alloc w1 (.cells #[strV k] 9) none);go_wp2_with fail;refine(insRow_any B (.slice none 0 0) [] k 0 (Nat.le_refl _) _ w1.heap.size HO.out (by simp;omega) HX.out (by simp[Value.ownBlock]) (by simp)).mono ?_;rintro er w2 ⟨v',rfl,ho,hgr,hov⟩;have hfin:WithPost B (.slice none 0 0) (withK [] k) w1 (.returned v') w2:=⟨_,rfl,ho,HG.out.trans hgr,hov.imp id (fun h=>⟨_,h,by simp⟩)⟩;have HFIN:=h_ hfin;clear ho hgr hov hfin;go_wp2;go_ret;exact HFIN.out
 ·obtain⟨p,hp⟩:=ex_ (posK L k)
  obtain⟨fb,hfb⟩:=ex_ (fndK L k)
  have hpl:p≤L.length:=by rw[←hp];exact pos_le L k
  have HP:=h_ hp;have HF:=h_ hfb;have HC:=h_ hc;clear hp hfb hc hown;go_enter func175,ntmps175;go_wp2_with fail;refine(BSearch_any g cap L k _ HS.out HC.out hl).mono ?_;rw[HP.out,HF.out];rintro er w1 ⟨rfl,q,rfl⟩;have HO:=h_ (own_drewN (q:=q) HO.out);have HG:=h_ (grown_drewN w q (some g));have hBq:B≤(w.drewN q).heap.size:=hB;have hgq:g<(w.drewN q).heap.size:=(HO.out.lt g rfl).2;have hsz:w.heap.size=(w.drewN q).heap.size:=rfl;generalize hW:w.drewN q=v1 at HO HG hBq hgq hsz ⊢;clear hW
  cases fb with
  | true =>
   have hfin:WithPost B (.slice (some ⟨g,0,none⟩) L.length cap) (withK L k) w (.returned (.slice (some ⟨g,0,none⟩) L.length cap)) v1:=⟨_,rfl,by unfold withK;rw[if_pos HF.out];exact HO.out,HG.out,.inl rfl⟩;have HFIN:=h_ hfin;clear hfin;go_wp2;go_ret;exact HFIN.out
  | false =>
   have HX:=h_ (Bx.new v1 #[strV k] 9);have HO:=h_ (HO.out.alloc (.cells #[strV k] 9));have HG:=h_ (HG.out.trans (World.grownBy_alloc v1 (.cells #[strV k] 9) (some g)));go_wp2_with fail;refine(insRow_any B (.slice (some ⟨g,0,none⟩) L.length cap) L k p hpl _ v1.heap.size HO.out (by simp;omega) HX.out (by simp[Value.ownBlock];omega) hl).mono ?_;rintro er w2 ⟨v',rfl,ho,hgr,hov⟩;have hfin:WithPost B (.slice (some ⟨g,0,none⟩) L.length cap) (withK L k) w (.returned v') w2:=⟨_,rfl,by unfold withK;rw[if_neg (by rw[HF.out];simp),HP.out,putK_len _ _ _ hpl];exact ho,HG.out.trans hgr,hov.imp id (fun h=>⟨_,h,by simp;omega⟩)⟩;have HFIN:=h_ hfin;clear ho hgr hov hfin;go_wp2;go_ret;exact HFIN.out
def entP (e:MapEntry) (p:Pr):Prop:=e.key=.string (bs p.key)∧e.val=.agg (vV p.v)
inductive Ents:List MapEntry→List Pr→Prop
 | nil:Ents [] []
 | cons {e p es L}:entP e p→Ents es L→Ents (e::es) (p::L)
theorem Ents.snoc{es:List MapEntry}{L:List Pr}{e:MapEntry}{p:Pr}(h:Ents es L)(he:entP e p):Ents (es++[e]) (L++[p]):=by
 induction h with
 | nil=>exact .cons he .nil
 | cons h1 _ ih=>exact .cons h1 ih
def Mp (m:Nat) (L:List Pr) (W:World):Prop:=∃es clock,W.heap[m]? = some (.map es clock)∧Ents es.toList L
theorem Mp.lt{m:Nat}{L:List Pr}{W:World}(h:Mp m L W):m<W.heap.size:=by obtain⟨_,_,h,_⟩:=h;exact lt_heap h
theorem Mp.new(w:World):Mp w.heap.size [] (w.alloc (.map #[] 0)):=⟨#[],0,heap_alloc_new w _,.nil⟩
theorem Mp.kept{m:Nat}{L:List Pr}{W W':World}{row:Option Nat}(h:Mp m L W)(hg:W.grownBy W' row)(hne:row≠some m):Mp m L W':=by
 have hl:=h.lt;obtain⟨es,c,h1,h2⟩:=h;exact⟨es,c,(hg.block m hl (fun e=>hne e.symm)).trans h1,h2⟩
theorem Mp.call{m:Nat}{L:List Pr}{W W':World}(h:Mp m L W)(hb:Below W.heap.size W W'):Mp m L W':=by
 have hl:=h.lt;obtain⟨es,c,h1,h2⟩:=h;exact⟨es,c,(hb.block _ hl).trans h1,h2⟩
theorem bs_beq(a b:List UInt8):(bs a==bs b)=(a==b):=by
 by_cases h:a=b
 ·subst h
  have:(bs a==bs a)=true:=by show ((bs a).data==(bs a).data)=true;exact beq_self_eq_true _
  rw[this];exact(beq_self_eq_true a).symm
 ·have:(bs a==bs b)=false:=by
   show ((bs a).data==(bs b).data)=false;rw[beq_eq_false_iff_ne];intro e;exact h (bs_inj (by cases ha:bs a;cases hb:bs b;rw[ha,hb]at e;simp only at e;rw[e]))
  rw[this];exact(beq_eq_false_iff_ne.2 h).symm
theorem getM{m:Nat}{es:Array MapEntry}{c:Nat}{W:World}(h:W.heap[m]? = some (.map es c)):(getObj m).run prog W=.ok (.map es c) W:=by simp[getObj,Sem.run,h]
theorem setM{m:Nat}{es:Array MapEntry}{c:Nat}{W:World}(o:Obj)(h:W.heap[m]? = some (.map es c)):(setObj m o).run prog W=.ok () { W with heap:=W.heap.setIfInBounds m o }:=by simp[setObj,Sem.run,h]
theorem findNow_ents(k:List UInt8):∀{es:List MapEntry} {L:List Pr},Ents es L→∀i,∃r,Instr.findNow .string (.string (bs k)) es i=some r∧match r with
  | some (_,v)=>hasK L k=true∧v=.agg (vV (getP L k))
  | none=>hasK L k=false
 | _,_,.nil,i=>⟨none,rfl,rfl⟩
 | _,_,.cons (e:=e) (p:=p) (es:=es) (L:=L) he h,i=>by
  obtain⟨h1,h2⟩:=he
  have hq:Instr.sameNow .string (.string (bs k)) e.key=some (k==p.key):=by rw[h1];show some (bs k==bs p.key)=_;rw[bs_beq]
  by_cases hk:p.key=k
  ·have hb:(k==p.key)=true:=by rw[hk];exact beq_self_eq_true _
   refine⟨some (i,e.val),by simp only[Instr.findNow,hq,hb],?_,?_⟩
   ·unfold hasK;simp[hk]
   ·rw[h2,getP_cons,if_pos hk]
  ·have hb:(k==p.key)=false:=by rw[beq_eq_false_iff_ne];exact fun e=>hk e.symm
   obtain⟨r,hr,hm⟩:=findNow_ents k h (i+1);refine⟨r,by simp only[Instr.findNow,hq,hb];exact hr,?_⟩
   have e1:hasK (p::L) k=hasK L k:=by unfold hasK;simp[Ne.symm hk]
   have e2:getP (p::L) k=getP L k:=by rw[getP_cons,if_neg hk]
   rw[e1,e2];exact hm
theorem key_ok(b:Bool)(k:ByteArray)(W:World):(Instr.checkKey b 10000 9 (.string k)).run prog W=.ok () W:=by
 rw[show (10000:Nat)=9999+1 from rfl];unfold Instr.checkKey;simp[go_sem]
theorem zero_val(W:World):(zeroValue 52).run prog W=.ok (.agg #[.int .i64 0,.int .i64 0,.string ⟨#[]⟩]) W:=by simp[go_sem]
theorem run_look{m:Nat}{L:List Pr}{W:World}(h:Mp m L W)(k:List UInt8):
  (Instr.lookup 141 (.map (some m)) (.string (bs k)) true).run prog W=.ok (.tuple #[.agg (vV (getP L k)),.bool (hasK L k)]) W:=by
 obtain⟨es,c,h1,h2⟩:=h;obtain⟨r,hr,hm⟩:=findNow_ents k h2 0
 have hf:(Instr.findKey 9 (.string (bs k)) es.toList).run prog W=.ok r W:=by
  unfold Instr.findKey;simp[go_sem,hr]
 unfold Instr.lookup;simp only[Sem.run_bind,run_underlying underlying141,Result.andThen_ok,getM h1,Sem.run_pure,key_ok,hf]
 cases r with
 | none =>
  simp only at hm;have hn:getP L k=v00:=getP_none L (fun q=>by rw[hasK,List.contains_iff_mem.2 q]at hm;cases hm);simp only[Sem.run_bind,Result.andThen_ok,Sem.run_pure,zero_val,hn,hm];rfl
 | some iv =>
  obtain⟨i,v⟩:=iv;simp only at hm;simp only[Sem.run_bind,Result.andThen_ok,Sem.run_pure,hm.1,hm.2];rfl
theorem run_put{m:Nat}{L:List Pr}{W:World}(h:Mp m L W)(p:Pr)(hn:hasK L p.key=false):
  ∃W',(Instr.mapUpdate 141 (.map (some m)) (.string (bs p.key)) (.agg (vV p.v))).run prog W=.ok () W'∧Mp m (L++[p]) W'∧W.grownBy W' (some m):=by
 obtain⟨es,c,h1,h2⟩:=h;obtain⟨r,hr,hm⟩:=findNow_ents p.key h2 0
 have hr0:r=none:=by
  cases r with
  | none=>rfl
  | some iv=>obtain⟨i,v⟩:=iv;simp only at hm;rw[hn]at hm;cases hm.1
 subst hr0
 have hf:(Instr.findKey 9 (.string (bs p.key)) es.toList).run prog W=.ok none W:=by
  unfold Instr.findKey;simp[go_sem,hr]
 have hl:=lt_heap h1;refine⟨{ W with heap:=W.heap.setIfInBounds m (.map (es.push { key:=.string (bs p.key),val:=.agg (vV p.v),born:=c }) (c+1)) },?_,⟨es.push { key:=.string (bs p.key),val:=.agg (vV p.v),born:=c },c+1,?_,?_⟩,?_⟩
 ·unfold Instr.mapUpdate
  simp only[Sem.run_bind,run_underlying underlying141,Result.andThen_ok,getM h1,key_ok,hf];exact setM _ h1
 ·simp[hl]
 ·rw[Array.toList_push];exact h2.snoc ⟨rfl,rfl⟩
 ·exact⟨rfl,rfl,rfl,by simp,fun k hk hne=>by simp[show m≠k from fun e=>hne (by rw[e])]⟩
theorem Mp.k{m:Nat}{L:List Pr}{W W':World}(h:Mp m L W)(hb:Below W.heap.size W W'):Hid (Mp m L W'):=Lib.hid (h.call hb)
theorem iabort_any(c:Int)(w:World):
  Calls prog 139 #[.int .i64 c] w fun e w'=>e=.panicked [stopE 2 c []]∧w'=w:=by
 go_enter func139,ntmps139;go_wp2;exact⟨rfl,rfl,rfl⟩
theorem irestart_any(k:List UInt8)(w:World):
  Calls prog 174 #[.string (bs k)] w fun e w'=>e=.panicked [stopE 3 0 k]∧w'=w:=by
 go_enter func174,ntmps174;go_wp2;exact⟨rfl,rfl,rfl⟩
theorem must_yes(w:World):
  Calls prog 136 #[.bool true] w fun e w'=>e=.returned (.tuple #[])∧w'=w:=by
 go_enter func136,ntmps136;go_wp2
 go_end0
 exact⟨rfl,rfl⟩
theorem must_no(w:World):
  Calls prog 136 #[.bool false] w fun e w'=>e=.panicked [stopE 2 1009 []]∧w'=w:=by
 go_enter func136,ntmps136;go_wp2_with fail;refine(iabort_any 1009 _).mono ?_;rintro er w1 ⟨rfl,rfl⟩;go_wp2;exact⟨rfl,rfl,rfl⟩
theorem integer_any(n:Int)(w:World):
  Calls prog 135 #[.int .i64 n] w fun e w'=>e=endR (.ok (numV n))∧Below w.heap.size w w':=by
 obtain⟨v0,hW0,hb0,hr0⟩:=boxes1 w #[.int .i64 0,.int .i64 0,.string ⟨#[]⟩] 52;have HW:=h_ hW0;have HB:=h_ hb0;have HRB:=h_ hr0;clear hW0 hb0 hr0;go_enter func135,ntmps135;go_upto_region 1 with (fail);rw[HW.out];clear HW;go_wp2_with (refine HRB.out.wa (#[.int .i64 1,.int .i64 n,.string ⟨#[]⟩]) ?_);intro W9 HRB p9;have HB:=pb HB p9;clear p9;go_wp2;exact HRB.out.r1 underlying52 ⟨rfl,HB.out⟩
theorem itruth_any(b:Bool)(w:World):
  Calls prog 158 #[.bool b] w fun e w'=>e=endR (.ok (truV b))∧Below w.heap.size w w':=by
 obtain⟨v0,hW0,hb0,hr0⟩:=boxes1 w #[.int .i64 0,.int .i64 0,.string ⟨#[]⟩] 52;have HW:=h_ hW0;have HB:=h_ hb0;have HRB:=h_ hr0;clear hW0 hb0 hr0;go_enter func158,ntmps158;go_upto_region 1 with (fail);rw[HW.out];clear HW
 cases b with
 | true =>
  go_wp2_with (refine HRB.out.wa (#[.int .i64 3,.int .i64 1,.string ⟨#[]⟩]) ?_);intro W9 HRB p9;have HB:=pb HB p9;clear p9;go_wp2;exact HRB.out.r1 underlying52 ⟨rfl,HB.out⟩
 | false =>
  go_wp2_with (refine HRB.out.wa (#[.int .i64 3,.int .i64 0,.string ⟨#[]⟩]) ?_);intro W9 HRB p9;have HB:=pb HB p9;clear p9;go_wp2;exact HRB.out.r1 underlying52 ⟨rfl,HB.out⟩
theorem itext_any(s:List UInt8)(hs:s.length≤9223372036854775807)(w:World):
  Calls prog 159 #[.string (bs s)] w fun e w'=>e=endR (txS s)∧Below w.heap.size w w':=by
 obtain⟨v0,hW0,hb0,hr0⟩:=boxes1 w #[.int .i64 0,.int .i64 0,.string ⟨#[]⟩] 52;have HW:=h_ hW0;have HB:=h_ hb0;have HRB:=h_ hr0;clear hW0 hb0 hr0;go_enter func159,ntmps159;go_upto_region 1 with (fail);rw[HW.out];clear HW;by_cases h:64<s.length
 ·have h':(64:Int)<(s.length:Int):=by omega
  have HT:=h_ (show txS s=.ab 1006 from if_pos h);go_wp2_with fail;refine(iabort_any 1006 _).mono ?_;rintro er w1 ⟨rfl,rfl⟩;go_wp2;exact⟨rfl,by rw[HT.out]<;>rfl,HB.out⟩
 have h':¬(64:Int)<(s.length:Int):=by omega
 have HT:=h_ (show txS s=.ok (strVl s) from if_neg h);clear h;go_wp2_with (refine HRB.out.wa (#[.int .i64 2,.int .i64 0,.string (bs s)]) ?_);intro W9 HRB p9;have HB:=pb HB p9;clear p9;go_wp2;exact HRB.out.r1 underlying52 ⟨by rw[HT.out]<;>rfl,HB.out⟩
theorem exact_any(n e:Int)(w:World):
  Calls prog 156 #[.int .i64 n,.int .i64 e] w fun E w'=>E=endR (exS (n,e))∧Below w.heap.size w w':=by
 obtain⟨v0,hW0,hb0,hr0⟩:=boxes1 w #[.int .i64 0,.int .i64 0,.string ⟨#[]⟩] 52;have HW:=h_ hW0;have HB:=h_ hb0;have HRB:=h_ hr0;clear hW0 hb0 hr0;go_enter func156,ntmps156;go_upto_region 1 with (fail);rw[HW.out];clear HW;by_cases h0:e=0
 ·subst h0
  have HT:=h_ (show exS (n,0)=.ok (numV n) from if_pos rfl);go_wp2_with fail;refine(integer_any n _).mono ?_;rintro er w1 ⟨rfl,hb1⟩;have HRB:=HRB.out.k hb1;have HB:=bt HB hb1;clear hb1;simp only[endR,vV,numV];go_wp2_with (refine HRB.out.wa (#[.int .i64 1,.int .i64 n,.string (bs [])]) ?_);intro W9 HRB p9;have HB:=pb HB p9;clear p9;go_wp2;exact HRB.out.r1 underlying52 ⟨by rw[HT.out]<;>rfl,HB.out⟩
 have t0:(e==0)=false:=by rw[beq_eq_false_iff_ne];exact h0
 by_cases h4:e=4
 ·have HT:=h_ (show exS (n,e)=.ab 1002 by unfold exS;rw[if_neg h0,if_pos h4])
  have t4:(e==4)=true:=by rw[h4];rfl
  clear h0 h4;go_wp2_with fail;refine(iabort_any 1002 _).mono ?_;rintro er w1 ⟨rfl,rfl⟩;go_wp2;exact⟨rfl,by rw[HT.out]<;>rfl,HB.out⟩
 have t4:(e==4)=false:=by rw[beq_eq_false_iff_ne];exact h4
 have HT:=h_ (show exS (n,e)=.ab 1001 by unfold exS;rw[if_neg h0,if_neg h4]);clear h0 h4;go_wp2_with fail;refine(iabort_any 1001 _).mono ?_;rintro er w1 ⟨rfl,rfl⟩;go_wp2;exact⟨rfl,by rw[HT.out]<;>rfl,HB.out⟩
theorem arith_any(op a b:Int)(w:World)(ha1:-9223372036854775808≤a)(ha2:a≤9223372036854775807)(hb1:-9223372036854775808≤b)(hb2:b≤9223372036854775807):
  Calls prog 162 #[.int .i64 op,.int .i64 a,.int .i64 b] w fun E w'=>E=endR (exS (ariS op a b))∧Below w.heap.size w w':=by
 obtain⟨R,hR⟩:=ex_ (exS (ariS op a b));rw[hR];obtain⟨v0,hW0,hb0,hr0⟩:=boxes1 w #[.int .i64 0,.int .i64 0,.string ⟨#[]⟩] 52;have HW:=h_ hW0;have HB:=h_ hb0;have HRB:=h_ hr0;clear hW0 hb0 hr0;go_enter func162,ntmps162;go_upto_region 1 with (fail);rw[HW.out];clear HW;by_cases h4:op=4
 ·have t4:(op==4)=true:=by rw[h4];rfl
  obtain⟨⟨n,e⟩,hx⟩:∃x,addS a b=x:=⟨_,rfl⟩;have HX:=h_ hx;have HE:=h_ (show exS (n,e)=R by rw[←hR,←hx];unfold ariS;rw[if_pos h4]);clear hx hR h4;go_wp2_with fail;refine(Add_any a b _ ha1 ha2 hb1 hb2).mono ?_;rw[HX.out];rintro er w1 ⟨rfl,rfl⟩;go_wp2_with fail;refine(exact_any n e _).mono ?_;rw[HE.out];rintro er w2 ⟨rfl,hb2⟩;have HRB:=HRB.out.k hb2;have HB:=bt HB hb2;clear hb2;rcases R with v|c|q
  ·simp only[endR,vV]
   go_wp2_with (refine HRB.out.wa (#[.int .i64 v.k,.int .i64 v.n,.string (bs v.s)]) ?_);intro W9 HRB p9;have HB:=pb HB p9;clear p9;go_wp2;exact HRB.out.r1 underlying52 ⟨rfl,HB.out⟩
  ·simp only[endR]
   go_wp2;exact⟨rfl,rfl,HB.out⟩
  ·simp only[endR]
   go_wp2;exact⟨rfl,rfl,HB.out⟩
 have t4:(op==4)=false:=by rw[beq_eq_false_iff_ne];exact h4
 by_cases h5:op=5
 ·have t5:(op==5)=true:=by rw[h5];rfl
  obtain⟨⟨n,e⟩,hx⟩:∃x,subS a b=x:=⟨_,rfl⟩;have HX:=h_ hx;have HE:=h_ (show exS (n,e)=R by rw[←hR,←hx];unfold ariS;rw[if_neg h4,if_pos h5]);clear hx hR h4 h5;go_wp2_with fail;refine(Sub_any a b _ ha1 ha2 hb1 hb2).mono ?_;rw[HX.out];rintro er w1 ⟨rfl,rfl⟩;go_wp2_with fail;refine(exact_any n e _).mono ?_;rw[HE.out];rintro er w2 ⟨rfl,hb2⟩;have HRB:=HRB.out.k hb2;have HB:=bt HB hb2;clear hb2;rcases R with v|c|q
  ·simp only[endR,vV]
   go_wp2_with (refine HRB.out.wa (#[.int .i64 v.k,.int .i64 v.n,.string (bs v.s)]) ?_);intro W9 HRB p9;have HB:=pb HB p9;clear p9;go_wp2;exact HRB.out.r1 underlying52 ⟨rfl,HB.out⟩
  ·simp only[endR]
   go_wp2;exact⟨rfl,rfl,HB.out⟩
  ·simp only[endR]
   go_wp2;exact⟨rfl,rfl,HB.out⟩
 have t5:(op==5)=false:=by rw[beq_eq_false_iff_ne];exact h5
 by_cases h6:op=6
 ·have t6:(op==6)=true:=by rw[h6];rfl
  obtain⟨⟨n,e⟩,hx⟩:∃x,mulS a b=x:=⟨_,rfl⟩;have HX:=h_ hx;have HE:=h_ (show exS (n,e)=R by rw[←hR,←hx];unfold ariS;rw[if_neg h4,if_neg h5,if_pos h6]);clear hx hR h4 h5 h6;go_wp2_with fail;refine(Mul_any a b _ ha1 ha2 hb1 hb2).mono ?_;rw[HX.out];rintro er w1 ⟨rfl,rfl⟩;go_wp2_with fail;refine(exact_any n e _).mono ?_;rw[HE.out];rintro er w2 ⟨rfl,hb2⟩;have HRB:=HRB.out.k hb2;have HB:=bt HB hb2;clear hb2;rcases R with v|c|q
  ·simp only[endR,vV]
   go_wp2_with (refine HRB.out.wa (#[.int .i64 v.k,.int .i64 v.n,.string (bs v.s)]) ?_);intro W9 HRB p9;have HB:=pb HB p9;clear p9;go_wp2;exact HRB.out.r1 underlying52 ⟨rfl,HB.out⟩
  ·simp only[endR]
   go_wp2;exact⟨rfl,rfl,HB.out⟩
  ·simp only[endR]
   go_wp2;exact⟨rfl,rfl,HB.out⟩
 have t6:(op==6)=false:=by rw[beq_eq_false_iff_ne];exact h6
 by_cases h7:op=7
 ·have t7:(op==7)=true:=by rw[h7];rfl
  obtain⟨⟨n,e⟩,hx⟩:∃x,divS a b=x:=⟨_,rfl⟩;have HX:=h_ hx;have HE:=h_ (show exS (n,e)=R by rw[←hR,←hx];unfold ariS;rw[if_neg h4,if_neg h5,if_neg h6,if_pos h7]);clear hx hR h4 h5 h6 h7;go_wp2_with fail;refine(Div_any a b _ ha1 ha2 hb1 hb2).mono ?_;rw[HX.out];rintro er w1 ⟨rfl,rfl⟩;go_wp2_with fail;refine(exact_any n e _).mono ?_;rw[HE.out];rintro er w2 ⟨rfl,hb2⟩;have HRB:=HRB.out.k hb2;have HB:=bt HB hb2;clear hb2;rcases R with v|c|q
  ·simp only[endR,vV]
   go_wp2_with (refine HRB.out.wa (#[.int .i64 v.k,.int .i64 v.n,.string (bs v.s)]) ?_);intro W9 HRB p9;have HB:=pb HB p9;clear p9;go_wp2;exact HRB.out.r1 underlying52 ⟨rfl,HB.out⟩
  ·simp only[endR]
   go_wp2;exact⟨rfl,rfl,HB.out⟩
  ·simp only[endR]
   go_wp2;exact⟨rfl,rfl,HB.out⟩
 have t7:(op==7)=false:=by rw[beq_eq_false_iff_ne];exact h7
 obtain⟨⟨n,e⟩,hx⟩:∃x,modS a b=x:=⟨_,rfl⟩;have HX:=h_ hx;have HE:=h_ (show exS (n,e)=R by rw[←hR,←hx];unfold ariS;rw[if_neg h4,if_neg h5,if_neg h6,if_neg h7]);clear hx hR h4 h5 h6 h7;go_wp2_with fail;refine(Mod_any a b _ ha1 ha2 hb1 hb2).mono ?_;rw[HX.out];rintro er w1 ⟨rfl,rfl⟩;go_wp2_with fail;refine(exact_any n e _).mono ?_;rw[HE.out];rintro er w2 ⟨rfl,hb2⟩;have HRB:=HRB.out.k hb2;have HB:=bt HB hb2;clear hb2;rcases R with v|c|q
 ·simp only[endR,vV]
  go_wp2_with (refine HRB.out.wa (#[.int .i64 v.k,.int .i64 v.n,.string (bs v.s)]) ?_);intro W9 HRB p9;have HB:=pb HB p9;clear p9;go_wp2;exact HRB.out.r1 underlying52 ⟨rfl,HB.out⟩
 ·simp only[endR]
  go_wp2;exact⟨rfl,rfl,HB.out⟩
 ·simp only[endR]
  go_wp2;exact⟨rfl,rfl,HB.out⟩
theorem icompare_any(op:Int)(a b:Vl)(w:World)(h10:10≤op)(h15:op≤15):
  Calls prog 163 #[.int .i64 op,.agg (vV a),.agg (vV b)] w fun E w'=>E=endR (cmpS op a b)∧Below w.heap.size w w':=by
 obtain⟨ak,an,az⟩:=a;obtain⟨bk,bn,bz⟩:=b;obtain⟨R,hR⟩:=ex_ (cmpS op ⟨ak,an,az⟩ ⟨bk,bn,bz⟩);rw[hR];simp only[vV];obtain⟨c,hc⟩:=ex_ (cmpV ⟨ak,an,az⟩ ⟨bk,bn,bz⟩);have HCV:=h_ hc;have HR:=h_ hR;clear hR hc;have hb0:=((((Below.refl w.heap.size w).alloc (Nat.le_refl _) (.cells #[.int .i64 ak,.int .i64 an,.string (bs az)] 52)).alloc (by simp) (.cells #[.int .i64 bk,.int .i64 bn,.string (bs bz)] 52)).alloc (by simp;try omega) (.cells #[.int .i64 0,.int .i64 0,.string ⟨#[]⟩] 52));have h_HA:=(((Bx.new w #[.int .i64 ak,.int .i64 an,.string (bs az)] 52).alloc (.cells #[.int .i64 bk,.int .i64 bn,.string (bs bz)] 52)).alloc (.cells #[.int .i64 0,.int .i64 0,.string ⟨#[]⟩] 52));have h_HC:=((Bx.new (w.alloc (.cells #[.int .i64 ak,.int .i64 an,.string (bs az)] 52)) #[.int .i64 bk,.int .i64 bn,.string (bs bz)] 52).alloc (.cells #[.int .i64 0,.int .i64 0,.string ⟨#[]⟩] 52));rw[show (w.alloc (.cells #[.int .i64 ak,.int .i64 an,.string (bs az)] 52)).heap.size=w.heap.size+1 by simp]at h_HC;have h_HRB:=(Bx.new ((w.alloc (.cells #[.int .i64 ak,.int .i64 an,.string (bs az)] 52)).alloc (.cells #[.int .i64 bk,.int .i64 bn,.string (bs bz)] 52)) #[.int .i64 0,.int .i64 0,.string ⟨#[]⟩] 52);rw[show ((w.alloc (.cells #[.int .i64 ak,.int .i64 an,.string (bs az)] 52)).alloc (.cells #[.int .i64 bk,.int .i64 bn,.string (bs bz)] 52)).heap.size=w.heap.size+2 by simp]at h_HRB;have HB:=h_ hb0;have HA:=h_ h_HA;have HC:=h_ h_HC;have HRB:=h_ h_HRB;clear hb0 h_HA h_HC h_HRB;go_enter func163,ntmps163;go_upto_region 1 with (fail);generalize hW0:((w.alloc (.cells #[.int .i64 ak,.int .i64 an,.string (bs az)] 52)).alloc (.cells #[.int .i64 bk,.int .i64 bn,.string (bs bz)] 52)).alloc (.cells #[.int .i64 0,.int .i64 0,.string ⟨#[]⟩] 52)=v0 at HB HA HC HRB ⊢;clear hW0;obtain⟨a0,a1,a2⟩:=HA.out.d3 0 1 2;obtain⟨b0,b1,b2⟩:=HC.out.d3 0 1 2;go_cut [] from 8 to 32 (fun W=>(ak=bk∧(ak=1∨ak=2∨(ak=3∧op≤11)))∧W=v0)
 case first =>
  by_cases hk:ak=bk;rotate_left
  ·have tk:(ak==bk)=false:=by rw[beq_eq_false_iff_ne];exact hk
   have HF:=h_ (show R=.ab 1009 from HR.out.symm.trans (if_neg (fun h=>hk h.1)));clear hk;go_wp2_with fail;refine(must_no _).mono ?_;rintro er w9 ⟨rfl,rfl⟩;go_wp2;exact⟨rfl,by rw[HF.out]<;>rfl,HB.out⟩
  subst hk;have tk:(ak==ak)=true:=beq_self_eq_true ak;by_cases hk1:ak=1
  ·have tk1:(ak==1)=true:=by rw[hk1];rfl
   have HOK:=h_ (show ak=1∨ak=2∨(ak=3∧op≤11) from .inl hk1);clear hk1;go_wp2_with fail;refine(must_yes _).mono ?_;rintro er w1 ⟨rfl,rfl⟩;go_wp2_with fail
   go_meet
   exact⟨⟨by first|exact True.intro|rfl,HOK.out⟩,by first|exact True.intro|rfl⟩
  have tk1:(ak==1)=false:=by rw[beq_eq_false_iff_ne];exact hk1
  by_cases hk2:ak=2
  ·have tk2:(ak==2)=true:=by rw[hk2];rfl
   have HOK:=h_ (show ak=1∨ak=2∨(ak=3∧op≤11) from .inr (.inl hk2));clear hk1 hk2;go_wp2_with fail;refine(must_yes _).mono ?_;rintro er w1 ⟨rfl,rfl⟩;go_wp2_with fail
   go_meet
   exact⟨⟨by first|exact True.intro|rfl,HOK.out⟩,by first|exact True.intro|rfl⟩
  have tk2:(ak==2)=false:=by rw[beq_eq_false_iff_ne];exact hk2
  by_cases hk3:ak=3;rotate_left
  ·have tk3:(ak==3)=false:=by rw[beq_eq_false_iff_ne];exact hk3
   have HF:=h_ (show R=.ab 1009 from HR.out.symm.trans (if_neg (fun h=>h.2.elim hk1 (fun h=>h.elim hk2 (fun h=>hk3 h.1)))));clear hk1 hk2 hk3;go_wp2_with fail;refine(must_no _).mono ?_;rintro er w9 ⟨rfl,rfl⟩;go_wp2;exact⟨rfl,by rw[HF.out]<;>rfl,HB.out⟩
  have tk3:(ak==3)=true:=by rw[hk3];rfl
  by_cases h11:op≤11;rotate_left
  ·skip
   have HF:=h_ (show R=.ab 1009 from HR.out.symm.trans (if_neg (fun h=>h.2.elim hk1 (fun h=>h.elim hk2 (fun h=>h11 h.2)))));clear hk1 hk2 hk3;go_wp2_with fail;refine(must_no _).mono ?_;rintro er w9 ⟨rfl,rfl⟩;go_wp2;exact⟨rfl,by rw[HF.out]<;>rfl,HB.out⟩
  have t11:decide (op≤11)=true:=decide_eq_true h11;have HOK:=h_ (show ak=1∨ak=2∨(ak=3∧op≤11) from .inr (.inr ⟨hk3,h11⟩));clear hk1 hk2 hk3;go_wp2_with fail;refine(must_yes _).mono ?_;rintro er w1 ⟨rfl,rfl⟩;go_wp2_with fail
  go_meet
  exact⟨⟨by first|exact True.intro|rfl,HOK.out⟩,by first|exact True.intro|rfl⟩
 case rest =>
  obtain⟨⟨rfl,hok⟩,rfl⟩:=hcut;have HF:=h_ (show R=.ok (truV (cmpB op c)) from HR.out.symm.trans ((if_pos ⟨rfl,hok⟩).trans (by rw[HCV.out])));clear hok;go_wp2_with fail;refine(VCompare_any ⟨ak,an,az⟩ ⟨ak,bn,bz⟩ _).mono ?_;rw[HCV.out];rintro er w2 ⟨rfl,hb2⟩;clear a0 a1 a2;clear b0 b1 b2;have HA:=HA.out.k hb2;have HC:=HC.out.k hb2;have HRB:=HRB.out.k hb2;have HB:=bt HB hb2;clear hb2
  have hop:op=10∨op=11∨op=12∨op=13∨op=14∨op=15:=by omega
  clear h10 h15;rcases hop with rfl|rfl|rfl|rfl|rfl|rfl
  ·have HG:=h_ (show cmpB 10 c=(c==0) from rfl)
   go_wp2_with fail;refine(itruth_any (c==0) _).mono ?_;rintro er w3 ⟨rfl,hb3⟩;have HA:=HA.out.k hb3;have HC:=HC.out.k hb3;have HRB:=HRB.out.k hb3;have HB:=bt HB hb3;clear hb3;simp only[endR];go_wp2_with (refine HRB.out.wa (vV (truV (c==0))) ?_);intro W9 HRB p9;have HB:=pb HB p9;clear p9;go_wp2;exact HRB.out.r1 underlying52 ⟨by rw[HF.out,HG.out]<;>rfl,HB.out⟩
  ·have HG:=h_ (show cmpB 11 c=(c != 0) from by unfold cmpB;by_cases h:c=0<;>simp[h])
   go_wp2_with fail;refine(itruth_any (c != 0) _).mono ?_;rintro er w3 ⟨rfl,hb3⟩;have HA:=HA.out.k hb3;have HC:=HC.out.k hb3;have HRB:=HRB.out.k hb3;have HB:=bt HB hb3;clear hb3;simp only[endR];go_wp2_with (refine HRB.out.wa (vV (truV (c != 0))) ?_);intro W9 HRB p9;have HB:=pb HB p9;clear p9;go_wp2;exact HRB.out.r1 underlying52 ⟨by rw[HF.out,HG.out]<;>rfl,HB.out⟩
  ·have HG:=h_ (show cmpB 12 c=(decide (c<0)) from rfl)
   go_wp2_with fail;refine(itruth_any (decide (c<0)) _).mono ?_;rintro er w3 ⟨rfl,hb3⟩;have HA:=HA.out.k hb3;have HC:=HC.out.k hb3;have HRB:=HRB.out.k hb3;have HB:=bt HB hb3;clear hb3;simp only[endR];go_wp2_with (refine HRB.out.wa (vV (truV (decide (c<0)))) ?_);intro W9 HRB p9;have HB:=pb HB p9;clear p9;go_wp2;exact HRB.out.r1 underlying52 ⟨by rw[HF.out,HG.out]<;>rfl,HB.out⟩
  ·have HG:=h_ (show cmpB 13 c=(decide (c≤0)) from rfl)
   go_wp2_with fail;refine(itruth_any (decide (c≤0)) _).mono ?_;rintro er w3 ⟨rfl,hb3⟩;have HA:=HA.out.k hb3;have HC:=HC.out.k hb3;have HRB:=HRB.out.k hb3;have HB:=bt HB hb3;clear hb3;simp only[endR];go_wp2_with (refine HRB.out.wa (vV (truV (decide (c≤0)))) ?_);intro W9 HRB p9;have HB:=pb HB p9;clear p9;go_wp2;exact HRB.out.r1 underlying52 ⟨by rw[HF.out,HG.out]<;>rfl,HB.out⟩
  ·have HG:=h_ (show cmpB 14 c=(decide (0<c)) from rfl)
   go_wp2_with fail;refine(itruth_any (decide (0<c)) _).mono ?_;rintro er w3 ⟨rfl,hb3⟩;have HA:=HA.out.k hb3;have HC:=HC.out.k hb3;have HRB:=HRB.out.k hb3;have HB:=bt HB hb3;clear hb3;simp only[endR];go_wp2_with (refine HRB.out.wa (vV (truV (decide (0<c)))) ?_);intro W9 HRB p9;have HB:=pb HB p9;clear p9;go_wp2;exact HRB.out.r1 underlying52 ⟨by rw[HF.out,HG.out]<;>rfl,HB.out⟩
  ·have HG:=h_ (show cmpB 15 c=(decide (0≤c)) from rfl)
   go_wp2_with fail;refine(itruth_any (decide (0≤c)) _).mono ?_;rintro er w3 ⟨rfl,hb3⟩;have HA:=HA.out.k hb3;have HC:=HC.out.k hb3;have HRB:=HRB.out.k hb3;have HB:=bt HB hb3;clear hb3;simp only[endR];go_wp2_with (refine HRB.out.wa (vV (truV (decide (0≤c)))) ?_);intro W9 HRB p9;have HB:=pb HB p9;clear p9;go_wp2;exact HRB.out.r1 underlying52 ⟨by rw[HF.out,HG.out]<;>rfl,HB.out⟩
end Go.Proofs.YtnglaegofhpleaaGreatDoor
