/- What the claim needs, part 7. No conditions. -/
import Derived.Test.YtnglaegofhpleaaGreatDoorZk6
set_option maxRecDepth 100000
set_option maxHeartbeats 64000000
namespace Go.Proofs.YtnglaegofhpleaaGreatDoor
open Go.RowKit Go.Proofs.Tryz
theorem Rone_any(op:Int)(a:Vl)(D:Nat→Prop)(R:Ra)(X:Rx)(w:World)(hD:∀k,D k→k<w.heap.size)(hR:Stab D w (RIn R X))(hl:RL X)(hst:X.st=0)(ha:GdV a)(hop:op=9∨op=18∨op=20∨op=21∨op=22∨op=23∨op=24):
  Calls prog 126 #[.agg (mvA R X),.int .i64 op,.agg (vV a)] w (VPo D (oneX op a X).1 (oneX op a X).2 w):=by
 have oka:=gd_ok ha;have HOA:=h_ oka;have HL:=h_ hl;have HST:=h_ hst;have HGA:=h_ ha;clear oka hl hst ha;obtain⟨Z,hZ⟩:=ex_ (oneX op a X);rw[hZ];unfold oneX at hZ;have HZ:=h_ hZ;clear hZ;rcases hop with rfl|rfl|rfl|rfl|rfl|rfl|rfl
 ·skip
  have HR:=h_ hR;clear hR;obtain⟨v0,hW0,hb0,hHM,hHP,hHA,hHY⟩:=bxs4 w (mvA R X) (vV a) (#[.int .i64 0,.int .i64 0,.string ⟨#[]⟩]) (#[.slice none 0 0,.bool false,.slice none 0 0,.slice none 0 0,.slice none 0 0,.slice none 0 0,.int .i64 0,.int .i64 0,.slice none 0 0,.slice none 0 0,.slice none 0 0,.slice none 0 0,.string ⟨#[]⟩,.int .i64 0]) 83 52 52 83;have HW:=h_ hW0;have HB:=h_ hb0;have HM:=h_ hHM;have HP:=h_ hHP;have HA:=h_ hHA;have HY:=h_ hHY;clear hW0 hb0 hHM hHP hHA hHY;go_enter func126,ntmps126;go_upto_region 1 with (fail);rw[HW.out];clear HW;have p0:=HP.out.cl 0;by_cases hk:a.k=1;rotate_left
  ·have tk:(a.k != 1)=true:=by rw[bne_iff_ne];exact hk
   have hun:(if (9:Int)=9∨(9:Int)=18∨(9:Int)=20∨(9:Int)=21 then rsX (unS 9 a) X else if a.k=2 then gotX 9 (fetX a.s X) else (v00,abX 1009 X))=(v00,abX 1009 X):=by
    rw[if_pos (by decide)];unfold unS;simp[hk,rsX]
   have HUN:=h_ hun;clear hun hk;have hZ2:Z=(v00,abX 1009 X):=HZ.out.symm.trans (HUN.out);subst hZ2;go_wp2_with (refine HM.out.wl 0 (mvA R X) underlying83 ?_);refine(Rwrong_any _ R X _ (bl 4 hD HY) (HR.out.inn HB.out 4)).mono ?_;rintro er w1 ⟨R2,rfl,hr2,hb1⟩;have HM:=HM.out.k hb1;have HP:=HP.out.k hb1;have HA:=HA.out.k hb1;have HY:=HY.out.k hb1;have HB:=bt HB hb1;clear hb1;have HR2:=h_ hr2;clear hr2;go_wp2_with (refine HA.out.wa (vV v00) ?_);intro W1 HA p1;have HM:=HM.out.q p1;have HP:=HP.out.q p1;have HY:=HY.out.q p1;have HB:=pb HB p1;have HR2:=HR2.out.q p1;clear p1;go_wp2_with (refine HY.out.wa (mvA R2 (abX 1009 X)) ?_);intro W2 HY p2;have HM:=HM.out.q p2;have HP:=HP.out.q p2;have HA:=HA.out.q p2;have HB:=pb HB p2;have HR2:=HR2.out.q p2;clear p2;go_wp2;exact HA.out.r2 HY.out underlying52 underlying83 ⟨R2,rfl,HR2.out.out,HB.out⟩
  have tk:(a.k != 1)=false:=by rw[hk];rfl
  have hun:unS 9 a=exS (negS a.n):=by unfold unS;simp[hk]
  have hZ2:Z=rsX (exS (negS a.n)) X:=HZ.out.symm.trans (by rw[if_pos (by decide),hun]);clear hun;subst hZ2;have p1:=HP.out.cl 1;go_wp2_with (fail);refine(RNeg_any a.n _ HOA.out.1 HOA.out.2.1).mono ?_;rintro er w1 ⟨rfl,rfl⟩;clear p0 p1;go_wp2_with (refine HM.out.wl 0 (mvA R X) underlying83 ?_);refine(Rcalc_any _ _ _ R X _ (bl 4 hD HY) (HR.out.inn HB.out 4)).mono ?_;rintro er w2 ⟨R2,rfl,hr2,hb1⟩;have HM:=HM.out.k hb1;have HP:=HP.out.k hb1;have HA:=HA.out.k hb1;have HY:=HY.out.k hb1;have HB:=bt HB hb1;clear hb1;have HR2:=h_ hr2;clear hr2;go_wp2_with (refine HA.out.wa (vV (rsX (exS (negS a.n)) X).1) ?_);intro W1 HA p1;have HM:=HM.out.q p1;have HP:=HP.out.q p1;have HY:=HY.out.q p1;have HB:=pb HB p1;have HR2:=HR2.out.q p1;clear p1;go_wp2_with (refine HY.out.wa (mvA R2 ((rsX (exS (negS a.n)) X).2)) ?_);intro W2 HY p2;have HM:=HM.out.q p2;have HP:=HP.out.q p2;have HA:=HA.out.q p2;have HB:=pb HB p2;have HR2:=HR2.out.q p2;clear p2;go_wp2;exact HA.out.r2 HY.out underlying52 underlying83 ⟨R2,rfl,HR2.out.out,HB.out⟩
 ·skip
  have HR:=h_ hR;clear hR;obtain⟨v0,hW0,hb0,hHM,hHP,hHA,hHY⟩:=bxs4 w (mvA R X) (vV a) (#[.int .i64 0,.int .i64 0,.string ⟨#[]⟩]) (#[.slice none 0 0,.bool false,.slice none 0 0,.slice none 0 0,.slice none 0 0,.slice none 0 0,.int .i64 0,.int .i64 0,.slice none 0 0,.slice none 0 0,.slice none 0 0,.slice none 0 0,.string ⟨#[]⟩,.int .i64 0]) 83 52 52 83;have HW:=h_ hW0;have HB:=h_ hb0;have HM:=h_ hHM;have HP:=h_ hHP;have HA:=h_ hHA;have HY:=h_ hHY;clear hW0 hb0 hHM hHP hHA hHY;go_enter func126,ntmps126;go_upto_region 1 with (fail);rw[HW.out];clear HW;have p0:=HP.out.cl 0;by_cases hk:a.k=3;rotate_left
  ·have tk:(a.k != 3)=true:=by rw[bne_iff_ne];exact hk
   have hun:(if (18:Int)=9∨(18:Int)=18∨(18:Int)=20∨(18:Int)=21 then rsX (unS 18 a) X else if a.k=2 then gotX 18 (fetX a.s X) else (v00,abX 1009 X))=(v00,abX 1009 X):=by
    rw[if_pos (by decide)];unfold unS;simp[hk,rsX]
   have HUN:=h_ hun;clear hun hk;have hZ2:Z=(v00,abX 1009 X):=HZ.out.symm.trans (HUN.out);subst hZ2;go_wp2_with (refine HM.out.wl 0 (mvA R X) underlying83 ?_);refine(Rwrong_any _ R X _ (bl 4 hD HY) (HR.out.inn HB.out 4)).mono ?_;rintro er w1 ⟨R2,rfl,hr2,hb1⟩;have HM:=HM.out.k hb1;have HP:=HP.out.k hb1;have HA:=HA.out.k hb1;have HY:=HY.out.k hb1;have HB:=bt HB hb1;clear hb1;have HR2:=h_ hr2;clear hr2;go_wp2_with (refine HA.out.wa (vV v00) ?_);intro W1 HA p1;have HM:=HM.out.q p1;have HP:=HP.out.q p1;have HY:=HY.out.q p1;have HB:=pb HB p1;have HR2:=HR2.out.q p1;clear p1;go_wp2_with (refine HY.out.wa (mvA R2 (abX 1009 X)) ?_);intro W2 HY p2;have HM:=HM.out.q p2;have HP:=HP.out.q p2;have HA:=HA.out.q p2;have HB:=pb HB p2;have HR2:=HR2.out.q p2;clear p2;go_wp2;exact HA.out.r2 HY.out underlying52 underlying83 ⟨R2,rfl,HR2.out.out,HB.out⟩
  have tk:(a.k != 3)=false:=by rw[hk];rfl
  have hun:unS 18 a=.ok (truV (a.n==0)):=by unfold unS;simp[hk];rfl
  have hZ2:Z=rsX (.ok (truV (a.n==0))) X:=HZ.out.symm.trans (by rw[if_pos (by decide),hun]);clear hun;subst hZ2;go_wp2_with fail;clear p0 tk hk;go_wp2_with fail;refine wp_region_held_drew (S:=(fun w'=>Bx w.heap.size (mvA R X) 83 w'∧Bx (w.heap.size+1) (vV a) 52 w'∧Below w.heap.size w w')) (by kernel_rfl) ?_ (fun hHeld=>?_)
  ·exact(show ((fun w'=>Bx w.heap.size (mvA R X) 83 w'∧Bx (w.heap.size+1) (vV a) 52 w'∧Below w.heap.size w w')) v0.drew from by have hb1:=(Below.refl v0.heap.size v0).drew;have HM:=HM.out.k hb1;have HP:=HP.out.k hb1;have HA:=HA.out.k hb1;have HY:=HY.out.k hb1;have HB:=bt HB hb1;exact⟨HM.out,HP.out,HB.out⟩)
  have hb1:=(Below.refl v0.heap.size v0).drew;have HM:=HM.out.k hb1;have HP:=HP.out.k hb1;have HA:=HA.out.k hb1;have HY:=HY.out.k hb1;have HB:=bt HB hb1;clear hb1;generalize hWd:v0.drew=D1 at hHeld HB HM HP HA HY ⊢;clear hWd;refine tkX 0 47 ?_;refine tkY 1 (v:=?vv2) 48 ?yy2 ?_
  case yy2 =>
   intro wq hSw;have z1:wq.cell? ⟨w.heap.size+1,1,none⟩=some (.int .i64 a.n):=hSw.2.1.cell 1;clear hSw;go_simp
   (try with_reducible rfl)
  refine tkX 2 49 ?_;simp only[sA,sB,sC];refine tkl2 4 51 (fun _ h=>h.1) 0 (mvA R X) underlying83 ?_;simp only[sA,sB,sC];refine rd1 3 fun K hK=>?_;go_simp;refine(Rtruth_any (a.n==0) _).mono ?_;rintro er u1 ⟨rfl,hb1⟩;have HM:=HM.out.k hb1;have HP:=HP.out.k hb1;have HA:=HA.out.k hb1;have HY:=HY.out.k hb1;have HB:=bt HB hb1;clear hb1;refine hK.out _ _ (⟨HM.out,HP.out,HB.out⟩) fun hHeld=>?_;clear hK K
  (try simp only[Act.put,sA,sB,sC])
  refine rd1 5 fun K hK=>?_;refine Bx.rst HA.out 52 0 (.agg (vV (truV (a.n==0)))) (vV (truV (a.n==0))) rfl (Nat.le_of_ble_eq_true rfl) (by kernel_rfl) rfl rfl rfl rfl rfl ?_;intro W1 hq p1;have HA:=h_ hq;clear hq;have HM:=HM.out.q p1;have HP:=HP.out.q p1;have HY:=HY.out.q p1;have HB:=pb HB p1;clear p1;refine hK.out _ _ (⟨HM.out,HP.out,HB.out⟩) fun hHeld=>?_;clear hK K
  (try simp only[Act.put])
  refine rd1 6 fun K hK=>?_;refine Bx.rst HY.out 83 0 (.agg (mvA R X)) (mvA R X) rfl (Nat.le_of_ble_eq_true rfl) (by kernel_rfl) rfl rfl rfl rfl rfl ?_;intro W2 hq p2;have HY:=h_ hq;clear hq;have HM:=HM.out.q p2;have HP:=HP.out.q p2;have HA:=HA.out.q p2;have HB:=pb HB p2;clear p2;refine hK.out _ _ (⟨HM.out,HP.out,HB.out⟩) fun hHeld=>?_;clear hK K
  (try simp only[Act.put])
  refine wpAnyH_done (by kernel_rfl) ?_ _;go_wp2;exact HA.out.r2 HY.out underlying52 underlying83 ⟨R,rfl,(HR.out.inn HB.out 4).out,HB.out⟩
 ·skip
  have HR:=h_ hR;clear hR;obtain⟨v0,hW0,hb0,hHM,hHP,hHA,hHY⟩:=bxs4 w (mvA R X) (vV a) (#[.int .i64 0,.int .i64 0,.string ⟨#[]⟩]) (#[.slice none 0 0,.bool false,.slice none 0 0,.slice none 0 0,.slice none 0 0,.slice none 0 0,.int .i64 0,.int .i64 0,.slice none 0 0,.slice none 0 0,.slice none 0 0,.slice none 0 0,.string ⟨#[]⟩,.int .i64 0]) 83 52 52 83;have HW:=h_ hW0;have HB:=h_ hb0;have HM:=h_ hHM;have HP:=h_ hHP;have HA:=h_ hHA;have HY:=h_ hHY;clear hW0 hb0 hHM hHP hHA hHY;go_enter func126,ntmps126;go_upto_region 1 with (fail);rw[HW.out];clear HW;have p0:=HP.out.cl 0;by_cases hk:a.k=1;rotate_left
  ·have tk:(a.k != 1)=true:=by rw[bne_iff_ne];exact hk
   have hun:(if (20:Int)=9∨(20:Int)=18∨(20:Int)=20∨(20:Int)=21 then rsX (unS 20 a) X else if a.k=2 then gotX 20 (fetX a.s X) else (v00,abX 1009 X))=(v00,abX 1009 X):=by
    rw[if_pos (by decide)];unfold unS;simp[hk,rsX]
   have HUN:=h_ hun;clear hun hk;have hZ2:Z=(v00,abX 1009 X):=HZ.out.symm.trans (HUN.out);subst hZ2;go_wp2_with (refine HM.out.wl 0 (mvA R X) underlying83 ?_);refine(Rwrong_any _ R X _ (bl 4 hD HY) (HR.out.inn HB.out 4)).mono ?_;rintro er w1 ⟨R2,rfl,hr2,hb1⟩;have HM:=HM.out.k hb1;have HP:=HP.out.k hb1;have HA:=HA.out.k hb1;have HY:=HY.out.k hb1;have HB:=bt HB hb1;clear hb1;have HR2:=h_ hr2;clear hr2;go_wp2_with (refine HA.out.wa (vV v00) ?_);intro W1 HA p1;have HM:=HM.out.q p1;have HP:=HP.out.q p1;have HY:=HY.out.q p1;have HB:=pb HB p1;have HR2:=HR2.out.q p1;clear p1;go_wp2_with (refine HY.out.wa (mvA R2 (abX 1009 X)) ?_);intro W2 HY p2;have HM:=HM.out.q p2;have HP:=HP.out.q p2;have HA:=HA.out.q p2;have HB:=pb HB p2;have HR2:=HR2.out.q p2;clear p2;go_wp2;exact HA.out.r2 HY.out underlying52 underlying83 ⟨R2,rfl,HR2.out.out,HB.out⟩
  have tk:(a.k != 1)=false:=by rw[hk];rfl
  have hun:unS 20 a=.ok (strVl (Lib.itoa a.n)):=by unfold unS;rw[if_neg (by decide),if_neg (by decide),if_pos rfl,if_pos hk];unfold txS;rw[if_neg (by have:=Lib.itoa_length_le a.n HOA.out.1 HOA.out.2.1;omega)]
  have hZ2:Z=rsX (.ok (strVl (Lib.itoa a.n))) X:=HZ.out.symm.trans (by rw[if_pos (by decide),hun]);clear hun;subst hZ2;go_wp2_with fail;clear p0 tk hk;go_wp2_with fail;refine wp_region_held_drew (S:=(fun w'=>Bx w.heap.size (mvA R X) 83 w'∧Bx (w.heap.size+1) (vV a) 52 w'∧Below w.heap.size w w')) (by kernel_rfl) ?_ (fun hHeld=>?_)
  ·exact(show ((fun w'=>Bx w.heap.size (mvA R X) 83 w'∧Bx (w.heap.size+1) (vV a) 52 w'∧Below w.heap.size w w')) v0.drew from by have hb1:=(Below.refl v0.heap.size v0).drew;have HM:=HM.out.k hb1;have HP:=HP.out.k hb1;have HA:=HA.out.k hb1;have HY:=HY.out.k hb1;have HB:=bt HB hb1;exact⟨HM.out,HP.out,HB.out⟩)
  have hb1:=(Below.refl v0.heap.size v0).drew;have HM:=HM.out.k hb1;have HP:=HP.out.k hb1;have HA:=HA.out.k hb1;have HY:=HY.out.k hb1;have HB:=bt HB hb1;clear hb1;generalize hWd:v0.drew=D1 at hHeld HB HM HP HA HY ⊢;clear hWd;refine tkX 0 54 ?_;refine tkY 1 (v:=?vv5) 55 ?yy5 ?_
  case yy5 =>
   intro wq hSw;have z1:wq.cell? ⟨w.heap.size+1,1,none⟩=some (.int .i64 a.n):=hSw.2.1.cell 1;clear hSw;go_simp
   (try with_reducible rfl)
  simp only[sA,sB,sC];refine tkl2 4 58 (fun _ h=>h.1) 0 (mvA R X) underlying83 ?_;simp only[sA,sB,sC];refine rd1 2 fun K hK=>?_;go_simp;refine(RFormat_any a.n _ HOA.out.1 HOA.out.2.1).mono ?_;rintro er u1 ⟨rfl,hb1⟩;have HM:=HM.out.k hb1;have HP:=HP.out.k hb1;have HA:=HA.out.k hb1;have HY:=HY.out.k hb1;have HB:=bt HB hb1;clear hb1;refine hK.out _ _ (⟨HM.out,HP.out,HB.out⟩) fun hHeld=>?_;clear hK K
  (try simp only[Act.put,sA,sB,sC])
  refine tkX 3 57 ?_;simp only[sA,sB,sC];refine rd1 5 fun K hK=>?_;refine Bx.rst HA.out 52 0 (.agg (vV (strVl (Lib.itoa a.n)))) (vV (strVl (Lib.itoa a.n))) rfl (Nat.le_of_ble_eq_true rfl) (by kernel_rfl) rfl rfl rfl rfl rfl ?_;intro W1 hq p1;have HA:=h_ hq;clear hq;have HM:=HM.out.q p1;have HP:=HP.out.q p1;have HY:=HY.out.q p1;have HB:=pb HB p1;clear p1;refine hK.out _ _ (⟨HM.out,HP.out,HB.out⟩) fun hHeld=>?_;clear hK K
  (try simp only[Act.put])
  refine rd1 6 fun K hK=>?_;refine Bx.rst HY.out 83 0 (.agg (mvA R X)) (mvA R X) rfl (Nat.le_of_ble_eq_true rfl) (by kernel_rfl) rfl rfl rfl rfl rfl ?_;intro W2 hq p2;have HY:=h_ hq;clear hq;have HM:=HM.out.q p2;have HP:=HP.out.q p2;have HA:=HA.out.q p2;have HB:=pb HB p2;clear p2;refine hK.out _ _ (⟨HM.out,HP.out,HB.out⟩) fun hHeld=>?_;clear hK K
  (try simp only[Act.put])
  refine wpAnyH_done (by kernel_rfl) ?_ _;go_wp2;exact HA.out.r2 HY.out underlying52 underlying83 ⟨R,rfl,(HR.out.inn HB.out 4).out,HB.out⟩
 ·skip
  have HR:=h_ hR;clear hR;obtain⟨v0,hW0,hb0,hHM,hHP,hHA,hHY⟩:=bxs4 w (mvA R X) (vV a) (#[.int .i64 0,.int .i64 0,.string ⟨#[]⟩]) (#[.slice none 0 0,.bool false,.slice none 0 0,.slice none 0 0,.slice none 0 0,.slice none 0 0,.int .i64 0,.int .i64 0,.slice none 0 0,.slice none 0 0,.slice none 0 0,.slice none 0 0,.string ⟨#[]⟩,.int .i64 0]) 83 52 52 83;have HW:=h_ hW0;have HB:=h_ hb0;have HM:=h_ hHM;have HP:=h_ hHP;have HA:=h_ hHA;have HY:=h_ hHY;clear hW0 hb0 hHM hHP hHA hHY;go_enter func126,ntmps126;go_upto_region 1 with (fail);rw[HW.out];clear HW;have p0:=HP.out.cl 0;by_cases hk:a.k=2;rotate_left
  ·have tk:(a.k != 2)=true:=by rw[bne_iff_ne];exact hk
   have hun:(if (21:Int)=9∨(21:Int)=18∨(21:Int)=20∨(21:Int)=21 then rsX (unS 21 a) X else if a.k=2 then gotX 21 (fetX a.s X) else (v00,abX 1009 X))=(v00,abX 1009 X):=by
    rw[if_pos (by decide)];unfold unS;simp[hk,rsX]
   have HUN:=h_ hun;clear hun hk;have hZ2:Z=(v00,abX 1009 X):=HZ.out.symm.trans (HUN.out);subst hZ2;go_wp2_with (refine HM.out.wl 0 (mvA R X) underlying83 ?_);refine(Rwrong_any _ R X _ (bl 4 hD HY) (HR.out.inn HB.out 4)).mono ?_;rintro er w1 ⟨R2,rfl,hr2,hb1⟩;have HM:=HM.out.k hb1;have HP:=HP.out.k hb1;have HA:=HA.out.k hb1;have HY:=HY.out.k hb1;have HB:=bt HB hb1;clear hb1;have HR2:=h_ hr2;clear hr2;go_wp2_with (refine HA.out.wa (vV v00) ?_);intro W1 HA p1;have HM:=HM.out.q p1;have HP:=HP.out.q p1;have HY:=HY.out.q p1;have HB:=pb HB p1;have HR2:=HR2.out.q p1;clear p1;go_wp2_with (refine HY.out.wa (mvA R2 (abX 1009 X)) ?_);intro W2 HY p2;have HM:=HM.out.q p2;have HP:=HP.out.q p2;have HA:=HA.out.q p2;have HB:=pb HB p2;have HR2:=HR2.out.q p2;clear p2;go_wp2;exact HA.out.r2 HY.out underlying52 underlying83 ⟨R2,rfl,HR2.out.out,HB.out⟩
  have tk:(a.k != 2)=false:=by rw[hk];rfl
  have hun:unS 21 a=.ok (numV (a.s.length:Int)):=by unfold unS;simp[hk]
  have hZ2:Z=rsX (.ok (numV (a.s.length:Int))) X:=HZ.out.symm.trans (by rw[if_pos (by decide),hun]);clear hun;subst hZ2;go_wp2_with fail;clear p0 tk hk;go_wp2_with fail;refine wp_region_held_drew (S:=(fun w'=>Bx w.heap.size (mvA R X) 83 w'∧Bx (w.heap.size+1) (vV a) 52 w'∧Below w.heap.size w w')) (by kernel_rfl) ?_ (fun hHeld=>?_)
  ·exact(show ((fun w'=>Bx w.heap.size (mvA R X) 83 w'∧Bx (w.heap.size+1) (vV a) 52 w'∧Below w.heap.size w w')) v0.drew from by have hb1:=(Below.refl v0.heap.size v0).drew;have HM:=HM.out.k hb1;have HP:=HP.out.k hb1;have HA:=HA.out.k hb1;have HY:=HY.out.k hb1;have HB:=bt HB hb1;exact⟨HM.out,HP.out,HB.out⟩)
  have hb1:=(Below.refl v0.heap.size v0).drew;have HM:=HM.out.k hb1;have HP:=HP.out.k hb1;have HA:=HA.out.k hb1;have HY:=HY.out.k hb1;have HB:=bt HB hb1;clear hb1;generalize hWd:v0.drew=D1 at hHeld HB HM HP HA HY ⊢;clear hWd;refine tkX 0 61 ?_;refine tkY 1 (v:=?vv8) 62 ?yy8 ?_
  case yy8 =>
   intro wq hSw;have z1:wq.cell? ⟨w.heap.size+1,2,none⟩=some (.string (bs a.s)):=hSw.2.1.cell 2;clear hSw;go_simp
   (try with_reducible rfl)
  refine tkX 2 63 ?_;simp only[sA,sB,sC];refine tkl2 4 65 (fun _ h=>h.1) 0 (mvA R X) underlying83 ?_;simp only[sA,sB,sC];refine rd1 3 fun K hK=>?_;go_simp;refine(Rnum_any (a.s.length:Int) _).mono ?_;rintro er u1 ⟨rfl,hb1⟩;have HM:=HM.out.k hb1;have HP:=HP.out.k hb1;have HA:=HA.out.k hb1;have HY:=HY.out.k hb1;have HB:=bt HB hb1;clear hb1;refine hK.out _ _ (⟨HM.out,HP.out,HB.out⟩) fun hHeld=>?_;clear hK K
  (try simp only[Act.put,sA,sB,sC])
  refine rd1 5 fun K hK=>?_;refine Bx.rst HA.out 52 0 (.agg (vV (numV (a.s.length:Int)))) (vV (numV (a.s.length:Int))) rfl (Nat.le_of_ble_eq_true rfl) (by kernel_rfl) rfl rfl rfl rfl rfl ?_;intro W1 hq p1;have HA:=h_ hq;clear hq;have HM:=HM.out.q p1;have HP:=HP.out.q p1;have HY:=HY.out.q p1;have HB:=pb HB p1;clear p1;refine hK.out _ _ (⟨HM.out,HP.out,HB.out⟩) fun hHeld=>?_;clear hK K
  (try simp only[Act.put])
  refine rd1 6 fun K hK=>?_;refine Bx.rst HY.out 83 0 (.agg (mvA R X)) (mvA R X) rfl (Nat.le_of_ble_eq_true rfl) (by kernel_rfl) rfl rfl rfl rfl rfl ?_;intro W2 hq p2;have HY:=h_ hq;clear hq;have HM:=HM.out.q p2;have HP:=HP.out.q p2;have HA:=HA.out.q p2;have HB:=pb HB p2;clear p2;refine hK.out _ _ (⟨HM.out,HP.out,HB.out⟩) fun hHeld=>?_;clear hK K
  (try simp only[Act.put])
  refine wpAnyH_done (by kernel_rfl) ?_ _;go_wp2;exact HA.out.r2 HY.out underlying52 underlying83 ⟨R,rfl,(HR.out.inn HB.out 4).out,HB.out⟩
 ·skip
  have HR:=h_ hR;clear hR;obtain⟨v0,hW0,hb0,hHM,hHP,hHA,hHY⟩:=bxs4 w (mvA R X) (vV a) (#[.int .i64 0,.int .i64 0,.string ⟨#[]⟩]) (#[.slice none 0 0,.bool false,.slice none 0 0,.slice none 0 0,.slice none 0 0,.slice none 0 0,.int .i64 0,.int .i64 0,.slice none 0 0,.slice none 0 0,.slice none 0 0,.slice none 0 0,.string ⟨#[]⟩,.int .i64 0]) 83 52 52 83;have HW:=h_ hW0;have HB:=h_ hb0;have HM:=h_ hHM;have HP:=h_ hHP;have HA:=h_ hHA;have HY:=h_ hHY;clear hW0 hb0 hHM hHP hHA hHY;go_enter func126,ntmps126;go_upto_region 1 with (fail);rw[HW.out];clear HW;have p0:=HP.out.cl 0;by_cases hk:a.k=2;rotate_left
  ·have tk:(a.k != 2)=true:=by rw[bne_iff_ne];exact hk
   have hun:(if (22:Int)=9∨(22:Int)=18∨(22:Int)=20∨(22:Int)=21 then rsX (unS 22 a) X else if a.k=2 then gotX 22 (fetX a.s X) else (v00,abX 1009 X))=(v00,abX 1009 X):=by
    rw[if_neg (by decide),if_neg hk]
   have HUN:=h_ hun;clear hun hk;have hZ2:Z=(v00,abX 1009 X):=HZ.out.symm.trans (HUN.out);subst hZ2;go_wp2_with (refine HM.out.wl 0 (mvA R X) underlying83 ?_);refine(Rwrong_any _ R X _ (bl 4 hD HY) (HR.out.inn HB.out 4)).mono ?_;rintro er w1 ⟨R2,rfl,hr2,hb1⟩;have HM:=HM.out.k hb1;have HP:=HP.out.k hb1;have HA:=HA.out.k hb1;have HY:=HY.out.k hb1;have HB:=bt HB hb1;clear hb1;have HR2:=h_ hr2;clear hr2;go_wp2_with (refine HA.out.wa (vV v00) ?_);intro W1 HA p1;have HM:=HM.out.q p1;have HP:=HP.out.q p1;have HY:=HY.out.q p1;have HB:=pb HB p1;have HR2:=HR2.out.q p1;clear p1;go_wp2_with (refine HY.out.wa (mvA R2 (abX 1009 X)) ?_);intro W2 HY p2;have HM:=HM.out.q p2;have HP:=HP.out.q p2;have HA:=HA.out.q p2;have HB:=pb HB p2;have HR2:=HR2.out.q p2;clear p2;go_wp2;exact HA.out.r2 HY.out underlying52 underlying83 ⟨R2,rfl,HR2.out.out,HB.out⟩
  have tk:(a.k != 2)=false:=by rw[hk];rfl
  have hZ2:Z=gotX 22 (fetX a.s X):=HZ.out.symm.trans (by rw[if_neg (by decide),if_pos hk]);clear p0;obtain⟨p2,p0⟩:=HP.out.d2 2 0;go_wp2_with (refine HM.out.wl 0 (mvA R X) underlying83 ?_);refine(RFetch_any a.s _ R X _ (bl 4 hD HY) (HR.out.inn HB.out 4) HL.out (by have:=HOA.out.2.2;omega)).mono ?_;rintro er w1 ⟨R2,rfl,hr2,hb1⟩;have HM:=HM.out.k hb1;have HP:=HP.out.k hb1;have HA:=HA.out.k hb1;have HY:=HY.out.k hb1;have HB:=bt HB hb1;clear hb1;have HR2:=h_ hr2;clear hr2 p0 p2 tk;obtain⟨gv,hgv⟩:=ex_ ((fetX a.s X).1);obtain⟨X2,hX2⟩:=ex_ ((fetX a.s X).2);rw[show fetX a.s X=(gv,X2) from by rw[←hgv,←hX2]]at hZ2;rw[hX2]at HR2;rw[hgv,hX2];have HZ2:=h_ hZ2;clear hZ2 hgv hX2 hk
  have hsz:w.heap.size+4≤w1.heap.size:=by have:=HY.out.lt;omega
  have HV:=h_ ((Bx.new w1 #[.int .i64 0,.int .i64 0,.string ⟨#[]⟩] 52).alloc (.cells #[.slice none 0 0,.bool false,.slice none 0 0,.slice none 0 0,.slice none 0 0,.slice none 0 0,.int .i64 0,.int .i64 0,.slice none 0 0,.slice none 0 0,.slice none 0 0,.slice none 0 0,.string ⟨#[]⟩,.int .i64 0] 83));have HN:=h_ (Bx.new1 w1 (.cells #[.int .i64 0,.int .i64 0,.string ⟨#[]⟩] 52) #[.slice none 0 0,.bool false,.slice none 0 0,.slice none 0 0,.slice none 0 0,.slice none 0 0,.int .i64 0,.int .i64 0,.slice none 0 0,.slice none 0 0,.slice none 0 0,.slice none 0 0,.string ⟨#[]⟩,.int .i64 0] 83);have HR2:=h_ (HR2.out.inn (Below.refl w1.heap.size w1) 2);have hal:=((Below.refl w1.heap.size w1).alloc (Nat.le_refl _) (.cells #[.int .i64 0,.int .i64 0,.string ⟨#[]⟩] 52)).alloc (by simp) (.cells #[.slice none 0 0,.bool false,.slice none 0 0,.slice none 0 0,.slice none 0 0,.slice none 0 0,.int .i64 0,.int .i64 0,.slice none 0 0,.slice none 0 0,.slice none 0 0,.slice none 0 0,.string ⟨#[]⟩,.int .i64 0] 83);have HM:=HM.out.k hal;have HP:=HP.out.k hal;have HA:=HA.out.k hal;have HY:=HY.out.k hal;have HR2:=HR2.out.k hal;have HB:=bt HB hal;clear hal;go_wp2_with (refine HV.out.wa (vV gv) ?_);intro W1 HV p1;have HM:=HM.out.q p1;have HP:=HP.out.q p1;have HA:=HA.out.q p1;have HY:=HY.out.q p1;have HN:=HN.out.q p1;have HB:=pb HB p1;have HR2:=HR2.out.q p1;clear p1;go_wp2_with (refine HN.out.wa (mvA R2 X2) ?_);intro W2 HN p2;have HM:=HM.out.q p2;have HP:=HP.out.q p2;have HA:=HA.out.q p2;have HY:=HY.out.q p2;have HV:=HV.out.q p2;have HB:=pb HB p2;have HR2:=HR2.out.q p2;clear p2;go_wp2_with (refine HN.out.wl 0 (mvA R2 X2) underlying83 ?_);refine(Rrunning_any R2 X2 _).mono ?_;rintro er w2 ⟨rfl,hb1⟩;have HM:=HM.out.k hb1;have HP:=HP.out.k hb1;have HA:=HA.out.k hb1;have HY:=HY.out.k hb1;have HV:=HV.out.k hb1;have HN:=HN.out.k hb1;have HR2:=HR2.out.k hb1;have HB:=bt HB hb1;clear hb1;by_cases hs:X2.st=0;rotate_left
  ·have ts:(X2.st==0)=false:=by rw[beq_eq_false_iff_ne];exact hs
   have hZ3:Z=(v00,X2):=HZ2.out.trans (if_pos hs);subst hZ3;clear hs;go_wp2_with fail;refine wp_region_held_drew (S:=(fun w'=>Bx w1.heap.size (vV gv) 52 w'∧Bx (w1.heap.size+1) (mvA R2 X2) 83 w'∧Below w.heap.size w w')) (by kernel_rfl) ?_ (fun hHeld=>?_)
   ·exact(show ((fun w'=>Bx w1.heap.size (vV gv) 52 w'∧Bx (w1.heap.size+1) (mvA R2 X2) 83 w'∧Below w.heap.size w w')) w2.drew from by have hb1:=(Below.refl w2.heap.size w2).drew;have HM:=HM.out.k hb1;have HP:=HP.out.k hb1;have HA:=HA.out.k hb1;have HY:=HY.out.k hb1;have HV:=HV.out.k hb1;have HN:=HN.out.k hb1;have HB:=bt HB hb1;exact⟨HV.out,HN.out,HB.out⟩)
   have hb1:=(Below.refl w2.heap.size w2).drew;have HM:=HM.out.k hb1;have HP:=HP.out.k hb1;have HA:=HA.out.k hb1;have HY:=HY.out.k hb1;have HV:=HV.out.k hb1;have HN:=HN.out.k hb1;have HR2:=HR2.out.k hb1;have HB:=bt HB hb1;clear hb1;generalize hWd:w2.drew=D1 at hHeld HB HM HP HA HY HV HN HR2 ⊢;clear hWd;refine tkX 0 76 ?_;simp only[sA,sB,sC];refine tkl2 1 77 (fun _ h=>h.2.1) 0 (mvA R2 X2) underlying83 ?_;simp only[sA,sB,sC];refine rd1 2 fun K hK=>?_;refine Bx.rst HA.out 52 0 (.agg (vV v00)) (vV v00) rfl (Nat.le_of_ble_eq_true rfl) (by kernel_rfl) rfl rfl rfl rfl rfl ?_;intro W3 hq p3;have HA:=h_ hq;clear hq;have HM:=HM.out.q p3;have HP:=HP.out.q p3;have HY:=HY.out.q p3;have HV:=HV.out.q p3;have HN:=HN.out.q p3;have HB:=pb HB p3;have HR2:=HR2.out.q p3;clear p3;refine hK.out _ _ (⟨HV.out,HN.out,HB.out⟩) fun hHeld=>?_;clear hK K
   (try simp only[Act.put])
   refine rd1 3 fun K hK=>?_;refine Bx.rst HY.out 83 0 (.agg (mvA R2 X2)) (mvA R2 X2) rfl (Nat.le_of_ble_eq_true rfl) (by kernel_rfl) rfl rfl rfl rfl rfl ?_;intro W4 hq p4;have HY:=h_ hq;clear hq;have HM:=HM.out.q p4;have HP:=HP.out.q p4;have HA:=HA.out.q p4;have HV:=HV.out.q p4;have HN:=HN.out.q p4;have HB:=pb HB p4;have HR2:=HR2.out.q p4;clear p4;refine hK.out _ _ (⟨HV.out,HN.out,HB.out⟩) fun hHeld=>?_;clear hK K
   (try simp only[Act.put])
   refine wpAnyH_done (by kernel_rfl) ?_ _;go_wp2;exact HA.out.r2 HY.out underlying52 underlying83 ⟨R2,rfl,HR2.out.out.out,HB.out⟩
  have ts:(X2.st==0)=true:=by rw[hs];rfl
  have hZ3:Z=rsX (gotS 22 gv) X2:=HZ2.out.trans (if_neg (fun q=>q hs));clear hs;have v0:=HV.out.cl 0;by_cases h0:gv.k=0
  ·have t0:(gv.k==0)=true:=by rw[h0];rfl
   have hgs:gotS 22 gv=.ok (numV 0):=by unfold gotS;rw[if_neg (by decide),if_pos h0];rfl
   rw[hgs]at hZ3;clear hgs h0;subst hZ3;go_wp2_with fail;refine wp_region_held_drew (S:=(fun w'=>Bx w1.heap.size (vV gv) 52 w'∧Bx (w1.heap.size+1) (mvA R2 X2) 83 w'∧Below w.heap.size w w')) (by kernel_rfl) ?_ (fun hHeld=>?_)
   ·exact(show ((fun w'=>Bx w1.heap.size (vV gv) 52 w'∧Bx (w1.heap.size+1) (mvA R2 X2) 83 w'∧Below w.heap.size w w')) w2.drew from by have hb1:=(Below.refl w2.heap.size w2).drew;have HM:=HM.out.k hb1;have HP:=HP.out.k hb1;have HA:=HA.out.k hb1;have HY:=HY.out.k hb1;have HV:=HV.out.k hb1;have HN:=HN.out.k hb1;have HB:=bt HB hb1;exact⟨HV.out,HN.out,HB.out⟩)
   have hb1:=(Below.refl w2.heap.size w2).drew;have HM:=HM.out.k hb1;have HP:=HP.out.k hb1;have HA:=HA.out.k hb1;have HY:=HY.out.k hb1;have HV:=HV.out.k hb1;have HN:=HN.out.k hb1;have HR2:=HR2.out.k hb1;have HB:=bt HB hb1;clear hb1;skip;generalize hWd:w2.drew=D2 at hHeld HB HM HP HA HY HV HN HR2 ⊢;clear hWd;refine tkX 0 90 ?_;refine tkX 1 91 ?_;simp only[sA,sB,sC];refine tkl2 2 92 (fun _ h=>h.2.1) 0 (mvA R2 X2) underlying83 ?_;simp only[sA,sB,sC];refine rd1 3 fun K hK=>?_;refine Bx.rst HA.out 52 0 (.agg (vV (numV 0))) (vV (numV 0)) rfl (Nat.le_of_ble_eq_true rfl) (by kernel_rfl) rfl rfl rfl rfl rfl ?_;intro W3 hq p3;have HA:=h_ hq;clear hq;have HM:=HM.out.q p3;have HP:=HP.out.q p3;have HY:=HY.out.q p3;have HV:=HV.out.q p3;have HN:=HN.out.q p3;have HB:=pb HB p3;have HR2:=HR2.out.q p3;clear p3;refine hK.out _ _ (⟨HV.out,HN.out,HB.out⟩) fun hHeld=>?_;clear hK K
   (try simp only[Act.put])
   refine rd1 4 fun K hK=>?_;refine Bx.rst HY.out 83 0 (.agg (mvA R2 X2)) (mvA R2 X2) rfl (Nat.le_of_ble_eq_true rfl) (by kernel_rfl) rfl rfl rfl rfl rfl ?_;intro W4 hq p4;have HY:=h_ hq;clear hq;have HM:=HM.out.q p4;have HP:=HP.out.q p4;have HA:=HA.out.q p4;have HV:=HV.out.q p4;have HN:=HN.out.q p4;have HB:=pb HB p4;have HR2:=HR2.out.q p4;clear p4;refine hK.out _ _ (⟨HV.out,HN.out,HB.out⟩) fun hHeld=>?_;clear hK K
   (try simp only[Act.put])
   refine wpAnyH_done (by kernel_rfl) ?_ _;go_wp2;exact HA.out.r2 HY.out underlying52 underlying83 ⟨R2,rfl,HR2.out.out.out,HB.out⟩
  have t0:(gv.k==0)=false:=by rw[beq_eq_false_iff_ne];exact h0
  by_cases hw:gv.k=1;rotate_left
  ·have tw:(gv.k != 1)=true:=by rw[bne_iff_ne];exact hw
   have hgs:gotS 22 gv=.ab 1003:=by unfold gotS;rw[if_neg (by decide),if_neg h0];exact if_neg hw
   rw[hgs]at hZ3;clear hgs h0 hw;subst hZ3;go_wp2_with (refine HN.out.wl 0 (mvA R2 X2) underlying83 ?_);refine(RAbort_any 1003 _ R2 X2 _ (boxD_lt (N:=2) (boxD_lt (N:=4) hD hsz) (show w1.heap.size+2≤_ from by have:=HN.out.lt;omega)) HR2.out).mono ?_;rintro er w3 ⟨R3,rfl,hr3,hb1⟩;have HM:=HM.out.k hb1;have HP:=HP.out.k hb1;have HA:=HA.out.k hb1;have HY:=HY.out.k hb1;have HV:=HV.out.k hb1;have HN:=HN.out.k hb1;have HR2:=HR2.out.k hb1;have HB:=bt HB hb1;clear hb1;have HR3:=h_ hr3;clear hr3;clear v0;go_wp2_with (refine HA.out.wa (vV v00) ?_);intro W3 HA p3;have HM:=HM.out.q p3;have HP:=HP.out.q p3;have HY:=HY.out.q p3;have HV:=HV.out.q p3;have HN:=HN.out.q p3;have HB:=pb HB p3;have HR3:=HR3.out.q p3;clear p3;go_wp2_with (refine HY.out.wa (mvA R3 (abX 1003 X2)) ?_);intro W4 HY p4;have HM:=HM.out.q p4;have HP:=HP.out.q p4;have HA:=HA.out.q p4;have HV:=HV.out.q p4;have HN:=HN.out.q p4;have HB:=pb HB p4;have HR3:=HR3.out.q p4;clear p4;go_wp2;exact HA.out.r2 HY.out underlying52 underlying83 ⟨R3,rfl,HR3.out.out.out,HB.out⟩
  have tw:(gv.k != 1)=false:=by rw[hw];rfl
  have hgs:gotS 22 gv=.ok gv:=by unfold gotS;rw[if_neg (by decide),if_neg h0];exact if_pos hw
  rw[hgs]at hZ3;clear hgs h0 hw;subst hZ3;go_wp2_with fail;refine wp_region_held_drew (S:=(fun w'=>Bx w1.heap.size (vV gv) 52 w'∧Bx (w1.heap.size+1) (mvA R2 X2) 83 w'∧Below w.heap.size w w')) (by kernel_rfl) ?_ (fun hHeld=>?_)
  ·exact(show ((fun w'=>Bx w1.heap.size (vV gv) 52 w'∧Bx (w1.heap.size+1) (mvA R2 X2) 83 w'∧Below w.heap.size w w')) w2.drew from by have hb1:=(Below.refl w2.heap.size w2).drew;have HM:=HM.out.k hb1;have HP:=HP.out.k hb1;have HA:=HA.out.k hb1;have HY:=HY.out.k hb1;have HV:=HV.out.k hb1;have HN:=HN.out.k hb1;have HB:=bt HB hb1;exact⟨HV.out,HN.out,HB.out⟩)
  have hb1:=(Below.refl w2.heap.size w2).drew;have HM:=HM.out.k hb1;have HP:=HP.out.k hb1;have HA:=HA.out.k hb1;have HY:=HY.out.k hb1;have HV:=HV.out.k hb1;have HN:=HN.out.k hb1;have HR2:=HR2.out.k hb1;have HB:=bt HB hb1;clear hb1;generalize hWd:w2.drew=D3 at hHeld HB HM HP HA HY HV HN HR2 ⊢;clear hWd;refine tkl2 0 100 (fun _ h=>h.1) 0 (vV gv) underlying52 ?_;simp only[sA,sB,sC];refine tkl2 1 101 (fun _ h=>h.2.1) 0 (mvA R2 X2) underlying83 ?_;simp only[sA,sB,sC];refine rd1 2 fun K hK=>?_;refine Bx.rst HA.out 52 0 (.agg (vV gv)) (vV gv) rfl (Nat.le_of_ble_eq_true rfl) (by kernel_rfl) rfl rfl rfl rfl rfl ?_;intro W3 hq p3;have HA:=h_ hq;clear hq;have HM:=HM.out.q p3;have HP:=HP.out.q p3;have HY:=HY.out.q p3;have HV:=HV.out.q p3;have HN:=HN.out.q p3;have HB:=pb HB p3;have HR2:=HR2.out.q p3;clear p3;refine hK.out _ _ (⟨HV.out,HN.out,HB.out⟩) fun hHeld=>?_;clear hK K
  (try simp only[Act.put])
  refine rd1 3 fun K hK=>?_;refine Bx.rst HY.out 83 0 (.agg (mvA R2 X2)) (mvA R2 X2) rfl (Nat.le_of_ble_eq_true rfl) (by kernel_rfl) rfl rfl rfl rfl rfl ?_;intro W4 hq p4;have HY:=h_ hq;clear hq;have HM:=HM.out.q p4;have HP:=HP.out.q p4;have HA:=HA.out.q p4;have HV:=HV.out.q p4;have HN:=HN.out.q p4;have HB:=pb HB p4;have HR2:=HR2.out.q p4;clear p4;refine hK.out _ _ (⟨HV.out,HN.out,HB.out⟩) fun hHeld=>?_;clear hK K
  (try simp only[Act.put])
  refine wpAnyH_done (by kernel_rfl) ?_ _;go_wp2;exact HA.out.r2 HY.out underlying52 underlying83 ⟨R2,rfl,HR2.out.out.out,HB.out⟩
 ·skip
  have HR:=h_ hR;clear hR;obtain⟨v0,hW0,hb0,hHM,hHP,hHA,hHY⟩:=bxs4 w (mvA R X) (vV a) (#[.int .i64 0,.int .i64 0,.string ⟨#[]⟩]) (#[.slice none 0 0,.bool false,.slice none 0 0,.slice none 0 0,.slice none 0 0,.slice none 0 0,.int .i64 0,.int .i64 0,.slice none 0 0,.slice none 0 0,.slice none 0 0,.slice none 0 0,.string ⟨#[]⟩,.int .i64 0]) 83 52 52 83;have HW:=h_ hW0;have HB:=h_ hb0;have HM:=h_ hHM;have HP:=h_ hHP;have HA:=h_ hHA;have HY:=h_ hHY;clear hW0 hb0 hHM hHP hHA hHY;go_enter func126,ntmps126;go_upto_region 1 with (fail);rw[HW.out];clear HW;have p0:=HP.out.cl 0;by_cases hk:a.k=2;rotate_left
  ·have tk:(a.k != 2)=true:=by rw[bne_iff_ne];exact hk
   have hun:(if (23:Int)=9∨(23:Int)=18∨(23:Int)=20∨(23:Int)=21 then rsX (unS 23 a) X else if a.k=2 then gotX 23 (fetX a.s X) else (v00,abX 1009 X))=(v00,abX 1009 X):=by
    rw[if_neg (by decide),if_neg hk]
   have HUN:=h_ hun;clear hun hk;have hZ2:Z=(v00,abX 1009 X):=HZ.out.symm.trans (HUN.out);subst hZ2;go_wp2_with (refine HM.out.wl 0 (mvA R X) underlying83 ?_);refine(Rwrong_any _ R X _ (bl 4 hD HY) (HR.out.inn HB.out 4)).mono ?_;rintro er w1 ⟨R2,rfl,hr2,hb1⟩;have HM:=HM.out.k hb1;have HP:=HP.out.k hb1;have HA:=HA.out.k hb1;have HY:=HY.out.k hb1;have HB:=bt HB hb1;clear hb1;have HR2:=h_ hr2;clear hr2;go_wp2_with (refine HA.out.wa (vV v00) ?_);intro W1 HA p1;have HM:=HM.out.q p1;have HP:=HP.out.q p1;have HY:=HY.out.q p1;have HB:=pb HB p1;have HR2:=HR2.out.q p1;clear p1;go_wp2_with (refine HY.out.wa (mvA R2 (abX 1009 X)) ?_);intro W2 HY p2;have HM:=HM.out.q p2;have HP:=HP.out.q p2;have HA:=HA.out.q p2;have HB:=pb HB p2;have HR2:=HR2.out.q p2;clear p2;go_wp2;exact HA.out.r2 HY.out underlying52 underlying83 ⟨R2,rfl,HR2.out.out,HB.out⟩
  have tk:(a.k != 2)=false:=by rw[hk];rfl
  have hZ2:Z=gotX 23 (fetX a.s X):=HZ.out.symm.trans (by rw[if_neg (by decide),if_pos hk]);clear p0;obtain⟨p2,p0⟩:=HP.out.d2 2 0;go_wp2_with (refine HM.out.wl 0 (mvA R X) underlying83 ?_);refine(RFetch_any a.s _ R X _ (bl 4 hD HY) (HR.out.inn HB.out 4) HL.out (by have:=HOA.out.2.2;omega)).mono ?_;rintro er w1 ⟨R2,rfl,hr2,hb1⟩;have HM:=HM.out.k hb1;have HP:=HP.out.k hb1;have HA:=HA.out.k hb1;have HY:=HY.out.k hb1;have HB:=bt HB hb1;clear hb1;have HR2:=h_ hr2;clear hr2 p0 p2 tk;obtain⟨gv,hgv⟩:=ex_ ((fetX a.s X).1);obtain⟨X2,hX2⟩:=ex_ ((fetX a.s X).2);rw[show fetX a.s X=(gv,X2) from by rw[←hgv,←hX2]]at hZ2;rw[hX2]at HR2;rw[hgv,hX2];have HZ2:=h_ hZ2;clear hZ2 hgv hX2 hk
  have hsz:w.heap.size+4≤w1.heap.size:=by have:=HY.out.lt;omega
  have HV:=h_ ((Bx.new w1 #[.int .i64 0,.int .i64 0,.string ⟨#[]⟩] 52).alloc (.cells #[.slice none 0 0,.bool false,.slice none 0 0,.slice none 0 0,.slice none 0 0,.slice none 0 0,.int .i64 0,.int .i64 0,.slice none 0 0,.slice none 0 0,.slice none 0 0,.slice none 0 0,.string ⟨#[]⟩,.int .i64 0] 83));have HN:=h_ (Bx.new1 w1 (.cells #[.int .i64 0,.int .i64 0,.string ⟨#[]⟩] 52) #[.slice none 0 0,.bool false,.slice none 0 0,.slice none 0 0,.slice none 0 0,.slice none 0 0,.int .i64 0,.int .i64 0,.slice none 0 0,.slice none 0 0,.slice none 0 0,.slice none 0 0,.string ⟨#[]⟩,.int .i64 0] 83);have HR2:=h_ (HR2.out.inn (Below.refl w1.heap.size w1) 2);have hal:=((Below.refl w1.heap.size w1).alloc (Nat.le_refl _) (.cells #[.int .i64 0,.int .i64 0,.string ⟨#[]⟩] 52)).alloc (by simp) (.cells #[.slice none 0 0,.bool false,.slice none 0 0,.slice none 0 0,.slice none 0 0,.slice none 0 0,.int .i64 0,.int .i64 0,.slice none 0 0,.slice none 0 0,.slice none 0 0,.slice none 0 0,.string ⟨#[]⟩,.int .i64 0] 83);have HM:=HM.out.k hal;have HP:=HP.out.k hal;have HA:=HA.out.k hal;have HY:=HY.out.k hal;have HR2:=HR2.out.k hal;have HB:=bt HB hal;clear hal;go_wp2_with (refine HV.out.wa (vV gv) ?_);intro W1 HV p1;have HM:=HM.out.q p1;have HP:=HP.out.q p1;have HA:=HA.out.q p1;have HY:=HY.out.q p1;have HN:=HN.out.q p1;have HB:=pb HB p1;have HR2:=HR2.out.q p1;clear p1;go_wp2_with (refine HN.out.wa (mvA R2 X2) ?_);intro W2 HN p2;have HM:=HM.out.q p2;have HP:=HP.out.q p2;have HA:=HA.out.q p2;have HY:=HY.out.q p2;have HV:=HV.out.q p2;have HB:=pb HB p2;have HR2:=HR2.out.q p2;clear p2;go_wp2_with (refine HN.out.wl 0 (mvA R2 X2) underlying83 ?_);refine(Rrunning_any R2 X2 _).mono ?_;rintro er w2 ⟨rfl,hb1⟩;have HM:=HM.out.k hb1;have HP:=HP.out.k hb1;have HA:=HA.out.k hb1;have HY:=HY.out.k hb1;have HV:=HV.out.k hb1;have HN:=HN.out.k hb1;have HR2:=HR2.out.k hb1;have HB:=bt HB hb1;clear hb1;by_cases hs:X2.st=0;rotate_left
  ·have ts:(X2.st==0)=false:=by rw[beq_eq_false_iff_ne];exact hs
   have hZ3:Z=(v00,X2):=HZ2.out.trans (if_pos hs);subst hZ3;clear hs;go_wp2_with fail;refine wp_region_held_drew (S:=(fun w'=>Bx w1.heap.size (vV gv) 52 w'∧Bx (w1.heap.size+1) (mvA R2 X2) 83 w'∧Below w.heap.size w w')) (by kernel_rfl) ?_ (fun hHeld=>?_)
   ·exact(show ((fun w'=>Bx w1.heap.size (vV gv) 52 w'∧Bx (w1.heap.size+1) (mvA R2 X2) 83 w'∧Below w.heap.size w w')) w2.drew from by have hb1:=(Below.refl w2.heap.size w2).drew;have HM:=HM.out.k hb1;have HP:=HP.out.k hb1;have HA:=HA.out.k hb1;have HY:=HY.out.k hb1;have HV:=HV.out.k hb1;have HN:=HN.out.k hb1;have HB:=bt HB hb1;exact⟨HV.out,HN.out,HB.out⟩)
   have hb1:=(Below.refl w2.heap.size w2).drew;have HM:=HM.out.k hb1;have HP:=HP.out.k hb1;have HA:=HA.out.k hb1;have HY:=HY.out.k hb1;have HV:=HV.out.k hb1;have HN:=HN.out.k hb1;have HR2:=HR2.out.k hb1;have HB:=bt HB hb1;clear hb1;generalize hWd:w2.drew=D1 at hHeld HB HM HP HA HY HV HN HR2 ⊢;clear hWd;refine tkX 0 76 ?_;simp only[sA,sB,sC];refine tkl2 1 77 (fun _ h=>h.2.1) 0 (mvA R2 X2) underlying83 ?_;simp only[sA,sB,sC];refine rd1 2 fun K hK=>?_;refine Bx.rst HA.out 52 0 (.agg (vV v00)) (vV v00) rfl (Nat.le_of_ble_eq_true rfl) (by kernel_rfl) rfl rfl rfl rfl rfl ?_;intro W3 hq p3;have HA:=h_ hq;clear hq;have HM:=HM.out.q p3;have HP:=HP.out.q p3;have HY:=HY.out.q p3;have HV:=HV.out.q p3;have HN:=HN.out.q p3;have HB:=pb HB p3;have HR2:=HR2.out.q p3;clear p3;refine hK.out _ _ (⟨HV.out,HN.out,HB.out⟩) fun hHeld=>?_;clear hK K
   (try simp only[Act.put])
   refine rd1 3 fun K hK=>?_;refine Bx.rst HY.out 83 0 (.agg (mvA R2 X2)) (mvA R2 X2) rfl (Nat.le_of_ble_eq_true rfl) (by kernel_rfl) rfl rfl rfl rfl rfl ?_;intro W4 hq p4;have HY:=h_ hq;clear hq;have HM:=HM.out.q p4;have HP:=HP.out.q p4;have HA:=HA.out.q p4;have HV:=HV.out.q p4;have HN:=HN.out.q p4;have HB:=pb HB p4;have HR2:=HR2.out.q p4;clear p4;refine hK.out _ _ (⟨HV.out,HN.out,HB.out⟩) fun hHeld=>?_;clear hK K
   (try simp only[Act.put])
   refine wpAnyH_done (by kernel_rfl) ?_ _;go_wp2;exact HA.out.r2 HY.out underlying52 underlying83 ⟨R2,rfl,HR2.out.out.out,HB.out⟩
  have ts:(X2.st==0)=true:=by rw[hs];rfl
  have hZ3:Z=rsX (gotS 23 gv) X2:=HZ2.out.trans (if_neg (fun q=>q hs));clear hs;have v0:=HV.out.cl 0;by_cases h0:gv.k=0
  ·have t0:(gv.k==0)=true:=by rw[h0];rfl
   have hgs:gotS 23 gv=.ok (strVl []):=by unfold gotS;rw[if_neg (by decide),if_pos h0];rfl
   rw[hgs]at hZ3;clear hgs h0;subst hZ3;go_wp2_with fail;refine wp_region_held_drew (S:=(fun w'=>Bx w1.heap.size (vV gv) 52 w'∧Bx (w1.heap.size+1) (mvA R2 X2) 83 w'∧Below w.heap.size w w')) (by kernel_rfl) ?_ (fun hHeld=>?_)
   ·exact(show ((fun w'=>Bx w1.heap.size (vV gv) 52 w'∧Bx (w1.heap.size+1) (mvA R2 X2) 83 w'∧Below w.heap.size w w')) w2.drew from by have hb1:=(Below.refl w2.heap.size w2).drew;have HM:=HM.out.k hb1;have HP:=HP.out.k hb1;have HA:=HA.out.k hb1;have HY:=HY.out.k hb1;have HV:=HV.out.k hb1;have HN:=HN.out.k hb1;have HB:=bt HB hb1;exact⟨HV.out,HN.out,HB.out⟩)
   have hb1:=(Below.refl w2.heap.size w2).drew;have HM:=HM.out.k hb1;have HP:=HP.out.k hb1;have HA:=HA.out.k hb1;have HY:=HY.out.k hb1;have HV:=HV.out.k hb1;have HN:=HN.out.k hb1;have HR2:=HR2.out.k hb1;have HB:=bt HB hb1;clear hb1;skip;generalize hWd:w2.drew=D2 at hHeld HB HM HP HA HY HV HN HR2 ⊢;clear hWd;refine tkX 0 90 ?_;refine tkX 1 91 ?_;simp only[sA,sB,sC];refine tkl2 2 92 (fun _ h=>h.2.1) 0 (mvA R2 X2) underlying83 ?_;simp only[sA,sB,sC];refine rd1 3 fun K hK=>?_;refine Bx.rst HA.out 52 0 (.agg (vV (strVl []))) (vV (strVl [])) rfl (Nat.le_of_ble_eq_true rfl) (by kernel_rfl) rfl rfl rfl rfl rfl ?_;intro W3 hq p3;have HA:=h_ hq;clear hq;have HM:=HM.out.q p3;have HP:=HP.out.q p3;have HY:=HY.out.q p3;have HV:=HV.out.q p3;have HN:=HN.out.q p3;have HB:=pb HB p3;have HR2:=HR2.out.q p3;clear p3;refine hK.out _ _ (⟨HV.out,HN.out,HB.out⟩) fun hHeld=>?_;clear hK K
   (try simp only[Act.put])
   refine rd1 4 fun K hK=>?_;refine Bx.rst HY.out 83 0 (.agg (mvA R2 X2)) (mvA R2 X2) rfl (Nat.le_of_ble_eq_true rfl) (by kernel_rfl) rfl rfl rfl rfl rfl ?_;intro W4 hq p4;have HY:=h_ hq;clear hq;have HM:=HM.out.q p4;have HP:=HP.out.q p4;have HA:=HA.out.q p4;have HV:=HV.out.q p4;have HN:=HN.out.q p4;have HB:=pb HB p4;have HR2:=HR2.out.q p4;clear p4;refine hK.out _ _ (⟨HV.out,HN.out,HB.out⟩) fun hHeld=>?_;clear hK K
   (try simp only[Act.put])
   refine wpAnyH_done (by kernel_rfl) ?_ _;go_wp2;exact HA.out.r2 HY.out underlying52 underlying83 ⟨R2,rfl,HR2.out.out.out,HB.out⟩
  have t0:(gv.k==0)=false:=by rw[beq_eq_false_iff_ne];exact h0
  by_cases hw:gv.k=2;rotate_left
  ·have tw:(gv.k != 2)=true:=by rw[bne_iff_ne];exact hw
   have hgs:gotS 23 gv=.ab 1003:=by unfold gotS;rw[if_neg (by decide),if_neg h0];exact if_neg hw
   rw[hgs]at hZ3;clear hgs h0 hw;subst hZ3;go_wp2_with (refine HN.out.wl 0 (mvA R2 X2) underlying83 ?_);refine(RAbort_any 1003 _ R2 X2 _ (boxD_lt (N:=2) (boxD_lt (N:=4) hD hsz) (show w1.heap.size+2≤_ from by have:=HN.out.lt;omega)) HR2.out).mono ?_;rintro er w3 ⟨R3,rfl,hr3,hb1⟩;have HM:=HM.out.k hb1;have HP:=HP.out.k hb1;have HA:=HA.out.k hb1;have HY:=HY.out.k hb1;have HV:=HV.out.k hb1;have HN:=HN.out.k hb1;have HR2:=HR2.out.k hb1;have HB:=bt HB hb1;clear hb1;have HR3:=h_ hr3;clear hr3;clear v0;go_wp2_with (refine HA.out.wa (vV v00) ?_);intro W3 HA p3;have HM:=HM.out.q p3;have HP:=HP.out.q p3;have HY:=HY.out.q p3;have HV:=HV.out.q p3;have HN:=HN.out.q p3;have HB:=pb HB p3;have HR3:=HR3.out.q p3;clear p3;go_wp2_with (refine HY.out.wa (mvA R3 (abX 1003 X2)) ?_);intro W4 HY p4;have HM:=HM.out.q p4;have HP:=HP.out.q p4;have HA:=HA.out.q p4;have HV:=HV.out.q p4;have HN:=HN.out.q p4;have HB:=pb HB p4;have HR3:=HR3.out.q p4;clear p4;go_wp2;exact HA.out.r2 HY.out underlying52 underlying83 ⟨R3,rfl,HR3.out.out.out,HB.out⟩
  have tw:(gv.k != 2)=false:=by rw[hw];rfl
  have hgs:gotS 23 gv=.ok gv:=by unfold gotS;rw[if_neg (by decide),if_neg h0];exact if_pos hw
  rw[hgs]at hZ3;clear hgs h0 hw;subst hZ3;go_wp2_with fail;refine wp_region_held_drew (S:=(fun w'=>Bx w1.heap.size (vV gv) 52 w'∧Bx (w1.heap.size+1) (mvA R2 X2) 83 w'∧Below w.heap.size w w')) (by kernel_rfl) ?_ (fun hHeld=>?_)
  ·exact(show ((fun w'=>Bx w1.heap.size (vV gv) 52 w'∧Bx (w1.heap.size+1) (mvA R2 X2) 83 w'∧Below w.heap.size w w')) w2.drew from by have hb1:=(Below.refl w2.heap.size w2).drew;have HM:=HM.out.k hb1;have HP:=HP.out.k hb1;have HA:=HA.out.k hb1;have HY:=HY.out.k hb1;have HV:=HV.out.k hb1;have HN:=HN.out.k hb1;have HB:=bt HB hb1;exact⟨HV.out,HN.out,HB.out⟩)
  have hb1:=(Below.refl w2.heap.size w2).drew;have HM:=HM.out.k hb1;have HP:=HP.out.k hb1;have HA:=HA.out.k hb1;have HY:=HY.out.k hb1;have HV:=HV.out.k hb1;have HN:=HN.out.k hb1;have HR2:=HR2.out.k hb1;have HB:=bt HB hb1;clear hb1;generalize hWd:w2.drew=D3 at hHeld HB HM HP HA HY HV HN HR2 ⊢;clear hWd;refine tkl2 0 100 (fun _ h=>h.1) 0 (vV gv) underlying52 ?_;simp only[sA,sB,sC];refine tkl2 1 101 (fun _ h=>h.2.1) 0 (mvA R2 X2) underlying83 ?_;simp only[sA,sB,sC];refine rd1 2 fun K hK=>?_;refine Bx.rst HA.out 52 0 (.agg (vV gv)) (vV gv) rfl (Nat.le_of_ble_eq_true rfl) (by kernel_rfl) rfl rfl rfl rfl rfl ?_;intro W3 hq p3;have HA:=h_ hq;clear hq;have HM:=HM.out.q p3;have HP:=HP.out.q p3;have HY:=HY.out.q p3;have HV:=HV.out.q p3;have HN:=HN.out.q p3;have HB:=pb HB p3;have HR2:=HR2.out.q p3;clear p3;refine hK.out _ _ (⟨HV.out,HN.out,HB.out⟩) fun hHeld=>?_;clear hK K
  (try simp only[Act.put])
  refine rd1 3 fun K hK=>?_;refine Bx.rst HY.out 83 0 (.agg (mvA R2 X2)) (mvA R2 X2) rfl (Nat.le_of_ble_eq_true rfl) (by kernel_rfl) rfl rfl rfl rfl rfl ?_;intro W4 hq p4;have HY:=h_ hq;clear hq;have HM:=HM.out.q p4;have HP:=HP.out.q p4;have HA:=HA.out.q p4;have HV:=HV.out.q p4;have HN:=HN.out.q p4;have HB:=pb HB p4;have HR2:=HR2.out.q p4;clear p4;refine hK.out _ _ (⟨HV.out,HN.out,HB.out⟩) fun hHeld=>?_;clear hK K
  (try simp only[Act.put])
  refine wpAnyH_done (by kernel_rfl) ?_ _;go_wp2;exact HA.out.r2 HY.out underlying52 underlying83 ⟨R2,rfl,HR2.out.out.out,HB.out⟩
 ·skip
  have HR:=h_ hR;clear hR;obtain⟨v0,hW0,hb0,hHM,hHP,hHA,hHY⟩:=bxs4 w (mvA R X) (vV a) (#[.int .i64 0,.int .i64 0,.string ⟨#[]⟩]) (#[.slice none 0 0,.bool false,.slice none 0 0,.slice none 0 0,.slice none 0 0,.slice none 0 0,.int .i64 0,.int .i64 0,.slice none 0 0,.slice none 0 0,.slice none 0 0,.slice none 0 0,.string ⟨#[]⟩,.int .i64 0]) 83 52 52 83;have HW:=h_ hW0;have HB:=h_ hb0;have HM:=h_ hHM;have HP:=h_ hHP;have HA:=h_ hHA;have HY:=h_ hHY;clear hW0 hb0 hHM hHP hHA hHY;go_enter func126,ntmps126;go_upto_region 1 with (fail);rw[HW.out];clear HW;have p0:=HP.out.cl 0;by_cases hk:a.k=2;rotate_left
  ·have tk:(a.k != 2)=true:=by rw[bne_iff_ne];exact hk
   have hun:(if (24:Int)=9∨(24:Int)=18∨(24:Int)=20∨(24:Int)=21 then rsX (unS 24 a) X else if a.k=2 then gotX 24 (fetX a.s X) else (v00,abX 1009 X))=(v00,abX 1009 X):=by
    rw[if_neg (by decide),if_neg hk]
   have HUN:=h_ hun;clear hun hk;have hZ2:Z=(v00,abX 1009 X):=HZ.out.symm.trans (HUN.out);subst hZ2;go_wp2_with (refine HM.out.wl 0 (mvA R X) underlying83 ?_);refine(Rwrong_any _ R X _ (bl 4 hD HY) (HR.out.inn HB.out 4)).mono ?_;rintro er w1 ⟨R2,rfl,hr2,hb1⟩;have HM:=HM.out.k hb1;have HP:=HP.out.k hb1;have HA:=HA.out.k hb1;have HY:=HY.out.k hb1;have HB:=bt HB hb1;clear hb1;have HR2:=h_ hr2;clear hr2;go_wp2_with (refine HA.out.wa (vV v00) ?_);intro W1 HA p1;have HM:=HM.out.q p1;have HP:=HP.out.q p1;have HY:=HY.out.q p1;have HB:=pb HB p1;have HR2:=HR2.out.q p1;clear p1;go_wp2_with (refine HY.out.wa (mvA R2 (abX 1009 X)) ?_);intro W2 HY p2;have HM:=HM.out.q p2;have HP:=HP.out.q p2;have HA:=HA.out.q p2;have HB:=pb HB p2;have HR2:=HR2.out.q p2;clear p2;go_wp2;exact HA.out.r2 HY.out underlying52 underlying83 ⟨R2,rfl,HR2.out.out,HB.out⟩
  have tk:(a.k != 2)=false:=by rw[hk];rfl
  have hZ2:Z=gotX 24 (fetX a.s X):=HZ.out.symm.trans (by rw[if_neg (by decide),if_pos hk]);clear p0;obtain⟨p2,p0⟩:=HP.out.d2 2 0;go_wp2_with (refine HM.out.wl 0 (mvA R X) underlying83 ?_);refine(RFetch_any a.s _ R X _ (bl 4 hD HY) (HR.out.inn HB.out 4) HL.out (by have:=HOA.out.2.2;omega)).mono ?_;rintro er w1 ⟨R2,rfl,hr2,hb1⟩;have HM:=HM.out.k hb1;have HP:=HP.out.k hb1;have HA:=HA.out.k hb1;have HY:=HY.out.k hb1;have HB:=bt HB hb1;clear hb1;have HR2:=h_ hr2;clear hr2 p0 p2 tk;obtain⟨gv,hgv⟩:=ex_ ((fetX a.s X).1);obtain⟨X2,hX2⟩:=ex_ ((fetX a.s X).2);rw[show fetX a.s X=(gv,X2) from by rw[←hgv,←hX2]]at hZ2;rw[hX2]at HR2;rw[hgv,hX2];have HZ2:=h_ hZ2;clear hZ2 hgv hX2 hk
  have hsz:w.heap.size+4≤w1.heap.size:=by have:=HY.out.lt;omega
  have HV:=h_ ((Bx.new w1 #[.int .i64 0,.int .i64 0,.string ⟨#[]⟩] 52).alloc (.cells #[.slice none 0 0,.bool false,.slice none 0 0,.slice none 0 0,.slice none 0 0,.slice none 0 0,.int .i64 0,.int .i64 0,.slice none 0 0,.slice none 0 0,.slice none 0 0,.slice none 0 0,.string ⟨#[]⟩,.int .i64 0] 83));have HN:=h_ (Bx.new1 w1 (.cells #[.int .i64 0,.int .i64 0,.string ⟨#[]⟩] 52) #[.slice none 0 0,.bool false,.slice none 0 0,.slice none 0 0,.slice none 0 0,.slice none 0 0,.int .i64 0,.int .i64 0,.slice none 0 0,.slice none 0 0,.slice none 0 0,.slice none 0 0,.string ⟨#[]⟩,.int .i64 0] 83);have HR2:=h_ (HR2.out.inn (Below.refl w1.heap.size w1) 2);have hal:=((Below.refl w1.heap.size w1).alloc (Nat.le_refl _) (.cells #[.int .i64 0,.int .i64 0,.string ⟨#[]⟩] 52)).alloc (by simp) (.cells #[.slice none 0 0,.bool false,.slice none 0 0,.slice none 0 0,.slice none 0 0,.slice none 0 0,.int .i64 0,.int .i64 0,.slice none 0 0,.slice none 0 0,.slice none 0 0,.slice none 0 0,.string ⟨#[]⟩,.int .i64 0] 83);have HM:=HM.out.k hal;have HP:=HP.out.k hal;have HA:=HA.out.k hal;have HY:=HY.out.k hal;have HR2:=HR2.out.k hal;have HB:=bt HB hal;clear hal;go_wp2_with (refine HV.out.wa (vV gv) ?_);intro W1 HV p1;have HM:=HM.out.q p1;have HP:=HP.out.q p1;have HA:=HA.out.q p1;have HY:=HY.out.q p1;have HN:=HN.out.q p1;have HB:=pb HB p1;have HR2:=HR2.out.q p1;clear p1;go_wp2_with (refine HN.out.wa (mvA R2 X2) ?_);intro W2 HN p2;have HM:=HM.out.q p2;have HP:=HP.out.q p2;have HA:=HA.out.q p2;have HY:=HY.out.q p2;have HV:=HV.out.q p2;have HB:=pb HB p2;have HR2:=HR2.out.q p2;clear p2;go_wp2_with (refine HN.out.wl 0 (mvA R2 X2) underlying83 ?_);refine(Rrunning_any R2 X2 _).mono ?_;rintro er w2 ⟨rfl,hb1⟩;have HM:=HM.out.k hb1;have HP:=HP.out.k hb1;have HA:=HA.out.k hb1;have HY:=HY.out.k hb1;have HV:=HV.out.k hb1;have HN:=HN.out.k hb1;have HR2:=HR2.out.k hb1;have HB:=bt HB hb1;clear hb1;by_cases hs:X2.st=0;rotate_left
  ·have ts:(X2.st==0)=false:=by rw[beq_eq_false_iff_ne];exact hs
   have hZ3:Z=(v00,X2):=HZ2.out.trans (if_pos hs);subst hZ3;clear hs;go_wp2_with fail;refine wp_region_held_drew (S:=(fun w'=>Bx w1.heap.size (vV gv) 52 w'∧Bx (w1.heap.size+1) (mvA R2 X2) 83 w'∧Below w.heap.size w w')) (by kernel_rfl) ?_ (fun hHeld=>?_)
   ·exact(show ((fun w'=>Bx w1.heap.size (vV gv) 52 w'∧Bx (w1.heap.size+1) (mvA R2 X2) 83 w'∧Below w.heap.size w w')) w2.drew from by have hb1:=(Below.refl w2.heap.size w2).drew;have HM:=HM.out.k hb1;have HP:=HP.out.k hb1;have HA:=HA.out.k hb1;have HY:=HY.out.k hb1;have HV:=HV.out.k hb1;have HN:=HN.out.k hb1;have HB:=bt HB hb1;exact⟨HV.out,HN.out,HB.out⟩)
   have hb1:=(Below.refl w2.heap.size w2).drew;have HM:=HM.out.k hb1;have HP:=HP.out.k hb1;have HA:=HA.out.k hb1;have HY:=HY.out.k hb1;have HV:=HV.out.k hb1;have HN:=HN.out.k hb1;have HR2:=HR2.out.k hb1;have HB:=bt HB hb1;clear hb1;generalize hWd:w2.drew=D1 at hHeld HB HM HP HA HY HV HN HR2 ⊢;clear hWd;refine tkX 0 76 ?_;simp only[sA,sB,sC];refine tkl2 1 77 (fun _ h=>h.2.1) 0 (mvA R2 X2) underlying83 ?_;simp only[sA,sB,sC];refine rd1 2 fun K hK=>?_;refine Bx.rst HA.out 52 0 (.agg (vV v00)) (vV v00) rfl (Nat.le_of_ble_eq_true rfl) (by kernel_rfl) rfl rfl rfl rfl rfl ?_;intro W3 hq p3;have HA:=h_ hq;clear hq;have HM:=HM.out.q p3;have HP:=HP.out.q p3;have HY:=HY.out.q p3;have HV:=HV.out.q p3;have HN:=HN.out.q p3;have HB:=pb HB p3;have HR2:=HR2.out.q p3;clear p3;refine hK.out _ _ (⟨HV.out,HN.out,HB.out⟩) fun hHeld=>?_;clear hK K
   (try simp only[Act.put])
   refine rd1 3 fun K hK=>?_;refine Bx.rst HY.out 83 0 (.agg (mvA R2 X2)) (mvA R2 X2) rfl (Nat.le_of_ble_eq_true rfl) (by kernel_rfl) rfl rfl rfl rfl rfl ?_;intro W4 hq p4;have HY:=h_ hq;clear hq;have HM:=HM.out.q p4;have HP:=HP.out.q p4;have HA:=HA.out.q p4;have HV:=HV.out.q p4;have HN:=HN.out.q p4;have HB:=pb HB p4;have HR2:=HR2.out.q p4;clear p4;refine hK.out _ _ (⟨HV.out,HN.out,HB.out⟩) fun hHeld=>?_;clear hK K
   (try simp only[Act.put])
   refine wpAnyH_done (by kernel_rfl) ?_ _;go_wp2;exact HA.out.r2 HY.out underlying52 underlying83 ⟨R2,rfl,HR2.out.out.out,HB.out⟩
  have ts:(X2.st==0)=true:=by rw[hs];rfl
  have hZ3:Z=rsX (gotS 24 gv) X2:=HZ2.out.trans (if_neg (fun q=>q hs));clear hs
  have hgs:gotS 24 gv=.ok (truV (gv.k != 0)):=by unfold gotS;rw[if_pos rfl];congr 2;by_cases h:gv.k=0<;>simp[h]
  rw[hgs]at hZ3;clear hgs;subst hZ3;go_wp2_with fail;refine wp_region_held_drew (S:=(fun w'=>Bx w1.heap.size (vV gv) 52 w'∧Bx (w1.heap.size+1) (mvA R2 X2) 83 w'∧Below w.heap.size w w')) (by kernel_rfl) ?_ (fun hHeld=>?_)
  ·exact(show ((fun w'=>Bx w1.heap.size (vV gv) 52 w'∧Bx (w1.heap.size+1) (mvA R2 X2) 83 w'∧Below w.heap.size w w')) w2.drew from by have hb1:=(Below.refl w2.heap.size w2).drew;have HM:=HM.out.k hb1;have HP:=HP.out.k hb1;have HA:=HA.out.k hb1;have HY:=HY.out.k hb1;have HV:=HV.out.k hb1;have HN:=HN.out.k hb1;have HB:=bt HB hb1;exact⟨HV.out,HN.out,HB.out⟩)
  have hb1:=(Below.refl w2.heap.size w2).drew;have HM:=HM.out.k hb1;have HP:=HP.out.k hb1;have HA:=HA.out.k hb1;have HY:=HY.out.k hb1;have HV:=HV.out.k hb1;have HN:=HN.out.k hb1;have HR2:=HR2.out.k hb1;have HB:=bt HB hb1;clear hb1;generalize hWd:w2.drew=D2 at hHeld HB HM HP HA HY HV HN HR2 ⊢;clear hWd;refine tkX 0 80 ?_;refine tkY 1 (v:=?vv18) 81 ?yy18 ?_
  case yy18 =>
   intro wq hSw;have z1:wq.cell? ⟨w1.heap.size,0,none⟩=some (.int .i64 gv.k):=hSw.1.cell 0;clear hSw;go_simp
   (try with_reducible rfl)
  refine tkX 2 82 ?_;simp only[sA,sB,sC];refine tkl2 4 84 (fun _ h=>h.2.1) 0 (mvA R2 X2) underlying83 ?_;simp only[sA,sB,sC];refine rd1 3 fun K hK=>?_;go_simp;refine(Rtruth_any (gv.k != 0) _).mono ?_;rintro er u1 ⟨rfl,hb1⟩;have HM:=HM.out.k hb1;have HP:=HP.out.k hb1;have HA:=HA.out.k hb1;have HY:=HY.out.k hb1;have HV:=HV.out.k hb1;have HN:=HN.out.k hb1;have HR2:=HR2.out.k hb1;have HB:=bt HB hb1;clear hb1;refine hK.out _ _ (⟨HV.out,HN.out,HB.out⟩) fun hHeld=>?_;clear hK K
  (try simp only[Act.put,sA,sB,sC])
  refine rd1 5 fun K hK=>?_;refine Bx.rst HA.out 52 0 (.agg (vV (truV (gv.k != 0)))) (vV (truV (gv.k != 0))) rfl (Nat.le_of_ble_eq_true rfl) (by kernel_rfl) rfl rfl rfl rfl rfl ?_;intro W3 hq p3;have HA:=h_ hq;clear hq;have HM:=HM.out.q p3;have HP:=HP.out.q p3;have HY:=HY.out.q p3;have HV:=HV.out.q p3;have HN:=HN.out.q p3;have HB:=pb HB p3;have HR2:=HR2.out.q p3;clear p3;refine hK.out _ _ (⟨HV.out,HN.out,HB.out⟩) fun hHeld=>?_;clear hK K
  (try simp only[Act.put])
  refine rd1 6 fun K hK=>?_;refine Bx.rst HY.out 83 0 (.agg (mvA R2 X2)) (mvA R2 X2) rfl (Nat.le_of_ble_eq_true rfl) (by kernel_rfl) rfl rfl rfl rfl rfl ?_;intro W4 hq p4;have HY:=h_ hq;clear hq;have HM:=HM.out.q p4;have HP:=HP.out.q p4;have HA:=HA.out.q p4;have HV:=HV.out.q p4;have HN:=HN.out.q p4;have HB:=pb HB p4;have HR2:=HR2.out.q p4;clear p4;refine hK.out _ _ (⟨HV.out,HN.out,HB.out⟩) fun hHeld=>?_;clear hK K
  (try simp only[Act.put])
  refine wpAnyH_done (by kernel_rfl) ?_ _;go_wp2;exact HA.out.r2 HY.out underlying52 underlying83 ⟨R2,rfl,HR2.out.out.out,HB.out⟩
def opsX (op:Int) (l:List Vl) (X:Rx):Vl × Rx:=match l with
 | [a]=>oneX op a X
 | [a,b]=>rsX (binS op a b) X
 | _=>(v00,abX 1009 X)
theorem ROperate_any(op:Int)(l:List Vl)(la:Option Addr)(lc:Nat)(D:Nat→Prop)(R:Ra)(X:Rx)(w:World)(hD:∀k,D k→k<w.heap.size)(hR:Stab D w (RIn R X))(hl:RL X)(hst:X.st=0)(hL:CellsAt w (.slice la l.length lc) l.length (vlLs l))(hg:∀v∈l,GdV v)(hop:(l.length=1∧(op=9∨op=18∨op=20∨op=21∨op=22∨op=23∨op=24))∨(l.length=2∧((op=4∨op=5∨op=6∨op=7∨op=8)∨op=16∨op=17∨op=19∨(op=10∨op=11∨op=12∨op=13∨op=14∨op=15)))∨l.length=0):
  Calls prog 105 #[.agg (mvA R X),.int .i64 op,.slice la l.length lc] w (VPo D (opsX op l X).1 (opsX op l X).2 w):=by
 rcases hop with ⟨hn,hop⟩|⟨hn,hop⟩|hn
 ·skip
  obtain⟨a,rfl⟩:∃a,l=[a]:=by match l,hn with|[a],_=>exact⟨a,rfl⟩
  obtain⟨bb,off,rfl,c0,c1,c2⟩:=vl_cells hL (k:=0) (by simp);simp only[Nat.zero_mul,Nat.add_zero,List.getElem_cons_zero]at c0 c1 c2;have HG:=h_ (hg a (by simp));have HC0:=h_ c0;have HC1:=h_ c1;have HC2:=h_ c2;clear c0 c1 c2 hL hg hn;have HOP:=h_ hop;clear hop;have HR:=h_ hR;clear hR;have HL:=h_ hl;have HST:=h_ hst;clear hl hst;obtain⟨v0,hW0,hb0,hHM,hHA,hHY⟩:=bxs3 w (mvA R X) (#[.int .i64 0,.int .i64 0,.string ⟨#[]⟩]) (#[.slice none 0 0,.bool false,.slice none 0 0,.slice none 0 0,.slice none 0 0,.slice none 0 0,.int .i64 0,.int .i64 0,.slice none 0 0,.slice none 0 0,.slice none 0 0,.slice none 0 0,.string ⟨#[]⟩,.int .i64 0]) 83 52 83;have HW:=h_ hW0;have HB:=h_ hb0;have HM:=h_ hHM;have HA:=h_ hHA;have HY:=h_ hHY;clear hW0 hb0 hHM hHA hHY;go_enter func105,ntmps105;go_upto_region 1 with (fail);rw[HW.out];clear HW;go_wp2_with fail;refine wp_region_held_drew (S:=(fun w'=>Bx w.heap.size (mvA R X) 83 w'∧Below w.heap.size w w')) (by kernel_rfl) ?_ (fun hHeld=>?_)
  ·exact(show ((fun w'=>Bx w.heap.size (mvA R X) 83 w'∧Below w.heap.size w w')) v0.drew from by have hb1:=(Below.refl v0.heap.size v0).drew;have HM:=HM.out.k hb1;have HA:=HA.out.k hb1;have HY:=HY.out.k hb1;have HB:=bt HB hb1;exact⟨HM.out,HB.out⟩)
  have hb1:=(Below.refl v0.heap.size v0).drew;have HM:=HM.out.k hb1;have HA:=HA.out.k hb1;have HY:=HY.out.k hb1;have HB:=bt HB hb1;clear hb1;generalize hWd:v0.drew=D1 at hHeld HB HM HA HY ⊢;clear hWd;refine tkl2 0 25 (fun _ h=>h.1) 0 (mvA R X) underlying83 ?_;refine tkX 1 26 ?_;refine tkX 2 27 ?_;refine tkX 3 28 ?_;refine tkY 4 (v:=?vv23) 29 ?yy23 ?_
  case yy23 =>
   intro wq hSw;have z0:=cell1_below HC0.out (show Below w.heap.size w wq from hSw.2);have z1:=cell1_below HC1.out (show Below w.heap.size w wq from hSw.2);have z2:=cell1_below HC2.out (show Below w.heap.size w wq from hSw.2);clear hSw;go_simp
   (try with_reducible rfl)
  simp only[sA,sB,sC];refine rd1 5 fun K hK=>?_;go_simp;refine(Rone_any op a _ R X _ (bl 3 hD HY) (HR.out.inn HB.out 3) HL.out HST.out HG.out HOP.out).mono ?_;rintro er u1 ⟨R2,rfl,hr2,hb1⟩;have HM:=HM.out.k hb1;have HA:=HA.out.k hb1;have HY:=HY.out.k hb1;have HB:=bt HB hb1;clear hb1;refine hK.out _ _ (⟨HM.out,HB.out⟩) fun hHeld=>?_;clear hK K
  (try simp only[Act.put,sA,sB,sC])
  have HR2:=h_ hr2;clear hr2;refine tkX 6 31 ?_;refine tkX 7 32 ?_;simp only[sA,sB,sC];refine rd1 8 fun K hK=>?_;refine Bx.rst HA.out 52 0 (.agg (vV (oneX op a X).1)) (vV (oneX op a X).1) rfl (Nat.le_of_ble_eq_true rfl) (by kernel_rfl) rfl rfl rfl rfl rfl ?_;intro W1 hq p1;have HA:=h_ hq;clear hq;have HM:=HM.out.q p1;have HY:=HY.out.q p1;have HB:=pb HB p1;have HR2:=HR2.out.q p1;clear p1;refine hK.out _ _ (⟨HM.out,HB.out⟩) fun hHeld=>?_;clear hK K
  (try simp only[Act.put])
  refine rd1 9 fun K hK=>?_;refine Bx.rst HY.out 83 0 (.agg (mvA R2 (oneX op a X).2)) (mvA R2 (oneX op a X).2) rfl (Nat.le_of_ble_eq_true rfl) (by kernel_rfl) rfl rfl rfl rfl rfl ?_;intro W2 hq p2;have HY:=h_ hq;clear hq;have HM:=HM.out.q p2;have HA:=HA.out.q p2;have HB:=pb HB p2;have HR2:=HR2.out.q p2;clear p2;refine hK.out _ _ (⟨HM.out,HB.out⟩) fun hHeld=>?_;clear hK K
  (try simp only[Act.put])
  refine wpAnyH_done (by kernel_rfl) ?_ _;go_wp2;exact HA.out.r2 HY.out underlying52 underlying83 ⟨R2,rfl,HR2.out.out,HB.out⟩
 ·skip
  obtain⟨a,b,rfl⟩:∃a b,l=[a,b]:=by match l,hn with|[a,b],_=>exact⟨a,b,rfl⟩
  obtain⟨bb,off,rfl,c0,c1,c2⟩:=vl_cells hL (k:=0) (by simp);simp only[Nat.zero_mul,Nat.add_zero,List.getElem_cons_zero]at c0 c1 c2;have HG:=h_ (hg a (by simp));obtain⟨b3,o3,hbe,d0,d1,d2⟩:=vl_cells hL (k:=1) (by simp);cases hbe;simp only[Nat.one_mul,List.getElem_cons_zero,List.getElem_cons_succ]at d0 d1 d2;have HG2:=h_ (hg b (by simp));have HD0:=h_ d0;have HD1:=h_ d1;have HD2:=h_ d2;clear d0 d1 d2;have HC0:=h_ c0;have HC1:=h_ c1;have HC2:=h_ c2;clear c0 c1 c2 hL hg hn;have HOP:=h_ hop;clear hop;have HR:=h_ hR;clear hR;have HL:=h_ hl;have HST:=h_ hst;clear hl hst;obtain⟨v0,hW0,hb0,hHM,hHA,hHY⟩:=bxs3 w (mvA R X) (#[.int .i64 0,.int .i64 0,.string ⟨#[]⟩]) (#[.slice none 0 0,.bool false,.slice none 0 0,.slice none 0 0,.slice none 0 0,.slice none 0 0,.int .i64 0,.int .i64 0,.slice none 0 0,.slice none 0 0,.slice none 0 0,.slice none 0 0,.string ⟨#[]⟩,.int .i64 0]) 83 52 83;have HW:=h_ hW0;have HB:=h_ hb0;have HM:=h_ hHM;have HA:=h_ hHA;have HY:=h_ hHY;clear hW0 hb0 hHM hHA hHY;go_enter func105,ntmps105;go_upto_region 1 with (fail);rw[HW.out];clear HW;go_wp2_with fail;refine wp_region_held_drew (S:=(fun w'=>Bx w.heap.size (mvA R X) 83 w'∧Below w.heap.size w w')) (by kernel_rfl) ?_ (fun hHeld=>?_)
  ·exact(show ((fun w'=>Bx w.heap.size (mvA R X) 83 w'∧Below w.heap.size w w')) v0.drew from by have hb1:=(Below.refl v0.heap.size v0).drew;have HM:=HM.out.k hb1;have HA:=HA.out.k hb1;have HY:=HY.out.k hb1;have HB:=bt HB hb1;exact⟨HM.out,HB.out⟩)
  have hb1:=(Below.refl v0.heap.size v0).drew;have HM:=HM.out.k hb1;have HA:=HA.out.k hb1;have HY:=HY.out.k hb1;have HB:=bt HB hb1;clear hb1;generalize hWd:v0.drew=D1 at hHeld HB HM HA HY ⊢;clear hWd;refine tkl2 0 11 (fun _ h=>h.1) 0 (mvA R X) underlying83 ?_;refine tkX 1 12 ?_;refine tkX 2 13 ?_;refine tkX 3 14 ?_;refine tkY 4 (v:=?vv29) 15 ?yy29 ?_
  case yy29 =>
   intro wq hSw;have z0:=cell1_below HC0.out (show Below w.heap.size w wq from hSw.2);have z1:=cell1_below HC1.out (show Below w.heap.size w wq from hSw.2);have z2:=cell1_below HC2.out (show Below w.heap.size w wq from hSw.2);clear hSw;go_simp
   (try with_reducible rfl)
  refine tkX 5 16 ?_;refine tkX 6 17 ?_;refine tkY 7 (v:=?vv32) 18 ?yy32 ?_
  case yy32 =>
   intro wq hSw;have z0:=cell1_below HD0.out (show Below w.heap.size w wq from hSw.2);have z1:=cell1_below HD1.out (show Below w.heap.size w wq from hSw.2);have z2:=cell1_below HD2.out (show Below w.heap.size w wq from hSw.2);clear hSw;go_simp
   (try with_reducible rfl)
  simp only[sA,sB,sC];refine rd1 8 fun K hK=>?_;go_simp;refine(Rtwo_any op a b _ R X _ (bl 3 hD HY) (HR.out.inn HB.out 3) HG.out HG2.out HOP.out).mono ?_;rintro er u1 ⟨R2,rfl,hr2,hb1⟩;have HM:=HM.out.k hb1;have HA:=HA.out.k hb1;have HY:=HY.out.k hb1;have HB:=bt HB hb1;clear hb1;refine hK.out _ _ (⟨HM.out,HB.out⟩) fun hHeld=>?_;clear hK K
  (try simp only[Act.put,sA,sB,sC])
  have HR2:=h_ hr2;clear hr2;refine tkX 9 20 ?_;refine tkX 10 21 ?_;simp only[sA,sB,sC];refine rd1 11 fun K hK=>?_;refine Bx.rst HA.out 52 0 (.agg (vV (rsX (binS op a b) X).1)) (vV (rsX (binS op a b) X).1) rfl (Nat.le_of_ble_eq_true rfl) (by kernel_rfl) rfl rfl rfl rfl rfl ?_;intro W1 hq p1;have HA:=h_ hq;clear hq;have HM:=HM.out.q p1;have HY:=HY.out.q p1;have HB:=pb HB p1;have HR2:=HR2.out.q p1;clear p1;refine hK.out _ _ (⟨HM.out,HB.out⟩) fun hHeld=>?_;clear hK K
  (try simp only[Act.put])
  refine rd1 12 fun K hK=>?_;refine Bx.rst HY.out 83 0 (.agg (mvA R2 (rsX (binS op a b) X).2)) (mvA R2 (rsX (binS op a b) X).2) rfl (Nat.le_of_ble_eq_true rfl) (by kernel_rfl) rfl rfl rfl rfl rfl ?_;intro W2 hq p2;have HY:=h_ hq;clear hq;have HM:=HM.out.q p2;have HA:=HA.out.q p2;have HB:=pb HB p2;have HR2:=HR2.out.q p2;clear p2;refine hK.out _ _ (⟨HM.out,HB.out⟩) fun hHeld=>?_;clear hK K
  (try simp only[Act.put])
  refine wpAnyH_done (by kernel_rfl) ?_ _;go_wp2;exact HA.out.r2 HY.out underlying52 underlying83 ⟨R2,rfl,HR2.out.out,HB.out⟩
 ·obtain rfl:l=[]:=List.eq_nil_of_length_eq_zero hn
  clear hL hg hn;have HR:=h_ hR;clear hR;have HL:=h_ hl;have HST:=h_ hst;clear hl hst;obtain⟨v0,hW0,hb0,hHM,hHA,hHY⟩:=bxs3 w (mvA R X) (#[.int .i64 0,.int .i64 0,.string ⟨#[]⟩]) (#[.slice none 0 0,.bool false,.slice none 0 0,.slice none 0 0,.slice none 0 0,.slice none 0 0,.int .i64 0,.int .i64 0,.slice none 0 0,.slice none 0 0,.slice none 0 0,.slice none 0 0,.string ⟨#[]⟩,.int .i64 0]) 83 52 83;have HW:=h_ hW0;have HB:=h_ hb0;have HM:=h_ hHM;have HA:=h_ hHA;have HY:=h_ hHY;clear hW0 hb0 hHM hHA hHY;go_enter func105,ntmps105;go_upto_region 1 with (fail);rw[HW.out];clear HW;go_wp2_with (refine HM.out.wl 0 (mvA R X) underlying83 ?_);refine(Rwrong_any _ R X _ (bl 3 hD HY) (HR.out.inn HB.out 3)).mono ?_;rintro er w1 ⟨R2,rfl,hr2,hb1⟩;have HM:=HM.out.k hb1;have HA:=HA.out.k hb1;have HY:=HY.out.k hb1;have HB:=bt HB hb1;clear hb1;have HR2:=h_ hr2;clear hr2;go_wp2_with (refine HA.out.wa (vV v00) ?_);intro W1 HA p1;have HM:=HM.out.q p1;have HY:=HY.out.q p1;have HB:=pb HB p1;have HR2:=HR2.out.q p1;clear p1;go_wp2_with (refine HY.out.wa (mvA R2 (abX 1009 X)) ?_);intro W2 HY p2;have HM:=HM.out.q p2;have HA:=HA.out.q p2;have HB:=pb HB p2;have HR2:=HR2.out.q p2;clear p2;go_wp2;exact HA.out.r2 HY.out underlying52 underlying83 ⟨R2,rfl,HR2.out.out,HB.out⟩
theorem Rasc15_any(a:Option Addr)(cap:Nat)(M:List (List UInt8))(w:World)(hl:M.length≤9000000000000)(hx:∀q∈M,q.length≤9223372036854775807)(hM:StrS w (.slice a M.length cap) M):
  Calls prog 72 #[.slice a M.length cap] w fun e w'=>e=.returned (.bool (ascS M))∧Below w.heap.size w w':=by
 obtain⟨R,hR⟩:=ex_ (ascS M);rw[hR];have HR:=h_ hR;have HM:=h_ hM;have HX:=h_ hx;clear hR hM hx;go_enter func72,ntmps72;go_wp2;go_loopw [3] (fun i wr=>∃k:Nat,k≤M.length∧i=.int .i64 k∧Hid ((List.range k).all (stpK M)=true)∧Below w.heap.size w wr) (fun i _=>M.length-(intOf i).toNat)
 case atStart=>exact⟨0,Nat.zero_le _,by first|exact True.intro|rfl,h_ rfl,Below.refl _ _⟩
 case round =>
  obtain⟨k,hk,rfl,HQ,hB⟩:=hrel;have HB:=h_ hB;clear hB;by_cases hlt:k<M.length
  ·have hlt':(k:Int)<(M.length:Int):=by omega
   have hkb:(0:Int)≤(k:Int)∧(k:Int)<(M.length:Int):=⟨by omega,by omega⟩
   have hw1:IntKind.i64.wrap ((k:Int)+1)=(k:Int)+1:=by rw[IntKind.wrap_i64];omega
   obtain⟨b,off,rfl,p0⟩:=str_cell (HM.out.below HB.out) hlt;obtain⟨m,hm⟩:=ex_ (M[k]);rw[hm]at p0
   have hmk:m.length≤9223372036854775807:=by have:=HX.out _ (List.getElem_mem hlt);rw[hm]at this;exact this
   have HMK:=h_ (show M.getD k []=m by rw[getD_at hlt,hm]);clear hm;obtain⟨kb,hkb2⟩:=ex_ (keyB m);have HKB:=h_ hkb2;clear hkb2
   cases kb with
   | false =>
    have HF:=h_ (show R=false from HR.out.symm.trans (by unfold ascS ascK;rw[rng_bad hlt (by unfold stpK;rw[HMK.out,HKB.out];rfl)];rfl));go_wp2_with fail;have HP0:=h_ p0;refine wp_region_held_drew (S:=(fun w'=>Below wr.heap.size wr w')) (by kernel_rfl) ?_ (fun hHeld=>?_)
    ·exact(Below.refl _ _).drew
    refine tkX 0 10 ?_;refine tkX 1 11 ?_;refine tkX 2 12 ?_;refine tkY 3 (v:=?vv4) 13 ?yy4 ?_
    case yy4 =>
     intro wq hSw;have z0:=cell1_below HP0.out hSw;clear hSw;go_simp
     (try with_reducible rfl)
    simp only[sA,sB,sC];refine rd1 4 fun K hK=>?_;go_simp
    (refine(RKValid_any m _ hmk).mono ?_;rw[HKB.out];rintro er w1 ⟨rfl,rfl⟩)
    focus (try go_wp2_with fail)
    refine hK.out _ _ (hHeld) fun hHeld=>?_;clear hK K
    (try simp only[Act.put,sA,sB,sC])
    refine tkX 5 15 ?_;refine tkX 6 16 ?_;refine tkZ 7 17 ?_;refine tkZ 8 18 ?_;refine tkZ 9 19 ?_;refine tkZ 10 20 ?_;refine tkZ 11 21 ?_;refine tkZ 12 22 ?_;refine tkZ 13 23 ?_;refine tkZ 14 24 ?_;refine tkZ 15 25 ?_;refine tkZ 16 26 ?_;refine tkZ 17 27 ?_;refine tkZ 18 28 ?_;refine tkZ 19 29 ?_;refine tkZ 20 30 ?_;refine tkX 21 31 ?_;simp only[sA,sB,sC];refine wpAnyH_done (by kernel_rfl) ?_ _;clear hHeld;have HB:=h_ (HB.out.trans (Below.refl _ _).drew);go_wp2;go_ret;exact⟨by rw[HF.out]<;>rfl,HB.out⟩
   | true =>
    rcases k with _|j
    ·have HN:=h_ (rng_step HQ.out (show stpK M 0=true by unfold stpK;rw[HMK.out,HKB.out];rfl))
     rw[Nat.add_zero]at p0;go_wp2_with fail;have HP0:=h_ p0;refine wp_region_held_drew (S:=(fun w'=>Below wr.heap.size wr w')) (by kernel_rfl) ?_ (fun hHeld=>?_)
     ·exact(Below.refl _ _).drew
     refine tkX 0 10 ?_;refine tkX 1 11 ?_;refine tkX 2 12 ?_;refine tkY 3 (v:=?vv11) 13 ?yy11 ?_
     case yy11 =>
      intro wq hSw;have z0:=cell1_below HP0.out hSw;clear hSw;go_simp
      (try with_reducible rfl)
     simp only[sA,sB,sC];refine rd1 4 fun K hK=>?_;go_simp
     (refine(RKValid_any m _ hmk).mono ?_;rw[HKB.out];rintro er w1 ⟨rfl,rfl⟩)
     focus (try go_wp2_with fail)
     refine hK.out _ _ (hHeld) fun hHeld=>?_;clear hK K
     (try simp only[Act.put,sA,sB,sC])
     refine tkX 5 15 ?_;refine tkX 6 16 ?_;refine tkX 7 17 ?_;refine tkX 8 18 ?_;refine tkX 9 19 ?_;refine tkZ 10 20 ?_;refine tkZ 11 21 ?_;refine tkZ 12 22 ?_;refine tkZ 13 23 ?_;refine tkZ 14 24 ?_;refine tkZ 15 25 ?_;refine tkZ 16 26 ?_;refine tkZ 17 27 ?_;refine tkZ 18 28 ?_;refine tkZ 19 29 ?_;refine tkX 20 30 ?_;refine tkX 21 31 ?_;simp only[sA,sB,sC];refine wpAnyH_done (by kernel_rfl) ?_ _;clear hHeld;have HB:=h_ (HB.out.trans (Below.refl _ _).drew);go_wp2;go_roundw
     case rel=>exact⟨1,by omega,by go_num,HN,HB.out⟩
     case measure=>simp[intOf];omega
    have hj:j<M.length:=by omega
    obtain⟨b2,off2,hbe,q0⟩:=str_cell (HM.out.below HB.out) hj;cases hbe;obtain⟨m2,hm2⟩:=ex_ (M[j]);rw[hm2]at q0;have HMJ:=h_ (show M.getD j []=m2 by rw[getD_at hj,hm2]);clear hm2
    have hwj:IntKind.i64.wrap (((j+1:Nat):Int)-1)=(j:Int):=by rw[IntKind.wrap_i64];omega
    have hwj2:IntKind.i64.wrap ((j:Int)+1-1)=(j:Int):=by rw[IntKind.wrap_i64];omega
    have hwj3:IntKind.i64.wrap (j:Int)=(j:Int):=by rw[IntKind.wrap_i64];omega
    have hj0:(0:Int)≤(j:Int):=by omega
    have hgt:(0:Int)<((j+1:Nat):Int):=by omega
    have hgt2:(0:Int)<(j:Int)+1:=by omega
    have hge2:(0:Int)≤(j:Int)+1:=by omega
    have hj':(j:Int)<(M.length:Int):=by omega
    obtain⟨lb,hlb⟩:=ex_ (Op.bytesLess m2 m);have HLB:=h_ hlb;go_wp2_with fail;have HP0:=h_ p0;have HQ0:=h_ q0;refine wp_region_held_drew (S:=(fun w'=>Below wr.heap.size wr w')) (by kernel_rfl) ?_ (fun hHeld=>?_)
    ·exact(Below.refl _ _).drew
    refine tkX 0 10 ?_;refine tkX 1 11 ?_;refine tkX 2 12 ?_;refine tkY 3 (v:=?vv22) 13 ?yy22 ?_
    case yy22 =>
     intro wq hSw;have z0:=cell1_below HP0.out hSw;clear hSw;go_simp
     (try with_reducible rfl)
    simp only[sA,sB,sC];refine rd1 4 fun K hK=>?_;go_simp
    (refine(RKValid_any m _ hmk).mono ?_;rw[HKB.out];rintro er w1 ⟨rfl,rfl⟩)
    focus (try go_wp2_with fail)
    refine hK.out _ _ (hHeld) fun hHeld=>?_;clear hK K
    (try simp only[Act.put,sA,sB,sC])
    refine tkX 5 15 ?_;refine tkX 6 16 ?_;refine tkX 7 17 ?_;refine tkX 8 18 ?_;refine tkX 9 19 ?_;refine tkX 10 20 ?_;refine tkX 11 21 ?_;refine tkX 12 22 ?_;refine tkY 13 (v:=?vv31) 23 ?yy31 ?_
    case yy31 =>
     intro wq hSw;have z0:=cell1_below HP0.out hSw;clear hSw;go_simp
     (try with_reducible rfl)
    refine tkX 14 24 ?_;refine tkX 15 25 ?_;refine tkX 16 26 ?_;refine tkX 17 27 ?_;refine tkY 18 (v:=?vv36) 28 ?yy36 ?_
    case yy36 =>
     intro wq hSw;have z0:=cell1_below HQ0.out hSw;clear hSw;go_simp
     (try with_reducible rfl)
    simp only[sA,sB,sC];have hleq:=bl_leq HLB.out;refine takeH (i:=19) (v:=.bool (!lb)) 29 rfl rfl (by kernel_rfl) (by kernel_rfl) (by kernel_rfl) (fun _ _ _ h=>h) (Or.inl ⟨by kernel_rfl,?yyl⟩) (by assumption) ?_
    case yyl=>intro w hSw;clear hSw;go_simp
    simp only[sA,sB,sC];clear hleq;refine tkX 20 30 ?_;refine tkX 21 31 ?_;simp only[sA,sB,sC];refine wpAnyH_done (by kernel_rfl) ?_ _;clear hHeld;have HB:=h_ (HB.out.trans (Below.refl _ _).drew)
    cases lb with
    | true =>
     have HN:=h_ (rng_step HQ.out (show stpK M (j+1)=true by unfold stpK;rw[HMK.out,HKB.out,Nat.add_sub_cancel,HMJ.out,HLB.out];simp));go_wp2;go_roundw
     case rel=>exact⟨j+2,by omega,by go_num,HN,HB.out⟩
     case measure=>simp[intOf];omega
    | false =>
     have HF:=h_ (show R=false from HR.out.symm.trans (by unfold ascS ascK;rw[rng_bad hlt (by unfold stpK;rw[HMK.out,HKB.out,Nat.add_sub_cancel,HMJ.out,HLB.out];simp)];rfl));go_wp2;go_ret;exact⟨by rw[HF.out]<;>rfl,HB.out⟩
  ·have hlt':¬(k:Int)<(M.length:Int):=by omega
   have hkl:k=M.length:=by omega
   have HA:=h_ (show ascS M=decide (M.length≤64) by unfold ascS ascK;rw[←hkl,HQ.out,Bool.true_and,hkl]);clear hkl;by_cases h64:M.length≤64
   ·have h64':(M.length:Int)≤64:=by omega
    have HF:=h_ (show R=true from HR.out.symm.trans (HA.out.trans (decide_eq_true h64)));go_wp2;go_ret;exact⟨by rw[HF.out]<;>rfl,HB.out⟩
   have h64':decide ((M.length:Int)≤64)=false:=decide_eq_false (by omega);have HF:=h_ (show R=false from HR.out.symm.trans (HA.out.trans (decide_eq_false h64)));go_wp2;go_ret;exact⟨by rw[HF.out]<;>rfl,HB.out⟩
theorem RValidFoot_any(al:Bool)(ra wa:Option Addr)(rc wc:Nat)(rd wr:List (List UInt8))(w:World)(hr:StrS w (.slice ra rd.length rc) rd)(hw:StrS w (.slice wa wr.length wc) wr)(hl:rd.length≤9000000000000∧wr.length≤9000000000000)(hx:∀q∈rd++wr,q.length≤9223372036854775807):
  Calls prog 41 #[.agg #[.bool al,.slice ra rd.length rc,.slice wa wr.length wc]] w fun e w'=>e=.returned (.bool (ftB ⟨al,rd,wr⟩))∧Below w.heap.size w w':=by
 obtain⟨R,hR⟩:=ex_ (ftB ⟨al,rd,wr⟩);rw[hR];have HR:=h_ hR;have HRD:=h_ hr;have HWR:=h_ hw;have HX:=h_ hx;clear hR hr hw hx;obtain⟨hl1,hl2⟩:=hl;obtain⟨v0,hW0,hb0,hx0⟩:=boxes1 w #[.bool al,.slice ra rd.length rc,.slice wa wr.length wc] 29;have HW:=h_ hW0;have HB:=h_ hb0;have HC:=h_ hx0;clear hW0 hb0 hx0;go_enter func41,ntmps41;go_upto_region 1 with (fail);rw[HW.out];clear HW;obtain⟨c0,c1,c2⟩:=HC.out.c3
 cases al with
 | true =>
  have HR2:=h_ (show (decide (rd.length=0) && decide (wr.length=0))=R from HR.out);by_cases h1:rd.length=0
  ·have t1:((rd.length:Int)==0)=true:=by rw[h1];rfl
   by_cases h2:wr.length=0
   ·have t2:((wr.length:Int)==0)=true:=by rw[h2];rfl
    have HF:=h_ (show R=true from HR2.out.symm.trans (by rw[decide_eq_true h1,decide_eq_true h2];rfl));clear h1 h2;go_wp2;go_ret;exact⟨by rw[HF.out]<;>rfl,HB.out⟩
   have t2:((wr.length:Int)==0)=false:=by rw[beq_eq_false_iff_ne];omega
   have HF:=h_ (show R=false from HR2.out.symm.trans (by rw[decide_eq_true h1,decide_eq_false h2];rfl));clear h1 h2;go_wp2;go_ret;exact⟨by rw[HF.out]<;>rfl,HB.out⟩
  have t1:((rd.length:Int)==0)=false:=by rw[beq_eq_false_iff_ne];omega
  have HF:=h_ (show R=false from HR2.out.symm.trans (by rw[decide_eq_false h1];rfl));clear h1;go_wp2;go_ret;exact⟨by rw[HF.out]<;>rfl,HB.out⟩
 | false =>
  have HR2:=h_ (show (ascS rd && ascS wr)=R from HR.out);obtain⟨b1,hb1⟩:=ex_ (ascS rd);obtain⟨b2,hb2⟩:=ex_ (ascS wr);have HB1:=h_ hb1;have HB2:=h_ hb2;clear hb1 hb2;go_wp2_with fail;refine(Rasc15_any ra rc rd _ hl1 (fun q hq=>HX.out q (List.mem_append_left _ hq)) (HRD.out.below HB.out)).mono ?_;rw[HB1.out];rintro er w1 ⟨rfl,hb1⟩;clear c0 c1 c2;have HC:=HC.out.k hb1;have HB:=bt HB hb1;clear hb1;obtain⟨c0,c1,c2⟩:=HC.out.c3
  cases b1 with
  | false =>
   have HF:=h_ (show R=false from HR2.out.symm.trans (by rw[HB1.out];rfl));go_wp2;go_ret;exact⟨by rw[HF.out]<;>rfl,HB.out⟩
  | true =>
   go_wp2_with fail;refine(Rasc15_any wa wc wr _ hl2 (fun q hq=>HX.out q (List.mem_append_right _ hq)) (HWR.out.below HB.out)).mono ?_;rw[HB2.out];rintro er w2 ⟨rfl,hb2⟩;have HB:=bt HB hb2;clear hb2;have HF:=h_ (show R=b2 from HR2.out.symm.trans (by rw[HB1.out,HB2.out];rfl));go_wp2;go_ret;exact⟨by rw[HF.out]<;>rfl,HB.out⟩
def InsAt (b o:Nat) (op a c n:Int) (s:List UInt8) (W:World):Prop:=
 W.cell? ⟨b,o,none⟩=some (.int .i64 op)∧W.cell? ⟨b,o+1,none⟩=some (.int .i64 a)∧W.cell? ⟨b,o+2,none⟩=some (.int .i64 c)∧W.cell? ⟨b,o+3,none⟩=some (.int .i64 n)∧W.cell? ⟨b,o+4,none⟩=some (.string (bs s))
theorem InsAt.below{b o:Nat}{op a c n:Int}{s:List UInt8}{W W':World}(h:InsAt b o op a c n s W)(hb:Below W.heap.size W W'):InsAt b o op a c n s W':=
 ⟨cell1_below h.1 hb,cell1_below h.2.1 hb,cell1_below h.2.2.1 hb,cell1_below h.2.2.2.1 hb,cell1_below h.2.2.2.2 hb⟩
theorem depR_at{d:Int}{l:List Ins}{k:Nat}{x:Ins}(hk:k<l.length)(hx:l[k]=x):depR d (l.drop k)=d::depR (if leaI x=true then 0 else behI d x) (l.drop (k+1)):=by
 rw[List.drop_eq_getElem_cons hk,hx];rfl
theorem zip_at{l:List Ins}{D:List Int}{k:Nat}(hk:k<l.length)(hD:D.length=l.length):∃h:k<(l.zip D).length,(l.zip D)[k]=(l[k],D[k]'(by omega)):=⟨by rw[List.length_zip,hD];omega,by simp⟩
theorem okp_1{x:Ins}{d:Int}{D:List Int}(h:d<takeI x):(okP (x,d) && jokS D x)=false:=by unfold okP;rw[decide_eq_false (show ¬takeI (x,d).1≤(x,d).2 from by show ¬takeI x≤d;omega)];rfl
theorem okp_2{x:Ins}{d:Int}{D:List Int}(h:badI d x=true):(okP (x,d) && jokS D x)=false:=by unfold okP;rw[show badI (x,d).2 (x,d).1=true from h];simp
theorem okp_3{x:Ins}{d:Int}{D:List Int}(h:jokS D x=false):(okP (x,d) && jokS D x)=false:=by rw[h,Bool.and_false]
theorem okp_ok{x:Ins}{d:Int}{D:List Int}(h1:takeI x≤d)(h2:badI d x=false)(h3:jokS D x=true):(okP (x,d) && jokS D x)=true:=by unfold okP;rw[h3,decide_eq_true (show takeI (x,d).1≤(x,d).2 from h1),show badI (x,d).2 (x,d).1=false from h2];rfl
theorem depR_le:∀(l:List Ins) (d:Int) (c:Nat),-3 * (c:Int)≤d→d≤3 * (c:Int)→∀v∈depR d l,-3 * ((c+l.length:Nat):Int)≤v∧v≤3 * ((c+l.length:Nat):Int)
 | [],_,_,_,_,v,h=>by simp[depR]at h
 | x::r,d,c,h0,h1,v,h=>by
  unfold depR at h;have hlen:(x::r).length=r.length+1:=rfl;rcases List.mem_cons.1 h with rfl|h
  ·constructor<;>omega
  ·have ht:=takeI_rng x
   have hp:=putI_rng x;have:=depR_le r _ (c+1) (by split<;>(try unfold behI)<;>omega) (by split<;>(try unfold behI)<;>omega) v h;constructor<;>omega
theorem valR_lim{c:Cd}(h:4096<c.l.length∨64<c.sl):valR c=2:=by unfold valR;rw[if_pos h]
theorem valR_bad{c:Cd}(h1:¬(4096<c.l.length∨64<c.sl))(h:c.p.all tyB=false∨c.sl<(c.p.length:Int)∨c.l.all (insS c.sl (c.l.length:Int))=false∨(deepB c.l (depR 0 c.l)=false∨c.l.length=0∨leaI (lastI c.l)=false)):valR c=23:=by
 unfold valR;rw[if_neg h1];split
 ·rfl
 ·rename_i h2
  split
  ·rfl
  ·rename_i h3
   split
   ·rfl
   ·rename_i h4
    split
    ·rfl
    ·rename_i h5
     rcases h with h|h|h|h
     ·exact absurd h h2
     ·exact absurd h h3
     ·exact absurd h h4
     ·exact absurd h h5
theorem valR_ok{c:Cd}(h1:¬(4096<c.l.length∨64<c.sl))(h2:c.p.all tyB=true)(h3:¬c.sl<(c.p.length:Int))(h4:c.l.all (insS c.sl (c.l.length:Int))=true)(h5:deepB c.l (depR 0 c.l)=true)(h6:c.l.length≠0)(h7:leaI (lastI c.l)=true):valR c=0:=by
 unfold valR;rw[if_neg h1,if_neg (by simp[h2]),if_neg h3,if_neg (by simp[h4]),if_neg (by simp[h5,h6,h7])]
theorem RDepths_any(pa ia:Option Addr)(pc ic:Nat)(P:List Int)(sl:Int)(l:List Ins)(w:World)(hI:CellsAt w (.slice ia l.length ic) l.length (insLs l))(hM:l.length≤4096):
  Calls prog 102 #[.agg #[.slice pa P.length pc,.int .i64 sl,.slice ia l.length ic]] w fun e w'=>∃v,e=.returned v∧CellsAt w' v (depR 0 l).length (intsL (depR 0 l))∧Below w.heap.size w w':=by
 obtain⟨D,hR⟩:=ex_ (depR 0 l);rw[hR];have HQ:=h_ (show ([]:List Int)++depR 0 (l.drop 0)=D from hR);have HIA:=h_ hI;clear hR hI;obtain⟨v0,hW0,hb0,hc0⟩:=boxes1 w #[.slice pa P.length pc,.int .i64 sl,.slice ia l.length ic] 25;have HW:=h_ hW0;have HB:=h_ hb0;have HC:=h_ hc0;clear hW0 hb0 hc0;go_enter func102,ntmps102;go_upto_region 1 with (fail);rw[HW.out];clear HW;have HZ:=h_ (own_nil v0 w.heap.size 3 1);go_wp2;go_loopw [3,4,5] (fun v s4 i wr=>∃(k:Nat) (A:List Int) (d:Int),k≤l.length∧i=.int .i64 k∧s4=.int .i64 d∧A.length=k∧-3 * (k:Int)≤d∧d≤3 * (k:Int)∧Hid (A++depR d (l.drop k)=D)∧Hid (Bx w.heap.size #[.slice pa P.length pc,.int .i64 sl,.slice ia l.length ic] 25 wr)∧Hid (wr.ownsRow w.heap.size 3 1 v A.length (intsL A))∧Below w.heap.size w wr) (fun _ _ i _=>l.length-(intOf i).toNat)
 case atStart=>exact⟨0,[],0,Nat.zero_le _,rfl,rfl,rfl,by omega,by omega,HQ,HC,HZ,HB.out⟩
 case round =>
  obtain⟨k,A,d,hk,rfl,rfl,hAk,hd0,hd1,HQ2,HC,HO,hB⟩:=hrel;clear HQ HZ HB;have HB:=h_ hB;clear hB;obtain⟨c0,c1,c2⟩:=HC.out.c3;by_cases hlt:k<l.length
  ·have hlt':(k:Int)<(l.length:Int):=by omega
   have hw1:IntKind.i64.wrap ((k:Int)+1)=(k:Int)+1:=by rw[IntKind.wrap_i64];omega
   go_upto_region 7 with (at_builtin;refine wpList_append_int rfl _ _ rfl w.heap.size _ A d HO.out rfl rfl (by omega) w w.heap.size HB.out HB.out.size (Nat.le_refl _) ?_;intro v5 w5 hown5 hb5 hg5;have HC:=h_ (HC.out.grown hg5 HO.out (by decide));have HB:=h_ hb5;have HO:=h_ hown5;clear c0 c1 c2 hg5 hb5 hown5);obtain⟨ba,oa,rfl,p0,p1,p2,p3,p4⟩:=ins_cells (HIA.out.below HB.out) hlt;obtain⟨⟨op,a,b,n,s⟩,hxe⟩:∃x,l[k]=x:=⟨_,rfl⟩;rw[hxe]at p0 p1 p2 p3 p4;simp only at p0 p1 p2 p3 p4;have HXE:=h_ hxe;clear hxe;obtain⟨tk,htk⟩:=ex_ (takeI ⟨op,a,b,n,s⟩);obtain⟨pt,hpt⟩:=ex_ (putI ⟨op,a,b,n,s⟩);obtain⟨lv,hlv⟩:=ex_ (leaI ⟨op,a,b,n,s⟩);have htr:=takeI_rng ⟨op,a,b,n,s⟩;have hpr:=putI_rng ⟨op,a,b,n,s⟩;rw[htk]at htr;rw[hpt]at hpr;obtain⟨ht0,ht1⟩:=htr;obtain⟨hp0,hp1⟩:=hpr;have HTK:=h_ htk;have HPT:=h_ hpt;have HLV:=h_ hlv;clear htk hpt hlv
   have hw2:IntKind.i64.wrap (d-tk)=d-tk:=by rw[IntKind.wrap_i64];omega
   obtain⟨d2,hd2⟩:=ex_ (d-tk+pt)
   have hw3:IntKind.i64.wrap (d-tk+pt)=d2:=by rw[IntKind.wrap_i64];omega
   have h2a:-3 * ((k+1:Nat):Int)≤d2:=by omega
   have h2b:d2≤3 * ((k+1:Nat):Int):=by omega
   have HBE:=h_ (show behI d ⟨op,a,b,n,s⟩=d2 by unfold behI;rw[HTK.out,HPT.out];omega);clear hd2;have hs0:Bx w.heap.size #[.slice pa P.length pc,.int .i64 sl,.slice (some ⟨ba,oa,none⟩) l.length ic] 25 w5.drew∧InsAt ba (oa+k * 5) op a b n s w5.drew:=⟨HC.out,p0,p1,p2,p3,p4⟩;have HS0:=h_ hs0;clear hs0 p0 p1 p2 p3 p4;go_wp2_with fail;refine wp_region_held_drew (S:=(fun w'=>Bx w.heap.size #[.slice pa P.length pc,.int .i64 sl,.slice (some ⟨ba,oa,none⟩) l.length ic] 25 w'∧InsAt ba (oa+k * 5) op a b n s w')) (by kernel_rfl) ?_ (fun hHeld=>?_)
   ·exact HS0.out
   refine tkX 0 17 ?_;refine tkX 1 18 ?_;refine tkY 2 (v:=?vv3) 19 ?yy3 ?_
   case yy3 =>
    intro wq hSw;obtain⟨c0,c1,c2⟩:=hSw.1.c3;clear hSw;go_simp
    (try with_reducible rfl)
   refine tkX 3 20 ?_;refine tkX 4 21 ?_;refine tkY 5 (v:=?vv6) 22 ?yy6 ?_
   case yy6 =>
    intro wq hSw;obtain⟨z0,z1,z2,z3,z4⟩:=hSw.2;clear hSw;go_simp
    (try with_reducible rfl)
   refine tkX 8 25 ?_;refine tkY 9 (v:=?vv8) 26 ?yy8 ?_
   case yy8 =>
    intro wq hSw;obtain⟨c0,c1,c2⟩:=hSw.1.c3;clear hSw;go_simp
    (try with_reducible rfl)
   refine tkX 10 27 ?_;refine tkX 11 28 ?_;refine tkY 12 (v:=?vv11) 29 ?yy11 ?_
   case yy11 =>
    intro wq hSw;obtain⟨z0,z1,z2,z3,z4⟩:=hSw.2;clear hSw;go_simp
    (try with_reducible rfl)
   simp only[sA,sB,sC];refine rd1 6 fun K hK=>?_;go_simp
   (have hcl:=Rtakes_any ⟨op,a,b,n,s⟩;simp only[insV]at hcl;refine(hcl _).mono ?_;rw[HTK.out];clear hcl;rintro er u1 ⟨rfl,hb1⟩)
   (try go_wp2_with fail)
   refine hK.out _ _ (⟨hHeld.1.call hb1,hHeld.2.below hb1⟩) fun hHeld=>?_;clear hK K
   (try simp only[Act.put,sA,sB,sC])
   refine tkX 7 24 ?_;simp only[sA,sB,sC];refine rd1 13 fun K hK=>?_;go_simp
   (have hcl:=Rputs_any ⟨op,a,b,n,s⟩;simp only[insV]at hcl;refine(hcl _).mono ?_;rw[HPT.out];clear hcl;rintro er u2 ⟨rfl,hb2⟩)
   (try go_wp2_with fail)
   refine hK.out _ _ (⟨hHeld.1.call hb2,hHeld.2.below hb2⟩) fun hHeld=>?_;clear hK K
   (try simp only[Act.put,sA,sB,sC])
   refine tkX 14 31 ?_;refine tkX 15 4 ?_;simp only[sA,sB,sC];refine wpAnyH_done (by kernel_rfl) ?_ _;have hb0:Below w5.heap.size w5 w5.drew:=(Below.refl w5.heap.size w5).drew;have hb3:=btrans (btrans hb0 hb0.size hb1) (btrans hb0 hb0.size hb1).size hb2;have HC:=HC.out.k hb3;have HB:=bt HB hb3;have HO:=h_ (own_below HO.out hb3);clear hb0 hb1 hb2 hb3 HS0;obtain⟨z0,z1,z2,z3,z4⟩:=hHeld.2;clear hHeld;obtain⟨c0,c1,c2⟩:=HC.out.c3;go_wp2_with fail;have hcl:=Rfinal_any ⟨op,a,b,n,s⟩;simp only[insV]at hcl;refine(hcl _).mono ?_;rw[HLV.out];clear hcl;rintro er w7 ⟨rfl,hb1⟩;clear c0 c1 c2 z0 z1 z2 z3 z4;have HC:=HC.out.k hb1;have HB:=bt HB hb1;have HO:=h_ (own_below HO.out hb1);clear hb1
   cases lv with
   | true =>
    have HN:=h_ (show (A++[d])++depR 0 (l.drop (k+1))=D by rw[←HQ2.out,depR_at hlt HXE.out,if_pos HLV.out];simp);go_wp2;go_roundw
    case rel=>exact⟨k+1,A++[d],0,by omega,by go_num,rfl,by rw[List.length_append,hAk];rfl,by omega,by omega,HN,HC,HO,HB.out⟩
    case measure=>simp[intOf];omega
   | false =>
    have HN:=h_ (show (A++[d])++depR d2 (l.drop (k+1))=D by rw[←HQ2.out,depR_at hlt HXE.out,if_neg (by rw[HLV.out];simp),HBE.out];simp);go_wp2;go_roundw
    case rel=>exact⟨k+1,A++[d],d2,by omega,by go_num,rfl,by rw[List.length_append,hAk];rfl,by omega,by omega,HN,HC,HO,HB.out⟩
    case measure=>simp[intOf];omega
  ·have hlt':¬(k:Int)<(l.length:Int):=by omega
   have h1:A=D:=by have:=HQ2.out;rw[List.drop_of_length_le (by omega)]at this;simpa[depR] using this
   have H1:=h_ h1;clear h1;go_wp2;go_ret;exact⟨_,rfl,by rw[←H1.out];exact own_intAt HO.out,HB.out⟩
theorem deep_any(pa ia:Option Addr)(pc ic:Nat)(P:List Int)(sl:Int)(l:List Ins)(w:World)(hI:CellsAt w (.slice ia l.length ic) l.length (insLs l))(hM:l.length≤4096)(hv:l.all (insS sl (l.length:Int))=true):
  Calls prog 70 #[.agg #[.slice pa P.length pc,.int .i64 sl,.slice ia l.length ic]] w fun e w'=>e=.returned (.bool (deepB l (depR 0 l)))∧Below w.heap.size w w':=by
 obtain⟨D,hD⟩:=ex_ (depR 0 l);rw[hD]
 have hDl:D.length=l.length:=by rw[←hD];exact depR_length 0 l
 have hle:=depR_le l 0 0 (by omega) (by omega);rw[hD]at hle;obtain⟨V,hV⟩:=ex_ (deepB l D);rw[hV];have HV:=h_ hV;have HD:=h_ hD;have HDl:=h_ hDl;have HLE:=h_ hle;have HIA:=h_ hI;have HINS:=h_ hv;clear hV hD hDl hle hI hv;obtain⟨v0,hW0,hb0,hc0⟩:=boxes1 w #[.slice pa P.length pc,.int .i64 sl,.slice ia l.length ic] 25;have HW:=h_ hW0;have HB:=h_ hb0;have HC:=h_ hc0;clear hW0 hb0 hc0;go_enter func70,ntmps70;go_upto_region 1 with (fail);rw[HW.out];clear HW;obtain⟨c0,c1,c2⟩:=HC.out.c3;go_wp2_with fail;refine(RDepths_any pa ia pc ic P sl l _ (HIA.out.below HB.out) hM).mono ?_;rw[HD.out];rintro er w1 ⟨v3,rfl,hcd,hb1⟩;clear c0 c1 c2;have HB:=bt HB hb1;have HC:=HC.out.k hb1;obtain⟨da,dc,rfl,-⟩:=id hcd;have HDC:=h_ hcd;clear hb1 hcd;obtain⟨c0,c1,c2⟩:=HC.out.c3;have hDlen:=HDl.out;go_wp2;go_loopw [4] (fun i wr=>∃k:Nat,k≤D.length∧i=.int .i64 k∧Hid (((l.zip D).take k).all (fun p=>okP p && jokS D p.1)=true)∧Hid (Bx w.heap.size #[.slice pa P.length pc,.int .i64 sl,.slice ia l.length ic] 25 wr)∧Hid (CellsAt wr (.slice da D.length dc) D.length (intsL D))∧Below w.heap.size w wr) (fun i _=>D.length-(intOf i).toNat)
 case atStart=>exact⟨0,Nat.zero_le _,rfl,h_ rfl,HC,HDC,HB.out⟩
 case round =>
  clear c0 c1 c2 HB HC HDC;obtain⟨k,hk,rfl,HQ,HC,HDC,hB⟩:=hrel;have HB:=h_ hB;clear hB;obtain⟨c0,c1,c2⟩:=HC.out.c3;by_cases hltD:k<D.length
  ·have hlt':(k:Int)<(D.length:Int):=by omega
   have hlt:k<l.length:=by omega
   have hlt2:(k:Int)<(l.length:Int):=by omega
   have hw1:IntKind.i64.wrap ((k:Int)+1)=(k:Int)+1:=by rw[IntKind.wrap_i64];omega
   have hDL:=h_ hDlen;clear hDlen;have HZA:=h_ (zip_at hlt HDl.out);obtain⟨ba,oa,rfl,p0,p1,p2,p3,p4⟩:=ins_cells (HIA.out.below HB.out) hlt;obtain⟨⟨op,a,b,n,s⟩,hxe⟩:∃x,l[k]=x:=⟨_,rfl⟩;rw[hxe]at p0 p1 p2 p3 p4;simp only at p0 p1 p2 p3 p4;have HXE:=h_ hxe;clear hxe;obtain⟨tk,htk⟩:=ex_ (takeI ⟨op,a,b,n,s⟩);obtain⟨pt,hpt⟩:=ex_ (putI ⟨op,a,b,n,s⟩);obtain⟨lv,hlv⟩:=ex_ (leaI ⟨op,a,b,n,s⟩);have htr:=takeI_rng ⟨op,a,b,n,s⟩;have hpr:=putI_rng ⟨op,a,b,n,s⟩;rw[htk]at htr;rw[hpt]at hpr;obtain⟨ht0,ht1⟩:=htr;obtain⟨hp0,hp1⟩:=hpr;have HTK:=h_ htk;have HPT:=h_ hpt;have HLV:=h_ hlv;clear htk hpt hlv;obtain⟨bd,od,hde,d0⟩:=int_cells HDC.out hltD;cases hde;have hdr:=HLE.out _ (List.getElem_mem hltD);obtain⟨d,hd⟩:=ex_ (D[k]);rw[hd]at d0 hdr;have HDK:=h_ hd;clear hd;obtain⟨hd1,hd2⟩:=hdr;have hal:=(Below.refl wr.heap.size wr).alloc (Nat.le_refl _) (.cells #[.int .i64 op,.int .i64 a,.int .i64 b,.int .i64 n,.string (bs s)] 45);have HX:=h_ (Bx.new wr #[.int .i64 op,.int .i64 a,.int .i64 b,.int .i64 n,.string (bs s)] 45);have HB:=bt HB hal;have HC:=HC.out.k hal;have HDC:=h_ (HDC.out.below hal);have D0:=h_ (cell1_below d0 hal);clear hal;go_upto_region 6 with (fail);clear p0 p1 p2 p3 p4 c0 c1 c2 d0;generalize hW:wr.alloc (.cells #[.int .i64 op,.int .i64 a,.int .i64 b,.int .i64 n,.string (bs s)] 45)=v1 at HX HB HC HDC D0 ⊢;clear hW
   have hw2:IntKind.i64.wrap (d-tk)=d-tk:=by rw[IntKind.wrap_i64];omega
   obtain⟨d2,hd2e⟩:=ex_ (d-tk+pt)
   have hw3:IntKind.i64.wrap (d-tk+pt)=d2:=by rw[IntKind.wrap_i64];omega
   have HBE:=h_ (show behI d ⟨op,a,b,n,s⟩=d2 by unfold behI;rw[HTK.out,HPT.out];omega);clear hd2e hd1 hd2;have hs0:Bx wr.heap.size #[.int .i64 op,.int .i64 a,.int .i64 b,.int .i64 n,.string (bs s)] 45 v1.drew∧v1.drew.cell? ⟨bd,od+k,none⟩=some (.int .i64 d):=⟨HX.out,D0.out⟩;have HS0:=h_ hs0;clear hs0;go_wp2_with fail;refine wp_region_held_drew (S:=(fun w'=>Bx wr.heap.size #[.int .i64 op,.int .i64 a,.int .i64 b,.int .i64 n,.string (bs s)] 45 w'∧w'.cell? ⟨bd,od+k,none⟩=some (.int .i64 d))) (by kernel_rfl) ?_ (fun hHeld=>?_)
   ·exact HS0.out
   refine tkX 0 20 ?_;refine tkX 1 21 ?_;refine tkX 2 22 ?_;refine tkY 3 (v:=?vv18) 23 ?yy18 ?_
   case yy18 =>
    intro wq hSw;have d0:=hSw.2;clear hSw;go_simp
    (try with_reducible rfl)
   refine tkY 4 (v:=?vv19) 24 ?yy19 ?_
   case yy19 =>
    intro wq hSw;obtain⟨x0,x1,x2,x3,x4⟩:=hSw.1.c5;clear hSw;go_simp
    (try with_reducible rfl)
   refine tkY 7 (v:=?vv20) 27 ?yy20 ?_
   case yy20 =>
    intro wq hSw;obtain⟨x0,x1,x2,x3,x4⟩:=hSw.1.c5;clear hSw;go_simp
    (try with_reducible rfl)
   simp only[sA,sB,sC];refine rd1 5 fun K hK=>?_;go_simp
   (have hcl:=Rtakes_any ⟨op,a,b,n,s⟩;simp only[insV]at hcl;refine(hcl _).mono ?_;rw[HTK.out];clear hcl;rintro er u1 ⟨rfl,hb1⟩)
   (try go_wp2_with fail)
   refine hK.out _ _ (⟨hHeld.1.call hb1,cell1_below hHeld.2 hb1⟩) fun hHeld=>?_;clear hK K
   (try simp only[Act.put,sA,sB,sC])
   refine tkX 6 26 ?_;simp only[sA,sB,sC];refine rd1 8 fun K hK=>?_;go_simp
   (have hcl:=Rputs_any ⟨op,a,b,n,s⟩;simp only[insV]at hcl;refine(hcl _).mono ?_;rw[HPT.out];clear hcl;rintro er u2 ⟨rfl,hb2⟩)
   (try go_wp2_with fail)
   refine hK.out _ _ (⟨hHeld.1.call hb2,cell1_below hHeld.2 hb2⟩) fun hHeld=>?_;clear hK K
   (try simp only[Act.put,sA,sB,sC])
   refine tkX 9 29 ?_;refine tkX 10 6 ?_;simp only[sA,sB,sC];refine wpAnyH_done (by kernel_rfl) ?_ _;have hb0:Below v1.heap.size v1 v1.drew:=(Below.refl v1.heap.size v1).drew;have hb3:=btrans (btrans hb0 hb0.size hb1) (btrans hb0 hb0.size hb1).size hb2;have HX:=HX.out.k hb3;have HC:=HC.out.k hb3;have HB:=bt HB hb3;have HDC:=h_ (HDC.out.below hb3);have D0:=h_ (cell1_below D0.out hb3);clear hb0 hb1 hb2 hb3 HS0 hHeld;have hs0:Bx wr.heap.size #[.int .i64 op,.int .i64 a,.int .i64 b,.int .i64 n,.string (bs s)] 45 u2.drew∧u2.drew.cell? ⟨bd,od+k,none⟩=some (.int .i64 d):=⟨HX.out,D0.out⟩;have HS0:=h_ hs0;clear hs0;by_cases h1:d<tk
   ·skip
    go_wp2_with fail;refine wp_region_held_drew (S:=(fun w'=>Bx wr.heap.size #[.int .i64 op,.int .i64 a,.int .i64 b,.int .i64 n,.string (bs s)] 45 w'∧w'.cell? ⟨bd,od+k,none⟩=some (.int .i64 d))) (by kernel_rfl) ?_ (fun hHeld=>?_)
    ·exact HS0.out
    refine tkX 0 30 ?_;refine tkX 1 31 ?_;refine tkX 2 32 ?_;refine tkY 3 (v:=?vv27) 33 ?yy27 ?_
    case yy27 =>
     intro wq hSw;have d0:=hSw.2;clear hSw;go_simp
     (try with_reducible rfl)
    refine tkY 4 (v:=?vv28) 34 ?yy28 ?_
    case yy28 =>
     intro wq hSw;obtain⟨x0,x1,x2,x3,x4⟩:=hSw.1.c5;clear hSw;go_simp
     (try with_reducible rfl)
    simp only[sA,sB,sC];refine rd1 5 fun K hK=>?_;go_simp
    (have hcl:=Rtakes_any ⟨op,a,b,n,s⟩;simp only[insV]at hcl;refine(hcl _).mono ?_;rw[HTK.out];clear hcl;rintro er u3 ⟨rfl,hb1⟩)
    (try go_wp2_with fail)
    refine hK.out _ _ (⟨hHeld.1.call hb1,cell1_below hHeld.2 hb1⟩) fun hHeld=>?_;clear hK K
    (try simp only[Act.put,sA,sB,sC])
    refine tkX 6 36 ?_;refine tkX 7 37 ?_;refine tkZ 8 38 ?_;refine tkZ 9 39 ?_;refine tkX 10 40 ?_;simp only[sA,sB,sC];refine wpAnyH_done (by kernel_rfl) ?_ _;have hb0:Below u2.heap.size u2 u2.drew:=(Below.refl u2.heap.size u2).drew;have hb3:=btrans hb0 hb0.size hb1;have HX:=HX.out.k hb3;have HC:=HC.out.k hb3;have HB:=bt HB hb3;have HDC:=h_ (HDC.out.below hb3);have D0:=h_ (cell1_below D0.out hb3);clear hb0 hb1 hb3 HS0 hHeld;have hF:V=false:=HV.out.symm.trans (by unfold deepB;exact all_no HZA.out.1 (by rw[HZA.out.2,HXE.out,HDK.out];exact okp_1 (by rw[HTK.out];exact h1)));have HF:=h_ hF;clear hF;go_wp2;go_ret;exact⟨by rw[HF.out]<;>rfl,HB.out⟩
   have h1d:decide (d<tk)=false:=decide_eq_false h1;by_cases h64:64<d2
   ·skip
    go_wp2_with fail;refine wp_region_held_drew (S:=(fun w'=>Bx wr.heap.size #[.int .i64 op,.int .i64 a,.int .i64 b,.int .i64 n,.string (bs s)] 45 w'∧w'.cell? ⟨bd,od+k,none⟩=some (.int .i64 d))) (by kernel_rfl) ?_ (fun hHeld=>?_)
    ·exact HS0.out
    refine tkX 0 30 ?_;refine tkX 1 31 ?_;refine tkX 2 32 ?_;refine tkY 3 (v:=?vv35) 33 ?yy35 ?_
    case yy35 =>
     intro wq hSw;have d0:=hSw.2;clear hSw;go_simp
     (try with_reducible rfl)
    refine tkY 4 (v:=?vv36) 34 ?yy36 ?_
    case yy36 =>
     intro wq hSw;obtain⟨x0,x1,x2,x3,x4⟩:=hSw.1.c5;clear hSw;go_simp
     (try with_reducible rfl)
    simp only[sA,sB,sC];refine rd1 5 fun K hK=>?_;go_simp
    (have hcl:=Rtakes_any ⟨op,a,b,n,s⟩;simp only[insV]at hcl;refine(hcl _).mono ?_;rw[HTK.out];clear hcl;rintro er u3 ⟨rfl,hb1⟩)
    (try go_wp2_with fail)
    refine hK.out _ _ (⟨hHeld.1.call hb1,cell1_below hHeld.2 hb1⟩) fun hHeld=>?_;clear hK K
    (try simp only[Act.put,sA,sB,sC])
    refine tkX 6 36 ?_;refine tkX 7 37 ?_;refine tkX 8 38 ?_;refine tkX 9 39 ?_;refine tkX 10 40 ?_;simp only[sA,sB,sC];refine wpAnyH_done (by kernel_rfl) ?_ _;have hb0:Below u2.heap.size u2 u2.drew:=(Below.refl u2.heap.size u2).drew;have hb3:=btrans hb0 hb0.size hb1;have HX:=HX.out.k hb3;have HC:=HC.out.k hb3;have HB:=bt HB hb3;have HDC:=h_ (HDC.out.below hb3);have D0:=h_ (cell1_below D0.out hb3);clear hb0 hb1 hb3 HS0 hHeld;have hF:V=false:=HV.out.symm.trans (by unfold deepB;exact all_no HZA.out.1 (by rw[HZA.out.2,HXE.out,HDK.out];exact okp_2 (badI_true HBE.out (.inl h64))));have HF:=h_ hF;clear hF;go_wp2;go_ret;exact⟨by rw[HF.out]<;>rfl,HB.out⟩
   go_wp2_with fail;refine wp_region_held_drew (S:=(fun w'=>Bx wr.heap.size #[.int .i64 op,.int .i64 a,.int .i64 b,.int .i64 n,.string (bs s)] 45 w'∧w'.cell? ⟨bd,od+k,none⟩=some (.int .i64 d))) (by kernel_rfl) ?_ (fun hHeld=>?_)
   ·exact HS0.out
   refine tkX 0 30 ?_;refine tkX 1 31 ?_;refine tkX 2 32 ?_;refine tkY 3 (v:=?vv45) 33 ?yy45 ?_
   case yy45 =>
    intro wq hSw;have d0:=hSw.2;clear hSw;go_simp
    (try with_reducible rfl)
   refine tkY 4 (v:=?vv46) 34 ?yy46 ?_
   case yy46 =>
    intro wq hSw;obtain⟨x0,x1,x2,x3,x4⟩:=hSw.1.c5;clear hSw;go_simp
    (try with_reducible rfl)
   simp only[sA,sB,sC];refine rd1 5 fun K hK=>?_;go_simp
   (have hcl:=Rtakes_any ⟨op,a,b,n,s⟩;simp only[insV]at hcl;refine(hcl _).mono ?_;rw[HTK.out];clear hcl;rintro er u3 ⟨rfl,hb1⟩)
   (try go_wp2_with fail)
   refine hK.out _ _ (⟨hHeld.1.call hb1,cell1_below hHeld.2 hb1⟩) fun hHeld=>?_;clear hK K
   (try simp only[Act.put,sA,sB,sC])
   refine tkX 6 36 ?_;refine tkX 7 37 ?_;refine tkX 8 38 ?_;refine tkX 9 39 ?_;refine tkX 10 40 ?_;simp only[sA,sB,sC];refine wpAnyH_done (by kernel_rfl) ?_ _;have hb0:Below u2.heap.size u2 u2.drew:=(Below.refl u2.heap.size u2).drew;have hb3:=btrans hb0 hb0.size hb1;have HX:=HX.out.k hb3;have HC:=HC.out.k hb3;have HB:=bt HB hb3;have HDC:=h_ (HDC.out.below hb3);have D0:=h_ (cell1_below D0.out hb3);clear hb0 hb1 hb3 HS0 hHeld;obtain⟨x0,x1,x2,x3,x4⟩:=HX.out.c5;go_wp2_with fail;have hcl:=Rfinal_any ⟨op,a,b,n,s⟩;simp only[insV]at hcl;refine(hcl _).mono ?_;rw[HLV.out];clear hcl;rintro er w8 ⟨rfl,hb1⟩;clear x0 x1 x2 x3 x4;have HX:=HX.out.k hb1;have HC:=HC.out.k hb1;have HB:=bt HB hb1;have HDC:=h_ (HDC.out.below hb1);have D0:=h_ (cell1_below D0.out hb1);clear hb1;obtain⟨x0,x1,x2,x3,x4⟩:=HX.out.c5;obtain⟨bv,hbv⟩:=ex_ (badI d ⟨op,a,b,n,s⟩);have HBV:=h_ hbv;clear hbv;obtain⟨jm,hjm⟩:=ex_ (jmpI ⟨op,a,b,n,s⟩);have HJM:=h_ hjm;clear hjm;obtain⟨j7,hj7⟩:=ex_ (decide (op=7))
   have t7:(op==7)=j7:=by rw[←hj7];rfl
   have HJ7:=h_ hj7;clear hj7;by_cases h0:d2=0;rotate_left
   ·have t0:(d2 != 0)=true:=by rw[bne_iff_ne];exact h0
    cases lv with
    | true =>
     have hF:V=false:=HV.out.symm.trans (by unfold deepB;exact all_no HZA.out.1 (by rw[HZA.out.2,HXE.out,HDK.out];exact okp_2 (badI_true HBE.out (.inr ⟨h0,.inl HLV.out⟩))));have HF:=h_ hF;clear hF;go_wp2;go_ret;exact⟨by rw[HF.out]<;>rfl,HB.out⟩
    | false =>
     cases j7 with
     | true =>
      have hF:V=false:=HV.out.symm.trans (by unfold deepB;exact all_no HZA.out.1 (by rw[HZA.out.2,HXE.out,HDK.out];exact okp_2 (badI_true HBE.out (.inr ⟨h0,.inr (by simpa using HJ7.out)⟩))));have HF:=h_ hF;clear hF;go_wp2;go_ret;exact⟨by rw[HF.out]<;>rfl,HB.out⟩
     | false =>
      have HNB:=h_ (show badI d ⟨op,a,b,n,s⟩=false from badI_false HBE.out (by omega) (.inr ⟨HLV.out,by have:=HJ7.out;simpa using this⟩));by_cases h6:op=6
      ·have t6:(op==6)=true:=by rw[h6];rfl
       have HJM:=h_ (show jmpI ⟨op,a,b,n,s⟩=true by unfold jmpI;simp[h6]);clear h6;have hat:=ins_tgt (List.all_eq_true.1 HINS.out _ (List.getElem_mem hlt)) (by rw[HXE.out];exact HJM.out);rw[HXE.out]at hat;obtain⟨ha0,ha1⟩:=hat;simp only at ha0 ha1;obtain⟨j,rfl⟩:∃j:Nat,a=(j:Int):=⟨a.toNat,by omega⟩
       have hj1:j<D.length:=by rw[hDL.out];omega
       have hj2:(j:Int)<(l.length:Int):=ha1;obtain⟨be,oe,hae,e0⟩:=int_cells HDC.out hj1;cases hae;obtain⟨dv,hdv⟩:=ex_ (D[j]);rw[hdv]at e0;have HDV:=h_ hdv;clear hdv ha0 ha1;by_cases h0:dv=0
       ·have tv:(dv != 0)=false:=by rw[h0];rfl
        have H0:=h_ h0;clear h0;have HN:=h_ (all_tk HZA.out.1 HQ.out (by rw[HZA.out.2,HXE.out,HDK.out];exact okp_ok (by rw[HTK.out];exact(by omega)) HNB.out ((jok_yes HJM.out rfl hj1 HDV.out).trans (by rw[H0.out];rfl))));go_wp2;go_roundw
        case rel=>exact⟨k+1,by omega,by go_num,HN,HC,HDC,HB.out⟩
        case measure=>simp[intOf];omega
       have tv:(dv != 0)=true:=by rw[bne_iff_ne];exact h0
       have H0:=h_ h0;clear h0;have hF:V=false:=HV.out.symm.trans (by unfold deepB;exact all_no HZA.out.1 (by rw[HZA.out.2,HXE.out,HDK.out];exact okp_3 ((jok_yes HJM.out rfl hj1 HDV.out).trans (decide_eq_false H0.out))));have HF:=h_ hF;clear hF;go_wp2;go_ret;exact⟨by rw[HF.out]<;>rfl,HB.out⟩
      have t6:(op==6)=false:=by rw[beq_eq_false_iff_ne];exact h6
      have HJN:=h_ (show jmpI ⟨op,a,b,n,s⟩=false by unfold jmpI;rw[show decide ((⟨op,a,b,n,s⟩:Ins).op=7)=false from HJ7.out,Bool.or_false];exact decide_eq_false h6);clear h6;have HN:=h_ (all_tk HZA.out.1 HQ.out (by rw[HZA.out.2,HXE.out,HDK.out];exact okp_ok (by rw[HTK.out];exact(by omega)) HNB.out (jok_no HJN.out)));go_wp2;go_roundw
      case rel=>exact⟨k+1,by omega,by go_num,HN,HC,HDC,HB.out⟩
      case measure=>simp[intOf];omega
   have t0:(d2 != 0)=false:=by rw[h0];rfl
   have H0:=h_ h0;clear h0
   cases lv with
   | true =>
    cases j7 with
    | true =>
     have HNB:=h_ (show badI d ⟨op,a,b,n,s⟩=false from badI_false HBE.out (by omega) (.inl H0.out));have HJM:=h_ (show jmpI ⟨op,a,b,n,s⟩=true by unfold jmpI;rw[show decide ((⟨op,a,b,n,s⟩:Ins).op=7)=true from HJ7.out,Bool.or_true])
     have hs7:op=7:=by simpa using HJ7.out
     have t6:(op==6)=false:=by rw[hs7];rfl
     clear hs7;have hat:=ins_tgt (List.all_eq_true.1 HINS.out _ (List.getElem_mem hlt)) (by rw[HXE.out];exact HJM.out);rw[HXE.out]at hat;obtain⟨ha0,ha1⟩:=hat;simp only at ha0 ha1;obtain⟨j,rfl⟩:∃j:Nat,a=(j:Int):=⟨a.toNat,by omega⟩
     have hj1:j<D.length:=by rw[hDL.out];omega
     have hj2:(j:Int)<(l.length:Int):=ha1;obtain⟨be,oe,hae,e0⟩:=int_cells HDC.out hj1;cases hae;obtain⟨dv,hdv⟩:=ex_ (D[j]);rw[hdv]at e0;have HDV:=h_ hdv;clear hdv ha0 ha1;by_cases h0:dv=0
     ·have tv:(dv != 0)=false:=by rw[h0];rfl
      have H0:=h_ h0;clear h0;have HN:=h_ (all_tk HZA.out.1 HQ.out (by rw[HZA.out.2,HXE.out,HDK.out];exact okp_ok (by rw[HTK.out];exact(by omega)) HNB.out ((jok_yes HJM.out rfl hj1 HDV.out).trans (by rw[H0.out];rfl))));go_wp2;go_roundw
      case rel=>exact⟨k+1,by omega,by go_num,HN,HC,HDC,HB.out⟩
      case measure=>simp[intOf];omega
     have tv:(dv != 0)=true:=by rw[bne_iff_ne];exact h0
     have H0:=h_ h0;clear h0;have hF:V=false:=HV.out.symm.trans (by unfold deepB;exact all_no HZA.out.1 (by rw[HZA.out.2,HXE.out,HDK.out];exact okp_3 ((jok_yes HJM.out rfl hj1 HDV.out).trans (decide_eq_false H0.out))));have HF:=h_ hF;clear hF;go_wp2;go_ret;exact⟨by rw[HF.out]<;>rfl,HB.out⟩
    | false =>
     have HNB:=h_ (show badI d ⟨op,a,b,n,s⟩=false from badI_false HBE.out (by omega) (.inl H0.out));by_cases h6:op=6
     ·have t6:(op==6)=true:=by rw[h6];rfl
      have HJM:=h_ (show jmpI ⟨op,a,b,n,s⟩=true by unfold jmpI;simp[h6]);clear h6;have hat:=ins_tgt (List.all_eq_true.1 HINS.out _ (List.getElem_mem hlt)) (by rw[HXE.out];exact HJM.out);rw[HXE.out]at hat;obtain⟨ha0,ha1⟩:=hat;simp only at ha0 ha1;obtain⟨j,rfl⟩:∃j:Nat,a=(j:Int):=⟨a.toNat,by omega⟩
      have hj1:j<D.length:=by rw[hDL.out];omega
      have hj2:(j:Int)<(l.length:Int):=ha1;obtain⟨be,oe,hae,e0⟩:=int_cells HDC.out hj1;cases hae;obtain⟨dv,hdv⟩:=ex_ (D[j]);rw[hdv]at e0;have HDV:=h_ hdv;clear hdv ha0 ha1;by_cases h0:dv=0
      ·have tv:(dv != 0)=false:=by rw[h0];rfl
       have H0:=h_ h0;clear h0;have HN:=h_ (all_tk HZA.out.1 HQ.out (by rw[HZA.out.2,HXE.out,HDK.out];exact okp_ok (by rw[HTK.out];exact(by omega)) HNB.out ((jok_yes HJM.out rfl hj1 HDV.out).trans (by rw[H0.out];rfl))));go_wp2;go_roundw
       case rel=>exact⟨k+1,by omega,by go_num,HN,HC,HDC,HB.out⟩
       case measure=>simp[intOf];omega
      have tv:(dv != 0)=true:=by rw[bne_iff_ne];exact h0
      have H0:=h_ h0;clear h0;have hF:V=false:=HV.out.symm.trans (by unfold deepB;exact all_no HZA.out.1 (by rw[HZA.out.2,HXE.out,HDK.out];exact okp_3 ((jok_yes HJM.out rfl hj1 HDV.out).trans (decide_eq_false H0.out))));have HF:=h_ hF;clear hF;go_wp2;go_ret;exact⟨by rw[HF.out]<;>rfl,HB.out⟩
     have t6:(op==6)=false:=by rw[beq_eq_false_iff_ne];exact h6
     have HJN:=h_ (show jmpI ⟨op,a,b,n,s⟩=false by unfold jmpI;rw[show decide ((⟨op,a,b,n,s⟩:Ins).op=7)=false from HJ7.out,Bool.or_false];exact decide_eq_false h6);clear h6;have HN:=h_ (all_tk HZA.out.1 HQ.out (by rw[HZA.out.2,HXE.out,HDK.out];exact okp_ok (by rw[HTK.out];exact(by omega)) HNB.out (jok_no HJN.out)));go_wp2;go_roundw
     case rel=>exact⟨k+1,by omega,by go_num,HN,HC,HDC,HB.out⟩
     case measure=>simp[intOf];omega
   | false =>
    cases j7 with
    | true =>
     have HNB:=h_ (show badI d ⟨op,a,b,n,s⟩=false from badI_false HBE.out (by omega) (.inl H0.out));have HJM:=h_ (show jmpI ⟨op,a,b,n,s⟩=true by unfold jmpI;rw[show decide ((⟨op,a,b,n,s⟩:Ins).op=7)=true from HJ7.out,Bool.or_true])
     have hs7:op=7:=by simpa using HJ7.out
     have t6:(op==6)=false:=by rw[hs7];rfl
     clear hs7;have hat:=ins_tgt (List.all_eq_true.1 HINS.out _ (List.getElem_mem hlt)) (by rw[HXE.out];exact HJM.out);rw[HXE.out]at hat;obtain⟨ha0,ha1⟩:=hat;simp only at ha0 ha1;obtain⟨j,rfl⟩:∃j:Nat,a=(j:Int):=⟨a.toNat,by omega⟩
     have hj1:j<D.length:=by rw[hDL.out];omega
     have hj2:(j:Int)<(l.length:Int):=ha1;obtain⟨be,oe,hae,e0⟩:=int_cells HDC.out hj1;cases hae;obtain⟨dv,hdv⟩:=ex_ (D[j]);rw[hdv]at e0;have HDV:=h_ hdv;clear hdv ha0 ha1;by_cases h0:dv=0
     ·have tv:(dv != 0)=false:=by rw[h0];rfl
      have H0:=h_ h0;clear h0;have HN:=h_ (all_tk HZA.out.1 HQ.out (by rw[HZA.out.2,HXE.out,HDK.out];exact okp_ok (by rw[HTK.out];exact(by omega)) HNB.out ((jok_yes HJM.out rfl hj1 HDV.out).trans (by rw[H0.out];rfl))));go_wp2;go_roundw
      case rel=>exact⟨k+1,by omega,by go_num,HN,HC,HDC,HB.out⟩
      case measure=>simp[intOf];omega
     have tv:(dv != 0)=true:=by rw[bne_iff_ne];exact h0
     have H0:=h_ h0;clear h0;have hF:V=false:=HV.out.symm.trans (by unfold deepB;exact all_no HZA.out.1 (by rw[HZA.out.2,HXE.out,HDK.out];exact okp_3 ((jok_yes HJM.out rfl hj1 HDV.out).trans (decide_eq_false H0.out))));have HF:=h_ hF;clear hF;go_wp2;go_ret;exact⟨by rw[HF.out]<;>rfl,HB.out⟩
    | false =>
     have HNB:=h_ (show badI d ⟨op,a,b,n,s⟩=false from badI_false HBE.out (by omega) (.inl H0.out));by_cases h6:op=6
     ·have t6:(op==6)=true:=by rw[h6];rfl
      have HJM:=h_ (show jmpI ⟨op,a,b,n,s⟩=true by unfold jmpI;simp[h6]);clear h6;have hat:=ins_tgt (List.all_eq_true.1 HINS.out _ (List.getElem_mem hlt)) (by rw[HXE.out];exact HJM.out);rw[HXE.out]at hat;obtain⟨ha0,ha1⟩:=hat;simp only at ha0 ha1;obtain⟨j,rfl⟩:∃j:Nat,a=(j:Int):=⟨a.toNat,by omega⟩
      have hj1:j<D.length:=by rw[hDL.out];omega
      have hj2:(j:Int)<(l.length:Int):=ha1;obtain⟨be,oe,hae,e0⟩:=int_cells HDC.out hj1;cases hae;obtain⟨dv,hdv⟩:=ex_ (D[j]);rw[hdv]at e0;have HDV:=h_ hdv;clear hdv ha0 ha1;by_cases h0:dv=0
      ·have tv:(dv != 0)=false:=by rw[h0];rfl
       have H0:=h_ h0;clear h0;have HN:=h_ (all_tk HZA.out.1 HQ.out (by rw[HZA.out.2,HXE.out,HDK.out];exact okp_ok (by rw[HTK.out];exact(by omega)) HNB.out ((jok_yes HJM.out rfl hj1 HDV.out).trans (by rw[H0.out];rfl))));go_wp2;go_roundw
       case rel=>exact⟨k+1,by omega,by go_num,HN,HC,HDC,HB.out⟩
       case measure=>simp[intOf];omega
      have tv:(dv != 0)=true:=by rw[bne_iff_ne];exact h0
      have H0:=h_ h0;clear h0;have hF:V=false:=HV.out.symm.trans (by unfold deepB;exact all_no HZA.out.1 (by rw[HZA.out.2,HXE.out,HDK.out];exact okp_3 ((jok_yes HJM.out rfl hj1 HDV.out).trans (decide_eq_false H0.out))));have HF:=h_ hF;clear hF;go_wp2;go_ret;exact⟨by rw[HF.out]<;>rfl,HB.out⟩
     have t6:(op==6)=false:=by rw[beq_eq_false_iff_ne];exact h6
     have HJN:=h_ (show jmpI ⟨op,a,b,n,s⟩=false by unfold jmpI;rw[show decide ((⟨op,a,b,n,s⟩:Ins).op=7)=false from HJ7.out,Bool.or_false];exact decide_eq_false h6);clear h6;have HN:=h_ (all_tk HZA.out.1 HQ.out (by rw[HZA.out.2,HXE.out,HDK.out];exact okp_ok (by rw[HTK.out];exact(by omega)) HNB.out (jok_no HJN.out)));go_wp2;go_roundw
     case rel=>exact⟨k+1,by omega,by go_num,HN,HC,HDC,HB.out⟩
     case measure=>simp[intOf];omega
  ·have hlt':¬(k:Int)<(l.length:Int):=by omega
   have hF:V=true:=HV.out.symm.trans (by unfold deepB;exact all_full (by rw[List.length_zip,HDl.out];omega) HQ.out);have HF:=h_ hF;clear hF hDlen;go_wp2;go_ret;exact⟨by rw[HF.out]<;>rfl,HB.out⟩
theorem RValidate_any(pa ia:Option Addr)(pc ic:Nat)(P:List Int)(sl:Int)(l:List Ins)(w:World)(hP:CellsAt w (.slice pa P.length pc) P.length (intsL P))(hI:CellsAt w (.slice ia l.length ic) l.length (insLs l))(hp:P.length≤9223372036854775806)(hs:∀x∈l,x.s.length≤9223372036854775807):
  Calls prog 39 #[.agg #[.slice pa P.length pc,.int .i64 sl,.slice ia l.length ic]] w fun e w'=>e=.returned (.int .i64 (valC ⟨P,sl,l⟩))∧Below w.heap.size w w':=by
 rw[←valR_eq];obtain⟨V,hV⟩:=ex_ (valR ⟨P,sl,l⟩);rw[hV];have HV:=h_ hV;clear hV;have HPA:=h_ hP;have HIA:=h_ hI;have HS:=h_ hs;clear hP hI hs;obtain⟨v0,hW0,hb0,hc0⟩:=boxes1 w #[.slice pa P.length pc,.int .i64 sl,.slice ia l.length ic] 25;have HW:=h_ hW0;have HB:=h_ hb0;have HC:=h_ hc0;clear hW0 hb0 hc0;go_enter func39,ntmps39;go_upto_region 1 with (fail);rw[HW.out];clear HW;obtain⟨c0,c1,c2⟩:=HC.out.c3;by_cases h1:4096<l.length
 ·have h1':(4096:Int)<(l.length:Int):=by omega
  have hF:V=2:=HV.out.symm.trans (valR_lim (.inl h1));have HF:=h_ hF;clear hF;go_wp2;go_ret;exact⟨by rw[HF.out]<;>rfl,HB.out⟩
 have h1':¬(4096:Int)<(l.length:Int):=by omega
 by_cases h2:64<sl
 ·skip
  have hF:V=2:=HV.out.symm.trans (valR_lim (.inr h2));have HF:=h_ hF;clear hF;go_wp2;go_ret;exact⟨by rw[HF.out]<;>rfl,HB.out⟩
 have HL:=h_ (show ¬(4096<(⟨P,sl,l⟩:Cd).l.length∨64<(⟨P,sl,l⟩:Cd).sl) from fun h=>h.elim h1 h2)
 have hll:l.length≤4096:=by omega
 clear h1;go_wp2;go_loopw [4] (fun i wr=>∃k:Nat,k≤P.length∧i=.int .i64 k∧Hid ((P.take k).all tyB=true)∧Hid (Bx w.heap.size #[.slice pa P.length pc,.int .i64 sl,.slice ia l.length ic] 25 wr)∧Below w.heap.size w wr) (fun i _=>P.length-(intOf i).toNat)
 case atStart=>exact⟨0,Nat.zero_le _,rfl,h_ rfl,HC,HB.out⟩
 case round =>
  clear c0 c1 c2 HB HC;obtain⟨k,hk,rfl,HQ,HC,hB⟩:=hrel;have HB:=h_ hB;clear hB;obtain⟨c0,c1,c2⟩:=HC.out.c3;by_cases hlt:k<P.length
  ·have hlt':(k:Int)<(P.length:Int):=by omega
   have hw1:IntKind.i64.wrap ((k:Int)+1)=(k:Int)+1:=by rw[IntKind.wrap_i64];omega
   obtain⟨ba,oa,rfl,p0⟩:=int_cells (HPA.out.below HB.out) hlt;obtain⟨t,ht⟩:=ex_ (P[k]);rw[ht]at p0;have HT:=h_ ht;clear ht;by_cases e1:t=1
   ·have t1:(t != 1)=false:=by rw[e1];rfl
    have H1:=h_ e1;clear e1;have HN:=h_ (all_tk hlt HQ.out (by rw[HT.out];exact by rw[H1.out];rfl));go_wp2;go_roundw
    case rel=>exact⟨k+1,by omega,by go_num,HN,HC,HB.out⟩
    case measure=>simp[intOf];omega
   have t1:(t != 1)=true:=by rw[bne_iff_ne];exact e1
   by_cases e2:t=2
   ·have t2:(t != 2)=false:=by rw[e2];rfl
    have H1:=h_ e2;clear e1 e2;have HN:=h_ (all_tk hlt HQ.out (by rw[HT.out];exact by rw[H1.out];rfl));go_wp2;go_roundw
    case rel=>exact⟨k+1,by omega,by go_num,HN,HC,HB.out⟩
    case measure=>simp[intOf];omega
   have t2:(t != 2)=true:=by rw[bne_iff_ne];exact e2
   have HE:=h_ (show tyB t=false by unfold tyB;rw[decide_eq_false e1,decide_eq_false e2];rfl);clear e1 e2;have hF:V=23:=HV.out.symm.trans (valR_bad HL.out (.inl (all_no hlt (by rw[HT.out];exact HE.out))));have HF:=h_ hF;clear hF;go_wp2;go_ret;exact⟨by rw[HF.out]<;>rfl,HB.out⟩
  ·have hlt':¬(k:Int)<(P.length:Int):=by omega
   have HTY:=h_ (all_full hlt HQ.out);clear HQ;by_cases h3:sl<(P.length:Int)
   ·skip
    have hF:V=23:=HV.out.symm.trans (valR_bad HL.out (.inr (.inl h3)));have HF:=h_ hF;clear hF;go_wp2;go_ret;exact⟨by rw[HF.out]<;>rfl,HB.out⟩
   clear hlt hk;go_wp2;go_loopw [5] (fun i wr=>∃k:Nat,k≤l.length∧i=.int .i64 k∧Hid ((l.take k).all (insS sl (l.length:Int))=true)∧Hid (Bx w.heap.size #[.slice pa P.length pc,.int .i64 sl,.slice ia l.length ic] 25 wr)∧Below w.heap.size w wr) (fun i _=>l.length-(intOf i).toNat)
   case atStart=>exact⟨0,Nat.zero_le _,rfl,h_ rfl,HC,HB.out⟩
   case round =>
    clear c0 c1 c2 HB HC;obtain⟨k,hk,rfl,HQ,HC,hB⟩:=hrel;have HB:=h_ hB;clear hB;by_cases hlt:k<l.length
    ·have hlt':(k:Int)<(l.length:Int):=by omega
     have hw1:IntKind.i64.wrap ((k:Int)+1)=(k:Int)+1:=by rw[IntKind.wrap_i64];omega
     obtain⟨ba,oa,rfl,p0,p1,p2,p3,p4⟩:=ins_cells (HIA.out.below HB.out) hlt;have hxs:=HS.out _ (List.getElem_mem hlt);obtain⟨⟨op,a,b,n,s⟩,hxe⟩:∃x,l[k]=x:=⟨_,rfl⟩;rw[hxe]at p0 p1 p2 p3 p4 hxs;simp only at p0 p1 p2 p3 p4 hxs;have HXE:=h_ hxe;clear hxe;obtain⟨iv,hiv⟩:=ex_ (insS sl (l.length:Int) ⟨op,a,b,n,s⟩);have HIV:=h_ hiv;clear hiv;have hs0:Bx w.heap.size #[.slice pa P.length pc,.int .i64 sl,.slice (some ⟨ba,oa,none⟩) l.length ic] 25 wr.drew∧InsAt ba (oa+k * 5) op a b n s wr.drew:=⟨HC.out,p0,p1,p2,p3,p4⟩;have HS0:=h_ hs0;clear hs0 p0 p1 p2 p3 p4;go_wp2_with fail;refine wp_region_held_drew (S:=(fun w'=>Bx w.heap.size #[.slice pa P.length pc,.int .i64 sl,.slice (some ⟨ba,oa,none⟩) l.length ic] 25 w'∧InsAt ba (oa+k * 5) op a b n s w')) (by kernel_rfl) ?_ (fun hHeld=>?_)
     ·exact HS0.out
     refine tkY 0 (v:=?vv52) 48 ?yy52 ?_
     case yy52 =>
      intro wq hSw;obtain⟨c0,c1,c2⟩:=hSw.1.c3;clear hSw;go_simp
      (try with_reducible rfl)
     refine tkX 1 49 ?_;refine tkY 2 (v:=?vv54) 50 ?yy54 ?_
     case yy54 =>
      intro wq hSw;obtain⟨c0,c1,c2⟩:=hSw.1.c3;clear hSw;go_simp
      (try with_reducible rfl)
     refine tkX 3 51 ?_;refine tkX 4 52 ?_;refine tkY 5 (v:=?vv57) 53 ?yy57 ?_
     case yy57 =>
      intro wq hSw;obtain⟨z0,z1,z2,z3,z4⟩:=hSw.2;clear hSw;go_simp
      (try with_reducible rfl)
     simp only[sA,sB,sC];refine rd1 6 fun K hK=>?_;go_simp
     (have hcl:=fun W=>Rfields_any pa (some ⟨ba,oa,none⟩) P.length pc l.length ic sl ⟨op,a,b,n,s⟩ hxs W;simp only[insV]at hcl;refine(hcl _).mono ?_;rw[HIV.out];clear hcl;rintro er u1 ⟨rfl,hb1⟩)
     (try go_wp2_with fail)
     refine hK.out _ _ (⟨hHeld.1.call hb1,hHeld.2.below hb1⟩) fun hHeld=>?_;clear hK K
     (try simp only[Act.put,sA,sB,sC])
     refine tkX 7 55 ?_;simp only[sA,sB,sC];refine wpAnyH_done (by kernel_rfl) ?_ _;have hb0:Below wr.heap.size wr wr.drew:=(Below.refl wr.heap.size wr).drew;have hb3:=btrans hb0 hb0.size hb1;have HC:=HC.out.k hb3;have HB:=bt HB hb3;clear hb0 hb1 hb3 HS0 hHeld
     cases iv with
     | false =>
      have hF:V=23:=HV.out.symm.trans (valR_bad HL.out (.inr (.inr (.inl (all_no hlt (by rw[HXE.out];exact HIV.out))))));have HF:=h_ hF;clear hF;go_wp2;go_ret;exact⟨by rw[HF.out]<;>rfl,HB.out⟩
     | true =>
      have HN:=h_ (all_tk hlt HQ.out (by rw[HXE.out];exact HIV.out));go_wp2;go_roundw
      case rel=>exact⟨k+1,by omega,by go_num,HN,HC,HB.out⟩
      case measure=>simp[intOf];omega
    ·have hlt':¬(k:Int)<(l.length:Int):=by omega
     have HINS:=h_ (all_full hlt HQ.out);clear HQ hlt hk;obtain⟨c0,c1,c2⟩:=HC.out.c3;obtain⟨dv,hdv⟩:=ex_ (deepB l (depR 0 l));have HDV:=h_ hdv;clear hdv;go_wp2_with fail;refine(deep_any pa ia pc ic P sl l _ (HIA.out.below HB.out) hll HINS.out).mono ?_;rw[HDV.out];rintro er w3 ⟨rfl,hb1⟩;clear c0 c1 c2;have HB:=bt HB hb1;have HC:=HC.out.k hb1;clear hb1;obtain⟨c0,c1,c2⟩:=HC.out.c3
     cases dv with
     | false =>
      have hF:V=23:=HV.out.symm.trans (valR_bad HL.out (.inr (.inr (.inr (.inl HDV.out)))));have HF:=h_ hF;clear hF;go_wp2;go_ret;exact⟨by rw[HF.out]<;>rfl,HB.out⟩
     | true =>
      by_cases h4:l.length=0
      ·have h4':((l.length:Int)==0)=true:=by rw[beq_iff_eq];omega
       have H4:=h_ h4;clear h4;have hF:V=23:=HV.out.symm.trans (valR_bad HL.out (.inr (.inr (.inr (.inr (.inl H4.out))))));have HF:=h_ hF;clear hF;go_wp2;go_ret;exact⟨by rw[HF.out]<;>rfl,HB.out⟩
      have h4':((l.length:Int)==0)=false:=by rw[beq_eq_false_iff_ne];omega
      have H4:=h_ h4
      have hkm:l.length-1<l.length:=by omega
      have hwm:IntKind.i64.wrap ((l.length:Int)-1)=((l.length-1:Nat):Int):=by rw[IntKind.wrap_i64];omega
      obtain⟨bm,om,hiam,p0,p1,p2,p3,p4⟩:=ins_cells (HIA.out.below HB.out) hkm;obtain⟨m,hm⟩:=ex_ (l.length-1)
      have hkm2:m<l.length:=by omega
      have hkm3:(m:Int)<(l.length:Int):=by omega
      obtain⟨⟨op,a,b,n,s⟩,hxe⟩:∃x,l[m]=x:=⟨_,rfl⟩
      have hla:lastI l=⟨op,a,b,n,s⟩:=by rw[last_get (k:=m) (by omega),←hxe,List.getD_eq_getElem?_getD,List.getElem?_eq_getElem hkm2];rfl
      simp only[hm,hxe]at p0 p1 p2 p3 p4 hwm;have HLA:=h_ hla;have HIAM:=h_ hiam;clear h4 hla hkm hm hxe hiam;have hiam2:=HIAM.out;subst hiam2;clear HIAM;obtain⟨lv,hlv⟩:=ex_ (leaI ⟨op,a,b,n,s⟩);have HLV:=h_ hlv;clear hlv;go_wp2_with fail;have hcl:=Rfinal_any ⟨op,a,b,n,s⟩;simp only[insV]at hcl;refine(hcl _).mono ?_;rw[HLV.out];clear hcl;rintro er w4 ⟨rfl,hb1⟩;clear p0 p1 p2 p3 p4 c0 c1 c2;have HB:=bt HB hb1;have HC:=HC.out.k hb1;clear hb1
      cases lv with
      | false =>
       have hF:V=23:=HV.out.symm.trans (valR_bad HL.out (.inr (.inr (.inr (.inr (.inr (by rw[show lastI (⟨P,sl,l⟩:Cd).l=_ from HLA.out];exact HLV.out)))))));have HF:=h_ hF;clear hF;go_wp2;go_ret;exact⟨by rw[HF.out]<;>rfl,HB.out⟩
      | true =>
       have hF:V=0:=HV.out.symm.trans (valR_ok HL.out HTY.out (by show ¬sl<(P.length:Int);omega) HINS.out HDV.out H4.out (by rw[show lastI (⟨P,sl,l⟩:Cd).l=_ from HLA.out];exact HLV.out));have HF:=h_ hF;clear hF;go_wp2;go_ret;exact⟨by rw[HF.out]<;>rfl,HB.out⟩
structure Ry where
 c:Cd
 x:Rx
 stk:List Vl
 slo:List Vl
 pc:Int
 cnt:Int
 most:Int
structure Qa where
 pa:Option Addr
 pc:Nat
 ia:Option Addr
 ic:Nat
 ka:Option Addr
 kc:Nat
 la:Option Addr
 lc:Nat
 za:Option Addr
 zn:Nat
 zc:Nat
def kvA (R:Ra) (Q:Qa) (Y:Ry):Array Value:=#[.slice Q.pa Y.c.p.length Q.pc,.int .i64 Y.c.sl,.slice Q.ia Y.c.l.length Q.ic,.slice R.sa Y.x.M.length R.sc,.bool Y.x.F.all,.slice R.ra Y.x.F.rd.length R.rc,.slice R.wa Y.x.F.wr.length R.wc,.slice none 0 0,.slice R.oa Y.x.own.length R.oc,.int .i64 Y.x.st,.int .i64 Y.x.code,.slice R.ta Y.x.out.length R.tc,.slice R.ea Y.x.rds.length R.ec,.slice R.ua Y.x.puts.length R.uc,.slice none 0 0,.string (bs Y.x.miss),.int .i64 Y.x.steps,.slice Q.ka Y.stk.length Q.kc,.slice Q.la Y.slo.length Q.lc,.int .i64 Y.pc,.slice Q.za Q.zn Q.zc,.int .i64 Y.cnt,.int .i64 Y.most]
structure QIn (R:Ra) (Q:Qa) (Y:Ry) (W:World):Prop where
 r:RIn R Y.x W
 P:CellsAt W (.slice Q.pa Y.c.p.length Q.pc) Y.c.p.length (intsL Y.c.p)
 I:CellsAt W (.slice Q.ia Y.c.l.length Q.ic) Y.c.l.length (insLs Y.c.l)
 k:CellsAt W (.slice Q.ka Y.stk.length Q.kc) Y.stk.length (vlLs Y.stk)
 kc:Y.stk.length≤Q.kc
 l:CellsAt W (.slice Q.la Y.slo.length Q.lc) Y.slo.length (vlLs Y.slo)
theorem QIn.below{R:Ra}{Q:Qa}{Y:Ry}{W W':World}(h:QIn R Q Y W)(hb:Below W.heap.size W W'):QIn R Q Y W':=⟨h.r.below hb,h.P.below hb,h.I.below hb,h.k.below hb,h.kc,h.l.below hb⟩
def sameZ (Q Q':Qa):Prop:=Q'.za=Q.za∧Q'.zn=Q.zn∧Q'.zc=Q.zc
def KPost (D:Nat→Prop) (Q:Qa) (Y:Ry) (w:World) (e:Ending) (w':World):Prop:=∃R' Q',e=.returned (.agg (kvA R' Q' Y))∧Stab D w' (QIn R' Q' Y)∧Below w.heap.size w w'∧sameZ Q Q'
def VlP (L:List Vl) (w:World) (e:Ending) (w':World):Prop:=∃a c,e=.returned (.slice a L.length c)∧w'.ownsRow w.heap.size 52 3 (.slice a L.length c) L.length (vlLs L)∧Below w.heap.size w w'
theorem Bx.ret1t{b:Nat}{cs:Array Value}{T:TypeId}{W:World}(h:Bx b cs T W){fn:Func}{p q:Tmp}{ty:TypeId}(hr:fn.results=#[.cell p ty,.tmp q]){R:Ending→World→Prop}{a:Act}{u:Value}(hp:a.tmps[p]? = some (.pointer (some ⟨b,0,none⟩)))(hq:a.tmps[q]? = some u)(hd0:a.defers=[]){d:TypeDesc}(hu:prog.underlying ty=some d)(hd:d.isRow=true)(hi:(prog.info? ty).map (·.size)=some cs.toList.length)(hR:R (.returned (.tuple #[.agg cs,u])) W):bodyPost prog fn R .ret a W:=by
 have hl:(loadVar ty ⟨b,0,none⟩).run prog W=.ok (.agg cs) W:=run_loadVar_row W b T ty cs (0,0) d h hu (by cases d<;>first|rfl|exact hd) (by simpa using hi);refine bodyPost_ret (v:=.tuple #[.agg cs,u]) ?_ hd0 hR;rw[results_cell_tmp hr,Array.getD_eq_getD_getElem?,hp,Array.getD_eq_getD_getElem?,hq];simp[asAddr,hl]
theorem slHi_vl{a:Option Addr}{n cap k:Nat}(hk:k≤cap):∀w,(Instr.sliceAt 26 (.slice a n cap) none (some (.int .i64 (k:Int))) none).run prog w=.ok (.slice a k cap) w:=by
 obtain⟨i0,hi,-⟩:=info_parts infoVl;exact fun w=>run_slHi underlying26 hi a n cap k hk w
theorem cells_take_vl{W:World}{a:Option Addr}{n c:Nat}{L:List Vl}{k:Nat}(hk:k≤L.length)(h:CellsAt W (.slice a n c) n (vlLs L)):CellsAt W (.slice a k c) (L.take k).length (vlLs (L.take k)):=by
 rw[List.length_take,Nat.min_eq_left hk];obtain⟨a2,c2,he,hc⟩:=h;cases he;refine⟨_,_,rfl,fun hne=>?_⟩
 have e:vlLs L=vlLs (L.take k)++vlLs (L.drop k):=by unfold vlLs;rw[←List.flatMap_append,List.take_append_drop]
 obtain⟨b,off,hb,hcell⟩:=hc (fun q=>hne (List.append_eq_nil_iff.1 (e ▸ q)).1);refine⟨b,off,hb,fun j y hj=>hcell j y ?_⟩;rw[e,List.getElem?_append_left (List.getElem?_eq_some_iff.1 hj).1];exact hj
theorem slLo_vl{a:Option Addr}{cap k:Nat}{L:List Vl}(hk:k≤L.length):∃ad,(∀w,(Instr.sliceAt 26 (.slice a L.length cap) (some (.int .i64 (k:Int))) none none).run prog w=.ok (.slice ad (L.length-k) (cap-k)) w)∧∀W,CellsAt W (.slice a L.length cap) L.length (vlLs L)→L.length≤cap→CellsAt W (.slice ad (L.length-k) (cap-k)) (L.drop k).length (vlLs (L.drop k)):=by
 obtain⟨i0,hi,-,hz1,-⟩:=info_parts infoVl;refine⟨_,fun w=>run_slLo underlying26 hi a L.length cap k hk w,fun W h hc=>?_⟩;rw[hz1,List.length_drop];obtain⟨a2,c2,he,hx⟩:=h;cases he;refine⟨_,_,rfl,fun hne=>?_⟩
 have e:vlLs L=vlLs (L.take k)++vlLs (L.drop k):=by unfold vlLs;rw[←List.flatMap_append,List.take_append_drop]
 obtain⟨b,off,rfl,hcell⟩:=hx (fun q=>hne (List.append_eq_nil_iff.1 (e ▸ q)).2)
 have hkl:cap≠k:=by
  intro q;exact hne (by rw[List.drop_of_length_le (by omega)];rfl)
 rw[if_neg hkl];refine⟨b,off+k * 3,by simp[Addr.add],fun j y hj=>?_⟩
 have hl:(vlLs (L.take k)).length=k * 3:=by rw[vlLs_length,List.length_take,Nat.min_eq_left hk]
 rw[Nat.add_assoc];refine hcell _ y ?_;rw[e,List.getElem?_append_right (by omega),hl,Nat.add_sub_cancel_left];exact hj
theorem Rpushed_any(a:Option Addr)(cap:Nat)(L:List Vl)(v:Vl)(w:World)(hL:CellsAt w (.slice a L.length cap) L.length (vlLs L))(hl:L.length≤100000000):
  Calls prog 73 #[.slice a L.length cap,.agg (vV v)] w (VlP (L++[v]) w):=by
 have HL:=h_ hL;clear hL;obtain⟨v0,hW0,hb0,hHV⟩:=bxs1 w (vV v) 52;have HW:=h_ hW0;have HB:=h_ hb0;have HV:=h_ hHV;clear hW0 hb0 hHV;go_enter func73,ntmps73;go_upto_region 1 with (fail);rw[HW.out];clear HW
 have hsz:w.heap.size+1≤v0.heap.size:=by have:=HV.out.lt;omega
 go_wp2_with (at_builtin;refine appVl_any rfl _ _ rfl (w.heap.size+1) (.slice none 0 0) [] L _ (World.ownsRow_nil _ _ _ _) rfl rfl (HL.out.below HB.out) (by simp;omega) w w.heap.size HB.out hsz (by omega) ?_);intro v2 w2 ho2 hb2 hg2;have hsz2:w.heap.size+1≤w2.heap.size:=Nat.le_trans hsz hg2.size;have HV:=h_ (HV.out.app hg2 (World.ownsRow_nil _ (w.heap.size+1) 52 3) (by omega));have HB:=h_ hb2;have HO:=h_ (show w2.ownsRow (w.heap.size+1) 52 3 v2 L.length (vlLs L) from by simpa using ho2);clear ho2 hb2 hg2;go_wp2_with (first|refine HV.out.wl 0 (#[.int .i64 v.k,.int .i64 v.n,.string (bs v.s)]) underlying52 ?_|(at_builtin;refine appVl1_any rfl _ _ rfl (w.heap.size+1) v2 _ v HO.out rfl rfl (by omega) w w.heap.size HB.out hsz2 (by omega) ?_));intro v3 w3 ho3 hb3 hg3;have HB:=h_ hb3;clear HO;obtain⟨oa,oc,hvv⟩:=own_sl ho3;subst hvv;have HO:=h_ (show w3.ownsRow w.heap.size 52 3 (.slice oa (L++[v]).length oc) (L++[v]).length (vlLs (L++[v])) from own_mono (by simpa using ho3) (Nat.le_succ _));clear ho3 hb3 hg3;go_wp2;go_ret;exact⟨oa,oc,by simp,HO.out,HB.out⟩
theorem Rtop_any(a:Option Addr)(cap:Nat)(L:List Vl)(v:Vl)(w:World)(hL:CellsAt w (.slice a (L.length+1) cap) (L.length+1) (vlLs (L++[v])))(hc:L.length+1≤cap)(hl:L.length≤100000000):
  Calls prog 74 #[.slice a (L.length+1) cap] w fun e w'=>e=.returned (.tuple #[.agg (vV v),.slice a L.length cap])∧Below w.heap.size w w':=by
 have hst:=slHi_vl (a:=a) (n:=L.length+1) (k:=L.length) (cap:=cap) (by omega);obtain⟨b,off,rfl,c0,c1,c2⟩:=vl_cells hL (k:=L.length) (by simp);rw[List.getElem_append_right (Nat.le_refl _)]at c0 c1 c2;simp only[Nat.sub_self,List.getElem_cons_zero]at c0 c1 c2;have HC0:=h_ c0;have HC1:=h_ c1;have HC2:=h_ c2;clear c0 c1 c2 hL
 have hw1:IntKind.i64.wrap (((L.length:Int)+1)-1)=(L.length:Int):=by rw[IntKind.wrap_i64];omega
 have hw2:IntKind.i64.wrap (L.length:Int)=(L.length:Int):=by rw[IntKind.wrap_i64];omega
 have hkb:(0:Int)≤(L.length:Int)∧(L.length:Int)<(L.length:Int)+1:=⟨by omega,by omega⟩;obtain⟨v0,hW0,hb0,hHA⟩:=bxs1 w (#[.int .i64 0,.int .i64 0,.string ⟨#[]⟩]) 52;have HW:=h_ hW0;have HB:=h_ hb0;have HA:=h_ hHA;clear hW0 hb0 hHA;go_enter func74,ntmps74;go_upto_region 1 with (fail);rw[HW.out];clear HW;go_wp2_with fail;refine wp_region_held_drew (S:=(fun w'=>Below w.heap.size w w')) (by kernel_rfl) ?_ (fun hHeld=>?_)
 ·exact(show ((fun w'=>Below w.heap.size w w')) v0.drew from by have hb1:=(Below.refl v0.heap.size v0).drew;have HA:=HA.out.k hb1;have HB:=bt HB hb1;exact HB.out)
 have hb1:=(Below.refl v0.heap.size v0).drew;have HA:=HA.out.k hb1;have HB:=bt HB hb1;clear hb1;generalize hWd:v0.drew=D1 at hHeld HB HA ⊢;clear hWd;refine tkX 0 4 ?_;refine tkX 1 5 ?_;refine tkX 2 6 ?_;refine tkX 3 7 ?_;refine tkX 4 8 ?_;refine tkY 5 (v:=?vv6) 9 ?yy6 ?_
 case yy6 =>
  intro wq hSw;have z0:=cell1_below HC0.out hSw;have z1:=cell1_below HC1.out hSw;have z2:=cell1_below HC2.out hSw;clear hSw;go_simp
  (try with_reducible rfl)
 refine tkX 6 10 ?_;refine tkX 7 11 ?_;refine tkX 8 12 ?_;refine tkX 9 13 ?_;refine tkX 10 14 ?_;simp only[sA,sB,sC];refine rd1 11 fun K hK=>?_;refine Bx.rst HA.out 52 0 (.agg (vV v)) (vV v) rfl (Nat.le_of_ble_eq_true rfl) (by kernel_rfl) rfl rfl rfl rfl rfl ?_;intro W1 hq p1;have HA:=h_ hq;clear hq;have HB:=pb HB p1;clear p1;refine hK.out _ _ (HB.out) fun hHeld=>?_;clear hK K
 (try simp only[Act.put])
 refine tkX 12 3 ?_;simp only[sA,sB,sC];refine wpAnyH_done (by kernel_rfl) ?_ _;go_wp2;exact HA.out.ret1t rfl rfl rfl rfl underlying52 rfl (by kernel_rfl) ⟨rfl,HB.out⟩
theorem Rscalar_any(v:Vl)(w:World):
  Calls prog 79 #[.agg (vV v)] w fun e w'=>e=.returned (.bool (storedB v))∧Below w.heap.size w w':=by
 obtain⟨s,hs⟩:=ex_ (storedB v);rw[hs];have hs2:=h_ (show ((v.k==1) || (v.k==2))=s from hs);clear hs;obtain⟨v0,hW0,hb0,hHV⟩:=bxs1 w (vV v) 52;have HW:=h_ hW0;have HB:=h_ hb0;have HV:=h_ hHV;clear hW0 hb0 hHV;go_enter func79,ntmps79;go_upto_region 1 with (fail);rw[HW.out];clear HW;have p0:=HV.out.cl 0;cases h1:(v.k==1)<;>cases h2:(v.k==2)
 all_goals
  have hs3:=hs2.out;rw[h1,h2]at hs3;subst hs3;go_wp2;go_ret;exact⟨by first|exact True.intro|rfl,HB.out⟩
theorem Rwrong18_any(D:Nat→Prop)(R:Ra)(X:Rx)(w:World)(hD:∀k,D k→k<w.heap.size)(hR:Stab D w (RIn R X)):
  Calls prog 77 #[.agg (mvA R X)] w (MPost D (abX 1009 X) w):=by
 have HR:=h_ hR;clear hR;obtain⟨v0,hW0,hb0,hHM,hHY⟩:=bxs2 w (mvA R X) (#[.slice none 0 0,.bool false,.slice none 0 0,.slice none 0 0,.slice none 0 0,.slice none 0 0,.int .i64 0,.int .i64 0,.slice none 0 0,.slice none 0 0,.slice none 0 0,.slice none 0 0,.string ⟨#[]⟩,.int .i64 0]) 83 83;have HW:=h_ hW0;have HB:=h_ hb0;have HM:=h_ hHM;have HY:=h_ hHY;clear hW0 hb0 hHM hHY;go_enter func77,ntmps77;go_upto_region 1 with (fail);rw[HW.out];clear HW;go_wp2_with (refine HM.out.wl 0 (mvA R X) underlying83 ?_);refine(RAbort_any 1009 _ R X _ (bl 2 hD HY) (HR.out.inn HB.out 2)).mono ?_;rintro er w1 ⟨R2,rfl,hr2,hb1⟩;have HM:=HM.out.k hb1;have HY:=HY.out.k hb1;have HB:=bt HB hb1;clear hb1;have HR2:=h_ hr2;clear hr2;go_wp2_with (refine HY.out.wa (mvA R2 (abX 1009 X)) ?_);intro W1 HY p1;have HM:=HM.out.q p1;have HB:=pb HB p1;have HR2:=HR2.out.q p1;clear p1;go_wp2;exact HY.out.r1 underlying83 ⟨R2,rfl,HR2.out.out,HB.out⟩
theorem vlLs_set:∀(L:List Vl) (i:Nat) (v:Vl),i<L.length→vlLs (L.set i v)=(vlLs L).take (i * 3)++(vV v).toList++(vlLs L).drop (i * 3+3)
 | [],_,_,h=>by cases h
 | u::L,0,v,_=>by simp[vlLs,vlL,vV]
 | u::L,i+1,v,h=>by
  have:=vlLs_set L i v (by simpa using h)
  have e:∀l:List Vl,vlLs (u::l)=vlL u++vlLs l:=fun l=>by simp[vlLs]
  rw[List.set_cons_succ,e,this,e]
  have h1:(i+1) * 3=i * 3+1+1+1:=by omega
  have h2:(i+1) * 3+3=i * 3+3+1+1+1:=by omega
  rw[h2,h1];simp[vlL]
theorem own_sta{W:World}{B g cap:Nat}{L:List Vl}(h:W.ownsRow B 52 3 (.slice (some ⟨g,0,none⟩) L.length cap) L.length (vlLs L))(i:Nat)(hi:i<L.length)(v:Vl):
  ∃W',(Instr.storeAt 52 (.pointer (some ⟨g,i * 3,none⟩)) (.agg (vV v))).run prog W=.ok () W'∧W'.ownsRow B 52 3 (.slice (some ⟨g,0,none⟩) L.length cap) L.length (vlLs (L.set i v))∧Put g W W':=by
 rcases h.2 with ⟨h1,_⟩|⟨g2,cap2,cur,h1,hb,hg,hn,hm,hs,ht⟩
 ·cases h1
 cases h1;have hx:Bx g cur 52 W:=hg
 have hic:i * 3+3≤cap * 3:=by omega
 obtain⟨i0,hi0,-,hz1,-⟩:=info_parts infoVl;obtain⟨W',h2,h3,h4⟩:=hx.sta 52 (i * 3) (.agg (vV v)) (cur.toList.take (i * 3)++(vV v).toList++cur.toList.drop (i * 3+3)).toArray rfl (by rw[hs];exact hic) (by rw[hi0];exact congrArg some hz1) rfl;refine⟨W',h2,⟨by rw[vlLs_length,List.length_set],.inr ⟨g,cap,_,rfl,hb,h3,hn,hm,?_,?_⟩⟩,h4⟩
 ·simp[vV];omega
 ·rw[vlLs_set L i v hi,←ht,List.take_take,Nat.min_eq_left (by omega),List.drop_take]
  have e1:(cur.toList.take (i * 3)).length=i * 3:=by rw[List.length_take,Array.length_toList,hs];omega
  rw[List.take_append,List.take_of_length_le (by rw[List.length_append,e1];show i * 3+3≤_;omega),List.length_append,e1];rfl
theorem own_wst{W:World}{B g cap:Nat}{L:List Vl}(h:W.ownsRow B 52 3 (.slice (some ⟨g,0,none⟩) L.length cap) L.length (vlLs L))(i:Nat)(hi:i<L.length)(v:Vl)
  {ops:Array Oper} {rest:List Oper} {op:Oper} {a:Act} {Q:Exit→Act→World→Prop} {x y:Operand} (hgd:op.guard=none) (ho:op.op=.store 52 x y) (hx:a.eval x=.pointer (some ⟨g,i * 3,none⟩)) (hy:a.eval y=.agg (vV v)) (hk:∀W',W'.ownsRow B 52 3 (.slice (some ⟨g,0,none⟩) L.length cap) L.length (vlLs (L.set i v))→Put g W W'→wpList prog ops Q rest (a.put op.dst undef) W'):wpList prog ops Q (op::rest) a W:=by
 obtain⟨W',hs,hb,hp⟩:=own_sta h i hi v;refine wpList_plain hgd fun K hK=>?_;unfold Oper.wp execOp;simp only[ho,hx,hy,Sem.run_bind,hs,Result.andThen_ok,Sem.run_pure];exact hK _ _ (hk W' hb hp)
theorem own_rst{W:World}{B g cap:Nat}{L:List Vl}(h:W.ownsRow B 52 3 (.slice (some ⟨g,0,none⟩) L.length cap) L.length (vlLs L))(i:Nat)(hi:i<L.length)(v:Vl)
  {ops:Array Oper} {op:Oper} {a:Act} {K:Act→World→Prop} {Q:Exit→Act→World→Prop} {E:Prop} {x y:Operand} (hgd:op.guard=none) (ho:op.op=.store 52 x y) (hx:a.eval x=.pointer (some ⟨g,i * 3,none⟩)) (hy:a.eval y=.agg (vV v)) (hk:∀W',W'.ownsRow B 52 3 (.slice (some ⟨g,0,none⟩) L.length cap) L.length (vlLs (L.set i v))→Put g W W'→K (a.put op.dst undef) W'):
  if Region.wanted op (yielded ops a.tmps)=true then Oper.wp prog op a W K Q else E:=by
 obtain⟨W',hs,hb,hp⟩:=own_sta h i hi v
 have hw:Region.wanted op (yielded ops a.tmps)=true:=by simp[Region.wanted,hgd]
 rw[if_pos hw];unfold Oper.wp execOp;simp only[ho,hx,hy,Sem.run_bind,hs,Result.andThen_ok,Sem.run_pure];exact hk W' hb hp
theorem Rstored_any(a:Option Addr)(cap k:Nat)(L:List Vl)(v:Vl)(w:World)(hL:CellsAt w (.slice a L.length cap) L.length (vlLs L))(hl:L.length≤100000000)(hk:k<L.length):
  Calls prog 75 #[.slice a L.length cap,.int .i64 (k:Int),.agg (vV v)] w (VlP (L.set k v) w):=by
 have HL:=h_ hL;clear hL;obtain⟨v0,hW0,hb0,hHV⟩:=bxs1 w (vV v) 52;have HW:=h_ hW0;have HB:=h_ hb0;have HV:=h_ hHV;clear hW0 hb0 hHV;go_enter func75,ntmps75;go_upto_region 1 with (fail);rw[HW.out];clear HW
 have hsz:w.heap.size+1≤v0.heap.size:=by have:=HV.out.lt;omega
 go_wp2_with (at_builtin;refine appVl_any rfl _ _ rfl (w.heap.size+1) (.slice none 0 0) [] L _ (World.ownsRow_nil _ _ _ _) rfl rfl (HL.out.below HB.out) (by simp;omega) w w.heap.size HB.out hsz (by omega) ?_);intro v2 w2 ho2 hb2 hg2;have hsz2:w.heap.size+1≤w2.heap.size:=Nat.le_trans hsz hg2.size;have HV:=h_ (HV.out.app hg2 (World.ownsRow_nil _ (w.heap.size+1) 52 3) (by omega));have HB:=h_ hb2
 have ho3:w2.ownsRow (w.heap.size+1) 52 3 v2 L.length (vlLs L):=by simpa using ho2
 clear ho2 hb2 hg2;obtain⟨oa,oc,hvv⟩:=own_sl ho3;subst hvv
 obtain⟨g,rfl,hgb⟩:∃g,oa=some ⟨g,0,none⟩∧w.heap.size+1≤g:=by
  rcases ho3.2 with ⟨h1,h2⟩|⟨g,c,cur,h1,h2,-⟩
  ·omega
  ·cases h1;exact⟨g,rfl,h2⟩
 have HO:=h_ ho3;clear ho3;have hkb:(0:Int)≤(k:Int)∧(k:Int)<(L.length:Int):=⟨by omega,by omega⟩;go_wp2_with (first|refine HV.out.wl 0 (vV v) underlying52 ?_|(refine own_wst HO.out k hk v rfl rfl (by first|rfl|simp) rfl ?_));intro w3 ho3 hp;have HO:=h_ ho3;have HB:=h_ (hp.below (by omega) HB.out);clear ho3 hp;go_wp2;go_ret;exact⟨_,oc,by rw[List.length_set];first|rfl|simp,by rw[List.length_set];exact own_mono HO.out (Nat.le_succ _),HB.out⟩
theorem Raccepts_any(pa ia aa:Option Addr)(pc ic ac n:Nat)(P:List Int)(sl:Int)(A:List Vl)(w:World)(hP:CellsAt w (.slice pa P.length pc) P.length (intsL P))(hA:CellsAt w (.slice aa A.length ac) A.length (vlLs A))(hl:A.length≤9000000000000)(hx:∀v∈A,v.s.length≤9223372036854775807)(hPk:∀x∈P,x=1∨x=2):
  Calls prog 40 #[.agg #[.slice pa P.length pc,.int .i64 sl,.slice ia n ic],.slice aa A.length ac] w fun e w'=>e=.returned (.bool (accB P A))∧Below w.heap.size w w':=by
 obtain⟨R,hR⟩:=ex_ (accB P A);rw[hR];have HR:=h_ hR;have HPA:=h_ hP;have HAA:=h_ hA;have HX:=h_ hx;have HPK:=h_ hPk;clear hR hP hA hx hPk;obtain⟨v0,hW0,hb0,hHC⟩:=bxs1 w (#[.slice pa P.length pc,.int .i64 sl,.slice ia n ic]) 25;have HW:=h_ hW0;have HB:=h_ hb0;have HC:=h_ hHC;clear hW0 hb0 hHC;go_enter func40,ntmps40;go_upto_region 1 with (fail);rw[HW.out];clear HW;have c0:=HC.out.cl 0;by_cases hne:A.length=P.length;rotate_left
 ·have tn:((A.length:Int) != (P.length:Int))=true:=by rw[bne_iff_ne];omega
  have HF:=h_ (show R=false from HR.out.symm.trans (by unfold accB;rw[decide_eq_false hne];rfl));clear hne;go_wp2;go_ret;exact⟨by rw[HF.out]<;>rfl,HB.out⟩
 have tn:((A.length:Int) != (P.length:Int))=false:=by rw[hne];exact bne_self_eq_false _
 have HR2:=h_ (show (List.range A.length).all (accP P A)=R from(show accB P A=_ by unfold accB;rw[decide_eq_true hne,Bool.true_and]).symm.trans HR.out);have HNE:=h_ hne;clear hne;go_wp2;go_loopw [5] (fun i wr=>∃k:Nat,k≤A.length∧i=.int .i64 k∧Hid ((List.range k).all (accP P A)=true)∧Hid (Bx w.heap.size #[.slice pa P.length pc,.int .i64 sl,.slice ia n ic] 25 wr)∧Below w.heap.size w wr) (fun i _=>A.length-(intOf i).toNat)
 case atStart=>exact⟨0,Nat.zero_le _,by first|exact True.intro|rfl,h_ rfl,HC,HB.out⟩
 case round =>
  clear c0 HC HB;obtain⟨k,hk,rfl,HQ,HC,hB⟩:=hrel;have HB:=h_ hB;clear hB;by_cases hlt:k<A.length
  ·have hlt':(k:Int)<(A.length:Int):=by omega
   have hkb:(0:Int)≤(k:Int)∧(k:Int)<(A.length:Int):=⟨by omega,by omega⟩
   have hlp:k<P.length:=by rw[←HNE.out];exact hlt
   have hlp':(0:Int)≤(k:Int)∧(k:Int)<(P.length:Int):=⟨by omega,by omega⟩
   have hw1:IntKind.i64.wrap ((k:Int)+1)=(k:Int)+1:=by rw[IntKind.wrap_i64];omega
   obtain⟨b,off,rfl,p0,p1,p2⟩:=vl_cells (HAA.out.below HB.out) hlt;obtain⟨m,hm⟩:=ex_ (A[k]);rw[hm]at p0 p1 p2
   have hml:m.s.length≤9223372036854775807:=by have:=HX.out _ (List.getElem_mem hlt);rw[hm]at this;exact this
   have HMK:=h_ (show A.getD k v00=m by rw[getD_at hlt,hm]);clear hm;obtain⟨pb,po,rfl,q0⟩:=int_cells (HPA.out.below HB.out) hlp;obtain⟨ty,hty⟩:=ex_ (P[k]);rw[hty]at q0;have HTY:=h_ (show P.getD k 0=ty by rw[getD_at hlp,hty])
   have hty2:ty=1∨ty=2:=by rw[←hty];exact HPK.out _ (List.getElem_mem hlp)
   clear hty;have HP0:=h_ p0;have HP1:=h_ p1;have HP2:=h_ p2;have HQ0:=h_ q0;clear p0 p1 p2 q0;obtain⟨kk,hkk⟩:=ex_ (m.k);have HKK:=h_ hkk;rw[hkk]at HP0;clear hkk;rcases hty2 with rfl|rfl
   ·have HAC:=h_ (show accP P A k=(decide (kk=1) && vaB m) by unfold accP;rw[HMK.out,HTY.out,HKK.out];rfl)
    go_wp2_with fail;refine wp_region_held_drew (S:=(fun w'=>Below wr.heap.size wr w')) (by kernel_rfl) ?_ (fun hHeld=>?_)
    ·exact(Below.refl _ _).drew
    refine tkX 0 20 ?_;refine tkY 1 (v:=?vv2) 21 ?yy2 ?_
    case yy2 =>
     intro wq hSw;have z0:wq.cell? ⟨w.heap.size,0,none⟩=some (.slice (some ⟨pb,po,none⟩) P.length pc):=cell1_below (HC.out.cell 0) hSw;clear hSw;go_simp
     (try with_reducible rfl)
    refine tkX 2 22 ?_;refine tkX 3 23 ?_;refine tkY 4 (v:=?vv5) 24 ?yy5 ?_
    case yy5 =>
     intro wq hSw;have z0:=cell1_below HQ0.out hSw;clear hSw;go_simp
     (try with_reducible rfl)
    refine tkX 5 25 ?_;refine tkX 6 26 ?_;refine tkX 7 27 ?_;refine tkX 8 28 ?_;refine tkX 9 29 ?_;refine tkX 10 30 ?_;refine tkY 11 (v:=?vv12) 31 ?yy12 ?_
    case yy12 =>
     intro wq hSw;have z0:=cell1_below HP0.out hSw;clear hSw;go_simp
     (try with_reducible rfl)
    refine tkX 12 32 ?_;refine tkX 13 33 ?_;refine tkX 14 34 ?_;refine tkY 15 (v:=?vv16) 35 ?yy16 ?_
    case yy16 =>
     intro wq hSw;have z0:wq.cell? ⟨w.heap.size,0,none⟩=some (.slice (some ⟨pb,po,none⟩) P.length pc):=cell1_below (HC.out.cell 0) hSw;clear hSw;go_simp
     (try with_reducible rfl)
    refine tkX 16 36 ?_;refine tkX 17 37 ?_;refine tkY 18 (v:=?vv19) 38 ?yy19 ?_
    case yy19 =>
     intro wq hSw;have z0:=cell1_below HQ0.out hSw;clear hSw;go_simp
     (try with_reducible rfl)
    refine tkX 19 39 ?_;refine tkX 20 40 ?_;refine tkZ 21 41 ?_;refine tkZ 22 42 ?_;refine tkZ 23 43 ?_;refine tkZ 24 44 ?_;refine tkZ 25 45 ?_;refine tkZ 26 46 ?_;refine tkX 27 47 ?_;refine tkX 28 6 ?_;refine tkX 29 7 ?_;simp only[sA,sB,sC];refine wpAnyH_done (by kernel_rfl) ?_ _;have hdr:=(Below.refl wr.heap.size wr).drew;clear hHeld;have HC:=HC.out.k hdr;have HB:=bt HB hdr;have e0:=cell1_below HP0.out hdr;have e1:=cell1_below HP1.out hdr;have e2:=cell1_below HP2.out hdr;clear hdr;rw[←HKK.out]at e0;obtain⟨vb,hvb⟩:=ex_ (vaB m);have HVB:=h_ hvb;clear hvb;go_wp2_with fail;refine(RVValid_any m hml _).mono ?_;rw[HVB.out];rintro er w1 ⟨rfl,hb1⟩;have HC:=HC.out.k hb1;have HB:=bt HB hb1;clear hb1 e0 e1 e2;by_cases h1:vb=true∧kk=1
    ·obtain⟨rfl,rfl⟩:=h1
     have HN:=h_ (rng_step HQ.out (show accP P A k=true by rw[HAC.out,HVB.out];rfl));go_wp2;go_roundw
     case rel=>exact⟨k+1,by omega,by go_num,HN,HC,HB.out⟩
     case measure=>simp[intOf];omega
    ·have HF:=h_ (show R=false from HR2.out.symm.trans (rng_bad hlt (by rw[HAC.out,HVB.out,Bool.eq_false_iff];intro q;rw[Bool.and_eq_true,decide_eq_true_eq]at q;exact h1 ⟨q.2,q.1⟩)))
     have t1:(!vb || !(kk==1))=true:=by cases vb<;>simp at h1 ⊢;exact h1
     clear h1
     cases vb with
     | false=>go_wp2;go_ret;exact⟨by rw[HF.out]<;>rfl,HB.out⟩
     | true =>
      have t2:(kk==1)=false:=by simpa using t1
      clear t1;go_wp2;go_ret;exact⟨by rw[HF.out]<;>rfl,HB.out⟩
   ·have HAC:=h_ (show accP P A k=(decide (kk=2) && vaB m) by unfold accP;rw[HMK.out,HTY.out,HKK.out];rfl)
    go_wp2_with fail;refine wp_region_held_drew (S:=(fun w'=>Below wr.heap.size wr w')) (by kernel_rfl) ?_ (fun hHeld=>?_)
    ·exact(Below.refl _ _).drew
    refine tkX 0 20 ?_;refine tkY 1 (v:=?vv26) 21 ?yy26 ?_
    case yy26 =>
     intro wq hSw;have z0:wq.cell? ⟨w.heap.size,0,none⟩=some (.slice (some ⟨pb,po,none⟩) P.length pc):=cell1_below (HC.out.cell 0) hSw;clear hSw;go_simp
     (try with_reducible rfl)
    refine tkX 2 22 ?_;refine tkX 3 23 ?_;refine tkY 4 (v:=?vv29) 24 ?yy29 ?_
    case yy29 =>
     intro wq hSw;have z0:=cell1_below HQ0.out hSw;clear hSw;go_simp
     (try with_reducible rfl)
    refine tkX 5 25 ?_;refine tkX 6 26 ?_;refine tkZ 7 27 ?_;refine tkZ 8 28 ?_;refine tkZ 9 29 ?_;refine tkZ 10 30 ?_;refine tkZ 11 31 ?_;refine tkZ 12 32 ?_;refine tkX 13 33 ?_;refine tkX 14 34 ?_;refine tkY 15 (v:=?vv34) 35 ?yy34 ?_
    case yy34 =>
     intro wq hSw;have z0:wq.cell? ⟨w.heap.size,0,none⟩=some (.slice (some ⟨pb,po,none⟩) P.length pc):=cell1_below (HC.out.cell 0) hSw;clear hSw;go_simp
     (try with_reducible rfl)
    refine tkX 16 36 ?_;refine tkX 17 37 ?_;refine tkY 18 (v:=?vv37) 38 ?yy37 ?_
    case yy37 =>
     intro wq hSw;have z0:=cell1_below HQ0.out hSw;clear hSw;go_simp
     (try with_reducible rfl)
    refine tkX 19 39 ?_;refine tkX 20 40 ?_;refine tkX 21 41 ?_;refine tkX 22 42 ?_;refine tkX 23 43 ?_;refine tkX 24 44 ?_;refine tkY 25 (v:=?vv44) 45 ?yy44 ?_
    case yy44 =>
     intro wq hSw;have z0:=cell1_below HP0.out hSw;clear hSw;go_simp
     (try with_reducible rfl)
    refine tkX 26 46 ?_;refine tkX 27 47 ?_;refine tkX 28 6 ?_;refine tkX 29 7 ?_;simp only[sA,sB,sC];refine wpAnyH_done (by kernel_rfl) ?_ _;have hdr:=(Below.refl wr.heap.size wr).drew;clear hHeld;have HC:=HC.out.k hdr;have HB:=bt HB hdr;have e0:=cell1_below HP0.out hdr;have e1:=cell1_below HP1.out hdr;have e2:=cell1_below HP2.out hdr;clear hdr;rw[←HKK.out]at e0;obtain⟨vb,hvb⟩:=ex_ (vaB m);have HVB:=h_ hvb;clear hvb;go_wp2_with fail;refine(RVValid_any m hml _).mono ?_;rw[HVB.out];rintro er w1 ⟨rfl,hb1⟩;have HC:=HC.out.k hb1;have HB:=bt HB hb1;clear hb1 e0 e1 e2;by_cases h1:vb=true∧kk=2
    ·obtain⟨rfl,rfl⟩:=h1
     have HN:=h_ (rng_step HQ.out (show accP P A k=true by rw[HAC.out,HVB.out];rfl));go_wp2;go_roundw
     case rel=>exact⟨k+1,by omega,by go_num,HN,HC,HB.out⟩
     case measure=>simp[intOf];omega
    ·have HF:=h_ (show R=false from HR2.out.symm.trans (rng_bad hlt (by rw[HAC.out,HVB.out,Bool.eq_false_iff];intro q;rw[Bool.and_eq_true,decide_eq_true_eq]at q;exact h1 ⟨q.2,q.1⟩)))
     have t1:(!vb || !(kk==2))=true:=by cases vb<;>simp at h1 ⊢;exact h1
     clear h1
     cases vb with
     | false=>go_wp2;go_ret;exact⟨by rw[HF.out]<;>rfl,HB.out⟩
     | true =>
      have t2:(kk==2)=false:=by simpa using t1
      clear t1;go_wp2;go_ret;exact⟨by rw[HF.out]<;>rfl,HB.out⟩
  ·have hlt':¬(k:Int)<(A.length:Int):=by omega
   have hkl:k=A.length:=by omega
   have HF:=h_ (show R=true from HR2.out.symm.trans (by rw[←hkl];exact HQ.out));clear hkl;go_wp2;go_ret;exact⟨by rw[HF.out]<;>rfl,HB.out⟩
theorem run_allocT{o:Oper}{T:TypeId}{z:Array Value}(ho:o.op=.alloc T)(hz:(prog.info? T).map (·.zero)=some (some (.agg z)))(ρ:Operand→Value)(w:World):(execOp ρ o).run prog w=.ok (.value (.pointer (some ⟨w.heap.size,0,none⟩))) (w.alloc (.cells z T)):=by
 cases hq:prog.info? T with
 | none=>simp[hq]at hz
 | some i =>
  have hz2:i.zero=some (.agg z):=by simpa[hq] using hz
  simp[execOp,ho,Instr.alloc,zeroValue,typeInfo,hq,hz2,newVar]
  try rfl
theorem wal{ops:Array Oper}{rest:List Oper}{op:Oper}{a:Act}{W:World}{Q:Exit→Act→World→Prop}{T:TypeId}{z:Array Value}{d:Nat}(hgd:op.guard=none)(ho:op.op=.alloc T)(hd:op.dst=some d)(hz:(prog.info? T).map (·.zero)=some (some (.agg z)))
  (hk:∀b W',W.heap.size≤b→Bx b z T W'→Below W.heap.size W W'→wpList prog ops Q rest (a.put (some d) (.pointer (some ⟨b,0,none⟩))) W'):wpList prog ops Q (op::rest) a W:=by
 refine wpList_plain hgd fun K hK=>?_;unfold Oper.wp;rw[run_allocT ho hz,Oper.upon_value,hd];exact hK _ _ (hk _ _ (Nat.le_refl _) (Bx.new W z T) ((Below.refl W.heap.size W).alloc (Nat.le_refl _) _))
theorem race2{ops:Array Oper}{Q:Exit→Act→World→Prop}{md:Region.Mode}{S:World→Prop}{i j:Nat}{oi oj:Oper}{fuel:Nat}{listed:Array Bool}{tm:Array Value}{df:List Deferred}{w:World}(di dj:Nat){vi vj:Nat→Value}{Oi Oj:Obj}
  (hi:ops[i]? = some oi) (hj:ops[j]? = some oj) (hdi:oi.dst=some di) (hdj:oj.dst=some dj) (gi:oi.guard=none) (gj:oj.guard=none) (hne:di≠dj)
  (r0:Region.ready md ops listed=[i,j]) (r1:Region.ready md ops (listed.setIfInBounds i true)=[j]) (r2:Region.ready md ops (listed.setIfInBounds j true)=[i]) (hij:i≠j)
  (ei:∀tm' w',tm'=tm∨(∃x,tm'=tm.setIfInBounds dj x)→(execOp (Act.eval ⟨tm',df⟩) oi).run prog w'=.ok (.value (vi w'.heap.size)) (w'.alloc Oi))
  (ej:∀tm' w',tm'=tm∨(∃x,tm'=tm.setIfInBounds di x)→(execOp (Act.eval ⟨tm',df⟩) oj).run prog w'=.ok (.value (vj w'.heap.size)) (w'.alloc Oj))
  (hS:S w) (hSk:∀W',S w→Below w.heap.size w W'→S W')
  (h:∀b c W',b≠c→w.heap.size≤b→w.heap.size≤c→W'.heap[b]? = some Oi→W'.heap[c]? = some Oj→Below w.heap.size w W'→S W'→wpAnyH prog md ops Q S fuel ((listed.setIfInBounds i true).setIfInBounds j true) ⟨(tm.setIfInBounds di (vi b)).setIfInBounds dj (vj c),df⟩ W'):
  wpAnyH prog md ops Q S (fuel+1+1) listed ⟨tm,df⟩ w:=by
 have b1:∀p,Below w.heap.size w (w.alloc p):=fun p=>(Below.refl w.heap.size w).alloc (Nat.le_refl _) p;have b2:∀p q,Below w.heap.size w ((w.alloc p).alloc q):=fun p q=>(b1 p).alloc (by simp) q
 have n0:∀(u:World) (p:Obj),(u.alloc p).heap[u.heap.size]? = some p:=fun u p=>by show (u.heap.push p)[u.heap.size]? = some p;exact Array.getElem?_push_size
 have hz:∀p:Obj,(w.alloc p).heap.size=w.heap.size+1:=fun p=>by simp
 have n1:∀p q:Obj,((w.alloc p).alloc q).heap[w.heap.size]? = some p:=fun p q=>(((Below.refl (w.alloc p).heap.size (w.alloc p)).alloc (Nat.le_refl _) q).block w.heap.size (by simp)).trans (n0 w p)
 have n2:∀p q:Obj,((w.alloc p).alloc q).heap[w.heap.size+1]? = some q:=fun p q=>by have:=n0 (w.alloc p) q;rwa [hz]at this
 refine wpAnyH_ready r0 (by simp) (AllReadyH.cons hi (fun K hK=>?_) (AllReadyH.cons hj (fun K hK=>?_) AllReadyH.nil))
 ·rw[if_pos (by simp[Region.wanted,gi])]
  unfold Oper.wp;rw[ei tm w (.inl rfl),Oper.upon_value,hdi];refine hK.out _ _ (hSk _ hS (b1 _)) fun hS1=>wpAnyH_ready r1 (by simp) (AllReadyH.cons hj (fun K2 hK2=>?_) AllReadyH.nil);rw[if_pos (by simp[Region.wanted,gj])];unfold Oper.wp;rw[show (Act.put ⟨tm,df⟩ (some di) (vi w.heap.size))=⟨tm.setIfInBounds di (vi w.heap.size),df⟩ from rfl,ej _ (w.alloc Oi) (.inr ⟨_,rfl⟩),Oper.upon_value,hdj];refine hK2.out _ _ (hSk _ hS (b2 _ _)) fun hS2=>?_;exact h w.heap.size (w.alloc Oi).heap.size _ (by rw[hz];omega) (Nat.le_refl _) (by rw[hz];omega) (n1 _ _) (by rw[hz];exact n2 _ _) (b2 _ _) hS2
 ·rw[if_pos (by simp[Region.wanted,gj])]
  unfold Oper.wp;rw[ej tm w (.inl rfl),Oper.upon_value,hdj];refine hK.out _ _ (hSk _ hS (b1 _)) fun hS1=>wpAnyH_ready r2 (by simp) (AllReadyH.cons hi (fun K2 hK2=>?_) AllReadyH.nil);rw[if_pos (by simp[Region.wanted,gi])];unfold Oper.wp;rw[show (Act.put ⟨tm,df⟩ (some dj) (vj w.heap.size))=⟨tm.setIfInBounds dj (vj w.heap.size),df⟩ from rfl,ei _ (w.alloc Oj) (.inr ⟨_,rfl⟩),Oper.upon_value,hdi];refine hK2.out _ _ (hSk _ hS (b2 _ _)) fun hS2=>?_;have:=h (w.alloc Oj).heap.size w.heap.size _ (by rw[hz];omega) (by rw[hz];omega) (Nat.le_refl _) (by rw[hz];exact n2 _ _) (n1 _ _) (b2 _ _) hS2;rw[Array.setIfInBounds_comm _ _ hij,Array.setIfInBounds_comm _ _ hne]at this;exact this
theorem meet{α:Type}{ops:Array Oper}{Q:Exit→Act→World→Prop}{md:Region.Mode}{S:World→Prop}{fuel:Nat}{listed:Array Bool}{tm:Array Value}{df:List Deferred}{w:World}(C:Nat→Nat→α→World→Prop)(LST:Array Bool)(UP:Nat→Nat→α→List (Nat × Value))(fuel2:Nat)
  (h:∀b c v W',S W'→C b c v W'→wpAnyH prog md ops Q S fuel2 LST ⟨(UP b c v).foldl (fun t p=>t.setIfInBounds p.1 p.2) tm,df⟩ W')
  (h2:(∀b c v W',S W'→C b c v W'→wpAnyH prog md ops Q S fuel2 LST ⟨(UP b c v).foldl (fun t p=>t.setIfInBounds p.1 p.2) tm,df⟩ W')→wpAnyH prog md ops Q S fuel listed ⟨tm,df⟩ w):wpAnyH prog md ops Q S fuel listed ⟨tm,df⟩ w:=h2 h
theorem Stab.more{D:Nat→Prop}{W W':World}{P:World→Prop}(h:Stab D W P)(hb:Below W.heap.size W W'){b c:Nat}(h1:W.heap.size≤b)(h2:W.heap.size≤c):Stab (moreD D b c) W' P:=fun W2 hs hk=>h W2 (Nat.le_trans hb.size hs) fun k hk1 hk2=>(hk k (Nat.lt_of_lt_of_le hk1 hb.size) (by rintro (q|q|q);exact hk2 q;all_goals omega)).trans (hb.block k hk1)
theorem Stab.less{D:Nat→Prop}{W:World}{P:World→Prop}{b c:Nat}(h:Stab (moreD D b c) W P):Stab D W P:=fun W' hs hk=>h W' hs fun k hk1 hk2=>hk k hk1 fun q=>hk2 (.inl q)
theorem Stab.weak{D D':Nat→Prop}{W:World}{P:World→Prop}(h:Stab D W P)(hd:∀k,D' k→D k):Stab D' W P:=fun W' hs hk=>h W' hs fun k hk1 hk2=>hk k hk1 fun q=>hk2 (hd k q)
theorem moreD_lt{D:Nat→Prop}{B b c:Nat}(hD:∀k,D k→k<B)(h1:b<B)(h2:c<B):∀k,moreD D b c k→k<B:=by
 rintro k (q|rfl|rfl)
 ·exact hD k q
 ·exact h1
 ·exact h2
theorem own_le{W:World}{B k n c:Nat}{e:TypeId}{a:Option Addr}{xs:List Value}(h:W.ownsRow B e k (.slice a n c) n xs):n≤c:=by
 rcases h.2 with ⟨h1,h2⟩|⟨g,cap,cur,h1,-,-,h4,-⟩
 ·omega
 ·cases h1;exact h4
end Go.Proofs.YtnglaegofhpleaaGreatDoor
