/- What the claim needs, part 5. No conditions. -/
import Derived.Test.YtnglaegofhpleaaGreatDoorZk4
set_option maxRecDepth 100000
set_option maxHeartbeats 64000000
namespace Go.Proofs.YtnglaegofhpleaaGreatDoor
open Go.RowKit Go.Proofs.Tryz
theorem Eval_any(sa ra wa va aa:Option Addr)(sc rc wc vc ac:Nat)(M:List Pr)(al:Bool)(rd wri:List (List UInt8))(op:Int)(V:List Pr)(names:List (List UInt8))(vals:List Vl)(hnk:V.map Pr.key=names)(hvv:V.map Pr.v=vals)(hnd:names.Nodup)(hnm:∀x∈names,isNm x=true∧x.length≤1000000)(hop:(vals.length=1∧(op=9∨op=18∨op=20∨op=21∨op=22∨op=23∨op=24))∨(vals.length=2∧4≤op∧op≤19∧op≠9∧op≠18))(hok:∀v∈vals,OkV v)(hML:∀p∈M,p.key.length≤9223372036854775807∧p.v.s.length≤9223372036854775807)(hRL:∀q∈rd++wri,q.length≤9223372036854775807)(hl1:M.length≤9000000000000)(hl2:rd.length≤9000000000000)(hl3:wri.length≤9000000000000)(w:World)(hM:CellsAt w (.slice sa M.length sc) M.length (prLs M))(hR:StrS w (.slice ra rd.length rc) rd)(hWr:StrS w (.slice wa wri.length wc) wri)(hVs:CellsAt w (.slice va V.length vc) V.length (prLs V))(hA:CellsAt w (.slice aa vals.length ac) vals.length (exLs names))(hLd:Laid w):
  Calls prog 93 #[.agg #[.int .i64 op,.int .i64 0,.string ⟨#[]⟩,.slice aa vals.length ac],.slice va V.length vc,.slice sa M.length sc,.agg #[.bool al,.slice ra rd.length rc,.slice wa wri.length wc]] w fun e w'=>∃rv,e=.returned (.tuple #[.agg (vEnd (evE al rd wri M op vals).1),.agg (efA (evE al rd wri M op vals).1 rv)])∧w'.ownsRow w.heap.size 9 1 rv (evE al rd wri M op vals).2.length ((evE al rd wri M op vals).2.map strV)∧Below w.heap.size w w':=by
 obtain⟨⟨R,ks⟩,hU⟩:∃x,evE al rd wri M op vals=x:=⟨_,rfl⟩;rw[hU];simp only
 have hall:vals.all varB=V.all (fun p=>varB p.v):=by rw[←hvv,List.all_map];rfl
 have hvl:vals.length=V.length:=by rw[←hvv,List.length_map]
 have hnl:names.length=V.length:=by rw[←hnk,List.length_map]
 have hva:VarsAre V names vals:=by
  refine⟨by omega,fun k h h2=>?_⟩
  have hk:k<V.length:=by omega
  have e1:names[k]=V[k].key:=by subst hnk;exact List.getElem_map _
  have e2:vals[k]=V[k].v:=by subst hvv;exact List.getElem_map _
  rw[e1,e2];exact⟨hasK_at hk rfl,vars_are V (hnk ▸ hnd) k hk⟩
 have hndV:(V.map Pr.key).Nodup:=hnk ▸ hnd
 have har:arS op=(vals.length:Int):=by rcases hop with ⟨h,h1⟩|⟨h,h1⟩<;>rw[h]<;>unfold arS<;>simp<;>omega
 have h4:4≤op:=by omega
 have hvb:vals.length≤2:=by omega
 have hlv:V.length≤2:=by omega
 have hokv:∀p∈V,OkV p.v:=fun p hp=>hok p.v (hvv ▸ List.mem_map.2 ⟨p,hp,rfl⟩);have HOV:=h_ hokv;clear hokv;have HU:=h_ hU;have HALL:=h_ hall;have HVA:=h_ hva;have HND:=h_ hndV;have HAR:=h_ har;have HOP:=h_ hop;have HOK:=h_ hok;have HML:=h_ hML;have HRL:=h_ hRL;have HM:=h_ hM;have HRS:=h_ hR;have HWR:=h_ hWr;have HVS:=h_ hVs;have HA:=h_ hA;have HLD:=h_ hLd;have HNM:=h_ hnm;have HVL:=h_ hvl;have HNL:=h_ hnl;clear hU hall hva hndV har hop hok hML hRL hM hR hWr hVs hA hLd hnm hnd hnk hvv hvl hnl;obtain⟨v0,hW0,hb,hE,hF,h1,h2⟩:=boxes4 w #[.int .i64 op,.int .i64 0,.string ⟨#[]⟩,.slice aa vals.length ac] #[.bool al,.slice ra rd.length rc,.slice wa wri.length wc] #[.int .i64 0,.int .i64 0,.string ⟨#[]⟩] #[.int .i64 0,.int .i64 0,.slice none 0 0,.slice none 0 0,.slice none 0 0,.slice none 0 0,.string ⟨#[]⟩,.int .i64 0] 116 29 52 37;have HW0:=h_ hW0;have HW:=h_ hb;have HE:=h_ hE;have HF:=h_ hF;have HR1:=h_ h1;have HR2:=h_ h2;clear hW0 hb hE hF h1 h2;go_enter func93,ntmps93;go_upto_region 1 with (fail);rw[HW0.out];clear HW0;obtain⟨e0,e1,e2,e3⟩:=HE.out.c4;obtain⟨g0,g1,g2⟩:=HF.out.c3;go_wp2_with fail;refine(ValidExpr_any op vals.length aa ac names h4 HAR.out (by have:=HVL.out;have:=HNL.out;omega) hvb HNM.out _ (HA.out.below HW.out)).mono ?_;rintro er w1 ⟨rfl,hb1⟩;clear e0 e1 e2 e3 g0 g1 g2;have HE:=HE.out.k hb1;have HF:=HF.out.k hb1;have HR1:=HR1.out.k hb1;have HR2:=HR2.out.k hb1;have HW:=h_ (btrans HW.out HW.out.size hb1);clear hb1;obtain⟨g0,g1,g2⟩:=HF.out.c3;go_wp2_with fail;refine(SValid_any sa sc M _ hl1 HML.out (HM.out.below HW.out)).mono ?_;obtain⟨sb,hsb⟩:=ex_ (stB M);rw[hsb];rintro er w2 ⟨rfl,hb2⟩;have HSB:=h_ hsb;clear hsb g0 g1 g2;have HE:=HE.out.k hb2;have HF:=HF.out.k hb2;have HR1:=HR1.out.k hb2;have HR2:=HR2.out.k hb2;have HW:=h_ (btrans HW.out HW.out.size hb2);clear hb2
 cases sb with
 | false =>
  have hUU:(R,ks)=(Rs.ab 1009,[]):=HU.out.symm.trans (if_neg (by rw[HSB.out];simp));obtain⟨rfl,rfl⟩:=pair_eq hUU;clear hUU;go_wp2_with fail;refine(iwrong_any _).mono ?_;rintro er w9 ⟨rfl,hb9⟩;have HR1:=HR1.out.k hb9;have HR2:=HR2.out.k hb9;have HW:=h_ (btrans HW.out HW.out.size hb9);clear hb9;obtain⟨r0,r1,r2⟩:=HR1.out.c3;have f0:=HR1.out.free 0;have f1:=HR1.out.free 1;have f2:=HR1.out.free 2;have HA1:=h_ (HR1.out.sets3 (.int .i64 0) (.int .i64 0) (.string ⟨#[]⟩));have HA2:=h_ (HR2.out.sets3_ne (c:=w.heap.size+2) (by omega) (.int .i64 0) (.int .i64 0) (.string ⟨#[]⟩));have HAW:=h_ (below_sets3 HW.out (w.heap.size+2) (by omega) (.int .i64 0) (.int .i64 0) (.string ⟨#[]⟩));obtain⟨s0,s1,s2,s3,s4,s5,s6,s7⟩:=HA2.out.c8;have z0:=HA2.out.free 0;have z1:=HA2.out.free 1;have z2:=HA2.out.free 2;have z3:=HA2.out.free 3;have z4:=HA2.out.free 4;have z5:=HA2.out.free 5;have z6:=HA2.out.free 6;have z7:=HA2.out.free 7;have HB1:=h_ ((((((((HA1.out.other (c:=w.heap.size+3) (i:=0) (by omega) (.int .i64 2)).other (c:=w.heap.size+3) (i:=1) (by omega) (.int .i64 1009)).other (c:=w.heap.size+3) (i:=2) (by omega) (.slice none 0 0)).other (c:=w.heap.size+3) (i:=3) (by omega) (.slice none 0 0)).other (c:=w.heap.size+3) (i:=4) (by omega) (.slice none 0 0)).other (c:=w.heap.size+3) (i:=5) (by omega) (.slice none 0 0)).other (c:=w.heap.size+3) (i:=6) (by omega) (.string ⟨#[]⟩)).other (c:=w.heap.size+3) (i:=7) (by omega) (.int .i64 0));have HB2:=h_ (HA2.out.sets8 (.int .i64 2) (.int .i64 1009) (.slice none 0 0) (.slice none 0 0) (.slice none 0 0) (.slice none 0 0) (.string ⟨#[]⟩) (.int .i64 0));have HBW:=h_ (below_sets8 HAW.out (w.heap.size+3) (by omega) (.int .i64 2) (.int .i64 1009) (.slice none 0 0) (.slice none 0 0) (.slice none 0 0) (.slice none 0 0) (.string ⟨#[]⟩) (.int .i64 0));go_wp2;obtain⟨k0,k1,k2⟩:=HB1.out.c3;obtain⟨l0,l1,l2,l3,l4,l5,l6,l7⟩:=HB2.out.c8;refine bodyPost_ret (v:=.tuple #[.agg #[.int .i64 0,.int .i64 0,.string ⟨#[]⟩],.agg #[.int .i64 2,.int .i64 1009,.slice none 0 0,.slice none 0 0,.slice none 0 0,.slice none 0 0,.string ⟨#[]⟩,.int .i64 0]]) (by simp[results,results93,go_sem,k0,k1,k2,l0,l1,l2,l3,l4,l5,l6,l7]<;>rfl) rfl ⟨(.slice none 0 0),rfl,own_nil _ _ _ _,HBW.out⟩
 | true =>
  obtain⟨g0,g1,g2⟩:=HF.out.c3;go_wp2_with fail;refine(ivalid_any al ra wa rc wc rd wri _ (HRS.out.below HW.out) (HWR.out.below HW.out) ⟨hl2,hl3⟩ HRL.out).mono ?_;obtain⟨fb,hfb⟩:=ex_ (ftB ⟨al,rd,wri⟩);rw[hfb];rintro er w3 ⟨rfl,hb3⟩;have HFB:=h_ hfb;clear hfb g0 g1 g2;have HE:=HE.out.k hb3;have HF:=HF.out.k hb3;have HR1:=HR1.out.k hb3;have HR2:=HR2.out.k hb3;have HW:=h_ (btrans HW.out HW.out.size hb3);clear hb3
  cases fb with
  | false =>
   have hUU:(R,ks)=(Rs.ab 1009,[]):=HU.out.symm.trans (if_neg (by rw[HFB.out];simp));obtain⟨rfl,rfl⟩:=pair_eq hUU;clear hUU;go_wp2_with fail;refine(iwrong_any _).mono ?_;rintro er w9 ⟨rfl,hb9⟩;have HR1:=HR1.out.k hb9;have HR2:=HR2.out.k hb9;have HW:=h_ (btrans HW.out HW.out.size hb9);clear hb9;obtain⟨r0,r1,r2⟩:=HR1.out.c3;have f0:=HR1.out.free 0;have f1:=HR1.out.free 1;have f2:=HR1.out.free 2;have HA1:=h_ (HR1.out.sets3 (.int .i64 0) (.int .i64 0) (.string ⟨#[]⟩));have HA2:=h_ (HR2.out.sets3_ne (c:=w.heap.size+2) (by omega) (.int .i64 0) (.int .i64 0) (.string ⟨#[]⟩));have HAW:=h_ (below_sets3 HW.out (w.heap.size+2) (by omega) (.int .i64 0) (.int .i64 0) (.string ⟨#[]⟩));obtain⟨s0,s1,s2,s3,s4,s5,s6,s7⟩:=HA2.out.c8;have z0:=HA2.out.free 0;have z1:=HA2.out.free 1;have z2:=HA2.out.free 2;have z3:=HA2.out.free 3;have z4:=HA2.out.free 4;have z5:=HA2.out.free 5;have z6:=HA2.out.free 6;have z7:=HA2.out.free 7;have HB1:=h_ ((((((((HA1.out.other (c:=w.heap.size+3) (i:=0) (by omega) (.int .i64 2)).other (c:=w.heap.size+3) (i:=1) (by omega) (.int .i64 1009)).other (c:=w.heap.size+3) (i:=2) (by omega) (.slice none 0 0)).other (c:=w.heap.size+3) (i:=3) (by omega) (.slice none 0 0)).other (c:=w.heap.size+3) (i:=4) (by omega) (.slice none 0 0)).other (c:=w.heap.size+3) (i:=5) (by omega) (.slice none 0 0)).other (c:=w.heap.size+3) (i:=6) (by omega) (.string ⟨#[]⟩)).other (c:=w.heap.size+3) (i:=7) (by omega) (.int .i64 0));have HB2:=h_ (HA2.out.sets8 (.int .i64 2) (.int .i64 1009) (.slice none 0 0) (.slice none 0 0) (.slice none 0 0) (.slice none 0 0) (.string ⟨#[]⟩) (.int .i64 0));have HBW:=h_ (below_sets8 HAW.out (w.heap.size+3) (by omega) (.int .i64 2) (.int .i64 1009) (.slice none 0 0) (.slice none 0 0) (.slice none 0 0) (.slice none 0 0) (.string ⟨#[]⟩) (.int .i64 0));go_wp2;obtain⟨k0,k1,k2⟩:=HB1.out.c3;obtain⟨l0,l1,l2,l3,l4,l5,l6,l7⟩:=HB2.out.c8;refine bodyPost_ret (v:=.tuple #[.agg #[.int .i64 0,.int .i64 0,.string ⟨#[]⟩],.agg #[.int .i64 2,.int .i64 1009,.slice none 0 0,.slice none 0 0,.slice none 0 0,.slice none 0 0,.string ⟨#[]⟩,.int .i64 0]]) (by simp[results,results93,go_sem,k0,k1,k2,l0,l1,l2,l3,l4,l5,l6,l7]<;>rfl) rfl ⟨(.slice none 0 0),rfl,own_nil _ _ _ _,HBW.out⟩
  | true =>
   obtain⟨g0,g1,g2⟩:=HF.out.c3;go_wp2_with fail;refine(newM_any sa ra wa sc rc wc M al rd wri _).mono ?_;rintro er w4 ⟨mb,vm,om,rfl,hb4,hx,hv,ho,hmb,hvm,hom,hvo⟩;have hw3:=HR2.out.lt;clear g0 g1 g2;have HX:=h_ hx;have HV:=h_ hv;have HO:=h_ ho;clear hx hv ho;have HE:=HE.out.k hb4;have HF:=HF.out.k hb4;have HR1:=HR1.out.k hb4;have HR2:=HR2.out.k hb4;have HW:=h_ (btrans HW.out HW.out.size hb4);clear hb4;obtain⟨tb,htb⟩:=ex_ (w4.heap.size);have hxl:=HX.out.lt;have hvl:=HV.out.lt;have hol:=HO.out.lt;have hb5:=(Below.refl w4.heap.size w4).alloc (Nat.le_refl _) (.cells #[.pointer (some ⟨mb,0,none⟩)] 138);have hT:=Bx.new w4 #[.pointer (some ⟨mb,0,none⟩)] 138;rw[htb]at hT;have HT:=h_ hT;clear hT;have HX:=HX.out.k hb5;have HV:=HV.out.k hb5;have HO:=HO.out.k hb5;clear HF;have HE:=HE.out.k hb5;have HR1:=HR1.out.k hb5;have HR2:=HR2.out.k hb5;have HW:=h_ (btrans HW.out HW.out.size hb5);clear hb5;rw[htb]at hxl hvl hol;go_upto_region 4 with (fail);generalize hW:w4.alloc (.cells #[.pointer (some ⟨mb,0,none⟩)] 138)=v1 at HE HR1 HR2 HT HX HV HO HW ⊢;clear hW
   (try rw[htb])
   clear htb;go_wp2;go_loopw [38] (fun i wr=>∃k:Nat,k≤V.length∧i=.int .i64 k∧Hid ((V.take k).all (fun p=>varB p.v)=true)∧Hid (Bx w.heap.size #[.int .i64 op,.int .i64 0,.string ⟨#[]⟩,.slice aa vals.length ac] 116 wr)∧Hid (Bx (w.heap.size+2) #[.int .i64 0,.int .i64 0,.string ⟨#[]⟩] 52 wr)∧Hid (Bx (w.heap.size+3) #[.int .i64 0,.int .i64 0,.slice none 0 0,.slice none 0 0,.slice none 0 0,.slice none 0 0,.string ⟨#[]⟩,.int .i64 0] 37 wr)∧Hid (Bx tb #[.pointer (some ⟨mb,0,none⟩)] 138 wr)∧Hid (Bx mb #[.slice sa M.length sc,.bool al,.slice ra rd.length rc,.slice wa wri.length wc,.map (some vm),.map (some om),.int .i64 0,.int .i64 0,.slice none 0 0,.slice none 0 0,.slice none 0 0,.slice none 0 0,.string ⟨#[]⟩,.int .i64 0] 143 wr)∧Hid (Mp vm (V.take k) wr)∧Hid (Mp om [] wr)∧Below w.heap.size w wr) (fun i _=>V.length-(intOf i).toNat)
   case atStart=>exact⟨0,Nat.zero_le _,by first|exact True.intro|rfl,h_ rfl,HE,HR1,HR2,HT,HX,HV,HO,HW.out⟩
   case round =>
    clear HE HR1 HR2 HT HX HV HO HW;obtain⟨k,hk,rfl,HQ,HE,HR1,HR2,HT,HX,HV,HO,hW⟩:=hrel;have HW:=h_ hW;clear hW;by_cases hlt:k<V.length
    ·have hlt':(k:Int)<(V.length:Int):=by omega
     have hkb:(0:Int)≤(k:Int)∧(k:Int)<(V.length:Int):=⟨by omega,by omega⟩
     have hw1:IntKind.i64.wrap ((k:Int)+1)=(k:Int)+1:=by rw[IntKind.wrap_i64];omega
     obtain⟨b,off,rfl,p0,p1,p2,p3⟩:=pr_cells (HVS.out.below HW.out) hlt;obtain⟨p,hp⟩:=ex_ (V[k]);rw[hp]at p0 p1 p2 p3;have HP:=h_ hp;clear hp;have hb1:=(Below.refl wr.heap.size wr).alloc (Nat.le_refl _) (.cells #[.string (bs p.key),.int .i64 p.v.k,.int .i64 p.v.n,.string (bs p.v.s)] 55);have HPB:=h_ (Bx.new wr #[.string (bs p.key),.int .i64 p.v.k,.int .i64 p.v.n,.string (bs p.v.s)] 55);have hpl:=HT.out.lt;have hpx:=HX.out.lt;have hpv:=HV.out.lt;have hpo:=HO.out.lt;have HE:=HE.out.k hb1;have HR1:=HR1.out.k hb1;have HR2:=HR2.out.k hb1;have HT:=HT.out.k hb1;have HX:=HX.out.k hb1;have HV:=HV.out.k hb1;have HO:=HO.out.k hb1;have HW:=h_ (btrans HW.out HW.out.size hb1);clear hb1;go_upto_region 7 with (fail);obtain⟨pb,hpb⟩:=ex_ (wr.heap.size);rw[hpb]at HPB hpl hpx hpv hpo;generalize hW:wr.alloc (.cells #[.string (bs p.key),.int .i64 p.v.k,.int .i64 p.v.n,.string (bs p.v.s)] 55)=v2 at HE HR1 HR2 HT HX HV HO HW HPB ⊢;clear hW p0 p1 p2 p3
     (try rw[hpb])
     clear hpb;obtain⟨p0,p1,p2,p3⟩:=HPB.out.c4;obtain⟨vb2,hvb2⟩:=ex_ (varB p.v);have HVB:=h_ hvb2;clear hvb2
     have hps:p.v.s.length≤9223372036854775807:=by have:=(HOV.out p (HP.out ▸ List.getElem_mem _)).2.2;omega
     go_wp2_with fail;refine(ivariable_any p.v _ hps).mono ?_;rw[HVB.out];rintro er w5 ⟨rfl,hb5⟩;clear p0 p1 p2 p3;have HE:=HE.out.k hb5;have HR1:=HR1.out.k hb5;have HR2:=HR2.out.k hb5;have HT:=HT.out.k hb5;have HX:=HX.out.k hb5;have HV:=HV.out.k hb5;have HO:=HO.out.k hb5;have HPB:=HPB.out.k hb5;have HW:=h_ (btrans HW.out HW.out.size hb5);clear hb5
     cases vb2 with
     | false =>
      have hUU:(R,ks)=(Rs.ab 1009,[]):=HU.out.symm.trans (if_neg (by rw[HALL.out,allv_bad hlt HP.out HVB.out];simp));obtain⟨rfl,rfl⟩:=pair_eq hUU;clear hUU;go_wp2_with fail;refine(iwrong_any _).mono ?_;rintro er w9 ⟨rfl,hb9⟩;have HR1:=HR1.out.k hb9;have HR2:=HR2.out.k hb9;have HW:=h_ (btrans HW.out HW.out.size hb9);clear hb9;obtain⟨r0,r1,r2⟩:=HR1.out.c3;have f0:=HR1.out.free 0;have f1:=HR1.out.free 1;have f2:=HR1.out.free 2;have HA1:=h_ (HR1.out.sets3 (.int .i64 0) (.int .i64 0) (.string ⟨#[]⟩));have HA2:=h_ (HR2.out.sets3_ne (c:=w.heap.size+2) (by omega) (.int .i64 0) (.int .i64 0) (.string ⟨#[]⟩));have HAW:=h_ (below_sets3 HW.out (w.heap.size+2) (by omega) (.int .i64 0) (.int .i64 0) (.string ⟨#[]⟩));obtain⟨s0,s1,s2,s3,s4,s5,s6,s7⟩:=HA2.out.c8;have z0:=HA2.out.free 0;have z1:=HA2.out.free 1;have z2:=HA2.out.free 2;have z3:=HA2.out.free 3;have z4:=HA2.out.free 4;have z5:=HA2.out.free 5;have z6:=HA2.out.free 6;have z7:=HA2.out.free 7;have HB1:=h_ ((((((((HA1.out.other (c:=w.heap.size+3) (i:=0) (by omega) (.int .i64 2)).other (c:=w.heap.size+3) (i:=1) (by omega) (.int .i64 1009)).other (c:=w.heap.size+3) (i:=2) (by omega) (.slice none 0 0)).other (c:=w.heap.size+3) (i:=3) (by omega) (.slice none 0 0)).other (c:=w.heap.size+3) (i:=4) (by omega) (.slice none 0 0)).other (c:=w.heap.size+3) (i:=5) (by omega) (.slice none 0 0)).other (c:=w.heap.size+3) (i:=6) (by omega) (.string ⟨#[]⟩)).other (c:=w.heap.size+3) (i:=7) (by omega) (.int .i64 0));have HB2:=h_ (HA2.out.sets8 (.int .i64 2) (.int .i64 1009) (.slice none 0 0) (.slice none 0 0) (.slice none 0 0) (.slice none 0 0) (.string ⟨#[]⟩) (.int .i64 0));have HBW:=h_ (below_sets8 HAW.out (w.heap.size+3) (by omega) (.int .i64 2) (.int .i64 1009) (.slice none 0 0) (.slice none 0 0) (.slice none 0 0) (.slice none 0 0) (.string ⟨#[]⟩) (.int .i64 0));go_wp2;obtain⟨k0,k1,k2⟩:=HB1.out.c3;obtain⟨l0,l1,l2,l3,l4,l5,l6,l7⟩:=HB2.out.c8;refine bodyPost_ret (v:=.tuple #[.agg #[.int .i64 0,.int .i64 0,.string ⟨#[]⟩],.agg #[.int .i64 2,.int .i64 1009,.slice none 0 0,.slice none 0 0,.slice none 0 0,.slice none 0 0,.string ⟨#[]⟩,.int .i64 0]]) (by simp[results,results93,go_sem,k0,k1,k2,l0,l1,l2,l3,l4,l5,l6,l7]<;>rfl) rfl ⟨(.slice none 0 0),rfl,own_nil _ _ _ _,HBW.out⟩
     | true =>
      have hni:hasK (V.take k) p.key=false:=hasK_none (HP.out ▸ take_notin HND.out hlt);have hgn:getP (V.take k) p.key=v00:=getP_none _ (HP.out ▸ take_notin HND.out hlt);have HNI:=h_ hni;have HGN:=h_ hgn;clear hni hgn;go_wp2_with fail;have hs0:((fun w'=>Bx tb #[.pointer (some ⟨mb,0,none⟩)] 138 w'∧Bx mb #[.slice sa M.length sc,.bool al,.slice ra rd.length rc,.slice wa wri.length wc,.map (some vm),.map (some om),.int .i64 0,.int .i64 0,.slice none 0 0,.slice none 0 0,.slice none 0 0,.slice none 0 0,.string ⟨#[]⟩,.int .i64 0] 143 w'∧Bx pb #[.string (bs p.key),.int .i64 p.v.k,.int .i64 p.v.n,.string (bs p.v.s)] 55 w'∧Mp vm (V.take k) w')) w5.drew:=⟨HT.out,HX.out,HPB.out,HV.out⟩;have HS0:=h_ hs0;clear hs0;refine wp_region_held_drew (S:=(fun w'=>Bx tb #[.pointer (some ⟨mb,0,none⟩)] 138 w'∧Bx mb #[.slice sa M.length sc,.bool al,.slice ra rd.length rc,.slice wa wri.length wc,.map (some vm),.map (some om),.int .i64 0,.int .i64 0,.slice none 0 0,.slice none 0 0,.slice none 0 0,.slice none 0 0,.string ⟨#[]⟩,.int .i64 0] 143 w'∧Bx pb #[.string (bs p.key),.int .i64 p.v.k,.int .i64 p.v.n,.string (bs p.v.s)] 55 w'∧Mp vm (V.take k) w')) (by kernel_rfl) ?_ (fun hHeld=>?_)
      ·exact HS0.out
      refine tkY 0 (v:=?vv1) 49 ?yy1 ?_
      case yy1 =>
       intro wq hSw;have t0:wq.cell? ⟨tb,0,none⟩=some (.pointer (some ⟨mb,0,none⟩)):=hSw.1.cell 0;clear hSw;go_simp
       (try with_reducible rfl)
      refine tkX 1 50 ?_;refine tkX 2 51 ?_;refine tkY 3 (v:=?vv4) 52 ?yy4 ?_
      case yy4 =>
       intro wq hSw;obtain⟨m0,m1,m2,m3,m4,-⟩:=hSw.2.1.c14;clear hSw;go_simp
       (try with_reducible rfl)
      refine tkX 4 53 ?_;refine tkY 5 (v:=?vv6) 54 ?yy6 ?_
      case yy6 =>
       intro wq hSw;obtain⟨p0,p1,p2,p3⟩:=hSw.2.2.1.c4;clear hSw;go_simp
       (try with_reducible rfl)
      refine tkY 6 (v:=?vv7) 55 ?yy7 ?_
      case yy7 =>
       intro wq hSw;have hlk:=run_look hSw.2.2.2 p.key;rw[HGN.out,HNI.out]at hlk;simp only[vV,v00]at hlk;clear hSw;go_simp
       (try with_reducible rfl)
      refine tkX 7 48 ?_;refine tkX 8 56 ?_;refine tkX 9 57 ?_;simp only[sA,sB,sC];refine rd1 10 fun K hK=>?_;go_simp;skip
      focus (try go_wp2_with fail)
      refine hK.out _ _ (⟨hHeld.1.alloc _,hHeld.2.1.alloc _,hHeld.2.2.1.alloc _,hHeld.2.2.2.call ((Below.refl _ _).alloc (Nat.le_refl _) _)⟩) fun hHeld=>?_;clear hK K
      (try simp only[Act.put,sA,sB,sC])
      have hszw:=HPB.out.lt;have hb6:=(Below.refl w5.heap.size w5).drew.alloc (Nat.le_refl _) (.cells #[.int .i64 0,.int .i64 0,.string ⟨#[]⟩] 52);have HN:=h_ (show Bx w5.heap.size #[.int .i64 0,.int .i64 0,.string ⟨#[]⟩] 52 (w5.drew.alloc (.cells #[.int .i64 0,.int .i64 0,.string ⟨#[]⟩] 52)) from Bx.new w5.drew #[.int .i64 0,.int .i64 0,.string ⟨#[]⟩] 52);have HE:=HE.out.k hb6;have HR1:=HR1.out.k hb6;have HR2:=HR2.out.k hb6;have HT:=HT.out.k hb6;have HX:=HX.out.k hb6;have HV:=HV.out.k hb6;have HO:=HO.out.k hb6;have HPB:=HPB.out.k hb6;have HW:=h_ (btrans HW.out HW.out.size hb6);clear hb6;clear hHeld HS0
      (try rw[show (w5.alloc (.cells #[.int .i64 0,.int .i64 0,.string ⟨#[]⟩] 52)).drew=w5.drew.alloc (.cells #[.int .i64 0,.int .i64 0,.string ⟨#[]⟩] 52) from rfl])
      generalize hW:w5.drew.alloc (.cells #[.int .i64 0,.int .i64 0,.string ⟨#[]⟩] 52)=v3 at HE HR1 HR2 HT HX HV HO HW HPB HN ⊢;clear hW;obtain⟨nb,hnb⟩:=ex_ (w5.heap.size);rw[hnb]at HN hszw
      (try rw[hnb])
      skip;have hvx:=HV.out.ne HX.out;have hox:=HO.out.ne HX.out;obtain⟨n0,n1,n2⟩:=HN.out.c3;have y0:=HN.out.free 0;have y1:=HN.out.free 1;have y2:=HN.out.free 2
      have hbig:w.heap.size+3<nb:=by omega
      have HKK:=h_ (show ((fun w'=>Bx tb #[.pointer (some ⟨mb,0,none⟩)] 138 w'∧Bx mb #[.slice sa M.length sc,.bool al,.slice ra rd.length rc,.slice wa wri.length wc,.map (some vm),.map (some om),.int .i64 0,.int .i64 0,.slice none 0 0,.slice none 0 0,.slice none 0 0,.slice none 0 0,.string ⟨#[]⟩,.int .i64 0] 143 w'∧Bx pb #[.string (bs p.key),.int .i64 p.v.k,.int .i64 p.v.n,.string (bs p.v.s)] 55 w'∧Mp vm (V.take k) w')) (((v3.setCell ⟨nb,0,none⟩ (.int .i64 0)).setCell ⟨nb,1,none⟩ (.int .i64 0)).setCell ⟨nb,2,none⟩ (.string (bs []))) from⟨HT.out.sets3_ne (c:=nb) (by omega) (.int .i64 0) (.int .i64 0) (.string (bs [])),HX.out.sets3_ne (c:=nb) (by omega) (.int .i64 0) (.int .i64 0) (.string (bs [])),HPB.out.sets3_ne (c:=nb) (by omega) (.int .i64 0) (.int .i64 0) (.string (bs [])),HV.out.sets3 (b:=nb) (by omega) (.int .i64 0) (.int .i64 0) (.string (bs []))⟩);refine rd1 11 fun K hK=>?_;go_simp
      focus (try go_wp2_with fail)
      refine hK.out _ _ (HKK.out) fun hHeld=>?_;clear hK K
      (try simp only[Act.put,sA,sB,sC])
      refine tkX 12 14 ?_;simp only[sA,sB,sC];refine wpAnyH_done (by kernel_rfl) ?_ _;have HE2:=h_ (HE.out.sets3_ne (c:=nb) (by omega) (.int .i64 0) (.int .i64 0) (.string (bs [])));have HR12:=h_ (HR1.out.sets3_ne (c:=nb) (by omega) (.int .i64 0) (.int .i64 0) (.string (bs [])));have HR22:=h_ (HR2.out.sets3_ne (c:=nb) (by omega) (.int .i64 0) (.int .i64 0) (.string (bs [])));have HT2:=h_ HKK.out.1;have HX2:=h_ HKK.out.2.1;have HPB2:=h_ HKK.out.2.2.1;have HV2:=h_ HKK.out.2.2.2;have HO2:=h_ (HO.out.sets3 (b:=nb) (by omega) (.int .i64 0) (.int .i64 0) (.string (bs [])));have HW2:=h_ (below_sets3 HW.out nb (by omega) (.int .i64 0) (.int .i64 0) (.string (bs [])));clear HE HR1 HR2 HT HX HPB HV HO HW HN n0 n1 n2 y0 y1 y2 hHeld HKK;generalize hW:((v3.setCell ⟨nb,0,none⟩ (.int .i64 0)).setCell ⟨nb,1,none⟩ (.int .i64 0)).setCell ⟨nb,2,none⟩ (.string (bs []))=v4 at HE2 HR12 HR22 HT2 HX2 HPB2 HV2 HO2 HW2 ⊢;clear hW;go_wp2_with fail;have hs1:((fun w'=>Bx tb #[.pointer (some ⟨mb,0,none⟩)] 138 w'∧Bx mb #[.slice sa M.length sc,.bool al,.slice ra rd.length rc,.slice wa wri.length wc,.map (some vm),.map (some om),.int .i64 0,.int .i64 0,.slice none 0 0,.slice none 0 0,.slice none 0 0,.slice none 0 0,.string ⟨#[]⟩,.int .i64 0] 143 w'∧Bx pb #[.string (bs p.key),.int .i64 p.v.k,.int .i64 p.v.n,.string (bs p.v.s)] 55 w')) v4.drew:=⟨HT2.out,HX2.out,HPB2.out⟩;have HS1:=h_ hs1;clear hs1;obtain⟨W6,hup,hmp,hgw⟩:=run_put (show Mp vm (V.take k) v4.drew from HV2.out) p HNI.out;have HGW:=h_ hgw;have HMP:=h_ hmp;clear hgw hmp;simp only[vV]at hup;refine wp_region_held_drew (S:=(fun w'=>Bx tb #[.pointer (some ⟨mb,0,none⟩)] 138 w'∧Bx mb #[.slice sa M.length sc,.bool al,.slice ra rd.length rc,.slice wa wri.length wc,.map (some vm),.map (some om),.int .i64 0,.int .i64 0,.slice none 0 0,.slice none 0 0,.slice none 0 0,.slice none 0 0,.string ⟨#[]⟩,.int .i64 0] 143 w'∧Bx pb #[.string (bs p.key),.int .i64 p.v.k,.int .i64 p.v.n,.string (bs p.v.s)] 55 w')) (by kernel_rfl) ?_ (fun hHeld=>?_)
      ·exact HS1.out
      refine tkY 0 (v:=?vv12) 60 ?yy12 ?_
      case yy12 =>
       intro wq hSw;have t0:wq.cell? ⟨tb,0,none⟩=some (.pointer (some ⟨mb,0,none⟩)):=hSw.1.cell 0;clear hSw;go_simp
       (try with_reducible rfl)
      refine tkX 1 61 ?_;refine tkX 2 62 ?_;refine tkY 3 (v:=?vv15) 63 ?yy15 ?_
      case yy15 =>
       intro wq hSw;obtain⟨m0,m1,m2,m3,m4,-⟩:=hSw.2.1.c14;clear hSw;go_simp
       (try with_reducible rfl)
      refine tkX 4 64 ?_;refine tkY 5 (v:=?vv17) 65 ?yy17 ?_
      case yy17 =>
       intro wq hSw;obtain⟨p0,p1,p2,p3⟩:=hSw.2.2.c4;clear hSw;go_simp
       (try with_reducible rfl)
      refine tkX 6 66 ?_;refine tkY 7 (v:=?vv19) 67 ?yy19 ?_
      case yy19 =>
       intro wq hSw;obtain⟨p0,p1,p2,p3⟩:=hSw.2.2.c4;clear hSw;go_simp
       (try with_reducible rfl)
      simp only[sA,sB,sC];refine rd1 8 fun K hK=>?_;go_simp;refine hK.out _ _ (⟨HT2.out.drew.kept HGW.out (by simp;omega),HX2.out.drew.kept HGW.out (by simp;omega),HPB2.out.drew.kept HGW.out (by simp;omega)⟩) fun hHeld=>?_;clear hK K
      (try simp only[Act.put,sA,sB,sC])
      refine wpAnyH_done (by kernel_rfl) ?_ _;have HE:=h_ (HE2.out.drew.kept HGW.out (by simp;omega));have HR1:=h_ (HR12.out.drew.kept HGW.out (by simp;omega));have HR2:=h_ (HR22.out.drew.kept HGW.out (by simp;omega));have HT:=h_ (HT2.out.drew.kept HGW.out (by simp;omega));have HX:=h_ (HX2.out.drew.kept HGW.out (by simp;omega));have HO:=h_ ((show Mp om [] v4.drew from HO2.out).kept HGW.out (by simp;omega));have HW:=h_ (below_grown HW2.out.drew HGW.out (by omega) (by have:=HW2.out.size;exact this));have HV:=h_ (show Mp vm (V.take (k+1)) W6 from by rw[List.take_succ_eq_append_getElem hlt,HP.out];exact HMP.out);clear hup HGW HMP HE2 HR12 HR22 HT2 HX2 HPB2 HV2 HO2 HW2 HS1 hHeld;have HN:=h_ (allv_next hlt HP.out HVB.out HQ.out);go_wp2;go_roundw
      case rel=>exact⟨k+1,by omega,by go_num,HN,HE,HR1,HR2,HT,HX,HV,HO,HW.out⟩
      case measure=>simp[intOf];omega
    ·have hlt':¬(k:Int)<(V.length:Int):=by omega
     have hkV:k=V.length:=by omega
     subst hkV;rw[List.take_length]at HQ HV;have hUU:evS al rd M op vals=(R,ks):=(if_pos (by rw[HSB.out,HFB.out,HALL.out,HQ.out];rfl)).symm.trans HU.out;have HUU:=h_ hUU;clear hUU HQ;have hmf:∀(fn:Fn) (first cap:Array Value) (w:World),(Instr.makeFunc fn first cap).run prog w=.ok (.func fn first cap) w:=fun _ _ _ _=>rfl;have hpl:=HT.out.lt;have hpx:=HX.out.lt;have hpv:=HV.out.lt;have hpo:=HO.out.lt;have hb7:=(Below.refl wr.heap.size wr).alloc (Nat.le_refl _) (.cells #[.int .i64 0,.int .i64 0,.string ⟨#[]⟩] 52);have HB:=h_ (Bx.new wr #[.int .i64 0,.int .i64 0,.string ⟨#[]⟩] 52);have HE:=HE.out.k hb7;have HR1:=HR1.out.k hb7;have HR2:=HR2.out.k hb7;have HT:=HT.out.k hb7;have HX:=HX.out.k hb7;have HV:=HV.out.k hb7;have HO:=HO.out.k hb7;have HW:=h_ (btrans HW.out HW.out.size hb7);clear hb7;obtain⟨vb,hvb3⟩:=ex_ (wr.heap.size);rw[hvb3]at HB hpl hpx hpv hpo;go_upto_region 14 with (fail);generalize hW:wr.alloc (.cells #[.int .i64 0,.int .i64 0,.string ⟨#[]⟩] 52)=v7 at HE HR1 HR2 HT HX HV HO HW HB ⊢;clear hW
     (try rw[hvb3])
     clear hvb3;obtain⟨y1,hy1⟩:∃x,x=(v7.alloc (.cells #[.int .i64 0,.int .i64 0,.slice none 0 0,.string ⟨#[]⟩] 145)).alloc (.cells #[.bool false] 4):=⟨_,rfl⟩;have hb8:=((Below.refl v7.heap.size v7).alloc (Nat.le_refl _) (.cells #[.int .i64 0,.int .i64 0,.slice none 0 0,.string ⟨#[]⟩] 145)).alloc (by simp) (.cells #[.bool false] 4);rw[←hy1]at hb8;have hC:=evalC_any tb w.heap.size vb mb vm om sa ra wa sc rc wc M al rd wri op aa ac V names vals HOP.out HVA.out HOK.out y1 w (HX.out.call hb8) (HO.out.call hb8) (by omega) (btrans HW.out HW.out.size hb8) HM.out HRS.out hl1 hl2 (HV.out.call hb8) HA.out HLD.out (HT.out.call hb8) (HE.out.call hb8) (HB.out.call hb8) (by omega);rw[HUU.out]at hC;have HC:=h_ hC;have HY1:=h_ hy1;clear hC hy1 hb8;have hm7:=HX.out.lt;have hv7:=HB.out.lt;have t0:=HT.out.cl 0;go_wp2_with fail;clear t0;refine(irun_any _ _ mb mb vb (fun rv=>#[.slice sa M.length sc,.bool al,.slice ra rd.length rc,.slice wa wri.length wc,.map (some vm),.map (some om),.int .i64 0,.int .i64 0,.slice none 0 0,rv,.slice none 0 0,.slice none 0 0,.string ⟨#[]⟩,.int .i64 0]) R ks _ y1 HY1.out (fun w=>by simp[go_sem]) hm7 hv7 HC.out).mono ?_;rintro E w8 ⟨rfl,hk2,hvb4,rv,hx8,ho8⟩;obtain⟨oa,oc,rfl⟩:=own_sl ho8;have hsz8:=HW.out.size;have HO8:=h_ (own_mono ho8 hsz8);have HX:=h_ hx8;have HB:=h_ hvb4;have HR1:=h_ (HR1.out.k2 hk2 (by omega) (by omega));have HR2:=h_ (HR2.out.k2 hk2 (by omega) (by omega));have HT:=h_ (HT.out.k2 hk2 (by omega) (by omega));have HW:=h_ (show Below w.heap.size w w8 from HW.out.trans (hk2.below hsz8 (by omega) (by omega)));clear hk2 hvb4 hx8 ho8 HE HV HO HC HY1;rcases R with v|c|x
     ·simp only[stA,stB2,vEnd,vV]at HB HX ⊢
      have hwl8:=HW.out.size;have hx9:=HB.out.lt;have hxt:=HT.out.lt;have hxr:=HR2.out.lt;have hxm:=HX.out.lt;have hb9:=(Below.refl w8.heap.size w8).alloc (Nat.le_refl _) (.cells #[.int .i64 0,.int .i64 0,.slice none 0 0,.string ⟨#[]⟩] 145);have HS:=h_ (Bx.new w8 #[.int .i64 0,.int .i64 0,.slice none 0 0,.string ⟨#[]⟩] 145);have HX:=HX.out.k hb9;have HB:=HB.out.k hb9;have HR1:=HR1.out.k hb9;have HR2:=HR2.out.k hb9;have HT:=HT.out.k hb9;have HO8:=h_ (own_below HO8.out hb9);have HW:=h_ (btrans HW.out HW.out.size hb9);clear hb9;go_upto_region 15 with (fail);obtain⟨sb,hsb⟩:=ex_ (w8.heap.size);rw[hsb]at HS hx9 hxt hxr hxm;generalize hW:w8.alloc (.cells #[.int .i64 0,.int .i64 0,.slice none 0 0,.string ⟨#[]⟩] 145)=v8 at HS HX HB HR1 HR2 HT HO8 HW ⊢;clear hW
      (try rw[hsb])
      clear hsb;go_wp2_with fail;have hs2:((fun w'=>Bx vb #[.int .i64 v.k,.int .i64 v.n,.string (bs v.s)] 52 w'∧Bx tb #[.pointer (some ⟨mb,0,none⟩)] 138 w'∧Bx sb #[.int .i64 0,.int .i64 0,.slice none 0 0,.string ⟨#[]⟩] 145 w')) v8.drew:=⟨HB.out,HT.out,HS.out⟩;have HS2:=h_ hs2;clear hs2;refine wp_region_held_drew (S:=(fun w'=>Bx vb #[.int .i64 v.k,.int .i64 v.n,.string (bs v.s)] 52 w'∧Bx tb #[.pointer (some ⟨mb,0,none⟩)] 138 w'∧Bx sb #[.int .i64 0,.int .i64 0,.slice none 0 0,.string ⟨#[]⟩] 145 w')) (by kernel_rfl) ?_ (fun hHeld=>?_)
      ·exact HS2.out
      refine tkY 0 (v:=?vv20) 81 ?yy20 ?_
      case yy20 =>
       intro wq hSw;obtain⟨b0,b1,b2⟩:=hSw.1.c3;clear hSw;go_simp
       (try with_reducible rfl)
      refine tkY 1 (v:=?vv21) 82 ?yy21 ?_
      case yy21 =>
       intro wq hSw;have t0:wq.cell? ⟨tb,0,none⟩=some (.pointer (some ⟨mb,0,none⟩)):=hSw.2.1.cell 0;clear hSw;go_simp
       (try with_reducible rfl)
      refine tkY 2 (v:=?vv22) 83 ?yy22 ?_
      case yy22 =>
       intro wq hSw;obtain⟨s0,s1,s2,s3⟩:=hSw.2.2.c4;clear hSw;go_simp
       (try with_reducible rfl)
      refine tkX 3 84 ?_;simp only[sA,sB,sC];refine rd1 4 fun K hK=>?_;go_simp
      (refine(finish_any mb vm om sa ra wa sc rc wc M al rd wri oa ks.length oc (.ok v) v8.drew HX.out).mono ?_)
      rintro er w9 ⟨rfl,hb9⟩;simp only[efA];have HB9:=h_ hb9;clear hb9;refine hK.out _ _ (⟨hHeld.1.call HB9.out,hHeld.2.1.call HB9.out,hHeld.2.2.call HB9.out⟩) fun hHeld=>?_;clear hK K
      (try simp only[Act.put,sA,sB,sC])
      have hb9:Below v8.heap.size v8 w9:=⟨HB9.out.os,HB9.out.tape,HB9.out.output,HB9.out.size,HB9.out.block⟩;have HR1:=HR1.out.k hb9;have HR2:=HR2.out.k hb9;have HO8:=h_ (own_below HO8.out hb9);have HW:=h_ (btrans HW.out HW.out.size hb9);clear hb9;obtain⟨r0,r1,r2⟩:=HR1.out.c3;have f0:=HR1.out.free 0;have f1:=HR1.out.free 1;have f2:=HR1.out.free 2;have HA1:=h_ (HR1.out.sets3 (.int .i64 v.k) (.int .i64 v.n) (.string (bs v.s)));have HA2:=h_ (HR2.out.sets3_ne (c:=w.heap.size+2) (by omega) (.int .i64 v.k) (.int .i64 v.n) (.string (bs v.s)));have HAW:=h_ (below_sets3 HW.out (w.heap.size+2) (by omega) (.int .i64 v.k) (.int .i64 v.n) (.string (bs v.s)));obtain⟨s0,s1,s2,s3,s4,s5,s6,s7⟩:=HA2.out.c8;have z0:=HA2.out.free 0;have z1:=HA2.out.free 1;have z2:=HA2.out.free 2;have z3:=HA2.out.free 3;have z4:=HA2.out.free 4;have z5:=HA2.out.free 5;have z6:=HA2.out.free 6;have z7:=HA2.out.free 7;have HB1:=h_ ((((((((HA1.out.other (c:=w.heap.size+3) (i:=0) (by omega) (.int .i64 1)).other (c:=w.heap.size+3) (i:=1) (by omega) (.int .i64 0)).other (c:=w.heap.size+3) (i:=2) (by omega) (.slice none 0 0)).other (c:=w.heap.size+3) (i:=3) (by omega) (.slice oa ks.length oc)).other (c:=w.heap.size+3) (i:=4) (by omega) (.slice none 0 0)).other (c:=w.heap.size+3) (i:=5) (by omega) (.slice none 0 0)).other (c:=w.heap.size+3) (i:=6) (by omega) (.string ⟨#[]⟩)).other (c:=w.heap.size+3) (i:=7) (by omega) (.int .i64 0));have HB2:=h_ (HA2.out.sets8 (.int .i64 1) (.int .i64 0) (.slice none 0 0) (.slice oa ks.length oc) (.slice none 0 0) (.slice none 0 0) (.string ⟨#[]⟩) (.int .i64 0));have HBW:=h_ (below_sets8 HAW.out (w.heap.size+3) (by omega) (.int .i64 1) (.int .i64 0) (.slice none 0 0) (.slice oa ks.length oc) (.slice none 0 0) (.slice none 0 0) (.string ⟨#[]⟩) (.int .i64 0));have HOF:=h_ (own_st (own_st (own_st (own_st (own_st (own_st (own_st (own_st (own_st (own_st (own_st HO8.out HR1.out (by decide) 0 (.int .i64 v.k)) (HR1.out.set 0 (.int .i64 v.k)) (by decide) 1 (.int .i64 v.n)) ((HR1.out.set 0 (.int .i64 v.k)).set 1 (.int .i64 v.n)) (by decide) 2 (.string (bs v.s))) HA2.out (by decide) 0 (.int .i64 1)) (HA2.out.set 0 (.int .i64 1)) (by decide) 1 (.int .i64 0)) ((HA2.out.set 0 (.int .i64 1)).set 1 (.int .i64 0)) (by decide) 2 (.slice none 0 0)) (((HA2.out.set 0 (.int .i64 1)).set 1 (.int .i64 0)).set 2 (.slice none 0 0)) (by decide) 3 (.slice oa ks.length oc)) ((((HA2.out.set 0 (.int .i64 1)).set 1 (.int .i64 0)).set 2 (.slice none 0 0)).set 3 (.slice oa ks.length oc)) (by decide) 4 (.slice none 0 0)) (((((HA2.out.set 0 (.int .i64 1)).set 1 (.int .i64 0)).set 2 (.slice none 0 0)).set 3 (.slice oa ks.length oc)).set 4 (.slice none 0 0)) (by decide) 5 (.slice none 0 0)) ((((((HA2.out.set 0 (.int .i64 1)).set 1 (.int .i64 0)).set 2 (.slice none 0 0)).set 3 (.slice oa ks.length oc)).set 4 (.slice none 0 0)).set 5 (.slice none 0 0)) (by decide) 6 (.string ⟨#[]⟩)) (((((((HA2.out.set 0 (.int .i64 1)).set 1 (.int .i64 0)).set 2 (.slice none 0 0)).set 3 (.slice oa ks.length oc)).set 4 (.slice none 0 0)).set 5 (.slice none 0 0)).set 6 (.string ⟨#[]⟩)) (by decide) 7 (.int .i64 0))
      have hbA:w.heap.size+3<vb∧w.heap.size+3<tb∧w.heap.size+3<sb:=by omega
      have HKA:=h_ (show ((fun w'=>Bx vb #[.int .i64 v.k,.int .i64 v.n,.string (bs v.s)] 52 w'∧Bx tb #[.pointer (some ⟨mb,0,none⟩)] 138 w'∧Bx sb #[.int .i64 0,.int .i64 0,.slice none 0 0,.string ⟨#[]⟩] 145 w')) (((w9.setCell ⟨w.heap.size+2,0,none⟩ (.int .i64 v.k)).setCell ⟨w.heap.size+2,1,none⟩ (.int .i64 v.n)).setCell ⟨w.heap.size+2,2,none⟩ (.string (bs v.s))) from⟨hHeld.1.sets3_ne (c:=w.heap.size+2) (by omega) (.int .i64 v.k) (.int .i64 v.n) (.string (bs v.s)),hHeld.2.1.sets3_ne (c:=w.heap.size+2) (by omega) (.int .i64 v.k) (.int .i64 v.n) (.string (bs v.s)),hHeld.2.2.sets3_ne (c:=w.heap.size+2) (by omega) (.int .i64 v.k) (.int .i64 v.n) (.string (bs v.s))⟩);have HKB:=h_ (show ((fun w'=>Bx vb #[.int .i64 v.k,.int .i64 v.n,.string (bs v.s)] 52 w'∧Bx tb #[.pointer (some ⟨mb,0,none⟩)] 138 w'∧Bx sb #[.int .i64 0,.int .i64 0,.slice none 0 0,.string ⟨#[]⟩] 145 w')) (((((((((((w9.setCell ⟨w.heap.size+2,0,none⟩ (.int .i64 v.k)).setCell ⟨w.heap.size+2,1,none⟩ (.int .i64 v.n)).setCell ⟨w.heap.size+2,2,none⟩ (.string (bs v.s))).setCell ⟨w.heap.size+3,0,none⟩ (.int .i64 1)).setCell ⟨w.heap.size+3,1,none⟩ (.int .i64 0)).setCell ⟨w.heap.size+3,2,none⟩ (.slice none 0 0)).setCell ⟨w.heap.size+3,3,none⟩ (.slice oa ks.length oc)).setCell ⟨w.heap.size+3,4,none⟩ (.slice none 0 0)).setCell ⟨w.heap.size+3,5,none⟩ (.slice none 0 0)).setCell ⟨w.heap.size+3,6,none⟩ (.string ⟨#[]⟩)).setCell ⟨w.heap.size+3,7,none⟩ (.int .i64 0)) from⟨((((((((HKA.out.1.other (i:=0) (c:=w.heap.size+3) (by omega) (.int .i64 1)).other (i:=1) (c:=w.heap.size+3) (by omega) (.int .i64 0)).other (i:=2) (c:=w.heap.size+3) (by omega) (.slice none 0 0)).other (i:=3) (c:=w.heap.size+3) (by omega) (.slice oa ks.length oc)).other (i:=4) (c:=w.heap.size+3) (by omega) (.slice none 0 0)).other (i:=5) (c:=w.heap.size+3) (by omega) (.slice none 0 0)).other (i:=6) (c:=w.heap.size+3) (by omega) (.string ⟨#[]⟩)).other (i:=7) (c:=w.heap.size+3) (by omega) (.int .i64 0)),((((((((HKA.out.2.1.other (i:=0) (c:=w.heap.size+3) (by omega) (.int .i64 1)).other (i:=1) (c:=w.heap.size+3) (by omega) (.int .i64 0)).other (i:=2) (c:=w.heap.size+3) (by omega) (.slice none 0 0)).other (i:=3) (c:=w.heap.size+3) (by omega) (.slice oa ks.length oc)).other (i:=4) (c:=w.heap.size+3) (by omega) (.slice none 0 0)).other (i:=5) (c:=w.heap.size+3) (by omega) (.slice none 0 0)).other (i:=6) (c:=w.heap.size+3) (by omega) (.string ⟨#[]⟩)).other (i:=7) (c:=w.heap.size+3) (by omega) (.int .i64 0)),((((((((HKA.out.2.2.other (i:=0) (c:=w.heap.size+3) (by omega) (.int .i64 1)).other (i:=1) (c:=w.heap.size+3) (by omega) (.int .i64 0)).other (i:=2) (c:=w.heap.size+3) (by omega) (.slice none 0 0)).other (i:=3) (c:=w.heap.size+3) (by omega) (.slice oa ks.length oc)).other (i:=4) (c:=w.heap.size+3) (by omega) (.slice none 0 0)).other (i:=5) (c:=w.heap.size+3) (by omega) (.slice none 0 0)).other (i:=6) (c:=w.heap.size+3) (by omega) (.string ⟨#[]⟩)).other (i:=7) (c:=w.heap.size+3) (by omega) (.int .i64 0))⟩);refine rd1 5 fun K hK=>?_;go_simp;refine hK.out _ _ ?_ (fun hHeld2=>?_)
      ·exact HKA.out
      clear hK K
      (try simp only[Act.put,sA,sB,sC])
      refine rd1 6 fun K hK=>?_;go_simp;refine hK.out _ _ ?_ (fun hHeld3=>?_)
      ·exact HKB.out
      clear hK K
      (try simp only[Act.put,sA,sB,sC])
      refine wpAnyH_done (by kernel_rfl) ?_ _;clear hHeld hHeld2 hHeld3 HKA HKB HS2;generalize hW:(((((((((((w9.setCell ⟨w.heap.size+2,0,none⟩ (.int .i64 v.k)).setCell ⟨w.heap.size+2,1,none⟩ (.int .i64 v.n)).setCell ⟨w.heap.size+2,2,none⟩ (.string (bs v.s))).setCell ⟨w.heap.size+3,0,none⟩ (.int .i64 1)).setCell ⟨w.heap.size+3,1,none⟩ (.int .i64 0)).setCell ⟨w.heap.size+3,2,none⟩ (.slice none 0 0)).setCell ⟨w.heap.size+3,3,none⟩ (.slice oa ks.length oc)).setCell ⟨w.heap.size+3,4,none⟩ (.slice none 0 0)).setCell ⟨w.heap.size+3,5,none⟩ (.slice none 0 0)).setCell ⟨w.heap.size+3,6,none⟩ (.string ⟨#[]⟩)).setCell ⟨w.heap.size+3,7,none⟩ (.int .i64 0))=WE at HB1 HB2 HBW HOF ⊢;clear hW;clear r0 r1 r2 f0 f1 f2 s0 s1 s2 s3 s4 s5 s6 s7 z0 z1 z2 z3 z4 z5 z6 z7;go_wp2;obtain⟨k0,k1,k2⟩:=HB1.out.c3;obtain⟨l0,l1,l2,l3,l4,l5,l6,l7⟩:=HB2.out.c8;refine bodyPost_ret (v:=.tuple #[.agg #[.int .i64 v.k,.int .i64 v.n,.string (bs v.s)],.agg #[.int .i64 1,.int .i64 0,.slice none 0 0,.slice oa ks.length oc,.slice none 0 0,.slice none 0 0,.string ⟨#[]⟩,.int .i64 0]]) (by simp[results,results93,go_sem,k0,k1,k2,l0,l1,l2,l3,l4,l5,l6,l7]<;>rfl) rfl ⟨_,rfl,HOF.out,HBW.out⟩
     ·simp only[stA,stB2,vEnd]at HB HX ⊢
      have hwl8:=HW.out.size;have hx9:=HB.out.lt;have hxt:=HT.out.lt;have hxr:=HR2.out.lt;have hxm:=HX.out.lt;have hb9:=(Below.refl w8.heap.size w8).alloc (Nat.le_refl _) (.cells #[.int .i64 2,.int .i64 c,.slice none 0 0,.string (bs [])] 145);have HS:=h_ (Bx.new w8 #[.int .i64 2,.int .i64 c,.slice none 0 0,.string (bs [])] 145);have HX:=HX.out.k hb9;have HB:=HB.out.k hb9;have HR1:=HR1.out.k hb9;have HR2:=HR2.out.k hb9;have HT:=HT.out.k hb9;have HO8:=h_ (own_below HO8.out hb9);have HW:=h_ (btrans HW.out HW.out.size hb9);clear hb9;go_upto_region 15 with (fail);obtain⟨sb,hsb⟩:=ex_ (w8.heap.size);rw[hsb]at HS hx9 hxt hxr hxm;generalize hW:w8.alloc (.cells #[.int .i64 2,.int .i64 c,.slice none 0 0,.string (bs [])] 145)=v8 at HS HX HB HR1 HR2 HT HO8 HW ⊢;clear hW
      (try rw[hsb])
      clear hsb;have t0:=HT.out.cl 0;obtain⟨s0,s1,s2,s3⟩:=HS.out.c4;go_wp2_with fail;refine(finish_any mb vm om sa ra wa sc rc wc M al rd wri oa ks.length oc (.ab c) _ HX.out).mono ?_;rintro er w9 ⟨rfl,hb9⟩;simp only[efA];have HB9:=h_ hb9;clear hb9 t0 s0 s1 s2 s3;have hb9:Below v8.heap.size v8 w9:=HB9.out;have HR1:=HR1.out.k hb9;have HR2:=HR2.out.k hb9;have HO8:=h_ (own_below HO8.out hb9);have HW:=h_ (btrans HW.out HW.out.size hb9);clear hb9;obtain⟨r0,r1,r2⟩:=HR1.out.c3;have f0:=HR1.out.free 0;have f1:=HR1.out.free 1;have f2:=HR1.out.free 2;have HA1:=h_ (HR1.out.sets3 (.int .i64 0) (.int .i64 0) (.string ⟨#[]⟩));have HA2:=h_ (HR2.out.sets3_ne (c:=w.heap.size+2) (by omega) (.int .i64 0) (.int .i64 0) (.string ⟨#[]⟩));have HAW:=h_ (below_sets3 HW.out (w.heap.size+2) (by omega) (.int .i64 0) (.int .i64 0) (.string ⟨#[]⟩));obtain⟨s0,s1,s2,s3,s4,s5,s6,s7⟩:=HA2.out.c8;have z0:=HA2.out.free 0;have z1:=HA2.out.free 1;have z2:=HA2.out.free 2;have z3:=HA2.out.free 3;have z4:=HA2.out.free 4;have z5:=HA2.out.free 5;have z6:=HA2.out.free 6;have z7:=HA2.out.free 7;have HB1:=h_ ((((((((HA1.out.other (c:=w.heap.size+3) (i:=0) (by omega) (.int .i64 2)).other (c:=w.heap.size+3) (i:=1) (by omega) (.int .i64 c)).other (c:=w.heap.size+3) (i:=2) (by omega) (.slice none 0 0)).other (c:=w.heap.size+3) (i:=3) (by omega) (.slice oa ks.length oc)).other (c:=w.heap.size+3) (i:=4) (by omega) (.slice none 0 0)).other (c:=w.heap.size+3) (i:=5) (by omega) (.slice none 0 0)).other (c:=w.heap.size+3) (i:=6) (by omega) (.string (bs []))).other (c:=w.heap.size+3) (i:=7) (by omega) (.int .i64 0));have HB2:=h_ (HA2.out.sets8 (.int .i64 2) (.int .i64 c) (.slice none 0 0) (.slice oa ks.length oc) (.slice none 0 0) (.slice none 0 0) (.string (bs [])) (.int .i64 0));have HBW:=h_ (below_sets8 HAW.out (w.heap.size+3) (by omega) (.int .i64 2) (.int .i64 c) (.slice none 0 0) (.slice oa ks.length oc) (.slice none 0 0) (.slice none 0 0) (.string (bs [])) (.int .i64 0));have HOF:=h_ (own_st (own_st (own_st (own_st (own_st (own_st (own_st (own_st (own_st (own_st (own_st HO8.out HR1.out (by decide) 0 (.int .i64 0)) (HR1.out.set 0 (.int .i64 0)) (by decide) 1 (.int .i64 0)) ((HR1.out.set 0 (.int .i64 0)).set 1 (.int .i64 0)) (by decide) 2 (.string ⟨#[]⟩)) HA2.out (by decide) 0 (.int .i64 2)) (HA2.out.set 0 (.int .i64 2)) (by decide) 1 (.int .i64 c)) ((HA2.out.set 0 (.int .i64 2)).set 1 (.int .i64 c)) (by decide) 2 (.slice none 0 0)) (((HA2.out.set 0 (.int .i64 2)).set 1 (.int .i64 c)).set 2 (.slice none 0 0)) (by decide) 3 (.slice oa ks.length oc)) ((((HA2.out.set 0 (.int .i64 2)).set 1 (.int .i64 c)).set 2 (.slice none 0 0)).set 3 (.slice oa ks.length oc)) (by decide) 4 (.slice none 0 0)) (((((HA2.out.set 0 (.int .i64 2)).set 1 (.int .i64 c)).set 2 (.slice none 0 0)).set 3 (.slice oa ks.length oc)).set 4 (.slice none 0 0)) (by decide) 5 (.slice none 0 0)) ((((((HA2.out.set 0 (.int .i64 2)).set 1 (.int .i64 c)).set 2 (.slice none 0 0)).set 3 (.slice oa ks.length oc)).set 4 (.slice none 0 0)).set 5 (.slice none 0 0)) (by decide) 6 (.string (bs []))) (((((((HA2.out.set 0 (.int .i64 2)).set 1 (.int .i64 c)).set 2 (.slice none 0 0)).set 3 (.slice oa ks.length oc)).set 4 (.slice none 0 0)).set 5 (.slice none 0 0)).set 6 (.string (bs []))) (by decide) 7 (.int .i64 0));go_wp2;obtain⟨k0,k1,k2⟩:=HB1.out.c3;obtain⟨l0,l1,l2,l3,l4,l5,l6,l7⟩:=HB2.out.c8;refine bodyPost_ret (v:=.tuple #[.agg #[.int .i64 0,.int .i64 0,.string ⟨#[]⟩],.agg #[.int .i64 2,.int .i64 c,.slice none 0 0,.slice oa ks.length oc,.slice none 0 0,.slice none 0 0,.string (bs []),.int .i64 0]]) (by simp[results,results93,go_sem,k0,k1,k2,l0,l1,l2,l3,l4,l5,l6,l7]<;>rfl) rfl ⟨_,rfl,HOF.out,HBW.out⟩
     ·simp only[stA,stB2,vEnd]at HB HX ⊢
      have hwl8:=HW.out.size;have hx9:=HB.out.lt;have hxt:=HT.out.lt;have hxr:=HR2.out.lt;have hxm:=HX.out.lt;have hb9:=(Below.refl w8.heap.size w8).alloc (Nat.le_refl _) (.cells #[.int .i64 3,.int .i64 0,.slice none 0 0,.string (bs x)] 145);have HS:=h_ (Bx.new w8 #[.int .i64 3,.int .i64 0,.slice none 0 0,.string (bs x)] 145);have HX:=HX.out.k hb9;have HB:=HB.out.k hb9;have HR1:=HR1.out.k hb9;have HR2:=HR2.out.k hb9;have HT:=HT.out.k hb9;have HO8:=h_ (own_below HO8.out hb9);have HW:=h_ (btrans HW.out HW.out.size hb9);clear hb9;go_upto_region 15 with (fail);obtain⟨sb,hsb⟩:=ex_ (w8.heap.size);rw[hsb]at HS hx9 hxt hxr hxm;generalize hW:w8.alloc (.cells #[.int .i64 3,.int .i64 0,.slice none 0 0,.string (bs x)] 145)=v8 at HS HX HB HR1 HR2 HT HO8 HW ⊢;clear hW
      (try rw[hsb])
      clear hsb;have t0:=HT.out.cl 0;obtain⟨s0,s1,s2,s3⟩:=HS.out.c4;go_wp2_with fail;refine(finish_any mb vm om sa ra wa sc rc wc M al rd wri oa ks.length oc (.re x) _ HX.out).mono ?_;rintro er w9 ⟨rfl,hb9⟩;simp only[efA];have HB9:=h_ hb9;clear hb9 t0 s0 s1 s2 s3;have hb9:Below v8.heap.size v8 w9:=HB9.out;have HR1:=HR1.out.k hb9;have HR2:=HR2.out.k hb9;have HO8:=h_ (own_below HO8.out hb9);have HW:=h_ (btrans HW.out HW.out.size hb9);clear hb9;obtain⟨r0,r1,r2⟩:=HR1.out.c3;have f0:=HR1.out.free 0;have f1:=HR1.out.free 1;have f2:=HR1.out.free 2;have HA1:=h_ (HR1.out.sets3 (.int .i64 0) (.int .i64 0) (.string ⟨#[]⟩));have HA2:=h_ (HR2.out.sets3_ne (c:=w.heap.size+2) (by omega) (.int .i64 0) (.int .i64 0) (.string ⟨#[]⟩));have HAW:=h_ (below_sets3 HW.out (w.heap.size+2) (by omega) (.int .i64 0) (.int .i64 0) (.string ⟨#[]⟩));obtain⟨s0,s1,s2,s3,s4,s5,s6,s7⟩:=HA2.out.c8;have z0:=HA2.out.free 0;have z1:=HA2.out.free 1;have z2:=HA2.out.free 2;have z3:=HA2.out.free 3;have z4:=HA2.out.free 4;have z5:=HA2.out.free 5;have z6:=HA2.out.free 6;have z7:=HA2.out.free 7;have HB1:=h_ ((((((((HA1.out.other (c:=w.heap.size+3) (i:=0) (by omega) (.int .i64 3)).other (c:=w.heap.size+3) (i:=1) (by omega) (.int .i64 0)).other (c:=w.heap.size+3) (i:=2) (by omega) (.slice none 0 0)).other (c:=w.heap.size+3) (i:=3) (by omega) (.slice oa ks.length oc)).other (c:=w.heap.size+3) (i:=4) (by omega) (.slice none 0 0)).other (c:=w.heap.size+3) (i:=5) (by omega) (.slice none 0 0)).other (c:=w.heap.size+3) (i:=6) (by omega) (.string (bs x))).other (c:=w.heap.size+3) (i:=7) (by omega) (.int .i64 0));have HB2:=h_ (HA2.out.sets8 (.int .i64 3) (.int .i64 0) (.slice none 0 0) (.slice oa ks.length oc) (.slice none 0 0) (.slice none 0 0) (.string (bs x)) (.int .i64 0));have HBW:=h_ (below_sets8 HAW.out (w.heap.size+3) (by omega) (.int .i64 3) (.int .i64 0) (.slice none 0 0) (.slice oa ks.length oc) (.slice none 0 0) (.slice none 0 0) (.string (bs x)) (.int .i64 0));have HOF:=h_ (own_st (own_st (own_st (own_st (own_st (own_st (own_st (own_st (own_st (own_st (own_st HO8.out HR1.out (by decide) 0 (.int .i64 0)) (HR1.out.set 0 (.int .i64 0)) (by decide) 1 (.int .i64 0)) ((HR1.out.set 0 (.int .i64 0)).set 1 (.int .i64 0)) (by decide) 2 (.string ⟨#[]⟩)) HA2.out (by decide) 0 (.int .i64 3)) (HA2.out.set 0 (.int .i64 3)) (by decide) 1 (.int .i64 0)) ((HA2.out.set 0 (.int .i64 3)).set 1 (.int .i64 0)) (by decide) 2 (.slice none 0 0)) (((HA2.out.set 0 (.int .i64 3)).set 1 (.int .i64 0)).set 2 (.slice none 0 0)) (by decide) 3 (.slice oa ks.length oc)) ((((HA2.out.set 0 (.int .i64 3)).set 1 (.int .i64 0)).set 2 (.slice none 0 0)).set 3 (.slice oa ks.length oc)) (by decide) 4 (.slice none 0 0)) (((((HA2.out.set 0 (.int .i64 3)).set 1 (.int .i64 0)).set 2 (.slice none 0 0)).set 3 (.slice oa ks.length oc)).set 4 (.slice none 0 0)) (by decide) 5 (.slice none 0 0)) ((((((HA2.out.set 0 (.int .i64 3)).set 1 (.int .i64 0)).set 2 (.slice none 0 0)).set 3 (.slice oa ks.length oc)).set 4 (.slice none 0 0)).set 5 (.slice none 0 0)) (by decide) 6 (.string (bs x))) (((((((HA2.out.set 0 (.int .i64 3)).set 1 (.int .i64 0)).set 2 (.slice none 0 0)).set 3 (.slice oa ks.length oc)).set 4 (.slice none 0 0)).set 5 (.slice none 0 0)).set 6 (.string (bs x))) (by decide) 7 (.int .i64 0));go_wp2;obtain⟨k0,k1,k2⟩:=HB1.out.c3;obtain⟨l0,l1,l2,l3,l4,l5,l6,l7⟩:=HB2.out.c8;refine bodyPost_ret (v:=.tuple #[.agg #[.int .i64 0,.int .i64 0,.string ⟨#[]⟩],.agg #[.int .i64 3,.int .i64 0,.slice none 0 0,.slice oa ks.length oc,.slice none 0 0,.slice none 0 0,.string (bs x),.int .i64 0]]) (by simp[results,results93,go_sem,k0,k1,k2,l0,l1,l2,l3,l4,l5,l6,l7]<;>rfl) rfl ⟨_,rfl,HOF.out,HBW.out⟩
def Bf (b:Nat) (f:Nat→Value) (n:Nat) (T:TypeId) (W:World):Prop:=∃cs:Array Value,Bx b cs T W∧cs.size=n∧∀j,j<n→cs[j]? = some (f j)
def upd (f:Nat→Value) (j:Nat) (u:Value):Nat→Value:=fun i=>if i=j then u else f i
theorem Bf.lt{b:Nat}{f:Nat→Value}{n:Nat}{T:TypeId}{W:World}(h:Bf b f n T W):b<W.heap.size:=by obtain⟨cs,h,_⟩:=h;exact h.lt
theorem Bf.cell{b:Nat}{f:Nat→Value}{n:Nat}{T:TypeId}{W:World}(h:Bf b f n T W)(j:Nat)(hj:j<n):W.cell? ⟨b,j,none⟩=some (f j):=by
 obtain⟨cs,h1,h2,h3⟩:=h;rw[h1.cell j,h3 j hj]
theorem Bf.free{b:Nat}{f:Nat→Value}{n:Nat}{T:TypeId}{W:World}(h:Bf b f n T W)(j:Nat):W.frozen? ⟨b,j,none⟩=false:=by
 obtain⟨cs,h1,_⟩:=h;exact h1.free j
theorem Bf.set{b:Nat}{f:Nat→Value}{n:Nat}{T:TypeId}{W:World}(h:Bf b f n T W)(j:Nat)(u:Value):Bf b (upd f j u) n T (W.setCell ⟨b,j,none⟩ u):=by
 obtain⟨cs,h1,h2,h3⟩:=h;refine⟨cs.setIfInBounds j u,h1.set j u,by simp[h2],fun i hi=>?_⟩;unfold upd;by_cases e:i=j
 ·subst e;rw[if_pos rfl];simp[h2,hi]
 ·rw[if_neg e,←h3 i hi];simp[Ne.symm e]
theorem Bf.other{b c i:Nat}{f:Nat→Value}{n:Nat}{T:TypeId}{W:World}(h:Bf b f n T W)(hne:b≠c)(v:Value):Bf b f n T (W.setCell ⟨c,i,none⟩ v):=by
 obtain⟨cs,h1,h2⟩:=h;exact⟨cs,h1.other hne v,h2⟩
theorem Bf.congr{b:Nat}{f g:Nat→Value}{n:Nat}{T:TypeId}{W:World}(h:Bf b f n T W)(he:∀j,j<n→f j=g j):Bf b g n T W:=by
 obtain⟨cs,h1,h2,h3⟩:=h;exact⟨cs,h1,h2,fun j hj=>(h3 j hj).trans (by rw[he j hj])⟩
theorem Bf.block{b:Nat}{f:Nat→Value}{n:Nat}{T:TypeId}{W W':World}(h:Bf b f n T W)(he:W'.heap[b]? = W.heap[b]?):Bf b f n T W':=by
 obtain⟨cs,h1,h2⟩:=h;exact⟨cs,he.trans h1,h2⟩
theorem Bf.call{b:Nat}{f:Nat→Value}{n:Nat}{T:TypeId}{W W':World}(h:Bf b f n T W)(hb:Below W.heap.size W W'):Bf b f n T W':=h.block (hb.block b h.lt)
theorem Bf.drew{b:Nat}{f:Nat→Value}{n:Nat}{T:TypeId}{W:World}(h:Bf b f n T W):Bf b f n T W.drew:=h
structure Mc where
 stk:Nat→Vl
 dep:Nat
 slo:Nat→Vl
 own:List Pr
 st:Int
 code:Int
 out:List Vl
 rds:List (List UInt8)
 puts:List (List UInt8)
 wrs:List Pr
 miss:List UInt8
 steps:Int
 done:Bool
def vlc (v:Vl) (r:Nat):Value:=if r=0 then .int .i64 v.k else if r=1 then .int .i64 v.n else .string (bs v.s)
structure Rw where
 ov:Value
 outv:Value
 rv:Value
 pv:Value
 wv:Value
def tailM (m:Mc) (R:Rw):Nat→Value
 | 0=>R.ov
 | 1=>.int .i64 m.st
 | 2=>.int .i64 m.code
 | 3=>R.outv
 | 4=>R.rv
 | 5=>R.pv
 | 6=>R.wv
 | 7=>.string (bs m.miss)
 | 8=>.int .i64 m.steps
 | _=>.bool m.done
def mcf (H:Nat→Value) (m:Mc) (R:Rw) (j:Nat):Value:=
 if j<7 then H j else if j<199 then vlc (m.stk ((j-7) / 3)) ((j-7) % 3) else if j=199 then .int .i64 (m.dep:Int) else if j<392 then vlc (m.slo ((j-200) / 3)) ((j-200) % 3) else tailM m R (j-392)
theorem mcf_hd(H:Nat→Value)(m:Mc)(R:Rw){j:Nat}(h:j<7):mcf H m R j=H j:=if_pos h
theorem mcf_tl(H:Nat→Value)(m:Mc)(R:Rw)(j:Nat):mcf H m R (392+j)=tailM m R j:=by
 unfold mcf;rw[if_neg (by omega),if_neg (by omega),if_neg (by omega),if_neg (by omega),Nat.add_sub_cancel_left]
theorem mcf_stk(H:Nat→Value)(m:Mc)(R:Rw){d r:Nat}(hd:d<64)(hr:r<3):mcf H m R (7+d * 3+r)=vlc (m.stk d) r:=by
 unfold mcf;rw[if_neg (by omega),if_pos (by omega),show (7+d * 3+r-7) / 3=d by omega,show (7+d * 3+r-7) % 3=r by omega]
theorem mcf_slo(H:Nat→Value)(m:Mc)(R:Rw){d r:Nat}(hd:d<64)(hr:r<3):mcf H m R (200+d * 3+r)=vlc (m.slo d) r:=by
 unfold mcf;rw[if_neg (by omega),if_neg (by omega),if_neg (by omega),if_pos (by omega),show (200+d * 3+r-200) / 3=d by omega,show (200+d * 3+r-200) % 3=r by omega]
theorem tail_stk(m:Mc)(R:Rw)(f:Nat→Vl):tailM { m with stk:=f } R=tailM m R:=by funext k;unfold tailM;rfl
theorem tail_slo(m:Mc)(R:Rw)(f:Nat→Vl):tailM { m with slo:=f } R=tailM m R:=by funext k;unfold tailM;rfl
theorem tail_dep(m:Mc)(R:Rw)(d:Nat):tailM { m with dep:=d } R=tailM m R:=by funext k;unfold tailM;rfl
def setV (f:Nat→Vl) (d:Nat) (v:Vl):Nat→Vl:=fun i=>if i=d then v else f i
theorem upd_stk(H:Nat→Value)(m:Mc)(R:Rw){d:Nat}(hd:d<64)(v:Vl):∀j,j<402→upd (upd (upd (mcf H m R) (7+d * 3) (.int .i64 v.k)) (7+d * 3+1) (.int .i64 v.n)) (7+d * 3+2) (.string (bs v.s)) j=mcf H { m with stk:=setV m.stk d v } R j:=by
 intro j hj;by_cases h:7+d * 3≤j∧j<7+d * 3+3
 ·obtain⟨r,rfl⟩:∃r,j=7+d * 3+r:=⟨j-(7+d * 3),by omega⟩
  have hr:r<3:=by omega
  rw[mcf_stk H _ R hd hr];have hs:setV m.stk d v d=v:=if_pos rfl;simp only[hs];unfold upd vlc;rcases r with _|_|_|r
  ·simp
  ·simp
  ·simp
  ·omega
 ·unfold upd
  rw[if_neg (by omega),if_neg (by omega),if_neg (by omega)];unfold mcf;by_cases h1:j<7
  ·rw[if_pos h1,if_pos h1]
  rw[if_neg h1,if_neg h1];by_cases h2:j<199
  ·rw[if_pos h2,if_pos h2]
   simp only[setV];rw[if_neg (by omega)]
  ·rw[if_neg h2,if_neg h2,tail_stk m R (setV m.stk d v)]
theorem upd_slo(H:Nat→Value)(m:Mc)(R:Rw){d:Nat}(hd:d<64)(v:Vl):∀j,j<402→upd (upd (upd (mcf H m R) (200+d * 3) (.int .i64 v.k)) (200+d * 3+1) (.int .i64 v.n)) (200+d * 3+2) (.string (bs v.s)) j=mcf H { m with slo:=setV m.slo d v } R j:=by
 intro j hj;by_cases h:200+d * 3≤j∧j<200+d * 3+3
 ·obtain⟨r,rfl⟩:∃r,j=200+d * 3+r:=⟨j-(200+d * 3),by omega⟩
  have hr:r<3:=by omega
  rw[mcf_slo H _ R hd hr];have hs:setV m.slo d v d=v:=if_pos rfl;simp only[hs];unfold upd vlc;rcases r with _|_|_|r
  ·simp
  ·simp
  ·simp
  ·omega
 ·unfold upd
  rw[if_neg (by omega),if_neg (by omega),if_neg (by omega)];unfold mcf;by_cases h1:j<7
  ·rw[if_pos h1,if_pos h1]
  rw[if_neg h1,if_neg h1];by_cases h2:j<199
  ·rw[if_pos h2,if_pos h2]
  rw[if_neg h2,if_neg h2];by_cases h3:j=199
  ·rw[if_pos h3,if_pos h3]
  rw[if_neg h3,if_neg h3];by_cases h4:j<392
  ·rw[if_pos h4,if_pos h4]
   simp only[setV];rw[if_neg (by omega)]
  ·rw[if_neg h4,if_neg h4,tail_slo m R (setV m.slo d v)]
theorem upd_dep(H:Nat→Value)(m:Mc)(R:Rw)(d:Nat):∀j,j<402→upd (mcf H m R) 199 (.int .i64 (d:Int)) j=mcf H { m with dep:=d } R j:=by
 intro j hj;unfold upd;by_cases h:j=199
 ·subst h;rfl
 ·rw[if_neg h]
  unfold mcf;by_cases h1:j<7
  ·rw[if_pos h1,if_pos h1]
  rw[if_neg h1,if_neg h1];by_cases h2:j<199
  ·rw[if_pos h2,if_pos h2]
  rw[if_neg h2,if_neg h2,if_neg h,if_neg h];by_cases h4:j<392
  ·rw[if_pos h4,if_pos h4]
  ·rw[if_neg h4,if_neg h4,tail_dep m R d]
theorem upd_tl(H:Nat→Value)(m m':Mc)(R R':Rw)(k:Nat)(u:Value)(hs:m'.stk=m.stk)(hd:m'.dep=m.dep)(hl:m'.slo=m.slo)(hk:k<10)(hu:tailM m' R' k=u)(ho:∀i,i<10→i≠k→tailM m' R' i=tailM m R i):∀j,j<402→upd (mcf H m R) (392+k) u j=mcf H m' R' j:=by
 intro j hj;unfold upd;by_cases h:j=392+k
 ·subst h;rw[if_pos rfl,mcf_tl,hu]
 ·rw[if_neg h]
  unfold mcf;rw[hs,hd,hl];by_cases h1:j<7
  ·rw[if_pos h1,if_pos h1]
  rw[if_neg h1,if_neg h1];by_cases h2:j<199
  ·rw[if_pos h2,if_pos h2]
  rw[if_neg h2,if_neg h2];by_cases h3:j=199
  ·rw[if_pos h3,if_pos h3]
  rw[if_neg h3,if_neg h3];by_cases h4:j<392
  ·rw[if_pos h4,if_pos h4]
  ·rw[if_neg h4,if_neg h4,ho (j-392) (by omega) (by omega)]
structure FrS (S S':Nat→Prop) (w w':World):Prop where
 os:w'.os=w.os
 tape:w'.tape=w.tape
 output:w'.output=w.output
 size:w.heap.size≤w'.heap.size
 block:∀k,k<w.heap.size→¬S k→w'.heap[k]? = w.heap[k]?
 new:∀k,S' k→S k∨w.heap.size≤k
theorem FrS.refl(S:Nat→Prop)(w:World):FrS S S w w:=⟨rfl,rfl,rfl,Nat.le_refl _,fun _ _ _=>rfl,fun _ h=>.inl h⟩
theorem FrS.then{S S1 S2:Nat→Prop}{w w1 w2:World}(h:FrS S S1 w w1)(k:FrS S1 S2 w1 w2):FrS S S2 w w2:=
 ⟨k.os.trans h.os,k.tape.trans h.tape,k.output.trans h.output,Nat.le_trans h.size k.size,
  fun j hj hn=>(k.block j (Nat.lt_of_lt_of_le hj h.size) (fun e=>by rcases h.new j e with q|q;exact hn q;omega)).trans (h.block j hj hn),
  fun j hj=>by rcases k.new j hj with q|q;exact h.new j q;exact .inr (Nat.le_trans h.size q)⟩
theorem FrS.of_below{S:Nat→Prop}{w w':World}(h:Below w.heap.size w w'):FrS S S w w':=⟨h.os,h.tape,h.output,h.size,fun k hk _=>h.block k hk,fun _ h=>.inl h⟩
theorem FrS.set{S S':Nat→Prop}{w W:World}(h:FrS S S' w W)(c i:Nat)(u:Value)(hc:S' c∨w.heap.size≤c):FrS S S' w (W.setCell ⟨c,i,none⟩ u):=by
 have g:=grown_set W ⟨c,i,none⟩ u;refine⟨g.os.trans h.os,g.tape.trans h.tape,g.output.trans h.output,Nat.le_trans h.size g.size,fun k hk hn=>(g.block k (Nat.lt_of_lt_of_le hk h.size) ?_).trans (h.block k hk hn),h.new⟩;intro e
 have e2:k=c:=by simpa using e
 subst e2;rcases hc with q|q
 ·rcases h.new k q with q2|q2
  ·exact hn q2
  ·omega
 ·omega
theorem FrS.drew{S S':Nat→Prop}{w w':World}(h:FrS S S' w w'):FrS S S' w w'.drew:=⟨h.os,h.tape,h.output,h.size,h.block,h.new⟩
theorem FrS.not{S S':Nat→Prop}{w w':World}(h:FrS S S' w w'){k:Nat}(hk:k<w.heap.size)(hn:¬S k):¬S' k:=fun e=>by
 rcases h.new k e with q|q
 ·exact hn q
 ·omega
theorem Bx.frs{S S':Nat→Prop}{b:Nat}{cs:Array Value}{T:TypeId}{w w':World}(h:Bx b cs T w)(k:FrS S S' w w')(hn:¬S b):Bx b cs T w':=(k.block b h.lt hn).trans h
theorem FrS.below{S S':Nat→Prop}{B:Nat}{W0 w w':World}(h:Below B W0 w)(k:FrS S S' w w')(hB:B≤w.heap.size)(hS:∀j,S j→B≤j):Below B W0 w':=
 ⟨k.os.trans h.os,k.tape.trans h.tape,k.output.trans h.output,Nat.le_trans h.size k.size,fun j hj=>(k.block j (by omega) (fun e=>by have:=hS j e;omega)).trans (h.block j hj)⟩
def OwnS (S:Nat→Prop) (B:Nat) (e:TypeId) (k:Nat) (v:Value) (n:Nat) (xs:List Value) (W:World):Prop:=W.ownsRow B e k v n xs∧∀g,v.ownBlock=some g→S g
structure VMB (B mb:Nat) (S:Nat→Prop) (H:Nat→Value) (m:Mc) (R:Rw) (W:World):Prop where
 mS:S mb
 rng:∀j,S j→B≤j∧j<W.heap.size
 bf:Bf mb (mcf H m R) 402 68 W
 own:OwnS S B 55 4 R.ov m.own.length (prLs m.own) W
 out:OwnS S B 52 3 R.outv m.out.length (vlLs m.out) W
 rds:OwnS S B 9 1 R.rv m.rds.length (m.rds.map strV) W
 puts:OwnS S B 9 1 R.pv m.puts.length (m.puts.map strV) W
 wrs:OwnS S B 55 4 R.wv m.wrs.length (prLs m.wrs) W
 apart:R.rv.ownBlock=none∨R.rv.ownBlock≠R.pv.ownBlock
 apart2:R.wv.ownBlock=none∨R.wv.ownBlock≠R.ov.ownBlock
theorem OwnS.blocks{S:Nat→Prop}{B k n:Nat}{e:TypeId}{v:Value}{xs:List Value}{W W':World}(h:OwnS S B e k v n xs W)(hk:∀g,S g→g<W.heap.size→v.ownBlock=some g→W'.heap[g]? = W.heap[g]?):OwnS S B e k v n xs W':=by
 refine⟨?_,h.2⟩;refine⟨h.1.1,?_⟩;rcases h.1.2 with hn|⟨g,cap,cur,rfl,hb,hgg,rest⟩
 ·exact .inl hn
 ·exact .inr ⟨g,cap,cur,rfl,hb,(hk g (h.2 g rfl) (lt_heap hgg) rfl).trans hgg,rest⟩
theorem VMB.call{B mb:Nat}{S:Nat→Prop}{H:Nat→Value}{m:Mc}{R:Rw}{W W':World}(h:VMB B mb S H m R W)(hb:Below W.heap.size W W'):VMB B mb S H m R W':=
 ⟨h.mS,fun j hj=>⟨(h.rng j hj).1,Nat.lt_of_lt_of_le (h.rng j hj).2 hb.size⟩,h.bf.call hb,h.own.blocks fun g _ hg _=>hb.block g hg,h.out.blocks fun g _ hg _=>hb.block g hg,h.rds.blocks fun g _ hg _=>hb.block g hg,h.puts.blocks fun g _ hg _=>hb.block g hg,h.wrs.blocks fun g _ hg _=>hb.block g hg,h.apart,h.apart2⟩
theorem VMB.drew{B mb:Nat}{S:Nat→Prop}{H:Nat→Value}{m:Mc}{R:Rw}{W:World}(h:VMB B mb S H m R W):VMB B mb S H m R W.drew:=⟨h.mS,h.rng,h.bf,h.own,h.out,h.rds,h.puts,h.wrs,h.apart,h.apart2⟩
theorem VMB.not{B mb:Nat}{S:Nat→Prop}{H:Nat→Value}{m:Mc}{R:Rw}{W:World}(h:VMB B mb S H m R W):¬S W.heap.size:=fun e=>by have:=(h.rng _ e).2;omega
theorem OwnS.set{S:Nat→Prop}{B k n b:Nat}{e T:TypeId}{f:Nat→Value}{N:Nat}{v:Value}{xs:List Value}{W:World}(h:OwnS S B e k v n xs W)(hb:Bf b f N T W)(hT:T≠e)(i:Nat)(u:Value):OwnS S B e k v n xs (W.setCell ⟨b,i,none⟩ u):=by
 obtain⟨cs,hx,_⟩:=hb;exact⟨own_st h.1 hx hT i u,h.2⟩
theorem VMB.put{B mb:Nat}{S:Nat→Prop}{H:Nat→Value}{m m':Mc}{R:Rw}{W:World}(h:VMB B mb S H m R W)(i:Nat)(u:Value)(he:∀j,j<402→upd (mcf H m R) i u j=mcf H m' R j)(h1:m'.own=m.own)(h2:m'.out=m.out)(h3:m'.rds=m.rds)(h4:m'.puts=m.puts)(h5:m'.wrs=m.wrs):VMB B mb S H m' R (W.setCell ⟨mb,i,none⟩ u):=by
 refine⟨h.mS,fun j hj=>⟨(h.rng j hj).1,Nat.lt_of_lt_of_le (h.rng j hj).2 (grown_set W ⟨mb,i,none⟩ u).size⟩,(h.bf.set i u).congr he,?_,?_,?_,?_,?_,h.apart,h.apart2⟩
 ·rw[h1];exact h.own.set h.bf (by decide) i u
 ·rw[h2];exact h.out.set h.bf (by decide) i u
 ·rw[h3];exact h.rds.set h.bf (by decide) i u
 ·rw[h4];exact h.puts.set h.bf (by decide) i u
 ·rw[h5];exact h.wrs.set h.bf (by decide) i u
theorem VMB.put3{B mb:Nat}{S:Nat→Prop}{H:Nat→Value}{m m':Mc}{R:Rw}{W:World}(h:VMB B mb S H m R W)(i0 i1 i2:Nat)(u0 u1 u2:Value)(he:∀j,j<402→upd (upd (upd (mcf H m R) i0 u0) i1 u1) i2 u2 j=mcf H m' R j)(h1:m'.own=m.own)(h2:m'.out=m.out)(h3:m'.rds=m.rds)(h4:m'.puts=m.puts)(h5:m'.wrs=m.wrs):VMB B mb S H m' R (((W.setCell ⟨mb,i0,none⟩ u0).setCell ⟨mb,i1,none⟩ u1).setCell ⟨mb,i2,none⟩ u2):=by
 have b1:=h.bf.set i0 u0;have b2:=b1.set i1 u1;refine⟨h.mS,fun j hj=>⟨(h.rng j hj).1,?_⟩,(b2.set i2 u2).congr he,?_,?_,?_,?_,?_,h.apart,h.apart2⟩
 ·have g1:=(grown_set W ⟨mb,i0,none⟩ u0).size
  have g2:=(grown_set (W.setCell ⟨mb,i0,none⟩ u0) ⟨mb,i1,none⟩ u1).size;have g3:=(grown_set ((W.setCell ⟨mb,i0,none⟩ u0).setCell ⟨mb,i1,none⟩ u1) ⟨mb,i2,none⟩ u2).size;have:=(h.rng j hj).2;omega
 ·rw[h1];exact((h.own.set h.bf (by decide) i0 u0).set b1 (by decide) i1 u1).set b2 (by decide) i2 u2
 ·rw[h2];exact((h.out.set h.bf (by decide) i0 u0).set b1 (by decide) i1 u1).set b2 (by decide) i2 u2
 ·rw[h3];exact((h.rds.set h.bf (by decide) i0 u0).set b1 (by decide) i1 u1).set b2 (by decide) i2 u2
 ·rw[h4];exact((h.puts.set h.bf (by decide) i0 u0).set b1 (by decide) i1 u1).set b2 (by decide) i2 u2
 ·rw[h5];exact((h.wrs.set h.bf (by decide) i0 u0).set b1 (by decide) i1 u1).set b2 (by decide) i2 u2
def VPost (B mb:Nat) (S:Nat→Prop) (H:Nat→Value) (m:Mc) (r:Value) (w:World) (e:Ending) (w':World):Prop:=e=.returned r∧∃S' R',VMB B mb S' H m R' w'∧FrS S S' w w'
theorem Bf.k{b:Nat}{f:Nat→Value}{n:Nat}{T:TypeId}{W W':World}(h:Bf b f n T W)(hb:Below W.heap.size W W'):Hid (Bf b f n T W'):=Lib.hid (h.call hb)
theorem VMB.k{B mb:Nat}{S:Nat→Prop}{H:Nat→Value}{m:Mc}{R:Rw}{W W':World}(h:VMB B mb S H m R W)(hb:Below W.heap.size W W'):Hid (VMB B mb S H m R W'):=Lib.hid (h.call hb)
def pushM (m:Mc) (v:Vl):Mc:={ { m with stk:=setV m.stk m.dep v } with dep:=m.dep+1 }
def popM (m:Mc):Mc:={ m with dep:=m.dep-1 }
def popV (m:Mc):Vl:=m.stk (m.dep-1)
theorem VMB.dep{B mb:Nat}{S:Nat→Prop}{H:Nat→Value}{m:Mc}{R:Rw}{W:World}(h:VMB B mb S H m R W):W.cell? ⟨mb,199,none⟩=some (.int .i64 (m.dep:Int)):=h.bf.cell 199 (by decide)
theorem VMB.sc{B mb:Nat}{S:Nat→Prop}{H:Nat→Value}{m:Mc}{R:Rw}{W:World}(h:VMB B mb S H m R W){d:Nat}(hd:d<64):W.cell? ⟨mb,7+d * 3,none⟩=some (.int .i64 (m.stk d).k)∧W.cell? ⟨mb,7+d * 3+1,none⟩=some (.int .i64 (m.stk d).n)∧W.cell? ⟨mb,7+d * 3+2,none⟩=some (.string (bs (m.stk d).s)):=
 ⟨(h.bf.cell (7+d * 3) (by omega)).trans (congrArg some (mcf_stk H m R (r:=0) hd (by decide))),(h.bf.cell (7+d * 3+1) (by omega)).trans (congrArg some (mcf_stk H m R (r:=1) hd (by decide))),(h.bf.cell (7+d * 3+2) (by omega)).trans (congrArg some (mcf_stk H m R (r:=2) hd (by decide)))⟩
theorem VMB.lc{B mb:Nat}{S:Nat→Prop}{H:Nat→Value}{m:Mc}{R:Rw}{W:World}(h:VMB B mb S H m R W){d:Nat}(hd:d<64):W.cell? ⟨mb,200+d * 3,none⟩=some (.int .i64 (m.slo d).k)∧W.cell? ⟨mb,200+d * 3+1,none⟩=some (.int .i64 (m.slo d).n)∧W.cell? ⟨mb,200+d * 3+2,none⟩=some (.string (bs (m.slo d).s)):=
 ⟨(h.bf.cell (200+d * 3) (by omega)).trans (congrArg some (mcf_slo H m R (r:=0) hd (by decide))),(h.bf.cell (200+d * 3+1) (by omega)).trans (congrArg some (mcf_slo H m R (r:=1) hd (by decide))),(h.bf.cell (200+d * 3+2) (by omega)).trans (congrArg some (mcf_slo H m R (r:=2) hd (by decide)))⟩
theorem VMB.tl{B mb:Nat}{S:Nat→Prop}{H:Nat→Value}{m:Mc}{R:Rw}{W:World}(h:VMB B mb S H m R W)(k:Nat)(hk:k<10):W.cell? ⟨mb,392+k,none⟩=some (tailM m R k):=
 (h.bf.cell (392+k) (by omega)).trans (congrArg some (mcf_tl H m R k))
theorem VMB.hd{B mb:Nat}{S:Nat→Prop}{H:Nat→Value}{m:Mc}{R:Rw}{W:World}(h:VMB B mb S H m R W)(k:Nat)(hk:k<7):W.cell? ⟨mb,k,none⟩=some (H k):=
 (h.bf.cell k (by omega)).trans (congrArg some (mcf_hd H m R hk))
theorem cellN_set{W:World}{b i j:Nat}{u:Value}(v:Value)(h1:j≠i)(h:W.cell? ⟨b,i,none⟩=some u):(W.setCell ⟨b,j,none⟩ v).cell? ⟨b,i,none⟩=some u:=by
 rw[World.cell?_setCell_other _ _ _ _ (by intro e;exact h1 (by cases e;rfl))];exact h
theorem VMB.other{B mb:Nat}{S:Nat→Prop}{H:Nat→Value}{m:Mc}{R:Rw}{W:World}(h:VMB B mb S H m R W)(c i:Nat)(hc:¬S c)(u:Value):VMB B mb S H m R (W.setCell ⟨c,i,none⟩ u):=by
 have g:=grown_set W ⟨c,i,none⟩ u;have hk:∀j,S j→j<W.heap.size→(W.setCell ⟨c,i,none⟩ u).heap[j]? = W.heap[j]?:=fun j hj hl=>g.block j hl (fun e=>hc (by cases e;exact hj));exact⟨h.mS,fun j hj=>⟨(h.rng j hj).1,Nat.lt_of_lt_of_le (h.rng j hj).2 g.size⟩,h.bf.block (hk mb h.mS h.bf.lt),h.own.blocks fun j a b _=>hk j a b,h.out.blocks fun j a b _=>hk j a b,h.rds.blocks fun j a b _=>hk j a b,h.puts.blocks fun j a b _=>hk j a b,h.wrs.blocks fun j a b _=>hk j a b,h.apart,h.apart2⟩
theorem vm_sets3{B mb:Nat}{S:Nat→Prop}{H:Nat→Value}{m:Mc}{R:Rw}{W:World}(h:VMB B mb S H m R W)(c:Nat)(hc:¬S c)(u0 u1 u2:Value):VMB B mb S H m R (((W.setCell ⟨c,0,none⟩ u0).setCell ⟨c,1,none⟩ u1).setCell ⟨c,2,none⟩ u2):=((h.other c 0 hc u0).other c 1 hc u1).other c 2 hc u2
theorem push_any(B mb:Nat)(S:Nat→Prop)(H:Nat→Value)(m:Mc)(R:Rw)(v:Vl)(w:World)(h:VMB B mb S H m R w)(hd:m.dep<64):
  Calls prog 60 #[.pointer (some ⟨mb,0,none⟩),.agg (vV v)] w (VPost B mb S H (pushM m v) (.tuple #[]) w):=by
 simp only[vV];have hal:=(Below.refl w.heap.size w).alloc (Nat.le_refl _) (.cells #[.int .i64 v.k,.int .i64 v.n,.string (bs v.s)] 52);have HM:=h_ (h.call hal);have HBX:=h_ (Bx.new w #[.int .i64 v.k,.int .i64 v.n,.string (bs v.s)] 52);have HN:=h_ h.not;have HF:=h_ (FrS.of_below (S:=S) hal);have hne:mb≠w.heap.size:=fun e=>HN.out (e ▸ h.mS);clear h hal;go_enter func60,ntmps60;go_upto_region 1 with (fail);generalize hW:w.alloc (.cells #[.int .i64 v.k,.int .i64 v.n,.string (bs v.s)] 52)=v0 at HM HBX HF ⊢;clear hW;obtain⟨d,hdd⟩:=ex_ (m.dep);have HDD:=h_ hdd;rw[hdd]at hd
 have hdi:(0:Int)≤(d:Int)∧(d:Int)<64:=by omega
 have hds:=HM.out.dep;rw[hdd]at hds;clear hdd;have HS0:=h_ (show ((fun w'=>w'.cell? ⟨mb,199,none⟩=some (.int .i64 (d:Int))∧Bx w.heap.size #[.int .i64 v.k,.int .i64 v.n,.string (bs v.s)] 52 w')) v0.drew from⟨hds,HBX.out⟩);obtain⟨c0,c1,c2⟩:=HM.out.sc hd;have f0:=HM.out.bf.free (7+d * 3);have f1:=HM.out.bf.free (7+d * 3+1);have f2:=HM.out.bf.free (7+d * 3+2);clear hds;have HKK:=h_ (show ((fun w'=>w'.cell? ⟨mb,199,none⟩=some (.int .i64 (d:Int))∧Bx w.heap.size #[.int .i64 v.k,.int .i64 v.n,.string (bs v.s)] 52 w')) (((v0.setCell ⟨mb,7+d * 3,none⟩ (.int .i64 v.k)).setCell ⟨mb,7+d * 3+1,none⟩ (.int .i64 v.n)).setCell ⟨mb,7+d * 3+2,none⟩ (.string (bs v.s))) from⟨cellN_set _ (by omega) (cellN_set _ (by omega) (cellN_set _ (by omega) HS0.out.1)),((HBX.out.other (Ne.symm hne) _).other (Ne.symm hne) _).other (Ne.symm hne) _⟩);have HM2:=h_ (VMB.drew (HM.out.put3 (m':={ m with stk:=setV m.stk d v }) _ _ _ _ _ _ (upd_stk H m R hd v) rfl rfl rfl rfl rfl));have HF2:=h_ (FrS.drew (((HF.out.set mb (7+d * 3) (.int .i64 v.k) (.inl HM.out.mS)).set mb (7+d * 3+1) (.int .i64 v.n) (.inl HM.out.mS)).set mb (7+d * 3+2) (.string (bs v.s)) (.inl HM.out.mS)));refine wp_region_held_drew (S:=(fun w'=>w'.cell? ⟨mb,199,none⟩=some (.int .i64 (d:Int))∧Bx w.heap.size #[.int .i64 v.k,.int .i64 v.n,.string (bs v.s)] 52 w')) (by kernel_rfl) ?_ (fun hHeld=>?_)
 ·exact HS0.out
 refine tkX 0 4 ?_;refine tkX 1 5 ?_;refine tkX 2 6 ?_;refine tkX 3 7 ?_;refine tkY 4 (v:=?vv5) 8 ?yy5 ?_
 case yy5 =>
  intro wq hSw;have ds:=hSw.1;clear hSw;go_simp
  (try with_reducible rfl)
 refine tkY 5 (v:=?vv6) 9 ?yy6 ?_
 case yy6 =>
  intro wq hSw;obtain⟨b0,b1,b2⟩:=hSw.2.c3;clear hSw;go_simp
  (try with_reducible rfl)
 refine tkX 6 10 ?_;refine tkX 7 11 ?_;refine tkX 8 12 ?_;simp only[sA,sB,sC];refine rd1 9 fun K hK=>?_;go_simp;refine hK.out _ _ (HKK.out) fun hHeld=>?_;clear hK K
 (try simp only[Act.put,sA,sB,sC])
 refine wpAnyH_done (by kernel_rfl) ?_ _;clear hHeld HKK HS0 c0 c1 c2 f0 f1 f2 HM HBX HF;generalize hW:World.drew (((v0.setCell ⟨mb,7+d * 3,none⟩ (.int .i64 v.k)).setCell ⟨mb,7+d * 3+1,none⟩ (.int .i64 v.n)).setCell ⟨mb,7+d * 3+2,none⟩ (.string (bs v.s)))=v1 at HM2 HF2 ⊢;clear hW
 have hds:v1.cell? ⟨mb,199,none⟩=some (.int .i64 (d:Int)):=by have:=HM2.out.dep;rw[show (Mc.dep { m with stk:=setV m.stk d v })=m.dep from rfl,HDD.out]at this;exact this
 have hfr:=HM2.out.bf.free 199
 have hw1:IntKind.i64.wrap ((d:Int)+1)=((d+1:Nat):Int):=by rw[IntKind.wrap_i64]<;>omega
 have HM3:=h_ (HM2.out.put (m':=pushM m v) 199 (.int .i64 ((d+1:Nat):Int)) (by have h:=upd_dep H { m with stk:=setV m.stk m.dep v } R (m.dep+1);unfold pushM;rw[HDD.out]at h ⊢;exact h) rfl rfl rfl rfl rfl);have HF3:=h_ (HF2.out.set mb 199 (.int .i64 ((d+1:Nat):Int)) (.inl HM2.out.mS));go_wp2;exact⟨(by first|exact True.intro|rfl),.tuple #[],results_none rfl _ _ _,rfl,S,R,HM3.out,HF3.out⟩
theorem pop_any(B mb:Nat)(S:Nat→Prop)(H:Nat→Value)(m:Mc)(R:Rw)(w:World)(h:VMB B mb S H m R w)(hd1:1≤m.dep)(hd:m.dep≤64):
  Calls prog 61 #[.pointer (some ⟨mb,0,none⟩)] w (VPost B mb S H (popM m) (.agg (vV (popV m))) w):=by
 have hal:=(Below.refl w.heap.size w).alloc (Nat.le_refl _) (.cells #[.int .i64 0,.int .i64 0,.string ⟨#[]⟩] 52);have HM:=h_ (h.call hal);have HRB:=h_ (Bx.new w #[.int .i64 0,.int .i64 0,.string ⟨#[]⟩] 52);have HN:=h_ h.not;have HF:=h_ (FrS.of_below (S:=S) hal);have hne:mb≠w.heap.size:=fun e=>HN.out (e ▸ h.mS);clear h hal;go_enter func61,ntmps61;go_upto_region 1 with (fail);generalize hW:w.alloc (.cells #[.int .i64 0,.int .i64 0,.string ⟨#[]⟩] 52)=v0 at HM HRB HF ⊢;clear hW;obtain⟨d,hdd⟩:∃d,m.dep=d+1:=⟨m.dep-1,by omega⟩;have HDD:=h_ hdd
 have hd2:d<64:=by omega
 have hds:=HM.out.dep;rw[hdd,show ((d+1:Nat):Int)=(d:Int)+1 from rfl]at hds;clear hdd hd hd1
 have hw1:IntKind.i64.wrap ((d:Int)+1-1)=(d:Int):=by rw[IntKind.wrap_i64]<;>omega
 have hfr:=HM.out.bf.free 199
 have hdi:(0:Int)≤(d:Int)∧(d:Int)<64:=by omega
 have HM2:=h_ (HM.out.put (m':=popM m) 199 (.int .i64 (d:Int)) (by have h:=upd_dep H m R d;unfold popM;rw[HDD.out];exact h) rfl rfl rfl rfl rfl);have HF2:=h_ (HF.out.set mb 199 (.int .i64 (d:Int)) (.inl HM.out.mS));have HR2:=h_ (HRB.out.other (c:=mb) (i:=199) (Ne.symm hne) (.int .i64 (d:Int)));go_upto_region 2 with (fail);clear hds hfr HM HF HRB;generalize hW:v0.setCell ⟨mb,199,none⟩ (.int .i64 (d:Int))=v1 at HM2 HF2 HR2 ⊢;clear hW;obtain⟨v,hv⟩:=ex_ (m.stk d)
 have hpv:popV m=v:=by unfold popV;rw[HDD.out];exact hv
 have HPV:=h_ hpv;have hds:=HM2.out.dep;rw[show (popM m).dep=d by unfold popM;show m.dep-1=d;rw[HDD.out];rfl]at hds;have hsc:=HM2.out.sc hd2;rw[show (popM m).stk d=v from hv]at hsc;have HS0:=h_ (show ((fun w'=>w'.cell? ⟨mb,199,none⟩=some (.int .i64 (d:Int))∧w'.cell? ⟨mb,7+d * 3,none⟩=some (.int .i64 v.k)∧w'.cell? ⟨mb,7+d * 3+1,none⟩=some (.int .i64 v.n)∧w'.cell? ⟨mb,7+d * 3+2,none⟩=some (.string (bs v.s)))) v1.drew from⟨hds,hsc⟩);clear hds hsc hv hpv;obtain⟨r0,r1,r2⟩:=HR2.out.c3;have f0:=HR2.out.free 0;have f1:=HR2.out.free 1;have f2:=HR2.out.free 2;have HKK:=h_ (show ((fun w'=>w'.cell? ⟨mb,199,none⟩=some (.int .i64 (d:Int))∧w'.cell? ⟨mb,7+d * 3,none⟩=some (.int .i64 v.k)∧w'.cell? ⟨mb,7+d * 3+1,none⟩=some (.int .i64 v.n)∧w'.cell? ⟨mb,7+d * 3+2,none⟩=some (.string (bs v.s)))) (((v1.setCell ⟨w.heap.size,0,none⟩ (.int .i64 v.k)).setCell ⟨w.heap.size,1,none⟩ (.int .i64 v.n)).setCell ⟨w.heap.size,2,none⟩ (.string (bs v.s))) from⟨cell1_set _ (Ne.symm hne) (cell1_set _ (Ne.symm hne) (cell1_set _ (Ne.symm hne) HS0.out.1)),cell1_set _ (Ne.symm hne) (cell1_set _ (Ne.symm hne) (cell1_set _ (Ne.symm hne) HS0.out.2.1)),cell1_set _ (Ne.symm hne) (cell1_set _ (Ne.symm hne) (cell1_set _ (Ne.symm hne) HS0.out.2.2.1)),cell1_set _ (Ne.symm hne) (cell1_set _ (Ne.symm hne) (cell1_set _ (Ne.symm hne) HS0.out.2.2.2))⟩);have hb3:Below v1.heap.size v1 v1:=Below.refl _ _;have HMF:=h_ (VMB.drew (vm_sets3 HM2.out w.heap.size HN.out (.int .i64 v.k) (.int .i64 v.n) (.string (bs v.s))));have HFF:=h_ (FrS.drew (((HF2.out.set w.heap.size 0 (.int .i64 v.k) (.inr (Nat.le_refl _))).set w.heap.size 1 (.int .i64 v.n) (.inr (Nat.le_refl _))).set w.heap.size 2 (.string (bs v.s)) (.inr (Nat.le_refl _))));have HRR:=h_ (Bx.drew (HR2.out.sets3 (.int .i64 v.k) (.int .i64 v.n) (.string (bs v.s))));refine wp_region_held_drew (S:=(fun w'=>w'.cell? ⟨mb,199,none⟩=some (.int .i64 (d:Int))∧w'.cell? ⟨mb,7+d * 3,none⟩=some (.int .i64 v.k)∧w'.cell? ⟨mb,7+d * 3+1,none⟩=some (.int .i64 v.n)∧w'.cell? ⟨mb,7+d * 3+2,none⟩=some (.string (bs v.s)))) (by kernel_rfl) ?_ (fun hHeld=>?_)
 ·exact HS0.out
 refine tkX 0 10 ?_;refine tkX 1 11 ?_;refine tkX 2 12 ?_;refine tkX 3 13 ?_;refine tkY 4 (v:=?vv14) 14 ?yy14 ?_
 case yy14 =>
  intro wq hSw;have ds:=hSw.1;clear hSw;go_simp
  (try with_reducible rfl)
 refine tkX 5 15 ?_;refine tkX 6 16 ?_;refine tkX 7 17 ?_;refine tkY 8 (v:=?vv18) 18 ?yy18 ?_
 case yy18 =>
  intro wq hSw;have b0:=hSw.2.1;have b1:=hSw.2.2.1;have b2:=hSw.2.2.2;clear hSw;go_simp
  (try with_reducible rfl)
 simp only[sA,sB,sC];refine rd1 9 fun K hK=>?_;go_simp;refine hK.out _ _ (HKK.out) fun hHeld=>?_;clear hK K
 (try simp only[Act.put,sA,sB,sC])
 refine wpAnyH_done (by kernel_rfl) ?_ _;clear hHeld HKK HS0 r0 r1 r2 f0 f1 f2 HM2 HF2 HR2;generalize hW:World.drew (((v1.setCell ⟨w.heap.size,0,none⟩ (.int .i64 v.k)).setCell ⟨w.heap.size,1,none⟩ (.int .i64 v.n)).setCell ⟨w.heap.size,2,none⟩ (.string (bs v.s)))=v2 at HMF HFF HRR ⊢;clear hW;go_wp2;obtain⟨k0,k1,k2⟩:=HRR.out.c3;refine bodyPost_ret (v:=.agg #[.int .i64 v.k,.int .i64 v.n,.string (bs v.s)]) (by simp[results,results61,go_sem,k0,k1,k2]<;>rfl) rfl ⟨by rw[HPV.out]<;>rfl,S,R,HMF.out,HFF.out⟩
def endM (st c:Int) (k:List UInt8) (m:Mc):Mc:=
 if st=1 then { m with done:=true,st:=st,code:=c,miss:=k,wrs:=m.wrs++m.puts.map fun x=>⟨x,getP m.own x⟩ }
 else { m with done:=true,st:=st,code:=c,miss:=k,out:=[] }
theorem VMB.done{B mb:Nat}{S:Nat→Prop}{H:Nat→Value}{m:Mc}{R:Rw}{W:World}(h:VMB B mb S H m R W)(b:Bool):VMB B mb S H { m with done:=b } R (W.setCell ⟨mb,401,none⟩ (.bool b)):=
 h.put 401 _ (upd_tl H m { m with done:=b } R R 9 _ rfl rfl rfl (by decide) rfl (fun i hi hn=>by match i with|0=>rfl|1=>rfl|2=>rfl|3=>rfl|4=>rfl|5=>rfl|6=>rfl|7=>rfl|8=>rfl|9=>exact absurd rfl hn)) rfl rfl rfl rfl rfl
theorem VMB.status{B mb:Nat}{S:Nat→Prop}{H:Nat→Value}{m:Mc}{R:Rw}{W:World}(h:VMB B mb S H m R W)(x:Int):VMB B mb S H { m with st:=x } R (W.setCell ⟨mb,393,none⟩ (.int .i64 x)):=
 h.put 393 _ (upd_tl H m { m with st:=x } R R 1 _ rfl rfl rfl (by decide) rfl (fun i hi hn=>by match i with|0=>rfl|1=>exact absurd rfl hn|2=>rfl|3=>rfl|4=>rfl|5=>rfl|6=>rfl|7=>rfl|8=>rfl|9=>rfl)) rfl rfl rfl rfl rfl
theorem VMB.coded{B mb:Nat}{S:Nat→Prop}{H:Nat→Value}{m:Mc}{R:Rw}{W:World}(h:VMB B mb S H m R W)(x:Int):VMB B mb S H { m with code:=x } R (W.setCell ⟨mb,394,none⟩ (.int .i64 x)):=
 h.put 394 _ (upd_tl H m { m with code:=x } R R 2 _ rfl rfl rfl (by decide) rfl (fun i hi hn=>by match i with|0=>rfl|1=>rfl|2=>exact absurd rfl hn|3=>rfl|4=>rfl|5=>rfl|6=>rfl|7=>rfl|8=>rfl|9=>rfl)) rfl rfl rfl rfl rfl
theorem VMB.missed{B mb:Nat}{S:Nat→Prop}{H:Nat→Value}{m:Mc}{R:Rw}{W:World}(h:VMB B mb S H m R W)(x:List UInt8):VMB B mb S H { m with miss:=x } R (W.setCell ⟨mb,399,none⟩ (.string (bs x))):=
 h.put 399 _ (upd_tl H m { m with miss:=x } R R 7 _ rfl rfl rfl (by decide) rfl (fun i hi hn=>by match i with|0=>rfl|1=>rfl|2=>rfl|3=>rfl|4=>rfl|5=>rfl|6=>rfl|7=>exact absurd rfl hn|8=>rfl|9=>rfl)) rfl rfl rfl rfl rfl
theorem VMB.stepped{B mb:Nat}{S:Nat→Prop}{H:Nat→Value}{m:Mc}{R:Rw}{W:World}(h:VMB B mb S H m R W)(x:Int):VMB B mb S H { m with steps:=x } R (W.setCell ⟨mb,400,none⟩ (.int .i64 x)):=
 h.put 400 _ (upd_tl H m { m with steps:=x } R R 8 _ rfl rfl rfl (by decide) rfl (fun i hi hn=>by match i with|0=>rfl|1=>rfl|2=>rfl|3=>rfl|4=>rfl|5=>rfl|6=>rfl|7=>rfl|8=>exact absurd rfl hn|9=>rfl)) rfl rfl rfl rfl rfl
theorem own_nils(S:Nat→Prop)(W:World)(B:Nat)(e:TypeId)(k:Nat):OwnS S B e k (.slice none 0 0) 0 [] W:=⟨own_nil W B e k,fun g hg=>by cases hg⟩
theorem VMB.clr{B mb:Nat}{S:Nat→Prop}{H:Nat→Value}{m:Mc}{R:Rw}{W:World}(h:VMB B mb S H m R W):VMB B mb S H { m with out:=[] } { R with outv:=.slice none 0 0 } (W.setCell ⟨mb,395,none⟩ (.slice none 0 0)):=by
 have he:=upd_tl H m { m with out:=[] } R { R with outv:=.slice none 0 0 } 3 (.slice none 0 0) rfl rfl rfl (by decide) rfl (fun i hi hn=>by match i with|0=>rfl|1=>rfl|2=>rfl|3=>exact absurd rfl hn|4=>rfl|5=>rfl|6=>rfl|7=>rfl|8=>rfl|9=>rfl);exact⟨h.mS,fun j hj=>⟨(h.rng j hj).1,Nat.lt_of_lt_of_le (h.rng j hj).2 (grown_set W ⟨mb,395,none⟩ (.slice none 0 0)).size⟩,(h.bf.set 395 (.slice none 0 0)).congr he,h.own.set h.bf (by decide) _ _,own_nils S _ B _ _,h.rds.set h.bf (by decide) _ _,h.puts.set h.bf (by decide) _ _,h.wrs.set h.bf (by decide) _ _,h.apart,h.apart2⟩
theorem endN_any(B mb:Nat)(S:Nat→Prop)(H:Nat→Value)(m:Mc)(R:Rw)(st c:Int)(k:List UInt8)(hst:st≠1)(w:World)(h:VMB B mb S H m R w):
  Calls prog 59 #[.pointer (some ⟨mb,0,none⟩),.int .i64 st,.int .i64 c,.string (bs k)] w (VPost B mb S H (endM st c k m) (.tuple #[]) w):=by
 have HM:=h_ h;clear h;have c9:w.cell? ⟨mb,401,none⟩=some (.bool m.done):=HM.out.tl 9 (by decide);have f9:=HM.out.bf.free 401;have HM1:=h_ (HM.out.done true);go_enter func59,ntmps59;go_upto_region 1 with (fail);clear c9 f9;have HF1:=h_ ((FrS.refl S w).set mb 401 (.bool true) (.inl HM.out.mS));generalize hW:w.setCell ⟨mb,401,none⟩ (.bool true)=v1 at HM1 HF1 ⊢;clear hW;have c1:v1.cell? ⟨mb,393,none⟩=some (.int .i64 m.st):=HM1.out.tl 1 (by decide);have c2:v1.cell? ⟨mb,394,none⟩=some (.int .i64 m.code):=HM1.out.tl 2 (by decide);have c7:v1.cell? ⟨mb,399,none⟩=some (.string (bs m.miss)):=HM1.out.tl 7 (by decide);have f1:=HM1.out.bf.free 393;have f2:=HM1.out.bf.free 394;have f7:=HM1.out.bf.free 399;have HM2:=h_ (((HM1.out.status st).coded c).missed k);have HF2:=h_ (((HF1.out.set mb 393 (.int .i64 st) (.inl HM.out.mS)).set mb 394 (.int .i64 c) (.inl HM.out.mS)).set mb 399 (.string (bs k)) (.inl HM.out.mS));have g2:(v1.setCell ⟨mb,393,none⟩ (.int .i64 st)).cell? ⟨mb,394,none⟩=some (.int .i64 m.code):=(HM1.out.status st).tl 2 (by decide);have h2:=(HM1.out.status st).bf.free 394;have g7:((v1.setCell ⟨mb,393,none⟩ (.int .i64 st)).setCell ⟨mb,394,none⟩ (.int .i64 c)).cell? ⟨mb,399,none⟩=some (.string (bs m.miss)):=((HM1.out.status st).coded c).tl 7 (by decide);have h7:=((HM1.out.status st).coded c).bf.free 399;go_upto_region 2 with (fail);clear c1 c2 c7 f1 f2 f7 g2 h2 g7 h7 HM1 HF1;generalize hW:((v1.setCell ⟨mb,393,none⟩ (.int .i64 st)).setCell ⟨mb,394,none⟩ (.int .i64 c)).setCell ⟨mb,399,none⟩ (.string (bs k))=v2 at HM2 HF2 ⊢;clear hW
 have tst:(st != 1)=true:=by rw[bne_iff_ne];exact hst
 have HST:=h_ hst;clear hst;obtain⟨oa,oc,hov⟩:=own_sl HM2.out.out.1
 have c3:v2.cell? ⟨mb,395,none⟩=some (.slice oa m.out.length oc):=by rw[←show R.outv=.slice oa m.out.length oc from hov];exact HM2.out.tl 3 (by decide)
 clear hov;have f3:=HM2.out.bf.free 395;have HM3:=h_ HM2.out.clr;have HF3:=h_ (HF2.out.set mb 395 (.slice none 0 0) (.inl HM.out.mS));go_wp2;have hem:endM st c k m={ m with done:=true,st:=st,code:=c,miss:=k,out:=[] }:=if_neg HST.out;exact⟨(by first|exact True.intro|rfl),.tuple #[],results_none rfl _ _ _,rfl,S,_,by rw[hem];exact HM3.out,HF3.out⟩
theorem vabort_any(B mb:Nat)(S:Nat→Prop)(H:Nat→Value)(m:Mc)(R:Rw)(c:Int)(w:World)(h:VMB B mb S H m R w):
  Calls prog 37 #[.pointer (some ⟨mb,0,none⟩),.int .i64 c] w (VPost B mb S H (endM 2 c [] m) (.tuple #[]) w):=by
 have HM:=h_ h;clear h;go_enter func37,ntmps37;go_wp2_with fail;refine(endN_any B mb S H m R 2 c [] (by decide) w HM.out).mono ?_;rintro e w1 ⟨rfl,S',R',h1,h2⟩;have H1:=h_ h1;have H2:=h_ h2;clear h1 h2;go_wp2;exact⟨(by first|exact True.intro|rfl),.tuple #[],results_none rfl _ _ _,rfl,S',R',H1.out,H2.out⟩
def tickM (m:Mc):Mc:=if 16384<m.steps+1 then endM 2 1008 [] { m with steps:=m.steps+1 } else { m with steps:=m.steps+1 }
theorem tick_any(B mb:Nat)(S:Nat→Prop)(H:Nat→Value)(m:Mc)(R:Rw)(w:World)(h:VMB B mb S H m R w)(h0:0≤m.steps)(h1:m.steps≤16384):
  Calls prog 68 #[.pointer (some ⟨mb,0,none⟩)] w (VPost B mb S H (tickM m) (.tuple #[]) w):=by
 have HM:=h_ h;clear h;obtain⟨z,hz⟩:=ex_ (m.steps);have HZ:=h_ hz;rw[hz]at h0 h1
 have c8:w.cell? ⟨mb,400,none⟩=some (.int .i64 z):=by rw[←hz];exact HM.out.tl 8 (by decide)
 clear hz
 have hw1:IntKind.i64.wrap (z+1)=z+1:=by rw[IntKind.wrap_i64]<;>omega
 have f8:=HM.out.bf.free 400;have HM1:=h_ (HM.out.stepped (z+1));have HF1:=h_ ((FrS.refl S w).set mb 400 (.int .i64 (z+1)) (.inl HM.out.mS));go_enter func68,ntmps68;go_upto_region 1 with (fail);clear c8 f8 HM;generalize hW:w.setCell ⟨mb,400,none⟩ (.int .i64 (z+1))=v1 at HM1 HF1 ⊢;clear hW;have c8:v1.cell? ⟨mb,400,none⟩=some (.int .i64 (z+1)):=HM1.out.tl 8 (by decide);by_cases hbig:16384<z+1
 ·go_wp2_with fail
  refine(vabort_any B mb S H _ R 1008 _ HM1.out).mono ?_;rintro e w1 ⟨rfl,S',R',h1,h2⟩;have H1:=h_ h1;have H2:=h_ h2;clear h1 h2 c8;go_wp2;exact⟨(by first|exact True.intro|rfl),.tuple #[],results_none rfl _ _ _,rfl,S',R',by unfold tickM;rw[HZ.out,if_pos hbig];exact H1.out,HF1.out.then H2.out⟩
 ·have hb2:¬(16384<z+1):=hbig
  go_wp2;exact⟨(by first|exact True.intro|rfl),.tuple #[],results_none rfl _ _ _,rfl,S,R,by unfold tickM;rw[HZ.out,if_neg (by omega)];exact HM1.out,HF1.out⟩
def addB (S:Nat→Prop) (v:Value):Nat→Prop:=fun k=>S k∨v.ownBlock=some k
theorem own_apart{B B' n n' k k':Nat}{e e':TypeId}{v v':Value}{xs xs':List Value}{W:World}(h:W.ownsRow B e k v n xs)(h2:W.ownsRow B' e' k' v' n' xs')(he:e≠e'):v.ownBlock=none∨v.ownBlock≠v'.ownBlock:=by
 rcases h.2 with ⟨rfl,_⟩|⟨g,cap,cur,rfl,_,hg,_⟩
 ·exact .inl rfl
 right;rcases h2.2 with ⟨rfl,_⟩|⟨g',cap',cur',rfl,_,hg',_⟩
 ·intro e;cases e
 ·intro h
  have hgg:g=g':=by simpa[Value.ownBlock] using h
  subst hgg;rw[hg]at hg';cases hg';exact he rfl
theorem apart_symm{a b:Option Nat}(h:a=none∨a≠b):b=none∨b≠a:=by
 rcases h with rfl|h
 ·cases b with
  | none=>exact .inl rfl
  | some x=>exact .inr (by intro e;cases e)
 ·exact .inr (Ne.symm h)
theorem OwnS.grow{S S':Nat→Prop}{B k n:Nat}{e:TypeId}{v:Value}{xs:List Value}{W W':World}{row:Option Nat}(h:OwnS S B e k v n xs W)(hg:W.grownBy W' row)(hne:v.ownBlock=none∨v.ownBlock≠row)(hs:∀j,S j→S' j):OwnS S' B e k v n xs W':=by
 have h1:=h.blocks (W':=W') fun g _ hl hv=>hg.block g hl (fun e=>by
  rcases hne with q|q
  ·rw[hv]at q;cases q
  ·exact q (hv.trans e))
 exact⟨h1.1,fun g hgv=>hs g (h1.2 g hgv)⟩
theorem Bf.grow{b:Nat}{f:Nat→Value}{n:Nat}{T:TypeId}{W W':World}{row:Option Nat}(h:Bf b f n T W)(hg:W.grownBy W' row)(hne:row≠some b):Bf b f n T W':=h.block (hg.block b h.lt (Ne.symm hne))
theorem Bf.row_ne{b:Nat}{f:Nat→Value}{N:Nat}{T:TypeId}{W:World}{B n k:Nat}{e:TypeId}{v:Value}{xs:List Value}(h:Bf b f N T W)(ho:W.ownsRow B e k v n xs)(hT:T≠e):v.ownBlock≠some b:=by
 intro hv;obtain⟨cs,hx,_⟩:=h;rcases ho.2 with ⟨rfl,_⟩|⟨g,cap,cur,rfl,_,hg,_⟩
 ·cases hv
 ·have hgb:g=b:=by simpa[Value.ownBlock] using hv
  subst hgb;have h2:W.heap[g]? = some (.cells cs T (0,0)):=hx;rw[h2]at hg;cases hg;exact hT rfl
theorem OwnS.more{S S':Nat→Prop}{B k n:Nat}{e:TypeId}{v:Value}{xs:List Value}{W:World}(h:OwnS S B e k v n xs W)(hs:∀j,S j→S' j):OwnS S' B e k v n xs W:=⟨h.1,fun g hg=>hs g (h.2 g hg)⟩
theorem FrS.grown{S:Nat→Prop}{W W':World}{v v':Value}(hg:W.grownBy W' v.ownBlock)(hS:∀g,v.ownBlock=some g→S g)(hb:v'.ownBlock=v.ownBlock∨∃b,v'.ownBlock=some b∧W.heap.size≤b):FrS S (addB S v') W W':=by
 refine⟨hg.os,hg.tape,hg.output,hg.size,fun k hk hn=>hg.block k hk (fun e=>hn (hS k e.symm)),fun k hk=>?_⟩;rcases hk with q|q
 ·exact .inl q
 ·rcases hb with r|⟨b,r,r2⟩
  ·exact .inl (hS k (r ▸ q))
  ·rw[r]at q;cases q;exact .inr r2
theorem own_put{B n k g cap:Nat}{e:TypeId}{xs:List Value}{W:World}(h:W.ownsRow B e k (.slice (some ⟨g,0,none⟩) n cap) n xs)(j:Nat)(u:Value):(W.setCell ⟨g,j,none⟩ u).ownsRow B e k (.slice (some ⟨g,0,none⟩) n cap) n (xs.set j u):=by
 refine⟨by rw[List.length_set];exact h.1,?_⟩;rcases h.2 with ⟨h1,_⟩|⟨g2,cap2,cur,h1,hb,hg,hn,hm,hs,ht⟩
 ·cases h1
 cases h1;have hx:Bx g cur e W:=hg;refine .inr ⟨g,cap,cur.setIfInBounds j u,rfl,hb,hx.set j u,hn,hm,by simpa using hs,?_⟩;rw[Array.toList_setIfInBounds,List.take_set,ht]
theorem VMB.rowOwn{B mb:Nat}{S:Nat→Prop}{H:Nat→Value}{m:Mc}{R:Rw}{W W':World}(h:VMB B mb S H m R W)(v':Value)(L:List Pr)(hg:W.grownBy W' R.ov.ownBlock)(ho:W'.ownsRow B 55 4 v' L.length (prLs L))(hb:v'.ownBlock=R.ov.ownBlock∨∃b,v'.ownBlock=some b∧W.heap.size≤b):
  Bf mb (mcf H m R) 402 68 W'∧VMB B mb (addB S v') H { m with own:=L } { R with ov:=v' } (W'.setCell ⟨mb,392,none⟩ v')∧FrS S (addB S v') W (W'.setCell ⟨mb,392,none⟩ v'):=by
 have hm:=h.bf.grow hg (h.bf.row_ne h.own.1 (by decide));have hs:∀j,S j→addB S v' j:=fun j hj=>.inl hj;have he:=upd_tl H m { m with own:=L } R { R with ov:=v' } 0 v' rfl rfl rfl (by decide) rfl (fun i hi hn=>by match i with|0=>exact absurd rfl hn|1=>rfl|2=>rfl|3=>rfl|4=>rfl|5=>rfl|6=>rfl|7=>rfl|8=>rfl|9=>rfl);refine⟨hm,⟨.inl h.mS,fun j hj=>?_,(hm.set 392 v').congr he,?_,?_,?_,?_,?_,?_,?_⟩,(FrS.grown hg h.own.2 hb).set mb 392 v' (.inl (.inl h.mS))⟩
 ·have g:=(grown_set W' ⟨mb,392,none⟩ v').size
  rcases hj with q|q
  ·exact⟨(h.rng j q).1,Nat.lt_of_lt_of_le (h.rng j q).2 (Nat.le_trans hg.size g)⟩
  ·exact⟨(ho.lt j q).1,Nat.lt_of_lt_of_le (ho.lt j q).2 g⟩
 ·exact OwnS.set ⟨ho,fun g hg=>.inr hg⟩ hm (by decide) _ _
 ·exact(h.out.grow hg (own_apart h.out.1 h.own.1 (by decide)) hs).set hm (by decide) _ _
 ·exact(h.rds.grow hg (own_apart h.rds.1 h.own.1 (by decide)) hs).set hm (by decide) _ _
 ·exact(h.puts.grow hg (own_apart h.puts.1 h.own.1 (by decide)) hs).set hm (by decide) _ _
 ·exact(h.wrs.grow hg h.apart2 hs).set hm (by decide) _ _
 ·exact h.apart
 ·show R.wv.ownBlock=none∨R.wv.ownBlock≠v'.ownBlock
  rcases hb with q|⟨b,q,q2⟩
  ·rw[q];exact h.apart2
  ·right
   intro e;have:=((h.wrs).1.lt b (e.trans q)).2;omega
theorem VMB.rowOut{B mb:Nat}{S:Nat→Prop}{H:Nat→Value}{m:Mc}{R:Rw}{W W':World}(h:VMB B mb S H m R W)(v':Value)(L:List Vl)(hg:W.grownBy W' R.outv.ownBlock)(ho:W'.ownsRow B 52 3 v' L.length (vlLs L))(hb:v'.ownBlock=R.outv.ownBlock∨∃b,v'.ownBlock=some b∧W.heap.size≤b):
  Bf mb (mcf H m R) 402 68 W'∧VMB B mb (addB S v') H { m with out:=L } { R with outv:=v' } (W'.setCell ⟨mb,395,none⟩ v')∧FrS S (addB S v') W (W'.setCell ⟨mb,395,none⟩ v'):=by
 have hm:=h.bf.grow hg (h.bf.row_ne h.out.1 (by decide));have hs:∀j,S j→addB S v' j:=fun j hj=>.inl hj;have he:=upd_tl H m { m with out:=L } R { R with outv:=v' } 3 v' rfl rfl rfl (by decide) rfl (fun i hi hn=>by match i with|0=>rfl|1=>rfl|2=>rfl|3=>exact absurd rfl hn|4=>rfl|5=>rfl|6=>rfl|7=>rfl|8=>rfl|9=>rfl);refine⟨hm,⟨.inl h.mS,fun j hj=>?_,(hm.set 395 v').congr he,?_,?_,?_,?_,?_,?_,?_⟩,(FrS.grown hg h.out.2 hb).set mb 395 v' (.inl (.inl h.mS))⟩
 ·have g:=(grown_set W' ⟨mb,395,none⟩ v').size
  rcases hj with q|q
  ·exact⟨(h.rng j q).1,Nat.lt_of_lt_of_le (h.rng j q).2 (Nat.le_trans hg.size g)⟩
  ·exact⟨(ho.lt j q).1,Nat.lt_of_lt_of_le (ho.lt j q).2 g⟩
 ·exact(h.own.grow hg (own_apart h.own.1 h.out.1 (by decide)) hs).set hm (by decide) _ _
 ·exact OwnS.set ⟨ho,fun g hg=>.inr hg⟩ hm (by decide) _ _
 ·exact(h.rds.grow hg (own_apart h.rds.1 h.out.1 (by decide)) hs).set hm (by decide) _ _
 ·exact(h.puts.grow hg (own_apart h.puts.1 h.out.1 (by decide)) hs).set hm (by decide) _ _
 ·exact(h.wrs.grow hg (own_apart h.wrs.1 h.out.1 (by decide)) hs).set hm (by decide) _ _
 ·exact h.apart
 ·exact h.apart2
theorem VMB.rowRds{B mb:Nat}{S:Nat→Prop}{H:Nat→Value}{m:Mc}{R:Rw}{W W':World}(h:VMB B mb S H m R W)(v':Value)(L:List (List UInt8))(hg:W.grownBy W' R.rv.ownBlock)(ho:W'.ownsRow B 9 1 v' L.length (L.map strV))(hb:v'.ownBlock=R.rv.ownBlock∨∃b,v'.ownBlock=some b∧W.heap.size≤b):
  Bf mb (mcf H m R) 402 68 W'∧VMB B mb (addB S v') H { m with rds:=L } { R with rv:=v' } (W'.setCell ⟨mb,396,none⟩ v')∧FrS S (addB S v') W (W'.setCell ⟨mb,396,none⟩ v'):=by
 have hm:=h.bf.grow hg (h.bf.row_ne h.rds.1 (by decide));have hs:∀j,S j→addB S v' j:=fun j hj=>.inl hj;have he:=upd_tl H m { m with rds:=L } R { R with rv:=v' } 4 v' rfl rfl rfl (by decide) rfl (fun i hi hn=>by match i with|0=>rfl|1=>rfl|2=>rfl|3=>rfl|4=>exact absurd rfl hn|5=>rfl|6=>rfl|7=>rfl|8=>rfl|9=>rfl);refine⟨hm,⟨.inl h.mS,fun j hj=>?_,(hm.set 396 v').congr he,?_,?_,?_,?_,?_,?_,?_⟩,(FrS.grown hg h.rds.2 hb).set mb 396 v' (.inl (.inl h.mS))⟩
 ·have g:=(grown_set W' ⟨mb,396,none⟩ v').size
  rcases hj with q|q
  ·exact⟨(h.rng j q).1,Nat.lt_of_lt_of_le (h.rng j q).2 (Nat.le_trans hg.size g)⟩
  ·exact⟨(ho.lt j q).1,Nat.lt_of_lt_of_le (ho.lt j q).2 g⟩
 ·exact(h.own.grow hg (own_apart h.own.1 h.rds.1 (by decide)) hs).set hm (by decide) _ _
 ·exact(h.out.grow hg (own_apart h.out.1 h.rds.1 (by decide)) hs).set hm (by decide) _ _
 ·exact OwnS.set ⟨ho,fun g hg=>.inr hg⟩ hm (by decide) _ _
 ·exact(h.puts.grow hg (apart_symm h.apart) hs).set hm (by decide) _ _
 ·exact(h.wrs.grow hg (own_apart h.wrs.1 h.rds.1 (by decide)) hs).set hm (by decide) _ _
 ·show v'.ownBlock=none∨v'.ownBlock≠R.pv.ownBlock
  rcases hb with q|⟨b,q,q2⟩
  ·rw[q];exact h.apart
  ·right
   intro e;have:=((h.puts).1.lt b (e ▸ q)).2;omega
 ·exact h.apart2
theorem VMB.rowPuts{B mb:Nat}{S:Nat→Prop}{H:Nat→Value}{m:Mc}{R:Rw}{W W':World}(h:VMB B mb S H m R W)(v':Value)(L:List (List UInt8))(hg:W.grownBy W' R.pv.ownBlock)(ho:W'.ownsRow B 9 1 v' L.length (L.map strV))(hb:v'.ownBlock=R.pv.ownBlock∨∃b,v'.ownBlock=some b∧W.heap.size≤b):
  Bf mb (mcf H m R) 402 68 W'∧VMB B mb (addB S v') H { m with puts:=L } { R with pv:=v' } (W'.setCell ⟨mb,397,none⟩ v')∧FrS S (addB S v') W (W'.setCell ⟨mb,397,none⟩ v'):=by
 have hm:=h.bf.grow hg (h.bf.row_ne h.puts.1 (by decide));have hs:∀j,S j→addB S v' j:=fun j hj=>.inl hj;have he:=upd_tl H m { m with puts:=L } R { R with pv:=v' } 5 v' rfl rfl rfl (by decide) rfl (fun i hi hn=>by match i with|0=>rfl|1=>rfl|2=>rfl|3=>rfl|4=>rfl|5=>exact absurd rfl hn|6=>rfl|7=>rfl|8=>rfl|9=>rfl);refine⟨hm,⟨.inl h.mS,fun j hj=>?_,(hm.set 397 v').congr he,?_,?_,?_,?_,?_,?_,?_⟩,(FrS.grown hg h.puts.2 hb).set mb 397 v' (.inl (.inl h.mS))⟩
 ·have g:=(grown_set W' ⟨mb,397,none⟩ v').size
  rcases hj with q|q
  ·exact⟨(h.rng j q).1,Nat.lt_of_lt_of_le (h.rng j q).2 (Nat.le_trans hg.size g)⟩
  ·exact⟨(ho.lt j q).1,Nat.lt_of_lt_of_le (ho.lt j q).2 g⟩
 ·exact(h.own.grow hg (own_apart h.own.1 h.puts.1 (by decide)) hs).set hm (by decide) _ _
 ·exact(h.out.grow hg (own_apart h.out.1 h.puts.1 (by decide)) hs).set hm (by decide) _ _
 ·exact(h.rds.grow hg h.apart hs).set hm (by decide) _ _
 ·exact OwnS.set ⟨ho,fun g hg=>.inr hg⟩ hm (by decide) _ _
 ·exact(h.wrs.grow hg (own_apart h.wrs.1 h.puts.1 (by decide)) hs).set hm (by decide) _ _
 ·show R.rv.ownBlock=none∨R.rv.ownBlock≠v'.ownBlock
  rcases hb with q|⟨b,q,q2⟩
  ·rw[q];exact h.apart
  ·right
   intro e;have:=((h.rds).1.lt b (e.trans q)).2;omega
 ·exact h.apart2
theorem VMB.rowWrs{B mb:Nat}{S:Nat→Prop}{H:Nat→Value}{m:Mc}{R:Rw}{W W':World}(h:VMB B mb S H m R W)(v':Value)(L:List Pr)(hg:W.grownBy W' R.wv.ownBlock)(ho:W'.ownsRow B 55 4 v' L.length (prLs L))(hb:v'.ownBlock=R.wv.ownBlock∨∃b,v'.ownBlock=some b∧W.heap.size≤b):
  Bf mb (mcf H m R) 402 68 W'∧VMB B mb (addB S v') H { m with wrs:=L } { R with wv:=v' } (W'.setCell ⟨mb,398,none⟩ v')∧FrS S (addB S v') W (W'.setCell ⟨mb,398,none⟩ v'):=by
 have hm:=h.bf.grow hg (h.bf.row_ne h.wrs.1 (by decide));have hs:∀j,S j→addB S v' j:=fun j hj=>.inl hj;have he:=upd_tl H m { m with wrs:=L } R { R with wv:=v' } 6 v' rfl rfl rfl (by decide) rfl (fun i hi hn=>by match i with|0=>rfl|1=>rfl|2=>rfl|3=>rfl|4=>rfl|5=>rfl|6=>exact absurd rfl hn|7=>rfl|8=>rfl|9=>rfl);refine⟨hm,⟨.inl h.mS,fun j hj=>?_,(hm.set 398 v').congr he,?_,?_,?_,?_,?_,?_,?_⟩,(FrS.grown hg h.wrs.2 hb).set mb 398 v' (.inl (.inl h.mS))⟩
 ·have g:=(grown_set W' ⟨mb,398,none⟩ v').size
  rcases hj with q|q
  ·exact⟨(h.rng j q).1,Nat.lt_of_lt_of_le (h.rng j q).2 (Nat.le_trans hg.size g)⟩
  ·exact⟨(ho.lt j q).1,Nat.lt_of_lt_of_le (ho.lt j q).2 g⟩
 ·exact(h.own.grow hg (apart_symm h.apart2) hs).set hm (by decide) _ _
 ·exact(h.out.grow hg (own_apart h.out.1 h.wrs.1 (by decide)) hs).set hm (by decide) _ _
 ·exact(h.rds.grow hg (own_apart h.rds.1 h.wrs.1 (by decide)) hs).set hm (by decide) _ _
 ·exact(h.puts.grow hg (own_apart h.puts.1 h.wrs.1 (by decide)) hs).set hm (by decide) _ _
 ·exact OwnS.set ⟨ho,fun g hg=>.inr hg⟩ hm (by decide) _ _
 ·exact h.apart
 ·show v'.ownBlock=none∨v'.ownBlock≠R.ov.ownBlock
  rcases hb with q|⟨b,q,q2⟩
  ·rw[q];exact h.apart2
  ·right
   intro e;have:=((h.own).1.lt b (e ▸ q)).2;omega
def storedB (v:Vl):Bool:=decide (v.k=1) || decide (v.k=2)
def keyP (k:List UInt8):Pr→Bool:=fun p=>p.key==k
def setP (L:List Pr) (k:List UInt8) (v:Vl):List Pr:=if L.findIdx (keyP k)<L.length then L.set (L.findIdx (keyP k)) ⟨k,v⟩ else L++[⟨k,v⟩]
def storeM (F:Ft) (k v:Vl) (m:Mc):Mc:=
 if k.k≠2 then endM 2 1009 [] m
 else if keyB k.s=false then endM 2 1004 [] m
 else if F.all=false∧F.wr.contains k.s=false then endM 3 0 k.s m
 else { m with puts:=withK m.puts k.s,own:=setP m.own k.s v }
def emitM (v:Vl) (m:Mc):Mc:=
 if storedB v=false then endM 2 1009 [] m else if m.out.length=16 then endM 2 1007 [] m else { m with out:=m.out++[v] }
def loopM (x:Ins) (m:Mc):Mc:=
 if (m.slo x.a.toNat).k≠1∨(m.slo x.b.toNat).k≠1 then endM 2 1009 [] m
 else if (m.slo x.a.toNat).n<(m.slo x.b.toNat).n∧x.n<(m.slo x.b.toNat).n-(m.slo x.a.toNat).n then endM 2 1005 [] m else m
def putM (F:Ft) (m:Mc):Mc:=
 if storedB (popV m)=false then endM 2 1009 [] (popM (popM m)) else storeM F (popV (popM m)) (popV m) (popM (popM m))
def isRd (op:Int):Bool:=decide (op=22) || (decide (op=23) || decide (op=24))
def onePr (L:List Pr) (k:List UInt8):List Pr:=if (getP L k).k=0 then [] else [⟨k,getP L k⟩]
def hidB (own:List Pr) (op:Int) (a:Vl):Bool:=isRd op && (decide (a.k=2) && decide (own.findIdx (keyP a.s)<own.length))
def opEv (M:List Pr) (F:Ft) (own:List Pr) (op:Int) (l:List Vl):Rs × List (List UInt8):=
 if isRd op=true then
  if hidB own op (l.headD v00)=true then evE true [] [] (onePr own (l.headD v00).s) op l
  else evE F.all F.rd F.wr (onePr M (l.headD v00).s) op l
 else evE F.all F.rd F.wr [] op l
def resM (R:Rs) (m:Mc):Mc:=match R with
 | .ok v=>pushM m v
 | .ab c=>endM 2 c [] m
 | .re k=>endM 3 0 k m
def opM (M:List Pr) (F:Ft) (op:Int) (l:List Vl) (m:Mc):Mc:=
 resM (opEv M F m.own op l).1 (if hidB m.own op (l.headD v00)=true then m else { m with rds:=(opEv M F m.own op l).2.foldl withK m.rds })
def topV (m:Mc) (n:Nat):List Vl:=(List.range n).map fun i=>m.stk (m.dep-n+i)
def dropM (m:Mc) (n:Nat):Mc:={ m with dep:=m.dep-n }
def falM (m:Mc):Mc:=if (popV m).k≠3 then endM 2 1009 [] (popM m) else popM m
def stepM (M:List Pr) (F:Ft) (x:Ins) (m:Mc):Mc:=
 if x.op=1 then pushM m (numV x.n) else if x.op=2 then pushM m (strVl x.s) else if x.op=3 then pushM m (m.slo x.a.toNat)
 else if x.op=4 then { popM m with slo:=setV m.slo x.a.toNat (popV m) }
 else if x.op=5 then opM M F x.a (topV m (arS x.a).toNat) (dropM m (arS x.a).toNat)
 else if x.op=6 then m else if x.op=7 then falM m
 else if x.op=8 then putM F m else if x.op=9 then storeM F (popV m) v00 (popM m) else if x.op=10 then emitM (popV m) (popM m)
 else if x.op=11 then endM 2 x.a [] m else if x.op=12 then loopM x m else if x.op=13 then endM 1 0 [] m else if x.op=14 then tickM m else m
def nextI (x:Ins) (pc:Int) (m:Mc):Int:=if x.op=6∨(x.op=7∧(popV m).k=3∧(popV m).n=0) then x.a else pc+1
def cntI (x:Ins) (n:Nat):Nat:=if x.op=14 then 0 else n+1
def runM (M:List Pr) (F:Ft) (l:List Ins) (stop:List Int→Bool):Nat→Mc→Int→Nat→List Int→Mc × List Int
 | 0,m,_,_,tr=>(m,tr)
 | f+1,m,pc,n,tr =>
  if m.done=true then (m,tr)
  else if n=1024 then (endM 2 1008 [] m,tr)
  else if stop tr=true then (m,tr)
  else runM M F l stop f (stepM M F (l.getD pc.toNat ins0) m) (nextI (l.getD pc.toNat ins0) pc m) (cntI (l.getD pc.toNat ins0) n) (tr++[pc])
def folB (l:List Ins) (p q:Int):Prop:=
 (l.getD p.toNat ins0).op≠13∧(l.getD p.toNat ins0).op≠11∧((l.getD p.toNat ins0).op=6→q=(l.getD p.toNat ins0).a)∧((l.getD p.toNat ins0).op=7→q=(l.getD p.toNat ins0).a∨q=p+1)∧((l.getD p.toNat ins0).op≠6→(l.getD p.toNat ins0).op≠7→q=p+1)
theorem endM_done(st c:Int)(k:List UInt8)(m:Mc):(endM st c k m).done=true:=by
 unfold endM;by_cases h:st=1
 ·rw[if_pos h]
 ·rw[if_neg h]
theorem next_ok{c:Cd}(hv:valC c=0){pc:Int}(h1:0≤pc∧pc<(c.l.length:Int))(M:List Pr)(F:Ft)(m:Mc)(hd:(stepM M F (c.l.getD pc.toNat ins0) m).done=false):
  folB c.l pc (nextI (c.l.getD pc.toNat ins0) pc m)∧0≤nextI (c.l.getD pc.toNat ins0) pc m∧nextI (c.l.getD pc.toNat ins0) pc m<(c.l.length:Int):=by
 obtain⟨-,-,-,hj,hl⟩:=step_ok hv (k:=pc.toNat) (by omega);unfold folB;generalize c.l.getD pc.toNat ins0=x at hd hj hl ⊢
 have h13:x.op≠13:=by
  intro e;unfold stepM at hd;rw[e]at hd;simp[endM_done]at hd
 have h11:x.op≠11:=by
  intro e;unfold stepM at hd;rw[e]at hd;simp[endM_done]at hd
 unfold nextI;by_cases h6:x.op=6
 ·rw[if_pos (Or.inl h6)]
  have:=hj (by unfold jmpI;rw[h6];rfl);exact⟨⟨h13,h11,fun _=>rfl,fun e=>absurd (h6.symm.trans e) (by decide),fun e=>absurd h6 e⟩,this.1,this.2.1⟩
 ·have hlf:=hl (by unfold leaI;simp[h6,h11,h13])
  by_cases h7:x.op=7∧(popV m).k=3∧(popV m).n=0
  ·rw[if_pos (Or.inr h7)]
   have:=hj (by unfold jmpI;rw[h7.1];rfl);exact⟨⟨h13,h11,fun _=>rfl,fun e=>.inl rfl,fun _ e=>absurd h7.1 e⟩,this.1,this.2.1⟩
  ·rw[if_neg (by rintro (e|e);exact h6 e;exact h7 e)]
   exact⟨⟨h13,h11,fun e=>absurd e h6,fun _=>.inr rfl,fun _ _=>rfl⟩,by omega,by omega⟩
theorem run_pre(M:List Pr)(F:Ft)(l:List Ins)(stop:List Int→Bool):∀(f:Nat) (m:Mc) (pc:Int) (n:Nat) (tr:List Int),∃r,(runM M F l stop f m pc n tr).2=tr++r
 | 0,m,pc,n,tr=>⟨[],(List.append_nil tr).symm⟩
 | f+1,m,pc,n,tr=>by
  unfold runM;split
  ·exact⟨[],(List.append_nil tr).symm⟩
  split
  ·exact⟨[],(List.append_nil tr).symm⟩
  split
  ·exact⟨[],(List.append_nil tr).symm⟩
  obtain⟨r,hr⟩:=run_pre M F l stop f (stepM M F (l.getD pc.toNat ins0) m) (nextI (l.getD pc.toNat ins0) pc m) (cntI (l.getD pc.toNat ins0) n) (tr++[pc]);exact⟨pc::r,by rw[hr,List.append_assoc];rfl⟩
def limB (a:Int) (tr:List Int):Bool:=decide (a≤(tr.length:Int))
def GdV (v:Vl):Prop:=fits v.n=true∧(v=v00∨varB v=true)
theorem gd_num{n:Int}(h:fits n=true):GdV (numV n):=⟨h,.inr rfl⟩
theorem gd_tru(b:Bool):GdV (truV b):=by cases b<;>exact⟨rfl,.inr rfl⟩
theorem gd_v00:GdV v00:=⟨rfl,.inl rfl⟩
theorem gd_str{s:List UInt8}(h:plB s=true):GdV (strVl s):=⟨rfl,.inr (by unfold varB strVl vaB;simpa using h)⟩
theorem gd_plain{v:Vl}(h:GdV v)(hk:v.k=2):plB v.s=true:=by
 rcases h.2 with rfl|h
 ·simp[v00]at hk
 ·unfold varB vaB at h;simp[hk]at h;exact h.2
theorem gd_ok{v:Vl}(h:GdV v):OkV v:=by
 have hf:=h.1;unfold fits at hf;simp only[Bool.and_eq_true,decide_eq_true_eq]at hf;refine⟨hf.1,hf.2,?_⟩;rcases h.2 with rfl|h2
 ·simp[v00]
 ·unfold varB vaB at h2
  by_cases h3:v.k=3
  ·rw[if_pos h3]at h2;simp at h2;rw[h2.2];simp
  rw[if_neg h3]at h2;by_cases h0:v.k=0
  ·simp[h0]at h2
  by_cases h1:v.k=1
  ·simp[h1]at h2;rw[h2];simp
  by_cases h2k:v.k=2
  ·have:=gd_plain h h2k
   unfold plB at this;simp only[Bool.and_eq_true,decide_eq_true_eq]at this;omega
  ·simp[h0,h1,h2k]at h2
theorem gd_key{v:Vl}(hf:fits v.n=true)(hv:vaB v=true):GdV v:=by
 refine⟨hf,?_⟩;by_cases h0:v.k=0
 ·left
  unfold vaB at hv;rw[if_pos h0]at hv;simp only[Bool.and_eq_true,decide_eq_true_eq,beq_iff_eq]at hv;cases v;simp only at h0 hv;rw[h0,hv.1,hv.2];rfl
 ·right
  unfold varB;by_cases h3:v.k=3
  ·unfold vaB at hv
   simp[h3]at hv
  ·rw[if_neg h3,hv];simp[h0]
theorem ari_fits(op a b:Int)(_ha:fits a=true)(hb:fits b=true):(ariS op a b).2=0→fits (ariS op a b).1=true:=by
 have hmod:(modS a b).2=0→fits (modS a b).1=true:=by
  unfold modS;split
  ·intro h;cases h
  ·rename_i hb0
   intro _;unfold fits at hb ⊢;simp only[Bool.and_eq_true,decide_eq_true_eq]at hb ⊢;rcases Int.lt_or_gt_of_ne hb0 with h|h
   ·have e:a.fmod b = -((-a).fmod (-b)):=by rw[Int.neg_fmod_neg,Int.neg_neg]
    have h1:=Int.fmod_nonneg_of_pos (-a) (b:=-b) (by omega);have h2:=Int.fmod_lt_of_pos (-a) (b:=-b) (by omega);omega
   ·have h1:=Int.fmod_nonneg_of_pos a h
    have h2:=Int.fmod_lt_of_pos a h;omega
 unfold ariS;split
 ·unfold addS;split
  ·intro _;assumption
  ·intro h;cases h
 split
 ·unfold subS;split
  ·intro _;assumption
  ·intro h;cases h
 split
 ·unfold mulS;split
  ·intro _;assumption
  ·intro h;cases h
 split
 ·unfold divS;split
  ·intro h;cases h
  ·split
   ·intro _;assumption
   ·intro h;cases h
 ·exact hmod
theorem exS_good{x:Int × Int}(h:x.2=0→fits x.1=true){v:Vl}(e:exS x=.ok v):GdV v:=by
 unfold exS at e;split at e
 ·rename_i h0;cases e;exact gd_num (h h0)
 ·split at e<;>cases e
theorem txS_good{s:List UInt8}(h:s.length≤64→plB s=true){v:Vl}(e:txS s=.ok v):GdV v:=by
 unfold txS at e;split at e
 ·cases e
 ·cases e;exact gd_str (h (by omega))
theorem itoa_byte2{n:Int}:∀c∈Lib.itoa n,isDig c=true∨c=45:=by
 intro c hc;unfold Lib.itoa at hc;have hall:=fun (m:Nat) (c:UInt8) (h:c∈Lib.decDigits m)=>List.all_eq_true.1 (decDigits_all m) c h;split at hc
 ·rcases List.mem_cons.1 hc with h|h
  ·exact .inr h
  ·exact .inl (hall _ _ h)
 ·exact .inl (hall _ _ hc)
theorem itoa_okc(n:Int):(Lib.itoa n).all okc=true:=by
 rw[List.all_eq_true];intro c hc;rcases itoa_byte2 c hc with h|rfl
 ·unfold isDig at h;unfold okc
  simp only[Bool.and_eq_true,decide_eq_true_eq]at h ⊢;omega
 ·rfl
theorem binS_good{op:Int}{a b v:Vl}(ha:GdV a)(hb:GdV b)(e:binS op a b=.ok v):GdV v:=by
 unfold binS at e;split at e
 ·split at e
  ·exact exS_good (ari_fits op a.n b.n ha.1 hb.1) e
  ·cases e
 split at e
 ·split at e
  ·cases e;exact gd_tru _
  ·cases e
 split at e
 ·split at e
  ·cases e;exact gd_tru _
  ·cases e
 split at e
 ·split at e
  ·rename_i hk
   refine txS_good (fun hl=>?_) e;have h1:=gd_plain ha hk.1;have h2:=gd_plain hb hk.2;unfold plB at h1 h2 ⊢;simp only[Bool.and_eq_true,decide_eq_true_eq]at h1 h2 ⊢;exact⟨by rw[List.all_append,h1.1,h2.1];rfl,hl⟩
  ·cases e
 ·unfold cmpS at e
  split at e
  ·cases e;exact gd_tru _
  ·cases e
theorem negS_fits(a:Int):(negS a).2=0→fits (negS a).1=true:=by
 unfold negS subS;split
 ·intro _;assumption
 ·intro h;cases h
theorem unS_good{op:Int}{a v:Vl}(e:unS op a=.ok v)(ha:GdV a):GdV v:=by
 unfold unS at e;split at e
 ·split at e
  ·exact exS_good (negS_fits a.n) e
  ·cases e
 split at e
 ·split at e
  ·cases e;exact gd_tru _
  ·cases e
 split at e
 ·split at e
  ·refine txS_good (fun hl=>?_) e
   unfold plB;rw[itoa_okc];simpa using hl
  ·cases e
 ·split at e
  ·cases e
   refine gd_num ?_;have:=(gd_ok ha).2.2;unfold fits;simp;omega
  ·cases e
theorem gotS_good{op:Int}{u v:Vl}(hu:GdV u)(e:gotS op u=.ok v):GdV v:=by
 unfold gotS at e;split at e
 ·cases e;exact gd_tru _
 split at e
 ·cases e
  split
  ·exact gd_num rfl
  ·exact gd_str rfl
 by_cases h22:u.k=(if op=22 then 1 else 2)
 ·rw[if_pos h22]at e;cases e;exact hu
 ·rw[if_neg h22]at e;cases e
theorem getP_good{M:List Pr}(h:∀p∈M,GdV p.v)(k:List UInt8):GdV (getP M k):=by
 induction M with
 | nil=>exact gd_v00
 | cons p r ih =>
  rw[getP_cons];split
  ·exact h p (List.mem_cons_self ..)
  ·exact ih fun q hq=>h q (List.mem_cons_of_mem _ hq)
theorem st_good{M:List Pr}(hM:∀p∈M,fits p.v.n=true)(hs:stB M=true):∀p∈M,GdV p.v:=by
 intro p hp;obtain⟨i,hi,rfl⟩:=List.mem_iff_getElem.1 hp;unfold stB srtB at hs;simp only[Bool.and_eq_true]at hs;have h1:=List.all_eq_true.1 hs.1 i (List.mem_range.2 hi);unfold stpP at h1;simp only[Bool.and_eq_true]at h1;rw[getD_at hi]at h1;exact gd_key (hM _ hp) h1.2.1
theorem evS_good{al:Bool}{rd:List (List UInt8)}{M:List Pr}{op:Int}{l:List Vl}{v:Vl}(hM:∀p∈M,GdV p.v)(hl:∀v∈l,GdV v)(e:(evS al rd M op l).1=.ok v):GdV v:=by
 unfold evS at e;split at e
 ·rename_i a
  have ha:=hl a (by simp);unfold uneS at e;split at e
  ·exact unS_good e ha
  split at e
  ·simp only at e
   unfold fetS at e;split at e
   ·cases e
   split at e
   ·cases e
   ·exact gotS_good (getP_good hM _) e
  ·cases e
 ·rename_i a b
  exact binS_good (hl a (by simp)) (hl b (by simp)) e
 ·cases e
theorem evE_good{al:Bool}{rd wri:List (List UInt8)}{M:List Pr}{op:Int}{l:List Vl}{v:Vl}(hM:∀p∈M,fits p.v.n=true)(hl:∀v∈l,GdV v)(e:(evE al rd wri M op l).1=.ok v):GdV v:=by
 unfold evE at e;split at e
 ·rename_i h
  simp only[Bool.and_eq_true]at h;exact evS_good (st_good hM h.1) hl e
 ·cases e
theorem onePr_fits{L:List Pr}(hL:∀p∈L,fits p.v.n=true)(k:List UInt8):∀p∈onePr L k,fits p.v.n=true:=by
 have hg:fits (getP L k).n=true:=by
  induction L with
  | nil=>rfl
  | cons p r ih =>
   rw[getP_cons];split
   ·exact hL p (List.mem_cons_self ..)
   ·exact ih fun q hq=>hL q (List.mem_cons_of_mem _ hq)
 intro p hp;unfold onePr at hp;split at hp
 ·cases hp
 ·simp at hp;rw[hp];exact hg
theorem opEv_good{M:List Pr}{F:Ft}{own:List Pr}{op:Int}{l:List Vl}{v:Vl}(hM:∀p∈M,fits p.v.n=true)(ho:∀p∈own,fits p.v.n=true)(hl:∀v∈l,GdV v)(e:(opEv M F own op l).1=.ok v):GdV v:=by
 unfold opEv at e;split at e
 ·split at e
  ·exact evE_good (onePr_fits ho _) hl e
  ·exact evE_good (onePr_fits hM _) hl e
 ·exact evE_good (fun p hp=>by cases hp) hl e
theorem evE_reads(al:Bool)(rd wri:List (List UInt8))(M:List Pr)(op:Int)(l:List Vl):(evE al rd wri M op l).2=[]∨∃k,(evE al rd wri M op l).2=[k]:=by
 unfold evE;split
 ·unfold evS
  split
  ·unfold uneS
   split
   ·exact .inl rfl
   split
   ·simp only
    unfold rdsR;split
    ·exact .inr ⟨_,rfl⟩
    ·exact .inl rfl
   ·exact .inl rfl
  ·exact .inl rfl
  ·exact .inl rfl
 ·exact .inl rfl
theorem opEv_reads(M:List Pr)(F:Ft)(own:List Pr)(op:Int)(l:List Vl):(opEv M F own op l).2=[]∨∃k,(opEv M F own op l).2=[k]:=by
 unfold opEv;split
 ·split<;>exact evE_reads ..
 ·exact evE_reads ..
theorem withK_len(L:List (List UInt8))(k:List UInt8):(withK L k).length≤L.length+1:=by
 unfold withK;split
 ·omega
 ·rw[putK_len _ _ _ (pos_le L k)]
  exact Nat.le_refl _
theorem sort_with{L:List (List UInt8)}(k:List UInt8)(hs:SortK L):SortK (withK L k):=by
 unfold withK;split
 ·exact hs
 rename_i hf
 have hlo:∀a∈L.take (posK L k),Op.bytesLess a k=true:=by
  intro a ha;obtain⟨i,hi,rfl⟩:=List.mem_iff_getElem.1 ha;rw[List.length_take]at hi;have:=pos_lo (L:=L) (k:=k) (t:=i) (by omega);rw[getD_at (by omega)]at this;rw[List.getElem_take];exact this
 have hhi:∀a∈L.drop (posK L k),Op.bytesLess k a=true:=by
  intro a ha;obtain⟨i,hi,rfl⟩:=List.mem_iff_getElem.1 ha;rw[List.length_drop]at hi;have h1:=pos_hi (L:=L) (k:=k) hs (t:=posK L k+i) (by omega);rw[getD_at (by omega)]at h1;rw[List.getElem_drop]
  cases hb:Op.bytesLess k L[posK L k+i] with
  | true=>rfl
  | false =>
   have he:=bl_tri h1 hb
   exfalso
   cases i with
   | zero =>
    apply hf;unfold fndK;rw[decide_eq_true_eq];exact⟨by omega,by rw[getD_at (by omega)];exact he⟩
   | succ i =>
    have h2:=pos_hi (L:=L) (k:=k) hs (t:=posK L k) (Nat.le_refl _);rw[getD_at (by omega)]at h2;have h3:=(List.pairwise_iff_getElem.1 hs) (posK L k) (posK L k+(i+1)) (by omega) (by omega) (by omega);rw[he,h2]at h3;cases h3
 unfold putK SortK;rw[List.pairwise_append];refine⟨List.Pairwise.sublist (List.take_sublist ..) hs,?_,?_⟩
 ·rw[List.pairwise_cons]
  exact⟨hhi,List.Pairwise.sublist (List.drop_sublist ..) hs⟩
 ·intro a ha b hb
  rcases List.mem_cons.1 hb with rfl|hb
  ·exact hlo a ha
  ·exact bl_trans (hlo a ha) (hhi b hb)
structure Gd (m:Mc) (N:Nat):Prop where
 stk:∀i,i<m.dep→GdV (m.stk i)
 slo:∀i,GdV (m.slo i)
 own:∀p∈m.own,GdV p.v∧keyB p.key=true
 rds:SortK m.rds
 puts:SortK m.puts
 out:m.out.length≤16
 wrs:m.wrs=[]
 stp:0≤m.steps∧m.steps≤16384
 nr:m.rds.length≤N
 np:m.puts.length≤N
 no:m.own.length≤N
theorem Gd.more{m:Mc}{N N':Nat}(h:Gd m N)(hn:N≤N'):Gd m N':=
 ⟨h.stk,h.slo,h.own,h.rds,h.puts,h.out,h.wrs,h.stp,Nat.le_trans h.nr hn,Nat.le_trans h.np hn,Nat.le_trans h.no hn⟩
theorem Gd.push{m:Mc}{N:Nat}(h:Gd m N){v:Vl}(hv:GdV v):Gd (pushM m v) N:=
 ⟨fun i hi=>by
   show GdV (setV m.stk m.dep v i);unfold setV;split
   ·exact hv
   ·rename_i hne
    have hi2:i<m.dep+1:=hi
    exact h.stk i (by omega),h.slo,h.own,h.rds,h.puts,h.out,h.wrs,h.stp,h.nr,h.np,h.no⟩
theorem Gd.drop{m:Mc}{N:Nat}(h:Gd m N)(n:Nat):Gd (dropM m n) N:=
 ⟨fun i hi=>h.stk i (by have hi2:i<m.dep-n:=hi;omega),h.slo,h.own,h.rds,h.puts,h.out,h.wrs,h.stp,h.nr,h.np,h.no⟩
theorem Gd.pop{m:Mc}{N:Nat}(h:Gd m N):Gd (popM m) N:=h.drop 1
theorem Gd.popd{m:Mc}{N:Nat}(h:Gd m N)(hd:1≤m.dep):GdV (popV m):=h.stk _ (by omega)
theorem Gd.top{m:Mc}{N:Nat}(h:Gd m N){n:Nat}(hd:n≤m.dep):∀v∈topV m n,GdV v:=by
 intro v hv;unfold topV at hv;rw[List.mem_map]at hv;obtain⟨i,hi,rfl⟩:=hv;rw[List.mem_range]at hi;exact h.stk _ (by omega)
theorem mem_setP{L:List Pr}{k:List UInt8}{v:Vl}{p:Pr}(h:p∈setP L k v):p∈L∨p=⟨k,v⟩:=by
 unfold setP at h;split at h
 ·exact List.mem_or_eq_of_mem_set h
 ·rcases List.mem_append.1 h with h|h
  ·exact .inl h
  ·exact .inr (by simpa using h)
theorem setP_len(L:List Pr)(k:List UInt8)(v:Vl):(setP L k v).length≤L.length+1:=by
 unfold setP;split
 ·rw[List.length_set];omega
 ·rw[List.length_append];exact Nat.le_refl _
theorem end_not{st c:Int}{k:List UInt8}{m:Mc}{P:Prop}(h:(endM st c k m).done=false):P:=by rw[endM_done]at h;cases h
theorem Gd.store{m:Mc}{N:Nat}(h:Gd m N){F:Ft}{k v:Vl}(hv:GdV v)(hd:(storeM F k v m).done=false):Gd (storeM F k v m) (N+1)∧(storeM F k v m).dep=m.dep:=by
 unfold storeM at hd ⊢;by_cases h1:k.k≠2
 ·rw[if_pos h1]at hd;exact end_not hd
 rw[if_neg h1]at hd ⊢;by_cases h2:keyB k.s=false
 ·rw[if_pos h2]at hd;exact end_not hd
 rw[if_neg h2]at hd ⊢;by_cases h3:F.all=false∧F.wr.contains k.s=false
 ·rw[if_pos h3]at hd;exact end_not hd
 rw[if_neg h3];refine⟨⟨h.stk,h.slo,fun p hp=>?_,h.rds,sort_with _ h.puts,h.out,h.wrs,h.stp,Nat.le_succ_of_le h.nr,Nat.le_trans (withK_len _ _) (Nat.succ_le_succ h.np),Nat.le_trans (setP_len _ _ _) (Nat.succ_le_succ h.no)⟩,rfl⟩;rcases mem_setP hp with q|rfl
 ·exact h.own p q
 ·exact⟨hv,by simpa using h2⟩
theorem Gd.emit{m:Mc}{N:Nat}(h:Gd m N){v:Vl}(hd:(emitM v m).done=false):Gd (emitM v m) N∧(emitM v m).dep=m.dep:=by
 unfold emitM at hd ⊢;split at hd
 ·exact end_not hd
 rename_i h1;rw[if_neg h1];split at hd
 ·exact end_not hd
 rename_i h2;rw[if_neg h2];have:=h.out;exact⟨⟨h.stk,h.slo,h.own,h.rds,h.puts,by show (m.out++[v]).length≤16;rw[List.length_append,List.length_singleton];omega,h.wrs,h.stp,h.nr,h.np,h.no⟩,rfl⟩
theorem Gd.res{m:Mc}{N:Nat}(h:Gd m N){R:Rs}(hR:∀v,R=.ok v→GdV v)(hd:(resM R m).done=false):Gd (resM R m) N∧(resM R m).dep=m.dep+1:=by
 cases R with
 | ok v=>exact⟨h.push (hR v rfl),rfl⟩
 | ab c=>exact end_not hd
 | re k=>exact end_not hd
theorem Gd.op{m:Mc}{N:Nat}(h:Gd m N){M:List Pr}{F:Ft}(hM:∀p∈M,fits p.v.n=true){op:Int}{l:List Vl}(hl:∀v∈l,GdV v)(hd:(opM M F op l m).done=false):Gd (opM M F op l m) (N+1)∧(opM M F op l m).dep=m.dep+1:=by
 unfold opM at hd ⊢;have hg:=fun v e=>opEv_good (F:=F) (op:=op) (v:=v) hM (fun p hp=>(h.own p hp).1.1) hl e;have hr:=opEv_reads M F m.own op l;generalize opEv M F m.own op l=q at hd hg hr ⊢;by_cases hh:hidB m.own op (l.headD v00)=true
 ·rw[if_pos hh]at hd ⊢
  exact(h.more (Nat.le_succ N)).res hg hd
 ·rw[if_neg hh]at hd ⊢
  have h2:Gd { m with rds:=q.2.foldl withK m.rds } (N+1):=by
   refine⟨h.stk,h.slo,h.own,?_,h.puts,h.out,h.wrs,h.stp,?_,Nat.le_succ_of_le h.np,Nat.le_succ_of_le h.no⟩
   ·rcases hr with e|⟨k,e⟩
    ·show SortK (q.2.foldl withK m.rds);rw[e];exact h.rds
    ·show SortK (q.2.foldl withK m.rds);rw[e];exact sort_with k h.rds
   ·rcases hr with e|⟨k,e⟩
    ·show (q.2.foldl withK m.rds).length≤N+1;rw[e];exact Nat.le_succ_of_le h.nr
    ·show (q.2.foldl withK m.rds).length≤N+1;rw[e];exact Nat.le_trans (withK_len _ _) (Nat.succ_le_succ h.nr)
  exact h2.res hg hd
theorem Gd.tick{m:Mc}{N:Nat}(h:Gd m N)(hd:(tickM m).done=false):Gd (tickM m) N∧(tickM m).dep=m.dep:=by
 unfold tickM at hd ⊢;split at hd
 ·exact end_not hd
 rename_i h1;rw[if_neg h1];have:=h.stp;exact⟨⟨h.stk,h.slo,h.own,h.rds,h.puts,h.out,h.wrs,(by show 0≤m.steps+1∧m.steps+1≤16384;omega),h.nr,h.np,h.no⟩,rfl⟩
theorem Gd.loop{m:Mc}{N:Nat}(_h:Gd m N){x:Ins}(hd:(loopM x m).done=false):loopM x m=m:=by
 unfold loopM at hd ⊢;split at hd
 ·exact end_not hd
 rename_i h1;rw[if_neg h1];split at hd
 ·exact end_not hd
 rename_i h2;rw[if_neg h2]
theorem put_step{F:Ft}{m:Mc}(hd:(putM F m).done=false):putM F m=storeM F (popV (popM m)) (popV m) (popM (popM m)):=by
 unfold putM at hd ⊢;split at hd
 ·exact end_not hd
 rename_i h1;rw[if_neg h1]
theorem fal_step{m:Mc}(hd:(falM m).done=false):falM m=popM m∧(popV m).k=3:=by
 unfold falM at hd ⊢;by_cases h:(popV m).k≠3
 ·rw[if_pos h]at hd;exact end_not hd
 ·rw[if_neg h];exact⟨rfl,by simpa using h⟩
theorem Gd.step{c:Cd}(hv:valC c=0)(hcn:∀x∈c.l,fits x.n=true){M:List Pr}{F:Ft}(hM:∀p∈M,fits p.v.n=true){m:Mc}{N:Nat}(h:Gd m N){k:Nat}(hk:k<c.l.length)(hdep:(m.dep:Int)=(depth0 c).getD k 0)(hd:(stepM M F (c.l.getD k ins0) m).done=false):
  Gd (stepM M F (c.l.getD k ins0) m) (N+1)∧((stepM M F (c.l.getD k ins0) m).dep:Int)=behI ((depth0 c).getD k 0) (c.l.getD k ins0):=by
 obtain⟨ht,h64,-,-,-⟩:=step_ok hv hk;have hi:=all_get (valC_parts hv).2.2.2.2.1 hk ins0
 have hn:fits (c.l.getD k ins0).n=true:=by rw[getD_at hk];exact hcn _ (List.getElem_mem hk)
 generalize c.l.getD k ins0=x at hd ht h64 hi hn ⊢;rw[←hdep]at ht h64 ⊢
 have hop:1≤x.op∧x.op≤14:=by unfold insS at hi;simp only[Bool.and_eq_true,decide_eq_true_eq]at hi;exact hi.1
 have hM1:=h.more (Nat.le_succ N);unfold behI putI takeI;unfold takeI at ht;unfold stepM at hd ⊢;by_cases e1:x.op=1
 ·rw[if_pos e1];exact⟨hM1.push (gd_num hn),by show ((m.dep+1:Nat):Int)=_;simp[e1]⟩
 rw[if_neg e1]at hd ⊢;by_cases e2:x.op=2
 ·rw[if_pos e2]
  refine⟨hM1.push (gd_str ?_),by show ((m.dep+1:Nat):Int)=_;simp[e2]⟩;unfold insS at hi;simp only[Bool.and_eq_true,decide_eq_true_eq,if_pos e2]at hi;exact hi.2.2
 rw[if_neg e2]at hd ⊢;by_cases e3:x.op=3
 ·rw[if_pos e3];exact⟨hM1.push (h.slo _),by show ((m.dep+1:Nat):Int)=_;simp[e3]⟩
 rw[if_neg e3]at hd ⊢;by_cases e4:x.op=4
 ·rw[if_pos e4]
  have h1:1≤m.dep:=by simp[e4]at ht;omega
  have hp:=hM1.pop;refine⟨⟨hp.stk,fun i=>?_,hp.own,hp.rds,hp.puts,hp.out,hp.wrs,hp.stp,hp.nr,hp.np,hp.no⟩,by show ((m.dep-1:Nat):Int)=_;simp[e4];omega⟩;show GdV (setV m.slo x.a.toNat (popV m) i);unfold setV;split
  ·exact h.popd h1
  ·exact h.slo i
 rw[if_neg e4]at hd ⊢;by_cases e5:x.op=5
 ·rw[if_pos e5]at hd ⊢
  have hta:(arS x.a).toNat≤m.dep:=by simp[e5]at ht;omega
  have har:1≤arS x.a:=by unfold insS at hi;simp[e5]at hi;exact hi.2
  obtain⟨g1,g2⟩:=(h.drop (arS x.a).toNat).op hM (h.top hta) hd;refine⟨g1,?_⟩;rw[g2];show ((m.dep-(arS x.a).toNat+1:Nat):Int)=_;simp[e5];omega
 rw[if_neg e5]at hd ⊢;by_cases e6:x.op=6
 ·rw[if_pos e6];exact⟨hM1,by simp[e6]⟩
 rw[if_neg e6]at hd ⊢;by_cases e7:x.op=7
 ·rw[if_pos e7]at hd ⊢
  have h1:1≤m.dep:=by simp[e7]at ht;omega
  rw[(fal_step hd).1];exact⟨hM1.pop,by show ((m.dep-1:Nat):Int)=_;simp[e7];omega⟩
 rw[if_neg e7]at hd ⊢;by_cases e8:x.op=8
 ·rw[if_pos e8]at hd ⊢
  have h1:2≤m.dep:=by simp[e8]at ht;omega
  have hq:=put_step hd;rw[hq]at hd ⊢;obtain⟨g1,g2⟩:=(h.pop.pop).store (h.popd (by omega)) hd;exact⟨g1,by rw[g2];show ((m.dep-1-1:Nat):Int)=_;simp[e8];omega⟩
 rw[if_neg e8]at hd ⊢;by_cases e9:x.op=9
 ·rw[if_pos e9]at hd ⊢
  have h1:1≤m.dep:=by simp[e9]at ht;omega
  obtain⟨g1,g2⟩:=(h.pop).store gd_v00 hd;exact⟨g1,by rw[g2];show ((m.dep-1:Nat):Int)=_;simp[e9];omega⟩
 rw[if_neg e9]at hd ⊢;by_cases e10:x.op=10
 ·rw[if_pos e10]at hd ⊢
  have h1:1≤m.dep:=by simp[e10]at ht;omega
  obtain⟨g1,g2⟩:=(hM1.pop).emit hd;exact⟨g1,by rw[g2];show ((m.dep-1:Nat):Int)=_;simp[e10];omega⟩
 rw[if_neg e10]at hd ⊢;by_cases e11:x.op=11
 ·rw[if_pos e11]at hd;exact end_not hd
 rw[if_neg e11]at hd ⊢;by_cases e12:x.op=12
 ·rw[if_pos e12]at hd ⊢
  rw[h.loop hd];exact⟨hM1,by simp[e12]⟩
 rw[if_neg e12]at hd ⊢;by_cases e13:x.op=13
 ·rw[if_pos e13]at hd;exact end_not hd
 rw[if_neg e13]at hd ⊢
 have e14:x.op=14:=by omega
 rw[if_pos e14]at hd ⊢;obtain⟨g1,g2⟩:=hM1.tick hd;exact⟨g1,by rw[g2];simp[e14]⟩
theorem next_dep{c:Cd}(hv:valC c=0){pc:Int}(h1:0≤pc∧pc<(c.l.length:Int)){M:List Pr}{F:Ft}{m:Mc}(hd:(stepM M F (c.l.getD pc.toNat ins0) m).done=false):
  (depth0 c).getD (nextI (c.l.getD pc.toNat ins0) pc m).toNat 0=behI ((depth0 c).getD pc.toNat 0) (c.l.getD pc.toNat ins0):=by
 obtain⟨-,-,hz,hj,hl⟩:=step_ok hv (k:=pc.toNat) (by omega);generalize c.l.getD pc.toNat ins0=x at hd hz hj hl ⊢
 have h13:x.op≠13:=by
  intro e;unfold stepM at hd;rw[e]at hd;simp[endM_done]at hd
 have h11:x.op≠11:=by
  intro e;unfold stepM at hd;rw[e]at hd;simp[endM_done]at hd
 unfold nextI;by_cases h6:x.op=6
 ·rw[if_pos (Or.inl h6),(hj (by unfold jmpI;rw[h6];rfl)).2.2,hz (.inl (by unfold leaI;rw[h6];rfl))]
 ·have hlf:=hl (by unfold leaI;simp[h6,h11,h13])
  by_cases h7:x.op=7∧(popV m).k=3∧(popV m).n=0
  ·rw[if_pos (Or.inr h7),(hj (by unfold jmpI;rw[h7.1];rfl)).2.2,hz (.inr h7.1)]
  ·rw[if_neg (by rintro (e|e);exact h6 e;exact h7 e),show (pc+1).toNat=pc.toNat+1 by omega]
   exact hlf.2
structure InvM (c:Cd) (pc:Int) (m:Mc) (N:Nat):Prop where
 pc0:0≤pc∧pc<(c.l.length:Int)
 dep:(m.dep:Int)=(depth0 c).getD pc.toNat 0
 gd:Gd m N
theorem InvM.step{c:Cd}(hv:valC c=0)(hcn:∀x∈c.l,fits x.n=true){M:List Pr}{F:Ft}(hM:∀p∈M,fits p.v.n=true){pc:Int}{m:Mc}{N:Nat}(h:InvM c pc m N)(hd:(stepM M F (c.l.getD pc.toNat ins0) m).done=false):
  InvM c (nextI (c.l.getD pc.toNat ins0) pc m) (stepM M F (c.l.getD pc.toNat ins0) m) (N+1):=by
 obtain⟨g1,g2⟩:=h.gd.step hv hcn hM (k:=pc.toNat) (by have:=h.pc0;omega) h.dep hd;exact⟨(next_ok hv h.pc0 M F m hd).2,by rw[g2,next_dep hv h.pc0 hd],g1⟩
theorem st_each{M:List Pr}(h:stB M=true):∀p∈M,keyB p.key=true∧vaB p.v=true∧p.v.k≠0:=by
 intro p hp;obtain⟨i,hi,rfl⟩:=List.mem_iff_getElem.1 hp;unfold stB srtB at h;simp only[Bool.and_eq_true,Bool.not_eq_true']at h;have h1:=List.all_eq_true.1 h.1 i (List.mem_range.2 hi);unfold stpP at h1;simp only[Bool.and_eq_true]at h1;rw[getD_at hi]at h1;refine⟨h1.1,h1.2.1,fun e=>?_⟩;have h2:=List.any_eq_false.1 h.2 _ (List.getElem_mem hi);unfold absB at h2;exact h2 (decide_eq_true e)
theorem srt_make{M:List Pr}(h1:∀p∈M,keyB p.key=true∧vaB p.v=true)(h2:SortK (M.map Pr.key)):srtB M=true:=by
 unfold SortK at h2;rw[List.pairwise_map,List.pairwise_iff_getElem]at h2;unfold srtB;rw[List.all_eq_true];intro i hi;have hi:=List.mem_range.1 hi;unfold stpP;have h3:=h1 _ (List.getElem_mem hi);rw[getD_at hi,h3.1,h3.2];by_cases h0:i=0
 ·rw[decide_eq_true h0];rfl
 ·have hj:i-1<M.length:=by omega
  rw[getD_at hj,h2 (i-1) i hj hi (by omega)];simp
theorem st_make{M:List Pr}(h1:∀p∈M,keyB p.key=true∧vaB p.v=true∧p.v.k≠0)(h2:SortK (M.map Pr.key)):stB M=true:=by
 unfold stB;rw[srt_make (fun p hp=>⟨(h1 p hp).1,(h1 p hp).2.1⟩) h2,Bool.true_and,Bool.not_eq_true',List.any_eq_false];intro p hp;unfold absB;simpa using (h1 p hp).2.2
theorem sort_nodup{L:List (List UInt8)}(h:SortK L):L.Nodup:=by
 unfold SortK at h
 exact h.imp fun {a b} hab e=>by subst e;rw[bl_irrefl]at hab;cases hab
theorem getP_or(M:List Pr)(k:List UInt8):getP M k=v00∨∃p∈M,p.key=k∧getP M k=p.v:=by
 induction M with
 | nil=>exact .inl rfl
 | cons q r ih =>
  rw[getP_cons];by_cases e:q.key=k
  ·exact .inr ⟨q,List.mem_cons_self ..,e,if_pos e⟩
  ·rw[if_neg e]
   rcases ih with h|⟨p,hp,h⟩
   ·exact .inl h
   ·exact .inr ⟨p,List.mem_cons_of_mem _ hp,h⟩
theorem getP_val{M:List Pr}(h:stB M=true)(k:List UInt8):vaB (getP M k)=true∧((getP M k).k=0→getP M k=v00)∧((getP M k).k≠0→keyB k=true):=by
 rcases getP_or M k with e|⟨p,hp,hk,e⟩
 ·rw[e];exact⟨rfl,fun _=>rfl,fun q=>absurd rfl q⟩
 ·have:=st_each h p hp
  rw[e];exact⟨this.2.1,fun q=>absurd q this.2.2,fun _=>hk ▸ this.1⟩
theorem onePr_st{M:List Pr}(h:stB M=true)(k:List UInt8):stB (onePr M k)=true:=by
 unfold onePr;split
 ·rfl
 ·rename_i h0
  have hv:=getP_val h k;refine st_make (fun p hp=>?_) (by unfold SortK;exact List.pairwise_singleton ..);rw[List.mem_singleton]at hp;subst hp;exact⟨hv.2.2 h0,hv.1,h0⟩
theorem mem_withK{L:List (List UInt8)}{k q:List UInt8}:q∈withK L k↔q=k∨q∈L:=by
 unfold withK;by_cases h:fndK L k=true
 ·rw[if_pos h]
  unfold fndK at h;rw[decide_eq_true_eq]at h
  have hm:k∈L:=by have:=h.2;rw[getD_at h.1]at this;exact this ▸ List.getElem_mem h.1
  exact⟨.inr,fun e=>e.elim (fun e=>e ▸ hm) id⟩
 ·rw[if_neg h]
  unfold putK
  conv=>rhs;rw[←List.take_append_drop (posK L k) L]
  simp only[List.mem_append,List.mem_cons];exact or_left_comm
theorem mem_withs{ks:List (List UInt8)}{q:List UInt8}:∀{L:List (List UInt8)},q∈ks.foldl withK L↔q∈L∨q∈ks:=by
 induction ks with
 | nil=>intro L;simp
 | cons k r ih =>
  intro L;rw[List.foldl_cons,ih,mem_withK,List.mem_cons];constructor
  ·rintro ((h|h)|h)
   ·exact .inr (.inl h)
   ·exact .inl h
   ·exact .inr (.inr h)
  ·rintro (h|h|h)
   ·exact .inl (.inr h)
   ·exact .inl (.inl h)
   ·exact .inr h
theorem sort_withs:∀{ks L:List (List UInt8)},SortK L→SortK (ks.foldl withK L)
 | [],_,h=>h
 | k::r,_,h=>sort_withs (ks:=r) (sort_with k h)
theorem endM_rp(st c:Int)(k:List UInt8)(m:Mc):(endM st c k m).rds=m.rds∧(endM st c k m).puts=m.puts:=by
 unfold endM;split<;>exact⟨rfl,rfl⟩
theorem resM_rp(R:Rs)(m:Mc):(resM R m).rds=m.rds∧(resM R m).puts=m.puts:=by
 cases R with
 | ok v=>exact⟨rfl,rfl⟩
 | ab c=>exact endM_rp ..
 | re k=>exact endM_rp ..
theorem storeM_rds(F:Ft)(k v:Vl)(m:Mc):(storeM F k v m).rds=m.rds∧((storeM F k v m).puts=m.puts∨((storeM F k v m).puts=withK m.puts k.s∧(F.all=true∨F.wr.contains k.s=true))):=by
 unfold storeM;split
 ·exact⟨(endM_rp ..).1,.inl (endM_rp ..).2⟩
 split
 ·exact⟨(endM_rp ..).1,.inl (endM_rp ..).2⟩
 split
 ·exact⟨(endM_rp ..).1,.inl (endM_rp ..).2⟩
 ·rename_i h
  refine⟨rfl,.inr ⟨rfl,?_⟩⟩
  cases ha:F.all with
  | true=>exact .inl rfl
  | false =>
   right
   cases hc:F.wr.contains k.s with
   | true=>rfl
   | false=>exact absurd ⟨ha,hc⟩ h
theorem opM_rp(M:List Pr)(F:Ft)(op:Int)(l:List Vl)(m:Mc):(opM M F op l m).puts=m.puts∧(opM M F op l m).rds=if hidB m.own op (l.headD v00)=true then m.rds else (opEv M F m.own op l).2.foldl withK m.rds:=by
 unfold opM;rw[(resM_rp _ _).1,(resM_rp _ _).2];split<;>exact⟨rfl,rfl⟩
theorem step_op(M:List Pr)(F:Ft)(x:Ins)(m:Mc)(h:x.op=5):stepM M F x m=opM M F x.a (topV m (arS x.a).toNat) (dropM m (arS x.a).toNat):=by
 unfold stepM;rw[if_neg (by rw[h];decide),if_neg (by rw[h];decide),if_neg (by rw[h];decide),if_neg (by rw[h];decide),if_pos h]
theorem step_rp(M:List Pr)(F:Ft)(x:Ins)(m:Mc)(h:x.op≠5):(stepM M F x m).rds=m.rds∧((stepM M F x m).puts=m.puts∨∃k,(stepM M F x m).puts=withK m.puts k∧(F.all=true∨F.wr.contains k=true)):=by
 have st:∀(k v:Vl) (m2:Mc),m2.rds=m.rds→m2.puts=m.puts→(storeM F k v m2).rds=m.rds∧((storeM F k v m2).puts=m.puts∨∃k2,(storeM F k v m2).puts=withK m.puts k2∧(F.all=true∨F.wr.contains k2=true)):=by
  intro k v m2 e1 e2;obtain⟨g1,g2⟩:=storeM_rds F k v m2;rw[e1]at g1;rw[e2]at g2;exact⟨g1,g2.imp id fun q=>⟨_,q⟩⟩
 have en:∀(s c:Int) (k:List UInt8) (m2:Mc),m2.rds=m.rds→m2.puts=m.puts→(endM s c k m2).rds=m.rds∧((endM s c k m2).puts=m.puts∨∃k2,(endM s c k m2).puts=withK m.puts k2∧(F.all=true∨F.wr.contains k2=true)):=fun s c k m2 e1 e2=>⟨(endM_rp ..).1.trans e1,.inl ((endM_rp ..).2.trans e2)⟩
 have key:∀m',stepM M F x m=m'→m'.rds=m.rds∧(m'.puts=m.puts∨∃k,m'.puts=withK m.puts k∧(F.all=true∨F.wr.contains k=true)):=by
  intro m' e;unfold stepM at e;by_cases e1:x.op=1
  ·rw[if_pos e1]at e;subst e
   exact⟨rfl,.inl rfl⟩
  rw[if_neg e1]at e;by_cases e2:x.op=2
  ·rw[if_pos e2]at e;subst e
   exact⟨rfl,.inl rfl⟩
  rw[if_neg e2]at e;by_cases e3:x.op=3
  ·rw[if_pos e3]at e;subst e
   exact⟨rfl,.inl rfl⟩
  rw[if_neg e3]at e;by_cases e4:x.op=4
  ·rw[if_pos e4]at e;subst e
   exact⟨rfl,.inl rfl⟩
  rw[if_neg e4]at e;rw[if_neg h]at e;by_cases e6:x.op=6
  ·rw[if_pos e6]at e;subst e
   exact⟨rfl,.inl rfl⟩
  rw[if_neg e6]at e;by_cases e7:x.op=7
  ·rw[if_pos e7]at e;subst e
   unfold falM;split
   ·exact en _ _ _ _ rfl rfl
   ·exact⟨rfl,.inl rfl⟩
  rw[if_neg e7]at e;by_cases e8:x.op=8
  ·rw[if_pos e8]at e;subst e
   unfold putM;split
   ·exact en _ _ _ _ rfl rfl
   ·exact st _ _ _ rfl rfl
  rw[if_neg e8]at e;by_cases e9:x.op=9
  ·rw[if_pos e9]at e;subst e
   exact st _ _ _ rfl rfl
  rw[if_neg e9]at e;by_cases e10:x.op=10
  ·rw[if_pos e10]at e;subst e
   unfold emitM;split
   ·exact en _ _ _ _ rfl rfl
   split
   ·exact en _ _ _ _ rfl rfl
   ·exact⟨rfl,.inl rfl⟩
  rw[if_neg e10]at e;by_cases e11:x.op=11
  ·rw[if_pos e11]at e;subst e
   exact en _ _ _ _ rfl rfl
  rw[if_neg e11]at e;by_cases e12:x.op=12
  ·rw[if_pos e12]at e;subst e
   unfold loopM;split
   ·exact en _ _ _ _ rfl rfl
   split
   ·exact en _ _ _ _ rfl rfl
   ·exact⟨rfl,.inl rfl⟩
  rw[if_neg e12]at e;by_cases e13:x.op=13
  ·rw[if_pos e13]at e;subst e
   exact en _ _ _ _ rfl rfl
  rw[if_neg e13]at e;by_cases e14:x.op=14
  ·rw[if_pos e14]at e;subst e
   unfold tickM;split
   ·exact en _ _ _ _ rfl rfl
   ·exact⟨rfl,.inl rfl⟩
  rw[if_neg e14]at e;subst e;exact⟨rfl,.inl rfl⟩
 exact key _ rfl
structure KpI (F:Ft) (m:Mc) (N:Nat):Prop where
 srt:SortK m.rds
 rd:∀k∈m.rds,keyB k=true∧(F.all=true∨F.rd.contains k=true)
 wr:∀k∈m.puts,F.all=true∨F.wr.contains k=true
 len:m.rds.length≤N
theorem evE_rd{al:Bool}{rd wr:List (List UInt8)}{M:List Pr}{op:Int}{l:List Vl}{k:List UInt8}(h:k∈(evE al rd wr M op l).2):keyB k=true∧(al=true∨rd.contains k=true):=by
 unfold evE at h;by_cases hc:(stB M && (ftB ⟨al,rd,wr⟩ && l.all varB))=true
 ·rw[if_pos hc]at h
  clear hc;unfold evS at h
  match l,h with
  | [],h=>exact absurd h (by simp)
  | [_,_],h=>exact absurd h (by simp)
  | _::_::_::_,h=>exact absurd h (by simp)
  | [a],h =>
   simp only at h;unfold uneS at h;by_cases ho:op=9∨op=18∨op=20∨op=21
   ·rw[if_pos ho]at h;exact absurd h (by simp)
   rw[if_neg ho]at h;by_cases ha:a.k=2
   ·rw[if_pos ha]at h
    simp only at h;unfold fetS at h;by_cases hb:keyB a.s=false
    ·rw[if_pos hb]at h;exact absurd h (by simp[rdsR])
    rw[if_neg hb]at h;by_cases hr:al=false∧rd.contains a.s=false
    ·rw[if_pos hr]at h;exact absurd h (by simp[rdsR])
    rw[if_neg hr]at h;have e:k=a.s:=List.mem_singleton.1 h;subst e;refine⟨by simpa using hb,?_⟩
    cases al with
    | true=>exact .inl rfl
    | false =>
     right
     cases hq:rd.contains a.s with
     | true=>rfl
     | false=>exact absurd ⟨rfl,hq⟩ hr
   ·rw[if_neg ha]at h;exact absurd h (by simp)
 ·rw[if_neg hc]at h;exact absurd h (by simp)
theorem opEv_rd{M:List Pr}{F:Ft}{own:List Pr}{op:Int}{l:List Vl}{k:List UInt8}(hh:hidB own op (l.headD v00)=false)(h:k∈(opEv M F own op l).2):keyB k=true∧(F.all=true∨F.rd.contains k=true):=by
 unfold opEv at h;split at h
 ·rw[if_neg (by rw[hh];simp)]at h
  exact evE_rd h
 ·exact evE_rd h
theorem KpI.step{M:List Pr}{F:Ft}{x:Ins}{m:Mc}{N:Nat}(h:KpI F m N):KpI F (stepM M F x m) (N+1):=by
 by_cases h5:x.op=5
 ·rw[step_op M F x m h5]
  obtain⟨e1,e2⟩:=opM_rp M F x.a (topV m (arS x.a).toNat) (dropM m (arS x.a).toNat);have er:(dropM m (arS x.a).toNat).rds=m.rds:=rfl;have ep:(dropM m (arS x.a).toNat).puts=m.puts:=rfl;have eo:(dropM m (arS x.a).toNat).own=m.own:=rfl;rw[er,eo]at e2;rw[ep]at e1;by_cases hh:hidB m.own x.a ((topV m (arS x.a).toNat).headD v00)=true
  ·rw[if_pos hh]at e2
   exact⟨by rw[e2];exact h.srt,by rw[e2];exact h.rd,by rw[e1];exact h.wr,by rw[e2];exact Nat.le_succ_of_le h.len⟩
  ·rw[if_neg hh]at e2
   refine⟨by rw[e2];exact sort_withs h.srt,?_,by rw[e1];exact h.wr,?_⟩
   ·rw[e2]
    intro k hk;rcases mem_withs.1 hk with hk|hk
    ·exact h.rd k hk
    ·exact opEv_rd (by simpa using hh) hk
   ·rw[e2]
    rcases opEv_reads M F m.own x.a (topV m (arS x.a).toNat) with e|⟨k,e⟩
    ·rw[e];exact Nat.le_succ_of_le h.len
    ·rw[e]
     have:=withK_len m.rds k;have:=h.len;show (withK m.rds k).length≤_;omega
 ·obtain⟨e1,e2⟩:=step_rp M F x m h5
  refine⟨by rw[e1];exact h.srt,by rw[e1];exact h.rd,?_,by rw[e1];exact Nat.le_succ_of_le h.len⟩;rcases e2 with e2|⟨k,e2,hk⟩
  ·rw[e2];exact h.wr
  ·rw[e2]
   intro q hq;rcases mem_withK.1 hq with rfl|hq
   ·exact hk
   ·exact h.wr q hq
theorem KpI.run{M:List Pr}{F:Ft}{l:List Ins}{stop:List Int→Bool}:∀(f:Nat) (m:Mc) (pc:Int) (n:Nat) (tr:List Int) (N:Nat),KpI F m N→KpI F (runM M F l stop f m pc n tr).1 (N+f)
 | 0,_,_,_,_,_,h=>h
 | f+1,m,pc,n,tr,N,h=>by
  have hm:KpI F m (N+(f+1)):=⟨h.srt,h.rd,h.wr,Nat.le_trans h.len (by omega)⟩;unfold runM;split
  ·exact hm
  split
  ·obtain⟨e1,e2⟩:=endM_rp 2 1008 [] m
   exact⟨by rw[e1];exact hm.srt,by rw[e1];exact hm.rd,by rw[e2];exact hm.wr,by rw[e1];exact hm.len⟩
  split
  ·exact hm
  ·have:=KpI.run (M:=M) (l:=l) (stop:=stop) f (stepM M F (l.getD pc.toNat ins0) m) (nextI (l.getD pc.toNat ins0) pc m) (cntI (l.getD pc.toNat ins0) n) (tr++[pc]) (N+1) h.step
   rwa [show N+1+f=N+(f+1) by omega]at this
theorem own_one{W:World}{B:Nat}(p:Pr)(hB:B≤W.heap.size):(W.alloc (.cells (prV p) 55)).ownsRow B 55 4 (.slice (some ⟨W.heap.size,0,none⟩) 1 1) 1 (prL p):=
 ⟨rfl,.inr ⟨W.heap.size,1,prV p,rfl,hB,heap_alloc_new W _,Nat.le_refl _,by unfold maxLen;decide,rfl,rfl⟩⟩
theorem onePr_some{L:List Pr}{k:List UInt8}(h:(getP L k).k≠0):onePr L k=[⟨k,getP L k⟩]:=if_neg h
theorem onePr_none{L:List Pr}{k:List UInt8}(h:(getP L k).k=0):onePr L k=[]:=if_pos h
theorem stored_any(v:Vl)(w:World):
  Calls prog 95 #[.agg (vV v)] w fun e w'=>e=.returned (.bool (storedB v))∧Below w.heap.size w w':=by
 simp only[vV];obtain⟨v0,hW0,hb0,hx0⟩:=boxes1 w #[.int .i64 v.k,.int .i64 v.n,.string (bs v.s)] 52;have HW:=h_ hW0;have HB:=h_ hb0;have HC:=h_ hx0;clear hW0 hb0 hx0;go_enter func95,ntmps95;go_upto_region 1 with (fail);rw[HW.out];clear HW;obtain⟨c0,c1,c2⟩:=HC.out.c3;by_cases h1:v.k=1
 ·have t1:(v.k==1)=true:=by rw[h1];rfl
  have HF:=h_ (show storedB v=true by unfold storedB;rw[h1];rfl);clear h1;go_wp2;go_ret;exact⟨by rw[HF.out]<;>rfl,HB.out⟩
 have t1:(v.k==1)=false:=by rw[beq_eq_false_iff_ne];exact h1
 by_cases h2:v.k=2
 ·have t2:(v.k==2)=true:=by rw[h2];rfl
  have HF:=h_ (show storedB v=true by unfold storedB;rw[h2];rfl);clear h1 h2;go_wp2;go_ret;exact⟨by rw[HF.out]<;>rfl,HB.out⟩
 have t2:(v.k==2)=false:=by rw[beq_eq_false_iff_ne];exact h2
 have HF:=h_ (show storedB v=false by unfold storedB;simp[h1,h2]);clear h1 h2;go_wp2;go_ret;exact⟨by rw[HF.out]<;>rfl,HB.out⟩
theorem one_any(a:Option Addr)(cap:Nat)(M:List Pr)(x:List UInt8)(w:World)(hl:M.length≤9000000000000)(hM:CellsAt w (.slice a M.length cap) M.length (prLs M)):
  Calls prog 92 #[.slice a M.length cap,.string (bs x)] w fun e w'=>∃rv,e=.returned rv∧w'.ownsRow w.heap.size 55 4 rv (onePr M x).length (prLs (onePr M x))∧Below w.heap.size w w':=by
 obtain⟨v,hv⟩:=ex_ (getP M x);have HV:=h_ hv;clear hv;go_enter func92,ntmps92;go_wp2_with fail;refine(SGet_any a cap M x _ hl hM).mono ?_;rw[HV.out];simp only[vV];rintro er w1 ⟨rfl,hb1⟩;have hsz:=hb1.size;go_upto_region 2 with (fail);have HX:=h_ (Bx.new w1 #[.int .i64 v.k,.int .i64 v.n,.string (bs v.s)] 52);have HB:=h_ (hb1.alloc (by omega) (.cells #[.int .i64 v.k,.int .i64 v.n,.string (bs v.s)] 52));clear hb1;generalize hW:w1.alloc (.cells #[.int .i64 v.k,.int .i64 v.n,.string (bs v.s)] 52)=v2 at HX HB ⊢;clear hW;obtain⟨c0,c1,c2⟩:=HX.out.c3;by_cases hk:v.k=0
 ·have t0:(v.k != 0)=false:=by rw[hk];rfl
  have HF:=h_ (show onePr M x=[] from onePr_none (by rw[HV.out];exact hk));clear hk;go_wp2;refine bodyPost_ret (v:=.slice none 0 0) (by simp[results,results92,go_sem]<;>rfl) rfl ⟨.slice none 0 0,rfl,by rw[HF.out];exact own_nil _ _ _ _,HB.out⟩
 have t0:(v.k != 0)=true:=by rw[bne_iff_ne];exact hk
 have HF:=h_ (show onePr M x=[⟨x,v⟩] from by rw[onePr_some (by rw[HV.out];exact hk),HV.out]);clear hk;have HO:=h_ (own_one (W:=v2) (B:=w.heap.size) ⟨x,v⟩ HB.out.size);have HB2:=h_ (HB.out.alloc HB.out.size (.cells (prV ⟨x,v⟩) 55));simp only[prV,prL]at HO HB2;go_wp2;refine bodyPost_ret (v:=.slice (some ⟨v2.heap.size,0,none⟩) 1 1) (by simp[results,results92,go_sem]<;>rfl) rfl ⟨_,rfl,by rw[HF.out];exact HO.out,HB2.out⟩
theorem emit_any(B mb:Nat)(S:Nat→Prop)(H:Nat→Value)(m:Mc)(R:Rw)(v:Vl)(w:World)(h:VMB B mb S H m R w)(hl:m.out.length≤16):
  Calls prog 66 #[.pointer (some ⟨mb,0,none⟩),.agg (vV v)] w (VPost B mb S H (emitM v m) (.tuple #[]) w):=by
 simp only[vV];obtain⟨v0,hW0,hb0,hx0⟩:=boxes1 w #[.int .i64 v.k,.int .i64 v.n,.string (bs v.s)] 52;have HM:=h_ (h.call hb0);have HF:=h_ (FrS.of_below (S:=S) hb0);have HN:=h_ h.not;have hne:mb≠w.heap.size:=fun e=>HN.out (e ▸ h.mS);have HW:=h_ hW0;have HB:=h_ hb0;have HC:=h_ hx0;clear hW0 hb0 hx0 h;go_enter func66,ntmps66;go_upto_region 2 with (fail);rw[HW.out];clear HW;obtain⟨c0,c1,c2⟩:=HC.out.c3;obtain⟨sb,hsb⟩:=ex_ (storedB v);have HSB:=h_ hsb;clear hsb;go_wp2_with fail;have hst:=stored_any v v0;simp only[vV]at hst;refine hst.mono ?_;clear hst;rw[HSB.out];rintro er w1 ⟨rfl,hb1⟩;have HM:=HM.out.k hb1;have HC:=HC.out.k hb1;have HF:=h_ (HF.out.then (FrS.of_below hb1));have HB:=bt HB hb1;clear hb1 c0 c1 c2
 cases sb with
 | false =>
  go_wp2_with fail;refine(vabort_any B mb S H m R 1009 _ HM.out).mono ?_;rintro e w2 ⟨rfl,S',R',h1,h2⟩;have H1:=h_ h1;have H2:=h_ h2;clear h1 h2;go_wp2;exact⟨(by first|exact True.intro|rfl),.tuple #[],results_none rfl _ _ _,rfl,S',R',by unfold emitM;rw[HSB.out,if_pos rfl];exact H1.out,HF.out.then H2.out⟩
 | true =>
  obtain⟨oa,oc,hov⟩:=own_sl HM.out.out.1
  have c3:w1.cell? ⟨mb,395,none⟩=some (.slice oa m.out.length oc):=by rw[←show R.outv=.slice oa m.out.length oc from hov];exact HM.out.tl 3 (by decide)
  have HOV:=h_ hov;clear hov;by_cases h16:m.out.length=16
  ·have t16:((m.out.length:Int)==16)=true:=by rw[h16];rfl
   have H16:=h_ h16;clear h16;go_wp2_with fail;refine(vabort_any B mb S H m R 1007 _ HM.out).mono ?_;rintro e w2 ⟨rfl,S',R',h1,h2⟩;have H1:=h_ h1;have H2:=h_ h2;clear h1 h2;go_wp2;exact⟨(by first|exact True.intro|rfl),.tuple #[],results_none rfl _ _ _,rfl,S',R',by unfold emitM;rw[HSB.out,if_neg (by simp),if_pos H16.out];exact H1.out,HF.out.then H2.out⟩
  have t16:((m.out.length:Int)==16)=false:=by rw[beq_eq_false_iff_ne];omega
  have H16:=h_ h16;clear h16;obtain⟨i0,hi,hz0,hz1,hz2⟩:=info_parts infoVl;go_upto_region 1 with (fail);have HS0:=h_ (show ((fun w'=>Bx w.heap.size #[.int .i64 v.k,.int .i64 v.n,.string (bs v.s)] 52 w')) w1.drew from HC.out);have HC3:=h_ c3;clear c3 t16;refine wp_region_held_drew (S:=(fun w'=>Bx w.heap.size #[.int .i64 v.k,.int .i64 v.n,.string (bs v.s)] 52 w')) (by kernel_rfl) ?_ (fun hHeld=>?_)
  ·exact HS0.out
  refine tkX 0 4 ?_;refine tkX 1 5 ?_;refine tkX 2 6 ?_;refine tkX 3 7 ?_;refine tkX 4 8 ?_;refine tkX 5 9 ?_;refine tkY 7 (v:=?vv7) 11 ?yy7 ?_
  case yy7 =>
   intro wq hSw;obtain⟨d0,d1,d2⟩:=hSw.c3;clear hSw;go_simp
   (try with_reducible rfl)
  simp only[sA,sB,sC];have hmc:=HM.out.bf.lt;have hcl:=HC.out.lt;refine wpAnyH_ready (rs:=[6,8]) (by kernel_rfl) (by simp) ?_;refine(AllReadyH.cons rfl (fun K hK=>?_) (AllReadyH.cons rfl (fun K hK=>?_) AllReadyH.nil));have d0:w1.cell? ⟨mb,395,none⟩=some (.slice oa m.out.length oc):=HC3.out;go_simp;skip;refine hK.out _ _ (hHeld) fun hHeld=>?_;clear hK K
  (try simp only[Act.put,sA,sB,sC])
  refine rd1 8 fun K hK=>?_;go_simp;skip
  focus (try go_wp2_with fail)
  refine hK.out _ _ (hHeld.alloc _) fun hHeld=>?_;clear hK K
  (try simp only[Act.put,sA,sB,sC])
  rotate_left;go_simp;skip
  focus (try go_wp2_with fail)
  refine hK.out _ _ (hHeld.alloc _) fun hHeld=>?_;clear hK K
  (try simp only[Act.put,sA,sB,sC])
  refine rd1 6 fun K hK=>?_;have d1:(w1.alloc (.cells #[.int .i64 v.k,.int .i64 v.n,.string (bs v.s)] 52)).cell? ⟨mb,395,none⟩=some (.slice oa m.out.length oc):=cell1_below HC3.out ((Below.refl w1.heap.size w1).alloc (Nat.le_refl _) (.cells #[.int .i64 v.k,.int .i64 v.n,.string (bs v.s)] 52));go_simp;skip;refine hK.out _ _ (hHeld) fun hHeld=>?_;clear hK K
  (try simp only[Act.put,sA,sB,sC])
  all_goals
   have HMA:=h_ (VMB.drew (HM.out.call ((Below.refl w1.heap.size w1).alloc (Nat.le_refl _) (.cells #[.int .i64 v.k,.int .i64 v.n,.string (bs v.s)] 52))));have HFA:=h_ (FrS.drew (HF.out.then (FrS.of_below (S:=S) ((Below.refl w1.heap.size w1).alloc (Nat.le_refl _) (.cells #[.int .i64 v.k,.int .i64 v.n,.string (bs v.s)] 52)))));have HCA:=h_ (HC.out.alloc (.cells #[.int .i64 v.k,.int .i64 v.n,.string (bs v.s)] 52)).drew;have HNW:=h_ (Bx.new w1 #[.int .i64 v.k,.int .i64 v.n,.string (bs v.s)] 52).drew;clear hHeld;generalize hW:(w1.alloc (.cells #[.int .i64 v.k,.int .i64 v.n,.string (bs v.s)] 52)).drew=u1 at HMA HFA HCA HNW ⊢;clear hW;obtain⟨nb,hnb⟩:=ex_ (w1.heap.size);rw[hnb]at HNW
   (try rw[hnb])
   have hone:∀u∈vlL v,u.oneCell'=true:=by intro u hu;simp only[vlL,List.mem_cons,List.not_mem_nil,or_false]at hu;rcases hu with rfl|rfl|rfl<;>rfl
   have hoA:=HMA.out.out.1;rw[HOV.out]at hoA
   have hBu:B≤u1.heap.size:=by have:=HMA.out.rng mb HMA.out.mS;omega
   refine rd1 9 fun K hK=>?_;refine step_append_lies u1 (by rfl) _ _ 26 (by rfl) B 52 i0 (.agg #[.int .i64 0,.int .i64 0,.string ⟨#[]⟩]) 3 32 underlying26 hi hz0 hz1 hz2 rfl (by decide) (.slice oa m.out.length oc) m.out.length (vlLs m.out) (by rfl) hoA ⟨nb,0,none⟩ 1 1 (vlL v) (by rfl) rfl (World.news_of_block HNW.out) hone (by decide) (by unfold maxLen;omega) (by omega) hBu _ rfl ?_;intro g5 cap5 w5 hown5 hgrow hat hlt5;have hrow:=HMA.out.rowOut (W':=w5) (.slice (some ⟨g5,0,none⟩) (m.out++[v]).length cap5) (m.out++[v]) (by rw[HOV.out];exact hgrow) (by rw[vlLs_snoc,List.length_append];exact hown5) (by rw[HOV.out];rcases hat with q|q;exact .inl q.symm;exact .inr ⟨g5,rfl,by omega⟩)
   have hl5:(m.out++[v]).length=m.out.length+1:=by simp
   rw[hl5]at hrow;have HROW:=h_ hrow;clear hrow;have hx5:=HCA.out.kept hgrow (by intro e;exact HN.out (HM.out.out.2 w.heap.size (by rw[HOV.out];exact e)))
   have c5:w5.cell? ⟨mb,395,none⟩=some (.slice oa m.out.length oc):=by have:=HROW.out.1.cell 395 (by decide);rw[this,←HOV.out];rfl
   have f5:=HROW.out.1.free 395;refine hK.out _ _ (hx5) fun hHeld=>?_;clear hK K hHeld;simp only[Act.put,List.setIfInBounds_toArray];refine tkX 10 14 ?_;refine tkX 11 15 ?_;refine tkX 12 16 ?_;refine tkX 13 17 ?_;simp only[sA,sB,sC];refine rd1 14 fun K hK=>?_;go_simp;have hx6:=hx5.other (c:=mb) (i:=395) (Ne.symm hne) (.slice (some ⟨g5,0,none⟩) (m.out.length+1) cap5);refine hK.out _ _ (hx6) fun hHeld=>?_;clear hK K hHeld
   (try simp only[Act.put,sA,sB,sC])
   refine wpAnyH_done (by kernel_rfl) ?_ _;have HE:=h_ (show emitM v m={ m with out:=m.out++[v] } from by unfold emitM;rw[HSB.out,if_neg (by simp),if_neg H16.out]);have HV:=h_ (HROW.out.2);clear HROW hx6;generalize hW:w5.setCell ⟨mb,395,none⟩ (.slice (some ⟨g5,0,none⟩) (m.out.length+1) cap5)=v6 at HV ⊢;clear hW;go_wp2;exact⟨(by first|exact True.intro|rfl),.tuple #[],results_none rfl _ _ _,rfl,_,_,by rw[HE.out];exact HV.out.1,HFA.out.then HV.out.2⟩
theorem own_prAt{W:World}{B:Nat}{v:Value}{L:List Pr}(h:W.ownsRow B 55 4 v L.length (prLs L)):CellsAt W v L.length (prLs L):=by
 rcases own_form h with ⟨rfl,h0⟩|⟨g,cap,rfl,hc,_⟩
 ·have:L=[]:=List.eq_nil_of_length_eq_zero h0
  subst this;exact⟨none,0,rfl,fun hne=>absurd rfl hne⟩
 ·refine⟨_,cap,rfl,fun _=>⟨g,0,rfl,fun j u hj=>?_⟩⟩
  have h1:=h.cells (g:=g) rfl j u hj
  have e:(⟨g,0,none⟩:Addr).add j=⟨g,0+j,none⟩:=by unfold Addr.add;split<;>simp_all
  rw[e]at h1;exact h1
end Go.Proofs.YtnglaegofhpleaaGreatDoor
