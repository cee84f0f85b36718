/- What the claim needs, part 6. No conditions. -/
import Derived.Test.YtnglaegofhpleaaGreatDoorZk5
set_option maxRecDepth 100000
set_option maxHeartbeats 64000000
namespace Go.Proofs.YtnglaegofhpleaaGreatDoor
open Go.RowKit Go.Proofs.Tryz
theorem endC_any(B mb:Nat)(S:Nat→Prop)(H:Nat→Value)(m:Mc)(R:Rw)(c:Int)(k:List UInt8)(w:World)(h:VMB B mb S H m R w)(hl:m.puts.length≤100000000∧m.own.length≤100000000∧m.wrs.length≤100000000):
  Calls prog 59 #[.pointer (some ⟨mb,0,none⟩),.int .i64 1,.int .i64 c,.string (bs k)] w (VPost B mb S H (endM 1 c k m) (.tuple #[]) w):=by
 have HM:=h_ h;clear h;have c9:w.cell? ⟨mb,401,none⟩=some (.bool m.done):=HM.out.tl 9 (by decide);have f9:=HM.out.bf.free 401;have HM1:=h_ (HM.out.done true);go_enter func59,ntmps59;go_upto_region 1 with (fail);clear c9 f9;have HF1:=h_ ((FrS.refl S w).set mb 401 (.bool true) (.inl HM.out.mS));generalize hW:w.setCell ⟨mb,401,none⟩ (.bool true)=v1 at HM1 HF1 ⊢;clear hW;have c1:v1.cell? ⟨mb,393,none⟩=some (.int .i64 m.st):=HM1.out.tl 1 (by decide);have c2:v1.cell? ⟨mb,394,none⟩=some (.int .i64 m.code):=HM1.out.tl 2 (by decide);have c7:v1.cell? ⟨mb,399,none⟩=some (.string (bs m.miss)):=HM1.out.tl 7 (by decide);have f1:=HM1.out.bf.free 393;have f2:=HM1.out.bf.free 394;have f7:=HM1.out.bf.free 399;have HM2:=h_ (((HM1.out.status 1).coded c).missed k);have HF2:=h_ (((HF1.out.set mb 393 (.int .i64 1) (.inl HM.out.mS)).set mb 394 (.int .i64 c) (.inl HM.out.mS)).set mb 399 (.string (bs k)) (.inl HM.out.mS));have g2:(v1.setCell ⟨mb,393,none⟩ (.int .i64 1)).cell? ⟨mb,394,none⟩=some (.int .i64 m.code):=(HM1.out.status 1).tl 2 (by decide);have h2:=(HM1.out.status 1).bf.free 394;have g7:((v1.setCell ⟨mb,393,none⟩ (.int .i64 1)).setCell ⟨mb,394,none⟩ (.int .i64 c)).cell? ⟨mb,399,none⟩=some (.string (bs m.miss)):=((HM1.out.status 1).coded c).tl 7 (by decide);have h7:=((HM1.out.status 1).coded c).bf.free 399;go_upto_region 2 with (fail);clear c1 c2 c7 f1 f2 f7 g2 h2 g7 h7 HM1 HF1;generalize hW:((v1.setCell ⟨mb,393,none⟩ (.int .i64 1)).setCell ⟨mb,394,none⟩ (.int .i64 c)).setCell ⟨mb,399,none⟩ (.string (bs k))=v2 at HM2 HF2 ⊢;clear hW;obtain⟨m2,hm2⟩:∃x,x={ m with done:=true,st:=1,code:=c,miss:=k }:=⟨_,rfl⟩;have HM:=h_ (show VMB B mb S H m2 R v2 by rw[hm2];exact HM2.out);have HE:=h_ (show endM 1 c k m={ m2 with wrs:=m2.wrs++m2.puts.map fun x=>⟨x,getP m2.own x⟩ } by rw[hm2];exact if_pos rfl)
 have hl2:m2.puts.length≤100000000∧m2.own.length≤100000000∧m2.wrs.length≤100000000:=by rw[hm2];exact hl
 have HMS:=h_ (show S mb from HM.out.mS);clear hm2 HM2 hl;obtain⟨P,hP⟩:=ex_ (m2.puts);obtain⟨O,hO⟩:=ex_ (m2.own);obtain⟨pa,pc,hpv⟩:=own_sl HM.out.puts.1;rw[hP]at hpv;have HPV:=h_ hpv;have HP:=h_ hP;have HO:=h_ hO;have HE:=h_ (show endM 1 c k m={ m2 with wrs:=m2.wrs++P.map fun x=>⟨x,getP O x⟩ } from by rw[HE.out,←hP,←hO]);rw[hP,hO]at hl2;clear hP hO hpv
 have c4:v2.cell? ⟨mb,397,none⟩=some (.slice pa P.length pc):=by rw[←HPV.out];exact HM.out.tl 5 (by decide)
 go_wp2;clear c4;go_loopw [43] (fun i wr=>∃(k:Nat) (S':Nat→Prop) (wv:Value),k≤P.length∧i=.int .i64 k∧Hid (VMB B mb S' H { m2 with wrs:=m2.wrs++(P.take k).map fun x=>⟨x,getP O x⟩ } { R with wv:=wv } wr)∧Hid (FrS S S' w wr)) (fun i _=>P.length-(intOf i).toNat)
 case atStart=>exact⟨0,S,R.wv,Nat.zero_le _,by first|exact True.intro|rfl,h_ (by simpa using HM.out),HF2⟩
 case round =>
  obtain⟨k,S',wv,hk,rfl,HMk,HFk⟩:=hrel;by_cases hlt:k<P.length
  ·have hlt':(k:Int)<(P.length:Int):=by omega
   have hkb:(0:Int)≤(k:Int)∧(k:Int)<(P.length:Int):=⟨by omega,by omega⟩
   have hw1:IntKind.i64.wrap ((k:Int)+1)=(k:Int)+1:=by rw[IntKind.wrap_i64];omega
   obtain⟨g,hpa,hgc⟩:∃g,pa=some ⟨g,0,none⟩∧wr.cell? ⟨g,k,none⟩=some (.string (bs P[k])):=by
    have ho:wr.ownsRow B 9 1 R.pv m2.puts.length (m2.puts.map strV):=HMk.out.puts.1;rw[HP.out]at ho;rcases own_strs ho with ⟨_,h0⟩|⟨g,cap,hv,_,hc⟩
    ·rw[h0]at hlt;simp at hlt
    ·have hv2:=HPV.out.symm.trans hv
     cases hv2;exact⟨g,rfl,hc k hlt⟩
   subst hpa;obtain⟨x,hx⟩:=ex_ (P[k]);rw[hx]at hgc;have HX:=h_ hx;clear hx;obtain⟨wa,wc,hwv⟩:=own_sl HMk.out.wrs.1;obtain⟨oa,oc,hov⟩:=own_sl HMk.out.own.1;obtain⟨n,hn⟩:=ex_ ((m2.wrs++(P.take k).map fun x=>(⟨x,getP O x⟩:Pr)).length)
   have hnl:n≤200000000:=by rw[←hn,List.length_append,List.length_map,List.length_take];omega
   have HN:=h_ hn;simp only[hn]at hwv;simp only[HO.out]at hov;have HWV:=h_ hwv;have HOV:=h_ hov;clear hn hwv hov
   have c6:wr.cell? ⟨mb,398,none⟩=some (.slice wa n wc):=by rw[←HWV.out];exact HMk.out.tl 6 (by decide)
   have c0:wr.cell? ⟨mb,392,none⟩=some (.slice oa O.length oc):=by rw[←HOV.out];exact HMk.out.tl 0 (by decide)
   have HS0:=h_ (show ((fun w'=>w'.cell? ⟨mb,392,none⟩=some (.slice oa O.length oc))) wr.drew from c0);have HC6:=h_ c6;clear c6 c0;obtain⟨i0,hi,hz0,hz1,hz2⟩:=info_parts infoPr;go_wp2_with fail;refine wp_region_held_drew (S:=(fun w'=>w'.cell? ⟨mb,392,none⟩=some (.slice oa O.length oc))) (by kernel_rfl) ?_ (fun hHeld=>?_)
   ·exact HS0.out
   refine tkX 0 47 ?_;refine tkX 1 48 ?_;refine tkX 2 49 ?_;refine tkX 3 50 ?_;refine tkX 4 51 ?_;refine tkX 6 53 ?_;refine tkX 7 54 ?_;refine tkX 8 55 ?_;refine tkX 9 56 ?_;refine tkY 10 (v:=?vv10) 57 ?yy10 ?_
   case yy10 =>
    intro wq hSw;have d0:=hSw;clear hSw;go_simp
    (try with_reducible rfl)
   refine tkX 11 58 ?_;simp only[sA,sB,sC]
   have hOC:CellsAt wr.drew (.slice oa O.length oc) O.length (prLs O):=by
    have ho:wr.ownsRow B 55 4 R.ov m2.own.length (prLs m2.own):=HMk.out.own.1;rw[HOV.out,HO.out]at ho;exact own_prAt ho
   have HOC:=h_ hOC;clear hOC;obtain⟨u,hu⟩:=ex_ (getP O x);have HU:=h_ hu;clear hu;refine wpAnyH_ready (rs:=[5,12]) (by kernel_rfl) (by simp) ?_;refine(AllReadyH.cons rfl (fun K hK=>?_) (AllReadyH.cons rfl (fun K hK=>?_) AllReadyH.nil));have d0:wr.cell? ⟨mb,398,none⟩=some (.slice wa n wc):=HC6.out;go_simp;skip;refine hK.out _ _ (hHeld) fun hHeld=>?_;clear hK K
   (try simp only[Act.put,sA,sB,sC])
   refine rd1 12 fun K hK=>?_;go_simp;refine(SGet_any oa oc O x wr.drew (by omega) HOC.out).mono ?_;rw[HU.out];simp only[vV];rintro er w1 ⟨rfl,hb1⟩;have HB1:=h_ hb1;clear hb1;refine hK.out _ _ (cell1_below hHeld HB1.out) fun hHeld=>?_;clear hK K
   (try simp only[Act.put,sA,sB,sC])
   refine tkX 13 60 ?_;simp only[sA,sB,sC];refine rd1 14 fun K hK=>?_;go_simp;skip
   focus (try go_wp2_with fail)
   refine hK.out _ _ (cell1_below hHeld ((Below.refl w1.heap.size w1).alloc (Nat.le_refl _) (.cells #[.string (bs x),.int .i64 u.k,.int .i64 u.n,.string (bs u.s)] 55))) fun hHeld=>?_;clear hK K
   (try simp only[Act.put,sA,sB,sC])
   rotate_left;go_simp;refine(SGet_any oa oc O x wr.drew (by omega) HOC.out).mono ?_;rw[HU.out];simp only[vV];rintro er w1 ⟨rfl,hb1⟩;have HB1:=h_ hb1;clear hb1;refine hK.out _ _ (cell1_below hHeld HB1.out) fun hHeld=>?_;clear hK K
   (try simp only[Act.put,sA,sB,sC])
   refine tkX 13 60 ?_;simp only[sA,sB,sC];refine wpAnyH_ready (rs:=[5,14]) (by kernel_rfl) (by simp) ?_;refine(AllReadyH.cons rfl (fun K hK=>?_) (AllReadyH.cons rfl (fun K hK=>?_) AllReadyH.nil));have d0:w1.cell? ⟨mb,398,none⟩=some (.slice wa n wc):=cell1_below (W:=wr.drew) HC6.out HB1.out;go_simp;skip;refine hK.out _ _ (hHeld) fun hHeld=>?_;clear hK K
   (try simp only[Act.put,sA,sB,sC])
   refine rd1 14 fun K hK=>?_;go_simp;skip
   focus (try go_wp2_with fail)
   refine hK.out _ _ (cell1_below hHeld ((Below.refl w1.heap.size w1).alloc (Nat.le_refl _) (.cells #[.string (bs x),.int .i64 u.k,.int .i64 u.n,.string (bs u.s)] 55))) fun hHeld=>?_;clear hK K
   (try simp only[Act.put,sA,sB,sC])
   rotate_left;go_simp;skip
   focus (try go_wp2_with fail)
   refine hK.out _ _ (cell1_below hHeld ((Below.refl w1.heap.size w1).alloc (Nat.le_refl _) (.cells #[.string (bs x),.int .i64 u.k,.int .i64 u.n,.string (bs u.s)] 55))) fun hHeld=>?_;clear hK K
   (try simp only[Act.put,sA,sB,sC])
   refine rd1 5 fun K hK=>?_;have d0:(w1.alloc (.cells #[.string (bs x),.int .i64 u.k,.int .i64 u.n,.string (bs u.s)] 55)).cell? ⟨mb,398,none⟩=some (.slice wa n wc):=cell1_below (cell1_below (W:=wr.drew) HC6.out HB1.out) ((Below.refl w1.heap.size w1).alloc (Nat.le_refl _) (.cells #[.string (bs x),.int .i64 u.k,.int .i64 u.n,.string (bs u.s)] 55));go_simp;skip;refine hK.out _ _ (hHeld) fun hHeld=>?_;clear hK K
   (try simp only[Act.put,sA,sB,sC])
   all_goals
    have HMA:=h_ ((HMk.out.drew.call HB1.out).call ((Below.refl w1.heap.size w1).alloc (Nat.le_refl _) (.cells #[.string (bs x),.int .i64 u.k,.int .i64 u.n,.string (bs u.s)] 55)));have HFA:=h_ (HFk.out.drew.then ((FrS.of_below (S:=S') HB1.out).then (FrS.of_below (S:=S') ((Below.refl w1.heap.size w1).alloc (Nat.le_refl _) (.cells #[.string (bs x),.int .i64 u.k,.int .i64 u.n,.string (bs u.s)] 55)))));have HNW:=h_ (Bx.new w1 #[.string (bs x),.int .i64 u.k,.int .i64 u.n,.string (bs u.s)] 55);clear hHeld;generalize hW:w1.alloc (.cells #[.string (bs x),.int .i64 u.k,.int .i64 u.n,.string (bs u.s)] 55)=u1 at HMA HFA HNW ⊢;clear hW;obtain⟨nb,hnb⟩:=ex_ (w1.heap.size);rw[hnb]at HNW
    (try rw[hnb])
    have hone:∀y∈prL ⟨x,u⟩,y.oneCell'=true:=by intro y hy;simp only[prL,List.mem_cons,List.not_mem_nil,or_false]at hy;rcases hy with rfl|rfl|rfl|rfl<;>rfl
    have hoA:=HMA.out.wrs.1;simp only[HN.out,HWV.out]at hoA
    have hBu:B≤u1.heap.size:=by have:=HMA.out.rng mb HMA.out.mS;omega
    refine rd1 15 fun K hK=>?_;refine step_append_lies u1 (by rfl) _ _ 32 (by rfl) B 55 i0 (.agg #[.string ⟨#[]⟩,.int .i64 0,.int .i64 0,.string ⟨#[]⟩]) 4 48 underlying32 hi hz0 hz1 hz2 rfl (by decide) (.slice wa n wc) n (prLs (m2.wrs++(P.take k).map fun x=>(⟨x,getP O x⟩:Pr))) (by rfl) hoA ⟨nb,0,none⟩ 1 1 (prL ⟨x,u⟩) (by rfl) rfl (World.news_of_block HNW.out) hone (by decide) (by unfold maxLen;omega) (by omega) hBu _ rfl ?_;intro g5 cap5 w5 hown5 hgrow hat hlt5
    have hnx:(m2.wrs++(P.take (k+1)).map fun x=>(⟨x,getP O x⟩:Pr))=(m2.wrs++(P.take k).map fun x=>(⟨x,getP O x⟩:Pr))++[⟨x,u⟩]:=by rw[List.take_succ_eq_append_getElem hlt,HX.out,List.map_append,List.append_assoc];simp[HU.out]
    have hnl2:(m2.wrs++(P.take (k+1)).map fun x=>(⟨x,getP O x⟩:Pr)).length=n+1:=by rw[hnx,List.length_append,HN.out];rfl
    have hrow:=HMA.out.rowWrs (W':=w5) (.slice (some ⟨g5,0,none⟩) (n+1) cap5) (m2.wrs++(P.take (k+1)).map fun x=>(⟨x,getP O x⟩:Pr)) (by show u1.grownBy w5 wv.ownBlock;simp only[HWV.out];exact hgrow) (by rw[hnl2,hnx,prLs_snoc];exact hown5) (by show _=wv.ownBlock∨_;simp only[HWV.out];rcases hat with q|q;exact .inl q.symm;exact .inr ⟨g5,rfl,by omega⟩);have HROW:=h_ hrow;clear hrow
    have hw0:w5.cell? ⟨mb,392,none⟩=some (.slice oa O.length oc):=by have:=HROW.out.1.cell 392 (by decide);rw[this,←HOV.out];rfl
    have hw5:w5.cell? ⟨mb,398,none⟩=some (.slice wa n wc):=by have:=HROW.out.1.cell 398 (by decide);rw[this,←HWV.out];rfl
    have f5:=HROW.out.1.free 398;clear hnx hnl2;refine hK.out _ _ (hw0) fun hHeld=>?_;clear hK K hHeld;simp only[Act.put,List.setIfInBounds_toArray];refine tkX 16 63 ?_;refine tkX 17 64 ?_;refine tkX 18 65 ?_;simp only[sA,sB,sC];refine rd1 19 fun K hK=>?_;go_simp;have hx6:(w5.setCell ⟨mb,398,none⟩ (.slice (some ⟨g5,0,none⟩) (n+1) cap5)).cell? ⟨mb,392,none⟩=some (.slice oa O.length oc):=cellN_set _ (by decide) hw0;refine hK.out _ _ (hx6) fun hHeld=>?_;clear hK K hHeld
    (try simp only[Act.put,sA,sB,sC])
    refine wpAnyH_done (by kernel_rfl) ?_ _;have HM5:=h_ HROW.out.2.1;have HF5:=h_ (HFA.out.then HROW.out.2.2);clear HROW hx6 hw5 hw0 f5 HFA HMA;generalize hW:w5.setCell ⟨mb,398,none⟩ (.slice (some ⟨g5,0,none⟩) (n+1) cap5)=v6 at HM5 HF5 ⊢;clear hW;go_wp2;go_roundw
    case rel=>exact⟨k+1,_,_,by omega,by go_num,HM5,HF5⟩
    case measure=>simp[intOf];omega
  ·have hlt':¬(k:Int)<(P.length:Int):=by omega
   have hkk:k=P.length:=by omega
   subst hkk;go_wp2;exact⟨(by first|exact True.intro|rfl),.tuple #[],results_none rfl _ _ _,rfl,S',_,by rw[HE.out];have h:=HMk.out;rw[List.take_length]at h;exact h,HFk.out⟩
theorem Bx.app{b B k n:Nat}{cs:Array Value}{T e:TypeId}{W W':World}{v:Value}{xs:List Value}(h:Bx b cs T W)(hg:W.grownBy W' v.ownBlock)(ho:W.ownsRow B e k v n xs)(hb:b<B):Bx b cs T W':=by
 refine(hg.block b h.lt (fun q=>?_)).trans h;have:=(ho.lt b q.symm).1;omega
theorem run_slHi{P:Program}{T e:TypeId}(hu:P.underlying T=some (.slice e)){i:TypeInfo}(hi:P.info? e=some i)(a:Option Addr)(n cap k:Nat)(hk:k≤cap)(w:World):
  (Instr.sliceAt T (.slice a n cap) none (some (.int .i64 (k:Int))) none).run P w=.ok (.slice a k cap) w:=by
 by_cases h0:cap=0
 ·subst h0
  have:k=0:=by omega
  subst this;simp[Instr.sliceAt,Instr.slice,run_underlying hu,sizeOf,typeInfo,hi,Instr.sliceBounds,Instr.sliceBound,asIntOf]
 ·simp[Instr.sliceAt,Instr.slice,run_underlying hu,sizeOf,typeInfo,hi,Instr.sliceBounds,Instr.sliceBound,asIntOf,hk,h0]
  cases a with
  | none=>rfl
  | some a=>simp[Addr.add];try (cases a;split<;>simp_all)
theorem run_slLo{P:Program}{T e:TypeId}(hu:P.underlying T=some (.slice e)){i:TypeInfo}(hi:P.info? e=some i)(a:Option Addr)(n cap k:Nat)(hk:k≤n)(w:World):
  (Instr.sliceAt T (.slice a n cap) (some (.int .i64 (k:Int))) none none).run P w=.ok (.slice (if cap=k then a else a.map (·.add (k * i.size))) (n-k) (cap-k)) w:=by
 simp[Instr.sliceAt,Instr.slice,run_underlying hu,sizeOf,typeInfo,hi,Instr.sliceBounds,Instr.sliceBound,asIntOf,hk]
theorem slHi_pr{a:Option Addr}{n cap k:Nat}(hk:k≤cap):∀w,(Instr.sliceAt 32 (.slice a n cap) none (some (.int .i64 (k:Int))) none).run prog w=.ok (.slice a k cap) w:=by
 obtain⟨i0,hi,-⟩:=info_parts infoPr;exact fun w=>run_slHi underlying32 hi a n cap k hk w
theorem cells_take_pr{W:World}{a:Option Addr}{n c:Nat}{L:List Pr}{k:Nat}(hk:k≤L.length)(h:CellsAt W (.slice a n c) n (prLs L)):CellsAt W (.slice a k c) (L.take k).length (prLs (L.take k)):=by
 rw[List.length_take,Nat.min_eq_left hk];obtain⟨a2,c2,he,hc⟩:=h;cases he;refine⟨_,_,rfl,fun hne=>?_⟩
 have e:prLs L=prLs (L.take k)++prLs (L.drop k):=by unfold prLs;rw[←List.flatMap_append,List.take_append_drop]
 obtain⟨b,off,hb,hcell⟩:=hc (fun q=>hne (List.append_eq_nil_iff.1 (e ▸ q)).1);refine⟨b,off,hb,fun j y hj=>hcell j y ?_⟩;rw[e,List.getElem?_append_left (List.getElem?_eq_some_iff.1 hj).1];exact hj
theorem slLo_pr{a:Option Addr}{cap k:Nat}{L:List Pr}(hk:k≤L.length):∃ad,(∀w,(Instr.sliceAt 32 (.slice a L.length cap) (some (.int .i64 (k:Int))) none none).run prog w=.ok (.slice ad (L.length-k) (cap-k)) w)∧∀W,CellsAt W (.slice a L.length cap) L.length (prLs L)→L.length≤cap→CellsAt W (.slice ad (L.length-k) (cap-k)) (L.drop k).length (prLs (L.drop k)):=by
 obtain⟨i0,hi,-,hz1,-⟩:=info_parts infoPr;refine⟨_,fun w=>run_slLo underlying32 hi a L.length cap k hk w,fun W h hc=>?_⟩;rw[hz1,List.length_drop];obtain⟨a2,c2,he,hx⟩:=h;cases he;refine⟨_,_,rfl,fun hne=>?_⟩
 have e:prLs L=prLs (L.take k)++prLs (L.drop k):=by unfold prLs;rw[←List.flatMap_append,List.take_append_drop]
 obtain⟨b,off,rfl,hcell⟩:=hx (fun q=>hne (List.append_eq_nil_iff.1 (e ▸ q)).2)
 have hkl:cap≠k:=by
  intro q;exact hne (by rw[List.drop_of_length_le (by omega)];rfl)
 rw[if_neg hkl];refine⟨b,off+k * 4,by simp[Addr.add],fun j y hj=>?_⟩
 have hl:(prLs (L.take k)).length=k * 4:=by rw[prLs_length,List.length_take,Nat.min_eq_left hk]
 rw[Nat.add_assoc];refine hcell _ y ?_;rw[e,List.getElem?_append_right (by omega),hl,Nat.add_sub_cancel_left];exact hj
def posP (L:List Pr) (p:Pr):Nat:=L.findIdx fun q=>!Op.bytesLess q.key p.key
theorem posP_le(L:List Pr)(p:Pr):posP L p≤L.length:=List.findIdx_le_length
theorem posP_lt{L:List Pr}{p:Pr}{k:Nat}(h:k<posP L p):∃hk:k<L.length,Op.bytesLess L[k].key p.key=true:=by
 have hk:k<L.length:=Nat.lt_of_lt_of_le h (posP_le L p);refine⟨hk,?_⟩;have:=List.not_of_lt_findIdx h;simpa using this
theorem posP_at{L:List Pr}{p:Pr}(h:posP L p<L.length):Op.bytesLess L[posP L p].key p.key=false:=by
 unfold posP at h ⊢;have:=List.findIdx_getElem (w:=h);simpa using this
theorem prLs_app(A B:List Pr):prLs (A++B)=prLs A++prLs B:=by unfold prLs;rw[List.flatMap_append]
theorem prLs_cell(L:List Pr):∀u∈prLs L,u.oneCell'=true:=by
 intro u hu;unfold prLs at hu;obtain⟨p,-,hp⟩:=List.mem_flatMap.1 hu;unfold prL at hp;simp only[List.mem_cons,List.not_mem_nil,or_false]at hp;rcases hp with rfl|rfl|rfl|rfl<;>rfl
theorem cellsAt_ppr(w:World)(x:Pr):CellsAt (w.alloc (.cells (prV x) 55)) (.slice (some ⟨w.heap.size,0,none⟩) 1 1) 1 (prL x):=by
 refine⟨_,_,rfl,fun _=>⟨_,_,rfl,fun j y hj=>?_⟩⟩;rw[Nat.zero_add];have h:=(Bx.new w (prV x) 55).cell j;rw[h];rcases j with _|_|_|_|j
 ·exact hj
 ·exact hj
 ·exact hj
 ·exact hj
 ·simp[prL]at hj
theorem appPr1_any{w1:World}{ops:Array Oper}{rest:List Oper}{o:Oper}{a:Act}{Q:Exit→Act→World→Prop}(hgd:o.guard=none)(s x:Operand)
  (ho:o.op=.call { callee:=.builtin .append,args:=#[s,x],argTypes:=#[32,32] }) (B:Nat) (v:Value) (L:List Pr) (y:Pr) (hown:w1.ownsRow B 55 4 v L.length (prLs L))
  (hs:a.eval s=v) (hx:a.eval x=.slice (some ⟨w1.heap.size,0,none⟩) 1 1) (hlen:L.length≤4000000000000) (W0:World) (B0:Nat) (hbel:Below B0 W0 w1) (hB:B≤w1.heap.size) (hB0:B0≤B)
  (h:∀v' w',w'.ownsRow B 55 4 v' (L++[y]).length (prLs (L++[y]))→Below B0 W0 w'→w1.grownBy w' v.ownBlock→wpList prog ops Q rest (a.put o.dst v') w'):
  wpList prog ops Q (o::rest) a (w1.alloc (.cells (prV y) 55)):=by
 obtain⟨i0,hi,hz0,hz1,hz2⟩:=info_parts infoPr
 refine wpList_append_any hgd s x 32 ho B 55 i0 (.agg #[.string ⟨#[]⟩,.int .i64 0,.int .i64 0,.string ⟨#[]⟩]) 4 48 underlying32 hi hz0 hz1 hz2 rfl (by decide) v _ L.length 1 (prLs L) (prL y) hs (hown.alloc _) hx (cellsAt_ppr w1 y) rfl
  (by intro u hu;simp only[prL,List.mem_cons,List.not_mem_nil,or_false]at hu;rcases hu with rfl|rfl|rfl|rfl<;>rfl) (by unfold maxLen;omega) (by omega) W0 B0 (hbel.alloc (Nat.le_trans hB0 hB) _) (by simp;omega) hB0 ?_
 intro v2 w2 hown2 hb2 hgrow;refine h v2 w2 (by rw[prLs_snoc,List.length_append];exact hown2) hb2 ?_;exact⟨hgrow.os,hgrow.tape,hgrow.output,Nat.le_trans (by simp) hgrow.size,fun k hk hne=>(hgrow.block k (by simp;omega) hne).trans ((World.grownBy_alloc w1 (.cells (prV y) 55) none).block k hk (by simp))⟩
theorem appPr_any{w1:World}{ops:Array Oper}{rest:List Oper}{o:Oper}{a:Act}{Q:Exit→Act→World→Prop}(hgd:o.guard=none)(s x:Operand)
  (ho:o.op=.call { callee:=.builtin .append,args:=#[s,x],argTypes:=#[32,32] }) (B:Nat) (v:Value) (L M:List Pr) (u:Value) (hown:w1.ownsRow B 55 4 v L.length (prLs L))
  (hs:a.eval s=v) (hx:a.eval x=u) (hU:CellsAt w1 u M.length (prLs M)) (hlen:L.length+M.length≤4100000000000) (W0:World) (B0:Nat) (hbel:Below B0 W0 w1) (hB:B≤w1.heap.size) (hB0:B0≤B)
  (h:∀v' w',w'.ownsRow B 55 4 v' (L++M).length (prLs (L++M))→Below B0 W0 w'→w1.grownBy w' v.ownBlock→wpList prog ops Q rest (a.put o.dst v') w'):
  wpList prog ops Q (o::rest) a w1:=by
 obtain⟨i0,hi,hz0,hz1,hz2⟩:=info_parts infoPr;refine wpList_append_any hgd s x 32 ho B 55 i0 (.agg #[.string ⟨#[]⟩,.int .i64 0,.int .i64 0,.string ⟨#[]⟩]) 4 48 underlying32 hi hz0 hz1 hz2 rfl (by decide) v u L.length M.length (prLs L) (prLs M) hs hown hx hU (prLs_length M) (prLs_cell M) (by unfold maxLen;omega) (by omega) W0 B0 hbel hB hB0 ?_;intro v2 w2 ho2 hb2 hg2;exact h v2 w2 (by rw[prLs_app,List.length_append];exact ho2) hb2 hg2
theorem own_cap6{w:World}{base size n cap:Nat}{e:TypeId}{a:Option Addr}{xs:List Value}(h:w.ownsRow base e size (.slice a n cap) n xs):n≤cap:=by
 rcases h.2 with ⟨h1,h2⟩|⟨g,c,cur,h1,_,_,h2,_⟩
 ·omega
 ·cases h1;exact h2
def setX (L:List Pr) (p:Pr):List Pr:=if posP L p<L.length∧(L.getD (posP L p) p00).key=p.key then L.take (posP L p)++p::L.drop (posP L p+1) else L.take (posP L p)++p::L.drop (posP L p)
def PrC (L:List Pr) (w:World) (e:Ending) (w':World):Prop:=∃a c,e=.returned (.slice a L.length c)∧w'.ownsRow w.heap.size 55 4 (.slice a L.length c) L.length (prLs L)∧Below w.heap.size w w'
def StC (a0:Option Addr) (c0:Nat) (L0 L:List (List UInt8)) (w:World) (e:Ending) (w':World):Prop:=∃a c,e=.returned (.slice a L.length c)∧((a=a0∧c=c0∧L=L0)∨w'.ownsRow w.heap.size 9 1 (.slice a L.length c) L.length (L.map strV))∧Below w.heap.size w w'
theorem Rset15_any(a:Option Addr)(cap:Nat)(L:List Pr)(p:Pr)(w:World)(hL:CellsAt w (.slice a L.length cap) L.length (prLs L))(hl:L.length≤4000000000000)(hcap:L.length≤cap):
  Calls prog 130 #[.slice a L.length cap,.agg (prV p)] w (PrC (setX L p) w):=by
 obtain⟨X,hX⟩:=ex_ (setX L p);rw[hX];obtain⟨n,hn⟩:=ex_ (posP L p);have hnl:n≤L.length:=hn ▸ posP_le L p;have hlo:∀k,k<n→∃hk:k<L.length,Op.bytesLess L[k].key p.key=true:=fun k h=>posP_lt (hn ▸ h)
 have hat:∀h:n<L.length,Op.bytesLess L[n].key p.key=false:=fun h=>by subst hn;exact posP_at h
 unfold setX at hX;rw[hn]at hX;have HXX:=h_ hX;clear hX;have hst:=slHi_pr (a:=a) (n:=L.length) (k:=n) (Nat.le_trans hnl hcap);have HCAP:=h_ hcap;clear hcap;have HLO:=h_ hlo;have HAT:=h_ hat;have HL:=h_ hL;clear hlo hat hL hn;simp only[prV];obtain⟨i0,hi,hz0,hz1,hz2⟩:=info_parts infoPr;obtain⟨v0,hW0,hb0,hx0⟩:=boxes1 w #[.string (bs p.key),.int .i64 p.v.k,.int .i64 p.v.n,.string (bs p.v.s)] 55;have HW:=h_ hW0;have HB:=h_ hb0;have HX:=h_ hx0;clear hW0 hb0 hx0;go_enter func130,ntmps130;go_upto_region 1 with (fail);rw[HW.out];clear HW;go_wp2;go_loopw [5] (fun i wr=>∃k:Nat,k≤n∧i=.int .i64 k∧Hid (Bx w.heap.size #[.string (bs p.key),.int .i64 p.v.k,.int .i64 p.v.n,.string (bs p.v.s)] 55 wr)∧Below w.heap.size w wr) (fun i _=>n-(intOf i).toNat)
 case atStart=>exact⟨0,Nat.zero_le _,by first|exact True.intro|rfl,HX,HB.out⟩
 case round =>
  clear HX HB;obtain⟨k,hk,rfl,HX,hB⟩:=hrel;have HB:=h_ hB;clear hB;obtain⟨x0,x1,x2,x3⟩:=HX.out.c4
  have hw1:IntKind.i64.wrap ((k:Int)+1)=(k:Int)+1:=by rw[IntKind.wrap_i64];omega
  by_cases hkn:k<n
  ·obtain⟨hkl,hlt⟩:=HLO.out k hkn
   have hlt':(k:Int)<(L.length:Int):=by omega
   have hkb:(0:Int)≤(k:Int)∧(k:Int)<(L.length:Int):=⟨by omega,by omega⟩;obtain⟨b,off,rfl,p0,-⟩:=pr_cells (HL.out.below HB.out) hkl;go_wp2
   go_quiet (fail)
   go_wp2;go_roundw
   case rel=>exact⟨k+1,by omega,by go_num,h_ (HX.out.drewN _),bdrewN HB.out _⟩
   case measure=>simp[intOf];omega
  have hke:k=n:=by omega
  subst hke;clear hkn hk;by_cases hlt:k<L.length
  ·have hlt':(k:Int)<(L.length:Int):=by omega
   have hkb:(0:Int)≤(k:Int)∧(k:Int)<(L.length:Int):=⟨by omega,by omega⟩;obtain⟨b,off,rfl,p0,-⟩:=pr_cells (HL.out.below HB.out) hlt;have hat:=HAT.out hlt;have hgd:L.getD k p00=L[k]:=getD_at hlt _;rw[hgd]at HXX;clear hgd;go_wp2
   go_quiet (fail)
   have HB:=h_ (bdrewN HB.out nq);have HX:=h_ (HX.out.drewN nq);generalize hWd:wr.drewN nq=u1 at HB HX ⊢;clear hWd x0 x1 x2 x3 p0 hat;obtain⟨x0,x1,x2,x3⟩:=HX.out.c4;obtain⟨b2,off2,hbe,p0,-⟩:=pr_cells (HL.out.below HB.out) hlt;cases hbe;by_cases heq:L[k].key=p.key
   ·have te:(L[k].key==p.key)=true:=by rw[heq];exact beq_self_eq_true _
    have HXE:=h_ (show X=L.take k++p::L.drop (k+1) from HXX.out.symm.trans (if_pos ⟨hlt,heq⟩));clear heq HXX;go_wp2
    go_quiet (fail)
    have HB:=h_ (bdrewN HB.out nq);have HX:=h_ (HX.out.drewN nq);generalize hWd:u1.drewN nq=u2 at HB HX ⊢;clear hWd;clear te p0;clear x0 x1 x2 x3;obtain⟨da,hsd,hdc⟩:=slLo_pr (a:=(some ⟨b,off,none⟩)) (cap:=cap) (L:=L) (k:=k+1) (by omega);have HDC:=h_ hdc;clear hdc
    have hsd:∀w,(Instr.sliceAt 32 (.slice (some ⟨b,off,none⟩) L.length cap) (some (.int .i64 ((k:Int)+1))) none none).run prog w=.ok (.slice da (L.length-(k+1)) (cap-(k+1))) w:=fun w=>by have h:=hsd w;rwa [show (((k+1:Nat)):Int)=(k:Int)+1 by omega]at h
    go_wp2_with (at_builtin;refine appPr_any rfl _ _ rfl (w.heap.size+1) (.slice none 0 0) [] (L.take k) _ (World.ownsRow_nil _ _ _ _) rfl rfl (cells_take_pr hnl (HL.out.below HB.out)) (by simp;omega) w w.heap.size HB.out HX.out.lt (Nat.le_succ _) ?_);intro v2 w2 ho2 hb2 hg2;have HX:=h_ (HX.out.app hg2 (World.ownsRow_nil _ _ 55 4) (Nat.lt_succ_self w.heap.size));have HB:=h_ hb2;have HO:=h_ (show w2.ownsRow (w.heap.size+1) 55 4 v2 (L.take k).length (prLs (L.take k)) from by rw[List.length_take,Nat.min_eq_left hnl];exact ho2);clear ho2 hb2 hg2;obtain⟨x0,x1,x2,x3⟩:=HX.out.c4;go_wp2_with (at_builtin;refine appPr1_any rfl _ _ rfl (w.heap.size+1) v2 _ p HO.out rfl rfl (by rw[List.length_take];omega) w w.heap.size HB.out HX.out.lt (Nat.le_succ _) ?_);intro v3 w3 ho3 hb3 hg3;have HX:=h_ (HX.out.app hg3 HO.out (Nat.lt_succ_self w.heap.size));have HB:=h_ hb3;have HO:=h_ (show w3.ownsRow (w.heap.size+1) 55 4 v3 (L.take k++[p]).length (prLs (L.take k++[p])) from by rw[List.length_append,List.length_take,Nat.min_eq_left hnl];exact ho3);clear ho3 hb3 hg3 x0 x1 x2 x3;go_wp2_with (at_builtin;refine appPr_any rfl _ _ rfl (w.heap.size+1) v3 _ (L.drop (k+1)) _ HO.out rfl rfl (HDC.out _ (HL.out.below HB.out) HCAP.out) (by rw[List.length_append,List.length_take,List.length_drop];simp;omega) w w.heap.size HB.out HX.out.lt (Nat.le_succ _) ?_);intro v4 w4 ho4 hb4 hg4;have HO:=h_ (show w4.ownsRow (w.heap.size+1) 55 4 v4 X.length (prLs X) from by rw[HXE.out,show (L.take k++p::L.drop (k+1)).length=k+(L.length-(k+1)+1) from by rw[List.length_append,List.length_cons,List.length_take,List.length_drop,Nat.min_eq_left hnl]];exact ho4);have HB:=h_ hb4;clear ho4 hb4 hg4;obtain⟨va,vc,hvv⟩:=own_sl HO.out;subst hvv;go_wp2;go_ret;exact⟨va,vc,by rw[HXE.out];first|rfl|(congr 2;simp;omega),own_mono HO.out (Nat.le_succ _),HB.out⟩
   have te:(L[k].key==p.key)=false:=by rw[beq_eq_false_iff_ne];exact heq
   have HXE:=h_ (show X=L.take k++p::L.drop k from HXX.out.symm.trans (if_neg (fun q=>heq q.2)));clear heq HXX;go_wp2
   go_quiet (fail)
   have HB:=h_ (bdrewN HB.out nq);have HX:=h_ (HX.out.drewN nq);generalize hWd:u1.drewN nq=u2 at HB HX ⊢;clear hWd;clear te p0;clear x0 x1 x2 x3;obtain⟨da,hsd,hdc⟩:=slLo_pr (a:=(some ⟨b,off,none⟩)) (cap:=cap) (L:=L) (k:=k) (by omega);have HDC:=h_ hdc;clear hdc;go_wp2_with (at_builtin;refine appPr_any rfl _ _ rfl (w.heap.size+1) (.slice none 0 0) [] (L.take k) _ (World.ownsRow_nil _ _ _ _) rfl rfl (cells_take_pr hnl (HL.out.below HB.out)) (by simp;omega) w w.heap.size HB.out HX.out.lt (Nat.le_succ _) ?_);intro v2 w2 ho2 hb2 hg2;have HX:=h_ (HX.out.app hg2 (World.ownsRow_nil _ _ 55 4) (Nat.lt_succ_self w.heap.size));have HB:=h_ hb2;have HO:=h_ (show w2.ownsRow (w.heap.size+1) 55 4 v2 (L.take k).length (prLs (L.take k)) from by rw[List.length_take,Nat.min_eq_left hnl];exact ho2);clear ho2 hb2 hg2;obtain⟨x0,x1,x2,x3⟩:=HX.out.c4;go_wp2_with (at_builtin;refine appPr1_any rfl _ _ rfl (w.heap.size+1) v2 _ p HO.out rfl rfl (by rw[List.length_take];omega) w w.heap.size HB.out HX.out.lt (Nat.le_succ _) ?_);intro v3 w3 ho3 hb3 hg3;have HX:=h_ (HX.out.app hg3 HO.out (Nat.lt_succ_self w.heap.size));have HB:=h_ hb3;have HO:=h_ (show w3.ownsRow (w.heap.size+1) 55 4 v3 (L.take k++[p]).length (prLs (L.take k++[p])) from by rw[List.length_append,List.length_take,Nat.min_eq_left hnl];exact ho3);clear ho3 hb3 hg3 x0 x1 x2 x3;go_wp2_with (at_builtin;refine appPr_any rfl _ _ rfl (w.heap.size+1) v3 _ (L.drop (k)) _ HO.out rfl rfl (HDC.out _ (HL.out.below HB.out) HCAP.out) (by rw[List.length_append,List.length_take,List.length_drop];simp;omega) w w.heap.size HB.out HX.out.lt (Nat.le_succ _) ?_);intro v4 w4 ho4 hb4 hg4;have HO:=h_ (show w4.ownsRow (w.heap.size+1) 55 4 v4 X.length (prLs X) from by rw[HXE.out,show (L.take k++p::L.drop (k)).length=k+(L.length-(k)+1) from by rw[List.length_append,List.length_cons,List.length_take,List.length_drop,Nat.min_eq_left hnl]];exact ho4);have HB:=h_ hb4;clear ho4 hb4 hg4;obtain⟨va,vc,hvv⟩:=own_sl HO.out;subst hvv;go_wp2;go_ret;exact⟨va,vc,by rw[HXE.out];first|rfl|(congr 2;simp;omega),own_mono HO.out (Nat.le_succ _),HB.out⟩
  have hlt':¬(k:Int)<(L.length:Int):=by omega
  have HXE:=h_ (show X=L.take k++p::L.drop k from HXX.out.symm.trans (if_neg (fun q=>hlt q.1)));clear HXX;go_wp2
  go_quiet (fail)
  have HB:=h_ (bdrewN HB.out nq);have HX:=h_ (HX.out.drewN nq);generalize hWd:wr.drewN nq=u1 at HB HX ⊢;clear hWd;go_wp2
  go_quiet (fail)
  have HB:=h_ (bdrewN HB.out nq);have HX:=h_ (HX.out.drewN nq);generalize hWd:u1.drewN nq=u2 at HB HX ⊢;clear hWd;clear x0 x1 x2 x3;obtain⟨da,hsd,hdc⟩:=slLo_pr (a:=a) (cap:=cap) (L:=L) (k:=k) (by omega);have HDC:=h_ hdc;clear hdc;go_wp2_with (at_builtin;refine appPr_any rfl _ _ rfl (w.heap.size+1) (.slice none 0 0) [] (L.take k) _ (World.ownsRow_nil _ _ _ _) rfl rfl (cells_take_pr hnl (HL.out.below HB.out)) (by simp;omega) w w.heap.size HB.out HX.out.lt (Nat.le_succ _) ?_);intro v2 w2 ho2 hb2 hg2;have HX:=h_ (HX.out.app hg2 (World.ownsRow_nil _ _ 55 4) (Nat.lt_succ_self w.heap.size));have HB:=h_ hb2;have HO:=h_ (show w2.ownsRow (w.heap.size+1) 55 4 v2 (L.take k).length (prLs (L.take k)) from by rw[List.length_take,Nat.min_eq_left hnl];exact ho2);clear ho2 hb2 hg2;obtain⟨x0,x1,x2,x3⟩:=HX.out.c4;go_wp2_with (at_builtin;refine appPr1_any rfl _ _ rfl (w.heap.size+1) v2 _ p HO.out rfl rfl (by rw[List.length_take];omega) w w.heap.size HB.out HX.out.lt (Nat.le_succ _) ?_);intro v3 w3 ho3 hb3 hg3;have HX:=h_ (HX.out.app hg3 HO.out (Nat.lt_succ_self w.heap.size));have HB:=h_ hb3;have HO:=h_ (show w3.ownsRow (w.heap.size+1) 55 4 v3 (L.take k++[p]).length (prLs (L.take k++[p])) from by rw[List.length_append,List.length_take,Nat.min_eq_left hnl];exact ho3);clear ho3 hb3 hg3 x0 x1 x2 x3;go_wp2_with (at_builtin;refine appPr_any rfl _ _ rfl (w.heap.size+1) v3 _ (L.drop (k)) _ HO.out rfl rfl (HDC.out _ (HL.out.below HB.out) HCAP.out) (by rw[List.length_append,List.length_take,List.length_drop];simp;omega) w w.heap.size HB.out HX.out.lt (Nat.le_succ _) ?_);intro v4 w4 ho4 hb4 hg4;have HO:=h_ (show w4.ownsRow (w.heap.size+1) 55 4 v4 X.length (prLs X) from by rw[HXE.out,show (L.take k++p::L.drop (k)).length=k+(L.length-(k)+1) from by rw[List.length_append,List.length_cons,List.length_take,List.length_drop,Nat.min_eq_left hnl]];exact ho4);have HB:=h_ hb4;clear ho4 hb4 hg4;obtain⟨va,vc,hvv⟩:=own_sl HO.out;subst hvv;go_wp2;go_ret;exact⟨va,vc,by rw[HXE.out];first|rfl|(congr 2;simp;omega),own_mono HO.out (Nat.le_succ _),HB.out⟩
theorem slHi_st{a:Option Addr}{n cap k:Nat}(hk:k≤cap):∀w,(Instr.sliceAt 27 (.slice a n cap) none (some (.int .i64 (k:Int))) none).run prog w=.ok (.slice a k cap) w:=by
 obtain⟨i0,hi,-⟩:=info_parts Tryz.info9;exact fun w=>run_slHi underlying27 hi a n cap k hk w
theorem strs_take{W:World}{a:Option Addr}{n c:Nat}{L:List (List UInt8)}{k:Nat}(hk:k≤L.length)(h:StrS W (.slice a n c) L):StrS W (.slice a k c) (L.take k):=by
 obtain⟨a2,c2,he,hcp,hc⟩:=h;cases he;refine⟨a,c,by rw[List.length_take,Nat.min_eq_left hk],by rw[List.length_take];omega,fun hne=>?_⟩;obtain⟨b,off,hb,hcell⟩:=hc (fun q=>hne (by rw[q];simp));refine⟨b,off,hb,fun j hj=>?_⟩;rw[List.length_take]at hj;rw[List.getElem_take];exact hcell j (by omega)
theorem slLo_st{a:Option Addr}{cap k:Nat}{L:List (List UInt8)}(hk:k≤L.length):∃ad,(∀w,(Instr.sliceAt 27 (.slice a L.length cap) (some (.int .i64 (k:Int))) none none).run prog w=.ok (.slice ad (L.length-k) (cap-k)) w)∧∀W,StrS W (.slice a L.length cap) L→StrS W (.slice ad (L.length-k) (cap-k)) (L.drop k):=by
 obtain⟨i0,hi,-,hz1,-⟩:=info_parts Tryz.info9;refine⟨_,fun w=>run_slLo underlying27 hi a L.length cap k hk w,fun W h=>?_⟩;rw[hz1];obtain⟨a2,c2,he,hcp,hx⟩:=h;cases he;refine⟨_,_,by rw[List.length_drop],by rw[List.length_drop];omega,fun hne=>?_⟩;obtain⟨b,off,rfl,hcell⟩:=hx (fun q=>hne (by rw[q];simp))
 have hkl:cap≠k:=by
  intro q;exact hne (List.drop_of_length_le (by omega))
 rw[if_neg hkl];refine⟨b,off+k,by simp[Addr.add],fun j hj=>?_⟩;rw[List.length_drop]at hj;rw[List.getElem_drop,Nat.add_assoc];exact hcell (k+j) (by omega)
theorem posK_lt{L:List (List UInt8)}{x:List UInt8}{k:Nat}(h:k<posK L x):∃hk:k<L.length,Op.bytesLess L[k] x=true:=by
 have hk:k<L.length:=Nat.lt_of_lt_of_le h (pos_le L x);refine⟨hk,?_⟩;have:=pos_lo h
 rwa [getD_at hk]at this
theorem posK_at{L:List (List UInt8)}{x:List UInt8}(h:posK L x<L.length):Op.bytesLess L[posK L x] x=false:=by
 unfold posK at h ⊢;have:=List.findIdx_getElem (w:=h);simpa using this
theorem Rwith15_any(a:Option Addr)(cap:Nat)(L:List (List UInt8))(p:List UInt8)(w:World)(hL:StrS w (.slice a L.length cap) L)(hl:L.length≤900000000000):
  Calls prog 129 #[.slice a L.length cap,.string (bs p)] w (StC a cap L (withK L p) w):=by
 have hcap:L.length≤cap:=by obtain⟨a2,c2,he,h,-⟩:=id hL;cases he;exact h
 obtain⟨X,hX⟩:=ex_ (withK L p);rw[hX];unfold withK fndK putK at hX;obtain⟨n,hn⟩:=ex_ (posK L p);have hnl:n≤L.length:=hn ▸ pos_le L p;have hlo:∀k,k<n→∃hk:k<L.length,Op.bytesLess L[k] p=true:=fun k h=>posK_lt (hn ▸ h)
 have hat:∀h:n<L.length,Op.bytesLess L[n] p=false:=fun h=>by subst hn;exact posK_at h
 rw[hn]at hX;have HXX:=h_ hX;clear hX;have hst:=slHi_st (a:=a) (n:=L.length) (k:=n) (Nat.le_trans hnl hcap);clear hcap;have HLO:=h_ hlo;have HAT:=h_ hat;have HL:=h_ hL;clear hlo hat hL hn;go_enter func129,ntmps129;go_wp2;go_loopw [5] (fun i wr=>∃k:Nat,k≤n∧i=.int .i64 k∧Below w.heap.size w wr) (fun i _=>n-(intOf i).toNat)
 case atStart=>exact⟨0,Nat.zero_le _,by first|exact True.intro|rfl,Below.refl _ _⟩
 case round =>
  obtain⟨k,hk,rfl,hB⟩:=hrel;have HB:=h_ hB;clear hB
  have hw1:IntKind.i64.wrap ((k:Int)+1)=(k:Int)+1:=by rw[IntKind.wrap_i64];omega
  by_cases hkn:k<n
  ·obtain⟨hkl,hlt⟩:=HLO.out k hkn
   have hlt':(k:Int)<(L.length:Int):=by omega
   have hkb:(0:Int)≤(k:Int)∧(k:Int)<(L.length:Int):=⟨by omega,by omega⟩;obtain⟨b,off,rfl,p0⟩:=str_cell (HL.out.below HB.out) hkl;go_wp2;go_roundw
   case rel=>exact⟨k+1,by omega,by go_num,HB.out⟩
   case measure=>simp[intOf];omega
  have hke:k=n:=by omega
  subst hke;clear hkn hk;by_cases hlt:k<L.length
  ·have hlt':(k:Int)<(L.length:Int):=by omega
   have hkb:(0:Int)≤(k:Int)∧(k:Int)<(L.length:Int):=⟨by omega,by omega⟩;obtain⟨b,off,rfl,p0⟩:=str_cell (HL.out.below HB.out) hlt;have hat:=HAT.out hlt;have hgd:L.getD k p=L[k]:=getD_at hlt _;rw[hgd]at HXX;clear hgd;by_cases heq:L[k]=p
   ·have te:(L[k]==p)=true:=by rw[heq];exact beq_self_eq_true _
    have HXE:=h_ (show X=L from HXX.out.symm.trans (if_pos (decide_eq_true ⟨hlt,heq⟩)));clear heq HXX;go_wp2;go_ret;exact⟨some ⟨b,off,none⟩,cap,by simp[HXE.out],.inl ⟨rfl,rfl,HXE.out⟩,HB.out⟩
   have te:(L[k]==p)=false:=by rw[beq_eq_false_iff_ne];exact heq
   have HXE:=h_ (show X=L.take k++p::L.drop k from HXX.out.symm.trans (if_neg (fun q=>heq (of_decide_eq_true q).2)));clear heq HXX;obtain⟨da,hsd,hdc⟩:=slLo_st (a:=(some ⟨b,off,none⟩)) (cap:=cap) (L:=L) (k:=k) (by omega);have HDC:=h_ hdc;clear hdc;go_wp2_with (at_builtin;refine wpList_append_strs rfl _ _ rfl w.heap.size (.slice none 0 0) (.slice (some ⟨b,off,none⟩) k cap) [] (L.take k) (own_nil _ _ _ _) (strs_take hnl (HL.out.below HB.out)) rfl rfl (by simp) (by rw[List.length_take];omega) w HB.out HB.out.size ?_);intro v2 w2 ho2 hb2;have HB:=h_ hb2;have HO:=h_ (show w2.ownsRow w.heap.size 9 1 v2 (L.take k).length ((L.take k).map strV) from by rw[List.length_take,Nat.min_eq_left hnl,List.map_take];exact ho2);clear ho2 hb2;go_wp2_with (at_builtin;refine wpList_append_str rfl _ _ rfl w.heap.size v2 _ p HO.out rfl rfl (by rw[List.length_take];omega) w HB.out HB.out.size ?_);intro v3 w3 ho3 hb3 hg3;have HB:=h_ hb3;have HO:=h_ (show w3.ownsRow w.heap.size 9 1 v3 (L.take k++[p]).length ((L.take k++[p]).map strV) from by rw[List.length_append,List.length_take,Nat.min_eq_left hnl,List.map_append,List.map_take];exact ho3);clear ho3 hb3 hg3;go_wp2_with (at_builtin;refine wpList_append_strs rfl _ _ rfl w.heap.size v3 (.slice da (L.length-k) (cap-k)) _ (L.drop k) HO.out (HDC.out _ (HL.out.below HB.out)) rfl rfl (by rw[List.length_append,List.length_take];simp;omega) (by rw[List.length_drop];omega) w HB.out HB.out.size ?_);intro v4 w4 ho4 hb4;have HB:=h_ hb4;have HO:=h_ (show w4.ownsRow w.heap.size 9 1 v4 X.length (X.map strV) from by rw[HXE.out,show (L.take k++p::L.drop k).length=k+(L.length-k+1) from by rw[List.length_append,List.length_cons,List.length_take,List.length_drop,Nat.min_eq_left hnl]];simpa using ho4);clear ho4 hb4;obtain⟨va,vc,hvv⟩:=own_sl HO.out;subst hvv;go_wp2;go_ret;exact⟨va,vc,by rw[HXE.out];first|rfl|(congr 2;simp;omega),.inr HO.out,HB.out⟩
  have hlt':¬(k:Int)<(L.length:Int):=by omega
  have HXE:=h_ (show X=L.take k++p::L.drop k from HXX.out.symm.trans (if_neg (fun q=>hlt (of_decide_eq_true q).1)));clear HXX;obtain⟨da,hsd,hdc⟩:=slLo_st (a:=a) (cap:=cap) (L:=L) (k:=k) (by omega);have HDC:=h_ hdc;clear hdc;go_wp2_with (at_builtin;refine wpList_append_strs rfl _ _ rfl w.heap.size (.slice none 0 0) (.slice a k cap) [] (L.take k) (own_nil _ _ _ _) (strs_take hnl (HL.out.below HB.out)) rfl rfl (by simp) (by rw[List.length_take];omega) w HB.out HB.out.size ?_);intro v2 w2 ho2 hb2;have HB:=h_ hb2;have HO:=h_ (show w2.ownsRow w.heap.size 9 1 v2 (L.take k).length ((L.take k).map strV) from by rw[List.length_take,Nat.min_eq_left hnl,List.map_take];exact ho2);clear ho2 hb2;go_wp2_with (at_builtin;refine wpList_append_str rfl _ _ rfl w.heap.size v2 _ p HO.out rfl rfl (by rw[List.length_take];omega) w HB.out HB.out.size ?_);intro v3 w3 ho3 hb3 hg3;have HB:=h_ hb3;have HO:=h_ (show w3.ownsRow w.heap.size 9 1 v3 (L.take k++[p]).length ((L.take k++[p]).map strV) from by rw[List.length_append,List.length_take,Nat.min_eq_left hnl,List.map_append,List.map_take];exact ho3);clear ho3 hb3 hg3;go_wp2_with (at_builtin;refine wpList_append_strs rfl _ _ rfl w.heap.size v3 (.slice da (L.length-k) (cap-k)) _ (L.drop k) HO.out (HDC.out _ (HL.out.below HB.out)) rfl rfl (by rw[List.length_append,List.length_take];simp;omega) (by rw[List.length_drop];omega) w HB.out HB.out.size ?_);intro v4 w4 ho4 hb4;have HB:=h_ hb4;have HO:=h_ (show w4.ownsRow w.heap.size 9 1 v4 X.length (X.map strV) from by rw[HXE.out,show (L.take k++p::L.drop k).length=k+(L.length-k+1) from by rw[List.length_append,List.length_cons,List.length_take,List.length_drop,Nat.min_eq_left hnl]];simpa using ho4);clear ho4 hb4;obtain⟨va,vc,hvv⟩:=own_sl HO.out;subst hvv;go_wp2;go_ret;exact⟨va,vc,by rw[HXE.out];first|rfl|(congr 2;simp;omega),.inr HO.out,HB.out⟩
theorem bxs1(w:World)(A0:Array Value)(T0:TypeId):∃v0,w.alloc (.cells A0 T0)=v0∧Below w.heap.size w v0∧Bx (w.heap.size) A0 T0 v0:=by
 have h0:=Bx.new w A0 T0;exact⟨_,rfl,(Below.refl w.heap.size w).alloc (Nat.le_refl _) _,h0⟩
theorem bxs2(w:World)(A0 A1:Array Value)(T0 T1:TypeId):∃v0,(w.alloc (.cells A0 T0)).alloc (.cells A1 T1)=v0∧Below w.heap.size w v0∧Bx (w.heap.size) A0 T0 v0∧Bx (w.heap.size+1) A1 T1 v0:=by
 have h0:=Bx.new w A0 T0;have h1:=Bx.new (w.alloc (.cells A0 T0)) A1 T1;rw[show (w.alloc (.cells A0 T0)).heap.size=w.heap.size+1 by simp]at h1;exact⟨_,rfl,((Below.refl w.heap.size w).alloc (Nat.le_refl _) _).alloc (by simp) _,(h0.alloc _),h1⟩
theorem bxs3(w:World)(A0 A1 A2:Array Value)(T0 T1 T2:TypeId):∃v0,((w.alloc (.cells A0 T0)).alloc (.cells A1 T1)).alloc (.cells A2 T2)=v0∧Below w.heap.size w v0∧Bx (w.heap.size) A0 T0 v0∧Bx (w.heap.size+1) A1 T1 v0∧Bx (w.heap.size+2) A2 T2 v0:=by
 have h0:=Bx.new w A0 T0;have h1:=Bx.new (w.alloc (.cells A0 T0)) A1 T1;rw[show (w.alloc (.cells A0 T0)).heap.size=w.heap.size+1 by simp]at h1;have h2:=Bx.new ((w.alloc (.cells A0 T0)).alloc (.cells A1 T1)) A2 T2;rw[show ((w.alloc (.cells A0 T0)).alloc (.cells A1 T1)).heap.size=w.heap.size+2 by simp]at h2;exact⟨_,rfl,(((Below.refl w.heap.size w).alloc (Nat.le_refl _) _).alloc (by simp) _).alloc (by simp;omega) _,((h0.alloc _).alloc _),(h1.alloc _),h2⟩
theorem bxs4(w:World)(A0 A1 A2 A3:Array Value)(T0 T1 T2 T3:TypeId):∃v0,(((w.alloc (.cells A0 T0)).alloc (.cells A1 T1)).alloc (.cells A2 T2)).alloc (.cells A3 T3)=v0∧Below w.heap.size w v0∧Bx (w.heap.size) A0 T0 v0∧Bx (w.heap.size+1) A1 T1 v0∧Bx (w.heap.size+2) A2 T2 v0∧Bx (w.heap.size+3) A3 T3 v0:=by
 have h0:=Bx.new w A0 T0;have h1:=Bx.new (w.alloc (.cells A0 T0)) A1 T1;rw[show (w.alloc (.cells A0 T0)).heap.size=w.heap.size+1 by simp]at h1;have h2:=Bx.new ((w.alloc (.cells A0 T0)).alloc (.cells A1 T1)) A2 T2;rw[show ((w.alloc (.cells A0 T0)).alloc (.cells A1 T1)).heap.size=w.heap.size+2 by simp]at h2;have h3:=Bx.new (((w.alloc (.cells A0 T0)).alloc (.cells A1 T1)).alloc (.cells A2 T2)) A3 T3;rw[show (((w.alloc (.cells A0 T0)).alloc (.cells A1 T1)).alloc (.cells A2 T2)).heap.size=w.heap.size+3 by simp]at h3;exact⟨_,rfl,((((Below.refl w.heap.size w).alloc (Nat.le_refl _) _).alloc (by simp) _).alloc (by simp;omega) _).alloc (by simp;omega) _,(((h0.alloc _).alloc _).alloc _),((h1.alloc _).alloc _),(h2.alloc _),h3⟩
theorem bxs5(w:World)(A0 A1 A2 A3 A4:Array Value)(T0 T1 T2 T3 T4:TypeId):∃v0,((((w.alloc (.cells A0 T0)).alloc (.cells A1 T1)).alloc (.cells A2 T2)).alloc (.cells A3 T3)).alloc (.cells A4 T4)=v0∧Below w.heap.size w v0∧Bx (w.heap.size) A0 T0 v0∧Bx (w.heap.size+1) A1 T1 v0∧Bx (w.heap.size+2) A2 T2 v0∧Bx (w.heap.size+3) A3 T3 v0∧Bx (w.heap.size+4) A4 T4 v0:=by
 have h0:=Bx.new w A0 T0;have h1:=Bx.new (w.alloc (.cells A0 T0)) A1 T1;rw[show (w.alloc (.cells A0 T0)).heap.size=w.heap.size+1 by simp]at h1;have h2:=Bx.new ((w.alloc (.cells A0 T0)).alloc (.cells A1 T1)) A2 T2;rw[show ((w.alloc (.cells A0 T0)).alloc (.cells A1 T1)).heap.size=w.heap.size+2 by simp]at h2;have h3:=Bx.new (((w.alloc (.cells A0 T0)).alloc (.cells A1 T1)).alloc (.cells A2 T2)) A3 T3;rw[show (((w.alloc (.cells A0 T0)).alloc (.cells A1 T1)).alloc (.cells A2 T2)).heap.size=w.heap.size+3 by simp]at h3;have h4:=Bx.new ((((w.alloc (.cells A0 T0)).alloc (.cells A1 T1)).alloc (.cells A2 T2)).alloc (.cells A3 T3)) A4 T4;rw[show ((((w.alloc (.cells A0 T0)).alloc (.cells A1 T1)).alloc (.cells A2 T2)).alloc (.cells A3 T3)).heap.size=w.heap.size+4 by simp]at h4;exact⟨_,rfl,(((((Below.refl w.heap.size w).alloc (Nat.le_refl _) _).alloc (by simp) _).alloc (by simp;omega) _).alloc (by simp;omega) _).alloc (by simp;omega) _,((((h0.alloc _).alloc _).alloc _).alloc _),(((h1.alloc _).alloc _).alloc _),((h2.alloc _).alloc _),(h3.alloc _),h4⟩
structure Rx where
 M:List Pr
 F:Ft
 own:List Pr
 st:Int
 code:Int
 out:List Vl
 rds:List (List UInt8)
 puts:List (List UInt8)
 miss:List UInt8
 steps:Int
structure Ra where
 sa:Option Addr
 sc:Nat
 ra:Option Addr
 rc:Nat
 wa:Option Addr
 wc:Nat
 oa:Option Addr
 oc:Nat
 ta:Option Addr
 tc:Nat
 ea:Option Addr
 ec:Nat
 ua:Option Addr
 uc:Nat
def mvA (R:Ra) (X:Rx):Array Value:=#[.slice R.sa X.M.length R.sc,.bool X.F.all,.slice R.ra X.F.rd.length R.rc,.slice R.wa X.F.wr.length R.wc,.slice none 0 0,.slice R.oa X.own.length R.oc,.int .i64 X.st,.int .i64 X.code,.slice R.ta X.out.length R.tc,.slice R.ea X.rds.length R.ec,.slice R.ua X.puts.length R.uc,.slice none 0 0,.string (bs X.miss),.int .i64 X.steps]
structure RIn (R:Ra) (X:Rx) (W:World):Prop where
 M:CellsAt W (.slice R.sa X.M.length R.sc) X.M.length (prLs X.M)
 r:StrS W (.slice R.ra X.F.rd.length R.rc) X.F.rd
 w:StrS W (.slice R.wa X.F.wr.length R.wc) X.F.wr
 o:CellsAt W (.slice R.oa X.own.length R.oc) X.own.length (prLs X.own)
 oc:X.own.length≤R.oc
 t:CellsAt W (.slice R.ta X.out.length R.tc) X.out.length (vlLs X.out)
 e:StrS W (.slice R.ea X.rds.length R.ec) X.rds
 u:StrS W (.slice R.ua X.puts.length R.uc) X.puts
theorem RIn.below{R:Ra}{X:Rx}{W W':World}(h:RIn R X W)(hb:Below W.heap.size W W'):RIn R X W':=⟨h.M.below hb,h.r.below hb,h.w.below hb,h.o.below hb,h.oc,h.t.below hb,h.e.below hb,h.u.below hb⟩
structure RL (X:Rx):Prop where
 M:X.M.length≤9000000000000
 r:X.F.rd.length≤9000000000000
 w:X.F.wr.length≤9000000000000
 o:X.own.length≤100000000
 t:X.out.length≤100000000
 e:X.rds.length≤100000000
 u:X.puts.length≤100000000
def MPost (D:Nat→Prop) (X:Rx) (w:World) (e:Ending) (w':World):Prop:=∃R,e=.returned (.agg (mvA R X))∧Stab D w' (RIn R X)∧Below w.heap.size w w'
def VPo (D:Nat→Prop) (v:Vl) (X:Rx) (w:World) (e:Ending) (w':World):Prop:=∃R,e=.returned (.tuple #[.agg (vV v),.agg (mvA R X)])∧Stab D w' (RIn R X)∧Below w.heap.size w w'
def abX (c:Int) (X:Rx):Rx:={ X with st:=2,code:=c,out:=[] }
def reX (k:List UInt8) (X:Rx):Rx:={ X with st:=3,code:=0,out:=[],miss:=k }
def tickX (X:Rx):Rx:=if 16384<X.steps+1 then abX 1008 { X with steps:=X.steps+1 } else { X with steps:=X.steps+1 }
def cmE (X:Rx):Ef:=⟨1,X.code,X.out,X.rds,X.puts,X.own,X.miss,X.steps⟩
def emX (v:Vl) (X:Rx):Rx:=if 16≤X.out.length then abX 1007 X else { X with out:=X.out++[v] }
def stX (k:List UInt8) (v:Vl) (X:Rx):Rx:=
 if keyB k=false then abX 1004 X else if X.F.all=false∧X.F.wr.contains k=false then reX k X else { X with puts:=withK X.puts k,own:=setX X.own ⟨k,v⟩ }
def fetX (k:List UInt8) (X:Rx):Vl × Rx:=
 if keyB k=false then (v00,abX 1004 X) else if X.puts.contains k=true then (getP X.own k,X) else if X.F.all=false∧X.F.rd.contains k=false then (v00,reX k X) else (getP X.M k,{ X with rds:=withK X.rds k })
theorem cellsAt_none(W:World)(n c:Nat):CellsAt W (.slice none n c) n []:=⟨none,c,rfl,fun h=>absurd rfl h⟩
theorem RIn.noOut{R:Ra}{X:Rx}{W:World}(h:RIn R X W)(c:Int):RIn { R with ta:=none,tc:=0 } (abX c X) W:=⟨h.M,h.r,h.w,h.o,h.oc,cellsAt_none _ _ _,h.e,h.u⟩
theorem RIn.noOut2{R:Ra}{X:Rx}{W:World}(h:RIn R X W)(k:List UInt8):RIn { R with ta:=none,tc:=0 } (reX k X) W:=⟨h.M,h.r,h.w,h.o,h.oc,cellsAt_none _ _ _,h.e,h.u⟩
theorem RIn.num{R:Ra}{X:Rx}{W:World}(h:RIn R X W)(a b c:Int)(k:List UInt8):RIn R { X with st:=a,code:=b,steps:=c,miss:=k } W:=⟨h.M,h.r,h.w,h.o,h.oc,h.t,h.e,h.u⟩
theorem RAbort_any(c:Int)(D:Nat→Prop)(R:Ra)(X:Rx)(w:World)(_hD:∀k,D k→k<w.heap.size)(hR:Stab D w (RIn R X)):
  Calls prog 42 #[.agg (mvA R X),.int .i64 c] w (MPost D (abX c X) w):=by
 have HR:=h_ hR;clear hR;obtain⟨v0,hW0,hb0,hHM,hHY⟩:=bxs2 w (mvA R X) (#[.slice none 0 0,.bool false,.slice none 0 0,.slice none 0 0,.slice none 0 0,.slice none 0 0,.int .i64 0,.int .i64 0,.slice none 0 0,.slice none 0 0,.slice none 0 0,.slice none 0 0,.string ⟨#[]⟩,.int .i64 0]) 83 83;have HW:=h_ hW0;have HB:=h_ hb0;have HM:=h_ hHM;have HY:=h_ hHY;clear hW0 hb0 hHM hHY;go_enter func42,ntmps42;go_upto_region 1 with (fail);rw[HW.out];clear HW;go_wp2_with (refine HM.out.ws 6 (.agg #[.int .i64 2,.int .i64 c,.slice none 0 0]) (mvA { R with ta:=none,tc:=0 } (abX c X)) ?_);intro W1 HM p1;have HY:=HY.out.q p1;have HB:=pb HB p1;clear p1;go_wp2_with (first|refine HM.out.wl 0 (mvA { R with ta:=none,tc:=0 } (abX c X)) underlying83 ?_|refine HY.out.wa (mvA { R with ta:=none,tc:=0 } (abX c X)) ?_);intro W2 HY p2;have HM:=HM.out.q p2;have HB:=pb HB p2;clear p2;go_wp2;exact HY.out.r1 underlying83 ⟨{ R with ta:=none,tc:=0 },rfl,(HR.out.inn HB.out 2).out.imp fun W h=>h.noOut c,HB.out⟩
theorem Rrestart_any(k:List UInt8)(D:Nat→Prop)(R:Ra)(X:Rx)(w:World)(_hD:∀k,D k→k<w.heap.size)(hR:Stab D w (RIn R X)):
  Calls prog 128 #[.agg (mvA R X),.string (bs k)] w (MPost D (reX k X) w):=by
 have HR:=h_ hR;clear hR;obtain⟨v0,hW0,hb0,hHM,hHY⟩:=bxs2 w (mvA R X) (#[.slice none 0 0,.bool false,.slice none 0 0,.slice none 0 0,.slice none 0 0,.slice none 0 0,.int .i64 0,.int .i64 0,.slice none 0 0,.slice none 0 0,.slice none 0 0,.slice none 0 0,.string ⟨#[]⟩,.int .i64 0]) 83 83;have HW:=h_ hW0;have HB:=h_ hb0;have HM:=h_ hHM;have HY:=h_ hHY;clear hW0 hb0 hHM hHY;go_enter func128,ntmps128;go_upto_region 1 with (fail);rw[HW.out];clear HW;go_wp2_with (refine HM.out.ws 6 (.agg #[.int .i64 3,.int .i64 0,.slice none 0 0]) (mvA { R with ta:=none,tc:=0 } { X with st:=3,code:=0,out:=[] }) ?_);intro W1 HM p1;have HY:=HY.out.q p1;have HB:=pb HB p1;clear p1;go_wp2_with (refine HM.out.ws 12 (.string (bs k)) (mvA { R with ta:=none,tc:=0 } (reX k X)) ?_);intro W2 HM p2;have HY:=HY.out.q p2;have HB:=pb HB p2;clear p2;go_wp2_with (first|refine HM.out.wl 0 (mvA { R with ta:=none,tc:=0 } (reX k X)) underlying83 ?_|refine HY.out.wa (mvA { R with ta:=none,tc:=0 } (reX k X)) ?_);intro W3 HY p3;have HM:=HM.out.q p3;have HB:=pb HB p3;clear p3;go_wp2;exact HY.out.r1 underlying83 ⟨{ R with ta:=none,tc:=0 },rfl,(HR.out.inn HB.out 2).out.imp fun W h=>h.noOut2 k,HB.out⟩
theorem RTick_any(D:Nat→Prop)(R:Ra)(X:Rx)(w:World)(hD:∀k,D k→k<w.heap.size)(hR:Stab D w (RIn R X))(h0:0≤X.steps)(h1:X.steps≤16384):
  Calls prog 82 #[.agg (mvA R X)] w (MPost D (tickX X) w):=by
 have HR:=h_ hR;clear hR;obtain⟨Z,hZ⟩:=ex_ (tickX X);rw[hZ];have HZ:=h_ hZ;clear hZ
 have hw1:IntKind.i64.wrap (X.steps+1)=X.steps+1:=by rw[IntKind.wrap_i64];omega
 obtain⟨v0,hW0,hb0,hHM,hHY⟩:=bxs2 w (mvA R X) (#[.slice none 0 0,.bool false,.slice none 0 0,.slice none 0 0,.slice none 0 0,.slice none 0 0,.int .i64 0,.int .i64 0,.slice none 0 0,.slice none 0 0,.slice none 0 0,.slice none 0 0,.string ⟨#[]⟩,.int .i64 0]) 83 83;have HW:=h_ hW0;have HB:=h_ hb0;have HM:=h_ hHM;have HY:=h_ hHY;clear hW0 hb0 hHM hHY;go_enter func82,ntmps82;go_upto_region 1 with (fail);rw[HW.out];clear HW;have x13:=HM.out.cl 13;go_wp2_with (refine HM.out.ws 13 (.int .i64 (X.steps+1)) (mvA R { X with steps:=X.steps+1 }) ?_);intro W1 HM p1;have HY:=HY.out.q p1;have HB:=pb HB p1;clear p1;clear x13 hw1;have x13:=HM.out.cl 13;by_cases h:16384<X.steps+1
 ·have hZ2:Z=abX 1008 { X with steps:=X.steps+1 }:=HZ.out.symm.trans (if_pos h)
  subst hZ2;go_wp2_with (refine HM.out.wl 0 (mvA R { X with steps:=X.steps+1 }) underlying83 ?_);refine(RAbort_any 1008 _ R { X with steps:=X.steps+1 } _ (bl 2 hD HY) ((HR.out.inn HB.out 2).imp fun W h=>h.num X.st X.code (X.steps+1) X.miss)).mono ?_;rintro er w2 ⟨R2,rfl,hr2,hb1⟩;have HM:=HM.out.k hb1;have HY:=HY.out.k hb1;have HB:=bt HB hb1;clear hb1;have HR2:=h_ hr2;clear hr2 x13;go_wp2_with (refine HY.out.wa (mvA R2 (abX 1008 { X with steps:=X.steps+1 })) ?_);intro W2 HY p2;have HM:=HM.out.q p2;have HB:=pb HB p2;have HR2:=HR2.out.q p2;clear p2;go_wp2;exact HY.out.r1 underlying83 ⟨R2,rfl,HR2.out.out,HB.out⟩
 have hZ2:Z={ X with steps:=X.steps+1 }:=HZ.out.symm.trans (if_neg h);subst hZ2;go_wp2_with (first|refine HM.out.wl 0 (mvA R { X with steps:=X.steps+1 }) underlying83 ?_|refine HY.out.wa (mvA R { X with steps:=X.steps+1 }) ?_);intro W3 HY p3;have HM:=HM.out.q p3;have HB:=pb HB p3;clear p3;go_wp2;exact HY.out.r1 underlying83 ⟨R,rfl,(HR.out.inn HB.out 2).out.imp fun W h=>h.num X.st X.code (X.steps+1) X.miss,HB.out⟩
def mvC (R:Ra) (X:Rx):Array Value:=#[.slice R.sa X.M.length R.sc,.bool X.F.all,.slice R.ra X.F.rd.length R.rc,.slice R.wa X.F.wr.length R.wc,.slice none 0 0,.slice R.oa X.own.length R.oc,.int .i64 1,.int .i64 X.code,.slice R.ta X.out.length R.tc,.slice R.ea X.rds.length R.ec,.slice R.ua X.puts.length R.uc,.slice R.oa X.own.length R.oc,.string (bs X.miss),.int .i64 X.steps]
def CmP (D:Nat→Prop) (E:Ef) (w:World) (e:Ending) (w':World):Prop:=∃v,e=.returned (.agg (efV E v))∧Stab D w' (EfIn E v)∧Below w.heap.size w w'
def cmV (R:Ra) (X:Rx):Ev:=⟨.slice R.ta X.out.length R.tc,.slice R.ea X.rds.length R.ec,.slice R.ua X.puts.length R.uc,.slice R.oa X.own.length R.oc⟩
theorem RIn.cm{R:Ra}{X:Rx}{W:World}(h:RIn R X W):EfIn (cmE X) (cmV R X) W:=⟨h.t,h.e,h.u,h.o⟩
theorem RCommit_any(D:Nat→Prop)(R:Ra)(X:Rx)(w:World)(_hD:∀k,D k→k<w.heap.size)(hR:Stab D w (RIn R X)):
  Calls prog 43 #[.agg (mvA R X)] w (CmP D (cmE X) w):=by
 have HR:=h_ hR;clear hR;obtain⟨v0,hW0,hb0,hHM,hHY⟩:=bxs2 w (mvA R X) (#[.int .i64 0,.int .i64 0,.slice none 0 0,.slice none 0 0,.slice none 0 0,.slice none 0 0,.string ⟨#[]⟩,.int .i64 0]) 83 37;have HW:=h_ hW0;have HB:=h_ hb0;have HM:=h_ hHM;have HY:=h_ hHY;clear hW0 hb0 hHM hHY;go_enter func43,ntmps43;go_upto_region 1 with (fail);rw[HW.out];clear HW;go_wp2_with (refine HM.out.ws 6 (.int .i64 1) (mvA R { X with st:=1 }) ?_);intro W1 HM p1;have HY:=HY.out.q p1;have HB:=pb HB p1;clear p1;have x5:=HM.out.cl 5;go_wp2_with (refine HM.out.ws 11 (.slice R.oa X.own.length R.oc) (mvC R X) ?_);intro W2 HM p2;have HY:=HY.out.q p2;have HB:=pb HB p2;clear p2;clear x5;go_wp2_with (first|refine HM.out.wl 6 (efV (cmE X) (cmV R X)) underlying37 ?_|refine HY.out.wa (efV (cmE X) (cmV R X)) ?_);intro W3 HY p3;have HM:=HM.out.q p3;have HB:=pb HB p3;clear p3;go_wp2;exact HY.out.r1 underlying37 ⟨cmV R X,rfl,(HR.out.inn HB.out 2).out.imp fun W h=>h.cm,HB.out⟩
theorem RStore_any(k:List UInt8)(v:Vl)(D:Nat→Prop)(R:Ra)(X:Rx)(w:World)(hD:∀k,D k→k<w.heap.size)(hR:Stab D w (RIn R X))(hl:RL X)(hk:k.length≤9223372036854775807):
  Calls prog 106 #[.agg (mvA R X),.string (bs k),.agg (vV v)] w (MPost D (stX k v X) w):=by
 have HR:=h_ hR;clear hR;have HL:=h_ hl;clear hl;obtain⟨Z,hZ⟩:=ex_ (stX k v X);rw[hZ];unfold stX at hZ;have HZ:=h_ hZ;clear hZ;obtain⟨kb,hkb⟩:=ex_ (keyB k);have HKB:=h_ hkb;clear hkb;obtain⟨v0,hW0,hb0,hHM,hHV,hHY⟩:=bxs3 w (mvA R X) (vV v) (#[.slice none 0 0,.bool false,.slice none 0 0,.slice none 0 0,.slice none 0 0,.slice none 0 0,.int .i64 0,.int .i64 0,.slice none 0 0,.slice none 0 0,.slice none 0 0,.slice none 0 0,.string ⟨#[]⟩,.int .i64 0]) 83 52 83;have HW:=h_ hW0;have HB:=h_ hb0;have HM:=h_ hHM;have HV:=h_ hHV;have HY:=h_ hHY;clear hW0 hb0 hHM hHV hHY;go_enter func106,ntmps106;go_upto_region 1 with (fail);rw[HW.out];clear HW;go_wp2_with (fail);refine(RKValid_any k _ hk).mono ?_;rw[HKB.out];rintro er w1 ⟨rfl,rfl⟩
 cases kb with
 | false =>
  have hZ2:Z=abX 1004 X:=HZ.out.symm.trans (if_pos HKB.out);subst hZ2;go_wp2_with (refine HM.out.wl 0 (mvA R X) underlying83 ?_);refine(RAbort_any 1004 _ R X _ (bl 3 hD HY) ((HR.out.inn HB.out 3))).mono ?_;rintro er w1 ⟨R2,rfl,hr2,hb1⟩;have HM:=HM.out.k hb1;have HV:=HV.out.k hb1;have HY:=HY.out.k hb1;have HB:=bt HB hb1;clear hb1;have HR2:=h_ hr2;clear hr2;go_wp2_with (refine HY.out.wa (mvA R2 (abX 1004 X)) ?_);intro W1 HY p1;have HM:=HM.out.q p1;have HV:=HV.out.q p1;have HB:=pb HB p1;have HR2:=HR2.out.q p1;clear p1;go_wp2;exact HY.out.r1 underlying83 ⟨R2,rfl,HR2.out.out,HB.out⟩
 | true =>
  rw[if_neg (by rw[HKB.out];simp)]at HZ;obtain⟨hb,hhb⟩:=ex_ (X.F.wr.contains k);have HHB:=h_ hhb;clear hhb;obtain⟨al,hal⟩:=ex_ (X.F.all);have HAL:=h_ hal
  have x1:w1.cell? ⟨w.heap.size,1,none⟩=some (.bool al):=by have h:w1.cell? ⟨w.heap.size,1,none⟩=some (.bool X.F.all):=HM.out.cell 1;rwa [hal]at h
  clear hal
  cases al with
  | false =>
   have x3:=HM.out.cl 3;go_wp2_with (fail);refine(RHas15_any _ X.F.wr k _ HL.out.w ((HR.out.inn HB.out 3).now.w)).mono ?_;rw[HHB.out];rintro er w1 ⟨rfl,rfl⟩;clear x1 x3
   cases hb with
   | false =>
    have hZ2:Z=reX k X:=HZ.out.symm.trans (if_pos ⟨HAL.out,HHB.out⟩);subst hZ2;go_wp2_with (refine HM.out.wl 0 (mvA R X) underlying83 ?_);refine(Rrestart_any k _ R X _ (bl 3 hD HY) ((HR.out.inn HB.out 3))).mono ?_;rintro er w1 ⟨R2,rfl,hr2,hb1⟩;have HM:=HM.out.k hb1;have HV:=HV.out.k hb1;have HY:=HY.out.k hb1;have HB:=bt HB hb1;clear hb1;have HR2:=h_ hr2;clear hr2;go_wp2_with (refine HY.out.wa (mvA R2 (reX k X)) ?_);intro W1 HY p1;have HM:=HM.out.q p1;have HV:=HV.out.q p1;have HB:=pb HB p1;have HR2:=HR2.out.q p1;clear p1;go_wp2;exact HY.out.r1 underlying83 ⟨R2,rfl,HR2.out.out,HB.out⟩
   | true =>
    have hZ2:Z={ X with puts:=withK X.puts k,own:=setX X.own ⟨k,v⟩ }:=HZ.out.symm.trans (if_neg (fun q=>by have:=q.2;rw[HHB.out]at this;cases this));subst hZ2;have x10:=HM.out.cl 10;go_wp2_with (fail);refine(Rwith15_any R.ua R.uc X.puts k _ ((HR.out.inn HB.out 3).now.u) (by have:=HL.out.u;omega)).mono ?_;rintro er w1 ⟨ua,uc,rfl,hd1,hb1⟩
    have hu:Stab (boxD D w 3) w1 (fun W=>StrS W (.slice ua (withK X.puts k).length uc) (withK X.puts k)):=by
     rcases hd1 with ⟨rfl,rfl,e⟩|hd1
     ·rw[e];exact(((HR.out.inn HB.out 3)).imp fun W h=>h.u).call hb1
     ·exact(own_stab hd1 (boxD_lt (N:=3) hD (show w.heap.size+3≤_ from by have:=HB.out.size;have:=HY.out.lt;omega))).imp fun W h=>StrS.of_own h
    have HU:=h_ hu;clear hu hd1 x10;have HM:=HM.out.k hb1;have HV:=HV.out.k hb1;have HY:=HY.out.k hb1;have HB:=bt HB hb1;clear hb1;go_wp2_with (refine HM.out.ws 10 (.slice ua (withK X.puts k).length uc) (mvA { R with ua:=ua,uc:=uc } { X with puts:=withK X.puts k }) ?_);intro W1 HM p1;have HV:=HV.out.q p1;have HY:=HY.out.q p1;have HB:=pb HB p1;have HU:=HU.out.q p1;clear p1;have x5:=HM.out.cl 5;go_wp2_with (refine HV.out.wl 0 (#[.int .i64 v.k,.int .i64 v.n,.string (bs v.s)]) underlying52 ?_);refine(Rset15_any R.oa R.oc X.own ⟨k,v⟩ _ ((HR.out.inn HB.out 3).now.o) (by have:=HL.out.o;omega) ((HR.out.inn HB.out 3).now.oc)).mono ?_;rintro er w2 ⟨oa,oc,rfl,ho2,hb1⟩;have HO:=h_ (own_stab ho2 (boxD_lt (N:=3) hD (show w.heap.size+3≤_ from by have:=HB.out.size;have:=HY.out.lt;omega)));clear ho2 x5;have HM:=HM.out.k hb1;have HV:=HV.out.k hb1;have HY:=HY.out.k hb1;have HU:=HU.out.k hb1;have HB:=bt HB hb1;clear hb1;go_wp2_with (refine HM.out.ws 5 (.slice oa (setX X.own ⟨k,v⟩).length oc) (mvA { R with ua:=ua,uc:=uc,oa:=oa,oc:=oc } { X with puts:=withK X.puts k,own:=setX X.own ⟨k,v⟩ }) ?_);intro W2 HM p2;have HV:=HV.out.q p2;have HY:=HY.out.q p2;have HB:=pb HB p2;have HU:=HU.out.q p2;have HO:=HO.out.q p2;clear p2;go_wp2_with (first|refine HM.out.wl 0 (mvA { R with ua:=ua,uc:=uc,oa:=oa,oc:=oc } { X with puts:=withK X.puts k,own:=setX X.own ⟨k,v⟩ }) underlying83 ?_|refine HY.out.wa (mvA { R with ua:=ua,uc:=uc,oa:=oa,oc:=oc } { X with puts:=withK X.puts k,own:=setX X.own ⟨k,v⟩ }) ?_);intro W3 HY p3;have HM:=HM.out.q p3;have HV:=HV.out.q p3;have HB:=pb HB p3;have HU:=HU.out.q p3;have HO:=HO.out.q p3;clear p3;go_wp2;exact HY.out.r1 underlying83 ⟨{ R with ua:=ua,uc:=uc,oa:=oa,oc:=oc },rfl,(((HR.out.inn HB.out 3).both HU.out fun W h h2=>And.intro h h2).both HO.out fun W h h2=>⟨h.1.M,h.1.r,h.1.w,own_prAt h2,own_cap6 h2,h.1.t,h.1.e,h.2⟩).out,HB.out⟩
  | true =>
   have hZ2:Z={ X with puts:=withK X.puts k,own:=setX X.own ⟨k,v⟩ }:=HZ.out.symm.trans (if_neg (fun q=>by have:=q.1;rw[HAL.out]at this;cases this));subst hZ2;have x10:=HM.out.cl 10;go_wp2_with (fail);refine(Rwith15_any R.ua R.uc X.puts k _ ((HR.out.inn HB.out 3).now.u) (by have:=HL.out.u;omega)).mono ?_;rintro er w1 ⟨ua,uc,rfl,hd1,hb1⟩
   have hu:Stab (boxD D w 3) w1 (fun W=>StrS W (.slice ua (withK X.puts k).length uc) (withK X.puts k)):=by
    rcases hd1 with ⟨rfl,rfl,e⟩|hd1
    ·rw[e];exact(((HR.out.inn HB.out 3)).imp fun W h=>h.u).call hb1
    ·exact(own_stab hd1 (boxD_lt (N:=3) hD (show w.heap.size+3≤_ from by have:=HB.out.size;have:=HY.out.lt;omega))).imp fun W h=>StrS.of_own h
   have HU:=h_ hu;clear hu hd1 x10;have HM:=HM.out.k hb1;have HV:=HV.out.k hb1;have HY:=HY.out.k hb1;have HB:=bt HB hb1;clear hb1;go_wp2_with (refine HM.out.ws 10 (.slice ua (withK X.puts k).length uc) (mvA { R with ua:=ua,uc:=uc } { X with puts:=withK X.puts k }) ?_);intro W1 HM p1;have HV:=HV.out.q p1;have HY:=HY.out.q p1;have HB:=pb HB p1;have HU:=HU.out.q p1;clear p1;have x5:=HM.out.cl 5;go_wp2_with (refine HV.out.wl 0 (#[.int .i64 v.k,.int .i64 v.n,.string (bs v.s)]) underlying52 ?_);refine(Rset15_any R.oa R.oc X.own ⟨k,v⟩ _ ((HR.out.inn HB.out 3).now.o) (by have:=HL.out.o;omega) ((HR.out.inn HB.out 3).now.oc)).mono ?_;rintro er w2 ⟨oa,oc,rfl,ho2,hb1⟩;have HO:=h_ (own_stab ho2 (boxD_lt (N:=3) hD (show w.heap.size+3≤_ from by have:=HB.out.size;have:=HY.out.lt;omega)));clear ho2 x5;have HM:=HM.out.k hb1;have HV:=HV.out.k hb1;have HY:=HY.out.k hb1;have HU:=HU.out.k hb1;have HB:=bt HB hb1;clear hb1;go_wp2_with (refine HM.out.ws 5 (.slice oa (setX X.own ⟨k,v⟩).length oc) (mvA { R with ua:=ua,uc:=uc,oa:=oa,oc:=oc } { X with puts:=withK X.puts k,own:=setX X.own ⟨k,v⟩ }) ?_);intro W2 HM p2;have HV:=HV.out.q p2;have HY:=HY.out.q p2;have HB:=pb HB p2;have HU:=HU.out.q p2;have HO:=HO.out.q p2;clear p2;go_wp2_with (first|refine HM.out.wl 0 (mvA { R with ua:=ua,uc:=uc,oa:=oa,oc:=oc } { X with puts:=withK X.puts k,own:=setX X.own ⟨k,v⟩ }) underlying83 ?_|refine HY.out.wa (mvA { R with ua:=ua,uc:=uc,oa:=oa,oc:=oc } { X with puts:=withK X.puts k,own:=setX X.own ⟨k,v⟩ }) ?_);intro W3 HY p3;have HM:=HM.out.q p3;have HV:=HV.out.q p3;have HB:=pb HB p3;have HU:=HU.out.q p3;have HO:=HO.out.q p3;clear p3;go_wp2;exact HY.out.r1 underlying83 ⟨{ R with ua:=ua,uc:=uc,oa:=oa,oc:=oc },rfl,(((HR.out.inn HB.out 3).both HU.out fun W h h2=>And.intro h h2).both HO.out fun W h h2=>⟨h.1.M,h.1.r,h.1.w,own_prAt h2,own_cap6 h2,h.1.t,h.1.e,h.2⟩).out,HB.out⟩
theorem vlLs_app(A B:List Vl):vlLs (A++B)=vlLs A++vlLs B:=by unfold vlLs;rw[List.flatMap_append]
theorem vlLs_cell(L:List Vl):∀u∈vlLs L,u.oneCell'=true:=by
 intro u hu;unfold vlLs at hu;obtain⟨p,-,hp⟩:=List.mem_flatMap.1 hu;unfold vlL at hp;simp only[List.mem_cons,List.not_mem_nil,or_false]at hp;rcases hp with rfl|rfl|rfl<;>rfl
theorem cellsAt_vv2(w:World)(x:Vl):CellsAt (w.alloc (.cells (vV x) 52)) (.slice (some ⟨w.heap.size,0,none⟩) 1 1) 1 (vlL x):=by
 refine⟨_,_,rfl,fun _=>⟨_,_,rfl,fun j y hj=>?_⟩⟩;rw[Nat.zero_add];have h:=(Bx.new w (vV x) 52).cell j;rw[h];rcases j with _|_|_|j
 ·exact hj
 ·exact hj
 ·exact hj
 ·simp[vlL]at hj
theorem appVl1_any{w1:World}{ops:Array Oper}{rest:List Oper}{o:Oper}{a:Act}{Q:Exit→Act→World→Prop}(hgd:o.guard=none)(s x:Operand)
  (ho:o.op=.call { callee:=.builtin .append,args:=#[s,x],argTypes:=#[26,26] }) (B:Nat) (v:Value) (L:List Vl) (y:Vl) (hown:w1.ownsRow B 52 3 v L.length (vlLs L))
  (hs:a.eval s=v) (hx:a.eval x=.slice (some ⟨w1.heap.size,0,none⟩) 1 1) (hlen:L.length≤4000000000000) (W0:World) (B0:Nat) (hbel:Below B0 W0 w1) (hB:B≤w1.heap.size) (hB0:B0≤B)
  (h:∀v' w',w'.ownsRow B 52 3 v' (L++[y]).length (vlLs (L++[y]))→Below B0 W0 w'→w1.grownBy w' v.ownBlock→wpList prog ops Q rest (a.put o.dst v') w'):
  wpList prog ops Q (o::rest) a (w1.alloc (.cells (vV y) 52)):=by
 obtain⟨i0,hi,hz0,hz1,hz2⟩:=info_parts infoVl
 refine wpList_append_any hgd s x 26 ho B 52 i0 (.agg #[.int .i64 0,.int .i64 0,.string ⟨#[]⟩]) 3 32 underlying26 hi hz0 hz1 hz2 rfl (by decide) v _ L.length 1 (vlLs L) (vlL y) hs (hown.alloc _) hx (cellsAt_vv2 w1 y) rfl
  (by intro u hu;simp only[vlL,List.mem_cons,List.not_mem_nil,or_false]at hu;rcases hu with rfl|rfl|rfl<;>rfl) (by unfold maxLen;omega) (by omega) W0 B0 (hbel.alloc (Nat.le_trans hB0 hB) _) (by simp;omega) hB0 ?_
 intro v2 w2 hown2 hb2 hgrow;refine h v2 w2 (by rw[vlLs_snoc,List.length_append];exact hown2) hb2 ?_;exact⟨hgrow.os,hgrow.tape,hgrow.output,Nat.le_trans (by simp) hgrow.size,fun k hk hne=>(hgrow.block k (by simp;omega) hne).trans ((World.grownBy_alloc w1 (.cells (vV y) 52) none).block k hk (by simp))⟩
theorem appVl_any{w1:World}{ops:Array Oper}{rest:List Oper}{o:Oper}{a:Act}{Q:Exit→Act→World→Prop}(hgd:o.guard=none)(s x:Operand)
  (ho:o.op=.call { callee:=.builtin .append,args:=#[s,x],argTypes:=#[26,26] }) (B:Nat) (v:Value) (L M:List Vl) (u:Value) (hown:w1.ownsRow B 52 3 v L.length (vlLs L))
  (hs:a.eval s=v) (hx:a.eval x=u) (hU:CellsAt w1 u M.length (vlLs M)) (hlen:L.length+M.length≤4100000000000) (W0:World) (B0:Nat) (hbel:Below B0 W0 w1) (hB:B≤w1.heap.size) (hB0:B0≤B)
  (h:∀v' w',w'.ownsRow B 52 3 v' (L++M).length (vlLs (L++M))→Below B0 W0 w'→w1.grownBy w' v.ownBlock→wpList prog ops Q rest (a.put o.dst v') w'):
  wpList prog ops Q (o::rest) a w1:=by
 obtain⟨i0,hi,hz0,hz1,hz2⟩:=info_parts infoVl;refine wpList_append_any hgd s x 26 ho B 52 i0 (.agg #[.int .i64 0,.int .i64 0,.string ⟨#[]⟩]) 3 32 underlying26 hi hz0 hz1 hz2 rfl (by decide) v u L.length M.length (vlLs L) (vlLs M) hs hown hx hU (vlLs_length M) (vlLs_cell M) (by unfold maxLen;omega) (by omega) W0 B0 hbel hB hB0 ?_;intro v2 w2 ho2 hb2 hg2;exact h v2 w2 (by rw[vlLs_app,List.length_append];exact ho2) hb2 hg2
theorem REmit_any(v:Vl)(D:Nat→Prop)(R:Ra)(X:Rx)(w:World)(hD:∀k,D k→k<w.heap.size)(hR:Stab D w (RIn R X))(hl:RL X):
  Calls prog 80 #[.agg (mvA R X),.agg (vV v)] w (MPost D (emX v X) w):=by
 have HR:=h_ hR;clear hR;have HL:=h_ hl;clear hl;obtain⟨Z,hZ⟩:=ex_ (emX v X);rw[hZ];have HZ:=h_ hZ;clear hZ;obtain⟨v0,hW0,hb0,hHM,hHV,hHY⟩:=bxs3 w (mvA R X) (vV v) (#[.slice none 0 0,.bool false,.slice none 0 0,.slice none 0 0,.slice none 0 0,.slice none 0 0,.int .i64 0,.int .i64 0,.slice none 0 0,.slice none 0 0,.slice none 0 0,.slice none 0 0,.string ⟨#[]⟩,.int .i64 0]) 83 52 83;have HW:=h_ hW0;have HB:=h_ hb0;have HM:=h_ hHM;have HV:=h_ hHV;have HY:=h_ hHY;clear hW0 hb0 hHM hHV hHY;go_enter func80,ntmps80;go_upto_region 1 with (fail);rw[HW.out];clear HW;have x8:=HM.out.cl 8;by_cases h16:16≤X.out.length
 ·have h16':(16:Int)≤(X.out.length:Int):=by omega
  have hZ2:Z=abX 1007 X:=HZ.out.symm.trans (if_pos h16);subst hZ2;go_wp2_with (refine HM.out.wl 0 (mvA R X) underlying83 ?_);refine(RAbort_any 1007 _ R X _ (bl 3 hD HY) ((HR.out.inn HB.out 3))).mono ?_;rintro er w1 ⟨R2,rfl,hr2,hb1⟩;have HM:=HM.out.k hb1;have HV:=HV.out.k hb1;have HY:=HY.out.k hb1;have HB:=bt HB hb1;clear hb1;have HR2:=h_ hr2;clear hr2;go_wp2_with (refine HY.out.wa (mvA R2 (abX 1007 X)) ?_);intro W1 HY p1;have HM:=HM.out.q p1;have HV:=HV.out.q p1;have HB:=pb HB p1;have HR2:=HR2.out.q p1;clear p1;go_wp2;exact HY.out.r1 underlying83 ⟨R2,rfl,HR2.out.out,HB.out⟩
 have h16':¬(16:Int)≤(X.out.length:Int):=by omega
 have hZ2:Z={ X with out:=X.out++[v] }:=HZ.out.symm.trans (if_neg h16);obtain⟨O,hO⟩:=ex_ (X.out++[v])
 have hOl:X.out.length+1=O.length:=by rw[←hO];simp
 rw[hO]at hZ2;have HOO:=h_ hO;have HOL:=h_ hOl;clear hO hOl;subst hZ2
 have hsz:w.heap.size+3≤v0.heap.size:=by have:=HY.out.lt;omega
 have hol:=HL.out.t;go_wp2_with (at_builtin;refine appVl_any rfl _ _ rfl (w.heap.size+3) (.slice none 0 0) [] X.out _ (World.ownsRow_nil _ _ _ _) rfl rfl (HR.out.inn HB.out 3).now.t (by simp;omega) w w.heap.size HB.out hsz (by omega) ?_);intro v2 w2 ho2 hb2 hg2;have hsz2:w.heap.size+3≤w2.heap.size:=Nat.le_trans hsz hg2.size;have HM:=h_ (HM.out.app hg2 (World.ownsRow_nil _ (w.heap.size+3) 52 3) (by omega));have HV:=h_ (HV.out.app hg2 (World.ownsRow_nil _ (w.heap.size+3) 52 3) (by omega));have HY:=h_ (HY.out.app hg2 (World.ownsRow_nil _ (w.heap.size+3) 52 3) (by omega));have HB:=h_ hb2;have HO:=h_ (show w2.ownsRow (w.heap.size+3) 52 3 v2 X.out.length (vlLs X.out) from by simpa using ho2);clear ho2 hb2 hg2 x8;go_wp2_with (first|refine HV.out.wl 0 (#[.int .i64 v.k,.int .i64 v.n,.string (bs v.s)]) underlying52 ?_|(at_builtin;refine appVl1_any rfl _ _ rfl (w.heap.size+3) v2 _ v HO.out rfl rfl (by omega) w w.heap.size HB.out hsz2 (by omega) ?_));intro v3 w3 ho3 hb3 hg3;have HM:=h_ (HM.out.app hg3 HO.out (by omega));have HV:=h_ (HV.out.app hg3 HO.out (by omega));have HY:=h_ (HY.out.app hg3 HO.out (by omega));have HB:=h_ hb3;clear HO;obtain⟨oa,oc,hvv⟩:=own_sl ho3;subst hvv;have HO:=h_ (own_stab (show w3.ownsRow (w.heap.size+3) 52 3 (.slice oa O.length oc) O.length (vlLs O) from by rw[←HOO.out];simpa using ho3) (boxD_lt (N:=3) hD (show w.heap.size+3≤_ from by have:=HB.out.size;have:=HY.out.lt;omega)));clear ho3 hb3 hg3
 (try simp only[HOL.out])
 go_wp2_with (refine HM.out.ws 8 (.slice oa O.length oc) (mvA { R with ta:=oa,tc:=oc } { X with out:=O }) ?_);intro W1 HM p1;have HV:=HV.out.q p1;have HY:=HY.out.q p1;have HB:=pb HB p1;have HO:=HO.out.q p1;clear p1;go_wp2_with (first|refine HM.out.wl 0 (mvA { R with ta:=oa,tc:=oc } { X with out:=O }) underlying83 ?_|refine HY.out.wa (mvA { R with ta:=oa,tc:=oc } { X with out:=O }) ?_);intro W2 HY p2;have HM:=HM.out.q p2;have HV:=HV.out.q p2;have HB:=pb HB p2;have HO:=HO.out.q p2;clear p2;go_wp2;exact HY.out.r1 underlying83 ⟨{ R with ta:=oa,tc:=oc },rfl,((HR.out.inn HB.out 3).both HO.out fun W h h2=>⟨h.M,h.r,h.w,h.o,h.oc,own_valAt h2,h.e,h.u⟩).out,HB.out⟩
theorem RFetch_any(k:List UInt8)(D:Nat→Prop)(R:Ra)(X:Rx)(w:World)(hD:∀k,D k→k<w.heap.size)(hR:Stab D w (RIn R X))(hl:RL X)(hk:k.length≤9223372036854775807):
  Calls prog 151 #[.agg (mvA R X),.string (bs k)] w (VPo D (fetX k X).1 (fetX k X).2 w):=by
 have HR:=h_ hR;clear hR;have HL:=h_ hl;clear hl;obtain⟨Z,hZ⟩:=ex_ (fetX k X);rw[hZ];unfold fetX at hZ;have HZ:=h_ hZ;clear hZ;obtain⟨kb,hkb⟩:=ex_ (keyB k);have HKB:=h_ hkb;clear hkb;obtain⟨v0,hW0,hb0,hHM,hHA,hHY⟩:=bxs3 w (mvA R X) (#[.int .i64 0,.int .i64 0,.string ⟨#[]⟩]) (#[.slice none 0 0,.bool false,.slice none 0 0,.slice none 0 0,.slice none 0 0,.slice none 0 0,.int .i64 0,.int .i64 0,.slice none 0 0,.slice none 0 0,.slice none 0 0,.slice none 0 0,.string ⟨#[]⟩,.int .i64 0]) 83 52 83;have HW:=h_ hW0;have HB:=h_ hb0;have HM:=h_ hHM;have HA:=h_ hHA;have HY:=h_ hHY;clear hW0 hb0 hHM hHA hHY;go_enter func151,ntmps151;go_upto_region 1 with (fail);rw[HW.out];clear HW;go_wp2_with (fail);refine(RKValid_any k _ hk).mono ?_;rw[HKB.out];rintro er w1 ⟨rfl,rfl⟩
 cases kb with
 | false =>
  have hZ2:Z=(v00,abX 1004 X):=HZ.out.symm.trans (if_pos HKB.out);subst hZ2;go_wp2_with (refine HM.out.wl 0 (mvA R X) underlying83 ?_);refine(RAbort_any 1004 _ R X _ (bl 3 hD HY) ((HR.out.inn HB.out 3))).mono ?_;rintro er w1 ⟨R2,rfl,hr2,hb1⟩;have HM:=HM.out.k hb1;have HA:=HA.out.k hb1;have HY:=HY.out.k hb1;have HB:=bt HB hb1;clear hb1;have HR2:=h_ hr2;clear hr2;go_wp2_with (refine HA.out.wa (vV v00) ?_);intro W1 HA p1;have HM:=HM.out.q p1;have HY:=HY.out.q p1;have HB:=pb HB p1;have HR2:=HR2.out.q p1;clear p1;go_wp2_with (refine HY.out.wa (mvA R2 (abX 1004 X)) ?_);intro W2 HY p2;have HM:=HM.out.q p2;have HA:=HA.out.q p2;have HB:=pb HB p2;have HR2:=HR2.out.q p2;clear p2;go_wp2;exact HA.out.r2 HY.out underlying52 underlying83 ⟨R2,rfl,HR2.out.out,HB.out⟩
 | true =>
  rw[if_neg (by rw[HKB.out];simp)]at HZ;have x10:=HM.out.cl 10;obtain⟨ub,hub⟩:=ex_ (X.puts.contains k);have HUB:=h_ hub;clear hub;go_wp2_with (fail);refine(RHas15_any _ X.puts k _ (by have:=HL.out.u;omega) (HR.out.inn HB.out 3).now.u).mono ?_;rw[HUB.out];rintro er w1 ⟨rfl,rfl⟩;clear x10
  cases ub with
  | true =>
   rw[if_pos HUB.out]at HZ;go_wp2_with fail;refine wp_region_held_drew (S:=(fun w'=>Bx w.heap.size (mvA R X) 83 w'∧Below w.heap.size w w')) (by kernel_rfl) ?_ (fun hHeld=>?_)
   ·exact(show ((fun w'=>Bx w.heap.size (mvA R X) 83 w'∧Below w.heap.size w w')) w1.drew from by have hb1:=(Below.refl w1.heap.size w1).drew;have HM:=HM.out.k hb1;have HA:=HA.out.k hb1;have HY:=HY.out.k hb1;have HB:=bt HB hb1;exact⟨HM.out,HB.out⟩)
   have hb1:=(Below.refl w1.heap.size w1).drew;have HM:=HM.out.k hb1;have HA:=HA.out.k hb1;have HY:=HY.out.k hb1;have HB:=bt HB hb1;clear hb1;generalize hWd:w1.drew=D1 at hHeld HB HM HA HY ⊢;clear hWd;refine tkX 0 17 ?_;refine tkY 1 (v:=?vv2) 18 ?yy2 ?_
   case yy2 =>
    intro wq hSw;have z0:wq.cell? ⟨w.heap.size,5,none⟩=some (.slice R.oa X.own.length R.oc):=hSw.1.cell 5;clear hSw;go_simp
    (try with_reducible rfl)
   refine tkX 2 19 ?_;simp only[sA,sB,sC];refine tkl2 4 21 (fun _ h=>h.1) 0 (mvA R X) underlying83 ?_;simp only[sA,sB,sC];obtain⟨gv,hgv⟩:=ex_ (getP X.own k);have HGV:=h_ hgv;rw[hgv]at HZ;clear hgv;refine rd1 3 fun K hK=>?_;go_simp;refine(RSGet_any R.oa R.oc X.own k _ (by have:=HL.out.o;omega) (HR.out.inn HB.out 3).now.o).mono ?_;rw[HGV.out];rintro er u1 ⟨rfl,hb1⟩;have HM:=HM.out.k hb1;have HA:=HA.out.k hb1;have HY:=HY.out.k hb1;have HB:=bt HB hb1;clear hb1;refine hK.out _ _ (⟨HM.out,HB.out⟩) fun hHeld=>?_;clear hK K
   (try simp only[Act.put,sA,sB,sC])
   have hZ2:Z=(gv,X):=HZ.out.symm;subst hZ2;refine rd1 5 fun K hK=>?_;refine Bx.rst HA.out 52 0 (.agg (vV gv)) (vV gv) rfl (Nat.le_of_ble_eq_true rfl) (by kernel_rfl) rfl rfl rfl rfl rfl ?_;intro W1 hq p1;have HA:=h_ hq;clear hq;have HM:=HM.out.q p1;have HY:=HY.out.q p1;have HB:=pb HB p1;clear p1;refine hK.out _ _ (⟨HM.out,HB.out⟩) fun hHeld=>?_;clear hK K
   (try simp only[Act.put])
   refine rd1 6 fun K hK=>?_;refine Bx.rst HY.out 83 0 (.agg (mvA R X)) (mvA R X) rfl (Nat.le_of_ble_eq_true rfl) (by kernel_rfl) rfl rfl rfl rfl rfl ?_;intro W2 hq p2;have HY:=h_ hq;clear hq;have HM:=HM.out.q p2;have HA:=HA.out.q p2;have HB:=pb HB p2;clear p2;refine hK.out _ _ (⟨HM.out,HB.out⟩) fun hHeld=>?_;clear hK K
   (try simp only[Act.put])
   refine wpAnyH_done (by kernel_rfl) ?_ _;go_wp2;exact HA.out.r2 HY.out underlying52 underlying83 ⟨R,rfl,(HR.out.inn HB.out 3).out,HB.out⟩
  | false =>
   rw[if_neg (by rw[HUB.out];simp)]at HZ;obtain⟨hb,hhb⟩:=ex_ (X.F.rd.contains k);have HHB:=h_ hhb;clear hhb;obtain⟨al,hal⟩:=ex_ (X.F.all);have HAL:=h_ hal
   have x1:w1.cell? ⟨w.heap.size,1,none⟩=some (.bool al):=by have h:w1.cell? ⟨w.heap.size,1,none⟩=some (.bool X.F.all):=HM.out.cell 1;rwa [hal]at h
   clear hal
   cases al with
   | false =>
    have x2:=HM.out.cl 2;go_wp2_with (fail);refine(RHas15_any _ X.F.rd k _ HL.out.r ((HR.out.inn HB.out 3).now.r)).mono ?_;rw[HHB.out];rintro er w1 ⟨rfl,rfl⟩;clear x1 x2
    cases hb with
    | false =>
     have hZ2:Z=(v00,reX k X):=HZ.out.symm.trans (if_pos ⟨HAL.out,HHB.out⟩);subst hZ2;go_wp2_with (refine HM.out.wl 0 (mvA R X) underlying83 ?_);refine(Rrestart_any k _ R X _ (bl 3 hD HY) ((HR.out.inn HB.out 3))).mono ?_;rintro er w1 ⟨R2,rfl,hr2,hb1⟩;have HM:=HM.out.k hb1;have HA:=HA.out.k hb1;have HY:=HY.out.k hb1;have HB:=bt HB hb1;clear hb1;have HR2:=h_ hr2;clear hr2;go_wp2_with (refine HA.out.wa (vV v00) ?_);intro W1 HA p1;have HM:=HM.out.q p1;have HY:=HY.out.q p1;have HB:=pb HB p1;have HR2:=HR2.out.q p1;clear p1;go_wp2_with (refine HY.out.wa (mvA R2 (reX k X)) ?_);intro W2 HY p2;have HM:=HM.out.q p2;have HA:=HA.out.q p2;have HB:=pb HB p2;have HR2:=HR2.out.q p2;clear p2;go_wp2;exact HA.out.r2 HY.out underlying52 underlying83 ⟨R2,rfl,HR2.out.out,HB.out⟩
    | true =>
     rw[if_neg (fun q=>by have:=q.2;rw[HHB.out]at this;cases this)]at HZ;have x9:=HM.out.cl 9;go_wp2_with (fail);refine(Rwith15_any R.ea R.ec X.rds k _ ((HR.out.inn HB.out 3).now.e) (by have:=HL.out.e;omega)).mono ?_;rintro er w1 ⟨ea,ec,rfl,hd1,hb1⟩
     have hu:Stab (boxD D w 3) w1 (fun W=>StrS W (.slice ea (withK X.rds k).length ec) (withK X.rds k)):=by
      rcases hd1 with ⟨rfl,rfl,e⟩|hd1
      ·rw[e];exact(((HR.out.inn HB.out 3)).imp fun W h=>h.e).call hb1
      ·exact(own_stab hd1 (boxD_lt (N:=3) hD (show w.heap.size+3≤_ from by have:=HB.out.size;have:=HY.out.lt;omega))).imp fun W h=>StrS.of_own h
     have HU:=h_ hu;clear hu hd1 x9;have HM:=HM.out.k hb1;have HA:=HA.out.k hb1;have HY:=HY.out.k hb1;have HB:=bt HB hb1;clear hb1;go_wp2_with (refine HM.out.ws 9 (.slice ea (withK X.rds k).length ec) (mvA { R with ea:=ea,ec:=ec } { X with rds:=withK X.rds k }) ?_);intro W1 HM p1;have HA:=HA.out.q p1;have HY:=HY.out.q p1;have HB:=pb HB p1;have HU:=HU.out.q p1;clear p1;go_wp2_with fail;refine wp_region_held_drew (S:=(fun w'=>Bx w.heap.size (mvA { R with ea:=ea,ec:=ec } { X with rds:=withK X.rds k }) 83 w'∧Below w.heap.size w w')) (by kernel_rfl) ?_ (fun hHeld=>?_)
     ·exact(show ((fun w'=>Bx w.heap.size (mvA { R with ea:=ea,ec:=ec } { X with rds:=withK X.rds k }) 83 w'∧Below w.heap.size w w')) W1.drew from by have hb1:=(Below.refl W1.heap.size W1).drew;have HM:=HM.out.k hb1;have HA:=HA.out.k hb1;have HY:=HY.out.k hb1;have HB:=bt HB hb1;exact⟨HM.out,HB.out⟩)
     have hb1:=(Below.refl W1.heap.size W1).drew;have HM:=HM.out.k hb1;have HA:=HA.out.k hb1;have HY:=HY.out.k hb1;have HU:=HU.out.k hb1;have HB:=bt HB hb1;clear hb1;generalize hWd:W1.drew=D2 at hHeld HB HM HA HY HU ⊢;clear hWd;refine tkX 0 45 ?_;refine tkY 1 (v:=?vv5) 46 ?yy5 ?_
     case yy5 =>
      intro wq hSw;have z0:wq.cell? ⟨w.heap.size,0,none⟩=some (.slice R.sa X.M.length R.sc):=hSw.1.cell 0;clear hSw;go_simp
      (try with_reducible rfl)
     refine tkX 2 47 ?_;simp only[sA,sB,sC];refine tkl2 4 49 (fun _ h=>h.1) 0 (mvA { R with ea:=ea,ec:=ec } { X with rds:=withK X.rds k }) underlying83 ?_;simp only[sA,sB,sC];obtain⟨gv,hgv⟩:=ex_ (getP X.M k);have HGV:=h_ hgv;rw[hgv]at HZ;clear hgv;refine rd1 3 fun K hK=>?_;go_simp;refine(RSGet_any R.sa R.sc X.M k _ (HL.out.M) (HR.out.inn HB.out 3).now.M).mono ?_;rw[HGV.out];rintro er u1 ⟨rfl,hb1⟩;have HM:=HM.out.k hb1;have HA:=HA.out.k hb1;have HY:=HY.out.k hb1;have HU:=HU.out.k hb1;have HB:=bt HB hb1;clear hb1;refine hK.out _ _ (⟨HM.out,HB.out⟩) fun hHeld=>?_;clear hK K
     (try simp only[Act.put,sA,sB,sC])
     have hZ2:Z=(gv,{ X with rds:=withK X.rds k }):=HZ.out.symm;subst hZ2;refine rd1 5 fun K hK=>?_;refine Bx.rst HA.out 52 0 (.agg (vV gv)) (vV gv) rfl (Nat.le_of_ble_eq_true rfl) (by kernel_rfl) rfl rfl rfl rfl rfl ?_;intro W2 hq p2;have HA:=h_ hq;clear hq;have HM:=HM.out.q p2;have HY:=HY.out.q p2;have HB:=pb HB p2;have HU:=HU.out.q p2;clear p2;refine hK.out _ _ (⟨HM.out,HB.out⟩) fun hHeld=>?_;clear hK K
     (try simp only[Act.put])
     refine rd1 6 fun K hK=>?_;refine Bx.rst HY.out 83 0 (.agg (mvA { R with ea:=ea,ec:=ec } { X with rds:=withK X.rds k })) (mvA { R with ea:=ea,ec:=ec } { X with rds:=withK X.rds k }) rfl (Nat.le_of_ble_eq_true rfl) (by kernel_rfl) rfl rfl rfl rfl rfl ?_;intro W3 hq p3;have HY:=h_ hq;clear hq;have HM:=HM.out.q p3;have HA:=HA.out.q p3;have HB:=pb HB p3;have HU:=HU.out.q p3;clear p3;refine hK.out _ _ (⟨HM.out,HB.out⟩) fun hHeld=>?_;clear hK K
     (try simp only[Act.put])
     refine wpAnyH_done (by kernel_rfl) ?_ _;go_wp2;exact HA.out.r2 HY.out underlying52 underlying83 ⟨{ R with ea:=ea,ec:=ec },rfl,((HR.out.inn HB.out 3).both HU.out fun W h h2=>⟨h.M,h.r,h.w,h.o,h.oc,h.t,h2,h.u⟩).out,HB.out⟩
   | true =>
    rw[if_neg (fun q=>by have:=q.1;rw[HAL.out]at this;cases this)]at HZ;have x9:=HM.out.cl 9;go_wp2_with (fail);refine(Rwith15_any R.ea R.ec X.rds k _ ((HR.out.inn HB.out 3).now.e) (by have:=HL.out.e;omega)).mono ?_;rintro er w1 ⟨ea,ec,rfl,hd1,hb1⟩
    have hu:Stab (boxD D w 3) w1 (fun W=>StrS W (.slice ea (withK X.rds k).length ec) (withK X.rds k)):=by
     rcases hd1 with ⟨rfl,rfl,e⟩|hd1
     ·rw[e];exact(((HR.out.inn HB.out 3)).imp fun W h=>h.e).call hb1
     ·exact(own_stab hd1 (boxD_lt (N:=3) hD (show w.heap.size+3≤_ from by have:=HB.out.size;have:=HY.out.lt;omega))).imp fun W h=>StrS.of_own h
    have HU:=h_ hu;clear hu hd1 x9;have HM:=HM.out.k hb1;have HA:=HA.out.k hb1;have HY:=HY.out.k hb1;have HB:=bt HB hb1;clear hb1;go_wp2_with (refine HM.out.ws 9 (.slice ea (withK X.rds k).length ec) (mvA { R with ea:=ea,ec:=ec } { X with rds:=withK X.rds k }) ?_);intro W1 HM p1;have HA:=HA.out.q p1;have HY:=HY.out.q p1;have HB:=pb HB p1;have HU:=HU.out.q p1;clear p1;go_wp2_with fail;refine wp_region_held_drew (S:=(fun w'=>Bx w.heap.size (mvA { R with ea:=ea,ec:=ec } { X with rds:=withK X.rds k }) 83 w'∧Below w.heap.size w w')) (by kernel_rfl) ?_ (fun hHeld=>?_)
    ·exact(show ((fun w'=>Bx w.heap.size (mvA { R with ea:=ea,ec:=ec } { X with rds:=withK X.rds k }) 83 w'∧Below w.heap.size w w')) W1.drew from by have hb1:=(Below.refl W1.heap.size W1).drew;have HM:=HM.out.k hb1;have HA:=HA.out.k hb1;have HY:=HY.out.k hb1;have HB:=bt HB hb1;exact⟨HM.out,HB.out⟩)
    have hb1:=(Below.refl W1.heap.size W1).drew;have HM:=HM.out.k hb1;have HA:=HA.out.k hb1;have HY:=HY.out.k hb1;have HU:=HU.out.k hb1;have HB:=bt HB hb1;clear hb1;generalize hWd:W1.drew=D3 at hHeld HB HM HA HY HU ⊢;clear hWd;refine tkX 0 45 ?_;refine tkY 1 (v:=?vv8) 46 ?yy8 ?_
    case yy8 =>
     intro wq hSw;have z0:wq.cell? ⟨w.heap.size,0,none⟩=some (.slice R.sa X.M.length R.sc):=hSw.1.cell 0;clear hSw;go_simp
     (try with_reducible rfl)
    refine tkX 2 47 ?_;simp only[sA,sB,sC];refine tkl2 4 49 (fun _ h=>h.1) 0 (mvA { R with ea:=ea,ec:=ec } { X with rds:=withK X.rds k }) underlying83 ?_;simp only[sA,sB,sC];obtain⟨gv,hgv⟩:=ex_ (getP X.M k);have HGV:=h_ hgv;rw[hgv]at HZ;clear hgv;refine rd1 3 fun K hK=>?_;go_simp;refine(RSGet_any R.sa R.sc X.M k _ (HL.out.M) (HR.out.inn HB.out 3).now.M).mono ?_;rw[HGV.out];rintro er u1 ⟨rfl,hb1⟩;have HM:=HM.out.k hb1;have HA:=HA.out.k hb1;have HY:=HY.out.k hb1;have HU:=HU.out.k hb1;have HB:=bt HB hb1;clear hb1;refine hK.out _ _ (⟨HM.out,HB.out⟩) fun hHeld=>?_;clear hK K
    (try simp only[Act.put,sA,sB,sC])
    have hZ2:Z=(gv,{ X with rds:=withK X.rds k }):=HZ.out.symm;subst hZ2;refine rd1 5 fun K hK=>?_;refine Bx.rst HA.out 52 0 (.agg (vV gv)) (vV gv) rfl (Nat.le_of_ble_eq_true rfl) (by kernel_rfl) rfl rfl rfl rfl rfl ?_;intro W2 hq p2;have HA:=h_ hq;clear hq;have HM:=HM.out.q p2;have HY:=HY.out.q p2;have HB:=pb HB p2;have HU:=HU.out.q p2;clear p2;refine hK.out _ _ (⟨HM.out,HB.out⟩) fun hHeld=>?_;clear hK K
    (try simp only[Act.put])
    refine rd1 6 fun K hK=>?_;refine Bx.rst HY.out 83 0 (.agg (mvA { R with ea:=ea,ec:=ec } { X with rds:=withK X.rds k })) (mvA { R with ea:=ea,ec:=ec } { X with rds:=withK X.rds k }) rfl (Nat.le_of_ble_eq_true rfl) (by kernel_rfl) rfl rfl rfl rfl rfl ?_;intro W3 hq p3;have HY:=h_ hq;clear hq;have HM:=HM.out.q p3;have HA:=HA.out.q p3;have HB:=pb HB p3;have HU:=HU.out.q p3;clear p3;refine hK.out _ _ (⟨HM.out,HB.out⟩) fun hHeld=>?_;clear hK K
    (try simp only[Act.put])
    refine wpAnyH_done (by kernel_rfl) ?_ _;go_wp2;exact HA.out.r2 HY.out underlying52 underlying83 ⟨{ R with ea:=ea,ec:=ec },rfl,((HR.out.inn HB.out 3).both HU.out fun W h h2=>⟨h.M,h.r,h.w,h.o,h.oc,h.t,h2,h.u⟩).out,HB.out⟩
def rsX (r:Rs) (X:Rx):Vl × Rx:=match r with
 | .ok v=>(v,X)
 | .ab c=>(v00,abX c X)
 | .re k=>(v00,reX k X)
theorem Rnum_any(n:Int)(w:World):
  Calls prog 150 #[.int .i64 n] w fun e w'=>e=.returned (.agg (vV (numV n)))∧Below w.heap.size w w':=by
 obtain⟨v0,hW0,hb0,hHY⟩:=bxs1 w (#[.int .i64 0,.int .i64 0,.string ⟨#[]⟩]) 52;have HW:=h_ hW0;have HB:=h_ hb0;have HY:=h_ hHY;clear hW0 hb0 hHY;go_enter func150,ntmps150;go_upto_region 1 with (fail);rw[HW.out];clear HW;go_wp2_with (refine HY.out.wa (vV (numV n)) ?_);intro W1 HY p1;have HB:=pb HB p1;clear p1;go_wp2;exact HY.out.r1 underlying52 ⟨rfl,HB.out⟩
theorem Rtruth_any(b:Bool)(w:World):
  Calls prog 146 #[.bool b] w fun e w'=>e=.returned (.agg (vV (truV b)))∧Below w.heap.size w w':=by
 obtain⟨v0,hW0,hb0,hHY⟩:=bxs1 w (#[.int .i64 0,.int .i64 0,.string ⟨#[]⟩]) 52;have HW:=h_ hW0;have HB:=h_ hb0;have HY:=h_ hHY;clear hW0 hb0 hHY;go_enter func146,ntmps146;go_upto_region 1 with (fail);rw[HW.out];clear HW
 cases b with
 | true =>
  go_wp2_with (refine HY.out.wa (vV (truV true)) ?_);intro W1 HY p1;have HB:=pb HB p1;clear p1;go_wp2;exact HY.out.r1 underlying52 ⟨rfl,HB.out⟩
 | false =>
  go_wp2_with (refine HY.out.wa (vV (truV false)) ?_);intro W1 HY p1;have HB:=pb HB p1;clear p1;go_wp2;exact HY.out.r1 underlying52 ⟨rfl,HB.out⟩
theorem Rrunning_any(R:Ra)(X:Rx)(w:World):
  Calls prog 152 #[.agg (mvA R X)] w fun e w'=>e=.returned (.bool (X.st==0))∧Below w.heap.size w w':=by
 obtain⟨v0,hW0,hb0,hHM⟩:=bxs1 w (mvA R X) 83;have HW:=h_ hW0;have HB:=h_ hb0;have HM:=h_ hHM;clear hW0 hb0 hHM;go_enter func152,ntmps152;go_upto_region 1 with (fail);rw[HW.out];clear HW;have x6:=HM.out.cl 6;go_wp2;go_ret;exact⟨rfl,HB.out⟩
theorem Rarith_any(op a b:Int)(w:World)(hop:op=4∨op=5∨op=6∨op=7∨op=8)(ha1:-9223372036854775808≤a)(ha2:a≤9223372036854775807)(hb1:-9223372036854775808≤b)(hb2:b≤9223372036854775807):
  Calls prog 144 #[.int .i64 op,.int .i64 a,.int .i64 b] w fun e w'=>e=.returned (.tuple #[.int .i64 (ariS op a b).1,.int .i64 (ariS op a b).2])∧w'=w:=by
 rcases hop with rfl|rfl|rfl|rfl|rfl
 ·have he:ariS 4 a b=addS a b:=by unfold ariS;simp
  rw[he];clear he;go_enter func144,ntmps144;go_wp2_with fail;refine(RAdd_any a b w ha1 ha2 hb1 hb2).mono ?_;rintro er w1 ⟨rfl,rfl⟩;go_wp2;go_ret2;exact⟨rfl,rfl⟩
 ·have he:ariS 5 a b=subS a b:=by unfold ariS;simp
  rw[he];clear he;go_enter func144,ntmps144;go_wp2_with fail;refine(RSub_any a b w ha1 ha2 hb1 hb2).mono ?_;rintro er w1 ⟨rfl,rfl⟩;go_wp2;go_ret2;exact⟨rfl,rfl⟩
 ·have he:ariS 6 a b=mulS a b:=by unfold ariS;simp
  rw[he];clear he;go_enter func144,ntmps144;go_wp2_with fail;refine(RMul_any a b w ha1 ha2 hb1 hb2).mono ?_;rintro er w1 ⟨rfl,rfl⟩;go_wp2;go_ret2;exact⟨rfl,rfl⟩
 ·have he:ariS 7 a b=divS a b:=by unfold ariS;simp
  rw[he];clear he;go_enter func144,ntmps144;go_wp2_with fail;refine(RDiv_any a b w ha1 ha2 hb1 hb2).mono ?_;rintro er w1 ⟨rfl,rfl⟩;go_wp2;go_ret2;exact⟨rfl,rfl⟩
 ·have he:ariS 8 a b=modS a b:=by unfold ariS;simp
  rw[he];clear he;go_enter func144,ntmps144;go_wp2_with fail;refine(RMod_any a b w ha1 ha2 hb1 hb2).mono ?_;rintro er w1 ⟨rfl,rfl⟩;go_wp2;go_ret2;exact⟨rfl,rfl⟩
theorem Rcompared_any(op c:Int)(w:World)(hop:op=10∨op=11∨op=12∨op=13∨op=14∨op=15):
  Calls prog 147 #[.int .i64 op,.int .i64 c] w fun e w'=>e=.returned (.bool (cmpB op c))∧w'=w:=by
 rcases hop with rfl|rfl|rfl|rfl|rfl|rfl
 ·by_cases h:c=0
  ·skip
   have t1:(c==0)=true:=by rw[h];rfl
   have he:cmpB 10 c=true:=by unfold cmpB;simp[h]
   rw[he];clear he h;go_enter func147,ntmps147;go_wp2;go_ret;exact⟨rfl,rfl⟩
  ·skip
   have t1:(c==0)=false:=by rw[beq_eq_false_iff_ne];exact h
   have he:cmpB 10 c=false:=by unfold cmpB;simp[h]
   rw[he];clear he h;go_enter func147,ntmps147;go_wp2;go_ret;exact⟨rfl,rfl⟩
 ·by_cases h:c=0
  ·skip
   have t1:(c==0)=true:=by rw[h];rfl
   have t2:(c != 0)=false:=by simp[h]
   have he:cmpB 11 c=false:=by unfold cmpB;simp[h]
   rw[he];clear he h;go_enter func147,ntmps147;go_wp2;go_ret;exact⟨rfl,rfl⟩
  ·skip
   have t1:(c==0)=false:=by rw[beq_eq_false_iff_ne];exact h
   have t2:(c != 0)=true:=by simp[h]
   have he:cmpB 11 c=true:=by unfold cmpB;simp[h]
   rw[he];clear he h;go_enter func147,ntmps147;go_wp2;go_ret;exact⟨rfl,rfl⟩
 ·by_cases h:c<0
  ·skip
   have he:cmpB 12 c=true:=by unfold cmpB;simp[h]
   rw[he];clear he;go_enter func147,ntmps147;go_wp2;go_ret;exact⟨rfl,rfl⟩
  ·skip
   have t1:decide (c<0)=false:=decide_eq_false h
   have he:cmpB 12 c=false:=by unfold cmpB;simp[h]
   rw[he];clear he;go_enter func147,ntmps147;go_wp2;go_ret;exact⟨rfl,rfl⟩
 ·by_cases h:c≤0
  ·skip
   have he:cmpB 13 c=true:=by unfold cmpB;simp[h]
   rw[he];clear he;go_enter func147,ntmps147;go_wp2;go_ret;exact⟨rfl,rfl⟩
  ·skip
   have t1:decide (c≤0)=false:=decide_eq_false h
   have he:cmpB 13 c=false:=by unfold cmpB;simp[h]
   rw[he];clear he;go_enter func147,ntmps147;go_wp2;go_ret;exact⟨rfl,rfl⟩
 ·by_cases h:0<c
  ·skip
   have he:cmpB 14 c=true:=by unfold cmpB;simp[h]
   rw[he];clear he;go_enter func147,ntmps147;go_wp2;go_ret;exact⟨rfl,rfl⟩
  ·skip
   have t1:decide (0<c)=false:=decide_eq_false h
   have he:cmpB 14 c=false:=by unfold cmpB;simp[h]
   rw[he];clear he;go_enter func147,ntmps147;go_wp2;go_ret;exact⟨rfl,rfl⟩
 ·by_cases h:0≤c
  ·skip
   have he:cmpB 15 c=true:=by unfold cmpB;simp[h]
   rw[he];clear he;go_enter func147,ntmps147;go_wp2;go_ret;exact⟨rfl,rfl⟩
  ·skip
   have t1:decide (0≤c)=false:=decide_eq_false h
   have he:cmpB 15 c=false:=by unfold cmpB;simp[h]
   rw[he];clear he;go_enter func147,ntmps147;go_wp2;go_ret;exact⟨rfl,rfl⟩
theorem Rwrong_any(D:Nat→Prop)(R:Ra)(X:Rx)(w:World)(hD:∀k,D k→k<w.heap.size)(hR:Stab D w (RIn R X)):
  Calls prog 127 #[.agg (mvA R X)] w (VPo D v00 (abX 1009 X) w):=by
 have HR:=h_ hR;clear hR;obtain⟨v0,hW0,hb0,hHM,hHA,hHY⟩:=bxs3 w (mvA R X) (#[.int .i64 0,.int .i64 0,.string ⟨#[]⟩]) (#[.slice none 0 0,.bool false,.slice none 0 0,.slice none 0 0,.slice none 0 0,.slice none 0 0,.int .i64 0,.int .i64 0,.slice none 0 0,.slice none 0 0,.slice none 0 0,.slice none 0 0,.string ⟨#[]⟩,.int .i64 0]) 83 52 83;have HW:=h_ hW0;have HB:=h_ hb0;have HM:=h_ hHM;have HA:=h_ hHA;have HY:=h_ hHY;clear hW0 hb0 hHM hHA hHY;go_enter func127,ntmps127;go_upto_region 1 with (fail);rw[HW.out];clear HW;go_wp2_with (refine HM.out.wl 0 (mvA R X) underlying83 ?_);refine(RAbort_any 1009 _ R X _ (bl 3 hD HY) (HR.out.inn HB.out 3)).mono ?_;rintro er w1 ⟨R2,rfl,hr2,hb1⟩;have HM:=HM.out.k hb1;have HA:=HA.out.k hb1;have HY:=HY.out.k hb1;have HB:=bt HB hb1;clear hb1;have HR2:=h_ hr2;clear hr2;go_wp2_with (refine HA.out.wa (vV v00) ?_);intro W1 HA p1;have HM:=HM.out.q p1;have HY:=HY.out.q p1;have HB:=pb HB p1;have HR2:=HR2.out.q p1;clear p1;go_wp2_with (refine HY.out.wa (mvA R2 (abX 1009 X)) ?_);intro W2 HY p2;have HM:=HM.out.q p2;have HA:=HA.out.q p2;have HB:=pb HB p2;have HR2:=HR2.out.q p2;clear p2;go_wp2;exact HA.out.r2 HY.out underlying52 underlying83 ⟨R2,rfl,HR2.out.out,HB.out⟩
theorem Rcalc_any(n e:Int)(D:Nat→Prop)(R:Ra)(X:Rx)(w:World)(hD:∀k,D k→k<w.heap.size)(hR:Stab D w (RIn R X)):
  Calls prog 145 #[.agg (mvA R X),.int .i64 n,.int .i64 e] w (VPo D (rsX (exS (n,e)) X).1 (rsX (exS (n,e)) X).2 w):=by
 by_cases h4:e=4
 ·subst h4
  have HR:=h_ hR;clear hR;obtain⟨v0,hW0,hb0,hHM,hHA,hHY⟩:=bxs3 w (mvA R X) (#[.int .i64 0,.int .i64 0,.string ⟨#[]⟩]) (#[.slice none 0 0,.bool false,.slice none 0 0,.slice none 0 0,.slice none 0 0,.slice none 0 0,.int .i64 0,.int .i64 0,.slice none 0 0,.slice none 0 0,.slice none 0 0,.slice none 0 0,.string ⟨#[]⟩,.int .i64 0]) 83 52 83;have HW:=h_ hW0;have HB:=h_ hb0;have HM:=h_ hHM;have HA:=h_ hHA;have HY:=h_ hHY;clear hW0 hb0 hHM hHA hHY;go_enter func145,ntmps145;go_upto_region 1 with (fail);rw[HW.out];clear HW;go_wp2_with (refine HM.out.wl 0 (mvA R X) underlying83 ?_);refine(RAbort_any 1002 _ R X _ (bl 3 hD HY) (HR.out.inn HB.out 3)).mono ?_;rintro er w1 ⟨R2,rfl,hr2,hb1⟩;have HM:=HM.out.k hb1;have HA:=HA.out.k hb1;have HY:=HY.out.k hb1;have HB:=bt HB hb1;clear hb1;have HR2:=h_ hr2;clear hr2;go_wp2_with (refine HA.out.wa (vV v00) ?_);intro W1 HA p1;have HM:=HM.out.q p1;have HY:=HY.out.q p1;have HB:=pb HB p1;have HR2:=HR2.out.q p1;clear p1;go_wp2_with (refine HY.out.wa (mvA R2 (abX 1002 X)) ?_);intro W2 HY p2;have HM:=HM.out.q p2;have HA:=HA.out.q p2;have HB:=pb HB p2;have HR2:=HR2.out.q p2;clear p2;go_wp2;exact HA.out.r2 HY.out underlying52 underlying83 ⟨R2,rfl,HR2.out.out,HB.out⟩
 have t4:(e==4)=false:=by rw[beq_eq_false_iff_ne];exact h4
 by_cases h0:e=0;rotate_left
 ·have t0:(e != 0)=true:=by rw[bne_iff_ne];exact h0
  have he:exS (n,e)=.ab 1001:=by unfold exS;rw[if_neg h0,if_neg h4]
  rw[he];clear he h0 h4;have HR:=h_ hR;clear hR;obtain⟨v0,hW0,hb0,hHM,hHA,hHY⟩:=bxs3 w (mvA R X) (#[.int .i64 0,.int .i64 0,.string ⟨#[]⟩]) (#[.slice none 0 0,.bool false,.slice none 0 0,.slice none 0 0,.slice none 0 0,.slice none 0 0,.int .i64 0,.int .i64 0,.slice none 0 0,.slice none 0 0,.slice none 0 0,.slice none 0 0,.string ⟨#[]⟩,.int .i64 0]) 83 52 83;have HW:=h_ hW0;have HB:=h_ hb0;have HM:=h_ hHM;have HA:=h_ hHA;have HY:=h_ hHY;clear hW0 hb0 hHM hHA hHY;go_enter func145,ntmps145;go_upto_region 1 with (fail);rw[HW.out];clear HW;go_wp2_with (refine HM.out.wl 0 (mvA R X) underlying83 ?_);refine(RAbort_any 1001 _ R X _ (bl 3 hD HY) (HR.out.inn HB.out 3)).mono ?_;rintro er w1 ⟨R2,rfl,hr2,hb1⟩;have HM:=HM.out.k hb1;have HA:=HA.out.k hb1;have HY:=HY.out.k hb1;have HB:=bt HB hb1;clear hb1;have HR2:=h_ hr2;clear hr2;go_wp2_with (refine HA.out.wa (vV v00) ?_);intro W1 HA p1;have HM:=HM.out.q p1;have HY:=HY.out.q p1;have HB:=pb HB p1;have HR2:=HR2.out.q p1;clear p1;go_wp2_with (refine HY.out.wa (mvA R2 (abX 1001 X)) ?_);intro W2 HY p2;have HM:=HM.out.q p2;have HA:=HA.out.q p2;have HB:=pb HB p2;have HR2:=HR2.out.q p2;clear p2;go_wp2;exact HA.out.r2 HY.out underlying52 underlying83 ⟨R2,rfl,HR2.out.out,HB.out⟩
 subst h0;clear t4 h4;have he:exS (n,0)=.ok (numV n):=rfl;rw[he];clear he;have HR:=h_ hR;clear hR;obtain⟨v0,hW0,hb0,hHM,hHA,hHY⟩:=bxs3 w (mvA R X) (#[.int .i64 0,.int .i64 0,.string ⟨#[]⟩]) (#[.slice none 0 0,.bool false,.slice none 0 0,.slice none 0 0,.slice none 0 0,.slice none 0 0,.int .i64 0,.int .i64 0,.slice none 0 0,.slice none 0 0,.slice none 0 0,.slice none 0 0,.string ⟨#[]⟩,.int .i64 0]) 83 52 83;have HW:=h_ hW0;have HB:=h_ hb0;have HM:=h_ hHM;have HA:=h_ hHA;have HY:=h_ hHY;clear hW0 hb0 hHM hHA hHY;go_enter func145,ntmps145;go_upto_region 1 with (fail);rw[HW.out];clear HW;go_wp2_with fail;refine wp_region_held_drew (S:=(fun w'=>Bx w.heap.size (mvA R X) 83 w'∧Below w.heap.size w w')) (by kernel_rfl) ?_ (fun hHeld=>?_)
 ·exact(show ((fun w'=>Bx w.heap.size (mvA R X) 83 w'∧Below w.heap.size w w')) v0.drew from by have hb1:=(Below.refl v0.heap.size v0).drew;have HM:=HM.out.k hb1;have HA:=HA.out.k hb1;have HY:=HY.out.k hb1;have HB:=bt HB hb1;exact⟨HM.out,HB.out⟩)
 have hb1:=(Below.refl v0.heap.size v0).drew;have HM:=HM.out.k hb1;have HA:=HA.out.k hb1;have HY:=HY.out.k hb1;have HB:=bt HB hb1;clear hb1;generalize hWd:v0.drew=D1 at hHeld HB HM HA HY ⊢;clear hWd;refine tkX 0 18 ?_;simp only[sA,sB,sC];refine tkl2 2 20 (fun _ h=>h.1) 0 (mvA R X) underlying83 ?_;simp only[sA,sB,sC];refine rd1 1 fun K hK=>?_;go_simp;refine(Rnum_any n _).mono ?_;rintro er u1 ⟨rfl,hb1⟩;have HM:=HM.out.k hb1;have HA:=HA.out.k hb1;have HY:=HY.out.k hb1;have HB:=bt HB hb1;clear hb1;refine hK.out _ _ (⟨HM.out,HB.out⟩) fun hHeld=>?_;clear hK K
 (try simp only[Act.put,sA,sB,sC])
 refine rd1 3 fun K hK=>?_;refine Bx.rst HA.out 52 0 (.agg (vV (numV n))) (vV (numV n)) rfl (Nat.le_of_ble_eq_true rfl) (by kernel_rfl) rfl rfl rfl rfl rfl ?_;intro W1 hq p1;have HA:=h_ hq;clear hq;have HM:=HM.out.q p1;have HY:=HY.out.q p1;have HB:=pb HB p1;clear p1;refine hK.out _ _ (⟨HM.out,HB.out⟩) fun hHeld=>?_;clear hK K
 (try simp only[Act.put])
 refine rd1 4 fun K hK=>?_;refine Bx.rst HY.out 83 0 (.agg (mvA R X)) (mvA R X) rfl (Nat.le_of_ble_eq_true rfl) (by kernel_rfl) rfl rfl rfl rfl rfl ?_;intro W2 hq p2;have HY:=h_ hq;clear hq;have HM:=HM.out.q p2;have HA:=HA.out.q p2;have HB:=pb HB p2;clear p2;refine hK.out _ _ (⟨HM.out,HB.out⟩) fun hHeld=>?_;clear hK K
 (try simp only[Act.put])
 refine wpAnyH_done (by kernel_rfl) ?_ _;go_wp2;exact HA.out.r2 HY.out underlying52 underlying83 ⟨R,rfl,(HR.out.inn HB.out 3).out,HB.out⟩
theorem ite_and{α:Type}{p q:Prop}[Decidable p][Decidable q]{x y:Bool}(hx:p↔x=true)(hy:q↔y=true)(s t:α):(if p∧q then s else t)=if (x && y)=true then s else t:=by
 by_cases h:p∧q
 ·rw[if_pos h,if_pos (by rw[hx.1 h.1,hy.1 h.2];rfl)]
 ·rw[if_neg h,if_neg];intro e;rw[Bool.and_eq_true]at e;exact h ⟨hx.2 e.1,hy.2 e.2⟩
theorem bin_ari{op:Int}{a b:Vl}(h:op=4∨op=5∨op=6∨op=7∨op=8):binS op a b=if (a.k==1 && b.k==1)=true then exS (ariS op a.n b.n) else .ab 1009:=by
 unfold binS;rw[if_pos h];exact ite_and beq_iff_eq.symm beq_iff_eq.symm _ _
theorem bin_and(a b:Vl):binS 16 a b=if (a.k==3 && b.k==3)=true then .ok (truV ((a.n==1) && (b.n==1))) else .ab 1009:=by
 unfold binS;rw[if_neg (by decide),if_pos rfl];have e:(decide (a.n=1) && decide (b.n=1))=((a.n==1) && (b.n==1)):=rfl;rw[e];exact ite_and beq_iff_eq.symm beq_iff_eq.symm _ _
theorem bin_or(a b:Vl):binS 17 a b=if (a.k==3 && b.k==3)=true then .ok (truV ((a.n==1) || (b.n==1))) else .ab 1009:=by
 unfold binS;rw[if_neg (by decide),if_neg (by decide),if_pos rfl];have e:(decide (a.n=1) || decide (b.n=1))=((a.n==1) || (b.n==1)):=rfl;rw[e];exact ite_and beq_iff_eq.symm beq_iff_eq.symm _ _
theorem bin_cat(a b:Vl):binS 19 a b=if (a.k==2 && b.k==2)=true then txS (a.s++b.s) else .ab 1009:=by
 unfold binS;rw[if_neg (by decide),if_neg (by decide),if_neg (by decide),if_pos rfl];exact ite_and beq_iff_eq.symm beq_iff_eq.symm _ _
theorem bin_cmp{op:Int}{a b:Vl}(h:op=10∨op=11∨op=12∨op=13∨op=14∨op=15):binS op a b=if ((a.k==1 && b.k==1) || ((a.k==2 && b.k==2) || ((a.k==3 && b.k==3) && decide (op≤11))))=true then .ok (truV (cmpB op (cmpV a b))) else .ab 1009:=by
 have n1:¬(op=4∨op=5∨op=6∨op=7∨op=8):=by omega
 have n2:op≠19:=by omega
 have n3:op≠16:=by omega
 have n4:op≠17:=by omega
 unfold binS;rw[if_neg n1,if_neg n3,if_neg n4,if_neg n2];unfold cmpS;by_cases hc:a.k=b.k∧(a.k=1∨a.k=2∨(a.k=3∧op≤11))
 ·rw[if_pos hc,if_pos]
  obtain⟨h1,h2|h2|⟨h2,h3⟩⟩:=hc
  ·rw[←h1,h2];rfl
  ·rw[←h1,h2];rfl
  ·rw[←h1,h2,decide_eq_true h3];rfl
 ·rw[if_neg hc,if_neg]
  intro e;simp only[Bool.or_eq_true,Bool.and_eq_true,beq_iff_eq,decide_eq_true_eq]at e;rcases e with ⟨e1,e2⟩|⟨e1,e2⟩|⟨⟨e1,e2⟩,e3⟩
  ·exact hc ⟨by omega,.inl e1⟩
  ·exact hc ⟨by omega,.inr (.inl e1)⟩
  ·exact hc ⟨by omega,.inr (.inr ⟨e1,e3⟩)⟩
theorem cmpB_steps:∀a b:List UInt8,Lib.compareBytes a b=if Op.bytesLess a b=true then -1 else if a=b then 0 else 1
 | [],[]=>rfl
 | [],_::_=>rfl
 | _::_,[]=>rfl
 | x::a,y::b=>by
  unfold Lib.compareBytes;have ih:=cmpB_steps a b;by_cases h:x<y
  ·rw[if_pos h,if_pos (by simp[Op.bytesLess,h])]
  rw[if_neg h];by_cases h2:y<x
  ·have hne:x≠y:=fun e=>by subst e;exact h h2
   rw[if_pos h2,if_neg (by simp[Op.bytesLess,h,hne]),if_neg (by simp[hne])]
  ·have he:x=y:=UInt8.le_antisymm (UInt8.not_lt.1 h2) (UInt8.not_lt.1 h)
   subst he;rw[if_neg h,ih]
   have e1:(Op.bytesLess (x::a) (x::b)=true)=(Op.bytesLess a b=true):=by simp[Op.bytesLess]
   have e2:(x::a=x::b)=(a=b):=by simp
   simp only[e1,e2]
theorem cmp_steps{a b:Vl}(ha:GdV a)(hb:GdV b)(hk:a.k=b.k):cmpV a b=if a.n<b.n∨Op.bytesLess a.s b.s=true then -1 else if a≠b then 1 else 0:=by
 unfold cmpV;rw[if_pos hk]
 have hs:a.k≠2→a.s=[]∧b.s=[]:=by
  intro h;refine⟨?_,?_⟩
  ·rcases ha.2 with rfl|q
   ·rfl
   ·unfold varB at q
    by_cases h3:a.k=3
    ·rw[if_pos h3]at q;simp at q;exact q.2
    ·rw[if_neg h3]at q;unfold vaB at q
     by_cases h1:a.k=1
     ·simp[h1]at q;exact q
     ·by_cases h0:a.k=0
      ·simp[h0]at q
      ·simp[h0,h1,h]at q
  ·have h2:b.k≠2:=by omega
   rcases hb.2 with rfl|q
   ·rfl
   ·unfold varB at q
    by_cases h3:b.k=3
    ·rw[if_pos h3]at q;simp at q;exact q.2
    ·rw[if_neg h3]at q;unfold vaB at q
     by_cases h1:b.k=1
     ·simp[h1]at q;exact q
     ·by_cases h0:b.k=0
      ·simp[h0]at q
      ·simp[h0,h1,h2]at q
 have hn:a.k=2→a.n=0∧b.n=0:=by
  intro h
  have h2:b.k=2:=by omega
  refine⟨?_,?_⟩
  ·rcases ha.2 with rfl|q
   ·rfl
   ·unfold varB vaB at q;simp[h]at q;exact q.1
  ·rcases hb.2 with rfl|q
   ·rfl
   ·unfold varB vaB at q;simp[h2]at q;exact q.1
 have hab:a=b↔a.n=b.n∧a.s=b.s:=by
  constructor
  ·rintro rfl;exact⟨rfl,rfl⟩
  ·rintro ⟨h1,h2⟩;cases a;cases b;simp only at hk h1 h2;rw[hk,h1,h2]
 by_cases h2:a.k=2
 ·obtain⟨n1,n2⟩:=hn h2
  rw[n1,n2,if_pos rfl];rw[cmpB_steps];by_cases hl:Op.bytesLess a.s b.s=true
  ·rw[if_pos hl,if_pos (.inr hl)]
  ·rw[if_neg hl,if_neg (show ¬((0:Int)<0∨Op.bytesLess a.s b.s=true) from by rintro (q|q);omega;exact hl q)]
   by_cases he:a.s=b.s
   ·rw[if_pos he,if_neg (by simp[hab,n1,n2,he])]
   ·rw[if_neg he,if_pos (by rw[Ne,hab];exact fun q=>he q.2)]
 ·obtain⟨s1,s2⟩:=hs h2
  rw[s1,s2];by_cases he:a.n=b.n
  ·rw[if_pos he,if_neg (by rintro (q|q);omega;simp[Op.bytesLess]at q),if_neg (by simp[hab,he,s1,s2])];rfl
  ·rw[if_neg he]
   unfold Lib.compareInt;by_cases hl:a.n<b.n
   ·rw[if_pos hl,if_pos (.inl hl)]
   ·rw[if_neg hl,if_pos (by omega),if_neg (by rintro (q|q);exact hl q;simp[Op.bytesLess]at q),if_pos (by rw[Ne,hab];exact fun q=>he q.1)]
theorem Rtwo_any(op:Int)(a b:Vl)(D:Nat→Prop)(R:Ra)(X:Rx)(w:World)(hD:∀k,D k→k<w.heap.size)(hR:Stab D w (RIn R X))(ha:GdV a)(hb:GdV b)(hop:(op=4∨op=5∨op=6∨op=7∨op=8)∨op=16∨op=17∨op=19∨(op=10∨op=11∨op=12∨op=13∨op=14∨op=15)):
  Calls prog 125 #[.agg (mvA R X),.int .i64 op,.agg (vV a),.agg (vV b)] w (VPo D (rsX (binS op a b) X).1 (rsX (binS op a b) X).2 w):=by
 have HR:=h_ hR;clear hR;obtain⟨r,hr⟩:=ex_ (binS op a b);rw[hr];have HZ:=h_ hr;clear hr;obtain⟨I,hI⟩:=ex_ ((a.k==1 && b.k==1));obtain⟨J,hJ⟩:=ex_ ((a.k==2 && b.k==2));obtain⟨B,hB3⟩:=ex_ ((a.k==3 && b.k==3));have HI:=h_ hI;have HJ:=h_ hJ;have HBO:=h_ hB3;clear hI hJ hB3;have oka:=gd_ok ha;have okb:=gd_ok hb;have HGA:=h_ ha;have HGB:=h_ hb;have HOA:=h_ oka;have HOB:=h_ okb;clear oka okb ha hb;obtain⟨v0,hW0,hb0,hHM,hHP,hHQ,hHA,hHY⟩:=bxs5 w (mvA R X) (vV a) (vV b) (#[.int .i64 0,.int .i64 0,.string ⟨#[]⟩]) (#[.slice none 0 0,.bool false,.slice none 0 0,.slice none 0 0,.slice none 0 0,.slice none 0 0,.int .i64 0,.int .i64 0,.slice none 0 0,.slice none 0 0,.slice none 0 0,.slice none 0 0,.string ⟨#[]⟩,.int .i64 0]) 83 52 52 52 83;have HW:=h_ hW0;have HB:=h_ hb0;have HM:=h_ hHM;have HP:=h_ hHP;have HQ:=h_ hHQ;have HA:=h_ hHA;have HY:=h_ hHY;clear hW0 hb0 hHM hHP hHQ hHA hHY;go_enter func125,ntmps125;go_upto_region 1 with (fail);rw[HW.out];clear HW;have p0:=HP.out.cl 0;have q0:=HQ.out.cl 0;go_cut [10] from 16 to 23 (fun s W=>s=.bool I∧W=v0)
 case first =>
  have hI:=HI.out;cases ta:(a.k==1)<;>cases tb:(b.k==1)
  all_goals
   rw[ta,tb]at hI;subst hI;go_wp2_with fail
   go_meet
   exact⟨by first|exact True.intro|rfl,by first|exact True.intro|rfl⟩
 case rest =>
  obtain⟨rfl,hwc⟩:=hcut;subst hwc;go_upto_region 2 with (fail);go_cut [11] from 24 to 31 (fun s W=>s=.bool J∧W=wc)
  case first =>
   have hI:=HJ.out;cases ta:(a.k==2)<;>cases tb:(b.k==2)
   all_goals
    rw[ta,tb]at hI;subst hI;go_wp2_with fail
    go_meet
    exact⟨by first|exact True.intro|rfl,by first|exact True.intro|rfl⟩
  case rest =>
   obtain⟨rfl,hwc⟩:=hcut;subst hwc;go_upto_region 3 with (fail);go_cut [12] from 32 to 39 (fun s W=>s=.bool B∧W=wc)
   case first =>
    have hI:=HBO.out;cases ta:(a.k==3)<;>cases tb:(b.k==3)
    all_goals
     rw[ta,tb]at hI;subst hI;go_wp2_with fail
     go_meet
     exact⟨by first|exact True.intro|rfl,by first|exact True.intro|rfl⟩
   case rest =>
    obtain⟨rfl,hwc⟩:=hcut;subst hwc;go_upto_region 4 with (fail);clear p0 q0;rcases hop with h5|rfl|rfl|rfl|h6
    ·have hz:=HZ.out
     rw[bin_ari h5,HI.out]at hz;clear HJ HBO HGA HGB
     cases I with
     | false =>
      have HZZ:=h_ (show r=.ab 1009 from hz.symm);clear hz HZ;rcases h5 with rfl|rfl|rfl|rfl|rfl
      all_goals
       have hr2:r=.ab 1009:=HZZ.out;subst hr2;go_wp2_with (refine HM.out.wl 0 (mvA R X) underlying83 ?_);refine(Rwrong_any _ R X _ (bl 5 hD HY) (HR.out.inn HB.out 5)).mono ?_;rintro er w1 ⟨R2,rfl,hr2,hb1⟩;have HM:=HM.out.k hb1;have HP:=HP.out.k hb1;have HQ:=HQ.out.k hb1;have HA:=HA.out.k hb1;have HY:=HY.out.k hb1;have HB:=bt HB hb1;clear hb1;have HR2:=h_ hr2;clear hr2;go_wp2_with (refine HA.out.wa (vV v00) ?_);intro W1 HA p1;have HM:=HM.out.q p1;have HP:=HP.out.q p1;have HQ:=HQ.out.q p1;have HY:=HY.out.q p1;have HB:=pb HB p1;have HR2:=HR2.out.q p1;clear p1;go_wp2_with (refine HY.out.wa (mvA R2 (abX 1009 X)) ?_);intro W2 HY p2;have HM:=HM.out.q p2;have HP:=HP.out.q p2;have HQ:=HQ.out.q p2;have HA:=HA.out.q p2;have HB:=pb HB p2;have HR2:=HR2.out.q p2;clear p2;go_wp2;exact HA.out.r2 HY.out underlying52 underlying83 ⟨R2,rfl,HR2.out.out,HB.out⟩
     | true =>
      have hzz:exS ((ariS op a.n b.n).1,(ariS op a.n b.n).2)=r:=hz;have HZZ:=h_ hzz;clear hz hzz HZ;rcases h5 with rfl|rfl|rfl|rfl|rfl
      all_goals
       have p1:=HP.out.cl 1;have q1:=HQ.out.cl 1;go_wp2_with (fail);refine(Rarith_any _ a.n b.n _ (by decide) HOA.out.1 HOA.out.2.1 HOB.out.1 HOB.out.2.1).mono ?_;rintro er w1 ⟨rfl,rfl⟩;clear p1 q1;go_wp2_with (refine HM.out.wl 0 (mvA R X) underlying83 ?_);refine(Rcalc_any _ _ _ R X _ (bl 5 hD HY) (HR.out.inn HB.out 5)).mono ?_;rw[HZZ.out];rintro er w2 ⟨R2,rfl,hr2,hb1⟩;have HM:=HM.out.k hb1;have HP:=HP.out.k hb1;have HQ:=HQ.out.k hb1;have HA:=HA.out.k hb1;have HY:=HY.out.k hb1;have HB:=bt HB hb1;clear hb1;have HR2:=h_ hr2;clear hr2;go_wp2_with (refine HA.out.wa (vV (rsX r X).1) ?_);intro W1 HA p1;have HM:=HM.out.q p1;have HP:=HP.out.q p1;have HQ:=HQ.out.q p1;have HY:=HY.out.q p1;have HB:=pb HB p1;have HR2:=HR2.out.q p1;clear p1;go_wp2_with (refine HY.out.wa (mvA R2 ((rsX r X).2)) ?_);intro W2 HY p2;have HM:=HM.out.q p2;have HP:=HP.out.q p2;have HQ:=HQ.out.q p2;have HA:=HA.out.q p2;have HB:=pb HB p2;have HR2:=HR2.out.q p2;clear p2;go_wp2;exact HA.out.r2 HY.out underlying52 underlying83 ⟨R2,rfl,HR2.out.out,HB.out⟩
    ·have hz:=HZ.out
     rw[bin_and,HBO.out]at hz;clear HI HJ HGA HGB
     cases B with
     | false =>
      have HZZ:=h_ (show r=.ab 1009 from hz.symm);clear hz HZ;have hr2:r=.ab 1009:=HZZ.out;subst hr2;go_wp2_with (refine HM.out.wl 0 (mvA R X) underlying83 ?_);refine(Rwrong_any _ R X _ (bl 5 hD HY) (HR.out.inn HB.out 5)).mono ?_;rintro er w1 ⟨R2,rfl,hr2,hb1⟩;have HM:=HM.out.k hb1;have HP:=HP.out.k hb1;have HQ:=HQ.out.k hb1;have HA:=HA.out.k hb1;have HY:=HY.out.k hb1;have HB:=bt HB hb1;clear hb1;have HR2:=h_ hr2;clear hr2;go_wp2_with (refine HA.out.wa (vV v00) ?_);intro W1 HA p1;have HM:=HM.out.q p1;have HP:=HP.out.q p1;have HQ:=HQ.out.q p1;have HY:=HY.out.q p1;have HB:=pb HB p1;have HR2:=HR2.out.q p1;clear p1;go_wp2_with (refine HY.out.wa (mvA R2 (abX 1009 X)) ?_);intro W2 HY p2;have HM:=HM.out.q p2;have HP:=HP.out.q p2;have HQ:=HQ.out.q p2;have HA:=HA.out.q p2;have HB:=pb HB p2;have HR2:=HR2.out.q p2;clear p2;go_wp2;exact HA.out.r2 HY.out underlying52 underlying83 ⟨R2,rfl,HR2.out.out,HB.out⟩
     | true =>
      have hzz:r=.ok (truV ((a.n==1) && (b.n==1))):=hz.symm;clear hz HZ;obtain⟨y,hy⟩:=ex_ ((b.n==1));rw[hy]at hzz
      cases hx:(a.n==1) with
      | false =>
       rw[hx]at hzz;subst hzz;go_wp2_with fail;refine wp_region_held_drew (S:=(fun w'=>Bx w.heap.size (mvA R X) 83 w'∧Bx (w.heap.size+1) (vV a) 52 w'∧Bx (w.heap.size+2) (vV b) 52 w'∧Below w.heap.size w w')) (by kernel_rfl) ?_ (fun hHeld=>?_)
       ·exact(show ((fun w'=>Bx w.heap.size (mvA R X) 83 w'∧Bx (w.heap.size+1) (vV a) 52 w'∧Bx (w.heap.size+2) (vV b) 52 w'∧Below w.heap.size w w')) wc.drew from by have hb1:=(Below.refl wc.heap.size wc).drew;have HM:=HM.out.k hb1;have HP:=HP.out.k hb1;have HQ:=HQ.out.k hb1;have HA:=HA.out.k hb1;have HY:=HY.out.k hb1;have HB:=bt HB hb1;exact⟨HM.out,HP.out,HQ.out,HB.out⟩)
       have hb1:=(Below.refl wc.heap.size wc).drew;have HM:=HM.out.k hb1;have HP:=HP.out.k hb1;have HQ:=HQ.out.k hb1;have HA:=HA.out.k hb1;have HY:=HY.out.k hb1;have HB:=bt HB hb1;clear hb1;generalize hWd:wc.drew=D1 at hHeld HB HM HP HQ HA HY ⊢;clear hWd;refine tkX 0 79 ?_;refine tkY 1 (v:=?vv3) 80 ?yy3 ?_
       case yy3 =>
        intro wq hSw;have z1:wq.cell? ⟨w.heap.size+1,1,none⟩=some (.int .i64 a.n):=hSw.2.1.cell 1;clear hSw;go_simp
        (try with_reducible rfl)
       refine tkX 2 81 ?_;refine tkX 3 82 ?_;refine tkZ 4 83 ?_;refine tkZ 5 84 ?_;refine tkZ 6 85 ?_;refine tkX 7 86 ?_;simp only[sA,sB,sC];refine tkl2 9 88 (fun _ h=>h.1) 0 (mvA R X) underlying83 ?_;simp only[sA,sB,sC]
       have hve:(truV (false && y))=truV false:=by cases y<;>rfl
       skip;refine rd1 8 fun K hK=>?_;go_simp;refine(Rtruth_any false _).mono ?_;rintro er u1 ⟨rfl,hb1⟩;have HM:=HM.out.k hb1;have HP:=HP.out.k hb1;have HQ:=HQ.out.k hb1;have HA:=HA.out.k hb1;have HY:=HY.out.k hb1;have HB:=bt HB hb1;clear hb1;refine hK.out _ _ (⟨HM.out,HP.out,HQ.out,HB.out⟩) fun hHeld=>?_;clear hK K
       (try simp only[Act.put,sA,sB,sC])
       refine rd1 10 fun K hK=>?_;refine Bx.rst HA.out 52 0 (.agg (vV (truV false))) (vV (truV false)) rfl (Nat.le_of_ble_eq_true rfl) (by kernel_rfl) rfl rfl rfl rfl rfl ?_;intro W1 hq p1;have HA:=h_ hq;clear hq;have HM:=HM.out.q p1;have HP:=HP.out.q p1;have HQ:=HQ.out.q p1;have HY:=HY.out.q p1;have HB:=pb HB p1;clear p1;refine hK.out _ _ (⟨HM.out,HP.out,HQ.out,HB.out⟩) fun hHeld=>?_;clear hK K
       (try simp only[Act.put])
       refine rd1 11 fun K hK=>?_;refine Bx.rst HY.out 83 0 (.agg (mvA R X)) (mvA R X) rfl (Nat.le_of_ble_eq_true rfl) (by kernel_rfl) rfl rfl rfl rfl rfl ?_;intro W2 hq p2;have HY:=h_ hq;clear hq;have HM:=HM.out.q p2;have HP:=HP.out.q p2;have HQ:=HQ.out.q p2;have HA:=HA.out.q p2;have HB:=pb HB p2;clear p2;refine hK.out _ _ (⟨HM.out,HP.out,HQ.out,HB.out⟩) fun hHeld=>?_;clear hK K
       (try simp only[Act.put])
       refine wpAnyH_done (by kernel_rfl) ?_ _;go_wp2;exact HA.out.r2 HY.out underlying52 underlying83 ⟨R,by rw[show (rsX (.ok (truV (false && y))) X).1=truV false from hve];rfl,(HR.out.inn HB.out 5).out,HB.out⟩
      | true =>
       rw[hx]at hzz;subst hzz;go_wp2_with fail;refine wp_region_held_drew (S:=(fun w'=>Bx w.heap.size (mvA R X) 83 w'∧Bx (w.heap.size+1) (vV a) 52 w'∧Bx (w.heap.size+2) (vV b) 52 w'∧Below w.heap.size w w')) (by kernel_rfl) ?_ (fun hHeld=>?_)
       ·exact(show ((fun w'=>Bx w.heap.size (mvA R X) 83 w'∧Bx (w.heap.size+1) (vV a) 52 w'∧Bx (w.heap.size+2) (vV b) 52 w'∧Below w.heap.size w w')) wc.drew from by have hb1:=(Below.refl wc.heap.size wc).drew;have HM:=HM.out.k hb1;have HP:=HP.out.k hb1;have HQ:=HQ.out.k hb1;have HA:=HA.out.k hb1;have HY:=HY.out.k hb1;have HB:=bt HB hb1;exact⟨HM.out,HP.out,HQ.out,HB.out⟩)
       have hb1:=(Below.refl wc.heap.size wc).drew;have HM:=HM.out.k hb1;have HP:=HP.out.k hb1;have HQ:=HQ.out.k hb1;have HA:=HA.out.k hb1;have HY:=HY.out.k hb1;have HB:=bt HB hb1;clear hb1;generalize hWd:wc.drew=D2 at hHeld HB HM HP HQ HA HY ⊢;clear hWd;refine tkX 0 79 ?_;refine tkY 1 (v:=?vv8) 80 ?yy8 ?_
       case yy8 =>
        intro wq hSw;have z1:wq.cell? ⟨w.heap.size+1,1,none⟩=some (.int .i64 a.n):=hSw.2.1.cell 1;clear hSw;go_simp
        (try with_reducible rfl)
       refine tkX 2 81 ?_;refine tkX 3 82 ?_;refine tkX 4 83 ?_;refine tkY 5 (v:=?vv12) 84 ?yy12 ?_
       case yy12 =>
        intro wq hSw;have z2:wq.cell? ⟨w.heap.size+2,1,none⟩=some (.int .i64 b.n):=hSw.2.2.1.cell 1;clear hSw;go_simp
        (try with_reducible rfl)
       refine tkX 6 85 ?_;refine tkX 7 86 ?_;simp only[sA,sB,sC];refine tkl2 9 88 (fun _ h=>h.1) 0 (mvA R X) underlying83 ?_;simp only[sA,sB,sC]
       have hve:(truV (true && y))=truV y:=by cases y<;>rfl
       skip;refine rd1 8 fun K hK=>?_;go_simp;refine(Rtruth_any y _).mono ?_;rintro er u1 ⟨rfl,hb1⟩;have HM:=HM.out.k hb1;have HP:=HP.out.k hb1;have HQ:=HQ.out.k hb1;have HA:=HA.out.k hb1;have HY:=HY.out.k hb1;have HB:=bt HB hb1;clear hb1;refine hK.out _ _ (⟨HM.out,HP.out,HQ.out,HB.out⟩) fun hHeld=>?_;clear hK K
       (try simp only[Act.put,sA,sB,sC])
       refine rd1 10 fun K hK=>?_;refine Bx.rst HA.out 52 0 (.agg (vV (truV y))) (vV (truV y)) rfl (Nat.le_of_ble_eq_true rfl) (by kernel_rfl) rfl rfl rfl rfl rfl ?_;intro W1 hq p1;have HA:=h_ hq;clear hq;have HM:=HM.out.q p1;have HP:=HP.out.q p1;have HQ:=HQ.out.q p1;have HY:=HY.out.q p1;have HB:=pb HB p1;clear p1;refine hK.out _ _ (⟨HM.out,HP.out,HQ.out,HB.out⟩) fun hHeld=>?_;clear hK K
       (try simp only[Act.put])
       refine rd1 11 fun K hK=>?_;refine Bx.rst HY.out 83 0 (.agg (mvA R X)) (mvA R X) rfl (Nat.le_of_ble_eq_true rfl) (by kernel_rfl) rfl rfl rfl rfl rfl ?_;intro W2 hq p2;have HY:=h_ hq;clear hq;have HM:=HM.out.q p2;have HP:=HP.out.q p2;have HQ:=HQ.out.q p2;have HA:=HA.out.q p2;have HB:=pb HB p2;clear p2;refine hK.out _ _ (⟨HM.out,HP.out,HQ.out,HB.out⟩) fun hHeld=>?_;clear hK K
       (try simp only[Act.put])
       refine wpAnyH_done (by kernel_rfl) ?_ _;go_wp2;exact HA.out.r2 HY.out underlying52 underlying83 ⟨R,by rw[show (rsX (.ok (truV (true && y))) X).1=truV y from hve];rfl,(HR.out.inn HB.out 5).out,HB.out⟩
    ·have hz:=HZ.out
     rw[bin_or,HBO.out]at hz;clear HI HJ HGA HGB
     cases B with
     | false =>
      have HZZ:=h_ (show r=.ab 1009 from hz.symm);clear hz HZ;have hr2:r=.ab 1009:=HZZ.out;subst hr2;go_wp2_with (refine HM.out.wl 0 (mvA R X) underlying83 ?_);refine(Rwrong_any _ R X _ (bl 5 hD HY) (HR.out.inn HB.out 5)).mono ?_;rintro er w1 ⟨R2,rfl,hr2,hb1⟩;have HM:=HM.out.k hb1;have HP:=HP.out.k hb1;have HQ:=HQ.out.k hb1;have HA:=HA.out.k hb1;have HY:=HY.out.k hb1;have HB:=bt HB hb1;clear hb1;have HR2:=h_ hr2;clear hr2;go_wp2_with (refine HA.out.wa (vV v00) ?_);intro W1 HA p1;have HM:=HM.out.q p1;have HP:=HP.out.q p1;have HQ:=HQ.out.q p1;have HY:=HY.out.q p1;have HB:=pb HB p1;have HR2:=HR2.out.q p1;clear p1;go_wp2_with (refine HY.out.wa (mvA R2 (abX 1009 X)) ?_);intro W2 HY p2;have HM:=HM.out.q p2;have HP:=HP.out.q p2;have HQ:=HQ.out.q p2;have HA:=HA.out.q p2;have HB:=pb HB p2;have HR2:=HR2.out.q p2;clear p2;go_wp2;exact HA.out.r2 HY.out underlying52 underlying83 ⟨R2,rfl,HR2.out.out,HB.out⟩
     | true =>
      have hzz:r=.ok (truV ((a.n==1) || (b.n==1))):=hz.symm;clear hz HZ;obtain⟨y,hy⟩:=ex_ ((b.n==1));rw[hy]at hzz
      cases hx:(a.n==1) with
      | false =>
       rw[hx]at hzz;subst hzz;go_wp2_with fail;refine wp_region_held_drew (S:=(fun w'=>Bx w.heap.size (mvA R X) 83 w'∧Bx (w.heap.size+1) (vV a) 52 w'∧Bx (w.heap.size+2) (vV b) 52 w'∧Below w.heap.size w w')) (by kernel_rfl) ?_ (fun hHeld=>?_)
       ·exact(show ((fun w'=>Bx w.heap.size (mvA R X) 83 w'∧Bx (w.heap.size+1) (vV a) 52 w'∧Bx (w.heap.size+2) (vV b) 52 w'∧Below w.heap.size w w')) wc.drew from by have hb1:=(Below.refl wc.heap.size wc).drew;have HM:=HM.out.k hb1;have HP:=HP.out.k hb1;have HQ:=HQ.out.k hb1;have HA:=HA.out.k hb1;have HY:=HY.out.k hb1;have HB:=bt HB hb1;exact⟨HM.out,HP.out,HQ.out,HB.out⟩)
       have hb1:=(Below.refl wc.heap.size wc).drew;have HM:=HM.out.k hb1;have HP:=HP.out.k hb1;have HQ:=HQ.out.k hb1;have HA:=HA.out.k hb1;have HY:=HY.out.k hb1;have HB:=bt HB hb1;clear hb1;generalize hWd:wc.drew=D3 at hHeld HB HM HP HQ HA HY ⊢;clear hWd;refine tkX 0 89 ?_;refine tkY 1 (v:=?vv16) 90 ?yy16 ?_
       case yy16 =>
        intro wq hSw;have z1:wq.cell? ⟨w.heap.size+1,1,none⟩=some (.int .i64 a.n):=hSw.2.1.cell 1;clear hSw;go_simp
        (try with_reducible rfl)
       refine tkX 2 91 ?_;refine tkX 3 92 ?_;refine tkX 4 93 ?_;refine tkY 5 (v:=?vv20) 94 ?yy20 ?_
       case yy20 =>
        intro wq hSw;have z2:wq.cell? ⟨w.heap.size+2,1,none⟩=some (.int .i64 b.n):=hSw.2.2.1.cell 1;clear hSw;go_simp
        (try with_reducible rfl)
       refine tkX 6 95 ?_;refine tkX 7 96 ?_;simp only[sA,sB,sC];refine tkl2 9 98 (fun _ h=>h.1) 0 (mvA R X) underlying83 ?_;simp only[sA,sB,sC]
       have hve:(truV (false || y))=truV y:=by cases y<;>rfl
       skip;refine rd1 8 fun K hK=>?_;go_simp;refine(Rtruth_any y _).mono ?_;rintro er u1 ⟨rfl,hb1⟩;have HM:=HM.out.k hb1;have HP:=HP.out.k hb1;have HQ:=HQ.out.k hb1;have HA:=HA.out.k hb1;have HY:=HY.out.k hb1;have HB:=bt HB hb1;clear hb1;refine hK.out _ _ (⟨HM.out,HP.out,HQ.out,HB.out⟩) fun hHeld=>?_;clear hK K
       (try simp only[Act.put,sA,sB,sC])
       refine rd1 10 fun K hK=>?_;refine Bx.rst HA.out 52 0 (.agg (vV (truV y))) (vV (truV y)) rfl (Nat.le_of_ble_eq_true rfl) (by kernel_rfl) rfl rfl rfl rfl rfl ?_;intro W1 hq p1;have HA:=h_ hq;clear hq;have HM:=HM.out.q p1;have HP:=HP.out.q p1;have HQ:=HQ.out.q p1;have HY:=HY.out.q p1;have HB:=pb HB p1;clear p1;refine hK.out _ _ (⟨HM.out,HP.out,HQ.out,HB.out⟩) fun hHeld=>?_;clear hK K
       (try simp only[Act.put])
       refine rd1 11 fun K hK=>?_;refine Bx.rst HY.out 83 0 (.agg (mvA R X)) (mvA R X) rfl (Nat.le_of_ble_eq_true rfl) (by kernel_rfl) rfl rfl rfl rfl rfl ?_;intro W2 hq p2;have HY:=h_ hq;clear hq;have HM:=HM.out.q p2;have HP:=HP.out.q p2;have HQ:=HQ.out.q p2;have HA:=HA.out.q p2;have HB:=pb HB p2;clear p2;refine hK.out _ _ (⟨HM.out,HP.out,HQ.out,HB.out⟩) fun hHeld=>?_;clear hK K
       (try simp only[Act.put])
       refine wpAnyH_done (by kernel_rfl) ?_ _;go_wp2;exact HA.out.r2 HY.out underlying52 underlying83 ⟨R,by rw[show (rsX (.ok (truV (false || y))) X).1=truV y from hve];rfl,(HR.out.inn HB.out 5).out,HB.out⟩
      | true =>
       rw[hx]at hzz;subst hzz;go_wp2_with fail;refine wp_region_held_drew (S:=(fun w'=>Bx w.heap.size (mvA R X) 83 w'∧Bx (w.heap.size+1) (vV a) 52 w'∧Bx (w.heap.size+2) (vV b) 52 w'∧Below w.heap.size w w')) (by kernel_rfl) ?_ (fun hHeld=>?_)
       ·exact(show ((fun w'=>Bx w.heap.size (mvA R X) 83 w'∧Bx (w.heap.size+1) (vV a) 52 w'∧Bx (w.heap.size+2) (vV b) 52 w'∧Below w.heap.size w w')) wc.drew from by have hb1:=(Below.refl wc.heap.size wc).drew;have HM:=HM.out.k hb1;have HP:=HP.out.k hb1;have HQ:=HQ.out.k hb1;have HA:=HA.out.k hb1;have HY:=HY.out.k hb1;have HB:=bt HB hb1;exact⟨HM.out,HP.out,HQ.out,HB.out⟩)
       have hb1:=(Below.refl wc.heap.size wc).drew;have HM:=HM.out.k hb1;have HP:=HP.out.k hb1;have HQ:=HQ.out.k hb1;have HA:=HA.out.k hb1;have HY:=HY.out.k hb1;have HB:=bt HB hb1;clear hb1;generalize hWd:wc.drew=D4 at hHeld HB HM HP HQ HA HY ⊢;clear hWd;refine tkX 0 89 ?_;refine tkY 1 (v:=?vv24) 90 ?yy24 ?_
       case yy24 =>
        intro wq hSw;have z1:wq.cell? ⟨w.heap.size+1,1,none⟩=some (.int .i64 a.n):=hSw.2.1.cell 1;clear hSw;go_simp
        (try with_reducible rfl)
       refine tkX 2 91 ?_;refine tkX 3 92 ?_;refine tkZ 4 93 ?_;refine tkZ 5 94 ?_;refine tkZ 6 95 ?_;refine tkX 7 96 ?_;simp only[sA,sB,sC];refine tkl2 9 98 (fun _ h=>h.1) 0 (mvA R X) underlying83 ?_;simp only[sA,sB,sC]
       have hve:(truV (true || y))=truV true:=by cases y<;>rfl
       skip;refine rd1 8 fun K hK=>?_;go_simp;refine(Rtruth_any true _).mono ?_;rintro er u1 ⟨rfl,hb1⟩;have HM:=HM.out.k hb1;have HP:=HP.out.k hb1;have HQ:=HQ.out.k hb1;have HA:=HA.out.k hb1;have HY:=HY.out.k hb1;have HB:=bt HB hb1;clear hb1;refine hK.out _ _ (⟨HM.out,HP.out,HQ.out,HB.out⟩) fun hHeld=>?_;clear hK K
       (try simp only[Act.put,sA,sB,sC])
       refine rd1 10 fun K hK=>?_;refine Bx.rst HA.out 52 0 (.agg (vV (truV true))) (vV (truV true)) rfl (Nat.le_of_ble_eq_true rfl) (by kernel_rfl) rfl rfl rfl rfl rfl ?_;intro W1 hq p1;have HA:=h_ hq;clear hq;have HM:=HM.out.q p1;have HP:=HP.out.q p1;have HQ:=HQ.out.q p1;have HY:=HY.out.q p1;have HB:=pb HB p1;clear p1;refine hK.out _ _ (⟨HM.out,HP.out,HQ.out,HB.out⟩) fun hHeld=>?_;clear hK K
       (try simp only[Act.put])
       refine rd1 11 fun K hK=>?_;refine Bx.rst HY.out 83 0 (.agg (mvA R X)) (mvA R X) rfl (Nat.le_of_ble_eq_true rfl) (by kernel_rfl) rfl rfl rfl rfl rfl ?_;intro W2 hq p2;have HY:=h_ hq;clear hq;have HM:=HM.out.q p2;have HP:=HP.out.q p2;have HQ:=HQ.out.q p2;have HA:=HA.out.q p2;have HB:=pb HB p2;clear p2;refine hK.out _ _ (⟨HM.out,HP.out,HQ.out,HB.out⟩) fun hHeld=>?_;clear hK K
       (try simp only[Act.put])
       refine wpAnyH_done (by kernel_rfl) ?_ _;go_wp2;exact HA.out.r2 HY.out underlying52 underlying83 ⟨R,by rw[show (rsX (.ok (truV (true || y))) X).1=truV true from hve];rfl,(HR.out.inn HB.out 5).out,HB.out⟩
    ·have hz:=HZ.out
     rw[bin_cat,HJ.out]at hz;clear HI HBO HGA HGB
     cases J with
     | false =>
      have HZZ:=h_ (show r=.ab 1009 from hz.symm);clear hz HZ;have hr2:r=.ab 1009:=HZZ.out;subst hr2;go_wp2_with (refine HM.out.wl 0 (mvA R X) underlying83 ?_);refine(Rwrong_any _ R X _ (bl 5 hD HY) (HR.out.inn HB.out 5)).mono ?_;rintro er w1 ⟨R2,rfl,hr2,hb1⟩;have HM:=HM.out.k hb1;have HP:=HP.out.k hb1;have HQ:=HQ.out.k hb1;have HA:=HA.out.k hb1;have HY:=HY.out.k hb1;have HB:=bt HB hb1;clear hb1;have HR2:=h_ hr2;clear hr2;go_wp2_with (refine HA.out.wa (vV v00) ?_);intro W1 HA p1;have HM:=HM.out.q p1;have HP:=HP.out.q p1;have HQ:=HQ.out.q p1;have HY:=HY.out.q p1;have HB:=pb HB p1;have HR2:=HR2.out.q p1;clear p1;go_wp2_with (refine HY.out.wa (mvA R2 (abX 1009 X)) ?_);intro W2 HY p2;have HM:=HM.out.q p2;have HP:=HP.out.q p2;have HQ:=HQ.out.q p2;have HA:=HA.out.q p2;have HB:=pb HB p2;have HR2:=HR2.out.q p2;clear p2;go_wp2;exact HA.out.r2 HY.out underlying52 underlying83 ⟨R2,rfl,HR2.out.out,HB.out⟩
     | true =>
      have hzz:r=txS (a.s++b.s):=hz.symm;unfold txS at hzz;clear hz HZ;have p2:=HP.out.cl 2;have q2:=HQ.out.cl 2;have hla:=HOA.out.2.2;have hlb:=HOB.out.2.2;by_cases h64:64<(a.s++b.s).length
      ·have h64':(64:Int)<(a.s.length:Int)+(b.s.length:Int):=by rw[List.length_append]at h64;omega
       rw[if_pos h64]at hzz;subst hzz
       have hw1:IntKind.i64.wrap ((a.s.length:Int)+(b.s.length:Int))=(a.s.length:Int)+(b.s.length:Int):=by rw[IntKind.wrap_i64];omega
       clear h64;go_wp2_with (refine HM.out.wl 0 (mvA R X) underlying83 ?_);refine(RAbort_any 1006 _ R X _ (bl 5 hD HY) (HR.out.inn HB.out 5)).mono ?_;rintro er w1 ⟨R2,rfl,hr2,hb1⟩;have HM:=HM.out.k hb1;have HP:=HP.out.k hb1;have HQ:=HQ.out.k hb1;have HA:=HA.out.k hb1;have HY:=HY.out.k hb1;have HB:=bt HB hb1;clear hb1;have HR2:=h_ hr2;clear hr2;go_wp2_with (refine HA.out.wa (vV v00) ?_);intro W1 HA p1;have HM:=HM.out.q p1;have HP:=HP.out.q p1;have HQ:=HQ.out.q p1;have HY:=HY.out.q p1;have HB:=pb HB p1;have HR2:=HR2.out.q p1;clear p1;go_wp2_with (refine HY.out.wa (mvA R2 (abX 1006 X)) ?_);intro W2 HY p2;have HM:=HM.out.q p2;have HP:=HP.out.q p2;have HQ:=HQ.out.q p2;have HA:=HA.out.q p2;have HB:=pb HB p2;have HR2:=HR2.out.q p2;clear p2;go_wp2;exact HA.out.r2 HY.out underlying52 underlying83 ⟨R2,rfl,HR2.out.out,HB.out⟩
      have h64':¬(64:Int)<(a.s.length:Int)+(b.s.length:Int):=by rw[List.length_append]at h64;omega
      rw[if_neg h64]at hzz;subst hzz
      have hw1:IntKind.i64.wrap ((a.s.length:Int)+(b.s.length:Int))=(a.s.length:Int)+(b.s.length:Int):=by rw[IntKind.wrap_i64];omega
      have hnl:¬9223372036854775807<a.s.length+b.s.length:=by omega
      clear h64;go_wp2_with fail;clear p2 q2;go_wp2_with fail;refine wp_region_held_drew (S:=(fun w'=>Bx w.heap.size (mvA R X) 83 w'∧Bx (w.heap.size+1) (vV a) 52 w'∧Bx (w.heap.size+2) (vV b) 52 w'∧Below w.heap.size w w')) (by kernel_rfl) ?_ (fun hHeld=>?_)
      ·exact(show ((fun w'=>Bx w.heap.size (mvA R X) 83 w'∧Bx (w.heap.size+1) (vV a) 52 w'∧Bx (w.heap.size+2) (vV b) 52 w'∧Below w.heap.size w w')) wc.drew from by have hb1:=(Below.refl wc.heap.size wc).drew;have HM:=HM.out.k hb1;have HP:=HP.out.k hb1;have HQ:=HQ.out.k hb1;have HA:=HA.out.k hb1;have HY:=HY.out.k hb1;have HB:=bt HB hb1;exact⟨HM.out,HP.out,HQ.out,HB.out⟩)
      have hb1:=(Below.refl wc.heap.size wc).drew;have HM:=HM.out.k hb1;have HP:=HP.out.k hb1;have HQ:=HQ.out.k hb1;have HA:=HA.out.k hb1;have HY:=HY.out.k hb1;have HB:=bt HB hb1;clear hb1;generalize hWd:wc.drew=D5 at hHeld HB HM HP HQ HA HY ⊢;clear hWd;refine tkX 0 118 ?_;refine tkY 1 (v:=?vv29) 119 ?yy29 ?_
      case yy29 =>
       intro wq hSw;have z1:wq.cell? ⟨w.heap.size+1,2,none⟩=some (.string (bs a.s)):=hSw.2.1.cell 2;clear hSw;go_simp
       (try with_reducible rfl)
      refine tkX 2 120 ?_;refine tkY 3 (v:=?vv31) 121 ?yy31 ?_
      case yy31 =>
       intro wq hSw;have z2:wq.cell? ⟨w.heap.size+2,2,none⟩=some (.string (bs b.s)):=hSw.2.2.1.cell 2;clear hSw;go_simp
       (try with_reducible rfl)
      refine tkX 4 122 ?_;refine tkX 5 123 ?_;simp only[sA,sB,sC];refine tkl2 6 124 (fun _ h=>h.1) 0 (mvA R X) underlying83 ?_;simp only[sA,sB,sC];refine rd1 7 fun K hK=>?_;refine Bx.rst HA.out 52 0 (.agg (vV (strVl (a.s++b.s)))) (vV (strVl (a.s++b.s))) rfl (Nat.le_of_ble_eq_true rfl) (by kernel_rfl) rfl rfl rfl rfl rfl ?_;intro W1 hq p1;have HA:=h_ hq;clear hq;have HM:=HM.out.q p1;have HP:=HP.out.q p1;have HQ:=HQ.out.q p1;have HY:=HY.out.q p1;have HB:=pb HB p1;clear p1;refine hK.out _ _ (⟨HM.out,HP.out,HQ.out,HB.out⟩) fun hHeld=>?_;clear hK K
      (try simp only[Act.put])
      refine rd1 8 fun K hK=>?_;refine Bx.rst HY.out 83 0 (.agg (mvA R X)) (mvA R X) rfl (Nat.le_of_ble_eq_true rfl) (by kernel_rfl) rfl rfl rfl rfl rfl ?_;intro W2 hq p2;have HY:=h_ hq;clear hq;have HM:=HM.out.q p2;have HP:=HP.out.q p2;have HQ:=HQ.out.q p2;have HA:=HA.out.q p2;have HB:=pb HB p2;clear p2;refine hK.out _ _ (⟨HM.out,HP.out,HQ.out,HB.out⟩) fun hHeld=>?_;clear hK K
      (try simp only[Act.put])
      refine wpAnyH_done (by kernel_rfl) ?_ _;go_wp2;exact HA.out.r2 HY.out underlying52 underlying83 ⟨R,rfl,(HR.out.inn HB.out 5).out,HB.out⟩
    have hz:=HZ.out;rw[bin_cmp h6,HI.out,HJ.out,HBO.out]at hz;obtain⟨ok,hok⟩:=ex_ ((I || (J || (B && decide (op≤11)))));rw[hok]at hz;have HOK:=h_ hok;have HZ2:=h_ hz;clear hok hz HZ;obtain⟨cc,hcc⟩:=ex_ (cmpV a b);rw[hcc]at HZ2;have HCC:=h_ hcc;clear hcc
    have hkk:ok=true→a.k=b.k:=by
     intro e;have h1:=HOK.out;rw[e,←HI.out,←HJ.out,←HBO.out]at h1;simp only[Bool.or_eq_true,Bool.and_eq_true,beq_iff_eq]at h1;omega
    have HKK:=h_ hkk;clear hkk HI HJ HBO
    have o4:(op==4)=false:=by rw[beq_eq_false_iff_ne];omega
    have o5:(op==5)=false:=by rw[beq_eq_false_iff_ne];omega
    have o6:(op==6)=false:=by rw[beq_eq_false_iff_ne];omega
    have o7:(op==7)=false:=by rw[beq_eq_false_iff_ne];omega
    have o8:(op==8)=false:=by rw[beq_eq_false_iff_ne];omega
    have o16:(op==16)=false:=by rw[beq_eq_false_iff_ne];omega
    have o17:(op==17)=false:=by rw[beq_eq_false_iff_ne];omega
    have o19:(op==19)=false:=by rw[beq_eq_false_iff_ne];omega
    go_upto_region 27 with (fail);clear o4;clear o5;clear o6;clear o7;clear o8;clear o16;clear o17;clear o19;go_cut [142] from 125 to 142 (fun s W=>s=.bool (!ok)∧W=wc)
    case first =>
     have hok:=HOK.out;by_cases e10:op=10
     ·skip
      have t10:(op==10)=true:=beq_iff_eq.2 e10
      have t11:(op==11)=false:=by rw[beq_eq_false_iff_ne];omega
      rw[show decide (op≤11)=true from decide_eq_true (by omega)]at hok;clear h6;cases I<;>cases J<;>cases B
      all_goals
       subst hok;go_wp2_with fail
       go_meet
       exact⟨by first|exact True.intro|rfl,by first|exact True.intro|rfl⟩
     by_cases e11:op=11
     ·skip
      have t10:(op==10)=false:=by rw[beq_eq_false_iff_ne];omega
      have t11:(op==11)=true:=beq_iff_eq.2 e11;rw[show decide (op≤11)=true from decide_eq_true (by omega)]at hok;clear h6;cases I<;>cases J<;>cases B
      all_goals
       subst hok;go_wp2_with fail
       go_meet
       exact⟨by first|exact True.intro|rfl,by first|exact True.intro|rfl⟩
     have t10:(op==10)=false:=beq_eq_false_iff_ne.2 e10;have t11:(op==11)=false:=beq_eq_false_iff_ne.2 e11;rw[show decide (op≤11)=false from decide_eq_false (by omega)]at hok;clear h6;cases I<;>cases J<;>cases B
     all_goals
      subst hok;go_wp2_with fail
      go_meet
      exact⟨by first|exact True.intro|rfl,by first|exact True.intro|rfl⟩
    case rest =>
     obtain⟨rfl,hwc⟩:=hcut;subst hwc
     cases ok with
     | false =>
      have HZZ:=h_ (show r=.ab 1009 from HZ2.out.symm);clear HZ2 HOK HKK;have hr2:r=.ab 1009:=HZZ.out;subst hr2;go_wp2_with (refine HM.out.wl 0 (mvA R X) underlying83 ?_);refine(Rwrong_any _ R X _ (bl 5 hD HY) (HR.out.inn HB.out 5)).mono ?_;rintro er w1 ⟨R2,rfl,hr2,hb1⟩;have HM:=HM.out.k hb1;have HP:=HP.out.k hb1;have HQ:=HQ.out.k hb1;have HA:=HA.out.k hb1;have HY:=HY.out.k hb1;have HB:=bt HB hb1;clear hb1;have HR2:=h_ hr2;clear hr2;go_wp2_with (refine HA.out.wa (vV v00) ?_);intro W1 HA p1;have HM:=HM.out.q p1;have HP:=HP.out.q p1;have HQ:=HQ.out.q p1;have HY:=HY.out.q p1;have HB:=pb HB p1;have HR2:=HR2.out.q p1;clear p1;go_wp2_with (refine HY.out.wa (mvA R2 (abX 1009 X)) ?_);intro W2 HY p2;have HM:=HM.out.q p2;have HP:=HP.out.q p2;have HQ:=HQ.out.q p2;have HA:=HA.out.q p2;have HB:=pb HB p2;have HR2:=HR2.out.q p2;clear p2;go_wp2;exact HA.out.r2 HY.out underlying52 underlying83 ⟨R2,rfl,HR2.out.out,HB.out⟩
     | true =>
      have HKQ:=h_ (HKK.out rfl);have hck:=cmp_steps HGA.out HGB.out (HKK.out rfl);rw[HCC.out]at hck;have HCK:=h_ hck;clear hck HKK HOK HGA HGB;have p1:=HP.out.cl 1;have q1:=HQ.out.cl 1;have p2:=HP.out.cl 2;have q2:=HQ.out.cl 2;have p0:=HP.out.cl 0;have q0:=HQ.out.cl 0;go_upto_region 30 with (fail);obtain⟨lt,hlt⟩:=ex_ ((decide (a.n<b.n) || Op.bytesLess a.s b.s));have HLT:=h_ hlt;clear hlt;go_cut [158] from 147 to 158 (fun s W=>s=.bool lt∧W=wc)
      case first =>
       have hck:=HLT.out;by_cases hn:a.n<b.n
       ·rw[decide_eq_true hn]at hck
        subst hck;go_wp2_with fail
        go_meet
        exact⟨by first|exact True.intro|rfl,by first|exact True.intro|rfl⟩
       have hnd:decide (a.n<b.n)=false:=decide_eq_false hn;cases hs:Op.bytesLess a.s b.s
       all_goals
        rw[hnd,hs]at hck;subst hck;clear hn;go_wp2_with fail
        go_meet
        exact⟨by first|exact True.intro|rfl,by first|exact True.intro|rfl⟩
      case rest =>
       obtain⟨rfl,hwc⟩:=hcut;subst hwc
       go_upto_if 158 with (fail)
       have hcl:cc=if lt=true then -1 else if a≠b then 1 else 0:=by
        rw[HCK.out,←HLT.out]
        congr 1
        simp[Bool.or_eq_true]
       have HCL:=h_ hcl;clear hcl HCK HLT;go_cut [15] from 159 to 161 (fun s W=>s=.int .i64 cc∧W=wc)
       case first =>
        have hck:=HCL.out
        cases lt with
        | true =>
         rw[if_pos rfl]at hck;subst hck;go_wp2_with fail
         go_meet
         exact⟨by first|exact True.intro|rfl,by first|exact True.intro|rfl⟩
        | false =>
         rw[if_neg (by simp)]at hck;by_cases he:a=b
         ·rw[if_neg (fun q=>q he)]at hck
          subst hck;subst he;go_wp2_with fail
          go_meet
          exact⟨by first|exact True.intro|rfl,by first|exact True.intro|rfl⟩
         rw[if_pos he]at hck;subst hck;have tk:(a.k==b.k)=true:=beq_iff_eq.2 HKQ.out;by_cases hn2:a.n=b.n
         ·have tn:(a.n==b.n)=true:=beq_iff_eq.2 hn2
          have ts:(a.s==b.s)=false:=by
           rw[beq_eq_false_iff_ne];intro e;have h1:=HKQ.out;apply he;cases a;cases b;simp only at h1 hn2 e;rw[h1,hn2,e]
          clear hn2 he;go_wp2_with fail
          go_meet
          exact⟨by first|exact True.intro|rfl,by first|exact True.intro|rfl⟩
         ·have tn:(a.n==b.n)=false:=beq_eq_false_iff_ne.2 hn2
          clear hn2 he;go_wp2_with fail
          go_meet
          exact⟨by first|exact True.intro|rfl,by first|exact True.intro|rfl⟩
       case rest =>
        obtain⟨rfl,hwc⟩:=hcut;subst hwc;clear p0 p1 p2 q0 q1 q2;have hzz:=HZ2.out;rw[if_pos rfl]at hzz;obtain⟨tb,htb⟩:=ex_ (cmpB op cc);rw[htb]at hzz;have HTB:=h_ htb;clear htb HZ2;subst hzz;go_wp2_with fail;refine wp_region_held_drew (S:=(fun w'=>Bx w.heap.size (mvA R X) 83 w'∧Below w.heap.size w w')) (by kernel_rfl) ?_ (fun hHeld=>?_)
        ·exact(show ((fun w'=>Bx w.heap.size (mvA R X) 83 w'∧Below w.heap.size w w')) wc.drew from by have hb1:=(Below.refl wc.heap.size wc).drew;have HM:=HM.out.k hb1;have HP:=HP.out.k hb1;have HQ:=HQ.out.k hb1;have HA:=HA.out.k hb1;have HY:=HY.out.k hb1;have HB:=bt HB hb1;exact⟨HM.out,HB.out⟩)
        have hb1:=(Below.refl wc.heap.size wc).drew;have HM:=HM.out.k hb1;have HP:=HP.out.k hb1;have HQ:=HQ.out.k hb1;have HA:=HA.out.k hb1;have HY:=HY.out.k hb1;have HB:=bt HB hb1;clear hb1;generalize hWd:wc.drew=D6 at hHeld HB HM HP HQ HA HY ⊢;clear hWd;refine tkX 0 162 ?_;refine tkX 1 163 ?_;simp only[sA,sB,sC];refine tkl2 4 166 (fun _ h=>h.1) 0 (mvA R X) underlying83 ?_;simp only[sA,sB,sC];refine rd1 2 fun K hK=>?_;go_simp;refine(Rcompared_any op cc _ h6).mono ?_;rw[HTB.out];rintro er u1 ⟨rfl,rfl⟩;refine hK.out _ _ (⟨HM.out,HB.out⟩) fun hHeld=>?_;clear hK K
        (try simp only[Act.put,sA,sB,sC])
        refine rd1 3 fun K hK=>?_;go_simp;refine(Rtruth_any tb _).mono ?_;rintro er u2 ⟨rfl,hb1⟩;have HM:=HM.out.k hb1;have HP:=HP.out.k hb1;have HQ:=HQ.out.k hb1;have HA:=HA.out.k hb1;have HY:=HY.out.k hb1;have HB:=bt HB hb1;clear hb1;refine hK.out _ _ (⟨HM.out,HB.out⟩) fun hHeld=>?_;clear hK K
        (try simp only[Act.put,sA,sB,sC])
        refine rd1 5 fun K hK=>?_;refine Bx.rst HA.out 52 0 (.agg (vV (truV tb))) (vV (truV tb)) rfl (Nat.le_of_ble_eq_true rfl) (by kernel_rfl) rfl rfl rfl rfl rfl ?_;intro W1 hq p1;have HA:=h_ hq;clear hq;have HM:=HM.out.q p1;have HP:=HP.out.q p1;have HQ:=HQ.out.q p1;have HY:=HY.out.q p1;have HB:=pb HB p1;clear p1;refine hK.out _ _ (⟨HM.out,HB.out⟩) fun hHeld=>?_;clear hK K
        (try simp only[Act.put])
        refine rd1 6 fun K hK=>?_;refine Bx.rst HY.out 83 0 (.agg (mvA R X)) (mvA R X) rfl (Nat.le_of_ble_eq_true rfl) (by kernel_rfl) rfl rfl rfl rfl rfl ?_;intro W2 hq p2;have HY:=h_ hq;clear hq;have HM:=HM.out.q p2;have HP:=HP.out.q p2;have HQ:=HQ.out.q p2;have HA:=HA.out.q p2;have HB:=pb HB p2;clear p2;refine hK.out _ _ (⟨HM.out,HB.out⟩) fun hHeld=>?_;clear hK K
        (try simp only[Act.put])
        refine wpAnyH_done (by kernel_rfl) ?_ _;go_wp2;exact HA.out.r2 HY.out underlying52 underlying83 ⟨R,rfl,(HR.out.inn HB.out 5).out,HB.out⟩
def gotX (op:Int) (f:Vl × Rx):Vl × Rx:=if f.2.st≠0 then (v00,f.2) else rsX (gotS op f.1) f.2
def oneX (op:Int) (a:Vl) (X:Rx):Vl × Rx:=if op=9∨op=18∨op=20∨op=21 then rsX (unS op a) X else if a.k=2 then gotX op (fetX a.s X) else (v00,abX 1009 X)
end Go.Proofs.YtnglaegofhpleaaGreatDoor
