/- What the claim needs, part 9. No conditions. -/
import Derived.Test.YtnglaegofhpleaaGreatDoorZk8
set_option maxRecDepth 100000
set_option maxHeartbeats 64000000
namespace Go.Proofs.YtnglaegofhpleaaGreatDoor
open Go.RowKit Go.Proofs.Tryz
theorem put_any(W0:World)(mb:Nat)(S:Nat→Prop)(H:Nat→Value)(m:Mc)(R:Rw)(M:List Pr)(F:Ft)(hG:GivH H W0 M F)(hd2:2≤m.dep)(hd:m.dep≤64)(hok:∀i,i<m.dep→OkV (m.stk i))(hs:SortK m.puts)(hl:m.puts.length≤100000000∧m.own.length≤100000000)(w:World)(h:VMB W0.heap.size mb S H m R w)(hb0:Below W0.heap.size W0 w):
  Calls prog 64 #[.pointer (some ⟨mb,0,none⟩)] w (VPost W0.heap.size mb S H (putM F m) (.tuple #[]) w):=by
 obtain⟨v,hv⟩:=ex_ (popV m);obtain⟨k,hk⟩:=ex_ (popV (popM m))
 have hkk:k.s.length≤1000000:=by rw[←hk];exact(hok _ (by show m.dep-1-1<m.dep;omega)).2.2
 obtain⟨R0,hR0⟩:=ex_ (putM F m);rw[hR0];have HRR:=h_ (show (if storedB v=false then endM 2 1009 [] (popM (popM m)) else storeM F k v (popM (popM m)))=R0 from by rw[←hR0];unfold putM;rw[hv,hk]);have HV:=h_ hv;have HK:=h_ hk;have HM:=h_ h;have HB:=h_ hb0;have HG:=h_ hG;have HSO:=h_ hs;clear hR0 hv hk h hb0 hG hs hok;go_enter func64,ntmps64;go_wp2_with fail;refine(pop_any _ mb S H m R _ HM.out (by omega) hd).mono ?_;rintro e w1 ⟨rfl,S1,R1,h1,f1⟩;rw[HV.out];simp only[vV];have HM1:=h_ h1;have HF:=h_ f1;have HB1:=h_ (HM.out.below HB.out f1);clear h1 f1;go_upto_region 1 with (fail);have hal:=(Below.refl w1.heap.size w1).alloc (Nat.le_refl _) (.cells #[.int .i64 v.k,.int .i64 v.n,.string (bs v.s)] 52);have HN1:=h_ (show ∀j,w1.heap.size≤j→¬S1 j from fun j hj e=>by have:=(HM1.out.rng j e).2;omega);have HX:=h_ (Bx.new w1 #[.int .i64 v.k,.int .i64 v.n,.string (bs v.s)] 52);have HM1:=HM1.out.k hal;have HF:=h_ (HF.out.then (FrS.of_below hal));have HB1:=h_ (btrans HB1.out HB1.out.size hal);clear hal;obtain⟨xb,hxb⟩:=ex_ (w1.heap.size);generalize hW:w1.alloc (.cells #[.int .i64 v.k,.int .i64 v.n,.string (bs v.s)] 52)=v1 at HX HM1 HF HB1 ⊢;clear hW;rw[hxb]at HX HN1
 (try rw[hxb])
 clear hxb;go_wp2_with fail;have hxl:=HX.out.lt;refine(pop_any _ mb S1 H (popM m) R1 _ HM1.out (by show 1≤m.dep-1;omega) (by show m.dep-1≤64;omega)).mono ?_;rintro e w2 ⟨rfl,S2,R2,h2,f2⟩;rw[HK.out];simp only[vV];have HM2:=h_ h2;have HF:=h_ (HF.out.then f2);have HX:=h_ (HX.out.frs f2 (HN1.out xb (Nat.le_refl _)));have HB2:=h_ (HM1.out.below HB1.out f2);clear h2 f2;go_upto_region 2 with (fail);have hal:=(Below.refl w2.heap.size w2).alloc (Nat.le_refl _) (.cells #[.int .i64 k.k,.int .i64 k.n,.string (bs k.s)] 52);have HY:=h_ (Bx.new w2 #[.int .i64 k.k,.int .i64 k.n,.string (bs k.s)] 52);have HM2:=HM2.out.k hal;have HF:=h_ (HF.out.then (FrS.of_below hal));have HX:=HX.out.k hal;have HB2:=h_ (btrans HB2.out HB2.out.size hal);clear hal;obtain⟨yb,hyb⟩:=ex_ (w2.heap.size);generalize hW:w2.alloc (.cells #[.int .i64 k.k,.int .i64 k.n,.string (bs k.s)] 52)=v2 at HX HY HM2 HF HB2 ⊢;clear hW;rw[hyb]at HY
 (try rw[hyb])
 clear hyb;obtain⟨x0,x1,x2⟩:=HX.out.c3;obtain⟨sb,hsb⟩:=ex_ (storedB v);have HSB:=h_ hsb;clear hsb;go_wp2_with fail;have hst:=stored_any v v2;simp only[vV]at hst;refine hst.mono ?_;clear hst x0 x1 x2;rw[HSB.out];rintro er w3 ⟨rfl,hb3⟩;have HX:=HX.out.k hb3;have HY:=HY.out.k hb3;have HM2:=HM2.out.k hb3;have HF:=h_ (HF.out.then (FrS.of_below hb3));have HB2:=h_ (btrans HB2.out HB2.out.size hb3);clear hb3
 cases sb with
 | false =>
  have HR:=h_ (show R0=endM 2 1009 [] (popM (popM m)) from HRR.out.symm.trans (if_pos HSB.out));go_wp2_with fail;refine(vabort_any _ mb S2 H _ R2 1009 _ HM2.out).mono ?_;rintro e w4 ⟨rfl,S',R',h1,h2⟩;have H1:=h_ h1;have H2:=h_ h2;clear h1 h2;go_wp2;exact⟨(by first|exact True.intro|rfl),.tuple #[],results_none rfl _ _ _,rfl,S',R',by rw[HR.out];exact H1.out,HF.out.then H2.out⟩
 | true =>
  have HR:=h_ (show R0=storeM F k v (popM (popM m)) from HRR.out.symm.trans (if_neg (by rw[HSB.out];simp)));obtain⟨x0,x1,x2⟩:=HX.out.c3;obtain⟨y0,y1,y2⟩:=HY.out.c3;go_wp2_with fail;have hst:=store_any W0 mb S2 H (popM (popM m)) R2 M F k v HG.out hkk HSO.out hl w3 HM2.out HB2.out;simp only[vV]at hst;refine hst.mono ?_;rintro e w4 ⟨rfl,S',R',h1,h2⟩;have H1:=h_ h1;have H2:=h_ h2;clear h1 h2 hst x0 x1 x2 y0 y1 y2;go_wp2;exact⟨(by first|exact True.intro|rfl),.tuple #[],results_none rfl _ _ _,rfl,S',R',by rw[HR.out];exact H1.out,HF.out.then H2.out⟩
def exV (x:List UInt8):Array Value:=#[.int .i64 3,.int .i64 0,.string (bs x),.slice none 0 0]
theorem infoEx:(prog.info? 116).map (fun i=>(i.zero,i.size,i.bytes))=some (some (.agg #[.int .i64 0,.int .i64 0,.string ⟨#[]⟩,.slice none 0 0]),4,56):=by kernel_rfl
theorem exLs_snoc(L:List (List UInt8))(x:List UInt8):exLs (L++[x])=exLs L++exL x:=by unfold exLs;rw[List.flatMap_append];simp
def nmO (n:Nat):List (List UInt8):=([[97],[98]]:List (List UInt8)).take n
def varO (l:List Vl):List Pr:=(List.range l.length).map fun i=>⟨([[97],[98]]:List (List UInt8)).getD i [],l.getD i v00⟩
theorem varO_key{l:List Vl}(h:l.length≤2):(varO l).map Pr.key=nmO l.length:=by
 match l,h with
 | [],_=>rfl
 | [_],_=>rfl
 | [_,_],_=>rfl
theorem varO_v{l:List Vl}(h:l.length≤2):(varO l).map Pr.v=l:=by
 match l,h with
 | [],_=>rfl
 | [_],_=>rfl
 | [_,_],_=>rfl
theorem varO_len(l:List Vl):(varO l).length=l.length:=by unfold varO;simp
theorem nmO_len{n:Nat}(h:n≤2):(nmO n).length=n:=by unfold nmO;simp;omega
theorem cellsAt_ex(w:World)(x:(List UInt8)):CellsAt (w.alloc (.cells (exV x) 116)) (.slice (some ⟨w.heap.size,0,none⟩) 1 1) 1 (exL x):=by
 refine⟨_,_,rfl,fun _=>⟨_,_,rfl,fun j y hj=>?_⟩⟩;rw[Nat.zero_add];have h:=(Bx.new w (exV x) 116).cell j;rw[h];rcases j with _|_|_|_|j
 ·exact hj
 ·exact hj
 ·exact hj
 ·exact hj
 ·simp[exL]at hj
theorem wpList_append_ex{w1:World}{ops:Array Oper}{rest:List Oper}{o:Oper}{a:Act}{Q:Exit→Act→World→Prop}(hgd:o.guard=none)(s x:Operand)
  (ho:o.op=.call { callee:=.builtin .append,args:=#[s,x],argTypes:=#[114,114] }) (B:Nat) (v:Value) (L:List (List UInt8)) (y:(List UInt8)) (hown:w1.ownsRow B 116 4 v L.length (exLs L))
  (hs:a.eval s=v) (hx:a.eval x=.slice (some ⟨w1.heap.size,0,none⟩) 1 1) (hlen:L.length≤1000000000000) (W0:World) (B0:Nat) (hbel:Below B0 W0 w1) (hB:B≤w1.heap.size) (hB0:B0≤B)
  (h:∀v' w',w'.ownsRow B 116 4 v' (L++[y]).length (exLs (L++[y]))→Below B0 W0 w'→w1.grownBy w' v.ownBlock→wpList prog ops Q rest (a.put o.dst v') w'):
  wpList prog ops Q (o::rest) a (w1.alloc (.cells (exV y) 116)):=by
 obtain⟨i0,hi,hz0,hz1,hz2⟩:=info_parts infoEx
 refine wpList_append_any hgd s x 114 ho B 116 i0 (.agg #[.int .i64 0,.int .i64 0,.string ⟨#[]⟩,.slice none 0 0]) 4 56 underlying114 hi hz0 hz1 hz2 rfl (by decide) v _ L.length 1 (exLs L) (exL y) hs (hown.alloc _) hx (cellsAt_ex w1 y) rfl
  (by intro u hu;simp only[exL,List.mem_cons,List.not_mem_nil,or_false]at hu;rcases hu with rfl|rfl|rfl|rfl<;>rfl) (by unfold maxLen;omega) (by omega) W0 B0 (hbel.alloc (Nat.le_trans hB0 hB) _) (by simp;omega) hB0 ?_
 intro v2 w2 hown2 hb2 hgrow;refine h v2 w2 (by rw[exLs_snoc,List.length_append];exact hown2) hb2 ?_;exact⟨hgrow.os,hgrow.tape,hgrow.output,Nat.le_trans (by simp) hgrow.size,fun k hk hne=>(hgrow.block k (by simp;omega) hne).trans ((World.grownBy_alloc w1 (.cells (exV y) 116) none).block k hk (by simp))⟩
theorem cellsAt_pr(w:World)(x:Pr):CellsAt (w.alloc (.cells (prV x) 55)) (.slice (some ⟨w.heap.size,0,none⟩) 1 1) 1 (prL x):=by
 refine⟨_,_,rfl,fun _=>⟨_,_,rfl,fun j y hj=>?_⟩⟩;rw[Nat.zero_add];have h:=(Bx.new w (prV x) 55).cell j;rw[h];rcases j with _|_|_|_|j
 ·exact hj
 ·exact hj
 ·exact hj
 ·exact hj
 ·simp[prL]at hj
theorem wpList_append_pr{w1:World}{ops:Array Oper}{rest:List Oper}{o:Oper}{a:Act}{Q:Exit→Act→World→Prop}(hgd:o.guard=none)(s x:Operand)
  (ho:o.op=.call { callee:=.builtin .append,args:=#[s,x],argTypes:=#[32,32] }) (B:Nat) (v:Value) (L:List Pr) (y:Pr) (hown:w1.ownsRow B 55 4 v L.length (prLs L))
  (hs:a.eval s=v) (hx:a.eval x=.slice (some ⟨w1.heap.size,0,none⟩) 1 1) (hlen:L.length≤1000000000000) (W0:World) (B0:Nat) (hbel:Below B0 W0 w1) (hB:B≤w1.heap.size) (hB0:B0≤B)
  (h:∀v' w',w'.ownsRow B 55 4 v' (L++[y]).length (prLs (L++[y]))→Below B0 W0 w'→w1.grownBy w' v.ownBlock→wpList prog ops Q rest (a.put o.dst v') w'):
  wpList prog ops Q (o::rest) a (w1.alloc (.cells (prV y) 55)):=by
 obtain⟨i0,hi,hz0,hz1,hz2⟩:=info_parts infoPr
 refine wpList_append_any hgd s x 32 ho B 55 i0 (.agg #[.string ⟨#[]⟩,.int .i64 0,.int .i64 0,.string ⟨#[]⟩]) 4 48 underlying32 hi hz0 hz1 hz2 rfl (by decide) v _ L.length 1 (prLs L) (prL y) hs (hown.alloc _) hx (cellsAt_pr w1 y) rfl
  (by intro u hu;simp only[prL,List.mem_cons,List.not_mem_nil,or_false]at hu;rcases hu with rfl|rfl|rfl|rfl<;>rfl) (by unfold maxLen;omega) (by omega) W0 B0 (hbel.alloc (Nat.le_trans hB0 hB) _) (by simp;omega) hB0 ?_
 intro v2 w2 hown2 hb2 hgrow;refine h v2 w2 (by rw[prLs_snoc,List.length_append];exact hown2) hb2 ?_;exact⟨hgrow.os,hgrow.tape,hgrow.output,Nat.le_trans (by simp) hgrow.size,fun k hk hne=>(hgrow.block k (by simp;omega) hne).trans ((World.grownBy_alloc w1 (.cells (prV y) 55) none).block k hk (by simp))⟩
theorem getP_found{k:List UInt8}:∀(L:List Pr) (h:L.findIdx (keyP k)<L.length),getP L k=L[L.findIdx (keyP k)].v∧L[L.findIdx (keyP k)].key=k
 | [],h=>by simp at h
 | p::r,h=>by
  rw[getP_cons];by_cases e:p.key=k
  ·have hi:(p::r).findIdx (keyP k)=0:=by rw[List.findIdx_cons,show keyP k p=true from by unfold keyP;rw[e];exact beq_self_eq_true _];rfl
   rw[if_pos e];simp only[hi,List.getElem_cons_zero];exact⟨by first|exact True.intro|rfl,e⟩
  ·have hi:(p::r).findIdx (keyP k)=r.findIdx (keyP k)+1:=by rw[List.findIdx_cons,show keyP k p=false from by unfold keyP;rw[beq_eq_false_iff_ne];exact e];rfl
   rw[if_neg e];simp only[hi,List.getElem_cons_succ];exact getP_found r (by rw[hi]at h;simpa using h)
theorem getP_str{L:List Pr}(h:∀p∈L,p.v.s.length≤9223372036854775807)(k:List UInt8):(getP L k).s.length≤9223372036854775807:=by
 induction L with
 | nil=>show ([]:List UInt8).length≤_;simp
 | cons p r ih =>
  rw[getP_cons];split
  ·exact h p (List.mem_cons_self ..)
  ·exact ih fun q hq=>h q (List.mem_cons_of_mem _ hq)
theorem onePr_str{L:List Pr}{k:List UInt8}(h:∀p∈L,p.v.s.length≤9223372036854775807)(hk:k.length≤9223372036854775807):(∀p∈onePr L k,p.key.length≤9223372036854775807∧p.v.s.length≤9223372036854775807)∧(onePr L k).length≤9000000000000:=by
 unfold onePr;split
 ·exact⟨by simp,by simp⟩
 ·refine⟨fun p hp=>?_,by simp⟩
  rw[List.mem_singleton]at hp;rw[hp];exact⟨hk,getP_str h k⟩
theorem own_frs{S S':Nat→Prop}{B n k:Nat}{e:TypeId}{v:Value}{xs:List Value}{w w':World}(h:w.ownsRow B e k v n xs)(hk:FrS S S' w w')(hn:∀b,v.ownBlock=some b→¬S b):w'.ownsRow B e k v n xs:=
 (OwnS.blocks (S:=fun _=>True) ⟨h,fun _ _=>trivial⟩ fun g _ hl hv=>hk.block g hl (hn g hv)).1
theorem res_form(R:Rs):∃(st c:Int) (mi:List UInt8) (v:Vl),vEnd R=vV v∧(∀rv,efA R rv=#[.int .i64 st,.int .i64 c,.slice none 0 0,rv,.slice none 0 0,.slice none 0 0,.string (bs mi),.int .i64 0])∧(∀m,resM R m=if st=1 then pushM m v else endM st c mi m)∧(R≠.ok v→st≠1):=by
 rcases R with v|c|k
 ·exact⟨1,0,[],v,rfl,fun _=>rfl,fun m=>(if_pos rfl).symm,fun h=>absurd rfl h⟩
 ·exact⟨2,c,[],v00,rfl,fun _=>rfl,fun m=>(if_neg (by decide)).symm,fun _=>by decide⟩
 ·exact⟨3,0,k,v00,rfl,fun _=>rfl,fun m=>(if_neg (by decide)).symm,fun _=>by decide⟩
theorem own_exAt{W:World}{B n:Nat}{v:Value}(hn:n≤2)(h:W.ownsRow B 116 4 v n (exLs (nmO n))):CellsAt W v n (exLs (nmO n)):=by
 rcases own_form h with ⟨rfl,rfl⟩|⟨g,cap,rfl,hc,_⟩
 ·exact⟨none,0,rfl,fun hne=>absurd rfl hne⟩
 ·refine⟨_,cap,rfl,fun _=>⟨g,0,rfl,fun j u hj=>?_⟩⟩
  have h1:=h.cells (g:=g) rfl j u hj
  have e:(⟨g,0,none⟩:Addr).add j=⟨g,0+j,none⟩:=by unfold Addr.add;split<;>simp_all
  rw[e]at h1;exact h1
theorem own_drew{B n k:Nat}{e:TypeId}{v:Value}{xs:List Value}{W:World}(h:W.ownsRow B e k v n xs):W.drew.ownsRow B e k v n xs:=h
theorem own_kgrow{B n k:Nat}{e:TypeId}{v:Value}{xs:List Value}{W W':World}{row:Option Nat}(h:W.ownsRow B e k v n xs)(hg:W.grownBy W' row)(hne:v.ownBlock=none∨v.ownBlock≠row):W'.ownsRow B e k v n xs:=
 (OwnS.grow (S:=fun _=>True) (S':=fun _=>True) ⟨h,fun _ _=>trivial⟩ hg hne (fun _ q=>q)).1
theorem nm_at{k:Nat}(h:k<2):({ data:=#[97,98] }:ByteArray).extract k (k+1)=bs (([[97],[98]]:List (List UInt8)).getD k []):=by
 have:k=0∨k=1:=by omega
 rcases this with rfl|rfl<;>rfl
theorem nmO_take{n k:Nat}(h:n≤2)(hk:k<n):(nmO n).take (k+1)=(nmO n).take k++[([[97],[98]]:List (List UInt8)).getD k []]:=by
 have h1:k=0∨k=1:=by omega
 have h2:n=1∨n=2:=by omega
 rcases h1 with rfl|rfl<;>rcases h2 with rfl|rfl<;>first|rfl|omega
theorem varO_take{l:List Vl}{k:Nat}(hk:k<l.length):(varO l).take (k+1)=(varO l).take k++[⟨([[97],[98]]:List (List UInt8)).getD k [],l[k]⟩]:=by
 have h2:k<(varO l).length:=by rw[varO_len];exact hk
 rw[List.take_succ_eq_append_getElem h2]
 congr 2
 unfold varO;simp[List.getElem?_eq_getElem hk]
theorem operate_any(W0:World)(mb:Nat)(S:Nat→Prop)(H:Nat→Value)(m:Mc)(R:Rw)(M:List Pr)(F:Ft)(op:Int)(l:List Vl)(la:Option Addr)(lc:Nat)(hG:GivH H W0 M F)(hop:(l.length=1∧(op=9∨op=18∨op=20∨op=21∨op=22∨op=23∨op=24))∨(l.length=2∧4≤op∧op≤19∧op≠9∧op≠18))(hok:∀v∈l,OkV v)(hd:m.dep<64)(hs:SortK m.rds)(hl:m.rds.length≤100000000∧m.own.length≤100000000)(hlo:∀p∈m.own,p.key.length≤9223372036854775807∧p.v.s.length≤9223372036854775807)(hLd:Laid W0)(w:World)(h:VMB W0.heap.size mb S H m R w)(hb0:Below W0.heap.size W0 w)(hV:CellsAt w (.slice la l.length lc) l.length (vlLs l)):
  Calls prog 62 #[.pointer (some ⟨mb,0,none⟩),.int .i64 op,.slice la l.length lc] w (VPost W0.heap.size mb S H (opM M F op l m) (.tuple #[]) w):=by
 have hn2:l.length≤2∧1≤l.length:=by omega
 have HM0:=h_ h;have HB0:=h_ hb0;have HG:=h_ hG;have HOP:=h_ hop;have HOK:=h_ hok;have HSO:=h_ hs;have HLO:=h_ hlo;have HLD:=h_ hLd;have HV:=h_ hV;clear h hb0 hG hop hok hs hlo hLd hV;obtain⟨v0,hW0,hb1,hx0,hy0⟩:=boxes2 w #[.slice la l.length lc] 26 #[.int .i64 op,.int .i64 0,.string ⟨#[]⟩,.slice none 0 0] 116;have HW:=h_ hW0;have HB:=h_ hb1;have HX:=h_ hx0;have HE:=h_ hy0;clear hW0 hb1 hx0 hy0;go_enter func62,ntmps62;go_upto_region 2 with (fail);rw[HW.out];clear HW;have x0:=HX.out.cell 0;simp only[List.getElem?_toArray,List.getElem?_cons_zero]at x0;go_wp2;clear x0;go_loopw [24,7] (fun i s wr=>∃(k:Nat) (ea va:Option Addr) (ec vc:Nat),k≤l.length∧i=.int .i64 k∧s=.slice va k vc∧Hid (Bx w.heap.size #[.slice la l.length lc] 26 wr)∧Hid (Bx (w.heap.size+1) #[.int .i64 op,.int .i64 0,.string ⟨#[]⟩,.slice ea k ec] 116 wr)∧Hid (wr.ownsRow (w.heap.size+2) 116 4 (.slice ea k ec) k (exLs ((nmO l.length).take k)))∧Hid (wr.ownsRow (w.heap.size+2) 55 4 (.slice va k vc) k (prLs ((varO l).take k)))∧Below w.heap.size w wr) (fun i _ _=>l.length-(intOf i).toNat)
 case atStart=>exact⟨0,none,none,0,0,Nat.zero_le _,by first|exact True.intro|rfl,by first|exact True.intro|rfl,HX,HE,h_ (own_nil _ _ _ _),h_ (own_nil _ _ _ _),HB.out⟩
 case round =>
  clear HX HE HB;obtain⟨k,ea,va,ec,vc,hk,rfl,rfl,HX,HE,HOE,HOV,hB⟩:=hrel;have HB:=h_ hB;clear hB;by_cases hlt:k<l.length
  ·have hlt':(k:Int)<(l.length:Int):=by omega
   have hkb:(0:Int)≤(k:Int)∧(k:Int)<(l.length:Int):=⟨by omega,by omega⟩
   have hw1:IntKind.i64.wrap ((k:Int)+1)=(k:Int)+1:=by rw[IntKind.wrap_i64];omega
   obtain⟨vb,off,hla,p0,p1,p2⟩:=vl_cells (HV.out.below HB.out) hlt;obtain⟨u,hu⟩:=ex_ (l[k]);rw[hu]at p0 p1 p2;have HU:=h_ hu;clear hu;subst hla;go_upto_region 6 with (fail);have hal:=(Below.refl wr.heap.size wr).alloc (Nat.le_refl _) (.cells #[.int .i64 u.k,.int .i64 u.n,.string (bs u.s)] 52);have HUB:=h_ (Bx.new wr #[.int .i64 u.k,.int .i64 u.n,.string (bs u.s)] 52);have hxl:=HX.out.lt;have hel:=HE.out.lt;have HX:=HX.out.k hal;have HE:=HE.out.k hal;have HOE:=h_ (own_below HOE.out hal);have HOV:=h_ (own_below HOV.out hal);have HB:=bt HB hal;clear hal p0 p1 p2;obtain⟨ub,hub⟩:=ex_ (wr.heap.size);generalize hW:wr.alloc (.cells #[.int .i64 u.k,.int .i64 u.n,.string (bs u.s)] 52)=v1 at HX HE HOE HOV HB HUB ⊢;clear hW;rw[hub]at HUB hxl hel
   (try rw[hub])
   clear hub;have hul:=HUB.out.lt;have hnm:=nm_at (k:=k) (by omega);obtain⟨nm,hnn⟩:=ex_ (([[97],[98]]:List (List UInt8)).getD k []);rw[hnn]at hnm;have HNN:=h_ hnn;clear hnn;go_upto_region 7 with (fail)
   (try rw[hnm])
   clear hnm
   have hlk:((nmO l.length).take k).length=k:=by rw[List.length_take,nmO_len hn2.1];omega
   have hlv:((varO l).take k).length=k:=by rw[List.length_take,varO_len];omega
   have HOE:=h_ (show v1.ownsRow (w.heap.size+2) 116 4 (.slice ea k ec) ((nmO l.length).take k).length (exLs ((nmO l.length).take k)) from by rw[hlk];exact HOE.out);have HOV:=h_ (show v1.ownsRow (w.heap.size+2) 55 4 (.slice va k vc) ((varO l).take k).length (prLs ((varO l).take k)) from by rw[hlv];exact HOV.out);have HL1:=h_ (show ((nmO l.length).take k++[nm]).length=k+1 from by rw[List.length_append,hlk];rfl);have HL2:=h_ (show ((varO l).take k++[(⟨nm,u⟩:Pr)]).length=k+1 from by rw[List.length_append,hlv];rfl);have HT1:=h_ (show (nmO l.length).take k++[nm]=(nmO l.length).take (k+1) from by rw[nmO_take hn2.1 hlt,HNN.out]);have HT2:=h_ (show (varO l).take k++[(⟨nm,u⟩:Pr)]=(varO l).take (k+1) from by rw[varO_take hlt,HNN.out,HU.out])
   have hk1:((nmO l.length).take k).length≤1000000000000:=by rw[hlk];omega
   have hk2:((varO l).take k).length≤1000000000000:=by rw[hlv];omega
   have HK12:=h_ (And.intro hk1 hk2);clear hlk hlv hk1 hk2;obtain⟨e0,e1,e2,e3⟩:=HE.out.c4;have g3:=HE.out.free 3;go_wp2_with (first|(at_builtin;(refine wpList_append_ex rfl _ _ rfl (w.heap.size+2) (.slice ea k ec) ((nmO l.length).take k) nm HOE.out rfl rfl HK12.out.1 w w.heap.size HB.out (by omega) (by omega) ?_);intro v5 w5 hown5 hb5 hg5;have HEB:=h_ (HE.out.kept hg5 (fun e=>by have:=(HOE.out.lt _ e).1;omega));have HX5:=h_ (HX.out.grown hg5 HOE.out (by decide));have HUB5:=h_ (HUB.out.grown hg5 HOE.out (by decide));have HOV5:=h_ (own_kgrow HOV.out hg5 (own_apart HOV.out HOE.out (by decide)));have HB5:=h_ hb5;have HO5:=h_ hown5;clear hg5 hb5 hown5 e0 e1 e2 e3 g3 HE HOE HX HUB HOV HB;rw[HL1.out]at HO5;obtain⟨ea5,ec5,hv5⟩:=own_sl HO5.out;subst hv5;obtain⟨e0,e1,e2,e3⟩:=HEB.out.c4;have g3:=HEB.out.free 3;have hel5:=HEB.out.lt;have hH2:=HEB.out.set 3 (.slice ea5 (k+1) ec5);have HE:=h_ (show Bx (w.heap.size+1) #[.int .i64 op,.int .i64 0,.string ⟨#[]⟩,.slice ea5 (k+1) ec5] 116 (w5.setCell ⟨w.heap.size+1,3,none⟩ (.slice ea5 (k+1) ec5)) from by simpa using hH2);have HX:=h_ (HX5.out.other (c:=w.heap.size+1) (i:=3) (by omega) (.slice ea5 (k+1) ec5));have HUB:=h_ (HUB5.out.other (c:=w.heap.size+1) (i:=3) (by omega) (.slice ea5 (k+1) ec5));have HOE:=h_ (own_set HO5.out (w.heap.size+1) 3 (by omega) (.slice ea5 (k+1) ec5));have HOV:=h_ (own_st HOV5.out HEB.out (by decide) 3 (.slice ea5 (k+1) ec5));have HB:=h_ (below_set HB5.out (w.heap.size+1) 3 (by omega) (.slice ea5 (k+1) ec5));clear hH2 HX5 HUB5 HO5 HOV5 HB5 HEB;obtain⟨u0,u1,u2⟩:=HUB.out.c3;have hul:=HUB.out.lt)|(at_builtin;(refine wpList_append_pr rfl _ _ rfl (w.heap.size+2) (.slice va k vc) ((varO l).take k) ⟨nm,u⟩ HOV.out rfl (show _=Value.slice (some ⟨(w5.setCell ⟨w.heap.size+1,3,none⟩ (.slice ea5 (k+1) ec5)).heap.size,0,none⟩) 1 1 from by rw[show (w5.setCell ⟨w.heap.size+1,3,none⟩ (.slice ea5 (k+1) ec5)).heap.size=w5.heap.size from by simp];rfl) HK12.out.2 w w.heap.size HB.out (by omega) (by omega) ?_);intro v7 w7 hown7 hb7 hg7;have HE:=h_ (HE.out.grown hg7 HOV.out (by decide));have HX:=h_ (HX.out.grown hg7 HOV.out (by decide));have HOE:=h_ (own_kgrow HOE.out hg7 (own_apart HOE.out HOV.out (by decide)));have HB:=h_ hb7;have HO7:=h_ hown7;clear hg7 hb7 hown7 u0 u1 u2 HOV HUB;rw[HL2.out]at HO7;obtain⟨va7,vc7,hv7⟩:=own_sl HO7.out;subst hv7));go_roundw
   case rel=>exact⟨k+1,ea5,va7,ec5,vc7,by omega,by go_num,by first|exact True.intro|rfl,HX,HE,h_ (by rw[←HT1.out];exact HOE.out),h_ (by rw[←HT2.out];exact HO7.out),HB.out⟩
   case measure=>simp[intOf];omega
  ·have hlt':¬(k:Int)<(l.length:Int):=by omega
   have hkk:k=l.length:=by omega
   subst hkk;have hN:=nmO_len hn2.1;rw[List.take_of_length_le (by omega)]at HOE;rw[List.take_of_length_le (by rw[varO_len];omega)]at HOV;clear hlt hk hN;obtain⟨sa,sc,hh3,hst⟩:=HG.out.st;have HH3:=h_ hh3;obtain⟨ra,rc,hh5,hrd⟩:=HG.out.rd;obtain⟨wa,wac,hh6,hwr⟩:=HG.out.wr;have HST:=h_ hst;have HRD:=h_ hrd;have HWR:=h_ hwr;clear hst hrd hwr;have HM:=h_ (HM0.out.call HB.out);have HBW:=h_ (btrans HB0.out HB0.out.size HB.out)
   have c3:wr.cell? ⟨mb,3,none⟩=some (.slice sa M.length sc):=by rw[←hh3];exact HM.out.hd 3 (by decide)
   have c4:wr.cell? ⟨mb,4,none⟩=some (.bool F.all):=by rw[←HG.out.al];exact HM.out.hd 4 (by decide)
   have c5:wr.cell? ⟨mb,5,none⟩=some (.slice ra F.rd.length rc):=by rw[←hh5];exact HM.out.hd 5 (by decide)
   have c6:wr.cell? ⟨mb,6,none⟩=some (.slice wa F.wr.length wac):=by rw[←hh6];exact HM.out.hd 6 (by decide)
   clear hh3 hh5 hh6;have HS0:=h_ (show ((fun w'=>w'.cell? ⟨mb,3,none⟩=some (.slice sa M.length sc)∧w'.cell? ⟨mb,4,none⟩=some (.bool F.all)∧w'.cell? ⟨mb,5,none⟩=some (.slice ra F.rd.length rc)∧w'.cell? ⟨mb,6,none⟩=some (.slice wa F.wr.length wac))) wr.drew from⟨c3,c4,c5,c6⟩);clear c3 c4 c5 c6;go_upto_region 10 with (fail);go_wp2_with fail;refine wp_region_held_drew (S:=(fun w'=>w'.cell? ⟨mb,3,none⟩=some (.slice sa M.length sc)∧w'.cell? ⟨mb,4,none⟩=some (.bool F.all)∧w'.cell? ⟨mb,5,none⟩=some (.slice ra F.rd.length rc)∧w'.cell? ⟨mb,6,none⟩=some (.slice wa F.wr.length wac))) (by kernel_rfl) ?_ (fun hHeld=>?_)
   ·exact HS0.out
   refine tkX 0 47 ?_;refine tkX 1 48 ?_;refine tkX 2 49 ?_;refine tkY 3 (v:=?vv4) 50 ?yy4 ?_
   case yy4 =>
    intro wq hSw;have d0:=hSw.1;clear hSw;go_simp
    (try with_reducible rfl)
   refine tkX 4 51 ?_;refine tkX 5 52 ?_;refine tkX 6 53 ?_;refine tkY 7 (v:=?vv8) 54 ?yy8 ?_
   case yy8 =>
    intro wq hSw;have d0:=hSw.2.1;have d1:=hSw.2.2.1;have d2:=hSw.2.2.2;clear hSw;go_simp
    (try with_reducible rfl)
   simp only[sA,sB,sC];refine rd1 8 fun K hK=>?_;go_simp;skip
   focus (try go_wp2_with fail)
   refine hK.out _ _ (⟨cell1_below hHeld.1 ((Below.refl _ _).alloc (Nat.le_refl _) (.cells #[.bool false,.slice none 0 0,.slice none 0 0] 29)),cell1_below hHeld.2.1 ((Below.refl _ _).alloc (Nat.le_refl _) (.cells #[.bool false,.slice none 0 0,.slice none 0 0] 29)),cell1_below hHeld.2.2.1 ((Below.refl _ _).alloc (Nat.le_refl _) (.cells #[.bool false,.slice none 0 0,.slice none 0 0] 29)),cell1_below hHeld.2.2.2 ((Below.refl _ _).alloc (Nat.le_refl _) (.cells #[.bool false,.slice none 0 0,.slice none 0 0] 29))⟩) fun hHeld=>?_;clear hK K
   (try simp only[Act.put,sA,sB,sC])
   refine tkX 9 11 ?_;simp only[sA,sB,sC];have hal:=(Below.refl wr.heap.size wr).alloc (Nat.le_refl _) (.cells #[.bool false,.slice none 0 0,.slice none 0 0] 29);have HFB:=h_ (Bx.new wr #[.bool false,.slice none 0 0,.slice none 0 0] 29).drew;have hxl:=HX.out.lt;have hel:=HE.out.lt;have hml:=HM.out.bf.lt;have HX:=HX.out.k hal.drew;have HE:=HE.out.k hal.drew;have HOE:=h_ (own_drew (own_below HOE.out hal));have HOV:=h_ (own_drew (own_below HOV.out hal));have HB:=bt HB hal.drew;have HM:=HM.out.k hal.drew;have HBW:=h_ (btrans HBW.out HBW.out.size hal).drew;have HH:=h_ hHeld;clear hal hHeld;generalize hW:(wr.alloc (.cells #[.bool false,.slice none 0 0,.slice none 0 0] 29)).drew=v3 at HFB HX HE HOE HOV HB HM HBW HH ⊢;clear hW;obtain⟨fb,hfb⟩:=ex_ (wr.heap.size);rw[hfb]at HFB hxl hel hml
   (try rw[hfb])
   clear hfb HS0;obtain⟨r0,r1,r2⟩:=HFB.out.d3 0 1 2;have f0:=HFB.out.free 0;have f1:=HFB.out.free 1;have f2:=HFB.out.free 2
   have hmfb:mb≠fb:=by omega
   have HHF:=h_ (show ((fun w'=>w'.cell? ⟨mb,3,none⟩=some (.slice sa M.length sc)∧w'.cell? ⟨mb,4,none⟩=some (.bool F.all)∧w'.cell? ⟨mb,5,none⟩=some (.slice ra F.rd.length rc)∧w'.cell? ⟨mb,6,none⟩=some (.slice wa F.wr.length wac))) (((v3.setCell ⟨fb,0,none⟩ (.bool F.all)).setCell ⟨fb,1,none⟩ (.slice ra F.rd.length rc)).setCell ⟨fb,2,none⟩ (.slice wa F.wr.length wac)) from⟨cell1_set _ (Ne.symm hmfb) (cell1_set _ (Ne.symm hmfb) (cell1_set _ (Ne.symm hmfb) HH.out.1)),cell1_set _ (Ne.symm hmfb) (cell1_set _ (Ne.symm hmfb) (cell1_set _ (Ne.symm hmfb) HH.out.2.1)),cell1_set _ (Ne.symm hmfb) (cell1_set _ (Ne.symm hmfb) (cell1_set _ (Ne.symm hmfb) HH.out.2.2.1)),cell1_set _ (Ne.symm hmfb) (cell1_set _ (Ne.symm hmfb) (cell1_set _ (Ne.symm hmfb) HH.out.2.2.2))⟩);refine rd1 10 fun K hK=>?_;go_simp;refine hK.out _ _ (HHF.out) fun hHeld=>?_;clear hK K r0 r1 r2 f0 f1 f2 HH hHeld
   (try simp only[Act.put,sA,sB,sC])
   refine wpAnyH_done (by kernel_rfl) ?_ _;have hfbl:=HFB.out.lt;have HFB2:=h_ (HFB.out.sets3 (.bool F.all) (.slice ra F.rd.length rc) (.slice wa F.wr.length wac));have HX:=h_ (((HX.out.other (c:=fb) (i:=0) (by omega) (.bool F.all)).other (c:=fb) (i:=1) (by omega) (.slice ra F.rd.length rc)).other (c:=fb) (i:=2) (by omega) (.slice wa F.wr.length wac));have HE:=h_ (((HE.out.other (c:=fb) (i:=0) (by omega) (.bool F.all)).other (c:=fb) (i:=1) (by omega) (.slice ra F.rd.length rc)).other (c:=fb) (i:=2) (by omega) (.slice wa F.wr.length wac));have HOE:=h_ (own_st (own_st (own_st HOE.out HFB.out (by decide) 0 (.bool F.all)) (HFB.out.set 0 (.bool F.all)) (by decide) 1 (.slice ra F.rd.length rc)) ((HFB.out.set 0 (.bool F.all)).set 1 (.slice ra F.rd.length rc)) (by decide) 2 (.slice wa F.wr.length wac));have HOV:=h_ (own_st (own_st (own_st HOV.out HFB.out (by decide) 0 (.bool F.all)) (HFB.out.set 0 (.bool F.all)) (by decide) 1 (.slice ra F.rd.length rc)) ((HFB.out.set 0 (.bool F.all)).set 1 (.slice ra F.rd.length rc)) (by decide) 2 (.slice wa F.wr.length wac));have HB:=h_ (below_sets3 HB.out fb (by omega) (.bool F.all) (.slice ra F.rd.length rc) (.slice wa F.wr.length wac));have HNS:=h_ (show ∀j,w.heap.size≤j→¬S j from fun j hj e=>by have:=(HM0.out.rng j e).2;omega);have HM:=h_ (vm_sets3 HM.out fb (HNS.out fb (by omega)) (.bool F.all) (.slice ra F.rd.length rc) (.slice wa F.wr.length wac));have HBW:=h_ (below_sets3 HBW.out fb (by have:=HB0.out.size;omega) (.bool F.all) (.slice ra F.rd.length rc) (.slice wa F.wr.length wac));clear HFB HHF;generalize hW:(((v3.setCell ⟨fb,0,none⟩ (.bool F.all)).setCell ⟨fb,1,none⟩ (.slice ra F.rd.length rc)).setCell ⟨fb,2,none⟩ (.slice wa F.wr.length wac))=v4 at HFB2 HX HE HOE HOV HB HM HBW ⊢;clear hW;have HFB:=HFB2;clear HFB2;go_upto_region 12 with (fail);go_cut [14] from 55 to 155 (fun s14 W=>s14=.bool (isRd op)∧W=v4)
   case first =>
    by_cases h22:op=22
    ·have HI:=h_ (show isRd op=true from by unfold isRd;simp[h22])
     have t22:(op==22)=true:=by rw[h22];rfl
     clear h22;go_wp2_with fail
     go_meet
     exact⟨by rw[HI.out],rfl⟩
    have t22:(op==22)=false:=by rw[beq_eq_false_iff_ne];exact h22
    by_cases h23:op=23
    ·have HI:=h_ (show isRd op=true from by unfold isRd;simp[h23])
     have t23:(op==23)=true:=by rw[h23];rfl
     clear h22 h23;go_wp2_with fail
     go_meet
     exact⟨by rw[HI.out],rfl⟩
    have t23:(op==23)=false:=by rw[beq_eq_false_iff_ne];exact h23
    by_cases h24:op=24
    ·have HI:=h_ (show isRd op=true from by unfold isRd;simp[h24])
     have t24:(op==24)=true:=by rw[h24];rfl
     clear h22 h23 h24;go_wp2_with fail
     go_meet
     exact⟨by rw[HI.out],rfl⟩
    have t24:(op==24)=false:=by rw[beq_eq_false_iff_ne];exact h24
    have HI:=h_ (show isRd op=false from by unfold isRd;simp[h22,h23,h24]);clear h22 h23 h24;go_wp2_with fail
    go_meet
    exact⟨by rw[HI.out],rfl⟩
   case rest =>
    obtain⟨rfl,hwc⟩:=hcut;rw[hwc];clear hwc;obtain⟨rdb,hrdb⟩:=ex_ (isRd op);rw[hrdb];have HRDB:=h_ hrdb;clear hrdb
    go_upto_if 65 with (fail)
    go_cut [11,13] from 65 to 155 (fun s11 s13 W=>∃(xa ya za:Option Addr) (xc yc zc:Nat) (Ms:List Pr) (al:Bool) (rd2 wr2:List (List UInt8)),s11=.slice xa Ms.length xc∧s13=.bool (hidB m.own op (l.headD v00))∧Hid (evE al rd2 wr2 Ms op l=opEv M F m.own op l)∧Hid (CellsAt W (.slice xa Ms.length xc) Ms.length (prLs Ms))∧Hid (StrS W (.slice ya rd2.length yc) rd2)∧Hid (StrS W (.slice za wr2.length zc) wr2)∧Hid (Bx fb #[.bool al,.slice ya rd2.length yc,.slice za wr2.length zc] 29 W)∧Hid (Bx w.heap.size #[.slice la l.length lc] 26 W)∧Hid (Bx (w.heap.size+1) #[.int .i64 op,.int .i64 0,.string ⟨#[]⟩,.slice ea l.length ec] 116 W)∧Hid (W.ownsRow (w.heap.size+2) 116 4 (.slice ea l.length ec) l.length (exLs (nmO l.length)))∧Hid (W.ownsRow (w.heap.size+2) 55 4 (.slice va l.length vc) l.length (prLs (varO l)))∧Hid (VMB W0.heap.size mb S H m R W)∧Hid (Below w.heap.size w W)∧Hid ((∀p∈Ms,p.key.length≤9223372036854775807∧p.v.s.length≤9223372036854775807)∧(∀q∈rd2++wr2,q.length≤9223372036854775807)∧Ms.length≤9000000000000∧rd2.length≤9000000000000∧wr2.length≤9000000000000))
    case first =>
     cases rdb with
     | false =>
      have hev:opEv M F m.own op l=evE F.all F.rd F.wr [] op l:=by unfold opEv;rw[if_neg (by rw[HRDB.out];simp)]
      have hhd:hidB m.own op (l.headD v00)=false:=by unfold hidB;rw[HRDB.out];rfl
      have HEV:=h_ hev;have HHD:=h_ hhd;clear hev hhd;go_wp2_with fail
      go_meet
      exact⟨none,ra,wa,0,rc,wac,[],F.all,F.rd,F.wr,rfl,by rw[HHD.out],h_ HEV.out.symm,h_ ⟨none,0,rfl,fun hne=>absurd rfl hne⟩,h_ (HRD.out.below HBW.out),h_ (HWR.out.below HBW.out),HFB,HX,HE,HOE,HOV,HM,HB,h_ ⟨by simp,HG.out.str.2,by simp,HG.out.len.2.1,HG.out.len.2.2⟩⟩
     | true =>
      have hl0:0<l.length:=hn2.2;obtain⟨oa,oc,hov⟩:=own_sl HM.out.own.1;have HOW:=h_ (show R.ov=.slice oa m.own.length oc from hov)
      have c0:v4.cell? ⟨mb,392,none⟩=some (.slice oa m.own.length oc):=by rw[←HOW.out];exact HM.out.tl 0 (by decide)
      clear hov;have hOC:CellsAt v4 (.slice oa m.own.length oc) m.own.length (prLs m.own):=(by have ho:v4.ownsRow W0.heap.size 55 4 R.ov m.own.length (prLs m.own):=HM.out.own.1;rw[HOW.out]at ho;exact own_prAt ho);have HOC:=h_ hOC;clear hOC;obtain⟨a,ha⟩:=ex_ (l.headD v00)
      have ha0:l[0]=a:=by rw[←ha];cases l with|nil=>simp at hl0|cons x r=>rfl
      obtain⟨ix,hix⟩:=ex_ (idxP (keyP (l.headD v00).s) m.own);have HIX:=h_ hix;clear hix;have hmf:∀(fn:Fn) (first cap:Array Value) (w:World),(Instr.makeFunc fn first cap).run prog w=.ok (.func fn first cap) w:=fun _ _ _ _=>rfl;go_wp2_with fail;have hvw:=HV.out.below HB.out;refine(idxOp_any oa oc m.own w.heap.size la lc l hl0 _ (by omega) HX.out hvw HOC.out).mono ?_;rw[HIX.out];rintro er w5 ⟨rfl,hb5⟩;clear hvw;have HM:=HM.out.k hb5;have HX:=HX.out.k hb5;have HE:=HE.out.k hb5;have HFB:=HFB.out.k hb5;have HOE:=h_ (own_below HOE.out hb5);have HOV:=h_ (own_below HOV.out hb5);have HB:=bt HB hb5;have HBW:=h_ (btrans HBW.out HBW.out.size hb5);clear hb5 c0 hmf HOC;have hx0:=HX.out.cell 0;simp only[List.getElem?_toArray,List.getElem?_cons_zero]at hx0;obtain⟨vb,off,hla,p0,p1,p2⟩:=vl_cells (HV.out.below HB.out) hl0;subst hla;rw[ha0]at p0 p1 p2;rw[Nat.zero_mul,Nat.add_zero]at p0 p1 p2;have HHA:=h_ ha;have HA0:=h_ ha0;clear ha ha0 p1
      have hli:(0:Int)<(l.length:Int):=by omega
      have hak:a.s.length≤1000000∧True:=⟨by rw[←HA0.out];exact(HOK.out _ (List.getElem_mem hl0)).2.2,trivial⟩;have HAK:=h_ hak.1;clear hak;rw[HHA.out]at HIX;by_cases hk2:a.k=2;rotate_left
      ·skip
       have hhd:hidB m.own op (l.headD v00)=false:=by unfold hidB;rw[HRDB.out,HHA.out];simp[hk2]
       have hev:opEv M F m.own op l=evE F.all F.rd F.wr (onePr M a.s) op l:=by unfold opEv;rw[if_pos HRDB.out,if_neg (by rw[hhd];simp),HHA.out]
       have HEV:=h_ hev;have HHD:=h_ hhd;clear hev hhd
       have t2:(a.k==2)=false:=by rw[beq_eq_false_iff_ne];exact hk2
       clear hk2
       have c3:w5.cell? ⟨mb,3,none⟩=some (.slice sa M.length sc):=by rw[←HH3.out];exact HM.out.hd 3 (by decide)
       have HS1:=h_ (show ((fun w'=>w'.cell? ⟨mb,3,none⟩=some (.slice sa M.length sc)∧w'.cell? ⟨w.heap.size,0,none⟩=some (.slice (some ⟨vb,off,none⟩) l.length lc)∧w'.cell? ⟨vb,off+2,none⟩=some (.string (bs a.s)))) w5.drew from⟨c3,hx0,p2⟩);go_upto_region 21 with (fail);clear c3 hx0 p0 p2;go_wp2_with fail;refine wp_region_held_drew (S:=(fun w'=>w'.cell? ⟨mb,3,none⟩=some (.slice sa M.length sc)∧w'.cell? ⟨w.heap.size,0,none⟩=some (.slice (some ⟨vb,off,none⟩) l.length lc)∧w'.cell? ⟨vb,off+2,none⟩=some (.string (bs a.s)))) (by kernel_rfl) ?_ (fun hHeld=>?_)
       ·exact HS1.out
       refine tkX 0 101 ?_;refine tkX 1 102 ?_;refine tkX 2 103 ?_;refine tkY 3 (v:=?vv13) 104 ?yy13 ?_
       case yy13 =>
        intro wq hSw;have d0:=hSw.1;clear hSw;go_simp
        (try with_reducible rfl)
       refine tkY 4 (v:=?vv14) 105 ?yy14 ?_
       case yy14 =>
        intro wq hSw;have d0:=hSw.2.1;clear hSw;go_simp
        (try with_reducible rfl)
       refine tkX 5 106 ?_;refine tkX 6 107 ?_;refine tkY 7 (v:=?vv17) 108 ?yy17 ?_
       case yy17 =>
        intro wq hSw;have d0:=hSw.2.2;clear hSw;go_simp
        (try with_reducible rfl)
       simp only[sA,sB,sC];refine rd1 8 fun K hK=>?_;go_simp;refine(one_any sa sc M a.s w5.drew HG.out.len.1 (HST.out.below HBW.out.drew)).mono ?_;rintro er w6 ⟨rv,rfl,ho6,hb6⟩;obtain⟨xa,xc,hrv⟩:=own_sl ho6;subst hrv;have HO6:=h_ ho6;have HB6:=h_ (show Below w5.heap.size w5 w6 from⟨hb6.os,hb6.tape,hb6.output,hb6.size,hb6.block⟩);have HB6D:=h_ hb6;clear ho6 hb6;refine hK.out _ _ (⟨cell1_below HS1.out.1 HB6D.out,cell1_below HS1.out.2.1 HB6D.out,cell1_below HS1.out.2.2 HB6D.out⟩) fun hHeld=>?_;clear hK K
       (try simp only[Act.put,sA,sB,sC])
       refine tkX 9 11 ?_;simp only[sA,sB,sC];refine wpAnyH_done (by kernel_rfl) ?_ _;clear HS1 HB6D;have HM:=h_ (HM.out.call HB6.out);have HX:=h_ (HX.out.call HB6.out);have HE:=h_ (HE.out.call HB6.out);have HFB:=h_ (HFB.out.call HB6.out);have HOE:=h_ (own_below HOE.out HB6.out);have HOV:=h_ (own_below HOV.out HB6.out);have HB:=h_ (btrans HB.out HB.out.size HB6.out);have HBW:=h_ (btrans HBW.out HBW.out.size HB6.out);have hos:=onePr_str (L:=M) (k:=a.s) (fun p hp=>(HG.out.str.1 p hp).2) (by have:=HAK.out;omega);have HOS:=h_ hos;clear hos;go_wp2_with fail
       go_meet
       exact⟨xa,ra,wa,xc,rc,wac,onePr M a.s,F.all,F.rd,F.wr,rfl,by rw[HHD.out],h_ HEV.out.symm,h_ (own_prAt HO6.out),h_ (HRD.out.below HBW.out),h_ (HWR.out.below HBW.out),HFB,HX,HE,HOE,HOV,HM,HB,h_ ⟨HOS.out.1,HG.out.str.2,HOS.out.2,HG.out.len.2.1,HG.out.len.2.2⟩⟩
      by_cases hfx:m.own.findIdx (keyP a.s)<m.own.length;rotate_left
      ·have hi1:ix = -1:=HIX.out.symm.trans (idx_lost hfx)
       subst hi1
       have hhd:hidB m.own op (l.headD v00)=false:=by unfold hidB;rw[HRDB.out,HHA.out];simp[hfx]
       have hev:opEv M F m.own op l=evE F.all F.rd F.wr (onePr M a.s) op l:=by unfold opEv;rw[if_pos HRDB.out,if_neg (by rw[hhd];simp),HHA.out]
       have HEV:=h_ hev;have HHD:=h_ hhd;clear hev hhd
       have t2:(a.k==2)=true:=by rw[hk2];rfl
       clear hk2 hfx HIX
       have c3:w5.cell? ⟨mb,3,none⟩=some (.slice sa M.length sc):=by rw[←HH3.out];exact HM.out.hd 3 (by decide)
       have HS1:=h_ (show ((fun w'=>w'.cell? ⟨mb,3,none⟩=some (.slice sa M.length sc)∧w'.cell? ⟨w.heap.size,0,none⟩=some (.slice (some ⟨vb,off,none⟩) l.length lc)∧w'.cell? ⟨vb,off+2,none⟩=some (.string (bs a.s)))) w5.drew from⟨c3,hx0,p2⟩);go_upto_region 21 with (fail);clear c3 hx0 p0 p2;go_wp2_with fail;refine wp_region_held_drew (S:=(fun w'=>w'.cell? ⟨mb,3,none⟩=some (.slice sa M.length sc)∧w'.cell? ⟨w.heap.size,0,none⟩=some (.slice (some ⟨vb,off,none⟩) l.length lc)∧w'.cell? ⟨vb,off+2,none⟩=some (.string (bs a.s)))) (by kernel_rfl) ?_ (fun hHeld=>?_)
       ·exact HS1.out
       refine tkX 0 101 ?_;refine tkX 1 102 ?_;refine tkX 2 103 ?_;refine tkY 3 (v:=?vv22) 104 ?yy22 ?_
       case yy22 =>
        intro wq hSw;have d0:=hSw.1;clear hSw;go_simp
        (try with_reducible rfl)
       refine tkY 4 (v:=?vv23) 105 ?yy23 ?_
       case yy23 =>
        intro wq hSw;have d0:=hSw.2.1;clear hSw;go_simp
        (try with_reducible rfl)
       refine tkX 5 106 ?_;refine tkX 6 107 ?_;refine tkY 7 (v:=?vv26) 108 ?yy26 ?_
       case yy26 =>
        intro wq hSw;have d0:=hSw.2.2;clear hSw;go_simp
        (try with_reducible rfl)
       simp only[sA,sB,sC];refine rd1 8 fun K hK=>?_;go_simp;refine(one_any sa sc M a.s w5.drew HG.out.len.1 (HST.out.below HBW.out.drew)).mono ?_;rintro er w6 ⟨rv,rfl,ho6,hb6⟩;obtain⟨xa,xc,hrv⟩:=own_sl ho6;subst hrv;have HO6:=h_ ho6;have HB6:=h_ (show Below w5.heap.size w5 w6 from⟨hb6.os,hb6.tape,hb6.output,hb6.size,hb6.block⟩);have HB6D:=h_ hb6;clear ho6 hb6;refine hK.out _ _ (⟨cell1_below HS1.out.1 HB6D.out,cell1_below HS1.out.2.1 HB6D.out,cell1_below HS1.out.2.2 HB6D.out⟩) fun hHeld=>?_;clear hK K
       (try simp only[Act.put,sA,sB,sC])
       refine tkX 9 11 ?_;simp only[sA,sB,sC];refine wpAnyH_done (by kernel_rfl) ?_ _;clear HS1 HB6D;have HM:=h_ (HM.out.call HB6.out);have HX:=h_ (HX.out.call HB6.out);have HE:=h_ (HE.out.call HB6.out);have HFB:=h_ (HFB.out.call HB6.out);have HOE:=h_ (own_below HOE.out HB6.out);have HOV:=h_ (own_below HOV.out HB6.out);have HB:=h_ (btrans HB.out HB.out.size HB6.out);have HBW:=h_ (btrans HBW.out HBW.out.size HB6.out);have hos:=onePr_str (L:=M) (k:=a.s) (fun p hp=>(HG.out.str.1 p hp).2) (by have:=HAK.out;omega);have HOS:=h_ hos;clear hos;go_wp2_with fail
       go_meet
       exact⟨xa,ra,wa,xc,rc,wac,onePr M a.s,F.all,F.rd,F.wr,rfl,by rw[HHD.out],h_ HEV.out.symm,h_ (own_prAt HO6.out),h_ (HRD.out.below HBW.out),h_ (HWR.out.below HBW.out),HFB,HX,HE,HOE,HOV,HM,HB,h_ ⟨HOS.out.1,HG.out.str.2,HOS.out.2,HG.out.len.2.1,HG.out.len.2.2⟩⟩
      have hhd:hidB m.own op (l.headD v00)=true:=by unfold hidB;rw[HRDB.out,HHA.out];simp[hk2,hfx]
      have hev:opEv M F m.own op l=evE true [] [] (onePr m.own a.s) op l:=by unfold opEv;rw[if_pos HRDB.out,if_pos hhd,HHA.out]
      have HEV:=h_ hev;have HHD:=h_ hhd;clear hev hhd
      have t2:(a.k==2)=true:=by rw[hk2];rfl
      have hi1:ix=(m.own.findIdx (keyP a.s):Int):=HIX.out.symm.trans (idx_found hfx);obtain⟨hgf,hgk⟩:=getP_found m.own hfx;obtain⟨x,hx⟩:=ex_ (m.own.findIdx (keyP a.s));simp only[hx]at hi1 hgf hgk hfx;obtain⟨pw,hpw⟩:=ex_ (m.own[x]);rw[hpw]at hgf hgk;subst hi1;have hxi:(0:Int)≤(x:Int)∧(x:Int)<(m.own.length:Int):=⟨by omega,by omega⟩;have HGF:=h_ hgf;have HGK:=h_ hgk;have HPW:=h_ hpw;clear hgf hgk hpw hk2 HIX hx;obtain⟨r0,r1,r2⟩:=HFB.out.d3 0 1 2;have f0:=HFB.out.free 0;have f1:=HFB.out.free 1;have f2:=HFB.out.free 2;go_upto_region 18 with (fail);clear r0 r1 r2 f0 f1 f2 hx0 p0 p2 t2;have HFB2:=h_ (HFB.out.sets3 (.bool true) (.slice none 0 0) (.slice none 0 0));have HX:=h_ (((HX.out.other (c:=fb) (i:=0) (by omega) (.bool true)).other (c:=fb) (i:=1) (by omega) (.slice none 0 0)).other (c:=fb) (i:=2) (by omega) (.slice none 0 0));have HE:=h_ (((HE.out.other (c:=fb) (i:=0) (by omega) (.bool true)).other (c:=fb) (i:=1) (by omega) (.slice none 0 0)).other (c:=fb) (i:=2) (by omega) (.slice none 0 0));have HOE:=h_ (own_st (own_st (own_st HOE.out HFB.out (by decide) 0 (.bool true)) (HFB.out.set 0 (.bool true)) (by decide) 1 (.slice none 0 0)) ((HFB.out.set 0 (.bool true)).set 1 (.slice none 0 0)) (by decide) 2 (.slice none 0 0));have HOV:=h_ (own_st (own_st (own_st HOV.out HFB.out (by decide) 0 (.bool true)) (HFB.out.set 0 (.bool true)) (by decide) 1 (.slice none 0 0)) ((HFB.out.set 0 (.bool true)).set 1 (.slice none 0 0)) (by decide) 2 (.slice none 0 0));have HB:=h_ (below_sets3 HB.out fb (by omega) (.bool true) (.slice none 0 0) (.slice none 0 0));have HM:=h_ (vm_sets3 HM.out fb (HNS.out fb (by omega)) (.bool true) (.slice none 0 0) (.slice none 0 0));have HBW:=h_ (below_sets3 HBW.out fb (by have:=HB0.out.size;omega) (.bool true) (.slice none 0 0) (.slice none 0 0));clear HFB;generalize hW:(((w5.setCell ⟨fb,0,none⟩ (.bool true)).setCell ⟨fb,1,none⟩ (.slice none 0 0)).setCell ⟨fb,2,none⟩ (.slice none 0 0))=v6 at HFB2 HX HE HOE HOV HB HM HBW ⊢;clear hW;have HFB:=HFB2;clear HFB2
      have c0:v6.cell? ⟨mb,392,none⟩=some (.slice oa m.own.length oc):=by rw[←HOW.out];exact HM.out.tl 0 (by decide)
      have hOC:CellsAt v6 (.slice oa m.own.length oc) m.own.length (prLs m.own):=(by have ho:v6.ownsRow W0.heap.size 55 4 R.ov m.own.length (prLs m.own):=HM.out.own.1;rw[HOW.out]at ho;exact own_prAt ho);obtain⟨gg,of2,hoa,q0,q1,q2,q3⟩:=pr_cells hOC hfx;subst hoa;rw[HPW.out]at q0 q1 q2 q3;clear hOC;by_cases hz:pw.v.k=0
      ·have tz:(pw.v.k != 0)=false:=by rw[hz];rfl
       have HON:=h_ (show onePr m.own a.s=[] from onePr_none (by rw[HGF.out];exact hz));clear hz;go_wp2_with fail
       go_meet
       exact⟨none,none,none,0,0,0,[],true,[],[],rfl,by rw[HHD.out],h_ (by rw[HEV.out,HON.out]),h_ ⟨none,0,rfl,fun hne=>absurd rfl hne⟩,h_ ⟨none,0,rfl,Nat.le_refl _,fun hne=>absurd rfl hne⟩,h_ ⟨none,0,rfl,Nat.le_refl _,fun hne=>absurd rfl hne⟩,HFB,HX,HE,HOE,HOV,HM,HB,h_ ⟨by simp,by simp,by simp,by simp,by simp⟩⟩
      have tz:(pw.v.k != 0)=true:=by rw[bne_iff_ne];exact hz
      have HON:=h_ (show onePr m.own a.s=[pw] from by rw[onePr_some (by rw[HGF.out];exact hz),HGF.out];congr 1;obtain⟨pk,pv⟩:=pw;have:=HGK.out;simp only at this;rw[this]);clear hz;have hal:=(Below.refl v6.heap.size v6).alloc (Nat.le_refl _) (.cells #[.string (bs pw.key),.int .i64 pw.v.k,.int .i64 pw.v.n,.string (bs pw.v.s)] 55);have HO1:=h_ (own_one (W:=v6) (B:=v6.heap.size) pw (Nat.le_refl _));simp only[prV]at HO1;go_wp2_with fail;have HM:=HM.out.k hal;have HX:=HX.out.k hal;have HE:=HE.out.k hal;have HFB:=HFB.out.k hal;have HOE:=h_ (own_below HOE.out hal);have HOV:=h_ (own_below HOV.out hal);have HB:=bt HB hal;have hpl:=HLO.out pw (HPW.out ▸ List.getElem_mem hfx);have HPL:=h_ hpl;clear hpl
      go_meet
      exact⟨some ⟨v6.heap.size,0,none⟩,none,none,1,0,0,[pw],true,[],[],rfl,by rw[HHD.out],h_ (by rw[HEV.out,HON.out]),h_ (own_prAt (L:=[pw]) (by simpa[prLs] using HO1.out)),h_ ⟨none,0,rfl,Nat.le_refl _,fun hne=>absurd rfl hne⟩,h_ ⟨none,0,rfl,Nat.le_refl _,fun hne=>absurd rfl hne⟩,HFB,HX,HE,HOE,HOV,HM,HB,h_ ⟨by intro p hp;rw[List.mem_singleton]at hp;rw[hp];exact HPL.out,by simp,by simp,by simp,by simp⟩⟩
    case rest =>
     obtain⟨xa,ya,za,xc,yc,zc,Ms,al2,rd2,wr2,rfl,rfl,HEV,HMS,HR2,HW2,HFB,HX,HE,HOE,HOV,HM,HB,HSZ⟩:=hcut;have hsz0:=HB0.out.size;have hcs:=HB.out.size;have HBW:=h_ (show Below W0.heap.size W0 wc from HM0.out.below HB0.out (FrS.of_below (S:=S) HB.out));obtain⟨e0,e1,e2,e3⟩:=HE.out.c4;obtain⟨g0,g1,g2⟩:=HFB.out.c3;obtain⟨hid,hhid⟩:=ex_ (hidB m.own op (l.headD v00));rw[hhid];have HHID:=h_ hhid;clear hhid;have hEv:=Eval_any xa ya za va ea xc yc zc vc ec Ms al2 rd2 wr2 op (varO l) (nmO l.length) l (varO_key hn2.1) (varO_v hn2.1) (by unfold nmO;exact(List.take_sublist _ _).nodup (by decide)) (by intro x hx;have:=List.mem_of_mem_take hx;simp only[List.mem_cons,List.not_mem_nil,or_false]at this;rcases this with rfl|rfl<;>exact⟨by decide,by decide⟩) HOP.out HOK.out HSZ.out.1 HSZ.out.2.1 HSZ.out.2.2.1 HSZ.out.2.2.2.1 HSZ.out.2.2.2.2 wc HMS.out HR2.out HW2.out (own_prAt (by rw[varO_len];exact HOV.out)) (own_exAt hn2.1 HOE.out) (HLD.out.below HBW.out);rw[varO_len,HEV.out]at hEv;obtain⟨⟨Rr,ks⟩,hU⟩:∃x,opEv M F m.own op l=x:=⟨_,rfl⟩;rw[hU]at hEv;simp only at hEv;have HU:=h_ hU;clear hU;have HEVL:=h_ hEv;clear hEv;go_wp2_with fail;refine HEVL.out.mono ?_;rintro er w5 ⟨rv,rfl,ho5,hb5⟩;obtain⟨st,c,mi,v,hv1,hv2,hv3,-⟩:=res_form Rr;rw[hv1,hv2];obtain⟨ka,kc,hrv⟩:=own_sl ho5;subst hrv;have HRM:=h_ hv3;have HKS:=h_ ho5;clear hv1 hv2 hv3 ho5 HEVL HMS HR2 HW2 HEV HSZ e0 e1 e2 e3 g0 g1 g2;simp only[vV];have HM:=HM.out.k hb5;have hwc5:=hb5.size;have HB:=bt HB hb5;clear hb5 HX HE HFB HOE HOV;go_upto_region 24 with (fail);obtain⟨v6,hW6,hb6,hx6,hy6⟩:=boxes2 w5 #[.int .i64 v.k,.int .i64 v.n,.string (bs v.s)] 52 #[.int .i64 st,.int .i64 c,.slice none 0 0,.slice ka ks.length kc,.slice none 0 0,.slice none 0 0,.string (bs mi),.int .i64 0] 37;rw[hW6];have HVB:=h_ hx6;have HEB:=h_ hy6;have HKS:=h_ (own_below HKS.out hb6);have HM:=HM.out.k hb6;have HB:=bt HB hb6;clear hW6 hx6 hy6 hb6;obtain⟨vb,hvb⟩:=ex_ (w5.heap.size);rw[hvb]at HVB HEB hwc5
     (try rw[hvb])
     clear hvb;have hszc:=HB.out.size;have hebl:=HEB.out.lt
     have hkl:ks.length≤1:=by have:=opEv_reads M F m.own op l;rw[HU.out]at this;rcases this with e|⟨k0,e⟩<;>simp only at e<;>rw[e]<;>simp
     obtain⟨N0,hN0⟩:=ex_ (v6.heap.size);have HNS2:=h_ (show ∀b,w.heap.size≤b→b<N0→¬S b from fun b h1 _=>HNS.out b h1)
     have hN0le:N0≤v6.heap.size:=by omega
     have HF:=h_ (FrS.of_below (S:=S) HB.out);have hwv:w.heap.size≤vb∧vb+1<N0:=⟨by omega,by omega⟩;have HKB:=h_ (show ∀b,(Value.slice ka ks.length kc).ownBlock=some b→w.heap.size≤b∧b<N0 from fun b hb=>⟨by have:=(HKS.out.lt b hb).1;omega,by have:=(HKS.out.lt b hb).2;omega⟩);clear hebl hszc
     go_upto_if 119 with (fail)
     go_cut [119] from 120 to 138 (fun s119 W=>∃(S':Nat→Prop) (rv':Value),Hid (VMB W0.heap.size mb S' H { m with rds:=(if hid=true then m.rds else ks.foldl withK m.rds) } { R with rv:=rv' } W)∧Hid (FrS S S' w W)∧Hid (Bx vb #[.int .i64 v.k,.int .i64 v.n,.string (bs v.s)] 52 W)∧Hid (Bx (vb+1) #[.int .i64 st,.int .i64 c,.slice none 0 0,.slice ka ks.length kc,.slice none 0 0,.slice none 0 0,.string (bs mi),.int .i64 0] 37 W))
     case first =>
      cases hid with
      | true=>go_wp2_with fail;go_meet;exact⟨S,R.rv,HM,HF,HVB,HEB⟩
      | false =>
       obtain⟨e0,e1,e2,e3,e4,e5,e6,e7⟩:=HEB.out.c8;go_wp2;clear e0 e1 e2 e3 e4 e5 e6 e7;go_loopw [123] (fun i wr=>∃(kq:Nat) (S':Nat→Prop) (rv':Value),kq≤ks.length∧i=.int .i64 kq∧Hid (SortK ((ks.take kq).foldl withK m.rds))∧Hid (((ks.take kq).foldl withK m.rds).length≤m.rds.length+kq)∧Hid (VMB W0.heap.size mb S' H { m with rds:=(ks.take kq).foldl withK m.rds } { R with rv:=rv' } wr)∧Hid (FrS S S' w wr)∧Hid (Bx vb #[.int .i64 v.k,.int .i64 v.n,.string (bs v.s)] 52 wr)∧Hid (Bx (vb+1) #[.int .i64 st,.int .i64 c,.slice none 0 0,.slice ka ks.length kc,.slice none 0 0,.slice none 0 0,.string (bs mi),.int .i64 0] 37 wr)∧Hid (wr.ownsRow wc.heap.size 9 1 (.slice ka ks.length kc) ks.length (ks.map strV))∧Hid (∀b,w.heap.size≤b→b<N0→¬S' b)∧N0≤wr.heap.size) (fun i _=>ks.length-(intOf i).toNat)
       case atStart=>exact⟨0,S,R.rv,Nat.zero_le _,by first|exact True.intro|rfl,HSO,h_ (by simp),HM,HF,HVB,HEB,HKS,HNS2,hN0le⟩
       case round =>
        obtain⟨kq,S',rv',hkq,rfl,HSQ,HLQ,HMq,HFq,HVq,HEq,HKq,HNq,hNq⟩:=hrel;by_cases hlt:kq<ks.length
        ·have hlt':(kq:Int)<(ks.length:Int):=by omega
         have hkb:(0:Int)≤(kq:Int)∧(kq:Int)<(ks.length:Int):=⟨by omega,by omega⟩
         have hw1:IntKind.i64.wrap ((kq:Int)+1)=(kq:Int)+1:=by rw[IntKind.wrap_i64];omega
         obtain⟨gb,hka,hgc⟩:∃g,ka=some ⟨g,0,none⟩∧wr.cell? ⟨g,kq,none⟩=some (.string (bs ks[kq])):=by
          rcases own_strs HKq.out with ⟨h1,h0⟩|⟨g,cap,hv,_,hc⟩
          ·rw[h0]at hlt;simp at hlt
          ·cases hv;exact⟨g,rfl,hc kq hlt⟩
         subst hka;obtain⟨x,hx⟩:=ex_ (ks[kq]);rw[hx]at hgc;have HX:=h_ hx;clear hx;obtain⟨L0,hL0⟩:=ex_ ((ks.take kq).foldl withK m.rds);rw[hL0]at HSQ HLQ HMq;have HL0:=h_ hL0;clear hL0;obtain⟨pa,pq,hpv⟩:=own_sl HMq.out.rds.1;have HPV:=h_ (show rv'=.slice pa L0.length pq from hpv);clear hpv
         have c4:wr.cell? ⟨mb,396,none⟩=some (.slice pa L0.length pq):=by rw[←HPV.out];exact HMq.out.tl 4 (by decide)
         have HOP2:=h_ (show wr.ownsRow W0.heap.size 9 1 (.slice pa L0.length pq) L0.length (L0.map strV) from by rw[←HPV.out];exact HMq.out.rds.1);go_wp2_with fail
         have hbq:W0.heap.size≤wr.heap.size:=by have:=HMq.out.rng mb HMq.out.mS;omega
         refine(vwith_any W0.heap.size (.slice pa L0.length pq) L0 x wr HSQ.out HOP2.out hbq (by have:=HLQ.out;omega)).mono ?_;rintro er w7 ⟨rv0,rfl,ho7,hg7,hv7⟩;obtain⟨ra7,rc7,hrv7⟩:=own_sl ho7;subst hrv7;have hrow:=HMq.out.rowRds (W':=w7) (.slice ra7 (withK L0 x).length rc7) (withK L0 x) (by show wr.grownBy w7 rv'.ownBlock;rw[HPV.out];exact hg7) ho7 (by show _=rv'.ownBlock∨_;rw[HPV.out];exact hv7);have HROW:=h_ hrow;clear hrow
         have hsn:∀b,w.heap.size≤b→b<N0→¬addB S' (.slice ra7 (withK L0 x).length rc7) b:=by
          rintro b h1 h2 (q1|q1)
          ·exact HNq.out b h1 h2 q1
          ·rcases hv7 with e|⟨c2,e,hc⟩
           ·exact HNq.out b h1 h2 (HMq.out.rds.2 b (by show rv'.ownBlock=_;rw[HPV.out];exact e.symm.trans q1))
           ·have hcb:c2=b:=by rw[e]at q1;exact Option.some.inj q1
            omega
         have HSN:=h_ hsn;clear hsn
         have c4b:w7.cell? ⟨mb,396,none⟩=some (.slice pa L0.length pq):=by rw[HROW.out.1.cell 396 (by decide),←HPV.out];rfl
         have f4:=HROW.out.1.free 396;have hsz7:=hg7.size;clear hg7 ho7 hv7 c4 hgc;go_wp2;have HM8:=h_ HROW.out.2.1;have HF8:=h_ (HFq.out.then HROW.out.2.2);have HV8:=h_ (HVq.out.frs HROW.out.2.2 (HNq.out _ (by omega) (by omega)));have HE8:=h_ (HEq.out.frs HROW.out.2.2 (HNq.out _ (by omega) (by omega)));have HK8:=h_ (own_frs HKq.out HROW.out.2.2 (fun b hb=>HNq.out b (HKB.out b hb).1 (HKB.out b hb).2));have hs8:=HROW.out.2.2.size;clear HROW;generalize hW:w7.setCell ⟨mb,396,none⟩ (.slice ra7 (withK L0 x).length rc7)=w8 at HM8 HF8 HV8 HE8 HK8 hs8 ⊢;clear hW
         have hfo:(ks.take (kq+1)).foldl withK m.rds=withK L0 x:=by rw[List.take_succ_eq_append_getElem hlt,HX.out,List.foldl_append,HL0.out];rfl
         have HFO:=h_ hfo;clear hfo;have hwl:=withK_len L0 x;go_roundw
         case rel=>refine⟨_,_,_,_,_,_,_,_,_,_,_,_,_,_,_,_,_,?rl,rfl⟩;exact⟨kq+1,_,_,by omega,by go_num,h_ (by rw[HFO.out];exact sort_with x HSQ.out),h_ (by rw[HFO.out];have:=HLQ.out;omega),h_ (by rw[HFO.out];exact HM8.out),HF8,HV8,HE8,HK8,HSN,by omega⟩
         case measure=>simp[intOf];omega
        ·have hlt':¬(kq:Int)<(ks.length:Int):=by omega
         have hqq:kq=ks.length:=by omega
         subst hqq;rw[List.take_length]at HMq;go_wp2_with fail
         go_meet
         exact⟨S',rv',HMq,HFq,HVq,HEq⟩
     case rest =>
      obtain⟨S',rv',HM7,HF7,HV7,HE7⟩:=hcut;obtain⟨e0,e1,e2,e3,e4,e5,e6,e7⟩:=HE7.out.c8;obtain⟨b0,b1,b2⟩:=HV7.out.c3;obtain⟨m7,hm7⟩:∃x,x={ m with rds:=(if hid=true then m.rds else ks.foldl withK m.rds) }:=⟨_,rfl⟩;rw[←hm7]at HM7;have HOM:=h_ (show opM M F op l m=if st=1 then pushM m7 v else endM st c mi m7 from by unfold opM;rw[HU.out,HRM.out,HHID.out,hm7];cases hid<;>rfl)
      have hd7:m7.dep<64:=by rw[hm7];exact hd
      clear hm7;by_cases hst:st=1;rotate_left
      ·have t9:(st != 1)=true:=by rw[bne_iff_ne];exact hst
       have HS9:=h_ (show opM M F op l m=endM st c mi m7 from HOM.out.trans (if_neg hst));go_wp2_with fail;refine(endN_any _ mb S' H m7 _ st c mi hst _ HM7.out).mono ?_;rintro e w9 ⟨rfl,S9,R9,h1,h2⟩;have H1:=h_ h1;have H2:=h_ h2;clear h1 h2;go_wp2;exact⟨(by first|exact True.intro|rfl),.tuple #[],results_none rfl _ _ _,rfl,S9,R9,by rw[HS9.out];exact H1.out,HF7.out.then H2.out⟩
      have t9:(st != 1)=false:=by rw[hst];rfl
      have HS9:=h_ (show opM M F op l m=pushM m7 v from HOM.out.trans (if_pos hst));clear hst;have hpu:=push_any _ mb S' H m7 _ v _ HM7.out hd7;simp only[vV]at hpu;have HPU:=h_ hpu;clear hpu;go_wp2_with fail;refine(HPU.out).mono ?_;rintro e w9 ⟨rfl,S9,R9,h1,h2⟩;have H1:=h_ h1;have H2:=h_ h2;clear h1 h2;go_wp2;exact⟨(by first|exact True.intro|rfl),.tuple #[],results_none rfl _ _ _,rfl,S9,R9,by rw[HS9.out];exact H1.out,HF7.out.then H2.out⟩
theorem arr_len:prog.arrayLen 66=64:=by simp[Program.arrayLen,underlying66]
theorem arr_el:prog.elem 66=52:=by simp[Program.elem,underlying66]
theorem size_vl(w:World):(sizeOf 52).run prog w=.ok 3 w:=by
 obtain⟨i0,hi,hz0,hz1,hz2⟩:=info_parts infoVl;simp[sizeOf,typeInfo,hi,hz1]
theorem slice_stk(mb dn nn:Nat)(h:dn+nn≤64)(hn:1≤nn)(w:World):(Instr.sliceAt 66 (.pointer (some ⟨mb,7,none⟩)) (some (.int .i64 (dn:Int))) (some (.int .i64 ((dn:Int)+(nn:Int)))) none).run prog w=.ok (.slice (some ⟨mb,7+dn * 3,none⟩) nn (64-dn)) w:=by
 rw[run_sliceAt_array_lh w 66 ⟨mb,7,none⟩ (by rw[arr_len,arr_el];exact underlying66) .i64 .i64 (dn:Int) ((dn:Int)+(nn:Int)) (by omega) (by omega) (by rw[arr_len];omega),arr_el,arr_len,size_vl];simp only[Result.andThen_ok];unfold slicedAt;rw[Int.toNat_natCast,show ((dn:Int)+(nn:Int)).toNat=dn+nn by omega,if_neg (by omega),show dn+nn-dn=nn by omega,show (⟨mb,7,none⟩:Addr).add (dn * 3)=⟨mb,7+dn * 3,none⟩ from by unfold Addr.add;split<;>simp_all]
theorem top_cells{mb:Nat}{H:Nat→Value}{m:Mc}{R:Rw}{W:World}(h:Bf mb (mcf H m R) 402 68 W)(d n cap:Nat)(hd:d+n≤64):CellsAt W (.slice (some ⟨mb,7+d * 3,none⟩) n cap) n (vlLs ((List.range n).map fun i=>m.stk (d+i))):=by
 refine⟨_,_,rfl,fun _=>⟨mb,7+d * 3,rfl,fun j y hj=>?_⟩⟩
 have hjl:j<((List.range n).map fun i=>m.stk (d+i)).length * 3:=by
  rw[←vlLs_length];rcases Nat.lt_or_ge j (vlLs ((List.range n).map fun i=>m.stk (d+i))).length with q|q
  ·exact q
  ·rw[List.getElem?_eq_none q]at hj;cases hj
 rw[List.length_map,List.length_range]at hjl
 have hi:j / 3<((List.range n).map fun i=>m.stk (d+i)).length:=by rw[List.length_map,List.length_range];omega
 obtain⟨g0,g1,g2⟩:=vlLs_get _ (j / 3) hi;simp only[List.getElem_map,List.getElem_range]at g0 g1 g2;have hc:=h.cell (7+d * 3+j) (by omega);rw[hc]
 have hr:j % 3=0∨j % 3=1∨j % 3=2:=by omega
 rcases hr with r|r|r
 ·rw[show j=j / 3 * 3 by omega]at hj;rw[hj]at g0;rw[show 7+d * 3+j=7+(d+j / 3) * 3+0 by omega,mcf_stk H m R (by omega) (by decide)];exact g0.symm
 ·rw[show j=j / 3 * 3+1 by omega]at hj;rw[hj]at g1;rw[show 7+d * 3+j=7+(d+j / 3) * 3+1 by omega,mcf_stk H m R (by omega) (by decide)];exact g1.symm
 ·rw[show j=j / 3 * 3+2 by omega]at hj;rw[hj]at g2;rw[show 7+d * 3+j=7+(d+j / 3) * 3+2 by omega,mcf_stk H m R (by omega) (by decide)];exact g2.symm
theorem key_len{k:List UInt8}(h:keyB k=true):k.length≤24:=by
 unfold keyB at h;simp only[Bool.and_eq_true,decide_eq_true_eq]at h;exact h.2.1
theorem topV_len(m:Mc)(n:Nat):(topV m n).length=n:=by unfold topV;simp
theorem next_fal{op a b n:Int}{s:List UInt8}{pc:Int}{m:Mc}(h:op=7):nextI (⟨op,a,b,n,s⟩:Ins) pc m=if (popV m).k=3∧(popV m).n=0 then a else pc+1:=by
 unfold nextI;by_cases hq:(popV m).k=3∧(popV m).n=0
 ·rw[if_pos hq,if_pos (.inr ⟨h,hq⟩)]
 ·rw[if_neg hq,if_neg (by rintro (q|q);exact absurd (h.symm.trans q) (by decide);exact hq q.2)]
theorem ar_cases{op:Int}(h:1≤arS op):(arS op=1∧(op=9∨op=18∨op=20∨op=21∨op=22∨op=23∨op=24))∨(arS op=2∧4≤op∧op≤19∧op≠9∧op≠18):=by
 unfold arS at h ⊢;split at h
 ·omega
 rename_i h1;rw[if_neg h1];split at h
 ·omega
 rename_i h2;rw[if_neg h2];split at h
 ·rename_i h3;rw[if_pos h3];left;exact⟨rfl,by omega⟩
 ·rename_i h3;rw[if_neg h3];right;exact⟨rfl,by omega⟩
theorem depth_le{c:Cd}(hv:valC c=0):∀k,k<c.l.length→(depth0 c).getD k 0≤64
 | 0,_=>by rw[depR_zero];omega
 | k+1,h=>by
  unfold depth0;rw[depR_succ c.l 0 k h];split
  ·omega
  ·exact(step_ok hv (k:=k) (by omega)).2.1
theorem step_facts{c:Cd}{pc:Int}{m:Mc}{N:Nat}(hv:valC c=0)(h:InvM c pc m N):
  (1≤(c.l.getD pc.toNat ins0).op∧(c.l.getD pc.toNat ins0).op≤14)∧takeI (c.l.getD pc.toNat ins0)≤(m.dep:Int)∧behI (m.dep:Int) (c.l.getD pc.toNat ins0)≤64∧m.dep≤64 ∧
  ((c.l.getD pc.toNat ins0).op=3∨(c.l.getD pc.toNat ins0).op=4→0≤(c.l.getD pc.toNat ins0).a∧(c.l.getD pc.toNat ins0).a<64) ∧
  ((c.l.getD pc.toNat ins0).op=12→(0≤(c.l.getD pc.toNat ins0).a∧(c.l.getD pc.toNat ins0).a<64)∧(0≤(c.l.getD pc.toNat ins0).b∧(c.l.getD pc.toNat ins0).b<64)∧1≤(c.l.getD pc.toNat ins0).n∧(c.l.getD pc.toNat ins0).n≤16) ∧
  ((c.l.getD pc.toNat ins0).op=5→1≤arS (c.l.getD pc.toNat ins0).a):=by
 have hp:=h.pc0;obtain⟨ht,h64,-,-,-⟩:=step_ok hv (k:=pc.toNat) (by omega);have hvp:=valC_parts hv;have hi:=all_get hvp.2.2.2.2.1 (k:=pc.toNat) (by omega) ins0;have hsl:=hvp.2.1;rw[←h.dep]at ht h64;generalize c.l.getD pc.toNat ins0=x at ht h64 hi ⊢;unfold insS inR at hi;simp only[Bool.and_eq_true,decide_eq_true_eq]at hi;obtain⟨hop,-,hi⟩:=hi;refine⟨hop,ht,h64,by have:=depth_le hv pc.toNat (by omega);rw[←h.dep]at this;omega,fun e=>?_,fun e=>?_,fun e=>?_⟩
 ·rw[if_neg (by omega),if_pos e]at hi;simp only[Bool.and_eq_true,decide_eq_true_eq]at hi;omega
 ·rw[if_neg (by omega),if_neg (by omega),if_neg (by omega),if_neg (by omega),if_neg (by omega),if_pos e]at hi;simp only[Bool.and_eq_true,decide_eq_true_eq]at hi;omega
 ·rw[if_neg (by omega),if_neg (by omega),if_pos e]at hi;simp only[decide_eq_true_eq]at hi;exact hi
theorem CloneVl_any(ad:Addr)(cap:Nat)(L:List Vl)(w:World)(hL:0<L.length)(hl:L.length≤1000000)(hV:CellsAt w (.slice (some ad) L.length cap) L.length (vlLs L)):
  Calls prog 63 #[.slice (some ad) L.length cap] w fun e w'=>∃v',e=.returned v'∧w'.ownsRow w.heap.size 52 3 v' L.length (vlLs L)∧Below w.heap.size w w':=by
 have hq:∀(w:World) (a:Option Addr) (n c n' c':Nat),(binOp .eql 26 (.slice a n c) (.slice none n' c')).run prog w=.ok (.bool a.isNone) w:=fun w a n c n' c'=>Lib.run_eql_slice_nil w _ _ a n c n' c' underlying26;obtain⟨i0,hi,hz0,hz1,hz2⟩:=info_parts infoVl
 have hnews:∀j u,(vlLs L)[j]? = some u→w.cell? (ad.add j)=some u:=by
  intro j u hj;obtain⟨ad2,cap2,he,hx⟩:=hV;cases he;obtain⟨b,off,ha,hcell⟩:=hx (by intro h;rw[h]at hj;simp at hj);cases ha
  have e:(⟨b,off,none⟩:Addr).add j=⟨b,off+j,none⟩:=by unfold Addr.add;split<;>simp_all
  rw[e];exact hcell j u hj
 have HN:=h_ hnews;clear hnews hV;go_enter func63,ntmps63;go_wp2_with (at_builtin;refine wpList_append_own_wide _ rfl _ _ 26 rfl w.heap.size 52 i0 (.agg #[.int .i64 0,.int .i64 0,.string ⟨#[]⟩]) 3 32 underlying26 hi hz0 hz1 hz2 rfl (by decide) _ _ _ rfl (World.ownsRow_made w #[] 0 (Nat.le_refl _) (Nat.zero_le _) (by simp)) ad L.length cap (vlLs L) rfl ?qd1 ?qd2 ?qd3 ?qd4 ?qd5 ?qd6 ?_)
 case qd1=>exact vlLs_length L
 case qd2 =>
  intro j u hj;exact Lib.cell?_alloc_some _ (HN.out j u hj)
 case qd3 =>
  intro u hu;unfold vlLs at hu;rw[List.mem_flatMap]at hu;obtain⟨x,_,hx⟩:=hu;simp only[vlL,List.mem_cons,List.not_mem_nil,or_false]at hx;rcases hx with rfl|rfl|rfl<;>rfl
 case qd4=>unfold maxLen;omega
 case qd5=>omega
 case qd6=>simp
 intro v' w' hown hgrow _;have hb:Below w.heap.size w w':=((Below.refl w.heap.size w).alloc (Nat.le_refl _) _).grown hgrow (by simp) (by intro k hk;simp[Value.ownBlock]at hk;omega);have HO:=h_ hown;have HB:=h_ hb;clear hown hgrow hb;go_wp2;go_ret;exact⟨_,rfl,HO.out,HB.out⟩
theorem step_any(W0:World)(mb:Nat)(S:Nat→Prop)(H:Nat→Value)(m:Mc)(R:Rw)(M:List Pr)(F:Ft)(c:Cd)(pc:Int)(N:Nat)(ia:Option Addr)(ic:Nat)(hG:GivH H W0 M F)(hH2:H 2=.slice ia c.l.length ic)(hI:CellsAt W0 (.slice ia c.l.length ic) c.l.length (insLs c.l))(hv:valC c=0)(hinv:InvM c pc m N)(hN:N≤100000000)(hLd:Laid W0)(w:World)(h:VMB W0.heap.size mb S H m R w)(hb0:Below W0.heap.size W0 w):
  Calls prog 38 #[.pointer (some ⟨mb,0,none⟩),.int .i64 pc] w (VPost W0.heap.size mb S H (stepM M F (c.l.getD pc.toNat ins0) m) (.int .i64 (nextI (c.l.getD pc.toNat ins0) pc m)) w):=by
 obtain⟨hop,htk,hbh,hd64,hsa,hsb,hso⟩:=step_facts hv hinv;have hpc:=hinv.pc0;have hgd:=hinv.gd;obtain⟨k,hk⟩:∃k:Nat,pc=(k:Int):=⟨pc.toNat,by omega⟩;subst hk;rw[Int.toNat_natCast]at hop htk hbh hsa hsb hso ⊢
 have hkl:k<c.l.length:=by omega
 obtain⟨x,hx⟩:=ex_ (c.l.getD k ins0);rw[hx]at hop htk hbh hsa hsb hso ⊢
 have hxe:c.l[k]=x:=by rw[←hx];exact(getD_at hkl ins0).symm
 have hIw:=hI.below hb0
 have c2:w.cell? ⟨mb,2,none⟩=some (.slice ia c.l.length ic):=by rw[←hH2];exact h.hd 2 (by decide)
 obtain⟨ba,oa,hia,p0,p1,p2,p3,p4⟩:=ins_cells hIw hkl;rw[hxe]at p0 p1 p2 p3 p4;subst hia;obtain⟨op,a,b,n,s⟩:=x;simp only at hop htk hbh hsa hsb hso p0 p1 p2 p3 p4;have hkb:(0:Int)≤(k:Int)∧(k:Int)<(c.l.length:Int):=⟨by omega,by omega⟩
 have hw1:IntKind.i64.wrap ((k:Int)+1)=(k:Int)+1:=by have:=(valC_parts hv).1;rw[IntKind.wrap_i64]<;>omega
 have HM:=h_ h;have HBW:=h_ hb0;have HG:=h_ hG;have HGD:=h_ hgd;have HLD:=h_ hLd;have HOPR:=h_ hop;have HTK:=h_ htk;have HBH:=h_ hbh;have HSA:=h_ hsa;have HSB:=h_ hsb;have HSO:=h_ hso;clear h hb0 hG hgd hLd hop htk hbh hsa hsb hso hI hIw hH2 hx hxe hinv hpc;go_enter func38,ntmps38;go_upto_region 2 with (fail);have hal:=(Below.refl w.heap.size w).alloc (Nat.le_refl _) (.cells #[.int .i64 op,.int .i64 a,.int .i64 b,.int .i64 n,.string (bs s)] 45);have HX:=h_ (Bx.new w #[.int .i64 op,.int .i64 a,.int .i64 b,.int .i64 n,.string (bs s)] 45);have HN:=h_ HM.out.not;have HF:=h_ (FrS.of_below (S:=S) hal);have HM:=HM.out.k hal;have HBW:=h_ (btrans HBW.out HBW.out.size hal);clear hal c2 p0 p1 p2 p3 p4;generalize hW:w.alloc (.cells #[.int .i64 op,.int .i64 a,.int .i64 b,.int .i64 n,.string (bs s)] 45)=v0 at HX HF HM HBW ⊢;clear hW;obtain⟨x0,x1,x2,x3,x4⟩:=HX.out.c5;by_cases e1:op=1
 ·have t1:(op==1)=true:=by rw[e1];rfl
  have HST:=h_ (show stepM M F (⟨op,a,b,n,s⟩:Ins) m=pushM m (numV n) from by unfold stepM;rw[if_pos e1]);have HNX:=h_ (show nextI (⟨op,a,b,n,s⟩:Ins) (k:Int) m=(k:Int)+1 from by unfold nextI;rw[if_neg (by rintro (q|q);exact absurd (e1.symm.trans q) (by decide);exact absurd (e1.symm.trans q.1) (by decide))])
  have hdq:m.dep<64:=by have h1:=HTK.out;have h2:=HBH.out;unfold behI putI takeI at h2;unfold takeI at h1;simp[e1]at h1 h2;omega
  clear e1;have hc:=push_any _ mb S H m R (numV n) _ HM.out hdq;simp only[vV,numV]at hc;go_wp2_with fail;refine hc.mono ?_;clear hc x0 x1 x2 x3 x4;rintro e w2 ⟨rfl,S',R',h1,h2⟩;have H1:=h_ h1;have H2:=h_ h2;clear h1 h2;go_wp2;go_ret;exact⟨by rw[HNX.out]<;>rfl,S',R',by rw[HST.out];exact H1.out,HF.out.then H2.out⟩
 have t1:(op==1)=false:=by rw[beq_eq_false_iff_ne];exact e1
 by_cases e2:op=2
 ·have t2:(op==2)=true:=by rw[e2];rfl
  have HST:=h_ (show stepM M F (⟨op,a,b,n,s⟩:Ins) m=pushM m (strVl s) from by unfold stepM;rw[if_neg e1,if_pos e2]);have HNX:=h_ (show nextI (⟨op,a,b,n,s⟩:Ins) (k:Int) m=(k:Int)+1 from by unfold nextI;rw[if_neg (by rintro (q|q);exact absurd (e2.symm.trans q) (by decide);exact absurd (e2.symm.trans q.1) (by decide))])
  have hdq:m.dep<64:=by have h1:=HTK.out;have h2:=HBH.out;unfold behI putI takeI at h2;unfold takeI at h1;simp[e2]at h1 h2;omega
  clear e1 e2;have hc:=push_any _ mb S H m R (strVl s) _ HM.out hdq;simp only[vV,strVl]at hc;go_wp2_with fail;refine hc.mono ?_;clear hc x0 x1 x2 x3 x4;rintro e w2 ⟨rfl,S',R',h1,h2⟩;have H1:=h_ h1;have H2:=h_ h2;clear h1 h2;go_wp2;go_ret;exact⟨by rw[HNX.out]<;>rfl,S',R',by rw[HST.out];exact H1.out,HF.out.then H2.out⟩
 have t2:(op==2)=false:=by rw[beq_eq_false_iff_ne];exact e2
 by_cases e3:op=3
 ·have t3:(op==3)=true:=by rw[e3];rfl
  have HST:=h_ (show stepM M F (⟨op,a,b,n,s⟩:Ins) m=pushM m (m.slo a.toNat) from by unfold stepM;rw[if_neg e1,if_neg e2,if_pos e3]);have HNX:=h_ (show nextI (⟨op,a,b,n,s⟩:Ins) (k:Int) m=(k:Int)+1 from by unfold nextI;rw[if_neg (by rintro (q|q);exact absurd (e3.symm.trans q) (by decide);exact absurd (e3.symm.trans q.1) (by decide))])
  have hdq:m.dep<64:=by have h1:=HTK.out;have h2:=HBH.out;unfold behI putI takeI at h2;unfold takeI at h1;simp[e3]at h1 h2;omega
  have haa:=HSA.out (.inl e3);clear e1 e2 e3;obtain⟨an,han⟩:∃q:Nat,a=(q:Int):=⟨a.toNat,by omega⟩;subst han;rw[Int.toNat_natCast]at HST
  have hal:an<64:=by omega
  have hai:(0:Int)≤(an:Int)∧(an:Int)<64:=by omega
  have hlc:=HM.out.lc hal;obtain⟨u,hu⟩:=ex_ (m.slo an);rw[hu]at hlc HST;have HU:=h_ hu;clear hu;have HS0:=h_ (show ((fun w'=>Bx w.heap.size #[.int .i64 op,.int .i64 (an:Int),.int .i64 b,.int .i64 n,.string (bs s)] 45 w'∧(w'.cell? ⟨mb,200+an * 3,none⟩=some (.int .i64 u.k)∧w'.cell? ⟨mb,200+an * 3+1,none⟩=some (.int .i64 u.n)∧w'.cell? ⟨mb,200+an * 3+2,none⟩=some (.string (bs u.s))))) v0.drew from⟨HX.out,hlc⟩);clear hlc;go_upto_region 8 with (fail);clear x0 x1 x2 x3 x4;go_wp2_with fail;refine wp_region_held_drew (S:=(fun w'=>Bx w.heap.size #[.int .i64 op,.int .i64 (an:Int),.int .i64 b,.int .i64 n,.string (bs s)] 45 w'∧(w'.cell? ⟨mb,200+an * 3,none⟩=some (.int .i64 u.k)∧w'.cell? ⟨mb,200+an * 3+1,none⟩=some (.int .i64 u.n)∧w'.cell? ⟨mb,200+an * 3+2,none⟩=some (.string (bs u.s))))) (by kernel_rfl) ?_ (fun hHeld=>?_)
  ·exact HS0.out
  refine tkX 0 34 ?_;refine tkX 1 35 ?_;refine tkX 2 36 ?_;refine tkY 3 (v:=?vv4) 37 ?yy4 ?_
  case yy4 =>
   intro wq hSw;obtain⟨z0,z1,z2,z3,z4⟩:=hSw.1.c5;clear hSw;go_simp
   (try with_reducible rfl)
  refine tkX 4 38 ?_;refine tkX 5 39 ?_;refine tkX 6 40 ?_;refine tkY 7 (v:=?vv8) 41 ?yy8 ?_
  case yy8 =>
   intro wq hSw;obtain⟨z0,z1,z2⟩:=hSw.2;clear hSw;go_simp
   (try with_reducible rfl)
  simp only[sA,sB,sC];refine rd1 8 fun K hK=>?_;have hc:=push_any _ mb S H m R u _ HM.out.drew hdq;simp only[vV]at hc;go_simp;refine hc.mono ?_;clear hc;rintro e w2 ⟨rfl,S',R',h1,h2⟩;have H1:=h_ h1;have H2:=h_ h2;clear h1 h2;have hlc2:=H1.out.lc hal;rw[show (pushM m u).slo an=u from HU.out]at hlc2;refine hK.out _ _ (⟨HX.out.drew.frs H2.out HN.out,hlc2⟩) fun hHeld=>?_;clear hK K hHeld hlc2
  (try simp only[Act.put,sA,sB,sC])
  refine wpAnyH_done (by kernel_rfl) ?_ _;have HF2:=h_ (HF.out.drew.then H2.out);go_wp2;go_ret;exact⟨by rw[HNX.out]<;>rfl,S',R',by rw[HST.out];exact H1.out,HF2.out⟩
 have t3:(op==3)=false:=by rw[beq_eq_false_iff_ne];exact e3
 by_cases e4:op=4
 ·have t4:(op==4)=true:=by rw[e4];rfl
  have HST:=h_ (show stepM M F (⟨op,a,b,n,s⟩:Ins) m={ popM m with slo:=setV m.slo a.toNat (popV m) } from by unfold stepM;rw[if_neg e1,if_neg e2,if_neg e3,if_pos e4]);have HNX:=h_ (show nextI (⟨op,a,b,n,s⟩:Ins) (k:Int) m=(k:Int)+1 from by unfold nextI;rw[if_neg (by rintro (q|q);exact absurd (e4.symm.trans q) (by decide);exact absurd (e4.symm.trans q.1) (by decide))])
  have hdq:1≤m.dep∧m.dep≤64:=by have h1:=HTK.out;have h2:=HBH.out;unfold behI putI takeI at h2;unfold takeI at h1;simp[e4]at h1 h2;omega
  have haa:=HSA.out (.inr e4);clear e1 e2 e3 e4;obtain⟨an,han⟩:∃q:Nat,a=(q:Int):=⟨a.toNat,by omega⟩;subst han;rw[Int.toNat_natCast]at HST
  have hal:an<64:=by omega
  have hai:(0:Int)≤(an:Int)∧(an:Int)<64:=by omega
  have HS0:=h_ (show ((fun w'=>Bx w.heap.size #[.int .i64 op,.int .i64 (an:Int),.int .i64 b,.int .i64 n,.string (bs s)] 45 w')) v0.drew from HX.out);obtain⟨u,hu⟩:=ex_ (popV m);rw[hu]at HST;have HU:=h_ hu;clear hu;go_upto_region 10 with (fail);clear x0 x1 x2 x3 x4;go_wp2_with fail;refine wp_region_held_drew (S:=(fun w'=>Bx w.heap.size #[.int .i64 op,.int .i64 (an:Int),.int .i64 b,.int .i64 n,.string (bs s)] 45 w')) (by kernel_rfl) ?_ (fun hHeld=>?_)
  ·exact HS0.out
  refine tkX 0 45 ?_;refine tkX 1 46 ?_;refine tkY 2 (v:=?vv11) 47 ?yy11 ?_
  case yy11 =>
   intro wq hSw;obtain⟨z0,z1,z2,z3,z4⟩:=hSw.c5;clear hSw;go_simp
   (try with_reducible rfl)
  refine tkX 3 48 ?_;refine tkX 5 50 ?_;refine tkX 6 51 ?_;simp only[sA,sB,sC];refine rd1 4 fun K hK=>?_;have hc:=pop_any _ mb S H m R _ HM.out.drew hdq.1 hdq.2;rw[HU.out]at hc;simp only[vV]at hc;go_simp;refine hc.mono ?_;clear hc;rintro e w2 ⟨rfl,S',R',h1,h2⟩;have HM2:=h_ h1;have HF2:=h_ (HF.out.drew.then h2);have HX2:=h_ (HX.out.drew.frs h2 HN.out);clear h1 h2;refine hK.out _ _ (HX2.out) fun hHeld=>?_;clear hK K
  (try simp only[Act.put,sA,sB,sC])
  refine tkX 7 52 ?_;simp only[sA,sB,sC];obtain⟨l0,l1,l2⟩:=HM2.out.lc hal;have f0:=HM2.out.bf.free (200+an * 3);have f1:=HM2.out.bf.free (200+an * 3+1);have f2:=HM2.out.bf.free (200+an * 3+2);have hnm:w.heap.size≠mb:=fun e=>HN.out (by rw[e];exact(HM.out.mS));refine rd1 8 fun K hK=>?_;go_simp;refine hK.out _ _ ?_ (fun hHeld2=>?_)
  ·exact((HX2.out.other (c:=mb) hnm _).other (c:=mb) hnm _).other (c:=mb) hnm _
  clear hK K hHeld hHeld2 l0 l1 l2 f0 f1 f2
  (try simp only[Act.put,sA,sB,sC])
  refine wpAnyH_done (by kernel_rfl) ?_ _;have HM3:=h_ (HM2.out.put3 (m':={ popM m with slo:=setV m.slo an u }) _ _ _ _ _ _ (upd_slo H (popM m) R' hal u) rfl rfl rfl rfl rfl);have HF3:=h_ (((HF2.out.set mb (200+an * 3) (.int .i64 u.k) (.inl HM2.out.mS)).set mb (200+an * 3+1) (.int .i64 u.n) (.inl HM2.out.mS)).set mb (200+an * 3+2) (.string (bs u.s)) (.inl HM2.out.mS));clear HM2 HF2 HX2 HS0;generalize hW:(((w2.setCell ⟨mb,200+an * 3,none⟩ (.int .i64 u.k)).setCell ⟨mb,200+an * 3+1,none⟩ (.int .i64 u.n)).setCell ⟨mb,200+an * 3+2,none⟩ (.string (bs u.s)))=w3 at HM3 HF3 ⊢;clear hW;go_wp2;go_ret;exact⟨by rw[HNX.out]<;>rfl,S',R',by rw[HST.out];exact HM3.out,HF3.out⟩
 have t4:(op==4)=false:=by rw[beq_eq_false_iff_ne];exact e4
 by_cases e5:op=5
 ·have t5:(op==5)=true:=by rw[e5];rfl
  have HST:=h_ (show stepM M F (⟨op,a,b,n,s⟩:Ins) m=opM M F a (topV m (arS a).toNat) (dropM m (arS a).toNat) from by unfold stepM;rw[if_neg e1,if_neg e2,if_neg e3,if_neg e4,if_pos e5]);have HNX:=h_ (show nextI (⟨op,a,b,n,s⟩:Ins) (k:Int) m=(k:Int)+1 from by unfold nextI;rw[if_neg (by rintro (q|q);exact absurd (e5.symm.trans q) (by decide);exact absurd (e5.symm.trans q.1) (by decide))]);have har:=HSO.out e5
  have hdq:arS a≤(m.dep:Int)∧(m.dep:Int)-arS a+1≤64:=by have h1:=HTK.out;have h2:=HBH.out;unfold behI putI takeI at h2;unfold takeI at h1;simp[e5]at h1 h2;omega
  clear e1 e2 e3 e4 e5;have hac:=ar_cases har;go_wp2_with fail;refine(Arity_any a _).mono ?_;rintro er w1 ⟨rfl,rfl⟩;obtain⟨nn,hnn⟩:∃q:Nat,arS a=(q:Int):=⟨(arS a).toNat,by omega⟩;rw[hnn]at hac hdq HST ⊢;rw[Int.toNat_natCast]at HST;obtain⟨dn,hdn⟩:∃q:Nat,m.dep=q+nn:=⟨m.dep-nn,by omega⟩
  have hn64:dn+nn≤64∧1≤nn∧nn≤2∧dn<64:=by omega
  have hds:=HM.out.dep;rw[hdn,show ((dn+nn:Nat):Int)=(dn:Int)+(nn:Int) from by omega]at hds;have hfr:=HM.out.bf.free 199
  have hw2:IntKind.i64.wrap ((dn:Int)+(nn:Int)-(nn:Int))=(dn:Int):=by rw[IntKind.wrap_i64]<;>omega
  have HM2:=h_ (HM.out.put (m':=dropM m nn) 199 (.int .i64 (dn:Int)) (by have h:=upd_dep H m R dn;unfold dropM;rw[show m.dep-nn=dn by omega];exact h) rfl rfl rfl rfl rfl);have HF2:=h_ (HF.out.set mb 199 (.int .i64 (dn:Int)) (.inl HM.out.mS));have hnm:w.heap.size≠mb:=fun e=>HN.out (by rw[e];exact HM.out.mS);have HX2:=h_ (HX.out.other (c:=mb) (i:=199) hnm (.int .i64 (dn:Int)));have HBW2:=h_ (below_set HBW.out mb 199 ((HM.out.rng mb HM.out.mS).1) (.int .i64 (dn:Int)));have HDN:=h_ hdn;have HAC:=h_ hac;have HNN:=h_ hnn;clear hnn hac hdq har hdn;go_upto_region 14 with (fail);clear hds hfr x0 x1 x2 x3 x4;generalize hW:w1.setCell ⟨mb,199,none⟩ (.int .i64 (dn:Int))=v1 at HM2 HF2 HX2 HBW2 ⊢;clear hW HM HF HX HBW;have HM:=HM2;have HF:=HF2;have HX:=HX2;have HBW:=HBW2;clear HM2 HF2 HX2 HBW2
  have hdm:(dropM m nn).dep=dn:=by show m.dep-nn=dn;rw[HDN.out];omega
  have hds:=HM.out.dep;rw[hdm]at hds;have HDS:=h_ hds;have HDM:=h_ hdm;clear hds hdm
  have hdi:(0:Int)≤(dn:Int)∧(dn:Int)+(nn:Int)≤64∧(1:Int)≤(nn:Int):=by omega
  have hw3:IntKind.i64.wrap ((dn:Int)+(nn:Int))=(dn:Int)+(nn:Int):=by rw[IntKind.wrap_i64]<;>omega
  have HS0:=h_ (show ((fun w'=>Bx w.heap.size #[.int .i64 op,.int .i64 a,.int .i64 b,.int .i64 n,.string (bs s)] 45 w')) v1.drew from HX.out);go_wp2_with fail;refine wp_region_held_drew (S:=(fun w'=>Bx w.heap.size #[.int .i64 op,.int .i64 a,.int .i64 b,.int .i64 n,.string (bs s)] 45 w')) (by kernel_rfl) ?_ (fun hHeld=>?_)
  ·exact HS0.out
  refine tkX 0 66 ?_;refine tkX 1 67 ?_;refine tkY 2 (v:=?vv18) 68 ?yy18 ?_
  case yy18 =>
   intro wq hSw;obtain⟨z0,z1,z2,z3,z4⟩:=hSw.c5;clear hSw;go_simp
   (try with_reducible rfl)
  refine tkX 3 69 ?_;refine tkX 4 70 ?_;refine tkX 5 71 ?_;refine tkX 6 72 ?_;refine tkX 7 73 ?_;refine tkX 8 74 ?_;refine tkX 10 76 ?_;refine tkX 11 77 ?_;refine tkX 12 78 ?_;refine tkX 14 80 ?_;simp only[sA,sB,sC];refine wpAnyH_ready (rs:=[9,13]) (by kernel_rfl) (by simp) ?_;refine(AllReadyH.cons rfl (fun K hK=>?_) (AllReadyH.cons rfl (fun K hK=>?_) AllReadyH.nil));have d0:v1.cell? ⟨mb,199,none⟩=some (.int .i64 (dn:Int)):=HDS.out;go_simp;skip;refine hK.out _ _ (hHeld) fun hHeld=>?_;clear hK K
  (try simp only[Act.put,sA,sB,sC])
  clear d0;refine rd1 13 fun K hK=>?_;have d0:v1.cell? ⟨mb,199,none⟩=some (.int .i64 (dn:Int)):=HDS.out;go_simp;skip;refine hK.out _ _ (hHeld) fun hHeld=>?_;clear hK K
  (try simp only[Act.put,sA,sB,sC])
  clear d0;refine tkX 15 81 ?_;simp only[sA,sB,sC];rotate_left;have d0:v1.cell? ⟨mb,199,none⟩=some (.int .i64 (dn:Int)):=HDS.out;go_simp;skip;refine hK.out _ _ (hHeld) fun hHeld=>?_;clear hK K
  (try simp only[Act.put,sA,sB,sC])
  clear d0;refine tkX 15 81 ?_;simp only[sA,sB,sC];refine rd1 9 fun K hK=>?_;have d0:v1.cell? ⟨mb,199,none⟩=some (.int .i64 (dn:Int)):=HDS.out;go_simp;skip;refine hK.out _ _ (hHeld) fun hHeld=>?_;clear hK K
  (try simp only[Act.put,sA,sB,sC])
  clear d0
  all_goals
   have hsl:=slice_stk mb dn nn hn64.1 hn64.2.1;refine tkX 16 82 ?_;simp only[sA,sB,sC];have hcl:=top_cells HM.out.bf dn nn (64-dn) hn64.1;have HCL:=h_ hcl;clear hcl hHeld;refine rd1 17 fun K hK=>?_;go_simp
   have htv:topV m nn=(List.range nn).map fun i=>m.stk (dn+i):=by unfold topV;rw[show m.dep-nn=dn by have:=HDN.out;omega]
   have HCL:=h_ (show CellsAt v1 (.slice (some ⟨mb,7+dn * 3,none⟩) nn (64-dn)) nn (vlLs (topV m nn)) from by rw[htv];exact HCL.out);have hct:=CloneVl_any ⟨mb,7+dn * 3,none⟩ (64-dn) (topV m nn) v1.drew (by rw[topV_len];omega) (by rw[topV_len];omega) (by rw[topV_len];exact HCL.out);rw[topV_len]at hct;refine hct.mono ?_;clear hct htv hsl;rintro er w2 ⟨cv,rfl,ho2,hb2⟩;obtain⟨ca,cc,hcv⟩:=own_sl ho2;subst hcv;have HM2:=h_ (HM.out.drew.call hb2);have HF2:=h_ (HF.out.drew.then (FrS.of_below hb2));have HX2:=h_ (HX.out.drew.call hb2);have HBW2:=h_ (btrans HBW.out.drew HBW.out.drew.size hb2);have HCV:=h_ (own_valAt (show w2.ownsRow v1.drew.heap.size 52 3 (.slice ca nn cc) (topV m nn).length (vlLs (topV m nn)) from by rw[topV_len];exact ho2));clear ho2 hb2;refine hK.out _ _ (HX2.out) fun hHeld=>?_;clear hK K hHeld
   (try simp only[Act.put,sA,sB,sC])
   have hgd:=HGD.out;have htok:∀v∈topV m nn,OkV v:=fun v hv=>gd_ok (hgd.top (by have:=HDN.out;omega) v hv);have hlo:∀p∈m.own,p.key.length≤9223372036854775807∧p.v.s.length≤9223372036854775807:=fun p hp=>⟨by have:=key_len (hgd.own p hp).2;omega,by have:=(gd_ok (hgd.own p hp).1).2.2;omega⟩;have hpt:=operate_any W0 mb S H (dropM m nn) R M F a (topV m nn) ca cc HG.out (by rw[topV_len];rcases HAC.out with q|q;exact .inl ⟨by omega,q.2⟩;exact .inr ⟨by omega,q.2⟩) htok (by rw[HDM.out];omega) hgd.rds ⟨by have:=hgd.nr;show m.rds.length≤_;omega,by have:=hgd.no;show m.own.length≤_;omega⟩ hlo HLD.out w2 HM2.out HBW2.out (by rw[topV_len];have h:=HCV.out;rw[topV_len]at h;exact h);rw[topV_len]at hpt;have HPT:=h_ hpt;clear hpt hgd htok hlo;refine rd1 18 fun K hK=>?_;go_simp;refine HPT.out.mono ?_;rintro e w3 ⟨rfl,S',R',h1,h2⟩;have H1:=h_ h1;have HX3:=h_ (HX2.out.frs h2 HN.out);have HF3:=h_ (HF2.out.then h2);clear h1 h2;refine hK.out _ _ (HX3.out) fun hHeld=>?_;clear hK K hHeld
   (try simp only[Act.put,sA,sB,sC])
   refine wpAnyH_done (by kernel_rfl) ?_ _;go_wp2;go_ret;exact⟨by rw[HNX.out]<;>rfl,S',R',by rw[HST.out];exact H1.out,HF3.out⟩
 have t5:(op==5)=false:=by rw[beq_eq_false_iff_ne];exact e5
 by_cases e6:op=6
 ·have t6:(op==6)=true:=by rw[e6];rfl
  have HST:=h_ (show stepM M F (⟨op,a,b,n,s⟩:Ins) m=m from by unfold stepM;rw[if_neg e1,if_neg e2,if_neg e3,if_neg e4,if_neg e5,if_pos e6]);have HNX:=h_ (show nextI (⟨op,a,b,n,s⟩:Ins) (k:Int) m=a from by unfold nextI;rw[if_pos (.inl e6)]);clear e1 e2 e3 e4 e5 e6;go_wp2;go_ret;exact⟨by rw[HNX.out]<;>rfl,S,R,by rw[HST.out];exact HM.out,HF.out⟩
 have t6:(op==6)=false:=by rw[beq_eq_false_iff_ne];exact e6
 by_cases e7:op=7
 ·have t7:(op==7)=true:=by rw[e7];rfl
  have HST:=h_ (show stepM M F (⟨op,a,b,n,s⟩:Ins) m=falM m from by unfold stepM;rw[if_neg e1,if_neg e2,if_neg e3,if_neg e4,if_neg e5,if_neg e6,if_pos e7])
  have hdq:1≤m.dep∧m.dep≤64:=by have h1:=HTK.out;have h2:=HBH.out;unfold behI putI takeI at h2;unfold takeI at h1;simp[e7]at h1 h2;omega
  obtain⟨v,hv7⟩:=ex_ (popV m);have HFM:=h_ (show falM m=if v.k≠3 then endM 2 1009 [] (popM m) else popM m from by unfold falM;rw[hv7]);have HNI:=h_ (next_fal (b:=b) (n:=n) (s:=s) (a:=a) (pc:=(k:Int)) (m:=m) e7);rw[hv7]at HNI;have HV7:=h_ hv7;clear hv7;clear e1 e2 e3 e4 e5 e6 e7;go_wp2_with fail;refine(pop_any _ mb S H m R _ HM.out hdq.1 hdq.2).mono ?_;rintro e w1 ⟨rfl,S1,R1,h1,h2⟩;rw[HV7.out];simp only[vV];have HM1:=h_ h1;have HF1:=h_ (HF.out.then h2);have HX1:=h_ (HX.out.frs h2 HN.out);clear h1 h2 x0 x1 x2 x3 x4;go_upto_region 19 with (fail);have hal:=(Below.refl w1.heap.size w1).alloc (Nat.le_refl _) (.cells #[.int .i64 v.k,.int .i64 v.n,.string (bs v.s)] 52);have HY:=h_ (Bx.new w1 #[.int .i64 v.k,.int .i64 v.n,.string (bs v.s)] 52);have HM1:=HM1.out.k hal;have HF1:=h_ (HF1.out.then (FrS.of_below hal));have HX1:=HX1.out.k hal;clear hal;generalize hW:w1.alloc (.cells #[.int .i64 v.k,.int .i64 v.n,.string (bs v.s)] 52)=v1 at HY HM1 HF1 HX1 ⊢;clear hW;obtain⟨y0,y1,y2⟩:=HY.out.c3;obtain⟨x0,x1,x2,x3,x4⟩:=HX1.out.c5;by_cases h3:v.k=3;rotate_left
  ·have t3:(v.k != 3)=true:=by rw[bne_iff_ne];exact h3
   have HST2:=h_ (show stepM M F (⟨op,a,b,n,s⟩:Ins) m=endM 2 1009 [] (popM m) from HST.out.trans (HFM.out.trans (if_pos h3)));have HNX:=h_ (HNI.out.trans (if_neg (fun q=>h3 q.1)));clear h3;go_wp2_with fail;refine(vabort_any _ mb S1 H _ R1 1009 _ HM1.out).mono ?_;rintro e w2 ⟨rfl,S',R',h1,h2⟩;have H1:=h_ h1;have H2:=h_ (HF1.out.then h2);clear h1 h2 x0 x1 x2 x3 x4 y0 y1 y2;go_wp2;go_ret;exact⟨by rw[HNX.out]<;>rfl,S',R',by rw[HST2.out];exact H1.out,H2.out⟩
  have t3:(v.k != 3)=false:=by rw[h3];rfl
  have HST2:=h_ (show stepM M F (⟨op,a,b,n,s⟩:Ins) m=popM m from HST.out.trans (HFM.out.trans (if_neg (by rw[h3];simp))));by_cases h0:v.n=0
  ·have t0:(v.n==0)=true:=by rw[h0];rfl
   have HNX:=h_ (HNI.out.trans (if_pos ⟨h3,h0⟩));clear h3 h0;go_wp2;go_ret;exact⟨by rw[HNX.out]<;>rfl,S1,R1,by rw[HST2.out];exact HM1.out,HF1.out⟩
  have t0:(v.n==0)=false:=by rw[beq_eq_false_iff_ne];exact h0
  have HNX:=h_ (HNI.out.trans (if_neg (fun q=>h0 q.2)));clear h3 h0;go_wp2;go_ret;exact⟨by rw[HNX.out]<;>rfl,S1,R1,by rw[HST2.out];exact HM1.out,HF1.out⟩
 have t7:(op==7)=false:=by rw[beq_eq_false_iff_ne];exact e7
 by_cases e8:op=8
 ·have t8:(op==8)=true:=by rw[e8];rfl
  have HST:=h_ (show stepM M F (⟨op,a,b,n,s⟩:Ins) m=putM F m from by unfold stepM;rw[if_neg e1,if_neg e2,if_neg e3,if_neg e4,if_neg e5,if_neg e6,if_neg e7,if_pos e8]);have HNX:=h_ (show nextI (⟨op,a,b,n,s⟩:Ins) (k:Int) m=(k:Int)+1 from by unfold nextI;rw[if_neg (by rintro (q|q);exact absurd (e8.symm.trans q) (by decide);exact absurd (e8.symm.trans q.1) (by decide))])
  have hdq:2≤m.dep:=by have h1:=HTK.out;have h2:=HBH.out;unfold behI putI takeI at h2;unfold takeI at h1;simp[e8]at h1 h2;omega
  clear e1 e2 e3 e4 e5 e6 e7 e8;have hgd:=HGD.out;have hpt:=put_any W0 mb S H m R M F HG.out hdq hd64 (fun q hq=>gd_ok (hgd.stk q hq)) hgd.puts ⟨by have:=hgd.np;omega,by have:=hgd.no;omega⟩ v0 HM.out HBW.out;have HPT:=h_ hpt;clear hpt hgd;go_wp2_with fail;refine(HPT.out).mono ?_;clear x0 x1 x2 x3 x4;rintro e w2 ⟨rfl,S',R',h1,h2⟩;have H1:=h_ h1;have H2:=h_ h2;clear h1 h2;go_wp2;go_ret;exact⟨by rw[HNX.out]<;>rfl,S',R',by rw[HST.out];exact H1.out,HF.out.then H2.out⟩
 have t8:(op==8)=false:=by rw[beq_eq_false_iff_ne];exact e8
 by_cases e9:op=9
 ·have t9:(op==9)=true:=by rw[e9];rfl
  have HST:=h_ (show stepM M F (⟨op,a,b,n,s⟩:Ins) m=storeM F (popV m) v00 (popM m) from by unfold stepM;rw[if_neg e1,if_neg e2,if_neg e3,if_neg e4,if_neg e5,if_neg e6,if_neg e7,if_neg e8,if_pos e9]);have HNX:=h_ (show nextI (⟨op,a,b,n,s⟩:Ins) (k:Int) m=(k:Int)+1 from by unfold nextI;rw[if_neg (by rintro (q|q);exact absurd (e9.symm.trans q) (by decide);exact absurd (e9.symm.trans q.1) (by decide))])
  have hdq:1≤m.dep:=by have h1:=HTK.out;have h2:=HBH.out;unfold behI putI takeI at h2;unfold takeI at h1;simp[e9]at h1 h2;omega
  clear e1 e2 e3 e4 e5 e6 e7 e8 e9;have hgd:=HGD.out;obtain⟨u,hu⟩:=ex_ (popV m)
  have huk:u.s.length≤1000000:=by rw[←hu];exact(gd_ok (hgd.popd hdq)).2.2
  rw[hu]at HST;have HU:=h_ hu;clear hu;go_wp2_with fail;refine(pop_any _ mb S H m R _ HM.out hdq hd64).mono ?_;rintro e w1 ⟨rfl,S1,R1,h1,h2⟩;rw[HU.out];simp only[vV];have HM1:=h_ h1;have HF:=h_ (HF.out.then h2);have HBW1:=h_ (HM.out.below HBW.out h2);clear h1 h2 x0 x1 x2 x3 x4;have hpt:=store_any W0 mb S1 H (popM m) R1 M F u v00 HG.out huk hgd.puts ⟨by have:=hgd.np;show m.puts.length≤_;omega,by have:=hgd.no;show m.own.length≤_;omega⟩ w1 HM1.out HBW1.out;simp only[vV,v00]at hpt;have HPT:=h_ hpt;clear hpt hgd;go_wp2_with fail;refine HPT.out.mono ?_;rintro e w2 ⟨rfl,S',R',h1,h2⟩;have H1:=h_ h1;have H2:=h_ h2;clear h1 h2;go_wp2;go_ret;exact⟨by rw[HNX.out]<;>rfl,S',R',by rw[HST.out];exact H1.out,HF.out.then H2.out⟩
 have t9:(op==9)=false:=by rw[beq_eq_false_iff_ne];exact e9
 by_cases e10:op=10
 ·have t10:(op==10)=true:=by rw[e10];rfl
  have HST:=h_ (show stepM M F (⟨op,a,b,n,s⟩:Ins) m=emitM (popV m) (popM m) from by unfold stepM;rw[if_neg e1,if_neg e2,if_neg e3,if_neg e4,if_neg e5,if_neg e6,if_neg e7,if_neg e8,if_neg e9,if_pos e10]);have HNX:=h_ (show nextI (⟨op,a,b,n,s⟩:Ins) (k:Int) m=(k:Int)+1 from by unfold nextI;rw[if_neg (by rintro (q|q);exact absurd (e10.symm.trans q) (by decide);exact absurd (e10.symm.trans q.1) (by decide))])
  have hdq:1≤m.dep:=by have h1:=HTK.out;have h2:=HBH.out;unfold behI putI takeI at h2;unfold takeI at h1;simp[e10]at h1 h2;omega
  clear e1 e2 e3 e4 e5 e6 e7 e8 e9 e10;have hgd:=HGD.out;obtain⟨u,hu⟩:=ex_ (popV m);rw[hu]at HST;have HU:=h_ hu;clear hu;go_wp2_with fail;refine(pop_any _ mb S H m R _ HM.out hdq hd64).mono ?_;rintro e w1 ⟨rfl,S1,R1,h1,h2⟩;rw[HU.out];simp only[vV];have HM1:=h_ h1;have HF:=h_ (HF.out.then h2);clear h1 h2 x0 x1 x2 x3 x4;have hpt:=emit_any _ mb S1 H (popM m) R1 u w1 HM1.out hgd.out;simp only[vV]at hpt;have HPT:=h_ hpt;clear hpt hgd;go_wp2_with fail;refine HPT.out.mono ?_;rintro e w2 ⟨rfl,S',R',h1,h2⟩;have H1:=h_ h1;have H2:=h_ h2;clear h1 h2;go_wp2;go_ret;exact⟨by rw[HNX.out]<;>rfl,S',R',by rw[HST.out];exact H1.out,HF.out.then H2.out⟩
 have t10:(op==10)=false:=by rw[beq_eq_false_iff_ne];exact e10
 by_cases e11:op=11
 ·have t11:(op==11)=true:=by rw[e11];rfl
  have HST:=h_ (show stepM M F (⟨op,a,b,n,s⟩:Ins) m=endM 2 a [] m from by unfold stepM;rw[if_neg e1,if_neg e2,if_neg e3,if_neg e4,if_neg e5,if_neg e6,if_neg e7,if_neg e8,if_neg e9,if_neg e10,if_pos e11]);have HNX:=h_ (show nextI (⟨op,a,b,n,s⟩:Ins) (k:Int) m=(k:Int)+1 from by unfold nextI;rw[if_neg (by rintro (q|q);exact absurd (e11.symm.trans q) (by decide);exact absurd (e11.symm.trans q.1) (by decide))]);clear e1 e2 e3 e4 e5 e6 e7 e8 e9 e10 e11;go_wp2_with fail;refine(vabort_any _ mb S H m R a _ HM.out).mono ?_;clear x0 x1 x2 x3 x4;rintro e w2 ⟨rfl,S',R',h1,h2⟩;have H1:=h_ h1;have H2:=h_ h2;clear h1 h2;go_wp2;go_ret;exact⟨by rw[HNX.out]<;>rfl,S',R',by rw[HST.out];exact H1.out,HF.out.then H2.out⟩
 have t11:(op==11)=false:=by rw[beq_eq_false_iff_ne];exact e11
 by_cases e12:op=12
 ·have t12:(op==12)=true:=by rw[e12];rfl
  have HST:=h_ (show stepM M F (⟨op,a,b,n,s⟩:Ins) m=loopM (⟨op,a,b,n,s⟩:Ins) m from by unfold stepM;rw[if_neg e1,if_neg e2,if_neg e3,if_neg e4,if_neg e5,if_neg e6,if_neg e7,if_neg e8,if_neg e9,if_neg e10,if_neg e11,if_pos e12]);have HNX:=h_ (show nextI (⟨op,a,b,n,s⟩:Ins) (k:Int) m=(k:Int)+1 from by unfold nextI;rw[if_neg (by rintro (q|q);exact absurd (e12.symm.trans q) (by decide);exact absurd (e12.symm.trans q.1) (by decide))]);have hbb:=HSB.out e12;clear e1 e2 e3 e4 e5 e6 e7 e8 e9 e10 e11 e12;have hgd:=HGD.out;obtain⟨an,han⟩:∃q:Nat,a=(q:Int):=⟨a.toNat,by omega⟩;obtain⟨bn,hbn⟩:∃q:Nat,b=(q:Int):=⟨b.toNat,by omega⟩;have hpt:=loop_any _ mb S H m R ⟨op,a,b,n,s⟩ an bn han hbn (by omega) (by omega) hbb.2.2 (fun q=>gd_ok (hgd.slo q)) v0 HM.out;simp only[insV]at hpt;have HPT:=h_ hpt;clear hpt hgd han hbn;go_wp2_with fail;refine(HPT.out).mono ?_;clear x0 x1 x2 x3 x4;rintro e w2 ⟨rfl,S',R',h1,h2⟩;have H1:=h_ h1;have H2:=h_ h2;clear h1 h2;go_wp2;go_ret;exact⟨by rw[HNX.out]<;>rfl,S',R',by rw[HST.out];exact H1.out,HF.out.then H2.out⟩
 have t12:(op==12)=false:=by rw[beq_eq_false_iff_ne];exact e12
 by_cases e13:op=13
 ·have t13:(op==13)=true:=by rw[e13];rfl
  have HST:=h_ (show stepM M F (⟨op,a,b,n,s⟩:Ins) m=endM 1 0 [] m from by unfold stepM;rw[if_neg e1,if_neg e2,if_neg e3,if_neg e4,if_neg e5,if_neg e6,if_neg e7,if_neg e8,if_neg e9,if_neg e10,if_neg e11,if_neg e12,if_pos e13]);have HNX:=h_ (show nextI (⟨op,a,b,n,s⟩:Ins) (k:Int) m=(k:Int)+1 from by unfold nextI;rw[if_neg (by rintro (q|q);exact absurd (e13.symm.trans q) (by decide);exact absurd (e13.symm.trans q.1) (by decide))]);clear e1 e2 e3 e4 e5 e6 e7 e8 e9 e10 e11 e12 e13;have hgd:=HGD.out;have hpt:=endC_any _ mb S H m R 0 [] v0 HM.out ⟨by have:=hgd.np;omega,by have:=hgd.no;omega,by rw[hgd.wrs];simp⟩;have HPT:=h_ hpt;clear hpt hgd;go_wp2_with fail;refine(HPT.out).mono ?_;clear x0 x1 x2 x3 x4;rintro e w2 ⟨rfl,S',R',h1,h2⟩;have H1:=h_ h1;have H2:=h_ h2;clear h1 h2;go_wp2;go_ret;exact⟨by rw[HNX.out]<;>rfl,S',R',by rw[HST.out];exact H1.out,HF.out.then H2.out⟩
 have t13:(op==13)=false:=by rw[beq_eq_false_iff_ne];exact e13
 have e14:op=14:=by have:=HOPR.out;omega
 have t14:(op==14)=true:=by rw[e14];rfl
 have HST:=h_ (show stepM M F (⟨op,a,b,n,s⟩:Ins) m=tickM m from by unfold stepM;rw[if_neg e1,if_neg e2,if_neg e3,if_neg e4,if_neg e5,if_neg e6,if_neg e7,if_neg e8,if_neg e9,if_neg e10,if_neg e11,if_neg e12,if_neg e13,if_pos e14]);have HNX:=h_ (show nextI (⟨op,a,b,n,s⟩:Ins) (k:Int) m=(k:Int)+1 from by unfold nextI;rw[if_neg (by rintro (q|q);exact absurd (e14.symm.trans q) (by decide);exact absurd (e14.symm.trans q.1) (by decide))]);clear e1 e2 e3 e4 e5 e6 e7 e8 e9 e10 e11 e12 e13 e14;have hgd:=HGD.out;have hpt:=tick_any _ mb S H m R v0 HM.out hgd.stp.1 hgd.stp.2;have HPT:=h_ hpt;clear hpt hgd;go_wp2_with fail;refine(HPT.out).mono ?_;clear x0 x1 x2 x3 x4;rintro e w2 ⟨rfl,S',R',h1,h2⟩;have H1:=h_ h1;have H2:=h_ h2;clear h1 h2;go_wp2;go_ret;exact⟨by rw[HNX.out]<;>rfl,S',R',by rw[HST.out];exact H1.out,HF.out.then H2.out⟩
theorem VMB.keep{B mb:Nat}{S:Nat→Prop}{H:Nat→Value}{m:Mc}{R:Rw}{W W':World}(h:VMB B mb S H m R W)(hs:W.heap.size≤W'.heap.size)(hk:∀j,S j→W'.heap[j]? = W.heap[j]?):VMB B mb S H m R W':=
 ⟨h.mS,fun j hj=>⟨(h.rng j hj).1,Nat.lt_of_lt_of_le (h.rng j hj).2 hs⟩,h.bf.block (hk mb h.mS),h.own.blocks fun j a _ _=>hk j a,h.out.blocks fun j a _ _=>hk j a,h.rds.blocks fun j a _ _=>hk j a,h.puts.blocks fun j a _ _=>hk j a,h.wrs.blocks fun j a _ _=>hk j a,h.apart,h.apart2⟩
theorem VMB.frs{B mb:Nat}{S V V':Nat→Prop}{H:Nat→Value}{m:Mc}{R:Rw}{W W':World}(h:VMB B mb S H m R W)(hk:FrS V V' W W')(hd:∀j,S j→¬V j):VMB B mb S H m R W':=
 h.keep hk.size fun j hj=>hk.block j (h.rng j hj).2 (hd j hj)
theorem FrS.away{S S':Nat→Prop}{w w':World}(h:FrS S S' w w'){V:Nat→Prop}(hv:∀j,V j→j<w.heap.size)(hd:∀j,S j→¬V j):∀j,S' j→¬V j:=fun j hj hq=>by
 rcases h.new j hj with q|q
 ·exact hd j q hq
 ·have:=hv j hq;omega
def muM (m:Mc) (n:Nat):Nat:=if m.done=true then 0 else 1+((16385-m.steps.toNat) * 1026+(1025-n))
theorem endM_steps(st c:Int)(k:List UInt8)(m:Mc):(endM st c k m).steps=m.steps:=by
 unfold endM;split<;>rfl
theorem storeM_steps(F:Ft)(k v:Vl)(m:Mc):(storeM F k v m).steps=m.steps:=by
 unfold storeM;split
 ·exact endM_steps ..
 split
 ·exact endM_steps ..
 split
 ·exact endM_steps ..
 ·rfl
theorem opM_steps(M:List Pr)(F:Ft)(op:Int)(l:List Vl)(m:Mc):(opM M F op l m).steps=m.steps:=by
 unfold opM;generalize (opEv M F m.own op l).1=r;generalize (opEv M F m.own op l).2=ks
 have h:∀m2:Mc,(resM r m2).steps=m2.steps:=by
  intro m2
  cases r with
  | ok v=>rfl
  | ab c=>exact endM_steps ..
  | re k=>exact endM_steps ..
 rw[h];split<;>rfl
theorem falM_steps(m:Mc):(falM m).steps=m.steps:=by
 unfold falM;by_cases h:(popV m).k≠3
 ·rw[if_pos h];exact endM_steps ..
 ·rw[if_neg h];rfl
theorem putM_steps(F:Ft)(m:Mc):(putM F m).steps=m.steps:=by
 unfold putM;by_cases h:storedB (popV m)=false
 ·rw[if_pos h];exact endM_steps ..
 ·rw[if_neg h];exact storeM_steps ..
theorem emitM_steps(v:Vl)(m:Mc):(emitM v m).steps=m.steps:=by
 unfold emitM;by_cases h:storedB v=false
 ·rw[if_pos h];exact endM_steps ..
 rw[if_neg h];by_cases h2:m.out.length=16
 ·rw[if_pos h2];exact endM_steps ..
 ·rw[if_neg h2]
theorem loopM_steps(x:Ins)(m:Mc):(loopM x m).steps=m.steps:=by
 unfold loopM;split
 ·exact endM_steps ..
 split
 ·exact endM_steps ..
 ·rfl
theorem step_steps(M:List Pr)(F:Ft)(x:Ins)(m:Mc)(h:x.op≠14):(stepM M F x m).steps=m.steps:=by
 unfold stepM;by_cases e1:x.op=1
 ·rw[if_pos e1];rfl
 rw[if_neg e1];by_cases e2:x.op=2
 ·rw[if_pos e2];rfl
 rw[if_neg e2];by_cases e3:x.op=3
 ·rw[if_pos e3];rfl
 rw[if_neg e3];by_cases e4:x.op=4
 ·rw[if_pos e4];rfl
 rw[if_neg e4];by_cases e5:x.op=5
 ·rw[if_pos e5];exact opM_steps ..
 rw[if_neg e5];by_cases e6:x.op=6
 ·rw[if_pos e6]
 rw[if_neg e6];by_cases e7:x.op=7
 ·rw[if_pos e7];exact falM_steps ..
 rw[if_neg e7];by_cases e8:x.op=8
 ·rw[if_pos e8];exact putM_steps ..
 rw[if_neg e8];by_cases e9:x.op=9
 ·rw[if_pos e9];exact storeM_steps ..
 rw[if_neg e9];by_cases e10:x.op=10
 ·rw[if_pos e10];exact emitM_steps ..
 rw[if_neg e10];by_cases e11:x.op=11
 ·rw[if_pos e11];exact endM_steps ..
 rw[if_neg e11];by_cases e12:x.op=12
 ·rw[if_pos e12];exact loopM_steps ..
 rw[if_neg e12];by_cases e13:x.op=13
 ·rw[if_pos e13];exact endM_steps ..
 rw[if_neg e13];rw[if_neg h]
theorem tick_steps(m:Mc):(tickM m).steps=m.steps+1:=by
 unfold tickM;split
 ·exact endM_steps ..
 ·rfl
theorem mu_step(M:List Pr)(F:Ft)(x:Ins)(m:Mc)(n:Nat)(hd:m.done=false)(hs:0≤m.steps∧m.steps≤16384)(hn:n<1024):muM (stepM M F x m) (cntI x n)+1≤muM m n:=by
 have e0:muM m n=1+((16385-m.steps.toNat) * 1026+(1025-n)):=if_neg (by rw[hd];simp);rw[e0];unfold muM;by_cases hq:(stepM M F x m).done=true
 ·rw[if_pos hq];omega
 rw[if_neg hq];by_cases h:x.op=14
 ·have e:stepM M F x m=tickM m:=by unfold stepM;simp[h]
  rw[e,tick_steps];unfold cntI;rw[if_pos h,show (m.steps+1).toNat=m.steps.toNat+1 by omega]
  have:m.steps.toNat≤16384:=by omega
  omega
 ·rw[step_steps M F x m h]
  unfold cntI;rw[if_neg h];omega
theorem run_done{M:List Pr}{F:Ft}{l:List Ins}{stop:List Int→Bool}{f:Nat}{m:Mc}{pc:Int}{n:Nat}{tr:List Int}(hf:muM m n<f)(h:m.done=true):runM M F l stop f m pc n tr=(m,tr):=by
 cases f with
 | zero=>omega
 | succ f=>unfold runM;rw[if_pos h]
theorem run_fuel{M:List Pr}{F:Ft}{l:List Ins}{stop:List Int→Bool}{f:Nat}{m:Mc}{pc:Int}{n:Nat}{tr:List Int}(hf:muM m n<f)(h:m.done=false)(hn:n=1024):runM M F l stop f m pc n tr=(endM 2 1008 [] m,tr):=by
 cases f with
 | zero=>omega
 | succ f=>unfold runM;rw[if_neg (by rw[h];simp),if_pos hn]
theorem run_stop{M:List Pr}{F:Ft}{l:List Ins}{stop:List Int→Bool}{f:Nat}{m:Mc}{pc:Int}{n:Nat}{tr:List Int}(hf:muM m n<f)(h:m.done=false)(hn:n≠1024)(hs:stop tr=true):runM M F l stop f m pc n tr=(m,tr):=by
 cases f with
 | zero=>omega
 | succ f=>unfold runM;rw[if_neg (by rw[h];simp),if_neg hn,if_pos hs]
theorem run_step{M:List Pr}{F:Ft}{l:List Ins}{stop:List Int→Bool}{f:Nat}{m:Mc}{pc:Int}{n:Nat}{tr:List Int}(hf:muM m n<f)(h:m.done=false)(hn:n≠1024)(hs:stop tr=false):∃g,f=g+1∧runM M F l stop f m pc n tr=runM M F l stop g (stepM M F (l.getD pc.toNat ins0) m) (nextI (l.getD pc.toNat ins0) pc m) (cntI (l.getD pc.toNat ins0) n) (tr++[pc]):=by
 cases f with
 | zero=>omega
 | succ f=>refine⟨f,rfl,?_⟩;conv=>lhs;unfold runM;rw[if_neg (by rw[h];simp),if_neg hn,if_neg (by rw[hs];simp)]
def rowB (ob:Nat) (v:Value):Nat→Prop:=fun k=>k=ob∨v.ownBlock=some k
def visL (lim:Int) (tr:List Int) (pc:Int):List Int:=if limB lim tr=true then tr else tr++[pc]
def VisP (B ob lb:Nat) (ta:Option Addr) (tc:Nat) (tr:List Int) (lim pc:Int) (w:World) (e:Ending) (w':World):Prop:=
 ∃ta' tc',e=.returned (.bool (!limB lim tr))∧Bx ob #[.slice ta' (visL lim tr pc).length tc'] 22 w'∧Bx lb #[.int .i64 lim] 3 w'∧w'.ownsRow B 3 1 (.slice ta' (visL lim tr pc).length tc') (visL lim tr pc).length (intsL (visL lim tr pc))∧FrS (rowB ob (.slice ta tr.length tc)) (rowB ob (.slice ta' (visL lim tr pc).length tc')) w w'
theorem infoI:(prog.info? 3).map (fun i=>(i.zero,i.size,i.bytes))=some (some (.int .i64 0),1,8):=by kernel_rfl
theorem visT_any(B ob lb:Nat)(ta:Option Addr)(tc:Nat)(tr:List Int)(lim pc:Int)(w:World)(hO:Bx ob #[.slice ta tr.length tc] 22 w)(hL:Bx lb #[.int .i64 lim] 3 w)(hw:w.ownsRow B 3 1 (.slice ta tr.length tc) tr.length (intsL tr))(hob:B≤ob)(hlo:lb≠ob)(hln:(Value.slice ta tr.length tc).ownBlock≠some lb)(hl:tr.length≤100000000):
  Calls prog 26 #[.int .i64 pc,.pointer (some ⟨ob,0,none⟩),.pointer (some ⟨lb,0,none⟩)] w (VisP B ob lb ta tc tr lim pc w):=by
 have hbl:=hO.lt;have HO:=h_ hO;have HL:=h_ hL;have HW:=h_ hw;have o0:=HO.out.cell 0;have l0:=HL.out.cell 0;simp only[List.getElem?_toArray,List.getElem?_cons_zero]at o0 l0;have HLN:=h_ hln;clear hO hL hw hln;by_cases hge:lim≤(tr.length:Int)
 ·have HB:=h_ (show limB lim tr=true from decide_eq_true hge)
  have HVL:=h_ (show visL lim tr pc=tr from if_pos HB.out);go_enter func26,ntmps26;go_wp2;go_ret;exact⟨ta,tc,by rw[HB.out]<;>rfl,by rw[HVL.out];exact HO.out,HL.out,by rw[HVL.out];exact HW.out,by rw[HVL.out];exact FrS.refl _ _⟩
 have hgf:¬lim≤(tr.length:Int):=hge;have HB:=h_ (show limB lim tr=false from decide_eq_false hge);have HVL:=h_ (show visL lim tr pc=tr++[pc] from if_neg (by rw[HB.out];simp));have hdf:decide (lim≤(tr.length:Int))=false:=decide_eq_false hge;obtain⟨i0,hi,hz0,hz1,hz2⟩:=info_parts infoI;have f0:=HO.out.free 0;have HTO:=h_ (show Bx ob #[.slice ta tr.length tc] 22 w from HO.out);go_enter func26,ntmps26;go_wp2_with (at_builtin;refine wpList_append_lies (w.alloc (.cells #[.int .i64 pc] 3)) rfl _ _ 22 rfl B 3 i0 (.int .i64 0) 1 8 underlying22 hi hz0 hz1 hz2 rfl (by decide) (.slice ta tr.length tc) tr.length (intsL tr) rfl (HW.out.alloc _) ⟨w.heap.size,0,none⟩ 1 1 [.int .i64 pc] rfl rfl (World.news_of_block (heap_alloc_new w _)) (by intro u hu;rw[List.mem_singleton]at hu;rw[hu];rfl) (by decide) (by unfold maxLen;omega) (by omega) (by simp;omega) _ rfl ?_;intro g5 cap5 w5 hown5 hgrow hat hlt5;have hne5:(Value.slice ta tr.length tc).ownBlock≠some ob:=(by intro e;rcases HW.out.2 with ⟨q,_⟩|⟨g,cap,cur,q,_,h3,_⟩;rw[q]at e;cases e;rw[q]at e;have hg:g=ob:=(by simpa[Value.ownBlock] using e);rw[hg]at h3;have h4:=HO.out;unfold Bx at h4;rw[h4]at h3;cases h3);have HO5:=h_ ((HO.out.alloc (.cells #[.int .i64 pc] 3)).kept hgrow hne5);have o0:=HO5.out.cell 0;simp only[List.getElem?_toArray,List.getElem?_cons_zero]at o0;have f0:=HO5.out.free 0);have hal:=(Below.refl w.heap.size w).alloc (Nat.le_refl _) (.cells #[.int .i64 pc] 3)
 have hF5:FrS (rowB ob (.slice ta tr.length tc)) (rowB ob (.slice (some ⟨g5,0,none⟩) (tr.length+1) cap5)) w w5:=by
  refine⟨hgrow.os.trans hal.os,hgrow.tape.trans hal.tape,hgrow.output.trans hal.output,Nat.le_trans hal.size hgrow.size,fun k hk hn=>?_,fun k hk=>?_⟩
  ·exact(hgrow.block k (Nat.lt_of_lt_of_le hk hal.size) (fun e=>hn (.inr e.symm))).trans (hal.block k hk)
  ·rcases hk with q|q
   ·exact .inl (.inl q)
   ·rcases hat with r|r
    ·exact .inl (.inr (by rw[r];exact q))
    ·right;have hk5:g5=k:=by simpa[Value.ownBlock] using q
     have:=hal.size;omega
 have HF:=h_ (hF5.set ob 0 (.slice (some ⟨g5,0,none⟩) (tr.length+1) cap5) (.inl (.inl rfl)));have hO6:=HO5.out.set 0 (.slice (some ⟨g5,0,none⟩) (tr.length+1) cap5);have HO6:=h_ (show Bx ob #[.slice (some ⟨g5,0,none⟩) (tr.length+1) cap5] 22 (w5.setCell ⟨ob,0,none⟩ (.slice (some ⟨g5,0,none⟩) (tr.length+1) cap5)) from by simpa using hO6);have HW6:=h_ (own_st hown5 HO5.out (by decide) 0 (.slice (some ⟨g5,0,none⟩) (tr.length+1) cap5));have HVN:=h_ (show (visL lim tr pc).length=tr.length+1 from by rw[HVL.out];simp);have HIL:=h_ (show intsL (visL lim tr pc)=intsL tr++[.int .i64 pc] from by rw[HVL.out];exact intsL_snoc tr pc);have HL6:=h_ (HL.out.frs HF.out (by rintro (q|q);exact hlo q;exact absurd q HLN.out));clear hal hF5 hO6 hown5 hgrow hat o0 f0;generalize hW:w5.setCell ⟨ob,0,none⟩ (.slice (some ⟨g5,0,none⟩) (tr.length+1) cap5)=w6 at HF HO6 HW6 HL6 ⊢;clear hW;go_wp2;go_ret;exact⟨some ⟨g5,0,none⟩,cap5,by rw[HB.out]<;>rfl,by rw[HVN.out];exact HO6.out,HL6.out,by rw[HVN.out,HIL.out];exact HW6.out,by rw[HVN.out];exact HF.out⟩
theorem rowB_no{S:Nat→Prop}{ob:Nat}{v:Value}(h1:¬S ob)(h2:∀g,v.ownBlock=some g→¬S g):∀j,S j→¬rowB ob v j:=fun j hj hq=>by
 rcases hq with rfl|q
 ·exact h1 hj
 ·exact h2 j q hj
theorem vis_not{S:Nat→Prop}{ob:Nat}{v v':Value}{w w':World}(h:FrS (rowB ob v) (rowB ob v') w w')(hS:∀j,S j→j<w.heap.size)(h1:¬S ob)(h2:∀g,v.ownBlock=some g→¬S g):∀g,v'.ownBlock=some g→¬S g:=fun g hg hs=>by
 rcases h.new g (.inr hg) with (rfl|q)|q
 ·exact h1 hs
 ·exact h2 g q hs
 ·have:=hS g hs;omega
theorem visR_any(pc:Int)(w:World):
  Calls prog 23 #[.int .i64 pc] w fun e w'=>e=.returned (.bool true)∧w'=w:=by
 go_enter func23,ntmps23;go_wp2;go_ret;exact⟨rfl,by first|exact True.intro|rfl⟩
def TrunP (W0:World) (mb ob:Nat) (H:Nat→Value) (fin:Mc × List Int) (e:Ending) (w':World):Prop:=e=.returned (.tuple #[])∧Below W0.heap.size W0 w'∧(∃S' R',VMB W0.heap.size mb S' H fin.1 R' w')∧∃ta tc,Bx ob #[.slice ta (fin).2.length tc] 22 w'∧w'.ownsRow W0.heap.size 3 1 (.slice ta (fin).2.length tc) (fin).2.length (intsL (fin).2)
theorem Trun_any(W0:World)(mb:Nat)(S:Nat→Prop)(H:Nat→Value)(m:Mc)(R:Rw)(M:List Pr)(F:Ft)(c:Cd)(ia:Option Addr)(ic:Nat)(ob lb:Nat)(lim:Int)(hG:GivH H W0 M F)(hH2:H 2=.slice ia c.l.length ic)(hI:CellsAt W0 (.slice ia c.l.length ic) c.l.length (insLs c.l))(hv:valC c=0)(hcn:∀x∈c.l,fits x.n=true)(hMf:∀p∈M,fits p.v.n=true)(hLd:Laid W0)(hinv:InvM c 0 m 0)(w:World)(h:VMB W0.heap.size mb S H m R w)(hb0:Below W0.heap.size W0 w)(hO:Bx ob #[.slice none 0 0] 22 w)(hL:Bx lb #[.int .i64 lim] 3 w)(hob:W0.heap.size≤ob)(hne:lb≠ob)(hSo:¬S ob)(hSl:¬S lb):
  Calls prog 22 #[.pointer (some ⟨mb,0,none⟩),.func (.func 26) #[] #[.pointer (some ⟨ob,0,none⟩),.pointer (some ⟨lb,0,none⟩)]] w (TrunP W0 mb ob H (runM M F c.l (limB lim) (muM m 0+1) m 0 0 [])):=by
 obtain⟨FI,hFI⟩:=ex_ ((runM M F c.l (limB lim) (muM m 0+1) m 0 0 []));rw[hFI];have HFI:=h_ hFI;have HG:=h_ hG;have HI:=h_ hI;have HH2:=h_ hH2;have HCN:=h_ hcn;have HMF:=h_ hMf;have HLD:=h_ hLd;have HINV:=h_ hinv;have HM:=h_ h;have HB:=h_ hb0;clear hFI hG hI hH2 hcn hMf hLd hinv h hb0
 have hmu:muM m 0≤17000000:=by unfold muM;split<;>omega
 have HO:=h_ hO;have HL:=h_ hL;have HSN:=h_ (show ¬S ob∧¬S lb∧∀g,(Value.slice none 0 0).ownBlock=some g→¬S g∧g≠lb from⟨hSo,hSl,fun g hg=>by cases hg⟩);clear hO hL hSo hSl;go_enter func22,ntmps22;go_wp2;go_step3;go_wp2;go_step3;go_wp2;go_loopg [4,5] (muM m 0) (fun k i j wr=>∃(m':Mc) (S':Nat→Prop) (R':Rw) (pc:Int) (n fu N:Nat) (ta:Option Addr) (tc:Nat) (tr:List Int),i=.int .i64 pc∧j=.int .i64 (n:Int)∧k=muM m' n∧Hid (VMB W0.heap.size mb S' H m' R' wr)∧Hid (Below W0.heap.size W0 wr)∧Hid (m'.done=false→InvM c pc m' N)∧Hid (runM M F c.l (limB lim) fu m' pc n tr=FI)∧Hid (muM m' n<fu)∧Hid (N+muM m' n≤20000000∧tr.length≤N∧n≤1024)∧Hid (Bx ob #[.slice ta tr.length tc] 22 wr)∧Hid (Bx lb #[.int .i64 lim] 3 wr)∧Hid (wr.ownsRow W0.heap.size 3 1 (.slice ta tr.length tc) tr.length (intsL tr))∧Hid (¬S' ob∧¬S' lb∧∀g,(Value.slice ta tr.length tc).ownBlock=some g→¬S' g∧g≠lb))
 case atStart=>exact⟨m,S,R,0,0,_,0,none,0,[],by first|exact True.intro|rfl,by first|exact True.intro|rfl,by first|exact True.intro|rfl,HM,HB,h_ (fun _=>HINV.out),HFI,h_ (Nat.lt_succ_self _),h_ ⟨by omega,by simp,by omega⟩,HO,HL,h_ (own_nil _ _ _ _),HSN⟩
 case round =>
  clear HM HB HFI HINV HO HL HSN;obtain⟨m',S',R',pc,n,fu,N,ta,tc,tr,rfl,rfl,rfl,HM,HB,HINV,HFI,HFU,HNN,HO,HL,HW,HSN⟩:=hrel;obtain⟨dn,hdn⟩:=ex_ (m'.done);have HDN:=h_ hdn
  have c9:wr.cell? ⟨mb,401,none⟩=some (.bool dn):=by rw[←hdn];exact HM.out.tl 9 (by decide)
  clear hdn
  cases dn with
  | true =>
   have HEND:=h_ (show FI=(m',tr) from HFI.out.symm.trans (run_done HFU.out HDN.out));go_wp2;exact⟨(by first|exact True.intro|rfl),.tuple #[],results_none rfl _ _ _,rfl,HB.out,⟨_,_,by rw[HEND.out];exact HM.out⟩,_,_,by rw[HEND.out];exact HO.out,by rw[HEND.out];exact HW.out⟩
  | false =>
   have hnn:=HNN.out.2.2;by_cases hn:n=1024
   ·have tn:((n:Int)==1024)=true:=by rw[hn];rfl
    have HEND:=h_ (show FI=(endM 2 1008 [] m',tr) from HFI.out.symm.trans (run_fuel HFU.out HDN.out hn));clear hn;go_wp2_with fail;refine(vabort_any _ mb S' H m' R' 1008 _ HM.out).mono ?_;rintro e w2 ⟨rfl,S2,R2,h1,h2⟩;have HB:=h_ (HM.out.below HB.out h2);have HM2:=h_ h1;have HSB:∀j,S' j→¬rowB ob (.slice ta tr.length tc) j:=rowB_no HSN.out.1 (fun g hg=>(HSN.out.2.2 g hg).1);have HO:=h_ (HO.out.frs h2 HSN.out.1);have HW:=h_ (own_frs HW.out h2 (fun g hg=>(HSN.out.2.2 g hg).1));clear h1 h2 c9;go_wp2;exact⟨(by first|exact True.intro|rfl),.tuple #[],results_none rfl _ _ _,rfl,HB.out,⟨_,_,by rw[HEND.out];exact HM2.out⟩,_,_,by rw[HEND.out];exact HO.out,by rw[HEND.out];exact HW.out⟩
   have tn:((n:Int)==1024)=false:=by rw[beq_eq_false_iff_ne];omega
   have HINV:=h_ (HINV.out HDN.out);have hpc:=HINV.out.pc0;obtain⟨pn,hpn⟩:∃q:Nat,pc=(q:Int):=⟨pc.toNat,by omega⟩;subst hpn
   have hpl:pn<c.l.length:=by omega
   have hw1:IntKind.i64.wrap ((n:Int)+1)=(n:Int)+1:=by rw[IntKind.wrap_i64]<;>omega
   go_wp2_with fail;have hSlt:∀j,S' j→j<wr.heap.size:=fun j hj=>(HM.out.rng j hj).2;refine(visT_any W0.heap.size ob lb ta tc tr lim (pn:Int) _ HO.out HL.out HW.out hob hne (fun e=>(HSN.out.2.2 lb e).2 rfl) (by have:=HNN.out;omega)).mono ?_;obtain⟨sb,hsb⟩:=ex_ (limB lim tr);rintro e w1 ⟨ta1,tc1,rfl,h1,h2,h3,h4⟩;rw[hsb];have HSB:=h_ hsb;have HM:=h_ (HM.out.frs h4 (rowB_no HSN.out.1 (fun g hg=>(HSN.out.2.2 g hg).1)));have HB1:=h_ (FrS.below HB.out h4 (by have:=HB.out.size;exact this) (fun j hj=>by rcases hj with rfl|q;exact hob;exact(HW.out.lt j q).1));have HSN1:=h_ (show ¬S' ob∧¬S' lb∧∀g,(Value.slice ta1 (visL lim tr (pn:Int)).length tc1).ownBlock=some g→¬S' g∧g≠lb from⟨HSN.out.1,HSN.out.2.1,fun g hg=>⟨vis_not h4 hSlt HSN.out.1 (fun g hg=>(HSN.out.2.2 g hg).1) g hg,by rcases h4.new g (.inr hg) with (rfl|q)|q;exact Ne.symm hne;exact(HSN.out.2.2 g q).2;have:=HL.out.lt;omega⟩⟩);skip;have HO1:=h_ h1;have HL1:=h_ h2;have HW1:=h_ h3;clear h1 h2 h3 h4 hSlt c9 HO HL HW HSN HB hsb;have HO:=HO1;have HL:=HL1;have HW:=HW1;have HSN:=HSN1;have HB:=HB1;clear HO1 HL1 HW1 HSN1 HB1;skip
   cases sb with
   | true =>
    have HEND:=h_ (show FI=(m',tr) from HFI.out.symm.trans (run_stop HFU.out HDN.out hn HSB.out));have HVL:=h_ (show visL lim tr (pn:Int)=tr from if_pos HSB.out);have HO:=h_ (show Bx ob #[.slice ta1 tr.length tc1] 22 w1 from by have h:=HO.out;rw[HVL.out]at h;exact h);have HW:=h_ (show w1.ownsRow W0.heap.size 3 1 (.slice ta1 tr.length tc1) tr.length (intsL tr) from by have h:=HW.out;rw[HVL.out]at h;exact h);clear hn;go_wp2;exact⟨(by first|exact True.intro|rfl),.tuple #[],results_none rfl _ _ _,rfl,HB.out,⟨_,_,by rw[HEND.out];exact HM.out⟩,_,_,by rw[HEND.out];exact HO.out,by rw[HEND.out];exact HW.out⟩
   | false =>
    have HVL:=h_ (show visL lim tr (pn:Int)=tr++[(pn:Int)] from if_neg (by rw[HSB.out];simp));rw[HVL.out]at HO HW HSN;obtain⟨g,hfu,hrs⟩:=run_step (M:=M) (F:=F) (l:=c.l) (stop:=(limB lim)) (pc:=(pn:Int)) (tr:=tr) HFU.out HDN.out hn HSB.out;rw[HFI.out]at hrs;obtain⟨x,hx⟩:=ex_ (c.l.getD (pn:Int).toNat ins0);rw[hx]at hrs;have HXE:=h_ hx;have HRS:=h_ hrs.symm;have HFG:=h_ hfu;clear hrs hfu;have hmn:=mu_step M F x m' n HDN.out HINV.out.gd.stp (by omega);have HMN:=h_ hmn;clear hmn;have hIw:=HI.out.below HB.out
    have c2:w1.cell? ⟨mb,2,none⟩=some (.slice ia c.l.length ic):=by rw[←HH2.out];exact HM.out.hd 2 (by decide)
    obtain⟨ba,oa,hia,p0,p1,p2,p3,p4⟩:=ins_cells hIw hpl
    have hxe:c.l.getD (pn:Int).toNat ins0=c.l[pn]:=by rw[Int.toNat_natCast];exact getD_at hpl ins0
    rw[←hxe,hx]at p0;obtain⟨xo,hxo⟩:=ex_ (x.op);rw[hxo]at p0;have HXO:=h_ hxo;clear hxo p1 p2 p3 p4 hIw hxe hx;subst hia;have hkb:(0:Int)≤(pn:Int)∧(pn:Int)<(c.l.length:Int):=⟨by omega,by omega⟩;have hstp:=(step_any W0 mb S' H m' R' M F c (pn:Int) N _ ic HG.out HH2.out HI.out hv HINV.out (by have:=HNN.out;omega) HLD.out w1 HM.out HB.out);rw[HXE.out]at hstp;have HSTP:=h_ hstp;clear hstp;by_cases hx14:xo=14
    ·have tx:(xo==14)=true:=by rw[hx14];rfl
     have HCN2:=h_ (show cntI x n=0 from by unfold cntI;rw[HXO.out];exact if_pos hx14);clear hx14;go_wp2_with fail;refine HSTP.out.mono ?_;rintro e w2 ⟨rfl,S2,R2,h1,h2⟩;have HB2:=h_ (HM.out.below HB.out h2);have haw:=h2.away (V:=fun j=>j=ob∨j=lb∨(Value.slice ta1 (tr++[(pn:Int)]).length tc1).ownBlock=some j) (fun j hj=>by rcases hj with rfl|rfl|q;exact HO.out.lt;exact HL.out.lt;exact(HW.out.lt j q).2) (fun j hj hq=>by rcases hq with rfl|rfl|q;exact HSN.out.1 hj;exact HSN.out.2.1 hj;exact(HSN.out.2.2 j q).1 hj);have HO2:=h_ (HO.out.frs h2 HSN.out.1);have HL2:=h_ (HL.out.frs h2 HSN.out.2.1);have HW2:=h_ (own_frs HW.out h2 (fun g hg=>(HSN.out.2.2 g hg).1));have HSN2:=h_ (show ¬S2 ob∧¬S2 lb∧∀g,(Value.slice ta1 (tr++[(pn:Int)]).length tc1).ownBlock=some g→¬S2 g∧g≠lb from⟨fun e=>haw ob e (.inl rfl),fun e=>haw lb e (.inr (.inl rfl)),fun g hg=>⟨fun e=>haw g e (.inr (.inr hg)),(HSN.out.2.2 g hg).2⟩⟩);clear haw;have HM2:=h_ h1;clear h1 h2;have HRS2:=h_ HRS.out;have HMN2:=h_ HMN.out;rw[HCN2.out]at HRS2 HMN2;go_wp2;go_roundg (muM (stepM M F x m') 0)
     case measure=>have:=HMN2.out;omega
     case rel=>exact⟨_,S2,R2,_,0,_,N+1,ta1,tc1,_,by first|exact True.intro|rfl,by first|exact True.intro|rfl|go_num,by first|exact True.intro|rfl,HM2,HB2,h_ (fun hd=>by have h:=HINV.out.step (F:=F) hv HCN.out HMF.out (by rw[HXE.out];exact hd);rw[HXE.out]at h;exact h),HRS2,h_ (by have h1:=HFU.out;have h2:=HFG.out;have h3:=HMN2.out;omega),h_ ⟨by have h1:=HNN.out;have h2:=HMN2.out;omega,by have h1:=HNN.out;rw[List.length_append,List.length_singleton];omega,by have:=HNN.out;omega⟩,HO2,HL2,HW2,HSN2⟩
    have tx:(xo==14)=false:=by rw[beq_eq_false_iff_ne];exact hx14
    have HCN2:=h_ (show cntI x n=(n+1) from by unfold cntI;rw[HXO.out];exact if_neg hx14);clear hx14;go_wp2_with fail;refine HSTP.out.mono ?_;rintro e w2 ⟨rfl,S2,R2,h1,h2⟩;have HB2:=h_ (HM.out.below HB.out h2);have haw:=h2.away (V:=fun j=>j=ob∨j=lb∨(Value.slice ta1 (tr++[(pn:Int)]).length tc1).ownBlock=some j) (fun j hj=>by rcases hj with rfl|rfl|q;exact HO.out.lt;exact HL.out.lt;exact(HW.out.lt j q).2) (fun j hj hq=>by rcases hq with rfl|rfl|q;exact HSN.out.1 hj;exact HSN.out.2.1 hj;exact(HSN.out.2.2 j q).1 hj);have HO2:=h_ (HO.out.frs h2 HSN.out.1);have HL2:=h_ (HL.out.frs h2 HSN.out.2.1);have HW2:=h_ (own_frs HW.out h2 (fun g hg=>(HSN.out.2.2 g hg).1));have HSN2:=h_ (show ¬S2 ob∧¬S2 lb∧∀g,(Value.slice ta1 (tr++[(pn:Int)]).length tc1).ownBlock=some g→¬S2 g∧g≠lb from⟨fun e=>haw ob e (.inl rfl),fun e=>haw lb e (.inr (.inl rfl)),fun g hg=>⟨fun e=>haw g e (.inr (.inr hg)),(HSN.out.2.2 g hg).2⟩⟩);clear haw;have HM2:=h_ h1;clear h1 h2;have HRS2:=h_ HRS.out;have HMN2:=h_ HMN.out;rw[HCN2.out]at HRS2 HMN2;go_wp2;go_roundg (muM (stepM M F x m') (n+1))
    case measure=>have:=HMN2.out;omega
    case rel=>exact⟨_,S2,R2,_,(n+1),_,N+1,ta1,tc1,_,by first|exact True.intro|rfl,by first|exact True.intro|rfl|go_num,by first|exact True.intro|rfl,HM2,HB2,h_ (fun hd=>by have h:=HINV.out.step (F:=F) hv HCN.out HMF.out (by rw[HXE.out];exact hd);rw[HXE.out]at h;exact h),HRS2,h_ (by have h1:=HFU.out;have h2:=HFG.out;have h3:=HMN2.out;omega),h_ ⟨by have h1:=HNN.out;have h2:=HMN2.out;omega,by have h1:=HNN.out;rw[List.length_append,List.length_singleton];omega,by have:=HNN.out;omega⟩,HO2,HL2,HW2,HSN2⟩
def RrunP (W0:World) (mb:Nat) (H:Nat→Value) (fin:Mc × List Int) (e:Ending) (w':World):Prop:=e=.returned (.tuple #[])∧Below W0.heap.size W0 w'∧(∃S' R',VMB W0.heap.size mb S' H fin.1 R' w')
theorem Rrun_any(W0:World)(mb:Nat)(S:Nat→Prop)(H:Nat→Value)(m:Mc)(R:Rw)(M:List Pr)(F:Ft)(c:Cd)(ia:Option Addr)(ic:Nat)(hG:GivH H W0 M F)(hH2:H 2=.slice ia c.l.length ic)(hI:CellsAt W0 (.slice ia c.l.length ic) c.l.length (insLs c.l))(hv:valC c=0)(hcn:∀x∈c.l,fits x.n=true)(hMf:∀p∈M,fits p.v.n=true)(hLd:Laid W0)(hinv:InvM c 0 m 0)(w:World)(h:VMB W0.heap.size mb S H m R w)(hb0:Below W0.heap.size W0 w):
  Calls prog 22 #[.pointer (some ⟨mb,0,none⟩),.func (.func 23) #[] #[]] w (RrunP W0 mb H (runM M F c.l (fun _=>false) (muM m 0+1) m 0 0 [])):=by
 obtain⟨FI,hFI⟩:=ex_ ((runM M F c.l (fun _=>false) (muM m 0+1) m 0 0 []));rw[hFI];have HFI:=h_ hFI;have HG:=h_ hG;have HI:=h_ hI;have HH2:=h_ hH2;have HCN:=h_ hcn;have HMF:=h_ hMf;have HLD:=h_ hLd;have HINV:=h_ hinv;have HM:=h_ h;have HB:=h_ hb0;clear hFI hG hI hH2 hcn hMf hLd hinv h hb0
 have hmu:muM m 0≤17000000:=by unfold muM;split<;>omega
 go_enter func22,ntmps22;go_wp2;go_step3;go_wp2;go_step3;go_wp2;go_loopg [4,5] (muM m 0) (fun k i j wr=>∃(m':Mc) (S':Nat→Prop) (R':Rw) (pc:Int) (n fu N:Nat) (tr:List Int),i=.int .i64 pc∧j=.int .i64 (n:Int)∧k=muM m' n∧Hid (VMB W0.heap.size mb S' H m' R' wr)∧Hid (Below W0.heap.size W0 wr)∧Hid (m'.done=false→InvM c pc m' N)∧Hid (runM M F c.l (fun _=>false) fu m' pc n tr=FI)∧Hid (muM m' n<fu)∧Hid (N+muM m' n≤20000000∧tr.length≤N∧n≤1024))
 case atStart=>exact⟨m,S,R,0,0,_,0,[],by first|exact True.intro|rfl,by first|exact True.intro|rfl,by first|exact True.intro|rfl,HM,HB,h_ (fun _=>HINV.out),HFI,h_ (Nat.lt_succ_self _),h_ ⟨by omega,by simp,by omega⟩⟩
 case round =>
  clear HM HB HFI HINV;obtain⟨m',S',R',pc,n,fu,N,tr,rfl,rfl,rfl,HM,HB,HINV,HFI,HFU,HNN⟩:=hrel;obtain⟨dn,hdn⟩:=ex_ (m'.done);have HDN:=h_ hdn
  have c9:wr.cell? ⟨mb,401,none⟩=some (.bool dn):=by rw[←hdn];exact HM.out.tl 9 (by decide)
  clear hdn
  cases dn with
  | true =>
   have HEND:=h_ (show FI=(m',tr) from HFI.out.symm.trans (run_done HFU.out HDN.out));go_wp2;exact⟨(by first|exact True.intro|rfl),.tuple #[],results_none rfl _ _ _,rfl,HB.out,⟨_,_,by rw[HEND.out];exact HM.out⟩⟩
  | false =>
   have hnn:=HNN.out.2.2;by_cases hn:n=1024
   ·have tn:((n:Int)==1024)=true:=by rw[hn];rfl
    have HEND:=h_ (show FI=(endM 2 1008 [] m',tr) from HFI.out.symm.trans (run_fuel HFU.out HDN.out hn));clear hn;go_wp2_with fail;refine(vabort_any _ mb S' H m' R' 1008 _ HM.out).mono ?_;rintro e w2 ⟨rfl,S2,R2,h1,h2⟩;have HB:=h_ (HM.out.below HB.out h2);have HM2:=h_ h1;clear h1 h2 c9;go_wp2;exact⟨(by first|exact True.intro|rfl),.tuple #[],results_none rfl _ _ _,rfl,HB.out,⟨_,_,by rw[HEND.out];exact HM2.out⟩⟩
   have tn:((n:Int)==1024)=false:=by rw[beq_eq_false_iff_ne];omega
   have HINV:=h_ (HINV.out HDN.out);have hpc:=HINV.out.pc0;obtain⟨pn,hpn⟩:∃q:Nat,pc=(q:Int):=⟨pc.toNat,by omega⟩;subst hpn
   have hpl:pn<c.l.length:=by omega
   have hw1:IntKind.i64.wrap ((n:Int)+1)=(n:Int)+1:=by rw[IntKind.wrap_i64]<;>omega
   go_wp2_with fail;refine(visR_any (pn:Int) _).mono ?_;rintro e w1 ⟨rfl,rfl⟩;clear c9;obtain⟨g,hfu,hrs⟩:=run_step (M:=M) (F:=F) (l:=c.l) (stop:=(fun _=>false)) (pc:=(pn:Int)) (tr:=tr) HFU.out HDN.out hn rfl;rw[HFI.out]at hrs;obtain⟨x,hx⟩:=ex_ (c.l.getD (pn:Int).toNat ins0);rw[hx]at hrs;have HXE:=h_ hx;have HRS:=h_ hrs.symm;have HFG:=h_ hfu;clear hrs hfu;have hmn:=mu_step M F x m' n HDN.out HINV.out.gd.stp (by omega);have HMN:=h_ hmn;clear hmn;have hIw:=HI.out.below HB.out
   have c2:w1.cell? ⟨mb,2,none⟩=some (.slice ia c.l.length ic):=by rw[←HH2.out];exact HM.out.hd 2 (by decide)
   obtain⟨ba,oa,hia,p0,p1,p2,p3,p4⟩:=ins_cells hIw hpl
   have hxe:c.l.getD (pn:Int).toNat ins0=c.l[pn]:=by rw[Int.toNat_natCast];exact getD_at hpl ins0
   rw[←hxe,hx]at p0;obtain⟨xo,hxo⟩:=ex_ (x.op);rw[hxo]at p0;have HXO:=h_ hxo;clear hxo p1 p2 p3 p4 hIw hxe hx;subst hia;have hkb:(0:Int)≤(pn:Int)∧(pn:Int)<(c.l.length:Int):=⟨by omega,by omega⟩;have hstp:=(step_any W0 mb S' H m' R' M F c (pn:Int) N _ ic HG.out HH2.out HI.out hv HINV.out (by have:=HNN.out;omega) HLD.out w1 HM.out HB.out);rw[HXE.out]at hstp;have HSTP:=h_ hstp;clear hstp;by_cases hx14:xo=14
   ·have tx:(xo==14)=true:=by rw[hx14];rfl
    have HCN2:=h_ (show cntI x n=0 from by unfold cntI;rw[HXO.out];exact if_pos hx14);clear hx14;go_wp2_with fail;refine HSTP.out.mono ?_;rintro e w2 ⟨rfl,S2,R2,h1,h2⟩;have HB2:=h_ (HM.out.below HB.out h2);have HM2:=h_ h1;clear h1 h2;have HRS2:=h_ HRS.out;have HMN2:=h_ HMN.out;rw[HCN2.out]at HRS2 HMN2;go_wp2;go_roundg (muM (stepM M F x m') 0)
    case measure=>have:=HMN2.out;omega
    case rel=>exact⟨_,S2,R2,_,0,_,N+1,_,by first|exact True.intro|rfl,by first|exact True.intro|rfl|go_num,by first|exact True.intro|rfl,HM2,HB2,h_ (fun hd=>by have h:=HINV.out.step (F:=F) hv HCN.out HMF.out (by rw[HXE.out];exact hd);rw[HXE.out]at h;exact h),HRS2,h_ (by have h1:=HFU.out;have h2:=HFG.out;have h3:=HMN2.out;omega),h_ ⟨by have h1:=HNN.out;have h2:=HMN2.out;omega,by have h1:=HNN.out;rw[List.length_append,List.length_singleton];omega,by have:=HNN.out;omega⟩⟩
   have tx:(xo==14)=false:=by rw[beq_eq_false_iff_ne];exact hx14
   have HCN2:=h_ (show cntI x n=(n+1) from by unfold cntI;rw[HXO.out];exact if_neg hx14);clear hx14;go_wp2_with fail;refine HSTP.out.mono ?_;rintro e w2 ⟨rfl,S2,R2,h1,h2⟩;have HB2:=h_ (HM.out.below HB.out h2);have HM2:=h_ h1;clear h1 h2;have HRS2:=h_ HRS.out;have HMN2:=h_ HMN.out;rw[HCN2.out]at HRS2 HMN2;go_wp2;go_roundg (muM (stepM M F x m') (n+1))
   case measure=>have:=HMN2.out;omega
   case rel=>exact⟨_,S2,R2,_,(n+1),_,N+1,_,by first|exact True.intro|rfl,by first|exact True.intro|rfl|go_num,by first|exact True.intro|rfl,HM2,HB2,h_ (fun hd=>by have h:=HINV.out.step (F:=F) hv HCN.out HMF.out (by rw[HXE.out];exact hd);rw[HXE.out]at h;exact h),HRS2,h_ (by have h1:=HFU.out;have h2:=HFG.out;have h3:=HMN2.out;omega),h_ ⟨by have h1:=HNN.out;have h2:=HMN2.out;omega,by have h1:=HNN.out;rw[List.length_append,List.length_singleton];omega,by have:=HNN.out;omega⟩⟩
def mc0 (A:List Vl):Mc:={ stk:=fun _=>v00,dep:=0,slo:=fun i=>A.getD i v00,own:=[],st:=0,code:=0,out:=[],rds:=[],puts:=[],wrs:=[],miss:=[],steps:=0,done:=false }
def rw0:Rw:=⟨.slice none 0 0,.slice none 0 0,.slice none 0 0,.slice none 0 0,.slice none 0 0⟩
def hd0 (pa:Option Addr) (np pc:Nat) (sl:Int) (ia:Option Addr) (nl ic:Nat) (sa:Option Addr) (nm sc:Nat) (al:Bool) (ra:Option Addr) (nr rc:Nat) (wa:Option Addr) (nw wc:Nat):Nat→Value
 | 0=>.slice pa np pc
 | 1=>.int .i64 sl
 | 2=>.slice ia nl ic
 | 3=>.slice sa nm sc
 | 4=>.bool al
 | 5=>.slice ra nr rc
 | _=>.slice wa nw wc
def staB (c:Cd) (A:List Vl) (M:List Pr) (F:Ft):Bool:=decide (valC c=0) && (accB c.p A && (stB M && ftB F))
theorem run_copy_vl(w:World)(ty:TypeId)(mb:Nat)(cur:Array Value)(T:TypeId)(hg:w.heap[mb]? = some (.cells cur T (0,0)))(A:List Vl)(aa:Option Addr)(ac:Nat)(hA:CellsAt w (.slice aa A.length ac) A.length (vlLs A))(hl:A.length≤64)(hc:cur.size=402):
  (Builtin.copy_ #[26,26] ty #[.slice (some ⟨mb,200,none⟩) 64 64,.slice aa A.length ac]).run prog w=.ok (goInt A.length) (w.setRow mb (cur.toList.take 200++vlLs A++cur.toList.drop (200+(vlLs A).length)).toArray):=by
 have hst:=run_storeCells_at prog mb 200 T (vlLs A) 0 cur w hg (by rw[vlLs_length,hc];omega) (by
  intro u hu;unfold vlLs at hu;rw[List.mem_flatMap]at hu;obtain⟨x,_,hx⟩:=hu;simp only[vlL,List.mem_cons,List.not_mem_nil,or_false]at hx
  rcases hx with rfl|rfl|rfl<;>rfl)
 have hf:(Builtin.firstCells 3 A.length (.slice aa A.length ac)).run prog w=.ok (vlLs A).toArray w:=by
  obtain⟨ad,cap,he,hx⟩:=hA;cases he
  cases aa with
  | none =>
   have h0:vlLs A=[]:=by
    rcases h:vlLs A with _|⟨y,r⟩
    ·rfl
    ·obtain⟨b,off,hb,_⟩:=hx (by rw[h];simp)
     cases hb
   rw[h0];exact run_firstCells_none w 3 A.length A.length ac
  | some ad =>
   refine run_firstCells_some w 3 A.length ad A.length ac (vlLs A) (vlLs_length A) (fun j v hj=>?_);obtain⟨b,off,hb,hcell⟩:=hx (by intro h;rw[h]at hj;simp at hj);cases hb
   have e:(⟨b,off,none⟩:Addr).add j=⟨b,off+j,none⟩:=by unfold Addr.add;split<;>simp_all
   rw[e];exact hcell j v hj
 have hmin:Nat.min A.length 64=A.length:=Nat.min_eq_left hl;have hu:=run_underlying (P:=prog) underlying26;simp only[Nat.add_zero]at hst;simp[Builtin.copy_,hu,Builtin.lenOf,hmin,hf,hst]
theorem start_len{c:Cd}{A:List Vl}{M:List Pr}{F:Ft}(h:staB c A M F=true):A.length≤64:=by
 unfold staB accB at h;simp only[Bool.and_eq_true,decide_eq_true_eq]at h;have h1:=valC_parts h.1;have h2:=h1.2.1;have h3:=h1.2.2.2.1;have h4:=h.2.1.1;omega
def hdz:Nat→Value:=hd0 none 0 0 0 none 0 0 none 0 0 false none 0 0 none 0 0
theorem zero_list:Tryz.zeroCells68.toList=(List.range 402).map (mcf hdz (mc0 []) rw0):=by kernel_rfl
theorem vlLs_at(A:List Vl){q r:Nat}(hq:q<A.length)(hr:r<3):(vlLs A)[q * 3+r]? = some (vlc (A.getD q v00) r):=by
 obtain⟨h0,h1,h2⟩:=vlLs_get A q hq;rw[getD_at hq]
 have:r=0∨r=1∨r=2:=by omega
 rcases this with rfl|rfl|rfl
 ·exact h0
 ·exact h1
 ·exact h2
theorem mcf_hi(H:Nat→Value)(m:Mc)(R:Rw){j:Nat}(h:200≤j):mcf H m R j=if j<392 then vlc (m.slo ((j-200) / 3)) ((j-200) % 3) else tailM m R (j-392):=by
 unfold mcf;rw[if_neg (by omega),if_neg (by omega),if_neg (by omega)]
theorem start_bf{mb:Nat}{W:World}{T:TypeId}{H:Nat→Value}{cs:Array Value}{A:List Vl}(hA:A.length≤64)(h7:∀j,j<7→cs.toList[j]? = some (H j))(hz:∀j,7≤j→cs.toList[j]? = Tryz.zeroCells68.toList[j]?)(hc:cs.size=402)
  (hb:W.heap[mb]? = some (.cells (cs.toList.take 200++vlLs A++cs.toList.drop (200+(vlLs A).length)).toArray T (0,0))):Bf mb (mcf H (mc0 A) rw0) 402 T W:=by
 have hvl:=vlLs_length A
 have hcl:cs.toList.length=402:=by rw[Array.length_toList];exact hc
 refine⟨_,hb,?_,fun j hj=>?_⟩
 ·simp only[List.size_toArray,List.length_append,List.length_take,List.length_drop,hcl];omega
 rw[List.getElem?_toArray]
 have hzj:7≤j→cs.toList[j]? = some (mcf hdz (mc0 []) rw0 j):=fun h=>by
  rw[hz j h,zero_list,List.getElem?_map,List.getElem?_range hj];rfl
 by_cases h1:j<200
 ·rw[List.append_assoc,List.getElem?_append_left (by rw[List.length_take];omega),List.getElem?_take,if_pos h1]
  by_cases h0:j<7
  ·rw[h7 j h0,mcf_hd H _ _ h0]
  ·rw[hzj (by omega)]
   unfold mcf;rw[if_neg h0,if_neg h0];by_cases h2:j<199
   ·rw[if_pos h2,if_pos h2];rfl
   ·rw[if_neg h2,if_neg h2,if_pos (by omega),if_pos (by omega)];rfl
 ·rw[List.append_assoc,List.getElem?_append_right (by rw[List.length_take];omega),List.length_take,Nat.min_eq_left (by omega)]
  by_cases h2:j-200<A.length * 3
  ·rw[List.getElem?_append_left (by omega)]
   have e:j-200=(j-200) / 3 * 3+(j-200) % 3:=by omega
   rw[e,vlLs_at A (by omega) (by omega)];unfold mcf;rw[if_neg (by omega),if_neg (by omega),if_neg (by omega),if_pos (by omega)];rfl
  ·rw[List.getElem?_append_right (by omega),List.getElem?_drop,show 200+(vlLs A).length+(j-200-(vlLs A).length)=j by omega,hzj (by omega),mcf_hi _ _ _ (by omega),mcf_hi H (mc0 A) rw0 (by omega)]
   by_cases h3:j<392
   ·rw[if_pos h3,if_pos h3]
    have:(mc0 A).slo ((j-200) / 3)=v00:=by
     show A.getD ((j-200) / 3) v00=v00;rw[List.getD_eq_getElem?_getD,List.getElem?_eq_none (by omega)];rfl
    rw[this];rfl
   ·rw[if_neg h3,if_neg h3,show tailM (mc0 A) rw0=tailM (mc0 []) rw0 from by funext k;unfold tailM;rfl]
theorem start_vm{B mb:Nat}{W:World}{H:Nat→Value}{A:List Vl}(h:Bf mb (mcf H (mc0 A) rw0) 402 68 W)(hB:B≤mb):VMB B mb (fun k=>k=mb) H (mc0 A) rw0 W:=
 ⟨rfl,fun j hj=>⟨by omega,by have:=h.lt;omega⟩,h,own_nils _ W B _ _,own_nils _ W B _ _,own_nils _ W B _ _,own_nils _ W B _ _,own_nils _ W B _ _,.inl rfl,.inl rfl⟩
theorem slice_slo(mb:Nat)(w:World):(Instr.sliceAt 66 (.pointer (some ⟨mb,200,none⟩)) none none none).run prog w=.ok (.slice (some ⟨mb,200,none⟩) 64 64) w:=by
 rw[run_sliceAt_array_all w 66 ⟨mb,200,none⟩ (by rw[arr_len,arr_el];exact underlying66),arr_el,arr_len,size_vl];simp only[Result.andThen_ok];unfold slicedAt;rfl
def StP (w:World) (H:Nat→Value) (A:List Vl) (ok:Bool) (e:Ending) (w':World):Prop:=
 Below w.heap.size w w'∧if ok=true then ∃mb S,e=.returned (.tuple #[.pointer (some ⟨mb,0,none⟩),.bool true])∧VMB w.heap.size mb S H (mc0 A) rw0 w' else e=.returned (.tuple #[.pointer none,.bool false])
theorem start_any(pa ia aa sa ra wa:Option Addr)(pc ic ac sc rc wac:Nat)(P:List Int)(sl:Int)(l:List Ins)(A:List Vl)(M:List Pr)(al:Bool)(rd wr:List (List UInt8))(w:World)(hP:CellsAt w (.slice pa P.length pc) P.length (intsL P))(hI:CellsAt w (.slice ia l.length ic) l.length (insLs l))(hA:CellsAt w (.slice aa A.length ac) A.length (vlLs A))(hM:CellsAt w (.slice sa M.length sc) M.length (prLs M))(hR:StrS w (.slice ra rd.length rc) rd)(hW:StrS w (.slice wa wr.length wac) wr)(hl:P.length≤9223372036854775806∧A.length≤9000000000000∧M.length≤9000000000000∧rd.length≤9000000000000∧wr.length≤9000000000000)(hsl:∀x∈l,x.s.length≤9223372036854775807)(hsA:∀v∈A,v.s.length≤9223372036854775807)(hsM:∀p∈M,p.key.length≤9223372036854775807∧p.v.s.length≤9223372036854775807)(hsR:∀q∈rd++wr,q.length≤9223372036854775807)(hLB:LaidB w):
  Calls prog 21 #[.agg #[.slice pa P.length pc,.int .i64 sl,.slice ia l.length ic],.slice aa A.length ac,.slice sa M.length sc,.agg #[.bool al,.slice ra rd.length rc,.slice wa wr.length wac]] w (StP w (hd0 pa P.length pc sl ia l.length ic sa M.length sc al ra rd.length rc wa wr.length wac) A (staB ⟨P,sl,l⟩ A M ⟨al,rd,wr⟩)):=by
 obtain⟨V,hV⟩:=ex_ (valC ⟨P,sl,l⟩);obtain⟨ab,hab⟩:=ex_ (accB P A);obtain⟨sb,hsb⟩:=ex_ (stB M);obtain⟨fb,hfb⟩:=ex_ (ftB ⟨al,rd,wr⟩);have HST:=h_ (show staB ⟨P,sl,l⟩ A M ⟨al,rd,wr⟩=(decide (V=0) && (ab && (sb && fb))) from by unfold staB;rw[hV,hsb,hfb];show (_ && (accB P A && _))=_;rw[hab]);have HV:=h_ hV;have HAB:=h_ hab;have HSB:=h_ hsb;have HFB:=h_ hfb;have HP:=h_ hP;have HI:=h_ hI;have HA:=h_ hA;have HM:=h_ hM;have HR:=h_ hR;have HW:=h_ hW;have HSL:=h_ hsl;have HSA:=h_ hsA;have HSM:=h_ hsM;have HSR:=h_ hsR;have HLB:=h_ hLB;clear hV hab hsb hfb hP hI hA hM hR hW hsl hsA hsM hsR hLB;obtain⟨v0,hW0,hb0,hx0,hy0⟩:=boxes2 w #[.slice pa P.length pc,.int .i64 sl,.slice ia l.length ic] 25 #[.bool al,.slice ra rd.length rc,.slice wa wr.length wac] 29;have HW0:=h_ hW0;have HB:=h_ hb0;have HC:=h_ hx0;have HF:=h_ hy0;clear hW0 hb0 hx0 hy0;go_enter func21,ntmps21;go_upto_region 1 with (fail);rw[HW0.out];clear HW0;obtain⟨c0,c1,c2⟩:=HC.out.c3;obtain⟨g0,g1,g2⟩:=HF.out.c3;go_wp2_with fail;refine(Validate_any pa ia pc ic P sl l _ (HP.out.below HB.out) (HI.out.below HB.out) hl.1 HSL.out (HLB.out.below HB.out)).mono ?_;rw[HV.out];rintro er w1 ⟨rfl,hb1⟩;clear c0 c1 c2 g0 g1 g2;have HC:=HC.out.k hb1;have HF:=HF.out.k hb1;have HB:=bt HB hb1;clear hb1;obtain⟨c0,c1,c2⟩:=HC.out.c3;obtain⟨g0,g1,g2⟩:=HF.out.c3;by_cases hv0:V=0;rotate_left
 ·have tv:(V != 0)=true:=by rw[bne_iff_ne];exact hv0
  have HNO:=h_ (show staB ⟨P,sl,l⟩ A M ⟨al,rd,wr⟩=false from by rw[HST.out,decide_eq_false hv0];rfl);clear hv0;go_wp2;go_ret2;exact⟨HB.out,by rw[HNO.out];rfl⟩
 have tv:(V != 0)=false:=by rw[hv0];rfl
 have hd0:decide (V=0)=true:=decide_eq_true hv0;have HST:=h_ (show staB ⟨P,sl,l⟩ A M ⟨al,rd,wr⟩=(ab && (sb && fb)) from by rw[HST.out,hd0];rfl);clear hd0 hv0;go_wp2_with fail;refine(accepts_any pa ia aa pc ic ac l.length P sl A _ (HP.out.below HB.out) (HA.out.below HB.out) hl.2.1 HSA.out).mono ?_;rw[HAB.out];rintro er w2 ⟨rfl,hb2⟩;clear c0 c1 c2 g0 g1 g2;have HC:=HC.out.k hb2;have HF:=HF.out.k hb2;have HB:=bt HB hb2;clear hb2;obtain⟨c0,c1,c2⟩:=HC.out.c3;obtain⟨g0,g1,g2⟩:=HF.out.c3
 cases ab with
 | false =>
  have HNO:=h_ (show staB ⟨P,sl,l⟩ A M ⟨al,rd,wr⟩=false from by rw[HST.out];first|rfl|simp);go_wp2;go_ret2;exact⟨HB.out,by rw[HNO.out];rfl⟩
 | true =>
  go_wp2_with fail;refine(SValid_any sa sc M _ hl.2.2.1 HSM.out (HM.out.below HB.out)).mono ?_;rw[HSB.out];rintro er w3 ⟨rfl,hb3⟩;clear c0 c1 c2 g0 g1 g2;have HC:=HC.out.k hb3;have HF:=HF.out.k hb3;have HB:=bt HB hb3;clear hb3;obtain⟨c0,c1,c2⟩:=HC.out.c3;obtain⟨g0,g1,g2⟩:=HF.out.c3
  cases sb with
  | false =>
   have HNO:=h_ (show staB ⟨P,sl,l⟩ A M ⟨al,rd,wr⟩=false from by rw[HST.out];first|rfl|simp);go_wp2;go_ret2;exact⟨HB.out,by rw[HNO.out];rfl⟩
  | true =>
   go_wp2_with fail;refine(allowed_any al ra wa rc wac rd wr _ (HR.out.below HB.out) (HW.out.below HB.out) ⟨hl.2.2.2.1,hl.2.2.2.2⟩ HSR.out).mono ?_;rw[HFB.out];rintro er w4 ⟨rfl,hb4⟩;clear c0 c1 c2 g0 g1 g2;have HC:=HC.out.k hb4;have HF:=HF.out.k hb4;have HB:=bt HB hb4;clear hb4;obtain⟨c0,c1,c2⟩:=HC.out.c3;obtain⟨g0,g1,g2⟩:=HF.out.c3
   cases fb with
   | false =>
    have HNO:=h_ (show staB ⟨P,sl,l⟩ A M ⟨al,rd,wr⟩=false from by rw[HST.out];first|rfl|simp);go_wp2;go_ret2;exact⟨HB.out,by rw[HNO.out];rfl⟩
   | true =>
    have HOK:=h_ (show staB ⟨P,sl,l⟩ A M ⟨al,rd,wr⟩=true from by rw[HST.out];rfl);have hvl:=start_len HOK.out;have HVL:=h_ hvl;clear hvl;go_upto_region 4 with (fail);obtain⟨cs,hcs⟩:∃cs,cs=(((((((Tryz.zeroCells68.setIfInBounds 0 (.slice pa P.length pc)).setIfInBounds 1 (.int .i64 sl)).setIfInBounds 2 (.slice ia l.length ic)).setIfInBounds 3 (.slice sa M.length sc)).setIfInBounds 4 (.bool al)).setIfInBounds 5 (.slice ra rd.length rc)).setIfInBounds 6 (.slice wa wr.length wac)):=⟨_,rfl⟩
    have hzs:Tryz.zeroCells68.toList.length=402:=by rw[zero_list];simp
    have hcz:cs.size=402:=by rw[hcs];simp only[Array.size_setIfInBounds];rw[←Array.length_toList];exact hzs
    have hc7:∀j,j<7→cs.toList[j]? = some ((hd0 pa P.length pc sl ia l.length ic sa M.length sc al ra rd.length rc wa wr.length wac) j):=by
     intro j hj;rw[hcs];simp only[Array.toList_setIfInBounds,List.getElem?_set,List.length_set,hzs]
     have:j=0∨j=1∨j=2∨j=3∨j=4∨j=5∨j=6:=by omega
     rcases this with rfl|rfl|rfl|rfl|rfl|rfl|rfl<;>rfl
    have hcr:∀j,7≤j→cs.toList[j]? = Tryz.zeroCells68.toList[j]?:=by
     intro j hj;rw[hcs];simp only[Array.toList_setIfInBounds,List.getElem?_set];rw[if_neg (by omega),if_neg (by omega),if_neg (by omega),if_neg (by omega),if_neg (by omega),if_neg (by omega),if_neg (by omega)]
    rw[←hcs];clear hzs;have hal:=HB.out.alloc HB.out.size (.cells cs 68);have hg5:(w4.alloc (.cells cs 68)).heap[w4.heap.size]? = some (.cells cs 68 (0,0)):=heap_alloc_new w4 _;have hsz:=HB.out.size;have HC7:=h_ hc7;have HCR:=h_ hcr;have HCZ:=h_ hcz;have HB5:=h_ hal;have HG5:=h_ hg5;clear hc7 hcr hcz hal hg5 hcs;generalize hW:w4.alloc (.cells cs 68)=v5 at HB5 HG5 ⊢;clear hW;obtain⟨mb,hmb⟩:=ex_ (w4.heap.size);rw[hmb]at HG5 hsz
    (try rw[hmb])
    clear hmb;have hss:=fun w=>slice_slo mb w;obtain⟨nw,hnw⟩:∃x,x=(cs.toList.take 200++vlLs A++cs.toList.drop (200+(vlLs A).length)).toArray:=⟨_,rfl⟩;have hrun:=run_copy_vl v5 3 mb cs 68 HG5.out A aa ac (HA.out.below HB5.out) HVL.out HCZ.out;rw[←hnw]at hrun;have HNW:=h_ hnw;clear hnw;go_upto_region 5 with (fail);have hg6:=setRow_heap v5 mb _ nw _ _ HG5.out;rw[HNW.out]at hg6;have HBF:=h_ (start_vm (B:=w.heap.size) (start_bf HVL.out HC7.out HCR.out HCZ.out hg6) hsz);have HB6:=h_ (below_setRow HB5.out hsz nw);rw[←HNW.out]at HBF;clear hrun hg6 hss;generalize hW:v5.setRow mb nw=v6 at HBF HB6 ⊢;clear hW;go_wp2;go_ret2;exact⟨HB6.out,by rw[if_pos HOK.out];exact⟨mb,_,rfl,HBF.out⟩⟩
structure VArgs (w:World) (pa ia aa sa ra wa:Option Addr) (pc ic ac sc rc wac:Nat) (c:Cd) (A:List Vl) (M:List Pr) (F:Ft):Prop where
 P:CellsAt w (.slice pa c.p.length pc) c.p.length (intsL c.p)
 I:CellsAt w (.slice ia c.l.length ic) c.l.length (insLs c.l)
 A:CellsAt w (.slice aa A.length ac) A.length (vlLs A)
 M:CellsAt w (.slice sa M.length sc) M.length (prLs M)
 R:StrS w (.slice ra F.rd.length rc) F.rd
 W:StrS w (.slice wa F.wr.length wac) F.wr
theorem VArgs.below{w w':World}{pa ia aa sa ra wa:Option Addr}{pc ic ac sc rc wac:Nat}{c:Cd}{A:List Vl}{M:List Pr}{F:Ft}(h:VArgs w pa ia aa sa ra wa pc ic ac sc rc wac c A M F)(hb:Below w.heap.size w w'):VArgs w' pa ia aa sa ra wa pc ic ac sc rc wac c A M F:=⟨h.P.below hb,h.I.below hb,h.A.below hb,h.M.below hb,h.R.below hb,h.W.below hb⟩
structure VLim (c:Cd) (A:List Vl) (M:List Pr) (F:Ft):Prop where
 len:c.p.length≤9223372036854775806∧A.length≤9000000000000∧M.length≤9000000000000∧F.rd.length≤9000000000000∧F.wr.length≤9000000000000
 sl:∀x∈c.l,x.s.length≤9223372036854775807
 sA:∀v∈A,v.s.length≤9223372036854775807
 sM:∀p∈M,p.key.length≤9223372036854775807∧p.v.s.length≤9223372036854775807
 sR:∀q∈F.rd++F.wr,q.length≤9223372036854775807
 nc:∀x∈c.l,fits x.n=true
 nA:∀v∈A,fits v.n=true
 nM:∀p∈M,fits p.v.n=true
theorem start_inv{c:Cd}{A:List Vl}{M:List Pr}{F:Ft}(h:staB c A M F=true)(hA:∀v∈A,fits v.n=true):valC c=0∧InvM c 0 (mc0 A) 0:=by
 unfold staB accB at h;simp only[Bool.and_eq_true,decide_eq_true_eq]at h;have h1:=valC_parts h.1;refine⟨h.1,⟨⟨Int.le_refl _,by have:=h1.2.2.2.2.2.1;omega⟩,?_,?_⟩⟩
 ·show (0:Int)=(depth0 c).getD 0 0
  rw[depR_zero]
 ·refine⟨fun i hi=>absurd hi (Nat.not_lt_zero _),fun i=>?_,fun p hp=>(by cases hp),List.Pairwise.nil,List.Pairwise.nil,Nat.zero_le _,rfl,⟨Int.le_refl _,(by show (0:Int)≤16384;omega)⟩,Nat.zero_le _,Nat.zero_le _,Nat.zero_le _⟩
  show GdV (A.getD i v00);by_cases hi:i<A.length
  ·have h2:=List.all_eq_true.1 h.2.1.2 i (List.mem_range.2 hi)
   unfold accP at h2;simp only[Bool.and_eq_true,decide_eq_true_eq]at h2;rw[getD_at hi]at h2 ⊢;exact gd_key (hA _ (List.getElem_mem hi)) h2.2
  ·rw[List.getD_eq_getElem?_getD,List.getElem?_eq_none (by omega)];exact gd_v00
def runA (c:Cd) (A:List Vl) (M:List Pr) (F:Ft) (stop:List Int→Bool):Mc × List Int:=runM M F c.l stop (muM (mc0 A) 0+1) (mc0 A) 0 0 []
def traceS (c:Cd) (A:List Vl) (M:List Pr) (F:Ft) (lim:Int):List Int:=if staB c A M F=true then (runA c A M F (limB lim)).2 else []
theorem boxes3(w:World)(A B C:Array Value)(S T U:TypeId):∃v0,((w.alloc (.cells A S)).alloc (.cells B T)).alloc (.cells C U)=v0∧Below w.heap.size w v0∧Bx w.heap.size A S v0∧Bx (w.heap.size+1) B T v0∧Bx (w.heap.size+2) C U v0:=
 ⟨_,rfl,(((Below.refl w.heap.size w).alloc (Nat.le_refl _) _).alloc (by simp) _).alloc (by simp;omega) _,((Bx.new w A S).alloc _).alloc _,(Bx.new1 w (.cells A S) B T).alloc _,Bx.new2 w (.cells A S) (.cells B T) C U⟩
theorem Trace_any(pa ia aa sa ra wa:Option Addr)(pc ic ac sc rc wac:Nat)(c:Cd)(A:List Vl)(M:List Pr)(F:Ft)(lim:Int)(w:World)(hA:VArgs w pa ia aa sa ra wa pc ic ac sc rc wac c A M F)(hl:VLim c A M F)(hLB:LaidB w):
  Calls prog 12 #[.agg #[.slice pa c.p.length pc,.int .i64 c.sl,.slice ia c.l.length ic],.slice aa A.length ac,.slice sa M.length sc,.agg #[.bool F.all,.slice ra F.rd.length rc,.slice wa F.wr.length wac],.int .i64 lim] w fun e w'=>∃rv,e=.returned rv∧w'.ownsRow w.heap.size 3 1 rv (traceS c A M F lim).length (intsL (traceS c A M F lim))∧Below w.heap.size w w':=by
 obtain⟨tr,htr⟩:=ex_ (traceS c A M F lim);rw[htr];have HTR:=h_ htr;have HA:=h_ hA;have HL:=h_ hl;have HLB:=h_ hLB;clear htr hA hl hLB;obtain⟨ok,hok⟩:=ex_ (staB c A M F);have HOK:=h_ hok;clear hok;obtain⟨v0,hW0,hb0,hx0,hy0,hz0⟩:=boxes3 w #[.slice pa c.p.length pc,.int .i64 c.sl,.slice ia c.l.length ic] #[.bool F.all,.slice ra F.rd.length rc,.slice wa F.wr.length wac] #[.int .i64 lim] 25 29 3;have HW0:=h_ hW0;have HB:=h_ hb0;have HC:=h_ hx0;have HF:=h_ hy0;have HI:=h_ hz0;clear hW0 hb0 hx0 hy0 hz0;go_enter func12,ntmps12;go_upto_region 1 with (fail);rw[HW0.out];clear HW0;have HA:=h_ (HA.out.below HB.out);have HLB:=h_ (HLB.out.below HB.out);obtain⟨c0,c1,c2⟩:=HC.out.c3;obtain⟨g0,g1,g2⟩:=HF.out.c3;go_wp2_with fail;have hsv:=HI.out.lt;refine(start_any pa ia aa sa ra wa pc ic ac sc rc wac c.p c.sl c.l A M F.all F.rd F.wr v0 HA.out.P HA.out.I HA.out.A HA.out.M HA.out.R HA.out.W HL.out.len HL.out.sl HL.out.sA HL.out.sM HL.out.sR HLB.out).mono ?_;have he:(⟨c.p,c.sl,c.l⟩:Cd)=c:=rfl;have he2:(⟨F.all,F.rd,F.wr⟩:Ft)=F:=rfl;rw[he,he2,HOK.out];clear he he2;rintro er w1 ⟨hb1,hst⟩;clear c0 c1 c2 g0 g1 g2;have HB1:=h_ hb1;clear hb1
 cases ok with
 | false =>
  rw[if_neg (by simp)]at hst;subst hst;have HNO:=h_ (show tr=[] from HTR.out.symm.trans (if_neg (by rw[HOK.out];simp)));go_wp2;go_ret;exact⟨.slice none 0 0,rfl,by rw[HNO.out];exact own_nil _ _ _ _,btrans HB.out HB.out.size HB1.out⟩
 | true =>
  rw[if_pos rfl]at hst;obtain⟨mb,S,hst,hvm⟩:=hst;subst hst;have HM:=h_ hvm;clear hvm;obtain⟨hvc,hinv⟩:=start_inv HOK.out HL.out.nA;have HINV:=h_ hinv;clear hinv;have hG:GivH (hd0 pa c.p.length pc c.sl ia c.l.length ic sa M.length sc F.all ra F.rd.length rc wa F.wr.length wac) v0 M F:=⟨⟨sa,sc,rfl,HA.out.M⟩,rfl,⟨ra,rc,rfl,HA.out.R⟩,⟨wa,wac,rfl,HA.out.W⟩,HL.out.len.2.2,⟨HL.out.sM,HL.out.sR⟩⟩;have HG:=h_ hG;clear hG;have hal:=(Below.refl w1.heap.size w1).alloc (Nat.le_refl _) (.cells #[.slice none 0 0] 22);have HO:=h_ (Bx.new w1 #[.slice none 0 0] 22);have HSN:=h_ HM.out.rng;have HM:=HM.out.k hal;have HI:=h_ ((HI.out.call HB1.out).call hal);have hsz1:=HB1.out.size;have HB1:=h_ (btrans HB1.out HB1.out.size hal);go_upto_region 5 with (fail);generalize hW:w1.alloc (.cells #[.slice none 0 0] 22)=v2 at HO HM HI HB1 ⊢;clear hW hal;obtain⟨ob,hob⟩:=ex_ (w1.heap.size);rw[hob]at HO HSN hsz1
  (try rw[hob])
  clear hob;have hmf:∀(fn:Fn) (first cap:Array Value) (w:World),(Instr.makeFunc fn first cap).run prog w=.ok (.func fn first cap) w:=fun _ _ _ _=>rfl;go_wp2_with fail;refine(Trun_any v0 mb S (hd0 pa c.p.length pc c.sl ia c.l.length ic sa M.length sc F.all ra F.rd.length rc wa F.wr.length wac) (mc0 A) rw0 M F c ia ic ob (w.heap.size+2) lim HG.out rfl HA.out.I hvc HL.out.nc HL.out.nM HLB.out.1 HINV.out v2 HM.out HB1.out HO.out HI.out hsz1 (by omega) (fun e=>by have:=(HSN.out ob e).2;omega) (fun e=>by have:=(HSN.out _ e).1;omega)).mono ?_;rintro er w3 ⟨rfl,hb3,-,ta,tc,hx3,ho3⟩;have HTT:=h_ (show tr=(runA c A M F (limB lim)).2 from HTR.out.symm.trans (if_pos HOK.out));have HX3:=h_ hx3;have HO3:=h_ ho3;have HB3:=h_ hb3;clear hx3 ho3 hb3 hmf;rw[show (runM M F c.l (limB lim) (muM (mc0 A) 0+1) (mc0 A) 0 0 []).2=tr from HTT.out.symm]at HX3 HO3;have o0:=HX3.out.cell 0;simp only[List.getElem?_toArray,List.getElem?_cons_zero]at o0;go_wp2;go_ret;exact⟨.slice ta tr.length tc,rfl,own_mono HO3.out HB.out.size,btrans HB.out HB.out.size HB3.out⟩
def efM (m:Mc):Ef:=⟨m.st,m.code,m.out,m.rds,m.puts,m.wrs,m.miss,m.steps⟩
def abE:Ef:=⟨2,1009,[],[],[],[],[],0⟩
def runS (c:Cd) (A:List Vl) (M:List Pr) (F:Ft):Ef:=if staB c A M F=true then efM (runA c A M F (fun _=>false)).1 else abE
def RunP (E:Ef) (w:World) (e:Ending) (w':World):Prop:=∃v,e=.returned (.agg (efV E v))∧EfIn E v w'∧Below w.heap.size w w'
theorem Run_any(pa ia aa sa ra wa:Option Addr)(pc ic ac sc rc wac:Nat)(c:Cd)(A:List Vl)(M:List Pr)(F:Ft)(w:World)(hA:VArgs w pa ia aa sa ra wa pc ic ac sc rc wac c A M F)(hl:VLim c A M F)(hLB:LaidB w):
  Calls prog 8 #[.agg #[.slice pa c.p.length pc,.int .i64 c.sl,.slice ia c.l.length ic],.slice aa A.length ac,.slice sa M.length sc,.agg #[.bool F.all,.slice ra F.rd.length rc,.slice wa F.wr.length wac]] w (RunP (runS c A M F) w):=by
 obtain⟨E,hE⟩:=ex_ (runS c A M F);rw[hE];have HE:=h_ hE;have HA:=h_ hA;have HL:=h_ hl;have HLB:=h_ hLB;clear hE hA hl hLB;obtain⟨ok,hok⟩:=ex_ (staB c A M F);have HOK:=h_ hok;clear hok;obtain⟨v0,hW0,hb0,hx0,hy0,hz0⟩:=boxes3 w #[.slice pa c.p.length pc,.int .i64 c.sl,.slice ia c.l.length ic] #[.bool F.all,.slice ra F.rd.length rc,.slice wa F.wr.length wac] #[.int .i64 0,.int .i64 0,.slice none 0 0,.slice none 0 0,.slice none 0 0,.slice none 0 0,.string ⟨#[]⟩,.int .i64 0] 25 29 37;have HW0:=h_ hW0;have HB:=h_ hb0;have HC:=h_ hx0;have HF:=h_ hy0;have HR:=h_ hz0;have HR0:=h_ hz0;clear hW0 hb0 hx0 hy0 hz0;go_enter func8,ntmps8;go_upto_region 1 with (fail);rw[HW0.out];clear HW0;have HA:=h_ (HA.out.below HB.out);have HLB:=h_ (HLB.out.below HB.out);obtain⟨c0,c1,c2⟩:=HC.out.c3;obtain⟨g0,g1,g2⟩:=HF.out.c3;go_wp2_with fail;have hsv:=HR.out.lt;refine(start_any pa ia aa sa ra wa pc ic ac sc rc wac c.p c.sl c.l A M F.all F.rd F.wr v0 HA.out.P HA.out.I HA.out.A HA.out.M HA.out.R HA.out.W HL.out.len HL.out.sl HL.out.sA HL.out.sM HL.out.sR HLB.out).mono ?_;have he:(⟨c.p,c.sl,c.l⟩:Cd)=c:=rfl;have he2:(⟨F.all,F.rd,F.wr⟩:Ft)=F:=rfl;rw[he,he2,HOK.out];clear he he2;rintro er w1 ⟨hb1,hst⟩;clear c0 c1 c2 g0 g1 g2;have HB1:=h_ hb1;have HR:=HR.out.k hb1;clear hb1
 cases ok with
 | false =>
  rw[if_neg (by simp)]at hst;subst hst;have HNO:=h_ (show E=abE from HE.out.symm.trans (if_neg (by rw[HOK.out];simp)));obtain⟨r0,r1,r2,r3,r4,r5,r6,r7⟩:=HR.out.c8;have f0:=HR.out.free 0;have f1:=HR.out.free 1;have f2:=HR.out.free 2;have f3:=HR.out.free 3;have f4:=HR.out.free 4;have f5:=HR.out.free 5;have f6:=HR.out.free 6;have f7:=HR.out.free 7;have HK:=h_ (HR.out.sets8 (.int .i64 2) (.int .i64 1009) (.slice none 0 0) (.slice none 0 0) (.slice none 0 0) (.slice none 0 0) (.string ⟨#[]⟩) (.int .i64 0));have HBK:=h_ (below_sets8 (btrans HB.out HB.out.size HB1.out) (w.heap.size+2) (by omega) (.int .i64 2) (.int .i64 1009) (.slice none 0 0) (.slice none 0 0) (.slice none 0 0) (.slice none 0 0) (.string ⟨#[]⟩) (.int .i64 0));go_wp2;obtain⟨k0,k1,k2,k3,k4,k5,k6,k7⟩:=HK.out.c8;refine bodyPost_ret (v:=.agg #[.int .i64 2,.int .i64 1009,.slice none 0 0,.slice none 0 0,.slice none 0 0,.slice none 0 0,.string ⟨#[]⟩,.int .i64 0]) (by simp[results,results8,go_sem,k0,k1,k2,k3,k4,k5,k6,k7]<;>rfl) rfl ⟨⟨.slice none 0 0,.slice none 0 0,.slice none 0 0,.slice none 0 0⟩,by rw[HNO.out]<;>rfl,by rw[HNO.out];exact⟨⟨none,0,rfl,fun hne=>absurd rfl hne⟩,⟨none,0,rfl,Nat.le_refl _,fun hne=>absurd rfl hne⟩,⟨none,0,rfl,Nat.le_refl _,fun hne=>absurd rfl hne⟩,⟨none,0,rfl,fun hne=>absurd rfl hne⟩⟩,HBK.out⟩
 | true =>
  rw[if_pos rfl]at hst;obtain⟨mb,S,hst,hvm⟩:=hst;subst hst;have HM:=h_ hvm;clear hvm;obtain⟨hvc,hinv⟩:=start_inv HOK.out HL.out.nA;have HINV:=h_ hinv;clear hinv;have hG:GivH (hd0 pa c.p.length pc c.sl ia c.l.length ic sa M.length sc F.all ra F.rd.length rc wa F.wr.length wac) v0 M F:=⟨⟨sa,sc,rfl,HA.out.M⟩,rfl,⟨ra,rc,rfl,HA.out.R⟩,⟨wa,wac,rfl,HA.out.W⟩,HL.out.len.2.2,⟨HL.out.sM,HL.out.sR⟩⟩;have HG:=h_ hG;clear hG;have HSN:=h_ HM.out.rng;go_wp2_with fail;refine(Rrun_any v0 mb S (hd0 pa c.p.length pc c.sl ia c.l.length ic sa M.length sc F.all ra F.rd.length rc wa F.wr.length wac) (mc0 A) rw0 M F c ia ic HG.out rfl HA.out.I hvc HL.out.nc HL.out.nM HLB.out.1 HINV.out w1 HM.out HB1.out).mono ?_;rintro er w3 ⟨rfl,hb3,S',R',hm3⟩;obtain⟨mE,hmE⟩:=ex_ ((runM M F c.l (fun _=>false) (muM (mc0 A) 0+1) (mc0 A) 0 0 []).1);rw[hmE]at hm3;have HTT:=h_ (show E=efM mE from by rw[←hmE];exact HE.out.symm.trans (if_pos HOK.out));have HM3:=h_ hm3;have HB3:=h_ hb3;have HR3:=h_ (show Bx (w.heap.size+2) #[.int .i64 0,.int .i64 0,.slice none 0 0,.slice none 0 0,.slice none 0 0,.slice none 0 0,.string ⟨#[]⟩,.int .i64 0] 37 w3 from(hb3.block _ hsv).trans HR0.out);clear hm3 hb3 hmE;obtain⟨oa,oc,h1⟩:=own_sl HM3.out.out.1;obtain⟨rda,rdc,h2⟩:=own_sl HM3.out.rds.1;obtain⟨pua,puc,h3⟩:=own_sl HM3.out.puts.1;obtain⟨wra,wrc,h4⟩:=own_sl HM3.out.wrs.1;have HQ1:=h_ h1;have HQ2:=h_ h2;have HQ3:=h_ h3;have HQ4:=h_ h4
  have d0:w3.cell? ⟨mb,393,none⟩=some (.int .i64 mE.st):=by have h:=HM3.out.tl 1 (by decide);rw[h];exact congrArg some (show tailM mE R' 1=_ from rfl)
  have d1:w3.cell? ⟨mb,394,none⟩=some (.int .i64 mE.code):=by have h:=HM3.out.tl 2 (by decide);rw[h];exact congrArg some (show tailM mE R' 2=_ from rfl)
  have d2:w3.cell? ⟨mb,395,none⟩=some (.slice oa mE.out.length oc):=by have h:=HM3.out.tl 3 (by decide);rw[h];exact congrArg some (show tailM mE R' 3=_ from h1)
  have d3:w3.cell? ⟨mb,396,none⟩=some (.slice rda mE.rds.length rdc):=by have h:=HM3.out.tl 4 (by decide);rw[h];exact congrArg some (show tailM mE R' 4=_ from h2)
  have d4:w3.cell? ⟨mb,397,none⟩=some (.slice pua mE.puts.length puc):=by have h:=HM3.out.tl 5 (by decide);rw[h];exact congrArg some (show tailM mE R' 5=_ from h3)
  have d5:w3.cell? ⟨mb,398,none⟩=some (.slice wra mE.wrs.length wrc):=by have h:=HM3.out.tl 6 (by decide);rw[h];exact congrArg some (show tailM mE R' 6=_ from h4)
  have d6:w3.cell? ⟨mb,399,none⟩=some (.string (bs mE.miss)):=by have h:=HM3.out.tl 7 (by decide);rw[h];exact congrArg some (show tailM mE R' 7=_ from rfl)
  have d7:w3.cell? ⟨mb,400,none⟩=some (.int .i64 mE.steps):=by have h:=HM3.out.tl 8 (by decide);rw[h];exact congrArg some (show tailM mE R' 8=_ from rfl)
  clear h1 h2 h3 h4;obtain⟨r0,r1,r2,r3,r4,r5,r6,r7⟩:=HR3.out.c8;have f0:=HR3.out.free 0;have f1:=HR3.out.free 1;have f2:=HR3.out.free 2;have f3:=HR3.out.free 3;have f4:=HR3.out.free 4;have f5:=HR3.out.free 5;have f6:=HR3.out.free 6;have f7:=HR3.out.free 7;have HK:=h_ (HR3.out.sets8 (.int .i64 mE.st) (.int .i64 mE.code) (.slice oa mE.out.length oc) (.slice rda mE.rds.length rdc) (.slice pua mE.puts.length puc) (.slice wra mE.wrs.length wrc) (.string (bs mE.miss)) (.int .i64 mE.steps));have hbw:=btrans HB.out HB.out.size HB3.out;have HBK:=h_ (below_sets8 hbw (w.heap.size+2) (by omega) (.int .i64 mE.st) (.int .i64 mE.code) (.slice oa mE.out.length oc) (.slice rda mE.rds.length rdc) (.slice pua mE.puts.length puc) (.slice wra mE.wrs.length wrc) (.string (bs mE.miss)) (.int .i64 mE.steps));have HO0:=h_ (own_st (own_st (own_st (own_st (own_st (own_st (own_st (own_st HM3.out.out.1 HR3.out (by decide) 0 (.int .i64 mE.st)) (HR3.out.set 0 (.int .i64 mE.st)) (by decide) 1 (.int .i64 mE.code)) ((HR3.out.set 0 (.int .i64 mE.st)).set 1 (.int .i64 mE.code)) (by decide) 2 (.slice oa mE.out.length oc)) (((HR3.out.set 0 (.int .i64 mE.st)).set 1 (.int .i64 mE.code)).set 2 (.slice oa mE.out.length oc)) (by decide) 3 (.slice rda mE.rds.length rdc)) ((((HR3.out.set 0 (.int .i64 mE.st)).set 1 (.int .i64 mE.code)).set 2 (.slice oa mE.out.length oc)).set 3 (.slice rda mE.rds.length rdc)) (by decide) 4 (.slice pua mE.puts.length puc)) (((((HR3.out.set 0 (.int .i64 mE.st)).set 1 (.int .i64 mE.code)).set 2 (.slice oa mE.out.length oc)).set 3 (.slice rda mE.rds.length rdc)).set 4 (.slice pua mE.puts.length puc)) (by decide) 5 (.slice wra mE.wrs.length wrc)) ((((((HR3.out.set 0 (.int .i64 mE.st)).set 1 (.int .i64 mE.code)).set 2 (.slice oa mE.out.length oc)).set 3 (.slice rda mE.rds.length rdc)).set 4 (.slice pua mE.puts.length puc)).set 5 (.slice wra mE.wrs.length wrc)) (by decide) 6 (.string (bs mE.miss))) (((((((HR3.out.set 0 (.int .i64 mE.st)).set 1 (.int .i64 mE.code)).set 2 (.slice oa mE.out.length oc)).set 3 (.slice rda mE.rds.length rdc)).set 4 (.slice pua mE.puts.length puc)).set 5 (.slice wra mE.wrs.length wrc)).set 6 (.string (bs mE.miss))) (by decide) 7 (.int .i64 mE.steps));have HO1:=h_ (own_st (own_st (own_st (own_st (own_st (own_st (own_st (own_st HM3.out.rds.1 HR3.out (by decide) 0 (.int .i64 mE.st)) (HR3.out.set 0 (.int .i64 mE.st)) (by decide) 1 (.int .i64 mE.code)) ((HR3.out.set 0 (.int .i64 mE.st)).set 1 (.int .i64 mE.code)) (by decide) 2 (.slice oa mE.out.length oc)) (((HR3.out.set 0 (.int .i64 mE.st)).set 1 (.int .i64 mE.code)).set 2 (.slice oa mE.out.length oc)) (by decide) 3 (.slice rda mE.rds.length rdc)) ((((HR3.out.set 0 (.int .i64 mE.st)).set 1 (.int .i64 mE.code)).set 2 (.slice oa mE.out.length oc)).set 3 (.slice rda mE.rds.length rdc)) (by decide) 4 (.slice pua mE.puts.length puc)) (((((HR3.out.set 0 (.int .i64 mE.st)).set 1 (.int .i64 mE.code)).set 2 (.slice oa mE.out.length oc)).set 3 (.slice rda mE.rds.length rdc)).set 4 (.slice pua mE.puts.length puc)) (by decide) 5 (.slice wra mE.wrs.length wrc)) ((((((HR3.out.set 0 (.int .i64 mE.st)).set 1 (.int .i64 mE.code)).set 2 (.slice oa mE.out.length oc)).set 3 (.slice rda mE.rds.length rdc)).set 4 (.slice pua mE.puts.length puc)).set 5 (.slice wra mE.wrs.length wrc)) (by decide) 6 (.string (bs mE.miss))) (((((((HR3.out.set 0 (.int .i64 mE.st)).set 1 (.int .i64 mE.code)).set 2 (.slice oa mE.out.length oc)).set 3 (.slice rda mE.rds.length rdc)).set 4 (.slice pua mE.puts.length puc)).set 5 (.slice wra mE.wrs.length wrc)).set 6 (.string (bs mE.miss))) (by decide) 7 (.int .i64 mE.steps));have HO2:=h_ (own_st (own_st (own_st (own_st (own_st (own_st (own_st (own_st HM3.out.puts.1 HR3.out (by decide) 0 (.int .i64 mE.st)) (HR3.out.set 0 (.int .i64 mE.st)) (by decide) 1 (.int .i64 mE.code)) ((HR3.out.set 0 (.int .i64 mE.st)).set 1 (.int .i64 mE.code)) (by decide) 2 (.slice oa mE.out.length oc)) (((HR3.out.set 0 (.int .i64 mE.st)).set 1 (.int .i64 mE.code)).set 2 (.slice oa mE.out.length oc)) (by decide) 3 (.slice rda mE.rds.length rdc)) ((((HR3.out.set 0 (.int .i64 mE.st)).set 1 (.int .i64 mE.code)).set 2 (.slice oa mE.out.length oc)).set 3 (.slice rda mE.rds.length rdc)) (by decide) 4 (.slice pua mE.puts.length puc)) (((((HR3.out.set 0 (.int .i64 mE.st)).set 1 (.int .i64 mE.code)).set 2 (.slice oa mE.out.length oc)).set 3 (.slice rda mE.rds.length rdc)).set 4 (.slice pua mE.puts.length puc)) (by decide) 5 (.slice wra mE.wrs.length wrc)) ((((((HR3.out.set 0 (.int .i64 mE.st)).set 1 (.int .i64 mE.code)).set 2 (.slice oa mE.out.length oc)).set 3 (.slice rda mE.rds.length rdc)).set 4 (.slice pua mE.puts.length puc)).set 5 (.slice wra mE.wrs.length wrc)) (by decide) 6 (.string (bs mE.miss))) (((((((HR3.out.set 0 (.int .i64 mE.st)).set 1 (.int .i64 mE.code)).set 2 (.slice oa mE.out.length oc)).set 3 (.slice rda mE.rds.length rdc)).set 4 (.slice pua mE.puts.length puc)).set 5 (.slice wra mE.wrs.length wrc)).set 6 (.string (bs mE.miss))) (by decide) 7 (.int .i64 mE.steps));have HO3:=h_ (own_st (own_st (own_st (own_st (own_st (own_st (own_st (own_st HM3.out.wrs.1 HR3.out (by decide) 0 (.int .i64 mE.st)) (HR3.out.set 0 (.int .i64 mE.st)) (by decide) 1 (.int .i64 mE.code)) ((HR3.out.set 0 (.int .i64 mE.st)).set 1 (.int .i64 mE.code)) (by decide) 2 (.slice oa mE.out.length oc)) (((HR3.out.set 0 (.int .i64 mE.st)).set 1 (.int .i64 mE.code)).set 2 (.slice oa mE.out.length oc)) (by decide) 3 (.slice rda mE.rds.length rdc)) ((((HR3.out.set 0 (.int .i64 mE.st)).set 1 (.int .i64 mE.code)).set 2 (.slice oa mE.out.length oc)).set 3 (.slice rda mE.rds.length rdc)) (by decide) 4 (.slice pua mE.puts.length puc)) (((((HR3.out.set 0 (.int .i64 mE.st)).set 1 (.int .i64 mE.code)).set 2 (.slice oa mE.out.length oc)).set 3 (.slice rda mE.rds.length rdc)).set 4 (.slice pua mE.puts.length puc)) (by decide) 5 (.slice wra mE.wrs.length wrc)) ((((((HR3.out.set 0 (.int .i64 mE.st)).set 1 (.int .i64 mE.code)).set 2 (.slice oa mE.out.length oc)).set 3 (.slice rda mE.rds.length rdc)).set 4 (.slice pua mE.puts.length puc)).set 5 (.slice wra mE.wrs.length wrc)) (by decide) 6 (.string (bs mE.miss))) (((((((HR3.out.set 0 (.int .i64 mE.st)).set 1 (.int .i64 mE.code)).set 2 (.slice oa mE.out.length oc)).set 3 (.slice rda mE.rds.length rdc)).set 4 (.slice pua mE.puts.length puc)).set 5 (.slice wra mE.wrs.length wrc)).set 6 (.string (bs mE.miss))) (by decide) 7 (.int .i64 mE.steps));clear hbw;go_wp2;obtain⟨k0,k1,k2,k3,k4,k5,k6,k7⟩:=HK.out.c8;refine bodyPost_ret (v:=.agg #[.int .i64 mE.st,.int .i64 mE.code,.slice oa mE.out.length oc,.slice rda mE.rds.length rdc,.slice pua mE.puts.length puc,.slice wra mE.wrs.length wrc,.string (bs mE.miss),.int .i64 mE.steps]) (by simp[results,results8,go_sem,k0,k1,k2,k3,k4,k5,k6,k7]<;>rfl) rfl ⟨⟨R'.outv,R'.rv,R'.pv,R'.wv⟩,by rw[HTT.out];unfold efV efM;simp only;rw[HQ1.out,HQ2.out,HQ3.out,HQ4.out],by rw[HTT.out];exact⟨own_valAt HO0.out,StrS.of_own HO1.out,StrS.of_own HO2.out,own_prAt HO3.out⟩,HBK.out⟩
def trY (most:Int) (tr:List Int) (pc:Int):List Int:=if (tr.length:Int)<most then tr++[pc] else tr
def enE (X:Rx):Ef:=⟨X.st,X.code,X.out,X.rds,X.puts,[],X.miss,X.steps⟩
def cnY (x:Ins) (n:Int):Int:=if x.op=14 then 0 else n+1
inductive RunY (most:Int):Nat→Ry→List Int→Ef→List Int→Prop
 | stop (n:Nat) (Y:Ry) (tr:List Int) (h:Y.x.st≠0):RunY most n Y tr (enE Y.x) tr
 | fuel (n:Nat) (Y:Ry) (tr:List Int) (h:Y.x.st=0) (hc:Y.cnt=1024):RunY most n Y tr (enE (abX 1008 Y.x)) tr
 | done (n:Nat) (Y:Ry) (tr:List Int) (x:Ins) (pc:Nat) (h:Y.x.st=0) (hc:0≤Y.cnt∧Y.cnt<1024) (hpc:Y.pc=(pc:Int)) (hx:∃h:pc<Y.c.l.length,Y.c.l[pc]=x) (hop:x.op=13) (ht:tr.length≤100000):RunY most n Y tr (cmE Y.x) (trY most tr Y.pc)
 | next (n:Nat) (Y Y2:Ry) (tr T:List Int) (E:Ef) (x:Ins) (pc:Nat) (h:Y.x.st=0) (hc:0≤Y.cnt∧Y.cnt<1024) (hpc:Y.pc=(pc:Int)) (hx:∃h:pc<Y.c.l.length,Y.c.l[pc]=x) (hop:x.op≠13) (hp2:pc≤100000000) (hls:Y.stk.length≤10000000) (hsl:Y.slo.length≤10000000) (hl:RL Y.x) (ht:tr.length≤100000)
  (hs:StepY x { Y with cnt:=cnY x Y.cnt } Y2) (ih:RunY most n Y2 (trY most tr Y.pc) E T):RunY most (n+1) Y tr E T
def slo0 (c:Cd) (A:List Vl):List Vl:=A++List.replicate (c.sl.toNat-A.length) v00
def rx0 (M:List Pr) (F:Ft):Rx:=⟨M,F,[],0,0,[],[],[],[],0⟩
def ry0 (c:Cd) (A:List Vl) (M:List Pr) (F:Ft) (most:Int):Ry:=⟨c,rx0 M F,[],slo0 c A,0,0,most⟩
def XcP (D:Nat→Prop) (E:Ef) (T:List Int) (w:World) (e:Ending) (w':World):Prop:=∃v ta tc,e=.returned (.tuple #[.agg (efV E v),.slice ta T.length tc])∧Stab D w' (EfIn E v)∧Stab D w' (fun W=>CellsAt W (.slice ta T.length tc) T.length (intsL T))∧Below w.heap.size w w'
def ev0:Ev:=⟨.slice none 0 0,.slice none 0 0,.slice none 0 0,.slice none 0 0⟩
theorem strS_nil2(W:World):StrS W (.slice none 0 0) []:=StrS.of_own (B:=0) (World.ownsRow_nil W 0 9 1)
theorem params_ok{c:Cd}(h:valC c=0):∀x∈c.p,x=1∨x=2:=by
 intro x hx;have h2:=(valC_parts h).2.2.1;have h3:=List.all_eq_true.1 h2 x hx;unfold tyB at h3;rw[Bool.or_eq_true,decide_eq_true_eq,decide_eq_true_eq]at h3;exact h3
end Go.Proofs.YtnglaegofhpleaaGreatDoor
