/- What the claim needs, part 10. No conditions. -/
import Derived.Test.YtnglaegofhpleaaGreatDoorZk9
set_option maxRecDepth 100000
set_option maxHeartbeats 64000000
namespace Go.Proofs.YtnglaegofhpleaaGreatDoor
open Go.RowKit Go.Proofs.Tryz
theorem args_stab{D:Nat→Prop}(hD:∀k,¬D k){w:World}{pa ia aa sa ra wa:Option Addr}{pk ic ac sc rc wac:Nat}{c:Cd}{A:List Vl}{M:List Pr}{F:Ft}(h:VArgs w pa ia aa sa ra wa pk ic ac sc rc wac c A M F):Stab D w (fun W=>VArgs W pa ia aa sa ra wa pk ic ac sc rc wac c A M F):=fun W' hs hk=>by
 have hb:Below w.heap.size w { w with heap:=W'.heap }:=⟨rfl,rfl,rfl,hs,fun k hk1=>hk k hk1 (hD k)⟩;have g:=h.below hb;exact⟨g.P,g.I,g.A,g.M,g.R,g.W⟩
theorem run_mkVl{o:Oper}{x y:Operand}(ho:o.op=.makeSlice 26 x y)(n:Nat)(hn:n≤64)(ρ:Operand→Value)(hx:ρ x=.int .i64 (n:Int))(hy:ρ y=.int .i64 (n:Int))(w:World):(execOp ρ o).run prog w=.ok (.value (.slice (some ⟨w.heap.size,0,none⟩) n n)) (w.alloc (.cells (madeCells (vV v00) (n * 3)) 52)):=by
 obtain⟨i0,hi,hz0,hz1,hz2⟩:=info_parts infoVl;have h:=run_makeSlice (P:=prog) w 26 52 i0 (.agg (vV v00)) underlying26 hi hz0 .i64 .i64 (n:Int) (n:Int) (by omega) (Int.le_refl _) (by rw[hz1];omega) (by rw[hz2];omega) (by omega);simp only[Int.toNat_natCast,hz1]at h;unfold execOp;simp only[ho,hx,hy];simp only[Sem.run_bind,h,Result.andThen_ok,Sem.run_pure];rfl
theorem own_stab2{D:Nat→Prop}{W:World}{B k n g c:Nat}{e:TypeId}{xs:List Value}(h:W.ownsRow B e k (.slice (some ⟨g,0,none⟩) n c) n xs)(hD:¬D g):Stab D W (fun W'=>W'.ownsRow B e k (.slice (some ⟨g,0,none⟩) n c) n xs):=by
 intro W' hs hk;refine⟨h.1,?_⟩;rcases h.2 with ⟨h1,_⟩|⟨g2,c2,cur,h1,h2,h3,h4⟩
 ·cases h1
 ·cases h1
  exact .inr ⟨g,c,cur,rfl,h2,(hk g (lt_heap h3) hD).trans h3,h4⟩
def cpL (A:List Vl) (n k:Nat):List Vl:=A.take k++List.replicate (n-k) v00
theorem cpL_len{A:List Vl}{n k:Nat}(h:k≤A.length)(hn:A.length≤n):(cpL A n k).length=n:=by unfold cpL;rw[List.length_append,List.length_take,List.length_replicate];omega
theorem cpL_set{A:List Vl}{n k:Nat}(h:k<A.length)(hn:A.length≤n):(cpL A n k).set k A[k]=cpL A n (k+1):=by
 unfold cpL;rw[List.set_append_right _ _ (by rw[List.length_take];omega),List.length_take,Nat.min_eq_left (Nat.le_of_lt h),Nat.sub_self,show n-k=(n-(k+1))+1 by omega,List.replicate_succ,List.set_cons_zero,List.take_succ_eq_append_getElem h,List.append_assoc];rfl
theorem rmk{ops:Array Oper}{o:Oper}{a:Act}{w W':World}{K:Act→World→Prop}{Q:Exit→Act→World→Prop}{E:Prop}{v:Value}(d:Nat)(gd:o.guard=none)(hd:o.dst=some d)(hr:(execOp a.eval o).run prog w=.ok (.value v) W')(hk:K (a.put (some d) v) W'):if Region.wanted o (yielded ops a.tmps)=true then Oper.wp prog o a w K Q else E:=by
 rw[if_pos (by simp[Region.wanted,gd])];unfold Oper.wp;rw[hr,Oper.upon_value,hd];exact hk
theorem made_vl(n:Nat):(madeCells (vV v00) (n * 3)).toList=vlLs (List.replicate n v00):=by
 apply List.ext_getElem?;intro j;by_cases hj:j<n * 3
 ·have hq:j / 3<(List.replicate n v00).length:=by rw[List.length_replicate];omega
  have hr:j % 3<3:=Nat.mod_lt _ (by omega);have h:=vlLs_at (List.replicate n v00) hq hr;rw[show j / 3 * 3+j % 3=j by omega]at h;rw[h,List.getD_eq_getElem?_getD,List.getElem?_replicate_of_lt (by simpa using hq)];unfold madeCells;rw[Array.getElem?_toList,Array.getElem?_map,Array.getElem?_range,if_pos hj];show some ((vV v00)[j % 3]!)=some (vlc v00 (j % 3));rcases (by omega:j % 3=0∨j % 3=1∨j % 3=2) with h|h|h<;>rw[h]<;>rfl
 ·rw[List.getElem?_eq_none (by rw[Array.length_toList,size_madeCells];omega),List.getElem?_eq_none (by rw[vlLs_length,List.length_replicate];omega)]
theorem own_made{W:World}{B b n:Nat}(hB:B≤b)(hn:n≤64)(h:W.heap[b]? = some (.cells (madeCells (vV v00) (n * 3)) 52 (0,0))):W.ownsRow B 52 3 (.slice (some ⟨b,0,none⟩) n n) n (vlLs (List.replicate n v00)):=by
 refine⟨by rw[vlLs_length,List.length_replicate],.inr ⟨b,n,_,rfl,hB,h,Nat.le_refl _,by unfold maxLen;omega,size_madeCells _ _,?_⟩⟩;rw[made_vl,List.take_of_length_le (by rw[vlLs_length,List.length_replicate];exact Nat.le_refl _)]
theorem Stab.app{D:Nat→Prop}{W W':World}{P:World→Prop}{ob:Option Nat}{b:Nat}(h:Stab D W P)(hg:W.grownBy W' ob)(ho:∀g,ob=some g→D g)(hb:D b∨W.heap.size≤b):Stab (fun k=>D k∨k=b) W' P:=by
 intro W2 hs hk;refine h W2 (Nat.le_trans hg.size hs) fun k hk1 hk2=>?_;refine(hk k (Nat.lt_of_lt_of_le hk1 hg.size) ?_).trans (hg.block k hk1 fun e=>hk2 (ho k e.symm));rintro (q|rfl)
 ·exact hk2 q
 ·rcases hb with q|q
  ·exact hk2 q
  ·omega
theorem own_cells{W:World}{B c:Nat}{a:Option Addr}{L:List Int}(h:W.ownsRow B 3 1 (.slice a L.length c) L.length (intsL L)):CellsAt W (.slice a L.length c) L.length (intsL L):=own_intAt h
theorem stepY_keep{x:Ins}{Y Y2:Ry}(h:StepY x Y Y2):Y2.c=Y.c∧Y2.most=Y.most:=by cases h<;>exact⟨rfl,rfl⟩
theorem RunY.head{most:Int}{n:Nat}{Y:Ry}{tr:List Int}{E:Ef}{T:List Int}(h:RunY most n Y tr E T):(Y.x.st≠0∧E=enE Y.x∧T=tr)∨(Y.x.st=0∧Y.cnt=1024∧E=enE (abX 1008 Y.x)∧T=tr) ∨
  ∃(x:Ins) (pc:Nat),Y.x.st=0∧(0≤Y.cnt∧Y.cnt<1024)∧Y.pc=(pc:Int)∧(∃h:pc<Y.c.l.length,Y.c.l[pc]=x)∧tr.length≤100000∧((x.op=13∧E=cmE Y.x∧T=trY most tr Y.pc) ∨
   ∃(n0:Nat) (Y2:Ry),n=n0+1∧x.op≠13∧pc≤100000000∧Y.stk.length≤10000000∧Y.slo.length≤10000000∧RL Y.x∧StepY x { Y with cnt:=cnY x Y.cnt } Y2∧RunY most n0 Y2 (trY most tr Y.pc) E T):=by
 cases h with
 | stop n Y tr h=>exact .inl ⟨h,rfl,rfl⟩
 | fuel n Y tr h hc=>exact .inr (.inl ⟨h,hc,rfl,rfl⟩)
 | done n Y tr x pc h hc hpc hx hop ht=>exact .inr (.inr ⟨x,pc,h,hc,hpc,hx,ht,.inl ⟨hop,rfl,rfl⟩⟩)
 | next n Y Y2 tr T E x pc h hc hpc hx hop hp2 hls hsl hl ht hs ih=>exact .inr (.inr ⟨x,pc,h,hc,hpc,hx,ht,.inr ⟨n,Y2,rfl,hop,hp2,hls,hsl,hl,hs,ih⟩⟩)
def D4 (D:Nat→Prop) (w:World) (b k:Nat):Prop:=D k∨k=b∨(w.heap.size≤k∧k<w.heap.size+3)
def enV (R:Ra) (X:Rx):Ev:=⟨.slice R.ta X.out.length R.tc,.slice R.ea X.rds.length R.ec,.slice R.ua X.puts.length R.uc,.slice none 0 0⟩
theorem RIn.en{R:Ra}{X:Rx}{W:World}(h:RIn R X W):EfIn (enE X) (enV R X) W:=⟨h.t,h.e,h.u,cellsAt_none _ 0 0⟩
theorem Rexec_any(pa ia aa sa ra wa:Option Addr)(pk ic ac sc rc wac:Nat)(c:Cd)(A:List Vl)(M:List Pr)(F:Ft)(most:Int)(D:Nat→Prop)(w:World)(hD:∀k,D k→k<w.heap.size)(hA:Stab D w (fun W=>VArgs W pa ia aa sa ra wa pk ic ac sc rc wac c A M F))(hl:VLim c A M F)(n:Nat)(E:Ef)(T:List Int)(h0:staB c A M F=false→E=abE∧T=[])(h1:staB c A M F=true→RunY most n (ry0 c A M F most) [] E T):
  Calls prog 24 #[.agg #[.slice pa c.p.length pk,.int .i64 c.sl,.slice ia c.l.length ic],.slice aa A.length ac,.slice sa M.length sc,.agg #[.bool F.all,.slice ra F.rd.length rc,.slice wa F.wr.length wac],.int .i64 most] w (XcP D E T w):=by
 have HR:=h_ hA;have HL:=h_ hl;have H0:=h_ h0;have H1:=h_ h1;clear hA hl h0 h1;obtain⟨v0,hW0,hb0,hHC,hHF,hHY⟩:=bxs3 w (#[.slice pa c.p.length pk,.int .i64 c.sl,.slice ia c.l.length ic]) (#[.bool F.all,.slice ra F.rd.length rc,.slice wa F.wr.length wac]) (#[.int .i64 0,.int .i64 0,.slice none 0 0,.slice none 0 0,.slice none 0 0,.slice none 0 0,.string ⟨#[]⟩,.int .i64 0]) 25 29 37;have HW:=h_ hW0;have HB:=h_ hb0;have HC:=h_ hHC;have HF:=h_ hHF;have HY:=h_ hHY;clear hW0 hb0 hHC hHF hHY;go_enter func24,ntmps24;go_upto_region 1 with (fail);rw[HW.out];clear HW;have HQ:=h_ (HR.out.inn HB.out 3);clear HR;obtain⟨V,hV⟩:=ex_ (valC c);have HV:=h_ hV;clear hV;obtain⟨ab,hab⟩:=ex_ (accB c.p A);have HAB:=h_ hab;clear hab;obtain⟨sb,hsb⟩:=ex_ (stB M);have HSB:=h_ hsb;clear hsb;obtain⟨fb,hfb⟩:=ex_ (ftB F);have HFB:=h_ hfb;clear hfb;have HST:=h_ (show staB c A M F=(decide (V=0) && (ab && (sb && fb))) by unfold staB;rw[HV.out,HAB.out,HSB.out,HFB.out]);have c0:=HC.out.cl 0;have f0:=HF.out.cl 0;have c1:=HC.out.cl 1;have f1:=HF.out.cl 1;have c2:=HC.out.cl 2;have f2:=HF.out.cl 2;go_wp2_with (fail);refine(RValidate_any pa ia pk ic c.p c.sl c.l _ HQ.out.now.P HQ.out.now.I HL.out.len.1 HL.out.sl).mono ?_;rw[HV.out];rintro er w1 ⟨rfl,hb1⟩;have HC:=HC.out.k hb1;have HF:=HF.out.k hb1;have HY:=HY.out.k hb1;have HQ:=HQ.out.k hb1;have HB:=bt HB hb1;clear hb1;clear c0 c1 c2 f0 f1 f2;have c0:=HC.out.cl 0;have f0:=HF.out.cl 0;have c1:=HC.out.cl 1;have f1:=HF.out.cl 1;have c2:=HC.out.cl 2;have f2:=HF.out.cl 2;by_cases hv0:V=0;rotate_left
 ·have t1:(V != 0)=true:=by rw[bne_iff_ne];exact hv0
  have HVN:=h_ hv0;clear hv0;obtain⟨hE,hT⟩:=H0.out (HST.out.trans (by rw[decide_eq_false HVN.out];rfl));subst hE;subst hT;go_wp2_with (refine HY.out.wa (efV abE ev0) ?_);intro W1 HY p1;have HC:=HC.out.q p1;have HF:=HF.out.q p1;have HB:=pb HB p1;have HQ:=HQ.out.q p1;clear p1;go_wp2;exact HY.out.ret1t rfl rfl rfl rfl underlying37 rfl (by kernel_rfl) ⟨ev0,none,0,rfl,fun _ _ _=>⟨cellsAt_none _ 0 0,strS_nil2 _,strS_nil2 _,cellsAt_none _ 0 0⟩,fun _ _ _=>cellsAt_none _ 0 0,HB.out⟩
 have t1:(V != 0)=false:=by rw[hv0];rfl
 have HV0:=h_ hv0;clear hv0;go_wp2_with (fail);refine(Raccepts_any pa ia aa pk ic ac c.l.length c.p c.sl A _ HQ.out.now.P HQ.out.now.A HL.out.len.2.1 HL.out.sA (params_ok (HV.out.trans HV0.out))).mono ?_;rw[HAB.out];rintro er w1 ⟨rfl,hb1⟩;have HC:=HC.out.k hb1;have HF:=HF.out.k hb1;have HY:=HY.out.k hb1;have HQ:=HQ.out.k hb1;have HB:=bt HB hb1;clear hb1;clear c0 c1 c2 f0 f1 f2;have c0:=HC.out.cl 0;have f0:=HF.out.cl 0;have c1:=HC.out.cl 1;have f1:=HF.out.cl 1;have c2:=HC.out.cl 2;have f2:=HF.out.cl 2
 cases ab with
 | false =>
  obtain⟨hE,hT⟩:=H0.out (HST.out.trans (by rw[decide_eq_true HV0.out];rfl));subst hE;subst hT;go_wp2_with (refine HY.out.wa (efV abE ev0) ?_);intro W1 HY p1;have HC:=HC.out.q p1;have HF:=HF.out.q p1;have HB:=pb HB p1;have HQ:=HQ.out.q p1;clear p1;go_wp2;exact HY.out.ret1t rfl rfl rfl rfl underlying37 rfl (by kernel_rfl) ⟨ev0,none,0,rfl,fun _ _ _=>⟨cellsAt_none _ 0 0,strS_nil2 _,strS_nil2 _,cellsAt_none _ 0 0⟩,fun _ _ _=>cellsAt_none _ 0 0,HB.out⟩
 | true =>
  go_wp2_with (fail);refine(RSV06_any sa sc M _ HL.out.len.2.2.1 HL.out.sM HQ.out.now.M).mono ?_;rw[HSB.out];rintro er w1 ⟨rfl,hb1⟩;have HC:=HC.out.k hb1;have HF:=HF.out.k hb1;have HY:=HY.out.k hb1;have HQ:=HQ.out.k hb1;have HB:=bt HB hb1;clear hb1;clear c0 c1 c2 f0 f1 f2;have c0:=HC.out.cl 0;have f0:=HF.out.cl 0;have c1:=HC.out.cl 1;have f1:=HF.out.cl 1;have c2:=HC.out.cl 2;have f2:=HF.out.cl 2
  cases sb with
  | false =>
   obtain⟨hE,hT⟩:=H0.out (HST.out.trans (by rw[decide_eq_true HV0.out];rfl));subst hE;subst hT;go_wp2_with (refine HY.out.wa (efV abE ev0) ?_);intro W1 HY p1;have HC:=HC.out.q p1;have HF:=HF.out.q p1;have HB:=pb HB p1;have HQ:=HQ.out.q p1;clear p1;go_wp2;exact HY.out.ret1t rfl rfl rfl rfl underlying37 rfl (by kernel_rfl) ⟨ev0,none,0,rfl,fun _ _ _=>⟨cellsAt_none _ 0 0,strS_nil2 _,strS_nil2 _,cellsAt_none _ 0 0⟩,fun _ _ _=>cellsAt_none _ 0 0,HB.out⟩
  | true =>
   go_wp2_with (fail);refine(RValidFoot_any F.all ra wa rc wac F.rd F.wr _ HQ.out.now.R HQ.out.now.W ⟨HL.out.len.2.2.2.1,HL.out.len.2.2.2.2⟩ HL.out.sR).mono ?_;rw[HFB.out];rintro er w1 ⟨rfl,hb1⟩;have HC:=HC.out.k hb1;have HF:=HF.out.k hb1;have HY:=HY.out.k hb1;have HQ:=HQ.out.k hb1;have HB:=bt HB hb1;clear hb1;clear c0 c1 c2 f0 f1 f2
   cases fb with
   | false =>
    obtain⟨hE,hT⟩:=H0.out (HST.out.trans (by rw[decide_eq_true HV0.out];rfl));subst hE;subst hT;go_wp2_with (refine HY.out.wa (efV abE ev0) ?_);intro W1 HY p1;have HC:=HC.out.q p1;have HF:=HF.out.q p1;have HB:=pb HB p1;have HQ:=HQ.out.q p1;clear p1;go_wp2;exact HY.out.ret1t rfl rfl rfl rfl underlying37 rfl (by kernel_rfl) ⟨ev0,none,0,rfl,fun _ _ _=>⟨cellsAt_none _ 0 0,strS_nil2 _,strS_nil2 _,cellsAt_none _ 0 0⟩,fun _ _ _=>cellsAt_none _ 0 0,HB.out⟩
   | true =>
    have HRUN:=h_ (H1.out (HST.out.trans (by rw[decide_eq_true HV0.out];rfl)));clear H1 H0 HST;have hvp:=valC_parts (HV.out.trans HV0.out)
    have hal:A.length=c.p.length:=by have:=HAB.out;unfold accB at this;rw[Bool.and_eq_true,decide_eq_true_eq]at this;exact this.1
    obtain⟨S0,hS0⟩:=ex_ (List.replicate c.sl.toNat v00)
    have hsl:c.sl=(S0.length:Int):=by rw[←hS0,List.length_replicate];omega
    have hs64:S0.length≤64:=by omega
    have hA0:A.length≤S0.length:=by omega
    have HS0:=h_ (show List.replicate S0.length v00=S0 by rw[←hS0,List.length_replicate]);have HSL:=h_ hsl;have HSL2:=h_ (show slo0 c A=A++List.replicate (S0.length-A.length) v00 by unfold slo0;rw[←hS0,List.length_replicate]);clear hvp hal hS0 hsl;go_wp2_with fail;refine wp_region_held_drew (S:=(fun w'=>Bx w.heap.size #[.slice pa c.p.length pk,.int .i64 c.sl,.slice ia c.l.length ic] 25 w'∧Bx (w.heap.size+1) #[.bool F.all,.slice ra F.rd.length rc,.slice wa F.wr.length wac] 29 w'∧Below w.heap.size w w')) (by kernel_rfl) ?_ (fun hHeld=>?_)
    ·exact(show ((fun w'=>Bx w.heap.size #[.slice pa c.p.length pk,.int .i64 c.sl,.slice ia c.l.length ic] 25 w'∧Bx (w.heap.size+1) #[.bool F.all,.slice ra F.rd.length rc,.slice wa F.wr.length wac] 29 w'∧Below w.heap.size w w')) w1.drew from by have hb1:=(Below.refl w1.heap.size w1).drew;have HC:=HC.out.k hb1;have HF:=HF.out.k hb1;have HY:=HY.out.k hb1;have HB:=bt HB hb1;exact⟨HC.out,HF.out,HB.out⟩)
    have hb1:=(Below.refl w1.heap.size w1).drew;have HC:=HC.out.k hb1;have HF:=HF.out.k hb1;have HY:=HY.out.k hb1;have HQ:=HQ.out.k hb1;have HB:=bt HB hb1;clear hb1;generalize hWd:w1.drew=D1 at hHeld HB HC HF HY HQ ⊢;clear hWd;refine tkl2 0 35 (fun _ h=>h.1) 0 (#[.slice pa c.p.length pk,.int .i64 c.sl,.slice ia c.l.length ic]) underlying25 ?_;refine tkX 1 36 ?_;simp only[sA,sB,sC];refine tkl2 2 37 (fun _ h=>h.2.1) 0 (#[.bool F.all,.slice ra F.rd.length rc,.slice wa F.wr.length wac]) underlying29 ?_;refine tkX 3 38 ?_;refine tkX 4 39 ?_;refine tkY 5 (v:=?vv4) 40 ?yy4 ?_
    case yy4 =>
     intro wq hSw
     have z0:wq.cell? ⟨w.heap.size,1,none⟩=some (.int .i64 (S0.length:Int)):=by rw[←HSL.out];exact hSw.1.cell 1
     clear hSw;go_simp
     (try with_reducible rfl)
    refine tkX 7 42 ?_;simp only[sA,sB,sC];refine meet (fun b cb (_:Unit) W2=>b≠cb∧D1.heap.size≤b∧D1.heap.size≤cb∧W2.heap[b]? = some (.cells (madeCells (vV v00) (S0.length * 3)) 52 (0,0))∧W2.heap[cb]? = some (.cells (#[.slice none 0 0,.int .i64 0,.slice none 0 0,.slice none 0 0,.bool false,.slice none 0 0,.slice none 0 0,.slice none 0 0,.slice none 0 0,.int .i64 0,.int .i64 0,.slice none 0 0,.slice none 0 0,.slice none 0 0,.slice none 0 0,.string ⟨#[]⟩,.int .i64 0,.slice none 0 0,.slice none 0 0,.int .i64 0,.slice none 0 0,.int .i64 0,.int .i64 0]) 85 (0,0))∧Below D1.heap.size D1 W2) #[true,true,true,true,true,true,true,true,true,true,false] (fun b cb _=>[(41,.slice (some ⟨b,0,none⟩) S0.length S0.length),(12,.pointer (some ⟨cb,0,none⟩)),(43,.agg (kvA ⟨sa,sc,ra,rc,wa,wac,none,0,none,0,none,0,none,0⟩ ⟨pa,pk,ia,ic,none,0,some ⟨b,0,none⟩,S0.length,none,0,0⟩ ⟨c,rx0 M F,[],S0,0,0,most⟩))]) 1 ?_ (fun key=>?_);rotate_left
    ·have hb1:∀p,Below D1.heap.size D1 (D1.alloc p):=fun p=>(Below.refl D1.heap.size D1).alloc (Nat.le_refl _) p
     have hb2:∀p q,Below D1.heap.size D1 ((D1.alloc p).alloc q):=fun p q=>(hb1 p).alloc (by simp) q
     have hzs:∀p,(D1.alloc p).heap.size=D1.heap.size+1:=fun p=>by simp
     refine wpAnyH_ready (rs:=[6,9]) (by kernel_rfl) (by simp) ?_;refine(AllReadyH.cons rfl (fun K hK=>?_) (AllReadyH.cons rfl (fun K hK=>?_) AllReadyH.nil))
     ·refine rmk 41 rfl rfl (run_mkVl rfl S0.length hs64 _ rfl rfl _) ?_
      refine hK.out _ _ ?_ (fun hHeld=>?_)
      ·have hbl:=hb1 (.cells (madeCells (vV v00) (S0.length * 3)) 52);have HB:=bt HB hbl;have HC:=HC.out.k hbl;have HF:=HF.out.k hbl;exact⟨HC.out,HF.out,HB.out⟩
      clear hK K
      (try simp only[Act.put,sA,sB,sC])
      have hV0:=Bx.new D1 (madeCells (vV v00) (S0.length * 3)) 52;have hV2:=hb1 (.cells (madeCells (vV v00) (S0.length * 3)) 52);have hV3:=Nat.le_of_eq (hzs (.cells (madeCells (vV v00) (S0.length * 3)) 52)).symm;generalize D1.alloc (.cells (madeCells (vV v00) (S0.length * 3)) 52)=V1 at hV0 hV2 hV3 hHeld ⊢;refine tkX 8 43 ?_;simp only[sA,sB,sC];refine rd1 9 fun K hK=>?_;refine rmk 12 rfl rfl (run_allocT (z:=#[.slice none 0 0,.int .i64 0,.slice none 0 0,.slice none 0 0,.bool false,.slice none 0 0,.slice none 0 0,.slice none 0 0,.slice none 0 0,.int .i64 0,.int .i64 0,.slice none 0 0,.slice none 0 0,.slice none 0 0,.slice none 0 0,.string ⟨#[]⟩,.int .i64 0,.slice none 0 0,.slice none 0 0,.int .i64 0,.slice none 0 0,.int .i64 0,.int .i64 0]) rfl (by kernel_rfl) _ _) ?_;refine hK.out _ _ ?_ (fun hHeld=>?_)
      ·have hbl:=hV2.alloc hV2.size (.cells #[.slice none 0 0,.int .i64 0,.slice none 0 0,.slice none 0 0,.bool false,.slice none 0 0,.slice none 0 0,.slice none 0 0,.slice none 0 0,.int .i64 0,.int .i64 0,.slice none 0 0,.slice none 0 0,.slice none 0 0,.slice none 0 0,.string ⟨#[]⟩,.int .i64 0,.slice none 0 0,.slice none 0 0,.int .i64 0,.slice none 0 0,.int .i64 0,.int .i64 0] 85);have HB:=bt HB hbl;have HC:=HC.out.k hbl;have HF:=HF.out.k hbl;exact⟨HC.out,HF.out,HB.out⟩
      clear hK K
      (try simp only[Act.put,sA,sB,sC])
      exact key D1.heap.size V1.heap.size () _ hHeld ⟨by omega,by omega,by omega,hV0.call ((Below.refl _ _).alloc (Nat.le_refl _) _),Bx.new _ _ _,hV2.alloc hV2.size _⟩
     ·refine rmk 12 rfl rfl (run_allocT (z:=#[.slice none 0 0,.int .i64 0,.slice none 0 0,.slice none 0 0,.bool false,.slice none 0 0,.slice none 0 0,.slice none 0 0,.slice none 0 0,.int .i64 0,.int .i64 0,.slice none 0 0,.slice none 0 0,.slice none 0 0,.slice none 0 0,.string ⟨#[]⟩,.int .i64 0,.slice none 0 0,.slice none 0 0,.int .i64 0,.slice none 0 0,.int .i64 0,.int .i64 0]) rfl (by kernel_rfl) _ _) ?_
      refine hK.out _ _ ?_ (fun hHeld=>?_)
      ·have hbl:=hb1 (.cells #[.slice none 0 0,.int .i64 0,.slice none 0 0,.slice none 0 0,.bool false,.slice none 0 0,.slice none 0 0,.slice none 0 0,.slice none 0 0,.int .i64 0,.int .i64 0,.slice none 0 0,.slice none 0 0,.slice none 0 0,.slice none 0 0,.string ⟨#[]⟩,.int .i64 0,.slice none 0 0,.slice none 0 0,.int .i64 0,.slice none 0 0,.int .i64 0,.int .i64 0] 85);have HB:=bt HB hbl;have HC:=HC.out.k hbl;have HF:=HF.out.k hbl;exact⟨HC.out,HF.out,HB.out⟩
      clear hK K
      (try simp only[Act.put,sA,sB,sC])
      have hV0:=Bx.new D1 (#[.slice none 0 0,.int .i64 0,.slice none 0 0,.slice none 0 0,.bool false,.slice none 0 0,.slice none 0 0,.slice none 0 0,.slice none 0 0,.int .i64 0,.int .i64 0,.slice none 0 0,.slice none 0 0,.slice none 0 0,.slice none 0 0,.string ⟨#[]⟩,.int .i64 0,.slice none 0 0,.slice none 0 0,.int .i64 0,.slice none 0 0,.int .i64 0,.int .i64 0]) 85;have hV2:=hb1 (.cells #[.slice none 0 0,.int .i64 0,.slice none 0 0,.slice none 0 0,.bool false,.slice none 0 0,.slice none 0 0,.slice none 0 0,.slice none 0 0,.int .i64 0,.int .i64 0,.slice none 0 0,.slice none 0 0,.slice none 0 0,.slice none 0 0,.string ⟨#[]⟩,.int .i64 0,.slice none 0 0,.slice none 0 0,.int .i64 0,.slice none 0 0,.int .i64 0,.int .i64 0] 85);have hV3:=Nat.le_of_eq (hzs (.cells #[.slice none 0 0,.int .i64 0,.slice none 0 0,.slice none 0 0,.bool false,.slice none 0 0,.slice none 0 0,.slice none 0 0,.slice none 0 0,.int .i64 0,.int .i64 0,.slice none 0 0,.slice none 0 0,.slice none 0 0,.slice none 0 0,.string ⟨#[]⟩,.int .i64 0,.slice none 0 0,.slice none 0 0,.int .i64 0,.slice none 0 0,.int .i64 0,.int .i64 0] 85)).symm;generalize D1.alloc (.cells #[.slice none 0 0,.int .i64 0,.slice none 0 0,.slice none 0 0,.bool false,.slice none 0 0,.slice none 0 0,.slice none 0 0,.slice none 0 0,.int .i64 0,.int .i64 0,.slice none 0 0,.slice none 0 0,.slice none 0 0,.slice none 0 0,.string ⟨#[]⟩,.int .i64 0,.slice none 0 0,.slice none 0 0,.int .i64 0,.slice none 0 0,.int .i64 0,.int .i64 0] 85)=V1 at hV0 hV2 hV3 hHeld ⊢;refine rd1 6 fun K hK=>?_;refine rmk 41 rfl rfl (run_mkVl rfl S0.length hs64 _ rfl rfl _) ?_;refine hK.out _ _ ?_ (fun hHeld=>?_)
      ·have hbl:=hV2.alloc hV2.size (.cells (madeCells (vV v00) (S0.length * 3)) 52);have HB:=bt HB hbl;have HC:=HC.out.k hbl;have HF:=HF.out.k hbl;exact⟨HC.out,HF.out,HB.out⟩
      clear hK K
      (try simp only[Act.put,sA,sB,sC])
      refine tkX 8 43 ?_;simp only[sA,sB,sC];exact key V1.heap.size D1.heap.size () _ hHeld ⟨by omega,by omega,by omega,Bx.new _ _ _,hV0.call ((Below.refl _ _).alloc (Nat.le_refl _) _),hV2.alloc hV2.size _⟩
    rintro b41 b12-W2 hHeld ⟨hne,hba,hca,hx,hy,hbl⟩
    have hlb41:w.heap.size+3≤b41:=by have:=HY.out.lt;omega
    have hlb12:w.heap.size+3≤b12:=by have:=HY.out.lt;omega
    have HC:=HC.out.k hbl;have HF:=HF.out.k hbl;have HY:=HY.out.k hbl;have HQ:=h_ (HQ.out.more hbl (b:=b41) (c:=b12) (by omega) (by omega));have HB:=bt HB hbl;have HSX:Hid (Bx b41 (madeCells (vV v00) (S0.length * 3)) 52 W2):=h_ hx;have HM:Hid (Bx b12 #[.slice none 0 0,.int .i64 0,.slice none 0 0,.slice none 0 0,.bool false,.slice none 0 0,.slice none 0 0,.slice none 0 0,.slice none 0 0,.int .i64 0,.int .i64 0,.slice none 0 0,.slice none 0 0,.slice none 0 0,.slice none 0 0,.string ⟨#[]⟩,.int .i64 0,.slice none 0 0,.slice none 0 0,.int .i64 0,.slice none 0 0,.int .i64 0,.int .i64 0] 85 W2):=h_ hy;clear hx hy hbl hba hca;simp only[List.foldl_cons,List.foldl_nil];simp only[sA,sB,sC];refine rd1 10 fun K hK=>?_;refine Bx.rst HM.out 85 0 (.agg (kvA ⟨sa,sc,ra,rc,wa,wac,none,0,none,0,none,0,none,0⟩ ⟨pa,pk,ia,ic,none,0,some ⟨b41,0,none⟩,S0.length,none,0,0⟩ ⟨c,rx0 M F,[],S0,0,0,most⟩)) (kvA ⟨sa,sc,ra,rc,wa,wac,none,0,none,0,none,0,none,0⟩ ⟨pa,pk,ia,ic,none,0,some ⟨b41,0,none⟩,S0.length,none,0,0⟩ ⟨c,rx0 M F,[],S0,0,0,most⟩) rfl (Nat.le_of_ble_eq_true rfl) (by kernel_rfl) rfl rfl rfl rfl rfl ?_;intro W1 hq p1;have HM:=h_ hq;clear hq;have HC:=HC.out.q p1;have HF:=HF.out.q p1;have HY:=HY.out.q p1;have HSX:=HSX.out.q p1;have HB:=pb HB p1;have HQ:=HQ.out.q p1;clear p1;refine hK.out _ _ (⟨HC.out,HF.out,HB.out⟩) fun hHeld=>?_;clear hK K
    (try simp only[Act.put])
    refine wpAnyH_done (by kernel_rfl) ?_ _;clear hHeld;have HO:=h_ (own_made (B:=w.heap.size) (by omega) hs64 HSX.out);clear HSX;go_wp2;have HO:=h_ (show W1.ownsRow w.heap.size 52 3 (.slice (some ⟨b41,0,none⟩) S0.length S0.length) S0.length (vlLs (cpL A S0.length 0)) from HO.out);go_loopw [13] (fun iv wr=>∃k:Nat,k≤A.length∧iv=.int .i64 k∧Hid (wr.ownsRow w.heap.size 52 3 (.slice (some ⟨b41,0,none⟩) S0.length S0.length) S0.length (vlLs (cpL A S0.length k)))∧Hid (Bx b12 (kvA ⟨sa,sc,ra,rc,wa,wac,none,0,none,0,none,0,none,0⟩ ⟨pa,pk,ia,ic,none,0,some ⟨b41,0,none⟩,S0.length,none,0,0⟩ ⟨c,rx0 M F,[],S0,0,0,most⟩) 85 wr)∧Hid (Bx w.heap.size #[.slice pa c.p.length pk,.int .i64 c.sl,.slice ia c.l.length ic] 25 wr)∧Hid (Bx (w.heap.size+2) #[.int .i64 0,.int .i64 0,.slice none 0 0,.slice none 0 0,.slice none 0 0,.slice none 0 0,.string ⟨#[]⟩,.int .i64 0] 37 wr)∧Hid (Stab (moreD (boxD D w 3) b41 b12) wr (fun W=>VArgs W pa ia aa sa ra wa pk ic ac sc rc wac c A M F))∧Below w.heap.size w wr) (fun iv _=>A.length-(intOf iv).toNat)
    case atStart=>exact⟨0,Nat.zero_le _,by first|exact True.intro|rfl,HO,HM,HC,HY,HQ,HB.out⟩
    case round =>
     clear HO HM HC HY HQ HB HF;obtain⟨k,hk,rfl,HO,HM,HC,HY,HQ,hB⟩:=hrel;have HB:=h_ hB;clear hB;by_cases hlt:k<A.length
     ·have hlt':(k:Int)<(A.length:Int):=by omega
      obtain⟨lb,lo,hax,-⟩:=vl_cells HQ.out.now.A hlt;have HAX:=h_ hax;clear hax;have hia:(0:Int)≤(k:Int)∧(k:Int)<(A.length:Int):=⟨by omega,by omega⟩;have hib:(0:Int)≤(k:Int)∧(k:Int)<(S0.length:Int):=⟨by omega,by omega⟩
      have hw1:IntKind.i64.wrap ((k:Int)+1)=(k:Int)+1:=by rw[IntKind.wrap_i64];omega
      have hsa:=HAX.out;subst hsa;clear HAX;go_wp2_with fail;refine wp_region_held_drew (S:=(fun w'=>Bx b12 (kvA ⟨sa,sc,ra,rc,wa,wac,none,0,none,0,none,0,none,0⟩ ⟨pa,pk,ia,ic,none,0,some ⟨b41,0,none⟩,S0.length,none,0,0⟩ ⟨c,rx0 M F,[],S0,0,0,most⟩) 85 w'∧VArgs w' pa ia (some ⟨lb,lo,none⟩) sa ra wa pk ic ac sc rc wac c A M F∧Below w.heap.size w w')) (by kernel_rfl) ?_ (fun hHeld=>?_)
      ·exact(show ((fun w'=>Bx b12 (kvA ⟨sa,sc,ra,rc,wa,wac,none,0,none,0,none,0,none,0⟩ ⟨pa,pk,ia,ic,none,0,some ⟨b41,0,none⟩,S0.length,none,0,0⟩ ⟨c,rx0 M F,[],S0,0,0,most⟩) 85 w'∧VArgs w' pa ia (some ⟨lb,lo,none⟩) sa ra wa pk ic ac sc rc wac c A M F∧Below w.heap.size w w')) wr.drew from by have hb1:=(Below.refl wr.heap.size wr).drew;have HC:=HC.out.k hb1;have HY:=HY.out.k hb1;have HM:=HM.out.k hb1;have HQ:=HQ.out.k hb1;have HB:=bt HB hb1;exact⟨HM.out,HQ.out.now,HB.out⟩)
      have hb1:=(Below.refl wr.heap.size wr).drew;have HC:=HC.out.k hb1;have HY:=HY.out.k hb1;have HM:=HM.out.k hb1;have HQ:=HQ.out.k hb1;have HB:=bt HB hb1;clear hb1;have HO:=h_ (own_below HO.out (Below.refl _ _).drew);generalize hWd:wr.drew=D2 at hHeld HB HC HY HM HQ HO ⊢;clear hWd;refine tkX 0 50 ?_;refine tkY 1 (v:=?vv9) 51 ?yy9 ?_
      case yy9 =>
       intro wq hSw;have z0:wq.cell? ⟨b12,18,none⟩=some (.slice (some ⟨b41,0,none⟩) S0.length S0.length):=hSw.1.cell 18;clear hSw;go_simp
       (try with_reducible rfl)
      refine tkX 2 52 ?_;refine tkX 3 53 ?_;refine tkX 4 54 ?_;refine tkX 5 55 ?_;refine tkY 6 (v:=?vv14) 56 ?yy14 ?_
      case yy14 =>
       intro wq hSw;obtain⟨b2,o2,e2,z0,z1,z2⟩:=vl_cells hSw.2.1.A hlt;cases e2;clear hSw;go_simp
       (try with_reducible rfl)
      refine tkX 7 57 ?_;simp only[sA,sB,sC];refine rd1 8 fun K hK=>?_;have hcl:(cpL A S0.length k).length=S0.length:=cpL_len (Nat.le_of_lt hlt) hA0
      have hO2:D2.ownsRow w.heap.size 52 3 (.slice (some ⟨b41,0,none⟩) (cpL A S0.length k).length S0.length) (cpL A S0.length k).length (vlLs (cpL A S0.length k)):=by rw[hcl];exact HO.out
      refine own_rst hO2 k (by omega) A[k] rfl rfl rfl rfl ?_;intro W7 ho7 p7;rw[cpL_set hlt hA0]at ho7;have HO:=h_ (show W7.ownsRow w.heap.size 52 3 (.slice (some ⟨b41,0,none⟩) S0.length S0.length) S0.length (vlLs (cpL A S0.length (k+1))) by rw[hcl]at ho7;exact ho7);have HC:=HC.out.q p7;have HM:=h_ (p7.bx (Ne.symm hne) HM.out);have HY:=HY.out.q p7;have HB:=pb HB p7;have HQ:=h_ (HQ.out.put p7 (by unfold moreD;simp));clear p7 ho7 hO2;refine hK.out _ _ (⟨HM.out,HQ.out.now,HB.out⟩) fun hHeld=>?_;clear hK K
      (try simp only[Act.put])
      refine wpAnyH_done (by kernel_rfl) ?_ _;clear hHeld;go_wp2;go_roundw
      case rel=>exact⟨k+1,hlt,by go_num,HO,HM,HC,HY,HQ,HB.out⟩
      case measure=>simp[intOf];omega
     have hlt':¬(k:Int)<(A.length:Int):=by omega
     have hkA:k=A.length:=by omega
     subst hkA;clear hk hlt
     have hslo:slo0 c A=cpL A S0.length A.length:=by rw[HSL2.out];unfold cpL;rw[List.take_length]
     have hsln:(slo0 c A).length=S0.length:=by rw[hslo];exact cpL_len (Nat.le_refl _) hA0
     have HQA:Hid (Stab (D4 D w b12) wr (fun W=>VArgs W pa ia aa sa ra wa pk ic ac sc rc wac c A M F)):=h_ (HQ.out.weak (by intro q hq;unfold D4 at hq;unfold moreD boxD;rcases hq with h|h|h;exact .inl (.inl h);exact .inr (.inr h);exact .inl (.inr h)))
     have hO3:wr.ownsRow w.heap.size 52 3 (.slice (some ⟨b41,0,none⟩) (cpL A S0.length A.length).length S0.length) (cpL A S0.length A.length).length (vlLs (cpL A S0.length A.length)):=by rw[cpL_len (Nat.le_refl _) hA0];exact HO.out
     have hOS:=own_stab2 hO3 (D:=D4 D w b12) (by unfold D4;rintro (h|h);have:=hD _ h;omega;omega);have HQM:Hid (Stab (D4 D w b12) wr (QIn ⟨sa,sc,ra,rc,wa,wac,none,0,none,0,none,0,none,0⟩ ⟨pa,pk,ia,ic,none,0,some ⟨b41,0,none⟩,S0.length,none,0,0⟩ (ry0 c A M F most))):=h_ (HQA.out.both hOS fun W h h2=>⟨⟨h.M,h.R,h.W,cellsAt_none _ _ _,Nat.zero_le _,cellsAt_none _ _ _,strS_nil2 _,strS_nil2 _⟩,h.P,h.I,cellsAt_none _ _ _,Nat.zero_le _,by show CellsAt W (.slice _ (slo0 c A).length _) (slo0 c A).length (vlLs (slo0 c A));rw[hslo];exact own_valAt h2⟩);have HIS:Hid (Stab (D4 D w b12) wr (fun W=>CellsAt W (.slice ia c.l.length ic) c.l.length (insLs c.l))):=h_ (HQA.out.imp fun W h=>h.I);have HM2:Hid (Bx b12 (kvA ⟨sa,sc,ra,rc,wa,wac,none,0,none,0,none,0,none,0⟩ ⟨pa,pk,ia,ic,none,0,some ⟨b41,0,none⟩,S0.length,none,0,0⟩ (ry0 c A M F most)) 85 wr):=h_ (by have h:=HM.out;unfold kvA at h ⊢;simp only[ry0];rw[hsln];exact h);have HTR:=h_ (own_nil wr (w.heap.size+3) 3 1);clear HQ HQA hOS HO HM hslo hsln;go_upto_region 8 with (fail);have hb12:=HM2.out.lt;have hbY:=HY.out.lt;go_loopg [] n (fun n wr=>∃(DL:Nat→Prop) (R:Ra) (Q:Qa) (Y:Ry) (tr:List Int),Hid (RunY most n Y tr E T)∧Hid (Y.c=c∧Y.most=most∧Q.zn=tr.length)∧Hid (∀j,DL j→j<wr.heap.size)∧Hid (DL b12∧DL (w.heap.size+2)∧∀j,D j→DL j)∧Hid (∀g,(Value.slice Q.za tr.length Q.zc).ownBlock=some g→DL g)∧Hid (Bx b12 (kvA R Q Y) 85 wr)∧Hid (Bx w.heap.size #[.slice pa c.p.length pk,.int .i64 c.sl,.slice ia c.l.length ic] 25 wr)∧Hid (Bx (w.heap.size+2) #[.int .i64 0,.int .i64 0,.slice none 0 0,.slice none 0 0,.slice none 0 0,.slice none 0 0,.string ⟨#[]⟩,.int .i64 0] 37 wr)∧Hid (Stab DL wr (QIn R Q Y))∧Hid (Stab DL wr (fun W=>CellsAt W (.slice ia c.l.length ic) c.l.length (insLs c.l)))∧Hid (wr.ownsRow (w.heap.size+3) 3 1 (.slice Q.za tr.length Q.zc) tr.length (intsL tr))∧Below w.heap.size w wr)
     case atStart=>exact⟨D4 D w b12,_,_,_,[],HRUN,h_ ⟨rfl,rfl,rfl⟩,h_ (by unfold D4;rintro j (h|h|h);have:=hD _ h;omega;omega;omega),h_ ⟨Or.inr (Or.inl rfl),Or.inr (Or.inr ⟨by omega,by omega⟩),fun j h=>Or.inl h⟩,h_ (fun g hg=>by cases hg),HM2,HC,HY,HQM,HIS,HTR,HB.out⟩
     case round =>
      clear HRUN HM2 HC HY HQM HIS HTR HB hb12 hbY;obtain⟨DL,R,Q,Y,tr,HR,HYC,HDL,HDB,HDG,HM,HC,HY,HQ,HI,HTR,hB⟩:=hrel;have HB:=h_ hB;clear hB;have HYc:=h_ HYC.out.1;have HYm:=h_ HYC.out.2.1;have HZN:=h_ HYC.out.2.2;clear HYC;have hrun:=HR.out.head;clear HR;rcases hrun with ⟨hst,rfl,rfl⟩|⟨hst,hcn,rfl,rfl⟩|⟨x,pc,hst,hc,hpc,hx,htl,hfin⟩
      ·skip
       have t1:(Y.x.st==0)=false:=by rw[beq_eq_false_iff_ne];exact hst
       clear hst;have x9:=HM.out.cl 9;go_upto_region 19 with (fail);clear x9 t1;go_wp2_with fail;refine wp_region_held_drew (S:=(fun w'=>Bx b12 (kvA R Q Y) 85 w'∧Below w.heap.size w w')) (by kernel_rfl) ?_ (fun hHeld=>?_)
       ·exact(show ((fun w'=>Bx b12 (kvA R Q Y) 85 w'∧Below w.heap.size w w')) wr.drew from by have hb1:=(Below.refl wr.heap.size wr).drew;have HM:=HM.out.k hb1;have HC:=HC.out.k hb1;have HY:=HY.out.k hb1;have HQ:=HQ.out.k hb1;have HI:=HI.out.k hb1;have HB:=bt HB hb1;exact⟨HM.out,HB.out⟩)
       have hb1:=(Below.refl wr.heap.size wr).drew;have HM:=HM.out.k hb1;have HC:=HC.out.k hb1;have HY:=HY.out.k hb1;have HQ:=HQ.out.k hb1;have HI:=HI.out.k hb1;have HTR:=h_ (own_below HTR.out hb1);have HDL:=h_ (fun (j:Nat) (hj:DL j)=>Nat.lt_of_lt_of_le (HDL.out j hj) hb1.size);have HB:=bt HB hb1;clear hb1;generalize hWd:wr.drew=D3 at hHeld HB HM HC HY HQ HI HTR HDL ⊢;clear hWd;refine tkX 0 111 ?_;refine tkX 1 112 ?_;simp only[sA,sB,sC];refine tkl2 2 113 (fun _ h=>h.1) 9 (efV (enE (Y.x)) (enV R (Y.x))) underlying37 ?_;refine tkX 3 114 ?_;refine tkY 4 (v:=?vv19) 115 ?yy19 ?_
       case yy19 =>
        intro wq hSw
        have z0:wq.cell? ⟨b12,20,none⟩=some (.slice Q.za (T).length Q.zc):=by rw[←HZN.out];exact hSw.1.cell 20
        clear hSw;go_simp
        (try with_reducible rfl)
       simp only[sA,sB,sC];refine rd1 5 fun K hK=>?_;refine Bx.rst HY.out 37 0 (.agg (efV (enE (Y.x)) (enV R (Y.x)))) (efV (enE (Y.x)) (enV R (Y.x))) rfl (Nat.le_of_ble_eq_true rfl) (by kernel_rfl) rfl rfl rfl rfl rfl ?_;intro W2 hq p2
       have hng:∀g,(Value.slice Q.za (T).length Q.zc).ownBlock=some g→g≠(w.heap.size+2):=fun g hg=>by have:=(HTR.out.lt g hg).1;omega
       have HY:=h_ hq;clear hq;have HM:=HM.out.q p2;have HC:=HC.out.q p2;have HB:=pb HB p2;have HQ:=h_ (HQ.out.put p2 HDB.out.2.1);have HI:=h_ (HI.out.put p2 HDB.out.2.1);have HTR:=h_ (own_putb HTR.out p2 hng);have HDL:Hid (∀j,DL j→j<W2.heap.size):=h_ (fun j hj=>by rw[p2.size];exact HDL.out j hj);clear hng p2;refine hK.out _ _ (⟨HM.out,HB.out⟩) fun hHeld=>?_;clear hK K
       (try simp only[Act.put])
       refine tkX 6 11 ?_;simp only[sA,sB,sC];refine wpAnyH_done (by kernel_rfl) ?_ _;clear hHeld;go_wp2;exact HY.out.ret1t rfl rfl rfl rfl underlying37 rfl (by kernel_rfl) ⟨enV R (Y.x),_,_,rfl,(HQ.out.weak HDB.out.2.2).imp fun W h=>h.r.en,(own_stab HTR.out (fun j h=>by have:=hD j h;omega)).imp fun W h=>own_cells h,HB.out⟩
      ·skip
       have t1:(Y.x.st==0)=true:=by rw[hst];rfl
       have t2:(Y.cnt==1024)=true:=by rw[hcn];rfl
       clear hst hcn;obtain⟨x9,x21⟩:=HM.out.d2 9 21;go_upto_region 10 with (fail);clear x9 x21 t1 t2;go_wp2_with (refine HM.out.wl 3 (mvA R Y.x) underlying83 ?_);refine(RAbort_any 1008 DL R Y.x _ HDL.out (HQ.out.imp fun W h=>h.r)).mono ?_;rintro er w1 ⟨R2,rfl,hr2,hb1⟩;have HM:=HM.out.k hb1;have HC:=HC.out.k hb1;have HY:=HY.out.k hb1;have HQ:=HQ.out.k hb1;have HI:=HI.out.k hb1;have HTR:=h_ (own_below HTR.out hb1);have HDL:=h_ (fun (j:Nat) (hj:DL j)=>Nat.lt_of_lt_of_le (HDL.out j hj) hb1.size);have HB:=bt HB hb1;clear hb1;have HR2:=h_ hr2;clear hr2;go_wp2_with (refine Bx.wst HM.out 83 3 (.agg (mvA R2 (abX 1008 Y.x))) (kvA R2 Q { Y with x:=abX 1008 Y.x }) rfl (Nat.le_of_ble_eq_true rfl) (by kernel_rfl) rfl rfl rfl rfl rfl ?_);intro W2 hq p2;have hng:∀g,(Value.slice Q.za (T).length Q.zc).ownBlock=some g→g≠b12:=own_not HTR.out HM.out (by decide);have HM:=h_ hq;clear hq;have HC:=HC.out.q p2;have HY:=HY.out.q p2;have HB:=pb HB p2;have HQ:=h_ (HQ.out.put p2 HDB.out.1);have HI:=h_ (HI.out.put p2 HDB.out.1);have HR2:=h_ (HR2.out.put p2 HDB.out.1);have HTR:=h_ (own_putb HTR.out p2 hng);have HDL:Hid (∀j,DL j→j<W2.heap.size):=h_ (fun j hj=>by rw[p2.size];exact HDL.out j hj);clear hng p2;go_wp2_with fail;refine wp_region_held_drew (S:=(fun w'=>Bx b12 (kvA R2 Q { Y with x:=abX 1008 Y.x }) 85 w'∧Below w.heap.size w w')) (by kernel_rfl) ?_ (fun hHeld=>?_)
       ·exact(show ((fun w'=>Bx b12 (kvA R2 Q { Y with x:=abX 1008 Y.x }) 85 w'∧Below w.heap.size w w')) W2.drew from by have hb1:=(Below.refl W2.heap.size W2).drew;have HM:=HM.out.k hb1;have HC:=HC.out.k hb1;have HY:=HY.out.k hb1;have HQ:=HQ.out.k hb1;have HI:=HI.out.k hb1;have HR2:=HR2.out.k hb1;have HB:=bt HB hb1;exact⟨HM.out,HB.out⟩)
       have hb1:=(Below.refl W2.heap.size W2).drew;have HM:=HM.out.k hb1;have HC:=HC.out.k hb1;have HY:=HY.out.k hb1;have HQ:=HQ.out.k hb1;have HI:=HI.out.k hb1;have HR2:=HR2.out.k hb1;have HTR:=h_ (own_below HTR.out hb1);have HDL:=h_ (fun (j:Nat) (hj:DL j)=>Nat.lt_of_lt_of_le (HDL.out j hj) hb1.size);have HB:=bt HB hb1;clear hb1;generalize hWd:W2.drew=D4 at hHeld HB HM HC HY HQ HI HR2 HTR HDL ⊢;clear hWd;refine tkX 0 111 ?_;refine tkX 1 112 ?_;simp only[sA,sB,sC];refine tkl2 2 113 (fun _ h=>h.1) 9 (efV (enE (abX 1008 Y.x)) (enV R2 (abX 1008 Y.x))) underlying37 ?_;refine tkX 3 114 ?_;refine tkY 4 (v:=?vv24) 115 ?yy24 ?_
       case yy24 =>
        intro wq hSw
        have z0:wq.cell? ⟨b12,20,none⟩=some (.slice Q.za (T).length Q.zc):=by rw[←HZN.out];exact hSw.1.cell 20
        clear hSw;go_simp
        (try with_reducible rfl)
       simp only[sA,sB,sC];refine rd1 5 fun K hK=>?_;refine Bx.rst HY.out 37 0 (.agg (efV (enE (abX 1008 Y.x)) (enV R2 (abX 1008 Y.x)))) (efV (enE (abX 1008 Y.x)) (enV R2 (abX 1008 Y.x))) rfl (Nat.le_of_ble_eq_true rfl) (by kernel_rfl) rfl rfl rfl rfl rfl ?_;intro W3 hq p3
       have hng:∀g,(Value.slice Q.za (T).length Q.zc).ownBlock=some g→g≠(w.heap.size+2):=fun g hg=>by have:=(HTR.out.lt g hg).1;omega
       have HY:=h_ hq;clear hq;have HM:=HM.out.q p3;have HC:=HC.out.q p3;have HB:=pb HB p3;have HQ:=h_ (HQ.out.put p3 HDB.out.2.1);have HI:=h_ (HI.out.put p3 HDB.out.2.1);have HR2:=h_ (HR2.out.put p3 HDB.out.2.1);have HTR:=h_ (own_putb HTR.out p3 hng);have HDL:Hid (∀j,DL j→j<W3.heap.size):=h_ (fun j hj=>by rw[p3.size];exact HDL.out j hj);clear hng p3;refine hK.out _ _ (⟨HM.out,HB.out⟩) fun hHeld=>?_;clear hK K
       (try simp only[Act.put])
       refine tkX 6 11 ?_;simp only[sA,sB,sC];refine wpAnyH_done (by kernel_rfl) ?_ _;clear hHeld;go_wp2;exact HY.out.ret1t rfl rfl rfl rfl underlying37 rfl (by kernel_rfl) ⟨enV R2 (abX 1008 Y.x),_,_,rfl,(HR2.out.weak HDB.out.2.2).imp fun W h=>h.en,(own_stab HTR.out (fun j h=>by have:=hD j h;omega)).imp fun W h=>own_cells h,HB.out⟩
      have HFIN:=h_ hfin;clear hfin;obtain⟨hxl0,hxe0⟩:=hx
      have hxl:pc<c.l.length:=by rw[←HYc.out];exact hxl0
      have hxe:c.l[pc]=x:=by rw[←hxe0];simp only[HYc.out]
      have HXE:=h_ hxe;have HPC:=h_ hpc;clear hxe hpc hxe0 hxl0
      have t1:(Y.x.st==0)=true:=by rw[hst];rfl
      have t2:(Y.cnt==1024)=false:=by rw[beq_eq_false_iff_ne];omega
      have hw1:IntKind.i64.wrap (Y.cnt+1)=Y.cnt+1:=by rw[IntKind.wrap_i64];omega
      clear hst hc;obtain⟨x9,x21⟩:=HM.out.d2 9 21;go_wp2_with (refine Bx.wst HM.out 3 21 (.int .i64 (Y.cnt+1)) (kvA R Q { Y with cnt:=Y.cnt+1 }) rfl (Nat.le_of_ble_eq_true rfl) (by kernel_rfl) rfl rfl rfl rfl rfl ?_);intro W2 hq p2;have hng:∀g,(Value.slice Q.za (tr).length Q.zc).ownBlock=some g→g≠b12:=own_not HTR.out HM.out (by decide);have HM:=h_ hq;clear hq;have HC:=HC.out.q p2;have HY:=HY.out.q p2;have HB:=pb HB p2;have HQ:=h_ (HQ.out.put p2 HDB.out.1);have HI:=h_ (HI.out.put p2 HDB.out.1);have HTR:=h_ (own_putb HTR.out p2 hng);have HDL:Hid (∀j,DL j→j<W2.heap.size):=h_ (fun j hj=>by rw[p2.size];exact HDL.out j hj);clear hng p2;clear x9 x21 t1 t2 hw1;have hkb:(0:Int)≤(pc:Int)∧(pc:Int)<(c.l.length:Int):=⟨by omega,by omega⟩;obtain⟨tr2,htr2⟩:=ex_ (trY most tr Y.pc);have HTY:=h_ htr2;clear htr2;obtain⟨ib,io,hix,c0,c1,c2,c3,c4⟩:=ins_cells HI.out.now hxl;rw[HXE.out]at c0 c1 c2 c3 c4;clear c1 c2 c3 c4
      have x2:W2.cell? ⟨w.heap.size,2,none⟩=some (.slice (some ⟨ib,io,none⟩) c.l.length ic):=by rw[←hix];exact HC.out.cell 2
      have x19:W2.cell? ⟨b12,19,none⟩=some (.int .i64 (pc:Int)):=by rw[←HPC.out];exact HM.out.cell 19
      clear hix
      go_upto_if 82 with (fail)
      clear x2 x19 c0;go_cut [] from 58 to 110 (fun W=>Hid (∀j,DL j→j<W.heap.size)∧Hid (Bx b12 (kvA R Q { Y with cnt:=cnY x Y.cnt }) 85 W)∧Hid (Bx w.heap.size #[.slice pa c.p.length pk,.int .i64 c.sl,.slice ia c.l.length ic] 25 W)∧Hid (Bx (w.heap.size+2) #[.int .i64 0,.int .i64 0,.slice none 0 0,.slice none 0 0,.slice none 0 0,.slice none 0 0,.string ⟨#[]⟩,.int .i64 0] 37 W)∧Hid (Stab DL W (QIn R Q Y))∧Hid (Stab DL W (fun W=>CellsAt W (.slice ia c.l.length ic) c.l.length (insLs c.l)))∧Hid (W.ownsRow (w.heap.size+3) 3 1 (.slice Q.za (tr).length Q.zc) (tr).length (intsL (tr)))∧Below w.heap.size w W)
      case first =>
       by_cases h14:x.op=14
       ·have t14:(x.op==14)=true:=by rw[h14];rfl
        have hcn:cnY x Y.cnt=0:=if_pos h14;go_wp2_with (refine Bx.wst HM.out 3 21 (.int .i64 0) (kvA R Q { Y with cnt:=0 }) rfl (Nat.le_of_ble_eq_true rfl) (by kernel_rfl) rfl rfl rfl rfl rfl ?_);intro W3 hq p3;have hng:∀g,(Value.slice Q.za (tr).length Q.zc).ownBlock=some g→g≠b12:=own_not HTR.out HM.out (by decide);have HM:=h_ hq;clear hq;have HC:=HC.out.q p3;have HY:=HY.out.q p3;have HB:=pb HB p3;have HQ:=h_ (HQ.out.put p3 HDB.out.1);have HI:=h_ (HI.out.put p3 HDB.out.1);have HTR:=h_ (own_putb HTR.out p3 hng);have HDL:Hid (∀j,DL j→j<W3.heap.size):=h_ (fun j hj=>by rw[p3.size];exact HDL.out j hj);clear hng p3;go_wp2_with fail
        go_meet
        rw[hcn];exact⟨HDL,HM,HC,HY,HQ,HI,HTR,HB.out⟩
       ·have t14:(x.op==14)=false:=by rw[beq_eq_false_iff_ne];exact h14
        have hcn:cnY x Y.cnt=Y.cnt+1:=if_neg h14;go_wp2_with fail
        go_meet
        rw[hcn];exact⟨HDL,HM,HC,HY,HQ,HI,HTR,HB.out⟩
      case rest =>
       clear HDL HM HC HY HQ HI HTR HB;obtain⟨HDL,HM,HC,HY,HQ,HI,HTR,hB⟩:=hcut;have HB:=h_ hB;clear hB
       rename World=>wt
       have x20:wt.cell? ⟨b12,20,none⟩=some (.slice Q.za (tr).length Q.zc):=by rw[←HZN.out];exact HM.out.cell 20
       go_upto_if 88 with (fail)
       clear x20;go_cut [] from 58 to 110 (fun W=>∃(DM:Nat→Prop) (Q2:Qa),Hid (DM b12∧DM (w.heap.size+2)∧∀j,D j→DM j)∧Hid (∀g,(Value.slice Q2.za tr2.length Q2.zc).ownBlock=some g→DM g)∧Hid (Q2.zn=tr2.length)∧Hid (∀j,DM j→j<W.heap.size)∧Hid (Bx b12 (kvA R Q2 { Y with cnt:=cnY x Y.cnt }) 85 W)∧Hid (Bx w.heap.size #[.slice pa c.p.length pk,.int .i64 c.sl,.slice ia c.l.length ic] 25 W)∧Hid (Bx (w.heap.size+2) #[.int .i64 0,.int .i64 0,.slice none 0 0,.slice none 0 0,.slice none 0 0,.slice none 0 0,.string ⟨#[]⟩,.int .i64 0] 37 W)∧Hid (Stab DM W (QIn R Q2 Y))∧Hid (Stab DM W (fun W=>CellsAt W (.slice ia c.l.length ic) c.l.length (insLs c.l)))∧Hid (W.ownsRow (w.heap.size+3) 3 1 (.slice Q2.za (tr2).length Q2.zc) (tr2).length (intsL (tr2)))∧Below w.heap.size w W)
       case first =>
        have x20:wt.cell? ⟨b12,20,none⟩=some (.slice Q.za (tr).length Q.zc):=by rw[←HZN.out];exact HM.out.cell 20
        by_cases hmo:(tr.length:Int)<most
        ·have ht2:tr2=tr++[(pc:Int)]:=HTY.out.symm.trans (by rw[HPC.out];exact if_pos hmo)
         subst ht2;obtain⟨i0,hi,hz0,hz1,hz2⟩:=info_parts infoI
         have x19:wt.cell? ⟨b12,19,none⟩=some (.int .i64 (pc:Int)):=by rw[←HPC.out];exact HM.out.cell 19
         go_wp2_with (at_builtin;refine wpList_append_lies (wt.alloc (.cells #[.int .i64 (pc:Int)] 3)) rfl _ _ 22 rfl (w.heap.size+3) 3 i0 (.int .i64 0) 1 8 underlying22 hi hz0 hz1 hz2 rfl (by decide) (.slice Q.za tr.length Q.zc) tr.length (intsL tr) rfl (HTR.out.alloc _) ⟨wt.heap.size,0,none⟩ 1 1 [.int .i64 (pc:Int)] rfl rfl (World.news_of_block (heap_alloc_new wt _)) (by intro u hu;rw[List.mem_singleton]at hu;rw[hu];rfl) (by decide) (by unfold maxLen;omega) (by omega) (by simp;have:=HY.out.lt;omega) _ rfl ?_);intro g5 cap5 w5 hown5 hgrow hat hlt5;have hal:=(Below.refl wt.heap.size wt).alloc (Nat.le_refl _) (.cells #[.int .i64 (pc:Int)] 3);have hnb:=own_not HTR.out HM.out (by decide);have hnl:∀g,(Value.slice Q.za (tr).length Q.zc).ownBlock=some g→w.heap.size+3≤g:=fun g hg=>(HTR.out.lt g hg).1;have HM:=h_ ((HM.out.call hal).kept hgrow (fun e=>hnb _ e rfl));have HC:=h_ ((HC.out.call hal).kept hgrow (fun e=>by have:=hnl _ e;omega));have HY:=h_ ((HY.out.call hal).kept hgrow (fun e=>by have:=hnl _ e;omega));have hbd:DL g5∨(wt.alloc (.cells #[.int .i64 (pc:Int)] 3)).heap.size≤g5:=hat.elim (fun e=>.inl (HDG.out g5 e)) (fun e=>.inr (by rw[e];exact Nat.le_of_eq (by simp)));have HQ:=h_ (((HQ.out.call hal).app hgrow HDG.out hbd).imp fun W h=>(⟨h.r,h.P,h.I,h.k,h.kc,h.l⟩:QIn R { Q with za:=some ⟨g5,0,none⟩,zn:=tr.length+1,zc:=cap5 } Y W));have HI:=h_ ((HI.out.call hal).app hgrow HDG.out hbd);have hdl:∀j,(DL j∨j=g5)→j<w5.heap.size:=fun j hj=>hj.elim (fun h=>Nat.lt_of_lt_of_le (HDL.out j h) (Nat.le_trans hal.size hgrow.size)) (fun h=>h ▸ hlt5);have HB:=h_ ((btrans HB.out HB.out.size hal).grown hgrow (Nat.le_trans HB.out.size hal.size) (fun g hg=>by have:=hnl g hg;omega));obtain⟨DM,hD2⟩:∃DM:Nat→Prop,(fun k=>DL k∨k=g5)=DM:=⟨_,rfl⟩
         have HDL:Hid (∀j,DM j→j<w5.heap.size):=h_ (by rw[←hD2];exact hdl);have HDB2:Hid (DM b12∧DM (w.heap.size+2)∧∀j,D j→DM j):=h_ (by rw[←hD2];exact⟨Or.inl HDB.out.1,Or.inl HDB.out.2.1,fun j h=>Or.inl (HDB.out.2.2 j h)⟩);have hdg2:DM g5:=by rw[←hD2];exact Or.inr rfl
         rw[hD2]at HQ HI;clear HDB hdl hbd hD2 hnb hnl hat hlt5 hgrow hal x19 x20;have HDB:=HDB2;clear HDB2
         have hzn2:(tr++[(pc:Int)]).length=tr.length+1:=by rw[List.length_append];rfl
         have HTR2:Hid (w5.ownsRow (w.heap.size+3) 3 1 (.slice (some ⟨g5,0,none⟩) (tr++[(pc:Int)]).length cap5) (tr++[(pc:Int)]).length (intsL (tr++[(pc:Int)]))):=h_ (by rw[intsL_snoc,hzn2];exact hown5);clear hown5 HTR;have HTR:=HTR2;clear HTR2;have HDG2:Hid (∀g,(Value.slice (some ⟨g5,0,none⟩) (tr++[(pc:Int)]).length cap5).ownBlock=some g→DM g):=h_ (fun g hg=>by have e:g5=g:=(by simpa[Value.ownBlock] using hg);exact e ▸ hdg2);clear HDG hdg2;have HDG:=HDG2;clear HDG2;go_wp2_with (refine Bx.wst HM.out 22 20 (.slice (some ⟨g5,0,none⟩) (tr.length+1) cap5) (kvA R { Q with za:=some ⟨g5,0,none⟩,zn:=tr.length+1,zc:=cap5 } { Y with cnt:=cnY x Y.cnt }) rfl (Nat.le_of_ble_eq_true rfl) (by kernel_rfl) rfl rfl rfl rfl rfl ?_);intro W4 hq p4;have hng:∀g,(Value.slice (some ⟨g5,0,none⟩) (tr++[(pc:Int)]).length cap5).ownBlock=some g→g≠b12:=own_not HTR.out HM.out (by decide);have HM:=h_ hq;clear hq;have HC:=HC.out.q p4;have HY:=HY.out.q p4;have HB:=pb HB p4;have HQ:=h_ (HQ.out.put p4 HDB.out.1);have HI:=h_ (HI.out.put p4 HDB.out.1);have HTR:=h_ (own_putb HTR.out p4 hng);have HDL:Hid (∀j,DM j→j<W4.heap.size):=h_ (fun j hj=>by rw[p4.size];exact HDL.out j hj);clear hng p4;have HZN:Hid (({ Q with za:=some ⟨g5,0,none⟩,zn:=tr.length+1,zc:=cap5 }:Qa).zn=(tr++[(pc:Int)]).length):=h_ hzn2.symm;go_wp2_with fail
         go_meet
         exact⟨DM,{ Q with za:=some ⟨g5,0,none⟩,zn:=tr.length+1,zc:=cap5 },HDB,HDG,HZN,HDL,HM,HC,HY,HQ,HI,HTR,HB.out⟩
        ·have ht2:tr2=tr:=HTY.out.symm.trans (if_neg hmo)
         go_wp2_with fail
         go_meet
         rw[ht2];exact⟨DL,Q,HDB,HDG,HZN,HDL,HM,HC,HY,HQ,HI,HTR,HB.out⟩
       case rest =>
        clear HDL HM HC HY HQ HI HTR HB HDB HDG HZN;obtain⟨DM,Q2,HDB,HDG,HZN,HDL,HM,HC,HY,HQ,HI,HTR,hB⟩:=hcut;have HB:=h_ hB;clear hB;obtain⟨ib,io,hix,c0,c1,c2,c3,c4⟩:=ins_cells HI.out.now hxl;rw[HXE.out]at c0 c1 c2 c3 c4;clear c1 c2 c3 c4
        have x2:wc.cell? ⟨w.heap.size,2,none⟩=some (.slice (some ⟨ib,io,none⟩) c.l.length ic):=by rw[←hix];exact HC.out.cell 2
        have x19:wc.cell? ⟨b12,19,none⟩=some (.int .i64 (pc:Int)):=by rw[←HPC.out];exact HM.out.cell 19
        clear hix;rcases HFIN.out with ⟨hop,rfl,hT⟩|⟨n0,Y2,rfl,hop,hp2,hls,hsl,hrl,hs,ih⟩
        ·have hT2:=h_ (hT.trans HTY.out);clear hT
         have t13:(x.op==13)=true:=by rw[hop];rfl
         go_upto_region 17 with (fail);clear t13 x2 x19 c0;go_wp2_with fail;refine wp_region_held_drew (S:=(fun w'=>Bx b12 (kvA R Q2 { Y with cnt:=cnY x Y.cnt }) 85 w'∧Below w.heap.size w w')) (by kernel_rfl) ?_ (fun hHeld=>?_)
         ·exact(show ((fun w'=>Bx b12 (kvA R Q2 { Y with cnt:=cnY x Y.cnt }) 85 w'∧Below w.heap.size w w')) wc.drew from by have hb1:=(Below.refl wc.heap.size wc).drew;have HM:=HM.out.k hb1;have HC:=HC.out.k hb1;have HY:=HY.out.k hb1;have HQ:=HQ.out.k hb1;have HI:=HI.out.k hb1;have HB:=bt HB hb1;exact⟨HM.out,HB.out⟩)
         have hb1:=(Below.refl wc.heap.size wc).drew;have HM:=HM.out.k hb1;have HC:=HC.out.k hb1;have HY:=HY.out.k hb1;have HQ:=HQ.out.k hb1;have HI:=HI.out.k hb1;have HTR:=h_ (own_below HTR.out hb1);have HDL:=h_ (fun (j:Nat) (hj:DM j)=>Nat.lt_of_lt_of_le (HDL.out j hj) hb1.size);have HB:=bt HB hb1;clear hb1;generalize hWd:wc.drew=D5 at hHeld HB HM HC HY HQ HI HTR HDL ⊢;clear hWd;refine tkX 0 104 ?_;simp only[sA,sB,sC];refine tkl2 1 105 (fun _ h=>h.1) 3 (mvA R Y.x) underlying83 ?_;refine tkX 3 107 ?_;refine tkY 4 (v:=?vv28) 108 ?yy28 ?_
         case yy28 =>
          intro wq hSw
          have z0:wq.cell? ⟨b12,20,none⟩=some (.slice Q2.za (tr2).length Q2.zc):=by rw[←HZN.out];exact hSw.1.cell 20
          clear hSw;go_simp
          (try with_reducible rfl)
         simp only[sA,sB,sC];refine rd1 2 fun K hK=>?_;go_simp;refine(RCommit_any DM R Y.x _ HDL.out (HQ.out.imp fun W h=>h.r)).mono ?_;rintro er w1 ⟨ev,rfl,he2,hb1⟩;have HM:=HM.out.k hb1;have HC:=HC.out.k hb1;have HY:=HY.out.k hb1;have HQ:=HQ.out.k hb1;have HI:=HI.out.k hb1;have HTR:=h_ (own_below HTR.out hb1);have HDL:=h_ (fun (j:Nat) (hj:DM j)=>Nat.lt_of_lt_of_le (HDL.out j hj) hb1.size);have HB:=bt HB hb1;clear hb1;refine hK.out _ _ (⟨HM.out,HB.out⟩) fun hHeld=>?_;clear hK K
         (try simp only[Act.put,sA,sB,sC])
         obtain⟨eo,erv,ep,ew⟩:=ev;obtain⟨oa,oc,ho,-⟩:=id he2.now.o;obtain⟨ea,ec,hr⟩:=he2.now.r.len2;obtain⟨ua,uc,hp⟩:=he2.now.p.len2;obtain⟨xa,xc,hw,-⟩:=id he2.now.w;simp only at ho hr hp hw;subst ho hr hp hw;have HE2:=h_ he2;clear he2;refine rd1 5 fun K hK=>?_;refine Bx.rst HY.out 37 0 (.agg (efV (cmE Y.x) ⟨.slice oa (cmE Y.x).out.length oc,.slice ea (cmE Y.x).rds.length ec,.slice ua (cmE Y.x).puts.length uc,.slice xa (cmE Y.x).wrs.length xc⟩)) (efV (cmE Y.x) ⟨.slice oa (cmE Y.x).out.length oc,.slice ea (cmE Y.x).rds.length ec,.slice ua (cmE Y.x).puts.length uc,.slice xa (cmE Y.x).wrs.length xc⟩) rfl (Nat.le_of_ble_eq_true rfl) (by kernel_rfl) rfl rfl rfl rfl rfl ?_;intro W3 hq p3
         have hng:∀g,(Value.slice Q2.za (tr2).length Q2.zc).ownBlock=some g→g≠(w.heap.size+2):=fun g hg=>by have:=(HTR.out.lt g hg).1;omega
         have HY:=h_ hq;clear hq;have HM:=HM.out.q p3;have HC:=HC.out.q p3;have HB:=pb HB p3;have HQ:=h_ (HQ.out.put p3 HDB.out.2.1);have HI:=h_ (HI.out.put p3 HDB.out.2.1);have HE2:=h_ (HE2.out.put p3 HDB.out.2.1);have HTR:=h_ (own_putb HTR.out p3 hng);have HDL:Hid (∀j,DM j→j<W3.heap.size):=h_ (fun j hj=>by rw[p3.size];exact HDL.out j hj);clear hng p3;refine hK.out _ _ (⟨HM.out,HB.out⟩) fun hHeld=>?_;clear hK K
         (try simp only[Act.put])
         refine tkX 6 11 ?_;simp only[sA,sB,sC];refine wpAnyH_done (by kernel_rfl) ?_ _;clear hHeld;go_wp2;exact HY.out.ret1t rfl rfl rfl rfl underlying37 rfl (by kernel_rfl) ⟨⟨.slice oa (cmE Y.x).out.length oc,.slice ea (cmE Y.x).rds.length ec,.slice ua (cmE Y.x).puts.length uc,.slice xa (cmE Y.x).wrs.length xc⟩,Q2.za,Q2.zc,by rw[hT2.out]<;>rfl,HE2.out.weak HDB.out.2.2,by rw[hT2.out];exact(own_stab HTR.out (fun j h=>by have:=hD j h;omega)).imp fun W h=>own_cells h,HB.out⟩
        ·have HS:=h_ hs;have HIH:=h_ ih;have HRL:=h_ hrl;clear hs ih hrl
         have t13:(x.op==13)=false:=by rw[beq_eq_false_iff_ne];exact hop
         go_upto_region 18 with (fail);clear t13 x2 x19 c0;go_wp2_with (refine HM.out.wl 0 (kvA R Q2 { Y with cnt:=cnY x Y.cnt }) underlying85 ?_);refine(Rstep_any x pc { Y with cnt:=cnY x Y.cnt } Y2 HS.out DM R Q2 _ HDL.out (HQ.out.imp fun W h=>⟨h.r,h.P,h.I,h.k,h.kc,h.l⟩) HRL.out HPC.out ⟨by rw[HYc.out];exact hxl,by simp only[HYc.out];exact HXE.out⟩ hp2 hls hsl).mono ?_;rintro er w1 ⟨R2,Q3,rfl,hr2,hb1,hz⟩;have HM:=HM.out.k hb1;have HC:=HC.out.k hb1;have HY:=HY.out.k hb1;have HQ:=HQ.out.k hb1;have HI:=HI.out.k hb1;have HTR:=h_ (own_below HTR.out hb1);have HDL:=h_ (fun (j:Nat) (hj:DM j)=>Nat.lt_of_lt_of_le (HDL.out j hj) hb1.size);have HB:=bt HB hb1;clear hb1;have HR2:=h_ hr2;clear hr2;obtain⟨z1,z2,z3⟩:=hz;have HZ1:=h_ z1;have HZ2:=h_ z2;have HZ3:=h_ z3;clear z1 z2 z3;go_wp2_with (refine Bx.wst HM.out 85 0 (.agg (kvA R2 Q3 Y2)) (kvA R2 Q3 Y2) rfl (Nat.le_of_ble_eq_true rfl) (by kernel_rfl) rfl rfl rfl rfl rfl ?_);intro W3 hq p3;have hng:∀g,(Value.slice Q2.za (tr2).length Q2.zc).ownBlock=some g→g≠b12:=own_not HTR.out HM.out (by decide);have HM:=h_ hq;clear hq;have HC:=HC.out.q p3;have HY:=HY.out.q p3;have HB:=pb HB p3;have HR2:=h_ (HR2.out.put p3 HDB.out.1);have HI:=h_ (HI.out.put p3 HDB.out.1);have HTR:=h_ (own_putb HTR.out p3 hng);have HDL:Hid (∀j,DM j→j<W3.heap.size):=h_ (fun j hj=>by rw[p3.size];exact HDL.out j hj);clear hng p3;have hk:=stepY_keep HS.out;have HK:=h_ hk;clear hk;go_wp2;go_roundg n0
         case measure=>omega
         case rel=>exact⟨DM,R2,Q3,Y2,tr2,h_ (by have h:=HIH.out;rw[HTY.out]at h;exact h),h_ ⟨HK.out.1.trans HYc.out,HK.out.2.trans HYm.out,HZ2.out.trans HZN.out⟩,HDL,HDB,h_ (by rw[HZ1.out,HZ3.out];exact HDG.out),HM,HC,HY,HR2,HI,h_ (by rw[HZ1.out,HZ3.out];exact HTR.out),HB.out⟩
structure SzI (m:Mc) (N:Nat):Prop where
 o:m.out.length≤N
 p:m.puts.length≤N
 w0:m.done=false→m.wrs=[]
 w:m.wrs.length≤N
theorem SzI.more{m:Mc}{N N':Nat}(h:SzI m N)(hn:N≤N'):SzI m N':=⟨Nat.le_trans h.o hn,Nat.le_trans h.p hn,h.w0,Nat.le_trans h.w hn⟩
theorem SzI.same{m m2:Mc}{N:Nat}(h:SzI m N)(e1:m2.out=m.out)(e2:m2.puts=m.puts)(e3:m2.wrs=m.wrs)(e4:m2.done=m.done):SzI m2 (N+1):=
 ⟨by rw[e1];exact Nat.le_succ_of_le h.o,by rw[e2];exact Nat.le_succ_of_le h.p,by rw[e3,e4];exact h.w0,by rw[e3];exact Nat.le_succ_of_le h.w⟩
theorem SzI.ends{m:Mc}{N:Nat}(h:SzI m N)(hd:m.done=false)(st c:Int)(k:List UInt8):SzI (endM st c k m) N:=by
 have hw:=h.w0 hd;refine⟨?_,by rw[(endM_rp st c k m).2];exact h.p,fun q=>(by rw[endM_done]at q;cases q),?_⟩
 ·unfold endM;split
  ·exact h.o
  ·exact Nat.zero_le _
 ·unfold endM;split
  ·show (m.wrs++_).length≤N
   rw[hw,List.nil_append,List.length_map];exact h.p
  ·exact h.w
theorem SzI.endm{m m2:Mc}{N:Nat}(h:SzI m N)(hd:m.done=false)(st c:Int)(k:List UInt8)(e1:m2.out=m.out)(e2:m2.puts=m.puts)(e3:m2.wrs=m.wrs)(e4:m2.done=m.done):SzI (endM st c k m2) (N+1):=
 (h.same e1 e2 e3 e4).ends (e4.trans hd) st c k
theorem SzI.store{m m2:Mc}{N:Nat}(h:SzI m N)(hd:m.done=false)(F:Ft)(k v:Vl)(e1:m2.out=m.out)(e2:m2.puts=m.puts)(e3:m2.wrs=m.wrs)(e4:m2.done=m.done):SzI (storeM F k v m2) (N+1):=by
 unfold storeM;split
 ·exact h.endm hd _ _ _ e1 e2 e3 e4
 split
 ·exact h.endm hd _ _ _ e1 e2 e3 e4
 split
 ·exact h.endm hd _ _ _ e1 e2 e3 e4
 ·have hs:=h.same e1 e2 e3 e4
  refine⟨hs.o,?_,hs.w0,hs.w⟩;have:=withK_len m2.puts k.s;rw[e2]at this;have:=h.p;show (withK m2.puts k.s).length≤_;rw[e2];omega
theorem SzI.step{M:List Pr}{F:Ft}{x:Ins}{m:Mc}{N:Nat}(h:SzI m N)(hd:m.done=false):SzI (stepM M F x m) (N+1):=by
 have key:∀m',stepM M F x m=m'→SzI m' (N+1):=by
  intro m' e;unfold stepM at e;by_cases e1:x.op=1
  ·rw[if_pos e1]at e;subst e
   exact h.same rfl rfl rfl rfl
  rw[if_neg e1]at e;by_cases e2:x.op=2
  ·rw[if_pos e2]at e;subst e
   exact h.same rfl rfl rfl rfl
  rw[if_neg e2]at e;by_cases e3:x.op=3
  ·rw[if_pos e3]at e;subst e
   exact h.same rfl rfl rfl rfl
  rw[if_neg e3]at e;by_cases e4:x.op=4
  ·rw[if_pos e4]at e;subst e
   exact h.same rfl rfl rfl rfl
  rw[if_neg e4]at e;by_cases e5:x.op=5
  ·rw[if_pos e5]at e;subst e
   unfold opM;generalize (opEv M F (dropM m (arS x.a).toNat).own x.a (topV m (arS x.a).toNat)).1=r
   have hs:∀m2:Mc,m2.out=m.out→m2.puts=m.puts→m2.wrs=m.wrs→m2.done=m.done→SzI (resM r m2) (N+1):=by
    intro m2 q1 q2 q3 q4
    cases r with
    | ok v=>exact h.same q1 q2 q3 q4
    | ab c=>exact h.endm hd _ _ _ q1 q2 q3 q4
    | re k=>exact h.endm hd _ _ _ q1 q2 q3 q4
   by_cases hh:hidB (dropM m (arS x.a).toNat).own x.a ((topV m (arS x.a).toNat).headD v00)=true
   ·rw[if_pos hh];exact hs _ rfl rfl rfl rfl
   ·rw[if_neg hh];exact hs _ rfl rfl rfl rfl
  rw[if_neg e5]at e;by_cases e6:x.op=6
  ·rw[if_pos e6]at e;subst e
   exact h.same rfl rfl rfl rfl
  rw[if_neg e6]at e;by_cases e7:x.op=7
  ·rw[if_pos e7]at e;subst e
   unfold falM;split
   ·exact h.endm hd _ _ _ rfl rfl rfl rfl
   ·exact h.same rfl rfl rfl rfl
  rw[if_neg e7]at e;by_cases e8:x.op=8
  ·rw[if_pos e8]at e;subst e
   unfold putM;split
   ·exact h.endm hd _ _ _ rfl rfl rfl rfl
   ·exact h.store hd _ _ _ rfl rfl rfl rfl
  rw[if_neg e8]at e;by_cases e9:x.op=9
  ·rw[if_pos e9]at e;subst e
   exact h.store hd _ _ _ rfl rfl rfl rfl
  rw[if_neg e9]at e;by_cases e10:x.op=10
  ·rw[if_pos e10]at e;subst e
   unfold emitM;split
   ·exact h.endm hd _ _ _ rfl rfl rfl rfl
   split
   ·exact h.endm hd _ _ _ rfl rfl rfl rfl
   ·have hs:=h.same (m2:=popM m) rfl rfl rfl rfl
    refine⟨?_,hs.p,hs.w0,hs.w⟩;show ((popM m).out++[popV m]).length≤_;rw[List.length_append];have:=h.o;show m.out.length+1≤_;omega
  rw[if_neg e10]at e;by_cases e11:x.op=11
  ·rw[if_pos e11]at e;subst e
   exact h.endm hd _ _ _ rfl rfl rfl rfl
  rw[if_neg e11]at e;by_cases e12:x.op=12
  ·rw[if_pos e12]at e;subst e
   unfold loopM;split
   ·exact h.endm hd _ _ _ rfl rfl rfl rfl
   split
   ·exact h.endm hd _ _ _ rfl rfl rfl rfl
   ·exact h.same rfl rfl rfl rfl
  rw[if_neg e12]at e;by_cases e13:x.op=13
  ·rw[if_pos e13]at e;subst e
   exact h.endm hd _ _ _ rfl rfl rfl rfl
  rw[if_neg e13]at e;by_cases e14:x.op=14
  ·rw[if_pos e14]at e;subst e
   unfold tickM;split
   ·exact h.endm hd _ _ _ rfl rfl rfl rfl
   ·exact h.same rfl rfl rfl rfl
  rw[if_neg e14]at e;subst e;exact h.same rfl rfl rfl rfl
 exact key _ rfl
theorem SzI.run{M:List Pr}{F:Ft}{l:List Ins}{stop:List Int→Bool}:∀(f:Nat) (m:Mc) (pc:Int) (n:Nat) (tr:List Int) (N:Nat),SzI m N→SzI (runM M F l stop f m pc n tr).1 (N+f)
 | 0,_,_,_,_,_,h=>h
 | f+1,m,pc,n,tr,N,h=>by
  have hm:SzI m (N+(f+1)):=h.more (by omega);unfold runM;by_cases hd:m.done=true
  ·rw[if_pos hd];exact hm
  rw[if_neg hd]
  have hd2:m.done=false:=by simpa using hd
  by_cases hn:n=1024
  ·rw[if_pos hn];exact hm.ends hd2 2 1008 []
  rw[if_neg hn];by_cases hs:stop tr=true
  ·rw[if_pos hs];exact hm
  rw[if_neg hs];have:=SzI.run (M:=M) (F:=F) (l:=l) (stop:=stop) f (stepM M F (l.getD pc.toNat ins0) m) (nextI (l.getD pc.toNat ins0) pc m) (cntI (l.getD pc.toNat ins0) n) (tr++[pc]) (N+1) (h.step hd2)
  rwa [show N+1+f=N+(f+1) by omega]at this
theorem mu_start(A:List Vl):muM (mc0 A) 0+1≤17000000:=by
 have:muM (mc0 A) 0=1+((16385-0) * 1026+(1025-0)):=rfl;rw[this];omega
theorem runS_size(c:Cd)(A:List Vl)(M:List Pr)(F:Ft):EfS (runS c A M F):=by
 unfold runS;by_cases hs:staB c A M F=true
 ·rw[if_pos hs]
  have h1:=SzI.run (M:=M) (F:=F) (l:=c.l) (stop:=fun _=>false) (muM (mc0 A) 0+1) (mc0 A) 0 0 [] 0 ⟨Nat.le_refl _,Nat.le_refl _,fun _=>rfl,Nat.le_refl _⟩;have h2:=KpI.run (M:=M) (F:=F) (l:=c.l) (stop:=fun _=>false) (muM (mc0 A) 0+1) (mc0 A) 0 0 [] 0 ⟨List.Pairwise.nil,fun k hk=>(by cases hk),fun k hk=>(by cases hk),Nat.le_refl _⟩;have h3:=mu_start A;have a1:=h1.o;have a2:=h2.len;have a3:=h1.p;have a4:=h1.w;refine⟨?_,?_,?_,?_⟩
  ·show (runA c A M F fun _=>false).1.out.length≤_
   unfold runA;omega
  ·show (runA c A M F fun _=>false).1.rds.length≤_
   unfold runA;omega
  ·show (runA c A M F fun _=>false).1.puts.length≤_
   unfold runA;omega
  ·show (runA c A M F fun _=>false).1.wrs.length≤_
   unfold runA;omega
 ·rw[if_neg hs];exact⟨Nat.zero_le _,Nat.zero_le _,Nat.zero_le _,Nat.zero_le _⟩
def ownX (m:Mc):List Pr:=m.puts.map fun k=>⟨k,getP m.own k⟩
def xM (M:List Pr) (F:Ft) (m:Mc):Rx:=⟨M,F,ownX m,m.st,m.code,m.out,m.rds,m.puts,m.miss,m.steps⟩
def stkM (m:Mc):List Vl:=(List.range m.dep).map m.stk
def sloM (n:Nat) (m:Mc):List Vl:=(List.range n).map m.slo
def yM (c:Cd) (M:List Pr) (F:Ft) (most:Int) (m:Mc) (pc cnt:Int):Ry:=⟨c,xM M F m,stkM m,sloM c.sl.toNat m,pc,cnt,most⟩
structure OnI (m:Mc):Prop where
 st:m.st=0
 code:m.code=0
 miss:m.miss=[]
 keys:∀k,k∈m.puts↔k∈m.own.map Pr.key
 vals:∀p∈m.own,vaB p.v=true∧(p.v.k=0→p.v=v00)
theorem stk_push(m:Mc)(v:Vl):stkM (pushM m v)=stkM m++[v]:=by
 unfold stkM;show (List.range (m.dep+1)).map (setV m.stk m.dep v)=_;rw[List.range_succ,List.map_append]
 congr 1
 ·apply List.map_congr_left
  intro i hi;rw[List.mem_range]at hi;unfold setV;rw[if_neg (by omega)]
 ·simp[setV]
theorem stk_drop(m:Mc)(n:Nat)(h:n≤m.dep):stkM m=stkM (dropM m n)++topV m n:=by
 unfold stkM topV;show (List.range m.dep).map m.stk=(List.range (m.dep-n)).map m.stk++_
 conv=>lhs;rw[show m.dep=(m.dep-n)+n by omega,List.range_add]
 rw[List.map_append,List.map_map];rfl
theorem top_len(m:Mc)(n:Nat):(topV m n).length=n:=by unfold topV;simp
theorem stk_pop(m:Mc)(h:1≤m.dep):stkM m=stkM (popM m)++[popV m]:=stk_drop m 1 h
theorem stk_pop2(m:Mc)(h:2≤m.dep):stkM m=stkM (popM (popM m))++[popV (popM m),popV m]:=by
 rw[stk_pop m (by omega),stk_pop (popM m) (by show 1≤m.dep-1;omega),List.append_assoc];rfl
theorem slo_len(n:Nat)(m:Mc):(sloM n m).length=n:=by unfold sloM;simp
theorem slo_get(n:Nat)(m:Mc){a:Nat}(h:a<n):∃h:a<(sloM n m).length,(sloM n m)[a]=m.slo a:=⟨by rw[slo_len];exact h,by unfold sloM;simp⟩
theorem slo_set(n:Nat)(m:Mc)(a:Nat)(v:Vl):(List.range n).map (setV m.slo a v)=(sloM n m).set a v:=by
 unfold sloM;apply List.ext_getElem
 ·simp
 ·intro i h1 h2
  rw[List.getElem_set];simp only[List.getElem_map,List.getElem_range];unfold setV;by_cases e:i=a
  ·rw[if_pos e,if_pos e.symm]
  ·rw[if_neg e,if_neg (fun q=>e q.symm)]
theorem getP_map(f:List UInt8→Vl)(k:List UInt8):∀(ks:List (List UInt8)),k∈ks→getP (ks.map fun q=>⟨q,f q⟩) k=f k
 | [],h=>by cases h
 | q::r,h=>by
  rw[List.map_cons,getP_cons];by_cases e:q=k
  ·subst e;exact if_pos rfl
  ·rw[if_neg e]
   rcases List.mem_cons.1 h with h|h
   ·exact absurd h.symm e
   ·exact getP_map f k r h
theorem idx_mem(L:List Pr)(k:List UInt8):L.findIdx (keyP k)<L.length↔k∈L.map Pr.key:=by
 rw[List.findIdx_lt_length,List.mem_map];unfold keyP;simp only[beq_iff_eq]
theorem getP_append(L:List Pr)(p:Pr)(k:List UInt8):getP (L++[p]) k=if k∈L.map Pr.key then getP L k else if p.key=k then p.v else v00:=by
 induction L with
 | nil =>
  have h:¬k∈([]:List Pr).map Pr.key:=by intro h;cases h
  rw[List.nil_append,getP_cons,if_neg h];rfl
 | cons q r ih =>
  rw[List.cons_append,getP_cons,getP_cons,ih,List.map_cons];by_cases e:q.key=k
  ·rw[if_pos e,if_pos e,if_pos (by rw[e];exact List.mem_cons_self ..)]
  ·rw[if_neg e,if_neg e]
   by_cases h:k∈r.map Pr.key
   ·rw[if_pos h,if_pos (List.mem_cons_of_mem _ h)]
   ·have h2:¬k∈q.key::r.map Pr.key:=by rw[List.mem_cons];rintro (q2|q2);exact e q2.symm;exact h q2
    rw[if_neg h,if_neg h2]
theorem getP_setAt(k:List UInt8)(v:Vl)(q:List UInt8):∀(L:List Pr),L.findIdx (keyP k)<L.length→getP (L.set (L.findIdx (keyP k)) ⟨k,v⟩) q=if q=k then v else getP L q
 | [],h=>by simp at h
 | p::r,h=>by
  by_cases e:p.key=k
  ·have h0:(p::r).findIdx (keyP k)=0:=by rw[List.findIdx_cons];simp[keyP,e]
   rw[h0,List.set_cons_zero,getP_cons,getP_cons];by_cases e2:q=k
   ·rw[if_pos e2.symm,if_pos e2]
   ·rw[if_neg (fun z=>e2 z.symm),if_neg e2,if_neg (fun z=>e2 (z.symm.trans e))]
  ·have hq:keyP k p=false:=by unfold keyP;simpa using e
   have h0:(p::r).findIdx (keyP k)=r.findIdx (keyP k)+1:=by rw[List.findIdx_cons,hq];rfl
   rw[h0]at h ⊢;rw[List.set_cons_succ,getP_cons,getP_cons,getP_setAt k v q r (by simpa using h)];by_cases e2:q=k
   ·rw[if_pos e2,if_neg (by rw[e2];exact e)];simp[e2]
   ·rw[if_neg e2,if_neg e2]
theorem getP_setP(L:List Pr)(k:List UInt8)(v:Vl)(q:List UInt8):getP (setP L k v) q=if q=k then v else getP L q:=by
 unfold setP;by_cases h:L.findIdx (keyP k)<L.length
 ·rw[if_pos h];exact getP_setAt k v q L h
 ·rw[if_neg h,getP_append]
  have hk:k∉L.map Pr.key:=fun z=>h ((idx_mem L k).2 z);by_cases e:q=k
  ·subst e;rw[if_neg hk,if_pos rfl,if_pos rfl]
  ·rw[if_neg e,if_neg (show ¬k=q from fun z=>e z.symm)]
   by_cases h2:q∈L.map Pr.key
   ·rw[if_pos h2]
   ·rw[if_neg h2,getP_none _ h2]
theorem keys_setP(L:List Pr)(k:List UInt8)(v:Vl)(q:List UInt8):q∈(setP L k v).map Pr.key↔q=k∨q∈L.map Pr.key:=by
 unfold setP;by_cases h:L.findIdx (keyP k)<L.length
 ·rw[if_pos h,List.map_set]
  have hk:L[L.findIdx (keyP k)].key=k:=by
   have h2:keyP k L[L.findIdx (keyP k)]=true:=List.findIdx_getElem (w:=h);generalize L[L.findIdx (keyP k)]=x at h2 ⊢;unfold keyP at h2;simpa using h2
  have e:(L.map Pr.key).set (L.findIdx (keyP k)) k=L.map Pr.key:=by
   conv=>lhs;rw[←hk]
   apply List.ext_getElem
   ·simp
   ·intro i h1 h2
    rw[List.getElem_set];split
    ·rename_i z;subst z;simp[hk]
    ·rfl
  show q∈(L.map Pr.key).set _ k↔_;rw[e];exact⟨.inr,fun z=>z.elim (fun z=>z ▸ (idx_mem L k).1 h) id⟩
 ·rw[if_neg h,List.map_append,List.mem_append,List.map_cons,List.map_nil,List.mem_singleton]
  exact or_comm
theorem nodup_at{ks:List (List UInt8)}(h:ks.Nodup){i j:Nat}(hi:i<ks.length)(hj:j<ks.length)(e:ks[i]=ks[j]):i=j:=by
 have hp:=List.pairwise_iff_getElem.1 h;rcases Nat.lt_trichotomy i j with q|q|q
 ·exact absurd e (hp i j hi hj q)
 ·exact q
 ·exact absurd e.symm (hp j i hj hi q)
theorem mem_fnd{L:List (List UInt8)}(hs:SortK L){k:List UInt8}(h:k∈L):fndK L k=true:=by
 obtain⟨j,hj,e⟩:=List.mem_iff_getElem.1 h
 have h1:posK L k≤j:=by
  apply Nat.le_of_not_lt;intro q;have:=pos_lo q;rw[getD_at hj,e,bl_irrefl]at this;cases this
 have h2:=pos_hi hs (Nat.le_refl (posK L k))
 have hp:posK L k<L.length:=by omega
 unfold fndK;rw[decide_eq_true_eq];refine⟨hp,?_⟩;by_cases e2:posK L k=j
 ·rw[getD_at hp];subst e2;exact e
 ·have h3:=(List.pairwise_iff_getElem.1 hs) (posK L k) j hp hj (by omega)
  rw[e]at h3;rw[getD_at hp,h3]at h2;cases h2
theorem posP_map(f:List UInt8→Vl)(ks:List (List UInt8))(k:List UInt8)(v:Vl):posP (ks.map fun q=>⟨q,f q⟩) ⟨k,v⟩=posK ks k:=by
 unfold posP posK;rw[List.findIdx_map];rfl
theorem setX_own{ks:List (List UInt8)}(hs:SortK ks)(f g:List UInt8→Vl)(k:List UInt8)(v:Vl)(h1:g k=v)(h2:∀q,q≠k→g q=f q):
  ((withK ks k).map fun q=>(⟨q,g q⟩:Pr))=setX (ks.map fun q=>⟨q,f q⟩) ⟨k,v⟩:=by
 unfold setX withK;rw[posP_map,List.length_map];by_cases hf:fndK ks k=true
 ·have hf2:=hf
  unfold fndK at hf2;rw[decide_eq_true_eq]at hf2;obtain⟨hl,he⟩:=hf2;rw[getD_at hl]at he;rw[if_pos hf,if_pos ⟨hl,by rw[getD_at (by rw[List.length_map];exact hl),List.getElem_map];exact he⟩];have hnd:=sort_nodup hs;generalize posK ks k=i at hl he ⊢;apply List.ext_getElem
  ·simp;omega
  ·intro j q1 q2
   rw[List.getElem_map];by_cases hj:j<i
   ·rw[List.getElem_append_left (by simp;omega),List.getElem_take,List.getElem_map]
    have:ks[j]'(by omega)≠k:=by
     intro e;rw[←he]at e;have:=nodup_at hnd (by omega) hl e;omega
    rw[h2 _ this]
   ·rw[List.getElem_append_right (by simp;omega)]
    have hlt:(List.take i (ks.map fun q=>(⟨q,f q⟩:Pr))).length=i:=by simp;omega
    by_cases e:j=i
    ·subst e
     simp only[hlt,Nat.sub_self,List.getElem_cons_zero];rw[he,h1]
    ·have e1:j-(List.take i (ks.map fun q=>(⟨q,f q⟩:Pr))).length=(j-i-1)+1:=by rw[hlt];omega
     simp only[e1,List.getElem_cons_succ,List.getElem_drop,List.getElem_map]
     have e2:i+1+(j-i-1)=j:=by omega
     simp only[e2]
     have hjl:j<ks.length:=by simpa using q1
     have:ks[j]≠k:=by
      intro e3;rw[←he]at e3;have:=nodup_at hnd hjl hl e3;omega
     rw[h2 _ this]
 ·have hm:k∉ks:=fun z=>hf (mem_fnd hs z)
  rw[if_neg hf,if_neg]
  ·unfold putK
   rw[List.map_append,List.map_cons,List.map_take,List.map_drop,h1]
   have e:(ks.map fun q=>(⟨q,g q⟩:Pr))=ks.map fun q=>⟨q,f q⟩:=List.map_congr_left fun q hq=>by rw[h2 q (fun z=>hm (z ▸ hq))]
   rw[e]
  ·rintro ⟨h3,h4⟩
   rw[getD_at (by rw[List.length_map];exact h3),List.getElem_map]at h4;have h5:ks[posK ks k]=k:=h4;exact hm (h5 ▸ List.getElem_mem h3)
theorem bin_nil{op:Int}{a b:Vl}(h:a.k=0∨b.k=0):binS op a b=.ab 1009:=by
 unfold binS cmpS;split
 ·rw[if_neg (by omega)]
 split
 ·rw[if_neg (by omega)]
 split
 ·rw[if_neg (by omega)]
 split
 ·rw[if_neg (by omega)]
 ·rw[if_neg (by omega)]
theorem un_nil{op:Int}:unS op v00=.ab 1009:=by
 unfold unS v00;split
 ·rfl
 split
 ·rfl
 split<;>rfl
theorem gd_or{v:Vl}(h:GdV v):v=v00∨varB v=true:=h.2
theorem one_own_st{own:List Pr}(hk:∀p∈own,keyB p.key=true)(hv:∀p∈own,vaB p.v=true∧(p.v.k=0→p.v=v00))(k:List UInt8):stB (onePr own k)=true:=by
 unfold onePr;by_cases h0:(getP own k).k=0
 ·rw[if_pos h0];rfl
 ·rw[if_neg h0]
  rcases getP_or own k with e|⟨p,hp,hpk,e⟩
  ·rw[e]at h0;exact absurd rfl h0
  ·refine st_make (fun q hq=>?_) (by unfold SortK;exact List.pairwise_singleton ..)
   rw[List.mem_singleton]at hq;subst hq;refine⟨?_,?_,h0⟩
   ·show keyB k=true
    rw[←hpk];exact hk p hp
   ·show vaB (getP own k)=true
    rw[e];exact(hv p hp).1
theorem one_get{L:List Pr}{k:List UInt8}(h:(getP L k).k=0→getP L k=v00):getP (onePr L k) k=getP L k:=by
 unfold onePr;by_cases h0:(getP L k).k=0
 ·rw[if_pos h0,h h0];rfl
 ·rw[if_neg h0,getP_cons,if_pos rfl]
theorem own_get0{own:List Pr}(hv:∀p∈own,vaB p.v=true∧(p.v.k=0→p.v=v00))(k:List UInt8):(getP own k).k=0→getP own k=v00:=by
 rcases getP_or own k with e|⟨p,hp,-,e⟩
 ·rw[e];exact fun _=>rfl
 ·rw[e];exact(hv p hp).2
theorem ops_sim{M:List Pr}{F:Ft}(hM:stB M=true)(hF:ftB F=true){m:Mc}{N:Nat}(hG:Gd m N)(hO:OnI m){op:Int}{l:List Vl}(hl:∀v∈l,GdV v)
  (hop:(l.length=1∧(op=9∨op=18∨op=20∨op=21∨op=22∨op=23∨op=24))∨(l.length=2∧((op=4∨op=5∨op=6∨op=7∨op=8)∨op=16∨op=17∨op=19∨(op=10∨op=11∨op=12∨op=13∨op=14∨op=15)))):
  opsX op l (xM M F m)=rsX (opEv M F m.own op l).1 (if hidB m.own op (l.headD v00)=true then xM M F m else { xM M F m with rds:=(opEv M F m.own op l).2.foldl withK m.rds }):=by
 have hF2:ftB ⟨F.all,F.rd,F.wr⟩=true:=hF
 match l,hl,hop with
 | [a],hl,hop =>
  have ha:=hl a (List.mem_cons_self ..);have hop:=hop.elim (fun h=>h.2) (fun h=>absurd h.1 (by simp));show oneX op a (xM M F m)=_;unfold oneX;by_cases ho:op=9∨op=18∨op=20∨op=21
  ·have hr:isRd op=false:=by unfold isRd;simp;omega
   rw[if_pos ho]
   have hh:hidB m.own op ([a].headD v00)=false:=by unfold hidB;rw[hr];rfl
   rw[hh,if_neg (by simp)]
   have he:opEv M F m.own op [a]=(unS op a,[]):=by
    unfold opEv;rw[if_neg (by rw[hr];simp)];unfold evE;rw[show stB []=true from rfl,hF2,Bool.true_and,Bool.true_and];rcases gd_or ha with rfl|hv
    ·by_cases hq:[v00].all varB=true
     ·rw[if_pos hq];show uneS _ _ _ _ _=_;unfold uneS;rw[if_pos ho]
     ·rw[if_neg hq,un_nil]
    ·rw[if_pos (by rw[List.all_cons,hv];rfl)]
     show uneS _ _ _ _ _=_;unfold uneS;rw[if_pos ho]
   rw[he];rfl
  ·have hr:isRd op=true:=by unfold isRd;simp;omega
   rw[if_neg ho];by_cases hk:a.k=2
   ·rw[if_pos hk]
    have hv:varB a=true:=by
     rcases gd_or ha with rfl|hv
     ·cases hk
     ·exact hv
    have hall:[a].all varB=true:=by rw[List.all_cons,hv];rfl
    show gotX op (fetX a.s (xM M F m))=_;have hst:(xM M F m).st=0:=hO.st;by_cases hm:a.s∈m.puts
    ·have hm2:=(hO.keys a.s).1 hm
     have hh:hidB m.own op ([a].headD v00)=true:=by
      unfold hidB;show (isRd op && (decide (a.k=2) && decide (m.own.findIdx (keyP a.s)<m.own.length)))=true;rw[hr,decide_eq_true hk,decide_eq_true ((idx_mem _ _).2 hm2)];rfl
     have hkb:keyB a.s=true:=by
      rw[List.mem_map]at hm2;obtain⟨p,hp,e⟩:=hm2;rw[←e];exact(hG.own p hp).2
     rw[hh,if_pos rfl]
     have he:(opEv M F m.own op [a]).1=gotS op (getP m.own a.s):=by
      unfold opEv;rw[if_pos hr,if_pos hh];unfold evE;show (if (stB (onePr m.own a.s) && (ftB ⟨true,[],[]⟩ && [a].all varB))=true then evS true [] (onePr m.own a.s) op [a] else (.ab 1009,[])).1=_;rw[one_own_st (fun p hp=>(hG.own p hp).2) hO.vals,hall,show ftB ⟨true,[],[]⟩=true from rfl];show (uneS true [] (onePr m.own a.s) op a).1=_;unfold uneS;rw[if_neg ho,if_pos hk];show thenG op (fetS true [] (onePr m.own a.s) a.s)=_;unfold fetS;rw[if_neg (by rw[hkb];simp),if_neg (by simp),one_get (own_get0 hO.vals _)];rfl
     rw[he]
     have hf:fetX a.s (xM M F m)=(getP m.own a.s,xM M F m):=by
      unfold fetX;rw[if_neg (by rw[hkb];simp),if_pos (show (xM M F m).puts.contains a.s=true from by rw[List.contains_iff_mem];exact hm)];show (getP (ownX m) a.s,_)=_;unfold ownX;rw[getP_map _ _ _ hm]
     rw[hf];unfold gotX;rw[if_neg (by rw[show ((getP m.own a.s,xM M F m):Vl × Rx).2.st=0 from hst];simp)]
    ·have hm2:a.s∉m.own.map Pr.key:=fun z=>hm ((hO.keys a.s).2 z)
     have hh:hidB m.own op ([a].headD v00)=false:=by
      unfold hidB;show (isRd op && (decide (a.k=2) && decide (m.own.findIdx (keyP a.s)<m.own.length)))=false;rw[decide_eq_false (fun z=>hm2 ((idx_mem _ _).1 z))];simp
     rw[hh,if_neg (by simp)];have hv0:=getP_val hM a.s
     have he:opEv M F m.own op [a]=(thenG op (fetS F.all F.rd (onePr M a.s) a.s),rdsR (fetS F.all F.rd (onePr M a.s) a.s) a.s):=by
      unfold opEv;rw[if_pos hr,if_neg (by rw[hh];simp)];unfold evE;show (if (stB (onePr M a.s) && _)=true then _ else _)=_;rw[onePr_st hM,hF2,hall];show uneS F.all F.rd (onePr M a.s) op a=_;unfold uneS;rw[if_neg ho,if_pos hk]
     rw[he];unfold fetX fetS gotX;by_cases hkb:keyB a.s=false
     ·rw[if_pos hkb,if_pos hkb,if_pos (show (abX 1004 (xM M F m)).st≠0 from by show (2:Int)≠0;decide)]
      rfl
     rw[if_neg hkb,if_neg hkb,if_neg (show ¬(xM M F m).puts.contains a.s=true from by rw[List.contains_iff_mem];exact hm)];by_cases hr2:F.all=false∧F.rd.contains a.s=false
     ·rw[if_pos (show (xM M F m).F.all=false∧(xM M F m).F.rd.contains a.s=false from hr2),if_pos hr2,if_pos (show (reX a.s (xM M F m)).st≠0 from by show (3:Int)≠0;decide)]
      rfl
     ·rw[if_neg (show ¬((xM M F m).F.all=false∧(xM M F m).F.rd.contains a.s=false) from hr2),if_neg hr2,if_neg (show ¬(((getP (xM M F m).M a.s,{ xM M F m with rds:=withK (xM M F m).rds a.s }):Vl × Rx).2.st≠0) from by show ¬m.st≠0;rw[hO.st];simp),one_get hv0.2.1]
      rfl
   ·rw[if_neg hk]
    have hh:hidB m.own op ([a].headD v00)=false:=by
     unfold hidB;show (isRd op && (decide (a.k=2) && _))=false;rw[decide_eq_false hk];simp
    rw[hh,if_neg (by simp)]
    have he:opEv M F m.own op [a]=(.ab 1009,[]):=by
     unfold opEv;rw[if_pos hr,if_neg (by rw[hh];simp)];unfold evE;split
     ·show uneS _ _ _ _ _=_
      unfold uneS;rw[if_neg ho,if_neg hk]
     ·rfl
    rw[he];rfl
 | [a,b],hl,hop =>
  have ha:=hl a (List.mem_cons_self ..);have hb:=hl b (List.mem_cons_of_mem _ (List.mem_cons_self ..));have hop:=hop.elim (fun h=>absurd h.1 (by simp)) (fun h=>h.2);show rsX (binS op a b) (xM M F m)=_
  have hr:isRd op=false:=by unfold isRd;simp;omega
  have hh:hidB m.own op ([a,b].headD v00)=false:=by unfold hidB;rw[hr];rfl
  rw[hh,if_neg (by simp)]
  have he:opEv M F m.own op [a,b]=(binS op a b,[]):=by
   unfold opEv;rw[if_neg (by rw[hr];simp)];unfold evE;rw[show stB []=true from rfl,hF2,Bool.true_and,Bool.true_and];split
   ·rfl
   ·rename_i hn
    rw[bin_nil];rcases gd_or ha with rfl|h1
    ·exact .inl rfl
    rcases gd_or hb with rfl|h2
    ·exact .inr rfl
    ·rw[List.all_cons,List.all_cons,h1,h2]at hn
     exact absurd rfl hn
  rw[he];rfl
 | [],_,hop=>exact absurd hop (by simp)
 | _::_::_::_,_,hop=>exact absurd hop (by simp)
theorem end_ab{X:Rx}{m:Mc}(c:Int)(h1:m.rds=X.rds)(h2:m.puts=X.puts)(h3:m.wrs=[])(h4:X.miss=[])(h5:m.steps=X.steps):(endM 2 c [] m).done=true∧(abX c X).st≠0∧enE (abX c X)=efM (endM 2 c [] m):=by
 refine⟨endM_done ..,by show (2:Int)≠0;decide,?_⟩;unfold endM;rw[if_neg (by decide)];show Ef.mk 2 c [] X.rds X.puts [] X.miss X.steps=Ef.mk 2 c [] m.rds m.puts m.wrs [] m.steps;rw[h1,h2,h3,h4,h5]
theorem end_re{X:Rx}{m:Mc}(k:List UInt8)(h1:m.rds=X.rds)(h2:m.puts=X.puts)(h3:m.wrs=[])(h5:m.steps=X.steps):(endM 3 0 k m).done=true∧(reX k X).st≠0∧enE (reX k X)=efM (endM 3 0 k m):=by
 refine⟨endM_done ..,by show (3:Int)≠0;decide,?_⟩;unfold endM;rw[if_neg (by decide)];show Ef.mk 3 0 [] X.rds X.puts [] k X.steps=Ef.mk 3 0 [] m.rds m.puts m.wrs k m.steps;rw[h1,h2,h3,h5]
theorem next_std{x:Ins}{pc:Int}{m:Mc}(h6:x.op≠6)(h7:x.op≠7):nextI x pc m=pc+1:=if_neg (by rintro (e|e);exact h6 e;exact h7 e.1)
def Ends (c:Cd) (M:List Pr) (F:Ft) (most:Int) (Y2:Ry) (m2:Mc) (pc2 cnt:Int):Prop:=
 (m2.done=true∧Y2.x.st≠0∧enE Y2.x=efM m2)∨(m2.done=false∧OnI m2∧Y2=yM c M F most m2 pc2 cnt)
theorem OnI.same{m m2:Mc}(h:OnI m)(e1:m2.st=m.st)(e2:m2.code=m.code)(e3:m2.miss=m.miss)(e4:m2.puts=m.puts)(e5:m2.own=m.own):OnI m2:=
 ⟨e1.trans h.st,e2.trans h.code,e3.trans h.miss,by rw[e4,e5];exact h.keys,by rw[e5];exact h.vals⟩
def stoX (k v:Vl) (X:Rx):Rx:=if k.k≠2 then abX 1009 X else stX k.s v X
theorem store_sim{M:List Pr}{F:Ft}{m:Mc}{N:Nat}(hG:Gd m N)(hO:OnI m)(hd:m.done=false){k v:Vl}(hv:vaB v=true∧(v.k=0→v=v00)):
  ((storeM F k v m).done=true∧(stoX k v (xM M F m)).st≠0∧enE (stoX k v (xM M F m))=efM (storeM F k v m)) ∨
  ((storeM F k v m).done=false∧OnI (storeM F k v m)∧stoX k v (xM M F m)=xM M F (storeM F k v m)∧stkM (storeM F k v m)=stkM m∧∀n,sloM n (storeM F k v m)=sloM n m):=by
 unfold storeM stoX stX;by_cases h1:k.k≠2
 ·rw[if_pos h1,if_pos h1]
  exact .inl (end_ab 1009 rfl rfl hG.wrs hO.miss rfl)
 rw[if_neg h1,if_neg h1];by_cases h2:keyB k.s=false
 ·rw[if_pos h2,if_pos h2]
  exact .inl (end_ab 1004 rfl rfl hG.wrs hO.miss rfl)
 rw[if_neg h2,if_neg h2];by_cases h3:F.all=false∧F.wr.contains k.s=false
 ·rw[if_pos h3,if_pos (show (xM M F m).F.all=false∧(xM M F m).F.wr.contains k.s=false from h3)]
  exact .inl (end_re k.s rfl rfl hG.wrs rfl)
 rw[if_neg h3,if_neg (show ¬((xM M F m).F.all=false∧(xM M F m).F.wr.contains k.s=false) from h3)];refine .inr ⟨hd,⟨hO.st,hO.code,hO.miss,fun q=>?_,fun p hp=>?_⟩,?_,rfl,fun _=>rfl⟩
 ·show q∈withK m.puts k.s↔q∈(setP m.own k.s v).map Pr.key
  rw[mem_withK,keys_setP,hO.keys]
 ·rcases mem_setP hp with h|rfl
  ·exact hO.vals p h
  ·exact hv
 ·show Rx.mk M F (setX (ownX m) ⟨k.s,v⟩) m.st m.code m.out m.rds (withK m.puts k.s) m.miss m.steps=Rx.mk M F ((withK m.puts k.s).map fun q=>⟨q,getP (setP m.own k.s v) q⟩) m.st m.code m.out m.rds (withK m.puts k.s) m.miss m.steps
  unfold ownX;rw[setX_own hG.puts (fun q=>getP m.own q) (fun q=>getP (setP m.own k.s v) q) k.s v (by rw[getP_setP,if_pos rfl]) (fun q hq=>by rw[getP_setP,if_neg hq])]
theorem stored_va{v:Vl}(h:GdV v)(hs:storedB v=true):vaB v=true∧(v.k=0→v=v00):=by
 unfold storedB at hs;rw[Bool.or_eq_true,decide_eq_true_eq,decide_eq_true_eq]at hs;rcases h.2 with rfl|h2
 ·exact absurd hs (by show ¬((0:Int)=1∨(0:Int)=2);decide)
 ·unfold varB at h2
  rw[if_neg (by omega),Bool.and_eq_true]at h2;exact⟨h2.2,fun e=>by omega⟩
theorem sim_step{c:Cd}(hv:valC c=0)(hcn:∀x∈c.l,fits x.n=true){M:List Pr}{F:Ft}(hM:stB M=true)(hF:ftB F=true){m:Mc}{N:Nat}(hG:Gd m N)(hO:OnI m)(hd:m.done=false){k:Nat}(hk:k<c.l.length)(hdep:(m.dep:Int)=(depth0 c).getD k 0)(most cnt:Int)(hx13:(c.l.getD k ins0).op≠13):
  ∃Y2,StepY (c.l.getD k ins0) (yM c M F most m (k:Int) cnt) Y2∧Ends c M F most Y2 (stepM M F (c.l.getD k ins0) m) (nextI (c.l.getD k ins0) (k:Int) m) cnt:=by
 obtain⟨ht,h64,-,-,-⟩:=step_ok hv hk;have hi:=all_get (valC_parts hv).2.2.2.2.1 hk ins0
 have hn:fits (c.l.getD k ins0).n=true:=by rw[getD_at hk];exact hcn _ (List.getElem_mem hk)
 generalize c.l.getD k ins0=x at hx13 ht h64 hi hn ⊢;rw[←hdep]at ht h64;unfold insS at hi;simp only[Bool.and_eq_true,decide_eq_true_eq]at hi;obtain⟨hop,-,hi⟩:=hi;unfold takeI at ht;unfold stepM;by_cases e1:x.op=1
 ·rw[if_pos e1]
  refine⟨_,.int e1,.inr ⟨hd,hO.same rfl rfl rfl rfl rfl,?_⟩⟩;rw[next_std (by omega) (by omega)];unfold yM;rw[stk_push];rfl
 rw[if_neg e1];by_cases e2:x.op=2
 ·rw[if_pos e2]
  refine⟨_,.str e2,.inr ⟨hd,hO.same rfl rfl rfl rfl rfl,?_⟩⟩;rw[next_std (by omega) (by omega)];unfold yM;rw[stk_push];rfl
 rw[if_neg e2]at hi ⊢;by_cases e3:x.op=3
 ·rw[if_pos e3]
  rw[if_pos (Or.inl e3)]at hi;unfold inR at hi;simp only[Bool.and_eq_true,decide_eq_true_eq]at hi;refine⟨_,.load e3 x.a.toNat (by omega) (m.slo x.a.toNat) (slo_get _ m (by omega)),.inr ⟨hd,hO.same rfl rfl rfl rfl rfl,?_⟩⟩;rw[next_std (by omega) (by omega)];unfold yM;rw[stk_push];rfl
 rw[if_neg e3];by_cases e4:x.op=4
 ·rw[if_pos e4]
  rw[if_pos (Or.inr e4)]at hi;unfold inR at hi;simp only[Bool.and_eq_true,decide_eq_true_eq]at hi
  have h1:1≤m.dep:=by simp[e4]at ht;omega
  refine⟨_,.store e4 x.a.toNat (by omega) (by show _<(sloM _ m).length;rw[slo_len];omega) _ _ (stk_pop m h1),.inr ⟨hd,hO.same rfl rfl rfl rfl rfl,?_⟩⟩;rw[next_std (by omega) (by omega)];unfold yM;rw[show sloM c.sl.toNat { popM m with slo:=setV m.slo x.a.toNat (popV m) }=(sloM c.sl.toNat m).set x.a.toNat (popV m) from slo_set _ m _ _];rfl
 rw[if_neg (by omega)]at hi;rw[if_neg e4];by_cases e5:x.op=5
 ·rw[if_pos e5]
  rw[if_pos e5,decide_eq_true_eq]at hi
  have hta:(arS x.a).toNat≤m.dep:=by simp[e5]at ht;omega
  obtain⟨n,hn2⟩:=ex_ ((arS x.a).toNat)
  have har:(arS x.a=1∧(x.a=9∨x.a=18∨x.a=20∨x.a=21∨x.a=22∨x.a=23∨x.a=24))∨(arS x.a=2∧((x.a=4∨x.a=5∨x.a=6∨x.a=7∨x.a=8)∨x.a=16∨x.a=17∨x.a=19∨(x.a=10∨x.a=11∨x.a=12∨x.a=13∨x.a=14∨x.a=15))):=by
   clear ht hta hn2;unfold arS at hi ⊢;by_cases c1:x.a<1∨27<x.a
   ·rw[if_pos c1]at hi;omega
   rw[if_neg c1]at hi ⊢;by_cases c2:x.a≤3∨25≤x.a
   ·rw[if_pos c2]at hi;omega
   rw[if_neg c2];by_cases c3:x.a=9∨x.a=18∨20≤x.a
   ·rw[if_pos c3];left;exact⟨rfl,by omega⟩
   ·rw[if_neg c3];right;exact⟨rfl,by omega⟩
  have hll:=top_len m n;rw[hn2]at hta ⊢;have hs:=stk_drop m n hta;have hg:=hG.top hta
  have hla:arS x.a=((topV m n).length:Int):=by rw[hll];omega
  have hop2:((topV m n).length=1∧(x.a=9∨x.a=18∨x.a=20∨x.a=21∨x.a=22∨x.a=23∨x.a=24))∨((topV m n).length=2∧((x.a=4∨x.a=5∨x.a=6∨x.a=7∨x.a=8)∨x.a=16∨x.a=17∨x.a=19∨(x.a=10∨x.a=11∨x.a=12∨x.a=13∨x.a=14∨x.a=15))):=by
   rw[hll];rcases har with ⟨q1,q2⟩|⟨q1,q2⟩
   ·exact .inl ⟨by omega,q2⟩
   ·exact .inr ⟨by omega,q2⟩
  have hsim:=ops_sim hM hF hG hO hg hop2;refine⟨_,.oper e5 (stkM (dropM m n)) (topV m n) hO.st hs hla hg (hop2.elim .inl fun h=>.inr (.inl h)),?_⟩;show Ends c M F most { yM c M F most m (k:Int) cnt with pc:=(k:Int)+1,x:=(opsX x.a (topV m n) (xM M F m)).2,stk:=stkM (dropM m n)++[(opsX x.a (topV m n) (xM M F m)).1] } _ _ _;rw[hsim,next_std (by omega) (by omega)];show Ends c M F most _ (resM (opEv M F m.own x.a (topV m n)).1 (if hidB m.own x.a ((topV m n).headD v00)=true then dropM m n else { dropM m n with rds:=(opEv M F m.own x.a (topV m n)).2.foldl withK m.rds })) _ _;obtain⟨m3,hm3⟩:=ex_ ((if hidB m.own x.a ((topV m n).headD v00)=true then dropM m n else { dropM m n with rds:=(opEv M F m.own x.a (topV m n)).2.foldl withK m.rds }))
  have hx3:(if hidB m.own x.a ((topV m n).headD v00)=true then xM M F m else { xM M F m with rds:=(opEv M F m.own x.a (topV m n)).2.foldl withK m.rds })=xM M F m3:=by
   rw[←hm3];split<;>rfl
  have hst3:stkM m3=stkM (dropM m n):=by rw[←hm3];split<;>rfl
  have hsl3:sloM c.sl.toNat m3=sloM c.sl.toNat m:=by rw[←hm3];split<;>rfl
  have hO3:OnI m3:=by rw[←hm3];split<;>exact hO.same rfl rfl rfl rfl rfl
  have hd3:m3.done=false:=by rw[←hm3];split<;>exact hd
  have hw3:m3.wrs=[]:=by rw[←hm3];split<;>exact hG.wrs
  rw[hm3,hx3]
  cases (opEv M F m.own x.a (topV m n)).1 with
  | ok v =>
   refine .inr ⟨hd3,hO3.same rfl rfl rfl rfl rfl,?_⟩;unfold yM;show Ry.mk c (xM M F m3) (stkM (dropM m n)++[v]) (sloM c.sl.toNat m) ((k:Int)+1) cnt most=Ry.mk c (xM M F m3) (stkM (pushM m3 v)) (sloM c.sl.toNat m3) ((k:Int)+1) cnt most;rw[stk_push,hst3,hsl3]
  | ab e=>exact .inl (end_ab e rfl rfl hw3 hO3.miss rfl)
  | re q=>exact .inl (end_re q rfl rfl hw3 rfl)
 rw[if_neg e5]at hi ⊢;by_cases e6:x.op=6
 ·rw[if_pos e6]
  refine⟨_,.jump e6,.inr ⟨hd,hO,?_⟩⟩;unfold nextI;rw[if_pos (Or.inl e6)];rfl
 rw[if_neg e6];by_cases e7:x.op=7
 ·rw[if_pos e7]
  have h1:1≤m.dep:=by simp[e7]at ht;omega
  have hs:=stk_pop m h1;unfold falM nextI;by_cases hq:(popV m).k≠3
  ·rw[if_pos hq]
   exact⟨_,.falW e7 _ _ hs hq,.inl (end_ab 1009 rfl rfl hG.wrs hO.miss rfl)⟩
  rw[if_neg hq]
  have hq:(popV m).k=3:=by omega
  by_cases hz:(popV m).n=0
  ·rw[if_pos (Or.inr ⟨e7,hq,hz⟩)]
   exact⟨_,.falJ e7 _ _ hs hq hz,.inr ⟨hd,hO.same rfl rfl rfl rfl rfl,rfl⟩⟩
  ·rw[if_neg (by rintro (e|e);exact e6 e;exact hz e.2.2)]
   exact⟨_,.falN e7 _ _ hs hq hz,.inr ⟨hd,hO.same rfl rfl rfl rfl rfl,rfl⟩⟩
 rw[if_neg (by omega)]at hi;rw[if_neg e7];have hsk:∀{v:Vl},GdV v→v.s.length≤9223372036854775807:=fun h=>Nat.le_trans (gd_ok h).2.2 (by omega);by_cases e8:x.op=8
 ·rw[if_pos e8]
  have h2:2≤m.dep:=by simp[e8]at ht;omega
  have hs:=stk_pop2 m h2;have gv:=hG.popd (by omega);have gk:=hG.pop.popd (by show 1≤m.dep-1;omega);refine⟨_,.put e8 _ _ _ hs (hsk gk),?_⟩;rw[next_std (by omega) (by omega)];unfold putM;show Ends c M F most { yM c M F most m (k:Int) cnt with pc:=(k:Int)+1,x:=acc8 (popV (popM m)) (popV m) (xM M F m),stk:=stkM (popM (popM m)) } _ _ _;unfold acc8;by_cases hsb:storedB (popV m)=false
  ·rw[if_pos hsb,if_pos (Or.inr hsb)]
   exact .inl (end_ab 1009 rfl rfl hG.wrs hO.miss rfl)
  rw[if_neg hsb]
  have hx:(if (popV (popM m)).k≠2∨storedB (popV m)=false then abX 1009 (xM M F m) else stX (popV (popM m)).s (popV m) (xM M F m))=stoX (popV (popM m)) (popV m) (xM M F (popM (popM m))):=by
   unfold stoX;by_cases hk2:(popV (popM m)).k≠2
   ·rw[if_pos hk2,if_pos (Or.inl hk2)];rfl
   ·rw[if_neg hk2,if_neg (by rintro (q|q);exact hk2 q;exact hsb q)];rfl
  rw[hx];rcases store_sim (M:=M) (F:=F) (hG.pop.pop) (hO.same (m2:=popM (popM m)) rfl rfl rfl rfl rfl) hd (k:=popV (popM m)) (stored_va gv (by simpa using hsb)) with h|⟨g1,g2,g3,g4,g5⟩
  ·exact .inl h
  ·refine .inr ⟨g1,g2,?_⟩
   unfold yM;rw[g3,g4,g5];rfl
 rw[if_neg e8];by_cases e9:x.op=9
 ·rw[if_pos e9]
  have h1:1≤m.dep:=by simp[e9]at ht;omega
  have hs:=stk_pop m h1;have gk:=hG.popd h1;refine⟨_,.del e9 _ _ hs (hsk gk),?_⟩;rw[next_std (by omega) (by omega)];show Ends c M F most { yM c M F most m (k:Int) cnt with pc:=(k:Int)+1,x:=stoX (popV m) v00 (xM M F (popM m)),stk:=stkM (popM m) } _ _ _;rcases store_sim (M:=M) (F:=F) hG.pop (hO.same (m2:=popM m) rfl rfl rfl rfl rfl) hd (k:=popV m) (v:=v00) ⟨rfl,fun _=>rfl⟩ with h|⟨g1,g2,g3,g4,g5⟩
  ·exact .inl h
  ·refine .inr ⟨g1,g2,?_⟩
   unfold yM;rw[g3,g4,g5];rfl
 rw[if_neg e9];by_cases e10:x.op=10
 ·rw[if_pos e10]
  have h1:1≤m.dep:=by simp[e10]at ht;omega
  have hs:=stk_pop m h1;rw[next_std (by omega) (by omega)];unfold emitM;by_cases hsb:storedB (popV m)=false
  ·rw[if_pos hsb]
   exact⟨_,.emitW e10 _ _ hs hsb,.inl (end_ab 1009 rfl rfl hG.wrs hO.miss rfl)⟩
  rw[if_neg hsb];refine⟨_,.emit e10 _ _ hs (by simpa using hsb),?_⟩;show Ends c M F most { yM c M F most m (k:Int) cnt with pc:=(k:Int)+1,x:=emX (popV m) (xM M F m),stk:=stkM (popM m) } _ _ _;unfold emX;have ho:=hG.out;by_cases h16:m.out.length=16
  ·rw[if_pos (show (popM m).out.length=16 from h16),if_pos (show 16≤(xM M F m).out.length from by show 16≤m.out.length;omega)]
   exact .inl (end_ab 1007 rfl rfl hG.wrs hO.miss rfl)
  ·rw[if_neg (show ¬(popM m).out.length=16 from h16),if_neg (show ¬16≤(xM M F m).out.length from by show ¬16≤m.out.length;omega)]
   exact .inr ⟨hd,hO.same rfl rfl rfl rfl rfl,rfl⟩
 rw[if_neg e10];by_cases e11:x.op=11
 ·rw[if_pos e11]
  exact⟨_,.abort e11,.inl (end_ab x.a rfl rfl hG.wrs hO.miss rfl)⟩
 rw[if_neg e11]at hi ⊢;by_cases e12:x.op=12
 ·rw[if_pos e12]at hi ⊢
  unfold inR at hi;simp only[Bool.and_eq_true,decide_eq_true_eq]at hi;refine⟨_,.loop e12 x.a.toNat x.b.toNat (m.slo x.a.toNat) (m.slo x.b.toNat) (by omega) (by omega) (slo_get _ m (by omega)) (slo_get _ m (by omega)) (hG.slo _).1 (hG.slo _).1 hn (by omega),?_⟩;rw[next_std (by omega) (by omega)];unfold loopM;show Ends c M F most { yM c M F most m (k:Int) cnt with pc:=(k:Int)+1,x:=chkX x (m.slo x.a.toNat) (m.slo x.b.toNat) (xM M F m) } _ _ _;unfold chkX;by_cases h1:(m.slo x.a.toNat).k≠1∨(m.slo x.b.toNat).k≠1
  ·rw[if_pos h1,if_pos h1]
   exact .inl (end_ab 1009 rfl rfl hG.wrs hO.miss rfl)
  rw[if_neg h1,if_neg h1];by_cases h2:(m.slo x.a.toNat).n<(m.slo x.b.toNat).n∧x.n<(m.slo x.b.toNat).n-(m.slo x.a.toNat).n
  ·rw[if_pos h2,if_pos h2]
   exact .inl (end_ab 1005 rfl rfl hG.wrs hO.miss rfl)
  ·rw[if_neg h2,if_neg h2]
   exact .inr ⟨hd,hO,rfl⟩
 rw[if_neg e12,if_neg hx13]
 have e14:x.op=14:=by omega
 rw[if_pos e14];refine⟨_,.tick e14 hG.stp.1 hG.stp.2,?_⟩;rw[next_std (by omega) (by omega)];show Ends c M F most { yM c M F most m (k:Int) cnt with pc:=(k:Int)+1,x:=tickX (xM M F m) } _ _ _;unfold tickX tickM;by_cases h:16384<m.steps+1
 ·rw[if_pos h,if_pos (show 16384<(xM M F m).steps+1 from h)]
  exact .inl (end_ab 1008 rfl rfl hG.wrs hO.miss rfl)
 ·rw[if_neg h,if_neg (show ¬16384<(xM M F m).steps+1 from h)]
  exact .inr ⟨hd,hO.same rfl rfl rfl rfl rfl,rfl⟩
theorem take_le(x:Ins):takeI x≤2:=by
 unfold takeI arS
 repeat' split
 all_goals omega
theorem depth_le2{c:Cd}(hv:valC c=0){k:Nat}(hk:k<c.l.length):(depth0 c).getD k 0≤66:=by
 have h:=(step_ok hv hk).2.1;have h2:=take_le (c.l.getD k ins0)
 have h3:0≤putI (c.l.getD k ins0):=by unfold putI;split<;>omega
 unfold behI at h;omega
theorem tr_take(most:Int)(tr:List Int)(pc:Int):trY most (tr.take most.toNat) pc=(tr++[pc]).take most.toNat:=by
 unfold trY;by_cases h:tr.length<most.toNat
 ·rw[List.take_of_length_le (by omega:tr.length≤most.toNat),if_pos (by omega),List.take_of_length_le (by simp;omega)]
 ·rw[if_neg (by rw[List.length_take];omega),List.take_append_of_le_length (by omega)]
theorem run_sim{c:Cd}(hv:valC c=0)(hcn:∀x∈c.l,fits x.n=true){M:List Pr}{F:Ft}(hM:stB M=true)(hF:ftB F=true)(hMn:∀p∈M,fits p.v.n=true)(hlM:M.length≤9000000000000∧F.rd.length≤9000000000000∧F.wr.length≤9000000000000)(most:Int)(hmost:most≤5000):
  ∀(f:Nat) (m:Mc) (pc:Int) (n:Nat) (tr:List Int) (N:Nat),muM m n<f→InvM c pc m N→OnI m→m.done=false→n≤1024→N+f≤18000000 →
   RunY most f (yM c M F most m pc (n:Int)) (tr.take most.toNat) (efM (runM M F c.l (fun _=>false) f m pc n tr).1) ((runM M F c.l (fun _=>false) f m pc n tr).2.take most.toNat)
 | 0,m,pc,n,tr,N,hf,_,_,_,_,_=>absurd hf (Nat.not_lt_zero _)
 | f+1,m,pc,n,tr,N,hf,hI,hO,hd,hn,hN=>by
  unfold runM;rw[if_neg (by rw[hd];simp)];have hst:(yM c M F most m pc (n:Int)).x.st=0:=hO.st;by_cases hc:n=1024
  ·rw[if_pos hc]
   have h:=(end_ab (X:=xM M F m) (m:=m) 1008 rfl rfl hI.gd.wrs hO.miss rfl).2.2;rw[←h];exact .fuel (f+1) _ _ hst (by show (n:Int)=1024;omega)
  rw[if_neg hc,if_neg (by simp)];obtain⟨k,hk,hkl⟩:∃k:Nat,pc=(k:Int)∧k<c.l.length:=⟨pc.toNat,by have:=hI.pc0;omega,by have:=hI.pc0;omega⟩;subst hk;have hdep:=hI.dep;rw[Int.toNat_natCast]at hdep ⊢;have hxe:c.l[k]=c.l.getD k ins0:=(getD_at hkl ins0).symm
  have htl:(tr.take most.toNat).length≤100000:=by rw[List.length_take];omega
  have hcb:0≤((n:Nat):Int)∧((n:Nat):Int)<1024:=by omega
  by_cases h13:(c.l.getD k ins0).op=13
  ·have hs:stepM M F (c.l.getD k ins0) m=endM 1 0 [] m:=by unfold stepM;rw[h13];simp
   have hr:∀g q z w,runM M F c.l (fun _=>false) g (endM 1 0 [] m) q z w=(endM 1 0 [] m,w):=by
    intro g q z w
    cases g with
    | zero=>rfl
    | succ g=>unfold runM;rw[if_pos (endM_done ..)]
   rw[hs,hr,←tr_take]
   have he:efM (endM 1 0 [] m)=cmE (xM M F m):=by
    unfold endM;rw[if_pos rfl];show Ef.mk 1 0 m.out m.rds m.puts (m.wrs++_) [] m.steps=Ef.mk 1 m.code m.out m.rds m.puts (ownX m) m.miss m.steps;rw[hI.gd.wrs,hO.code,hO.miss];rfl
   rw[he];exact .done (f+1) (yM c M F most m (k:Int) (n:Int)) _ _ k hst hcb rfl ⟨hkl,hxe⟩ h13 htl
  ·obtain⟨Y2,hY,hE⟩:=sim_step hv hcn hM hF hI.gd hO hd hkl hdep most (cnY (c.l.getD k ins0) (n:Int)) h13
   have hmu:=mu_step M F (c.l.getD k ins0) m n hd hI.gd.stp (by omega);have h64:=(step_ok hv hkl).1;have hk4:=(valC_parts hv).1;have hsl:=(valC_parts hv).2.1
   have hdl:m.dep≤10000000:=by
    have hg:(depth0 c).getD k 0≤66:=depth_le2 hv hkl;omega
   have hrl:RL (xM M F m):=by
    have g:=hI.gd;have g1:=g.nr;have g2:=g.np;have g3:=g.out;exact⟨hlM.1,hlM.2.1,hlM.2.2,by show ((m.puts.map _).length)≤_;rw[List.length_map];omega,by show m.out.length≤_;omega,by show m.rds.length≤_;omega,by show m.puts.length≤_;omega⟩
   refine .next f (yM c M F most m (k:Int) (n:Int)) Y2 _ _ _ (c.l.getD k ins0) k hst hcb rfl ⟨hkl,hxe⟩ h13 (by omega) (by show (stkM m).length≤_;unfold stkM;simpa using hdl) (by show (sloM c.sl.toNat m).length≤_;rw[slo_len];omega) hrl htl hY ?_;show RunY most f Y2 (trY most (tr.take most.toNat) (k:Int)) _ _;rw[tr_take];rcases hE with ⟨q1,q2,q3⟩|⟨q1,q2,q3⟩
   ·have hr:∀g q z w,runM M F c.l (fun _=>false) g (stepM M F (c.l.getD k ins0) m) q z w=(stepM M F (c.l.getD k ins0) m,w):=by
     intro g q z w
     cases g with
     | zero=>rfl
     | succ g=>unfold runM;rw[if_pos q1]
    rw[hr,←q3];exact .stop f Y2 _ q2
   ·rw[q3]
    have hI2:=InvM.step hv hcn hMn hI (by rw[Int.toNat_natCast];exact q1);rw[Int.toNat_natCast]at hI2
    have hcn2:cnY (c.l.getD k ins0) (n:Int)=((cntI (c.l.getD k ins0) n:Nat):Int):=by
     unfold cnY cntI;split
     ·rfl
     ·omega
    rw[hcn2];exact run_sim hv hcn hM hF hMn hlM most hmost f _ _ _ _ (N+1) (by omega) hI2 q2 q1 (by unfold cntI;split<;>omega) (by omega)
theorem run_lim2(M:List Pr)(F:Ft)(l:List Ins)(a:Nat):∀(f:Nat) (m:Mc) (pc:Int) (n:Nat) (tr:List Int),tr.length≤a→(runM M F l (limB (a:Int)) f m pc n tr).2=(runM M F l (fun _=>false) f m pc n tr).2.take a
 | 0,m,pc,n,tr,h=>(List.take_of_length_le h).symm
 | f+1,m,pc,n,tr,h=>by
  unfold runM;by_cases hd:m.done=true
  ·rw[if_pos hd,if_pos hd];exact(List.take_of_length_le h).symm
  rw[if_neg hd,if_neg hd];by_cases hn:n=1024
  ·rw[if_pos hn,if_pos hn];exact(List.take_of_length_le h).symm
  rw[if_neg hn,if_neg hn,if_neg (show ¬(fun _:List Int=>false) tr=true by simp)];by_cases ha:a=tr.length
  ·rw[if_pos (by unfold limB;rw[ha];simp)]
   obtain⟨r,hr⟩:=run_pre M F l (fun _=>false) f (stepM M F (l.getD pc.toNat ins0) m) (nextI (l.getD pc.toNat ins0) pc m) (cntI (l.getD pc.toNat ins0) n) (tr++[pc]);rw[hr,List.append_assoc,ha,List.take_left'];rfl
  ·rw[if_neg (by unfold limB;simp;omega)]
   exact run_lim2 M F l a f _ _ _ _ (by simp;omega)
theorem trace_lim2(c:Cd)(A:List Vl)(M:List Pr)(F:Ft)(most:Int):(runA c A M F (limB most)).2=(runA c A M F (fun _=>false)).2.take most.toNat:=by
 unfold runA;by_cases h:0≤most
 ·have:=run_lim2 M F c.l most.toNat (muM (mc0 A) 0+1) (mc0 A) 0 0 [] (Nat.zero_le _)
  rwa [show ((most.toNat:Nat):Int)=most by omega]at this
 ·rw[show most.toNat=0 by omega,List.take_zero]
  have h2:∀(f:Nat) (m:Mc) (pc:Int) (n:Nat),(runM M F c.l (limB most) f m pc n []).2=[]:=by
   intro f m pc n
   cases f with
   | zero=>rfl
   | succ f =>
    unfold runM;by_cases hd:m.done=true
    ·rw[if_pos hd]
    rw[if_neg hd];by_cases hn:n=1024
    ·rw[if_pos hn]
    rw[if_neg hn,if_pos (by unfold limB;simp;omega)]
  exact h2 _ _ _ _
theorem trace_len(c:Cd)(A:List Vl)(M:List Pr)(F:Ft){most:Int}(h:most≤5000):(traceS c A M F most).length≤5000:=by
 unfold traceS;by_cases hs:staB c A M F=true
 ·rw[if_pos hs,trace_lim2,List.length_take];omega
 ·rw[if_neg hs];exact Nat.zero_le _
theorem exec_sim{c:Cd}{A:List Vl}{M:List Pr}{F:Ft}(hs:staB c A M F=true)(hl:VLim c A M F)(most:Int)(hmost:most≤5000):∃n,RunY most n (ry0 c A M F most) [] (runS c A M F) (traceS c A M F most):=by
 obtain⟨hvc,hinv⟩:=start_inv hs hl.nA;have hs2:=hs;unfold staB at hs2;simp only[Bool.and_eq_true,decide_eq_true_eq]at hs2;obtain⟨-,ha,hM,hF⟩:=hs2;have h:=run_sim hvc hl.nc hM hF hl.nM ⟨hl.len.2.2.1,hl.len.2.2.2.1,hl.len.2.2.2.2⟩ most hmost (muM (mc0 A) 0+1) (mc0 A) 0 0 [] 0 (Nat.lt_succ_self _) hinv ⟨rfl,rfl,rfl,fun k=>⟨fun q=>(by cases q),fun q=>(by cases q)⟩,fun p hp=>(by cases hp)⟩ rfl (Nat.zero_le _) (by have:=mu_start A;omega);refine⟨muM (mc0 A) 0+1,?_⟩
 have e1:runS c A M F=efM (runM M F c.l (fun _=>false) (muM (mc0 A) 0+1) (mc0 A) 0 0 []).1:=by unfold runS;rw[if_pos hs];rfl
 have e2:traceS c A M F most=(runM M F c.l (fun _=>false) (muM (mc0 A) 0+1) (mc0 A) 0 0 []).2.take most.toNat:=by unfold traceS;rw[if_pos hs,trace_lim2];rfl
 rw[e1,e2]
 have e3:ry0 c A M F most=yM c M F most (mc0 A) 0 ((0:Nat):Int):=by
  unfold ry0 yM;have h1:rx0 M F=xM M F (mc0 A):=rfl;have h2:stkM (mc0 A)=[]:=rfl
  have h3:slo0 c A=sloM c.sl.toNat (mc0 A):=by
   unfold accB at ha;simp only[Bool.and_eq_true,decide_eq_true_eq]at ha;have hp:=(valC_parts hvc).2.2.2.1;unfold slo0 sloM;apply List.ext_getElem
   ·simp;omega
   ·intro i q1 q2
    rw[List.getElem_map,List.getElem_range];show _=A.getD i v00;by_cases hi:i<A.length
    ·rw[List.getElem_append_left hi,getD_at hi]
    ·rw[List.getElem_append_right (by omega),List.getElem_replicate,List.getD_eq_getElem?_getD,List.getElem?_eq_none (by omega)];rfl
  rw[h1,h2,h3];rfl
 rw[e3];rw[List.take_nil]at h;exact h
def sevL:List Ins:=[⟨14,0,0,0,[]⟩,⟨1,0,0,7,[]⟩,⟨10,0,0,0,[]⟩,⟨13,0,0,0,[]⟩]
def sevC:Cd:=⟨[],0,sevL⟩
def sevF:Ft:=⟨false,[],[]⟩
def sevE:Ef:=⟨1,0,[⟨1,7,[]⟩],[],[],[],[],1⟩
theorem cellsAt_box{W:World}{b n c:Nat}{xs:List Value}{T:TypeId}(h:Bx b xs.toArray T W):CellsAt W (.slice (some ⟨b,0,none⟩) n c) n xs:=by
 refine⟨_,_,rfl,fun _=>⟨_,_,rfl,fun j y hj=>?_⟩⟩;rw[Nat.zero_add,h.cell j,List.getElem?_toArray];exact hj
theorem cellsAt_nil(W:World)(n c:Nat):CellsAt W (.slice none n c) n []:=⟨_,_,rfl,fun h=>absurd rfl h⟩
theorem strS_nil(W:World)(c:Nat):StrS W (.slice none 0 c) []:=⟨none,c,rfl,Nat.zero_le _,fun h=>absurd rfl h⟩
theorem seven_args{W:World}{ia:Option Addr}(h:CellsAt W (.slice ia 4 4) 4 (insLs sevL)):VArgs W none ia none none none none 0 4 0 0 0 0 sevC [] [] sevF:=⟨cellsAt_nil _ _ _,h,cellsAt_nil _ _ _,cellsAt_nil _ _ _,strS_nil _ _,strS_nil _ _⟩
def sevV (b:Nat):Ev:=⟨.slice (some ⟨b,0,none⟩) 1 1,.slice none 0 0,.slice none 0 0,.slice none 0 0⟩
theorem sevE_in{W:World}{b:Nat}(h:Bx b #[.int .i64 1,.int .i64 7,.string ⟨#[]⟩] 52 W):EfIn sevE (sevV b) W:=⟨cellsAt_box h,strS_nil _ _,strS_nil _ _,cellsAt_nil _ _ _⟩
theorem sevE_s:EfS sevE:=⟨by decide,by decide,by decide,by decide⟩
theorem seven_run:runS sevC [] [] sevF=sevE:=by decide +kernel
theorem seven_trace:traceS sevC [] [] sevF 9=[0,1,2,3]:=by decide +kernel
theorem seven_lim:VLim sevC [] [] sevF:=⟨by decide,by decide,by simp,by simp,by simp[sevF],by decide,by simp,by simp⟩
theorem seven_any(w:World):
  Calls prog 25 #[] w fun e w'=>∃ia,e=.returned (.agg #[.slice none 0 0,.int .i64 0,.slice ia 4 4])∧CellsAt w' (.slice ia 4 4) 4 (insLs sevL)∧Below w.heap.size w w':=by
 obtain⟨v0,hW,hb,hx,hy⟩:=boxes2 w #[.slice none 0 0,.int .i64 0,.slice (some ⟨w.heap.size+1,0,none⟩) 4 4] 25 #[.int .i64 14,.int .i64 0,.int .i64 0,.int .i64 0,.string ⟨#[]⟩,.int .i64 1,.int .i64 0,.int .i64 0,.int .i64 7,.string ⟨#[]⟩,.int .i64 10,.int .i64 0,.int .i64 0,.int .i64 0,.string ⟨#[]⟩,.int .i64 13,.int .i64 0,.int .i64 0,.int .i64 0,.string ⟨#[]⟩] 45;have HW:=h_ hW;have HB:=h_ hb;have HX:=h_ hx;have HY:=h_ (show Bx (w.heap.size+1) (insLs sevL).toArray 45 v0 from hy);clear hW hb hx hy;go_enter func25,ntmps25;go_wp2;rw[HW.out];obtain⟨k0,k1,k2⟩:=HX.out.c3;refine bodyPost_ret (v:=.agg #[.slice none 0 0,.int .i64 0,.slice (some ⟨w.heap.size+1,0,none⟩) 4 4]) (by simp[results,results25,go_sem,k0,k1,k2]<;>rfl) rfl ⟨_,rfl,cellsAt_box HY.out,HB.out⟩
theorem lives18(w:World)(hLB:LaidB w):
  Calls prog 10 #[] w fun e w'=>e=.returned (.bool true)∧Below w.heap.size w w':=by
 obtain⟨v0,hW,hb,hx,hy⟩:=boxes2 w #[.int .i64 1,.int .i64 7,.string ⟨#[]⟩] 52 #[.int .i64 1,.int .i64 0,.slice (some ⟨w.heap.size,0,none⟩) 1 1,.slice none 0 0,.slice none 0 0,.slice none 0 0,.string ⟨#[]⟩,.int .i64 1] 37;have HW:=h_ hW;have HB:=h_ hb.drew;have HX:=h_ hx.drew;have HY:=h_ hy.drew;clear hW hb hx hy;have HLB:=h_ (hLB.below HB.out);clear hLB;go_enter func10,ntmps10;go_upto_region 2 with (fail);rw[HW.out];clear HW;skip;refine wp_region_held_drew (S:=(fun w'=>Bx (w.heap.size+1) #[.int .i64 1,.int .i64 0,.slice (some ⟨w.heap.size,0,none⟩) 1 1,.slice none 0 0,.slice none 0 0,.slice none 0 0,.string ⟨#[]⟩,.int .i64 1] 37 w')) (by kernel_rfl) ?_ (fun hHeld=>?_)
 ·exact HY.out
 refine tkX 1 7 ?_;refine tkY 3 (v:=?vv2) 9 ?yy2 ?_
 case yy2 =>
  intro wq hSw;obtain⟨z0,z1,z2,z3,z4,z5,z6,z7⟩:=Bx.c8 hSw;clear hSw;go_simp
  (try with_reducible rfl)
 simp only[sA,sB,sC];refine rd1 0 fun K hK=>?_;go_simp;refine(seven_any v0.drew).mono ?_;rintro er w1 ⟨ia,rfl,hi1,hb1⟩;have HI:=h_ hi1;skip;have HB:=bt HB hb1;have HX:=HX.out.k hb1;have HY:=HY.out.k hb1;have HLB:=h_ (HLB.out.below hb1);refine hK.out _ _ (HY.out) fun hHeld=>?_;clear hK K
 (try simp only[Act.put,sA,sB,sC])
 clear hi1 hb1;refine rd1 2 fun K hK=>?_;go_simp;refine(Run_any none ia none none none none 0 4 0 0 0 0 sevC [] [] sevF w1 (seven_args HI.out) seven_lim HLB.out).mono ?_;rw[seven_run];rintro er w2 ⟨v,rfl,hE,hb2⟩;have HE:=h_ hE;have HB:=bt HB hb2;have HX:=HX.out.k hb2;have HY:=HY.out.k hb2;have HLB:=h_ (HLB.out.below hb2);refine hK.out _ _ (HY.out) fun hHeld=>?_;clear hK K
 (try simp only[Act.put,sA,sB,sC])
 clear hE hb2 HI;refine rd1 4 fun K hK=>?_;go_simp;refine(RSame_any sevE sevE v (sevV w.heap.size) w2 HE.out (sevE_in HX.out) sevE_s sevE_s).mono ?_;rw[decide_eq_true rfl];rintro er w3 ⟨rfl,hb3⟩;have HB:=bt HB hb3;have HX:=HX.out.k hb3;have HY:=HY.out.k hb3;have HLB:=h_ (HLB.out.below hb3);refine hK.out _ _ (HY.out) fun hHeld=>?_;clear hK K
 (try simp only[Act.put,sA,sB,sC])
 clear hb3 HE;refine tkX 5 11 ?_;refine tkX 7 13 ?_;simp only[sA,sB,sC];refine wpAnyH_ready (rs:=[6,9]) (by kernel_rfl) (by simp) ?_;refine(AllReadyH.cons rfl (fun K hK=>?_) (AllReadyH.cons rfl (fun K hK=>?_) AllReadyH.nil))
 ·skip
  go_simp;refine(seven_any w3).mono ?_;rintro er w4 ⟨ia,rfl,hi4,hb4⟩;have HI:=h_ hi4;skip;have HB:=bt HB hb4;have HX:=HX.out.k hb4;have HY:=HY.out.k hb4;have HLB:=h_ (HLB.out.below hb4);refine hK.out _ _ (HY.out) fun hHeld=>?_;clear hK K
  (try simp only[Act.put,sA,sB,sC])
  clear hi4 hb4;refine wpAnyH_ready (rs:=[8,9]) (by kernel_rfl) (by simp) ?_;refine(AllReadyH.cons rfl (fun K hK=>?_) (AllReadyH.cons rfl (fun K hK=>?_) AllReadyH.nil))
  ·skip
   go_simp;refine(Trace_any none ia none none none none 0 4 0 0 0 0 sevC [] [] sevF 9 w4 (seven_args HI.out) seven_lim HLB.out).mono ?_;rw[seven_trace];rintro er w5 ⟨rv,rfl,ho5,hb5⟩;have HT:=h_ (own_intAt ho5);have HB:=bt HB hb5;have HX:=HX.out.k hb5;have HY:=HY.out.k hb5;have HLB:=h_ (HLB.out.below hb5);refine hK.out _ _ (HY.out) fun hHeld=>?_;clear hK K
   (try simp only[Act.put,sA,sB,sC])
   clear ho5 hb5;refine rd1 9 fun K hK=>?_;obtain⟨w6,hu,hb6,hs6⟩:=boxes1 w5 #[.int .i64 0,.int .i64 1,.int .i64 2,.int .i64 3] 3;have HU:=h_ hu;clear hu;have HS:=h_ hs6;clear hs6;have HB:=bt HB hb6;have HX:=HX.out.k hb6;have HY:=HY.out.k hb6;have HLB:=h_ (HLB.out.below hb6);have HT:=h_ (HT.out.below hb6);clear hb6;go_simp
   (try rw[HU.out])
   focus (try go_wp2_with fail)
   (try rw[HU.out])
   refine hK.out _ _ (HY.out) fun hHeld=>?_;clear hK K
   (try simp only[Act.put,sA,sB,sC])
   clear HU;refine rd1 10 fun K hK=>?_;go_simp;refine(sameInts_any rv (.slice (some ⟨w5.heap.size,0,none⟩) 4 4) [0,1,2,3] [0,1,2,3] w6 HT.out (cellsAt_box HS.out) (by decide)).mono ?_;rw[decide_eq_true rfl];rintro er w7 ⟨rfl,hb7⟩;have HB:=bt HB hb7;have HX:=HX.out.k hb7;have HY:=HY.out.k hb7;have HLB:=h_ (HLB.out.below hb7);refine hK.out _ _ (HY.out) fun hHeld=>?_;clear hK K
   (try simp only[Act.put,sA,sB,sC])
   clear hb7;refine tkX 11 17 ?_;refine tkX 12 0 ?_;simp only[sA,sB];refine wpAnyH_done (by kernel_rfl) ?_ _;go_wp2;go_ret;exact⟨rfl,HB.out⟩
  ·skip
   obtain⟨w5,hu,hb5,hs5⟩:=boxes1 w4 #[.int .i64 0,.int .i64 1,.int .i64 2,.int .i64 3] 3;have HU:=h_ hu;clear hu;have HS:=h_ hs5;clear hs5;have HB:=bt HB hb5;have HX:=HX.out.k hb5;have HY:=HY.out.k hb5;have HLB:=h_ (HLB.out.below hb5);have HI:=h_ (HI.out.below hb5);clear hb5;go_simp
   (try rw[HU.out])
   focus (try go_wp2_with fail)
   (try rw[HU.out])
   refine hK.out _ _ (HY.out) fun hHeld=>?_;clear hK K
   (try simp only[Act.put,sA,sB,sC])
   clear HU;refine rd1 8 fun K hK=>?_;go_simp;refine(Trace_any none ia none none none none 0 4 0 0 0 0 sevC [] [] sevF 9 w5 (seven_args HI.out) seven_lim HLB.out).mono ?_;rw[seven_trace];rintro er w6 ⟨rv,rfl,ho6,hb6⟩;have HT:=h_ (own_intAt ho6);have HB:=bt HB hb6;have HX:=HX.out.k hb6;have HY:=HY.out.k hb6;have HLB:=h_ (HLB.out.below hb6);have HS:=HS.out.k hb6;refine hK.out _ _ (HY.out) fun hHeld=>?_;clear hK K
   (try simp only[Act.put,sA,sB,sC])
   clear ho6 hb6;refine rd1 10 fun K hK=>?_;go_simp;refine(sameInts_any rv (.slice (some ⟨w4.heap.size,0,none⟩) 4 4) [0,1,2,3] [0,1,2,3] w6 HT.out (cellsAt_box HS.out) (by decide)).mono ?_;rw[decide_eq_true rfl];rintro er w7 ⟨rfl,hb7⟩;have HB:=bt HB hb7;have HX:=HX.out.k hb7;have HY:=HY.out.k hb7;have HLB:=h_ (HLB.out.below hb7);refine hK.out _ _ (HY.out) fun hHeld=>?_;clear hK K
   (try simp only[Act.put,sA,sB,sC])
   clear hb7;refine tkX 11 17 ?_;refine tkX 12 0 ?_;simp only[sA,sB];refine wpAnyH_done (by kernel_rfl) ?_ _;go_wp2;go_ret;exact⟨rfl,HB.out⟩
 ·skip
  obtain⟨w4,hu,hb4,hs4⟩:=boxes1 w3 #[.int .i64 0,.int .i64 1,.int .i64 2,.int .i64 3] 3;have HU:=h_ hu;clear hu;have HS:=h_ hs4;clear hs4;have HB:=bt HB hb4;have HX:=HX.out.k hb4;have HY:=HY.out.k hb4;have HLB:=h_ (HLB.out.below hb4);clear hb4;go_simp
  (try rw[HU.out])
  focus (try go_wp2_with fail)
  (try rw[HU.out])
  refine hK.out _ _ (HY.out) fun hHeld=>?_;clear hK K
  (try simp only[Act.put,sA,sB,sC])
  clear HU;refine rd1 6 fun K hK=>?_;go_simp;refine(seven_any w4).mono ?_;rintro er w5 ⟨ia,rfl,hi5,hb5⟩;have HI:=h_ hi5;have HS:=HS.out.k hb5;have HB:=bt HB hb5;have HX:=HX.out.k hb5;have HY:=HY.out.k hb5;have HLB:=h_ (HLB.out.below hb5);refine hK.out _ _ (HY.out) fun hHeld=>?_;clear hK K
  (try simp only[Act.put,sA,sB,sC])
  clear hi5 hb5;refine rd1 8 fun K hK=>?_;go_simp;refine(Trace_any none ia none none none none 0 4 0 0 0 0 sevC [] [] sevF 9 w5 (seven_args HI.out) seven_lim HLB.out).mono ?_;rw[seven_trace];rintro er w6 ⟨rv,rfl,ho6,hb6⟩;have HT:=h_ (own_intAt ho6);have HB:=bt HB hb6;have HX:=HX.out.k hb6;have HY:=HY.out.k hb6;have HLB:=h_ (HLB.out.below hb6);have HS:=HS.out.k hb6;refine hK.out _ _ (HY.out) fun hHeld=>?_;clear hK K
  (try simp only[Act.put,sA,sB,sC])
  clear ho6 hb6;refine rd1 10 fun K hK=>?_;go_simp;refine(sameInts_any rv (.slice (some ⟨w3.heap.size,0,none⟩) 4 4) [0,1,2,3] [0,1,2,3] w6 HT.out (cellsAt_box HS.out) (by decide)).mono ?_;rw[decide_eq_true rfl];rintro er w7 ⟨rfl,hb7⟩;have HB:=bt HB hb7;have HX:=HX.out.k hb7;have HY:=HY.out.k hb7;have HLB:=h_ (HLB.out.below hb7);refine hK.out _ _ (HY.out) fun hHeld=>?_;clear hK K
  (try simp only[Act.put,sA,sB,sC])
  clear hb7;refine tkX 11 17 ?_;refine tkX 12 0 ?_;simp only[sA,sB];refine wpAnyH_done (by kernel_rfl) ?_ _;go_wp2;go_ret;exact⟨rfl,HB.out⟩
theorem Bx.c7{b:Nat}{u0 u1 u2 u3 u4 u5 u6:Value}{T:TypeId}{W:World}(h:Bx b #[u0,u1,u2,u3,u4,u5,u6] T W):W.cell? ⟨b,0,none⟩=some u0∧W.cell? ⟨b,1,none⟩=some u1∧W.cell? ⟨b,2,none⟩=some u2∧W.cell? ⟨b,3,none⟩=some u3∧W.cell? ⟨b,4,none⟩=some u4∧W.cell? ⟨b,5,none⟩=some u5∧W.cell? ⟨b,6,none⟩=some u6:=⟨h.cell 0,h.cell 1,h.cell 2,h.cell 3,h.cell 4,h.cell 5,h.cell 6⟩
theorem exec_any(c:Cd)(A:List Vl)(M:List Pr)(F:Ft)(hl:VLim c A M F)(most:Int)(hm:most≤5000):∃n,staB c A M F=true→RunY most n (ry0 c A M F most) [] (runS c A M F) (traceS c A M F most):=by
 by_cases h:staB c A M F=true
 ·obtain⟨n,hn⟩:=exec_sim h hl most hm
  exact⟨n,fun _=>hn⟩
 ·exact⟨0,fun q=>absurd q h⟩
theorem exec_bad{c:Cd}{A:List Vl}{M:List Pr}{F:Ft}(most:Int)(h:staB c A M F=false):runS c A M F=abE∧traceS c A M F most=[]:=by
 unfold runS traceS;rw[h,if_neg (by simp),if_neg (by simp)];exact⟨rfl,rfl⟩
def TrP (T:List Int) (w:World) (e:Ending) (w':World):Prop:=∃ta tc,e=.returned (.slice ta T.length tc)∧CellsAt w' (.slice ta T.length tc) T.length (intsL T)∧Below w.heap.size w w'
theorem RRun_any(pa ia aa sa ra wa:Option Addr)(pc ic ac sc rc wac:Nat)(c:Cd)(A:List Vl)(M:List Pr)(F:Ft)(w:World)(hA:VArgs w pa ia aa sa ra wa pc ic ac sc rc wac c A M F)(hl:VLim c A M F):
  Calls prog 9 #[.agg #[.slice pa c.p.length pc,.int .i64 c.sl,.slice ia c.l.length ic],.slice aa A.length ac,.slice sa M.length sc,.agg #[.bool F.all,.slice ra F.rd.length rc,.slice wa F.wr.length wac]] w (RunP (runS c A M F) w):=by
 have hD:∀k,(fun _:Nat=>False) k→k<w.heap.size:=fun k h=>h.elim;obtain⟨D,hDe⟩:∃D:Nat→Prop,(fun _:Nat=>False)=D:=⟨_,rfl⟩
 have hD0:∀k,¬D k:=by rw[←hDe];exact fun _ h=>h
 rw[hDe]at hD;clear hDe;obtain⟨E,hE⟩:=ex_ (runS c A M F);obtain⟨T,hT⟩:=ex_ (traceS c A M F (0));obtain⟨n,hn⟩:=exec_any c A M F hl (0) (by omega)
 have h0:staB c A M F=false→E=abE∧T=[]:=fun h=>by have:=exec_bad (A:=A) (M:=M) (F:=F) (0) h;rw[hE,hT]at this;exact this
 rw[hE,hT]at hn;rw[hE];have HR:=h_ (args_stab hD0 hA);have HL:=h_ hl;have H0:=h_ h0;have H1:=h_ hn;clear hA hl h0 hn hE hT;obtain⟨v0,hW0,hb0,hHC,hHF,hHY⟩:=bxs3 w (#[.slice pa c.p.length pc,.int .i64 c.sl,.slice ia c.l.length ic]) (#[.bool F.all,.slice ra F.rd.length rc,.slice wa F.wr.length wac]) (#[.int .i64 0,.int .i64 0,.slice none 0 0,.slice none 0 0,.slice none 0 0,.slice none 0 0,.string ⟨#[]⟩,.int .i64 0]) 25 29 37;have HW:=h_ hW0;have HB:=h_ hb0;have HC:=h_ hHC;have HF:=h_ hHF;have HY:=h_ hHY;clear hW0 hb0 hHC hHF hHY;go_enter func9,ntmps9;go_upto_region 1 with (fail);rw[HW.out];clear HW;have HQ:=h_ (HR.out.inn HB.out 3);clear HR;go_wp2_with (first|refine HC.out.wl 0 (#[.slice pa c.p.length pc,.int .i64 c.sl,.slice ia c.l.length ic]) underlying25 ?_|refine HF.out.wl 0 (#[.bool F.all,.slice ra F.rd.length rc,.slice wa F.wr.length wac]) underlying29 ?_);refine(Rexec_any pa ia aa sa ra wa pc ic ac sc rc wac c A M F (0) (boxD D w 3) _ (bl 3 hD HY) HQ.out HL.out n E T H0.out H1.out).mono ?_;rintro er w1 ⟨ev,ta,tc,rfl,hin,ht,hb1⟩;have HC:=HC.out.k hb1;have HF:=HF.out.k hb1;have HY:=HY.out.k hb1;have HQ:=HQ.out.k hb1;have HB:=bt HB hb1;clear hb1;obtain⟨eo,erv,ep,ew⟩:=ev;obtain⟨oa,oc,ho,-⟩:=id hin.now.o;obtain⟨ea,ec,hr⟩:=hin.now.r.len2;obtain⟨ua,uc,hp⟩:=hin.now.p.len2;obtain⟨xa,xc,hw,-⟩:=id hin.now.w;simp only at ho hr hp hw;subst ho hr hp hw;have HE:=h_ hin;have HT:=h_ ht;clear hin ht;go_wp2_with (refine wal (z:=#[.int .i64 0,.int .i64 0,.slice none 0 0,.slice none 0 0,.slice none 0 0,.slice none 0 0,.string ⟨#[]⟩,.int .i64 0]) rfl rfl rfl (by kernel_rfl) ?_);intro b9 W1 hba hx hbl
 have hlb9:w.heap.size+3≤b9:=by have:=HY.out.lt;omega
 have HC:=HC.out.k hbl;have HF:=HF.out.k hbl;have HY:=HY.out.k hbl;have HQ:=h_ (HQ.out.more hbl (b:=b9) (c:=b9) (by omega) (by omega));have HE:=h_ (HE.out.more hbl (b:=b9) (c:=b9) (by omega) (by omega));have HT:=h_ (HT.out.more hbl (b:=b9) (c:=b9) (by omega) (by omega));have HB:=bt HB hbl;have HX:=h_ hx;clear hx hbl hba;go_wp2_with (refine HX.out.wa (efV E ⟨.slice oa E.out.length oc,.slice ea E.rds.length ec,.slice ua E.puts.length uc,.slice xa E.wrs.length xc⟩) ?_);intro W2 HX p2;have HC:=HC.out.q p2;have HF:=HF.out.q p2;have HY:=HY.out.q p2;have HB:=pb HB p2;have HQ:=HQ.out.q p2;have HE:=HE.out.q p2;have HT:=HT.out.q p2;clear p2;go_wp2_with (first|refine HX.out.wl 0 (efV E ⟨.slice oa E.out.length oc,.slice ea E.rds.length ec,.slice ua E.puts.length uc,.slice xa E.wrs.length xc⟩) underlying37 ?_|refine HY.out.wa (efV E ⟨.slice oa E.out.length oc,.slice ea E.rds.length ec,.slice ua E.puts.length uc,.slice xa E.wrs.length xc⟩) ?_);intro W3 HY p3;have HC:=HC.out.q p3;have HF:=HF.out.q p3;have HX:=HX.out.q p3;have HB:=pb HB p3;have HQ:=HQ.out.q p3;have HE:=HE.out.q p3;have HT:=HT.out.q p3;clear p3;go_wp2;exact HY.out.r1 underlying37 ⟨⟨.slice oa E.out.length oc,.slice ea E.rds.length ec,.slice ua E.puts.length uc,.slice xa E.wrs.length xc⟩,rfl,HE.out.now,HB.out⟩
theorem RTrace_any(pa ia aa sa ra wa:Option Addr)(pc ic ac sc rc wac:Nat)(c:Cd)(A:List Vl)(M:List Pr)(F:Ft)(most:Int)(hmo:most≤5000)(w:World)(hA:VArgs w pa ia aa sa ra wa pc ic ac sc rc wac c A M F)(hl:VLim c A M F):
  Calls prog 13 #[.agg #[.slice pa c.p.length pc,.int .i64 c.sl,.slice ia c.l.length ic],.slice aa A.length ac,.slice sa M.length sc,.agg #[.bool F.all,.slice ra F.rd.length rc,.slice wa F.wr.length wac],.int .i64 most] w (TrP (traceS c A M F most) w):=by
 have hD:∀k,(fun _:Nat=>False) k→k<w.heap.size:=fun k h=>h.elim;obtain⟨D,hDe⟩:∃D:Nat→Prop,(fun _:Nat=>False)=D:=⟨_,rfl⟩
 have hD0:∀k,¬D k:=by rw[←hDe];exact fun _ h=>h
 rw[hDe]at hD;clear hDe;obtain⟨E,hE⟩:=ex_ (runS c A M F);obtain⟨T,hT⟩:=ex_ (traceS c A M F (most));obtain⟨n,hn⟩:=exec_any c A M F hl (most) (by omega)
 have h0:staB c A M F=false→E=abE∧T=[]:=fun h=>by have:=exec_bad (A:=A) (M:=M) (F:=F) (most) h;rw[hE,hT]at this;exact this
 rw[hE,hT]at hn;rw[hT];have HR:=h_ (args_stab hD0 hA);have HL:=h_ hl;have H0:=h_ h0;have H1:=h_ hn;clear hA hl h0 hn hE hT;obtain⟨v0,hW0,hb0,hHC,hHF⟩:=bxs2 w (#[.slice pa c.p.length pc,.int .i64 c.sl,.slice ia c.l.length ic]) (#[.bool F.all,.slice ra F.rd.length rc,.slice wa F.wr.length wac]) 25 29;have HW:=h_ hW0;have HB:=h_ hb0;have HC:=h_ hHC;have HF:=h_ hHF;clear hW0 hb0 hHC hHF;go_enter func13,ntmps13;go_upto_region 1 with (fail);rw[HW.out];clear HW;have HQ:=h_ (HR.out.inn HB.out 2);clear HR;go_wp2_with (first|refine HC.out.wl 0 (#[.slice pa c.p.length pc,.int .i64 c.sl,.slice ia c.l.length ic]) underlying25 ?_|refine HF.out.wl 0 (#[.bool F.all,.slice ra F.rd.length rc,.slice wa F.wr.length wac]) underlying29 ?_);refine(Rexec_any pa ia aa sa ra wa pc ic ac sc rc wac c A M F (most) (boxD D w 2) _ (bl 2 hD HF) HQ.out HL.out n E T H0.out H1.out).mono ?_;rintro er w1 ⟨ev,ta,tc,rfl,hin,ht,hb1⟩;have HC:=HC.out.k hb1;have HF:=HF.out.k hb1;have HQ:=HQ.out.k hb1;have HB:=bt HB hb1;clear hb1;obtain⟨eo,erv,ep,ew⟩:=ev;obtain⟨oa,oc,ho,-⟩:=id hin.now.o;obtain⟨ea,ec,hr⟩:=hin.now.r.len2;obtain⟨ua,uc,hp⟩:=hin.now.p.len2;obtain⟨xa,xc,hw,-⟩:=id hin.now.w;simp only at ho hr hp hw;subst ho hr hp hw;have HE:=h_ hin;have HT:=h_ ht;clear hin ht;go_wp2_with (refine wal (z:=#[.int .i64 0,.int .i64 0,.slice none 0 0,.slice none 0 0,.slice none 0 0,.slice none 0 0,.string ⟨#[]⟩,.int .i64 0]) rfl rfl rfl (by kernel_rfl) ?_);intro b11 W1 hba hx hbl
 have hlb11:w.heap.size+2≤b11:=by have:=HF.out.lt;omega
 have HC:=HC.out.k hbl;have HF:=HF.out.k hbl;have HQ:=h_ (HQ.out.more hbl (b:=b11) (c:=b11) (by omega) (by omega));have HE:=h_ (HE.out.more hbl (b:=b11) (c:=b11) (by omega) (by omega));have HT:=h_ (HT.out.more hbl (b:=b11) (c:=b11) (by omega) (by omega));have HB:=bt HB hbl;have HX:=h_ hx;clear hx hbl hba;go_wp2_with (refine HX.out.wa (efV E ⟨.slice oa E.out.length oc,.slice ea E.rds.length ec,.slice ua E.puts.length uc,.slice xa E.wrs.length xc⟩) ?_);intro W2 HX p2;have HC:=HC.out.q p2;have HF:=HF.out.q p2;have HB:=pb HB p2;have HQ:=HQ.out.q p2;have HE:=HE.out.q p2;have HT:=HT.out.q p2;clear p2;go_wp2;go_ret;exact⟨ta,tc,rfl,HT.out.now,HB.out⟩
theorem runsWalk18(pa ia aa sa ra wa:Option Addr)(pc ic ac sc rc wac:Nat)(c:Cd)(A:List Vl)(M:List Pr)(F:Ft){w:World}(hA:VArgs w pa ia aa sa ra wa pc ic ac sc rc wac c A M F)(hl:VLim c A M F)(hLB:LaidB w):
  Calls prog 3 #[.agg #[.slice pa c.p.length pc,.int .i64 c.sl,.slice ia c.l.length ic,.slice aa A.length ac,.bool F.all,.slice ra F.rd.length rc,.slice wa F.wr.length wac],.slice sa M.length sc] w fun e w'=>e=.returned (.bool true)∧Below w.heap.size w w':=by
 obtain⟨E,hE⟩:=ex_ (runS c A M F)
 have hES:EfS E:=by rw[←hE];exact runS_size c A M F
 have HE:=h_ hE;have HES:=h_ hES;have HA:=h_ hA;have HL:=h_ hl;have HLB:=h_ hLB;clear hE hES hA hl hLB;obtain⟨v0,hW0,hb0,hx0⟩:=boxes1 w #[.slice pa c.p.length pc,.int .i64 c.sl,.slice ia c.l.length ic,.slice aa A.length ac,.bool F.all,.slice ra F.rd.length rc,.slice wa F.wr.length wac] 31;have HW:=h_ hW0;have HB:=h_ hb0;have HR:=h_ hx0;clear hW0 hb0 hx0;have HA:=h_ (HA.out.below HB.out);have HLB:=h_ (HLB.out.below HB.out);go_enter func3,ntmps3;go_upto_region 1 with (fail);rw[HW.out];clear HW;refine wp_region_held_drew (S:=(fun w'=>Below v0.heap.size v0 w')) (by kernel_rfl) ?_ (fun hHeld=>?_)
 ·exact(Below.refl _ _).drew
 have HS:=h_ (show Below v0.heap.size v0 v0.drew from(Below.refl _ _).drew);refine tkX 0 5 ?_;refine tkY 1 (v:=?vv2) 6 ?yy2 ?_
 case yy2 =>
  intro wq hSw;obtain⟨z0,z1,z2,z3,z4,z5,z6⟩:=(HR.out.call hSw).c7;clear hSw;go_simp
  (try with_reducible rfl)
 refine tkX 2 7 ?_;refine tkY 3 (v:=?vv4) 8 ?yy4 ?_
 case yy4 =>
  intro wq hSw;obtain⟨z0,z1,z2,z3,z4,z5,z6⟩:=(HR.out.call hSw).c7;clear hSw;go_simp
  (try with_reducible rfl)
 refine tkX 4 9 ?_;refine tkX 5 10 ?_;refine tkY 6 (v:=?vv7) 11 ?yy7 ?_
 case yy7 =>
  intro wq hSw;obtain⟨z0,z1,z2,z3,z4,z5,z6⟩:=(HR.out.call hSw).c7;clear hSw;go_simp
  (try with_reducible rfl)
 refine tkX 8 13 ?_;refine tkY 9 (v:=?vv9) 14 ?yy9 ?_
 case yy9 =>
  intro wq hSw;obtain⟨z0,z1,z2,z3,z4,z5,z6⟩:=(HR.out.call hSw).c7;clear hSw;go_simp
  (try with_reducible rfl)
 refine tkX 10 15 ?_;refine tkY 11 (v:=?vv11) 16 ?yy11 ?_
 case yy11 =>
  intro wq hSw;obtain⟨z0,z1,z2,z3,z4,z5,z6⟩:=(HR.out.call hSw).c7;clear hSw;go_simp
  (try with_reducible rfl)
 refine tkX 12 17 ?_;refine tkX 13 18 ?_;refine tkY 14 (v:=?vv14) 19 ?yy14 ?_
 case yy14 =>
  intro wq hSw;obtain⟨z0,z1,z2,z3,z4,z5,z6⟩:=(HR.out.call hSw).c7;clear hSw;go_simp
  (try with_reducible rfl)
 simp only[sA,sB,sC];refine rd1 7 fun K hK=>?_;go_simp;refine(Run_any pa ia aa sa ra wa pc ic ac sc rc wac c A M F _ (HA.out.below HS.out) HL.out (HLB.out.below HS.out)).mono ?_;rw[HE.out];rintro er w1 ⟨ev,rfl,hin,hb1⟩;have HS:=h_ (btrans HS.out HS.out.size hb1);have HI1:=h_ hin;clear hin;clear hb1;refine hK.out _ _ (HS.out) fun hHeld=>?_;clear hK K hHeld
 (try simp only[Act.put,sA,sB,sC])
 refine rd1 15 fun K hK=>?_;go_simp;refine(RRun_any pa ia aa sa ra wa pc ic ac sc rc wac c A M F _ (HA.out.below HS.out) HL.out).mono ?_;rw[HE.out];rintro er w2 ⟨ev2,rfl,hin,hb2⟩;have HS:=h_ (btrans HS.out HS.out.size hb2);have HI1:=h_ (HI1.out.below hb2);have HI2:=h_ hin;clear hin;clear hb2;refine hK.out _ _ (HS.out) fun hHeld=>?_;clear hK K hHeld
 (try simp only[Act.put,sA,sB,sC])
 refine rd1 16 fun K hK=>?_;go_simp;refine(RSame_any E E ev ev2 _ HI1.out HI2.out HES.out HES.out).mono ?_;rw[decide_eq_true rfl];rintro er w3 ⟨rfl,hb3⟩;have HS:=h_ (btrans HS.out HS.out.size hb3);clear hb3;refine hK.out _ _ (HS.out) fun hHeld=>?_;clear hK K hHeld
 (try simp only[Act.put,sA,sB,sC])
 refine tkX 17 22 ?_;simp only[sA,sB,sC];refine rd1 18 fun K hK=>?_;go_simp;refine(lives18 _ (HLB.out.below HS.out)).mono ?_;rintro er w4 ⟨rfl,hb4⟩;have HS:=h_ (btrans HS.out HS.out.size hb4);clear hb4;refine hK.out _ _ (HS.out) fun hHeld=>?_;clear hK K hHeld
 (try simp only[Act.put,sA,sB,sC])
 refine tkX 19 24 ?_;refine tkX 20 4 ?_;simp only[sA,sB,sC];refine wpAnyH_done (by kernel_rfl) ?_ _;go_wp2;go_ret;exact⟨rfl,btrans HB.out HB.out.size HS.out⟩
theorem tracesWalk18(pa ia aa sa ra wa:Option Addr)(pc ic ac sc rc wac:Nat)(c:Cd)(A:List Vl)(M:List Pr)(F:Ft)(most:Int){w:World}(hA:VArgs w pa ia aa sa ra wa pc ic ac sc rc wac c A M F)(hl:VLim c A M F)(hLB:LaidB w):
  Calls prog 4 #[.agg #[.slice pa c.p.length pc,.int .i64 c.sl,.slice ia c.l.length ic,.slice aa A.length ac,.bool F.all,.slice ra F.rd.length rc,.slice wa F.wr.length wac],.slice sa M.length sc,.int .i64 most] w fun e w'=>e=.returned (.bool true)∧Below w.heap.size w w':=by
 obtain⟨T,hT⟩:=ex_ (traceS c A M F most);have HT:=h_ hT;have HA:=h_ hA;have HL:=h_ hl;have HLB:=h_ hLB;clear hT hA hl hLB;obtain⟨v0,hW0,hb0,hx0⟩:=boxes1 w #[.slice pa c.p.length pc,.int .i64 c.sl,.slice ia c.l.length ic,.slice aa A.length ac,.bool F.all,.slice ra F.rd.length rc,.slice wa F.wr.length wac] 31;have HW:=h_ hW0;have HB:=h_ hb0;have HR:=h_ hx0;clear hW0 hb0 hx0;have HA:=h_ (HA.out.below HB.out);have HLB:=h_ (HLB.out.below HB.out);go_enter func4,ntmps4;go_upto_region 1 with (fail);rw[HW.out];clear HW;by_cases hmo:5000<most
 ·go_wp2_with fail
  refine(lives18 _ HLB.out).mono ?_;rintro er w1 ⟨rfl,hb1⟩;have HB:=bt HB hb1;go_wp2;go_ret;exact⟨rfl,HB.out⟩
 have hmo2:most≤5000:=by omega
 have htl:T.length≤5000:=by rw[←HT.out];exact trace_len c A M F hmo2
 have HMO:=h_ hmo2;have HTL:=h_ htl;clear htl hmo2;go_upto_region 3 with (fail);clear hmo;refine wp_region_held_drew (S:=(fun w'=>Below v0.heap.size v0 w')) (by kernel_rfl) ?_ (fun hHeld=>?_)
 ·exact(Below.refl _ _).drew
 have HS:=h_ (show Below v0.heap.size v0 v0.drew from(Below.refl _ _).drew);refine tkX 0 10 ?_;refine tkY 1 (v:=?vv19) 11 ?yy19 ?_
 case yy19 =>
  intro wq hSw;obtain⟨z0,z1,z2,z3,z4,z5,z6⟩:=(HR.out.call hSw).c7;clear hSw;go_simp
  (try with_reducible rfl)
 refine tkX 2 12 ?_;refine tkY 3 (v:=?vv21) 13 ?yy21 ?_
 case yy21 =>
  intro wq hSw;obtain⟨z0,z1,z2,z3,z4,z5,z6⟩:=(HR.out.call hSw).c7;clear hSw;go_simp
  (try with_reducible rfl)
 refine tkX 4 14 ?_;refine tkX 5 15 ?_;refine tkY 6 (v:=?vv24) 16 ?yy24 ?_
 case yy24 =>
  intro wq hSw;obtain⟨z0,z1,z2,z3,z4,z5,z6⟩:=(HR.out.call hSw).c7;clear hSw;go_simp
  (try with_reducible rfl)
 refine tkX 7 17 ?_;refine tkX 9 19 ?_;refine tkY 10 (v:=?vv27) 20 ?yy27 ?_
 case yy27 =>
  intro wq hSw;obtain⟨z0,z1,z2,z3,z4,z5,z6⟩:=(HR.out.call hSw).c7;clear hSw;go_simp
  (try with_reducible rfl)
 refine tkX 11 21 ?_;refine tkY 12 (v:=?vv29) 22 ?yy29 ?_
 case yy29 =>
  intro wq hSw;obtain⟨z0,z1,z2,z3,z4,z5,z6⟩:=(HR.out.call hSw).c7;clear hSw;go_simp
  (try with_reducible rfl)
 refine tkX 13 23 ?_;refine tkX 14 24 ?_;refine tkY 15 (v:=?vv32) 25 ?yy32 ?_
 case yy32 =>
  intro wq hSw;obtain⟨z0,z1,z2,z3,z4,z5,z6⟩:=(HR.out.call hSw).c7;clear hSw;go_simp
  (try with_reducible rfl)
 refine tkX 16 26 ?_;simp only[sA,sB,sC];refine rd1 8 fun K hK=>?_;go_simp;refine(Trace_any pa ia aa sa ra wa pc ic ac sc rc wac c A M F most _ (HA.out.below HS.out) HL.out (HLB.out.below HS.out)).mono ?_;rw[HT.out];rintro er w1 ⟨rv,rfl,ho1,hb1⟩;have HS:=h_ (btrans HS.out HS.out.size hb1);obtain⟨la,lc,hrv⟩:=own_sl ho1;subst hrv;have HI1:=h_ (own_intAt ho1);clear ho1;clear hb1;refine hK.out _ _ (HS.out) fun hHeld=>?_;clear hK K hHeld
 (try simp only[Act.put,sA,sB,sC])
 refine rd1 17 fun K hK=>?_;go_simp;refine(RTrace_any pa ia aa sa ra wa pc ic ac sc rc wac c A M F most HMO.out _ (HA.out.below HS.out) HL.out).mono ?_;rw[HT.out];rintro er w2 ⟨ta,tc,rfl,hin,hb2⟩;have HS:=h_ (btrans HS.out HS.out.size hb2);have HI1:=h_ (HI1.out.below hb2);have HI2:=h_ hin;clear hin;clear hb2;refine hK.out _ _ (HS.out) fun hHeld=>?_;clear hK K hHeld
 (try simp only[Act.put,sA,sB,sC])
 refine rd1 18 fun K hK=>?_;go_simp;refine(sameInts_any _ _ T T _ HI1.out HI2.out (Nat.le_trans HTL.out (by omega))).mono ?_;rw[decide_eq_true rfl];rintro er w3 ⟨rfl,hb3⟩;have HS:=h_ (btrans HS.out HS.out.size hb3);clear hb3;refine hK.out _ _ (HS.out) fun hHeld=>?_;clear hK K hHeld
 (try simp only[Act.put,sA,sB,sC])
 refine tkX 19 29 ?_;simp only[sA,sB,sC];refine rd1 20 fun K hK=>?_;go_simp;refine(lives18 _ (HLB.out.below HS.out)).mono ?_;rintro er w4 ⟨rfl,hb4⟩;have HS:=h_ (btrans HS.out HS.out.size hb4);clear hb4;refine hK.out _ _ (HS.out) fun hHeld=>?_;clear hK K hHeld
 (try simp only[Act.put,sA,sB,sC])
 refine tkX 21 31 ?_;refine tkX 22 6 ?_;simp only[sA,sB,sC];refine wpAnyH_done (by kernel_rfl) ?_ _;go_wp2;go_ret;exact⟨rfl,btrans HB.out HB.out.size HS.out⟩
end Go.Proofs.YtnglaegofhpleaaGreatDoor
namespace Go.Proofs.YtnglaegofhpleaaGreatDoor
open Go.ChangeShapes Go.WideShapes Go.ChangeAt Go.RowKit
theorem returnsInHanded_of_change_and_shaped{H:Type}{enc:TypeId × Value→H}{a:Assume}{C:Checked}{os:Os}{f:FuncId}{fn:Func}{s:ChangeSpec}{conds:List PathCond}{apart fresh handsOn again:Bool}{X:World→Array Value→Prop}
  (hX:∀(w w':World) (args:Array Value),w.heap=w'.heap→X w args→X w' args)
  (own:ownKnob C.prog.godebug=none) (started:os.Started) (noInit:C.prog.inits.idxOf? f=none) (hfn:C.prog.funcs[f]? = some fn)
  (witness:∃(w:World) (tape:Tape) (i:Input),w.os=os∧(w.forCall tape i).Shaped C.prog∧i.vars=[]∧Input.okWide C.prog (w.forCall tape i) .any w.heap.size f i ∧
   ((s.pre enc C.prog fn conds apart (w.forCall tape i).memory i.args∧X (w.forCall tape i).memory i.args)∧sizedMet enc C.prog fn (OpenSpec.ofChange s) apart (w.forCall tape i).memory i.args)∧a.holds C.prog (lone (Frame.enter C.prog f i.args .normal) [] (w.forCall tape i)))
  (contract:∀(W:World) (base:Nat) (args:Array Value) (ds gs:List (DataW H)) (before:List MemPlace),
   (∀(j:Nat) t v,fn.params[j]? = some t→args[j]? = some v→Value.okWide C.prog W .any base t v) →
   DataW.Whole enc C.prog fn.params.toList s.vars apart W args.toList ds gs before →
   conds.all (PathCond.test C.prog ⟨fn.params.toList,ds,s.plain.varTypes C.prog,gs⟩)=true →
   (DataW.weightsEach C.prog (fn.params.toList++s.plain.varTypes C.prog) (ds++gs)).all (·≤reachBytes)=true→X W args →
   W.ShapedOpen C.prog →
   a.holds C.prog (lone (Frame.enter C.prog f args .normal) [] W) →
   Calls C.prog f args W fun e W'=>∃v,e=.returned v∧s.post enc C.prog fn apart fresh handsOn again W args v W'):
  ReturnsInHanded a C os f .any (fun w args=>(s.pre enc C.prog fn conds apart w args∧X w args)∧sizedMet enc C.prog fn (OpenSpec.ofChange s) apart w args) (s.post enc C.prog fn apart fresh handsOn again):=by
 refine returnsInHanded_of_calls own started noInit witness ?_;intro w tape i _ hsh _ hok hpre hholds;obtain⟨_,_,_,fn',hfn',_,_,_,_,hval⟩:=hok;have e:fn'=fn:=Option.some.inj (hfn'.symm.trans hfn);subst e;obtain⟨⟨⟨ds,gs,before,hw,hc⟩,hx⟩,hz⟩:=hpre;have hw':=DataW.Whole.of_heap (w':=w.forCall tape i) (by rfl) hw;refine(contract (w.forCall tape i) w.heap.size i.args ds gs before hval hw' hc (hz.weights hw) (hX _ _ _ (by rfl) hx) hsh hholds).mono fun e W' ⟨v,he,hp⟩=>?_;subst he;exact ChangeSpec.post_blind hp
theorem sized_of{H:Type}{P:Program}{ts:List TypeId}{ds:List (DataW H)}(h:(DataW.weightsEach P ts ds).all (·≤reachBytes)=true){j:Nat}{t:TypeId}{d:DataW H}(ht:ts[j]? = some t)(hd:ds[j]? = some d):∀n∈d.weights P t,n≤reachBytes:=by
 intro n hn;have:=List.all_eq_true.1 h n (DataW.weights_mem_each ht hd n hn);simpa using this
theorem laidB_of{W:World}(h:laidMetH Tryz.prog Rows.vmStepsRow.laid W)(hS:W.ShapedOpen Tryz.prog):LaidB W:=by
 rw[MakeChecks.laidMetH_plain _ _ _ (by kernel_rfl)]at h;have h3:=h.tail.tail;have h5:=h3.tail.tail;refine⟨⟨?_,trivial⟩,?_,?_⟩
 ·exact Lib.tabIs_of_head (name:=Tryz.slashName0) (k:=.u64) (zs:=Lib.pow10Tab) gTab (by kernel_rfl) Tryz.underlying215 Tryz.underlying121 (by kernel_rfl) (by kernel_rfl) h3
 ·exact Lib.tabIs_of_head (name := "strings.asciiSpace") (k := .u8) (zs := Lib.asciiSpaceTab) gSpace (by kernel_rfl) Tryz.underlying130 Tryz.underlying5 (by kernel_rfl) (by kernel_rfl) h5
 ·exact cell_of_shapedOpen_int hS (zero:=#[.int .i64 0]) (g:=3) (of_decide_eq_true (by kernel_rfl)) (h0:=by kernel_rfl) rfl (by kernel_rfl) (by kernel_rfl) Tryz.underlying3
theorem addr_add(b off i:Nat):(⟨b,off,none⟩:Addr).add i=⟨b,off+i,none⟩:=by unfold Addr.add;split<;>simp_all
theorem flat_at{X:Type}{f:X→List Value}{nc:Nat}(hlen:∀x,(f x).length=nc):∀(M:List X) (k q:Nat) (h:k<M.length),q<nc→(M.flatMap f)[k * nc+q]? = (f M[k])[q]?
 | [],k,q,h,_=>by simp at h
 | x::r,0,q,h,hq=>by
  rw[List.flatMap_cons,List.getElem?_append_left (by rw[hlen];omega),Nat.zero_mul,Nat.zero_add];rfl
 | x::r,k+1,q,h,hq=>by
  have ih:=flat_at hlen r k q (by simpa using h) hq;rw[List.flatMap_cons,List.getElem?_append_right (by rw[hlen,Nat.succ_mul];omega),show (k+1) * nc+q-(f x).length=k * nc+q by rw[hlen,Nat.succ_mul];omega,ih];rfl
theorem flat_len{X:Type}{f:X→List Value}{nc:Nat}(hlen:∀x,(f x).length=nc):∀M:List X,(M.flatMap f).length=M.length * nc
 | []=>by simp
 | x::r=>by rw[List.flatMap_cons,List.length_append,hlen,flat_len hlen r,List.length_cons,Nat.succ_mul];omega
theorem wf_rng{q:Int}(w:(Lit.int .i64 q).wf=true):fits q=true:=by
 simp only[Lit.wf,IntKind.min,IntKind.max,IntKind.signed,IntKind.bits,Bool.and_eq_true,decide_eq_true_eq,if_true]at w;unfold fits;simp only[Bool.and_eq_true,decide_eq_true_eq];omega
def InsN (x:Ins):Prop:=fits x.n=true∧x.s.length≤140737488351232
def VlN (x:Vl):Prop:=fits x.n=true∧x.s.length≤140737488351232
def PrN (x:Pr):Prop:=x.key.length≤140737488351232∧VlN x.v
section
variable {H : Type} {enc : TypeId × Value → H} {W : World} {base : Nat} {spare : Nat → Bool} {held : Bool}
theorem weightsAll_mem{P:Program}{e:TypeId}{l:List (DataW H)}{d:DataW H}(hd:d∈l){n:Nat}(hn:n∈d.weights P e):n∈DataW.weightsAll P e l:=by
 induction l with
 | nil=>cases hd
 | cons x r ih =>
  simp only[DataW.weightsAll,List.mem_append];rcases List.mem_cons.1 hd with h|h
  ·subst h;exact .inl hn
  ·exact .inr (ih h)
theorem open_list{X:Type}{elT slT:TypeId}{f:X→List Value}{nc:Nat}{d0:X}{Q:X→Prop}(hu:Tryz.prog.underlying slT=some (.slice elT))(hce:Tryz.prog.cellsOf elT=nc)(hnc:0<nc)(hlen:∀x,(f x).length=nc)
  (htrod:∀{fuel:Nat} {cs:List Value} {x:DataW H × List MemPlace},DataW.trod enc Tryz.prog W base spare held fuel elT cs=some x→(∀n∈x.1.weights Tryz.prog elT,n≤reachBytes)→∃y,cs=f y∧Q y)
  {fuel:Nat} {cs:List Value} {x:DataW H × List MemPlace} (h:DataW.trod enc Tryz.prog W base spare held fuel slT cs=some x) (hz:∀n∈x.1.weights Tryz.prog slT,n≤reachBytes):
  ∃(a:Option Addr) (c:Nat) (M:List X),cs=[.slice a M.length c]∧M.length≤c∧CellsAt W (.slice a M.length c) M.length (M.flatMap f)∧M.length * Tryz.prog.bytesOf elT≤reachBytes∧∀x∈M,Q x:=by
 rcases Deep.open_slice hu h with ⟨rfl,_⟩|⟨a,len0,cap0,m,n,D,Pl,rfl,_,hl,_,hm,hx,hi⟩
 ·exact⟨none,0,[],rfl,Nat.le_refl _,⟨none,0,rfl,fun hne=>absurd rfl hne⟩,by simp,by simp⟩
 ·have hlm:len0≤m:=by rw[hm];split<;>omega
  have hx1:=congrArg Prod.fst hx;simp only at hx1;rw[hx1]at hz
  have hsz:len0 * Tryz.prog.bytesOf elT≤reachBytes:=by
   have h1:=hz ((((List.range len0).map D).length+(((List.range (m-len0)).map fun j=>D (len0+j))).length) * Tryz.prog.bytesOf elT) (by simp[DataW.weights,hu]);rw[List.length_map,List.length_range,Nat.add_mul]at h1;omega
  have hel:∀i,i<len0→∃x:X,(∀j u,(f x)[j]? = some u→W.cell? ((a.add (i * nc)).add j)=some u)∧Q x:=by
   intro i hil;obtain⟨cs',hc,ht⟩:=hi i (by omega);rw[hce]at hc
   obtain⟨y,rfl,y0⟩:=htrod ht (fun n hn=>hz n (by
    simp only[DataW.weights,hu,List.mem_cons,List.mem_append]
    exact .inr (.inl (weightsAll_mem (List.mem_map.2 ⟨i,List.mem_range.2 hil,rfl⟩) hn))))
   obtain⟨_,_,hat⟩:=World.cells?_some hc;refine⟨y,fun j u hj=>?_,y0⟩
   have hj4:j<(f y).length:=by
    rcases Nat.lt_or_ge j (f y).length with h|h
    ·exact h
    ·rw[List.getElem?_eq_none h]at hj;cases hj
   exact(hat j (by rw[hlen]at hj4;exact hj4)).trans hj
  obtain⟨F,hF⟩:∃F:Nat→X,∀i,i<len0→(∀j u,(f (F i))[j]? = some u→W.cell? ((a.add (i * nc)).add j)=some u)∧Q (F i):=
   ⟨fun i=>if h:i<len0 then (hel i h).choose else d0,fun i h=>by simp only[dif_pos h];exact(hel i h).choose_spec⟩
  have hML:((List.range len0).map F).length=len0:=by simp
  refine⟨some a,cap0,(List.range len0).map F,by rw[hML],by rw[hML];exact hl,⟨some a,cap0,by rw[hML],fun hne=>?_⟩,by rw[hML];exact hsz,?_⟩
  ·have h0:0<len0:=by
    rcases Nat.eq_zero_or_pos len0 with h|h
    ·subst h;exact absurd rfl hne
    ·exact h
   obtain⟨b,off,spot⟩:=a
   have hspot:spot=none:=by
    have h9:=(hF 0 h0).1 0 _ (List.getElem?_eq_getElem (by rw[hlen];exact hnc));have h10:=World.cell?_spot h9
    cases spot with
    | none=>rfl
    | some q=>simp[Addr.add]at h10
   subst hspot;refine⟨b,off,rfl,fun j u hj=>?_⟩;have hl2:=flat_len hlen ((List.range len0).map F);rw[hML]at hl2
   have hj4:j<len0 * nc:=by
    rcases Nat.lt_or_ge j (len0 * nc) with h|h
    ·exact h
    ·rw[List.getElem?_eq_none (by rw[hl2];exact h)]at hj;cases hj
   have hjd:j / nc<len0:=Nat.div_lt_of_lt_mul (by rw[Nat.mul_comm];exact hj4)
   have hjm:j / nc * nc+j % nc=j:=by rw[Nat.mul_comm];exact Nat.div_add_mod j nc
   have hq:=flat_at hlen ((List.range len0).map F) (j / nc) (j % nc) (by rw[hML];exact hjd) (Nat.mod_lt _ hnc);rw[hjm,hj]at hq;simp only[List.getElem_map,List.getElem_range]at hq;have h8:=(hF (j / nc) hjd).1 (j % nc) u hq.symm;rw[addr_add,addr_add]at h8;rw[show off+j=off+j / nc * nc+j % nc by omega];exact h8
  ·intro x hxm
   obtain⟨i,hi2,rfl⟩:=List.mem_map.1 hxm;exact(hF i (List.mem_range.1 hi2)).2
theorem trod_vl{fuel:Nat}{cs:List Value}{x:DataW H × List MemPlace}(h:DataW.trod enc Tryz.prog W base spare held fuel 52 cs=some x)(hz:∀n∈x.1.weights Tryz.prog 52,n≤reachBytes):
  ∃y:Vl,cs=vlL y∧VlN y:=by
 obtain⟨ys,n,_,hx,hlen,hyl,hf⟩:=DataW.trod_struct Tryz.underlying52 h;rw[show Tryz.prog.cellsOf 52=3 by kernel_rfl]at hlen
 match cs,hlen with
 | [u0,u1,u2],_ =>
  match ys,hyl with
  | [y0,y1,y2],_ =>
   have g0:DataW.trod enc Tryz.prog W base spare held n 3 (([u0,u1,u2].drop 0).take (Tryz.prog.cellsOf 3))=some y0:=hf 0 _ rfl;rw[show Tryz.prog.cellsOf 3=1 by kernel_rfl]at g0;have g1:DataW.trod enc Tryz.prog W base spare held n 2 (([u0,u1,u2].drop 1).take (Tryz.prog.cellsOf 2))=some y1:=hf 1 _ rfl;rw[show Tryz.prog.cellsOf 2=1 by kernel_rfl]at g1;have g2:DataW.trod enc Tryz.prog W base spare held n 9 (([u0,u1,u2].drop 2).take (Tryz.prog.cellsOf 9))=some y2:=hf 2 _ rfl;rw[show Tryz.prog.cellsOf 9=1 by kernel_rfl]at g2;have z2:∀n∈y2.1.weights Tryz.prog 9,n≤reachBytes:=fun n hn=>hz n (by rw[hx];simp only[DataW.weights,Tryz.underlying52,List.map_cons,List.map_nil,DataW.weightsEach,List.mem_append];exact Or.inr (Or.inr (Or.inl hn)));obtain⟨k,e0,_⟩:=DataW.trod_int Tryz.underlying3 g0;obtain⟨q,e1,_,w1⟩:=DataW.trod_int Tryz.underlying2 g1;obtain⟨s,e2,f2⟩:=DataW.trod_string Tryz.underlying9 g2;simp at e0 e1 e2;subst e0 e1 e2;rw[f2.1]at z2
   have l2:s.data.toList.length≤140737488351232:=by have:=z2 s.data.toList.length (by simp[DataW.weights]);unfold reachBytes at this;omega
   exact⟨⟨k,q,s.data.toList⟩,by simp only[vlL,bs_toList],wf_rng w1,l2⟩
theorem trod_pr{fuel:Nat}{cs:List Value}{x:DataW H × List MemPlace}(h:DataW.trod enc Tryz.prog W base spare held fuel 55 cs=some x)(hz:∀n∈x.1.weights Tryz.prog 55,n≤reachBytes):
  ∃y:Pr,cs=prL y∧PrN y:=by
 obtain⟨ys,n,_,hx,hlen,hyl,hf⟩:=DataW.trod_struct Tryz.underlying55 h;rw[show Tryz.prog.cellsOf 55=4 by kernel_rfl]at hlen
 match cs,hlen with
 | [u0,u1,u2,u3],_ =>
  match ys,hyl with
  | [y0,y1],_ =>
   have g0:DataW.trod enc Tryz.prog W base spare held n 9 (([u0,u1,u2,u3].drop 0).take (Tryz.prog.cellsOf 9))=some y0:=hf 0 _ rfl;rw[show Tryz.prog.cellsOf 9=1 by kernel_rfl]at g0;have z0:∀n∈y0.1.weights Tryz.prog 9,n≤reachBytes:=fun n hn=>hz n (by rw[hx];simp only[DataW.weights,Tryz.underlying55,List.map_cons,List.map_nil,DataW.weightsEach,List.mem_append];exact Or.inl hn);have g1:DataW.trod enc Tryz.prog W base spare held n 52 (([u0,u1,u2,u3].drop 1).take (Tryz.prog.cellsOf 52))=some y1:=hf 1 _ rfl;rw[show Tryz.prog.cellsOf 52=3 by kernel_rfl]at g1;have z1:∀n∈y1.1.weights Tryz.prog 52,n≤reachBytes:=fun n hn=>hz n (by rw[hx];simp only[DataW.weights,Tryz.underlying55,List.map_cons,List.map_nil,DataW.weightsEach,List.mem_append];exact Or.inr (Or.inl hn));obtain⟨s,e0,f0⟩:=DataW.trod_string Tryz.underlying9 g0;obtain⟨v,e1,hv⟩:=trod_vl g1 z1;simp[vlL]at e0 e1;obtain⟨rfl,rfl,rfl⟩:=e1;subst e0;rw[f0.1]at z0
   have l0:s.data.toList.length≤140737488351232:=by have:=z0 s.data.toList.length (by simp[DataW.weights]);unfold reachBytes at this;omega
   exact⟨⟨s.data.toList,v⟩,by simp only[prL,bs_toList],l0,hv⟩
theorem trod_ins{fuel:Nat}{cs:List Value}{x:DataW H × List MemPlace}(h:DataW.trod enc Tryz.prog W base spare held fuel 45 cs=some x)(hz:∀n∈x.1.weights Tryz.prog 45,n≤reachBytes):
  ∃y:Ins,cs=insL y∧InsN y:=by
 obtain⟨ys,n,_,hx,hlen,hyl,hf⟩:=DataW.trod_struct Tryz.underlying45 h;rw[show Tryz.prog.cellsOf 45=5 by kernel_rfl]at hlen
 match cs,hlen with
 | [u0,u1,u2,u3,u4],_ =>
  match ys,hyl with
  | [y0,y1,y2,y3,y4],_ =>
   have g0:DataW.trod enc Tryz.prog W base spare held n 3 (([u0,u1,u2,u3,u4].drop 0).take (Tryz.prog.cellsOf 3))=some y0:=hf 0 _ rfl;rw[show Tryz.prog.cellsOf 3=1 by kernel_rfl]at g0;have g1:DataW.trod enc Tryz.prog W base spare held n 3 (([u0,u1,u2,u3,u4].drop 1).take (Tryz.prog.cellsOf 3))=some y1:=hf 1 _ rfl;rw[show Tryz.prog.cellsOf 3=1 by kernel_rfl]at g1;have g2:DataW.trod enc Tryz.prog W base spare held n 3 (([u0,u1,u2,u3,u4].drop 2).take (Tryz.prog.cellsOf 3))=some y2:=hf 2 _ rfl;rw[show Tryz.prog.cellsOf 3=1 by kernel_rfl]at g2;have g3:DataW.trod enc Tryz.prog W base spare held n 2 (([u0,u1,u2,u3,u4].drop 3).take (Tryz.prog.cellsOf 2))=some y3:=hf 3 _ rfl;rw[show Tryz.prog.cellsOf 2=1 by kernel_rfl]at g3;have g4:DataW.trod enc Tryz.prog W base spare held n 9 (([u0,u1,u2,u3,u4].drop 4).take (Tryz.prog.cellsOf 9))=some y4:=hf 4 _ rfl;rw[show Tryz.prog.cellsOf 9=1 by kernel_rfl]at g4;have z4:∀n∈y4.1.weights Tryz.prog 9,n≤reachBytes:=fun n hn=>hz n (by rw[hx];simp only[DataW.weights,Tryz.underlying45,List.map_cons,List.map_nil,DataW.weightsEach,List.mem_append];exact Or.inr (Or.inr (Or.inr (Or.inr (Or.inl hn)))));obtain⟨op,e0,_⟩:=DataW.trod_int Tryz.underlying3 g0;obtain⟨a,e1,_⟩:=DataW.trod_int Tryz.underlying3 g1;obtain⟨b,e2,_⟩:=DataW.trod_int Tryz.underlying3 g2;obtain⟨q,e3,_,w3⟩:=DataW.trod_int Tryz.underlying2 g3;obtain⟨s,e4,f4⟩:=DataW.trod_string Tryz.underlying9 g4;simp at e0 e1 e2 e3 e4;subst e0 e1 e2 e3 e4;rw[f4.1]at z4
   have l4:s.data.toList.length≤140737488351232:=by have:=z4 s.data.toList.length (by simp[DataW.weights]);unfold reachBytes at this;omega
   exact⟨⟨op,a,b,q,s.data.toList⟩,by simp only[insL,bs_toList],wf_rng w3,l4⟩
theorem trod_int1{fuel:Nat}{cs:List Value}{x:DataW H × List MemPlace}(h:DataW.trod enc Tryz.prog W base spare held fuel 3 cs=some x)(_hz:∀n∈x.1.weights Tryz.prog 3,n≤reachBytes):∃y:Int,cs=[.int .i64 y]∧True:=by
 obtain⟨k,e0,_⟩:=DataW.trod_int Tryz.underlying3 h;exact⟨k,e0,trivial⟩
theorem trod_str1{fuel:Nat}{cs:List Value}{x:DataW H × List MemPlace}(h:DataW.trod enc Tryz.prog W base spare held fuel 9 cs=some x)(hz:∀n∈x.1.weights Tryz.prog 9,n≤reachBytes):∃y:List UInt8,cs=[strV y]∧y.length≤140737488351232:=by
 obtain⟨s,e0,f0⟩:=DataW.trod_string Tryz.underlying9 h;rw[f0.1]at hz;refine⟨s.data.toList,by rw[e0];unfold strV;rw[bs_toList],?_⟩;have:=hz s.data.toList.length (by simp[DataW.weights]);unfold reachBytes at this;omega
theorem flat_one{X:Type}(g:X→Value):∀M:List X,M.flatMap (fun x=>[g x])=M.map g
 | []=>rfl
 | x::r=>by rw[List.flatMap_cons,flat_one g r];rfl
theorem strS_cells{W:World}{a:Option Addr}{c:Nat}{M:List (List UInt8)}(hc:M.length≤c)(h:CellsAt W (.slice a M.length c) M.length (M.map strV)):StrS W (.slice a M.length c) M:=by
 obtain⟨a2,c2,he,hx⟩:=h;simp only[Value.slice.injEq]at he;obtain⟨rfl,-,rfl⟩:=he;refine⟨_,_,rfl,hc,fun hne=>?_⟩;obtain⟨b,off,hb,hcell⟩:=hx (by intro e;exact hne (List.map_eq_nil_iff.1 e));exact⟨b,off,hb,fun i hi=>hcell i _ (by rw[List.getElem?_map,List.getElem?_eq_getElem hi];rfl)⟩
theorem trod_vls{fuel:Nat}{cs:List Value}{x:DataW H × List MemPlace}(h:DataW.trod enc Tryz.prog W base spare held fuel 26 cs=some x)(hz:∀n∈x.1.weights Tryz.prog 26,n≤reachBytes):
  ∃(a:Option Addr) (c:Nat) (M:List Vl),cs=[.slice a M.length c]∧CellsAt W (.slice a M.length c) M.length (vlLs M)∧M.length≤4398046511103∧∀x∈M,VlN x:=by
 obtain⟨a,c,M,e,hc,hM,hb,hq⟩:=open_list (f:=vlL) (nc:=3) (d0:=v00) (Q:=fun x=>VlN x) Tryz.underlying26 (by kernel_rfl) (by decide) (fun _=>rfl) (fun h hz=>trod_vl h hz) h hz;rw[show Tryz.prog.bytesOf 52=32 by kernel_rfl]at hb;unfold reachBytes at hb;exact⟨a,c,M,e,hM,by omega,hq⟩
theorem trod_prs{fuel:Nat}{cs:List Value}{x:DataW H × List MemPlace}(h:DataW.trod enc Tryz.prog W base spare held fuel 32 cs=some x)(hz:∀n∈x.1.weights Tryz.prog 32,n≤reachBytes):
  ∃(a:Option Addr) (c:Nat) (M:List Pr),cs=[.slice a M.length c]∧CellsAt W (.slice a M.length c) M.length (prLs M)∧M.length≤2932031007402∧∀x∈M,PrN x:=by
 obtain⟨a,c,M,e,hc,hM,hb,hq⟩:=open_list (f:=prL) (nc:=4) (d0:=⟨[],v00⟩) (Q:=fun x=>PrN x) Tryz.underlying32 (by kernel_rfl) (by decide) (fun _=>rfl) (fun h hz=>trod_pr h hz) h hz;rw[show Tryz.prog.bytesOf 55=48 by kernel_rfl]at hb;unfold reachBytes at hb;exact⟨a,c,M,e,hM,by omega,hq⟩
theorem trod_inss{fuel:Nat}{cs:List Value}{x:DataW H × List MemPlace}(h:DataW.trod enc Tryz.prog W base spare held fuel 23 cs=some x)(hz:∀n∈x.1.weights Tryz.prog 23,n≤reachBytes):
  ∃(a:Option Addr) (c:Nat) (M:List Ins),cs=[.slice a M.length c]∧CellsAt W (.slice a M.length c) M.length (insLs M)∧M.length≤8796093022208∧∀x∈M,InsN x:=by
 obtain⟨a,c,M,e,hc,hM,hb,hq⟩:=open_list (f:=insL) (nc:=5) (d0:=ins0) (Q:=fun x=>InsN x) Tryz.underlying23 (by kernel_rfl) (by decide) (fun _=>rfl) (fun h hz=>trod_ins h hz) h hz;rw[show Tryz.prog.bytesOf 45=48 by kernel_rfl]at hb;unfold reachBytes at hb;exact⟨a,c,M,e,hM,by omega,hq⟩
theorem trod_ints{fuel:Nat}{cs:List Value}{x:DataW H × List MemPlace}(h:DataW.trod enc Tryz.prog W base spare held fuel 22 cs=some x)(hz:∀n∈x.1.weights Tryz.prog 22,n≤reachBytes):
  ∃(a:Option Addr) (c:Nat) (M:List Int),cs=[.slice a M.length c]∧CellsAt W (.slice a M.length c) M.length (intsL M)∧M.length≤17592186044415∧∀x∈M,True:=by
 obtain⟨a,c,M,e,hc,hM,hb,hq⟩:=open_list (f:=(fun x=>[.int .i64 x])) (nc:=1) (d0:=0) (Q:=fun x=>True) Tryz.underlying22 (by kernel_rfl) (by decide) (fun _=>rfl) (fun h hz=>trod_int1 h hz) h hz;rw[show Tryz.prog.bytesOf 3=8 by kernel_rfl]at hb;unfold reachBytes at hb;exact⟨a,c,M,e,(by rw[flat_one]at hM;exact hM),by omega,hq⟩
theorem trod_strs{fuel:Nat}{cs:List Value}{x:DataW H × List MemPlace}(h:DataW.trod enc Tryz.prog W base spare held fuel 27 cs=some x)(hz:∀n∈x.1.weights Tryz.prog 27,n≤reachBytes):
  ∃(a:Option Addr) (c:Nat) (M:List (List UInt8)),cs=[.slice a M.length c]∧StrS W (.slice a M.length c) M∧M.length≤8796093022207∧∀x∈M,x.length≤140737488351232:=by
 obtain⟨a,c,M,e,hc,hM,hb,hq⟩:=open_list (f:=(fun x=>[strV x])) (nc:=1) (d0:=[]) (Q:=fun x=>x.length≤140737488351232) Tryz.underlying27 (by kernel_rfl) (by decide) (fun _=>rfl) (fun h hz=>trod_str1 h hz) h hz;rw[show Tryz.prog.bytesOf 9=16 by kernel_rfl]at hb;unfold reachBytes at hb;exact⟨a,c,M,e,strS_cells hc (by rw[flat_one]at hM;exact hM),by omega,hq⟩
theorem trod_code{fuel:Nat}{cs:List Value}{x:DataW H × List MemPlace}(h:DataW.trod enc Tryz.prog W base spare held fuel 25 cs=some x)(hz:∀n∈x.1.weights Tryz.prog 25,n≤reachBytes):
  ∃(pa ia:Option Addr) (pc ic:Nat) (c:Cd),cs=[.slice pa c.p.length pc,.int .i64 c.sl,.slice ia c.l.length ic]∧CellsAt W (.slice pa c.p.length pc) c.p.length (intsL c.p)∧CellsAt W (.slice ia c.l.length ic) c.l.length (insLs c.l)∧c.p.length≤17592186044415∧∀x∈c.l,InsN x:=by
 obtain⟨ys,n,_,hx,hlen,hyl,hf⟩:=DataW.trod_struct Tryz.underlying25 h;rw[show Tryz.prog.cellsOf 25=3 by kernel_rfl]at hlen
 match cs,hlen with
 | [u0,u1,u2],_ =>
  match ys,hyl with
  | [y0,y1,y2],_ =>
   have g0:DataW.trod enc Tryz.prog W base spare held n 22 (([u0,u1,u2].drop 0).take (Tryz.prog.cellsOf 22))=some y0:=hf 0 _ rfl;rw[show Tryz.prog.cellsOf 22=1 by kernel_rfl]at g0;have z0:∀n∈y0.1.weights Tryz.prog 22,n≤reachBytes:=fun n hn=>hz n (by rw[hx];simp only[DataW.weights,Tryz.underlying25,List.map_cons,List.map_nil,DataW.weightsEach,List.mem_append];exact Or.inl hn);have g1:DataW.trod enc Tryz.prog W base spare held n 3 (([u0,u1,u2].drop 1).take (Tryz.prog.cellsOf 3))=some y1:=hf 1 _ rfl;rw[show Tryz.prog.cellsOf 3=1 by kernel_rfl]at g1;have g2:DataW.trod enc Tryz.prog W base spare held n 23 (([u0,u1,u2].drop 2).take (Tryz.prog.cellsOf 23))=some y2:=hf 2 _ rfl;rw[show Tryz.prog.cellsOf 23=1 by kernel_rfl]at g2;have z2:∀n∈y2.1.weights Tryz.prog 23,n≤reachBytes:=fun n hn=>hz n (by rw[hx];simp only[DataW.weights,Tryz.underlying25,List.map_cons,List.map_nil,DataW.weightsEach,List.mem_append];exact Or.inr (Or.inr (Or.inl hn)));obtain⟨pa,pc,P,e0,hP,bP,_⟩:=trod_ints g0 z0;obtain⟨sl,e1,_⟩:=DataW.trod_int Tryz.underlying3 g1;obtain⟨ia,ic,M,e2,hM,_,hR⟩:=trod_inss g2 z2;simp at e0 e1 e2;subst e0 e1 e2;exact⟨pa,ia,pc,ic,⟨P,sl,M⟩,rfl,hP,hM,bP,hR⟩
theorem trod_foot{fuel:Nat}{cs:List Value}{x:DataW H × List MemPlace}(h:DataW.trod enc Tryz.prog W base spare held fuel 29 cs=some x)(hz:∀n∈x.1.weights Tryz.prog 29,n≤reachBytes):
  ∃(ra wa:Option Addr) (rc wac:Nat) (F:Ft),cs=[.bool F.all,.slice ra F.rd.length rc,.slice wa F.wr.length wac]∧StrS W (.slice ra F.rd.length rc) F.rd∧StrS W (.slice wa F.wr.length wac) F.wr∧F.rd.length≤8796093022207∧F.wr.length≤8796093022207∧(∀q∈F.rd,q.length≤140737488351232)∧∀q∈F.wr,q.length≤140737488351232:=by
 obtain⟨ys,n,_,hx,hlen,hyl,hf⟩:=DataW.trod_struct Tryz.underlying29 h;rw[show Tryz.prog.cellsOf 29=3 by kernel_rfl]at hlen
 match cs,hlen with
 | [u0,u1,u2],_ =>
  match ys,hyl with
  | [y0,y1,y2],_ =>
   have g0:DataW.trod enc Tryz.prog W base spare held n 4 (([u0,u1,u2].drop 0).take (Tryz.prog.cellsOf 4))=some y0:=hf 0 _ rfl;rw[show Tryz.prog.cellsOf 4=1 by kernel_rfl]at g0;have g1:DataW.trod enc Tryz.prog W base spare held n 27 (([u0,u1,u2].drop 1).take (Tryz.prog.cellsOf 27))=some y1:=hf 1 _ rfl;rw[show Tryz.prog.cellsOf 27=1 by kernel_rfl]at g1;have z1:∀n∈y1.1.weights Tryz.prog 27,n≤reachBytes:=fun n hn=>hz n (by rw[hx];simp only[DataW.weights,Tryz.underlying29,List.map_cons,List.map_nil,DataW.weightsEach,List.mem_append];exact Or.inr (Or.inl hn));have g2:DataW.trod enc Tryz.prog W base spare held n 27 (([u0,u1,u2].drop 2).take (Tryz.prog.cellsOf 27))=some y2:=hf 2 _ rfl;rw[show Tryz.prog.cellsOf 27=1 by kernel_rfl]at g2;have z2:∀n∈y2.1.weights Tryz.prog 27,n≤reachBytes:=fun n hn=>hz n (by rw[hx];simp only[DataW.weights,Tryz.underlying29,List.map_cons,List.map_nil,DataW.weightsEach,List.mem_append];exact Or.inr (Or.inr (Or.inl hn)));obtain⟨al,e0,_⟩:=DataW.trod_bool Tryz.underlying4 g0;obtain⟨ra,rc,R,e1,hR,bR,qR⟩:=trod_strs g1 z1;obtain⟨wa,wc,Q,e2,hQ,bQ,qQ⟩:=trod_strs g2 z2;simp at e0 e1 e2;subst e0 e1 e2;exact⟨ra,wa,rc,wc,⟨al,R,Q⟩,rfl,hR,hQ,bR,bQ,qR,qQ⟩
structure RunIn (W:World) (pa ia aa ra wa:Option Addr) (pc ic ac rc wac:Nat) (c:Cd) (A:List Vl) (F:Ft):Prop where
 cP:CellsAt W (.slice pa c.p.length pc) c.p.length (intsL c.p)
 cI:CellsAt W (.slice ia c.l.length ic) c.l.length (insLs c.l)
 cA:CellsAt W (.slice aa A.length ac) A.length (vlLs A)
 cR:StrS W (.slice ra F.rd.length rc) F.rd
 cW:StrS W (.slice wa F.wr.length wac) F.wr
 lP:c.p.length≤17592186044415
 lA:A.length≤4398046511103
 lR:F.rd.length≤8796093022207∧F.wr.length≤8796093022207
 nI:∀x∈c.l,InsN x
 nA:∀x∈A,VlN x
 sR:(∀q∈F.rd,q.length≤140737488351232)∧∀q∈F.wr,q.length≤140737488351232
theorem trod_run{fuel:Nat}{cs:List Value}{x:DataW H × List MemPlace}(h:DataW.trod enc Tryz.prog W base spare held fuel 31 cs=some x)(hz:∀n∈x.1.weights Tryz.prog 31,n≤reachBytes):
  ∃(pa ia aa ra wa:Option Addr) (pc ic ac rc wac:Nat) (c:Cd) (A:List Vl) (F:Ft),cs=[.slice pa c.p.length pc,.int .i64 c.sl,.slice ia c.l.length ic,.slice aa A.length ac,.bool F.all,.slice ra F.rd.length rc,.slice wa F.wr.length wac]∧RunIn W pa ia aa ra wa pc ic ac rc wac c A F:=by
 obtain⟨ys,n,_,hx,hlen,hyl,hf⟩:=DataW.trod_struct Tryz.underlying31 h;rw[show Tryz.prog.cellsOf 31=7 by kernel_rfl]at hlen
 match cs,hlen with
 | [u0,u1,u2,u3,u4,u5,u6],_ =>
  match ys,hyl with
  | [y0,y1,y2],_ =>
   have g0:DataW.trod enc Tryz.prog W base spare held n 25 (([u0,u1,u2,u3,u4,u5,u6].drop 0).take (Tryz.prog.cellsOf 25))=some y0:=hf 0 _ rfl;rw[show Tryz.prog.cellsOf 25=3 by kernel_rfl]at g0;have z0:∀n∈y0.1.weights Tryz.prog 25,n≤reachBytes:=fun n hn=>hz n (by rw[hx];simp only[DataW.weights,Tryz.underlying31,List.map_cons,List.map_nil,DataW.weightsEach,List.mem_append];exact Or.inl hn);have g1:DataW.trod enc Tryz.prog W base spare held n 26 (([u0,u1,u2,u3,u4,u5,u6].drop 3).take (Tryz.prog.cellsOf 26))=some y1:=hf 1 _ rfl;rw[show Tryz.prog.cellsOf 26=1 by kernel_rfl]at g1;have z1:∀n∈y1.1.weights Tryz.prog 26,n≤reachBytes:=fun n hn=>hz n (by rw[hx];simp only[DataW.weights,Tryz.underlying31,List.map_cons,List.map_nil,DataW.weightsEach,List.mem_append];exact Or.inr (Or.inl hn));have g2:DataW.trod enc Tryz.prog W base spare held n 29 (([u0,u1,u2,u3,u4,u5,u6].drop 4).take (Tryz.prog.cellsOf 29))=some y2:=hf 2 _ rfl;rw[show Tryz.prog.cellsOf 29=3 by kernel_rfl]at g2;have z2:∀n∈y2.1.weights Tryz.prog 29,n≤reachBytes:=fun n hn=>hz n (by rw[hx];simp only[DataW.weights,Tryz.underlying31,List.map_cons,List.map_nil,DataW.weightsEach,List.mem_append];exact Or.inr (Or.inr (Or.inl hn)));obtain⟨pa,ia,pc,ic,c,e0,a1,a2,a3,a4⟩:=trod_code g0 z0;obtain⟨aa,ac,A,e1,b1,b2,b3⟩:=trod_vls g1 z1;obtain⟨ra,wa,rc,wac,F,e2,c1,c2,c3,c4,c5,c6⟩:=trod_foot g2 z2;simp at e0 e1 e2;obtain⟨rfl,rfl,rfl⟩:=e0;subst e1;obtain⟨rfl,rfl,rfl⟩:=e2;exact⟨pa,ia,aa,ra,wa,pc,ic,ac,rc,wac,c,A,F,rfl,⟨a1,a2,b1,c1,c2,a3,b2,⟨c3,c4⟩,a4,b3,⟨c5,c6⟩⟩⟩
theorem open_run{r:Reach}{b0:Nat}{v:Value}{d:DataW H}{p:List MemPlace}(hv:Value.okWide Tryz.prog W r b0 31 v)(h:DataW.Trod enc Tryz.prog W base spare held 31 v d p)(hz:∀n∈d.weights Tryz.prog 31,n≤reachBytes):
  ∃(pa ia aa ra wa:Option Addr) (pc ic ac rc wac:Nat) (c:Cd) (A:List Vl) (F:Ft),v=.agg #[.slice pa c.p.length pc,.int .i64 c.sl,.slice ia c.l.length ic,.slice aa A.length ac,.bool F.all,.slice ra F.rd.length rc,.slice wa F.wr.length wac]∧RunIn W pa ia aa ra wa pc ic ac rc wac c A F:=by
 obtain⟨cs,rfl,hsz⟩:=okWide_struct Tryz.underlying31 hv;obtain⟨l⟩:=cs;obtain⟨fuel,hf⟩:=h;obtain⟨pa,ia,aa,ra,wa,pc,ic,ac,rc,wac,c,A,F,e,hr⟩:=trod_run (x:=(d,p)) hf hz;exact⟨pa,ia,aa,ra,wa,pc,ic,ac,rc,wac,c,A,F,congrArg (fun l=>Value.agg ⟨l⟩) e,hr⟩
theorem open_prs{r:Reach}{b0:Nat}{v:Value}{d:DataW H}{p:List MemPlace}(hv:Value.okWide Tryz.prog W r b0 32 v)(h:DataW.Trod enc Tryz.prog W base spare held 32 v d p)(hz:∀n∈d.weights Tryz.prog 32,n≤reachBytes):
  ∃(sa:Option Addr) (sc:Nat) (M:List Pr),v=.slice sa M.length sc∧CellsAt W (.slice sa M.length sc) M.length (prLs M)∧M.length≤2932031007402∧∀x∈M,PrN x:=by
 obtain⟨a0,len0,cap0,rfl⟩:=okWide_slice Tryz.underlying32 hv;obtain⟨fuel,hf⟩:=h;obtain⟨a,c,M,e,h1,h2,h3⟩:=trod_prs (x:=(d,p)) hf hz;simp[Value.cells]at e;obtain⟨rfl,rfl,rfl⟩:=e;exact⟨_,_,M,rfl,h1,h2,h3⟩
end
theorem vargs_of{W:World}{pa ia aa sa ra wa:Option Addr}{pc ic ac sc rc wac:Nat}{c:Cd}{A:List Vl}{M:List Pr}{F:Ft}(h:RunIn W pa ia aa ra wa pc ic ac rc wac c A F)(hM:CellsAt W (.slice sa M.length sc) M.length (prLs M)):VArgs W pa ia aa sa ra wa pc ic ac sc rc wac c A M F:=⟨h.cP,h.cI,h.cA,hM,h.cR,h.cW⟩
theorem vlim_of{W:World}{pa ia aa ra wa:Option Addr}{pc ic ac rc wac:Nat}{c:Cd}{A:List Vl}{M:List Pr}{F:Ft}(h:RunIn W pa ia aa ra wa pc ic ac rc wac c A F)(hM:M.length≤2932031007402)(hn:∀x∈M,PrN x):VLim c A M F:=by
 have h1:=h.lP;have h2:=h.lA;have h3:=h.lR;refine⟨⟨by omega,by omega,by omega,by omega,by omega⟩,fun x hx=>?_,fun x hx=>?_,fun x hx=>?_,fun q hq=>?_,fun x hx=>(h.nI x hx).1,fun x hx=>(h.nA x hx).1,fun x hx=>(hn x hx).2.1⟩
 ·have:=(h.nI x hx).2;omega
 ·have:=(h.nA x hx).2;omega
 ·have:=(hn x hx).1;have:=(hn x hx).2.2;omega
 ·rcases List.mem_append.1 hq with hq|hq
  ·have:=h.sR.1 q hq;omega
  ·have:=h.sR.2 q hq;omega
end Go.Proofs.YtnglaegofhpleaaGreatDoor
