/- What the claim needs, part 2. No conditions. -/
import Derived.Test.YtnglaegofhpleaaGreatDoorZk1
set_option maxRecDepth 100000
set_option maxHeartbeats 64000000
namespace Go.Proofs.YtnglaegofhpleaaGreatDoor
open Go.RowKit Go.Proofs.Tryz
theorem jumps_any(x:Ins)(w:World):
  Calls prog 30 #[.agg (insV x)] w fun e w'=>e=.returned (.bool (jmpI x))∧Below w.heap.size w w':=by
 obtain⟨op,a,b,n,s⟩:=x;simp only[insV];by_cases e6:op=6
 ·subst e6
  have hr:jmpI ⟨6,a,b,n,s⟩=true:=by rfl
  rw[hr];clear hr;have hb0:=((Below.refl w.heap.size w).alloc (Nat.le_refl _) (.cells #[.int .i64 6,.int .i64 a,.int .i64 b,.int .i64 n,.string (bs s)] 45));have h_HX:=(Bx.new w #[.int .i64 6,.int .i64 a,.int .i64 b,.int .i64 n,.string (bs s)] 45);have HB:=h_ hb0;have HX:=h_ h_HX;clear hb0 h_HX;go_enter func30,ntmps30;go_upto_region 1 with (fail);generalize hW0:w.alloc (.cells #[.int .i64 6,.int .i64 a,.int .i64 b,.int .i64 n,.string (bs s)] 45)=v0 at HB HX ⊢;clear hW0;obtain⟨x0,x1,x2,x3,x4⟩:=HX.out.d5 0 1 2 3 4;go_wp2;go_ret;exact⟨rfl,HB.out⟩
 have t6:(op==6)=false:=by rw[beq_eq_false_iff_ne];exact e6
 by_cases e7:op=7
 ·subst e7
  have hr:jmpI ⟨7,a,b,n,s⟩=true:=by rfl
  rw[hr];clear hr;have hb0:=((Below.refl w.heap.size w).alloc (Nat.le_refl _) (.cells #[.int .i64 7,.int .i64 a,.int .i64 b,.int .i64 n,.string (bs s)] 45));have h_HX:=(Bx.new w #[.int .i64 7,.int .i64 a,.int .i64 b,.int .i64 n,.string (bs s)] 45);have HB:=h_ hb0;have HX:=h_ h_HX;clear hb0 h_HX;go_enter func30,ntmps30;go_upto_region 1 with (fail);generalize hW0:w.alloc (.cells #[.int .i64 7,.int .i64 a,.int .i64 b,.int .i64 n,.string (bs s)] 45)=v0 at HB HX ⊢;clear hW0;obtain⟨x0,x1,x2,x3,x4⟩:=HX.out.d5 0 1 2 3 4;go_wp2;go_ret;exact⟨rfl,HB.out⟩
 have t7:(op==7)=false:=by rw[beq_eq_false_iff_ne];exact e7
 have hr:jmpI ⟨op,a,b,n,s⟩=false:=by unfold jmpI;simp[e6,e7]
 rw[hr];clear hr;have hb0:=((Below.refl w.heap.size w).alloc (Nat.le_refl _) (.cells #[.int .i64 op,.int .i64 a,.int .i64 b,.int .i64 n,.string (bs s)] 45));have h_HX:=(Bx.new w #[.int .i64 op,.int .i64 a,.int .i64 b,.int .i64 n,.string (bs s)] 45);have HB:=h_ hb0;have HX:=h_ h_HX;clear hb0 h_HX;go_enter func30,ntmps30;go_upto_region 1 with (fail);generalize hW0:w.alloc (.cells #[.int .i64 op,.int .i64 a,.int .i64 b,.int .i64 n,.string (bs s)] 45)=v0 at HB HX ⊢;clear hW0;obtain⟨x0,x1,x2,x3,x4⟩:=HX.out.d5 0 1 2 3 4;go_wp2;go_ret;exact⟨rfl,HB.out⟩
theorem fields_any(op:Int)(h1:1≤op)(h2:op≤14)(w:World):
  Calls prog 84 #[.int .i64 op] w fun e w'=>e=.returned (.int .i64 (fldS op))∧Below w.heap.size w w':=by
 have hop:op=1∨op=2∨op=3∨op=4∨op=5∨op=6∨op=7∨op=8∨op=9∨op=10∨op=11∨op=12∨op=13∨op=14:=by omega
 clear h1 h2;rcases hop with rfl|rfl|rfl|rfl|rfl|rfl|rfl|rfl|rfl|rfl|rfl|rfl|rfl|rfl
 all_goals
  go_enter func84,ntmps84;go_wp2;go_ret;exact⟨rfl,(Below.refl _ _).alloc (Nat.le_refl _) _⟩
theorem uses_any(op:Int)(h1:1≤op)(h2:op≤14)(w:World):
  Calls prog 98 #[.int .i64 op] w fun e w'=>e=.returned (.tuple #[.bool (uA op),.bool (uB op),.bool (uN op),.bool (uS op)])∧w'=w:=by
 have hop:op=1∨op=2∨op=3∨op=4∨op=5∨op=6∨op=7∨op=8∨op=9∨op=10∨op=11∨op=12∨op=13∨op=14:=by omega
 clear h1 h2;rcases hop with rfl|rfl|rfl|rfl|rfl|rfl|rfl|rfl|rfl|rfl|rfl|rfl|rfl|rfl
 ·go_enter func98,ntmps98
  go_wp2;refine bodyPost_ret (v:=.tuple #[.bool false,.bool false,.bool true,.bool false]) (by simp[results,results98,go_sem]) rfl ?_;exact⟨rfl,rfl⟩
 ·go_enter func98,ntmps98
  go_wp2;refine bodyPost_ret (v:=.tuple #[.bool false,.bool false,.bool false,.bool true]) (by simp[results,results98,go_sem]) rfl ?_;exact⟨rfl,rfl⟩
 ·go_enter func98,ntmps98
  go_wp2;refine bodyPost_ret (v:=.tuple #[.bool true,.bool false,.bool false,.bool false]) (by simp[results,results98,go_sem]) rfl ?_;exact⟨rfl,rfl⟩
 ·go_enter func98,ntmps98
  go_wp2;refine bodyPost_ret (v:=.tuple #[.bool true,.bool false,.bool false,.bool false]) (by simp[results,results98,go_sem]) rfl ?_;exact⟨rfl,rfl⟩
 ·go_enter func98,ntmps98
  go_wp2;refine bodyPost_ret (v:=.tuple #[.bool true,.bool false,.bool false,.bool false]) (by simp[results,results98,go_sem]) rfl ?_;exact⟨rfl,rfl⟩
 ·go_enter func98,ntmps98
  go_wp2;refine bodyPost_ret (v:=.tuple #[.bool true,.bool false,.bool false,.bool false]) (by simp[results,results98,go_sem]) rfl ?_;exact⟨rfl,rfl⟩
 ·go_enter func98,ntmps98
  go_wp2;refine bodyPost_ret (v:=.tuple #[.bool true,.bool false,.bool false,.bool false]) (by simp[results,results98,go_sem]) rfl ?_;exact⟨rfl,rfl⟩
 ·go_enter func98,ntmps98
  go_wp2;refine bodyPost_ret (v:=.tuple #[.bool false,.bool false,.bool false,.bool false]) (by simp[results,results98,go_sem]) rfl ?_;exact⟨rfl,rfl⟩
 ·go_enter func98,ntmps98
  go_wp2;refine bodyPost_ret (v:=.tuple #[.bool false,.bool false,.bool false,.bool false]) (by simp[results,results98,go_sem]) rfl ?_;exact⟨rfl,rfl⟩
 ·go_enter func98,ntmps98
  go_wp2;refine bodyPost_ret (v:=.tuple #[.bool false,.bool false,.bool false,.bool false]) (by simp[results,results98,go_sem]) rfl ?_;exact⟨rfl,rfl⟩
 ·go_enter func98,ntmps98
  go_wp2;refine bodyPost_ret (v:=.tuple #[.bool true,.bool false,.bool false,.bool false]) (by simp[results,results98,go_sem]) rfl ?_;exact⟨rfl,rfl⟩
 ·go_enter func98,ntmps98
  go_wp2;refine bodyPost_ret (v:=.tuple #[.bool true,.bool true,.bool true,.bool false]) (by simp[results,results98,go_sem]) rfl ?_;exact⟨rfl,rfl⟩
 ·go_enter func98,ntmps98
  go_wp2;refine bodyPost_ret (v:=.tuple #[.bool false,.bool false,.bool false,.bool false]) (by simp[results,results98,go_sem]) rfl ?_;exact⟨rfl,rfl⟩
 ·go_enter func98,ntmps98
  go_wp2;refine bodyPost_ret (v:=.tuple #[.bool false,.bool false,.bool false,.bool false]) (by simp[results,results98,go_sem]) rfl ?_;exact⟨rfl,rfl⟩
theorem plain_len{s:List UInt8}(h:s.all okc=true):plainS s=decide (s.length≤64):=by unfold plainS;rw[h];rfl
theorem plain_no{s:List UInt8}(h:s.all okc=false):plainS s=false:=by unfold plainS;rw[h];rfl
theorem bplain_any(s:List UInt8)(hl:s.length≤9223372036854775807)(w:World):
  Calls prog 48 #[.string (bs s)] w fun e w'=>e=.returned (.bool (plainS s))∧w'=w:=by
 obtain⟨R,hR⟩:=ex_ (plainS s);rw[hR];have HR:=h_ hR;clear hR;go_enter func48,ntmps48;go_wp2
 go_loop [3,6] (fun _ i=>∃k:Nat,k≤s.length∧i=.int .i64 k∧∀j (hj:j<s.length),j<k→okc s[j]=true) (fun _ i=>s.length-(intOf i).toNat)
 case atStart=>exact⟨0,Nat.zero_le _,rfl,fun j _ hj=>absurd hj (Nat.not_lt_zero _)⟩
 case round =>
  obtain⟨k,hk,rfl,hall⟩:=hrel;have HA:=h_ hall;clear hall;by_cases hlt:k<s.length
  ·have hlt':(k:Int)<(s.length:Int):=by omega
   have hw1:IntKind.i64.wrap ((k:Int)+1)=((k+1:Nat):Int):=by rw[IntKind.wrap_i64];omega
   by_cases h1:(s[k].toNat:Int)<32
   ·have HF:=h_ (show R=false by rw[←HR.out,plain_no (all_bad k hlt (okc_lo h1))])
    go_wp2;go_ret;exact⟨by rw[HF.out]<;>rfl,rfl⟩
   by_cases h2:126<(s[k].toNat:Int)
   ·have HF:=h_ (show R=false by rw[←HR.out,plain_no (all_bad k hlt (okc_hi h2))])
    go_wp2;go_ret;exact⟨by rw[HF.out]<;>rfl,rfl⟩
   have hok:okc s[k]=true:=(okc_iff _).2 ⟨by omega,by omega⟩
   have HN:=h_ (show ∀j (hj:j<s.length),j<k+1→okc s[j]=true from fun j hj hjk=>by
    by_cases e:j=k
    ·subst e;exact hok
    ·exact HA.out j hj (by omega))
   go_wp2
   go_round
   case rel=>exact⟨k+1,by omega,by go_num,HN.out⟩
   case measure=>simp[intOf];omega
  ·have hlt':¬(k:Int)<(s.length:Int):=by omega
   have hall:s.all okc=true:=by
    rw[List.all_eq_true];intro c hc;obtain⟨j,hj,rfl⟩:=List.getElem_of_mem hc;exact HA.out j hj (by omega)
   have hr:=plain_len hall;rw[HR.out]at hr;by_cases h64:s.length≤64
   ·have h64':(s.length:Int)≤64:=by omega
    have HF:=h_ (show R=true by rw[hr];simpa using h64);clear hr hall;go_wp2;go_ret;exact⟨by rw[HF.out]<;>rfl,rfl⟩
   ·have h64':¬(s.length:Int)≤64:=by omega
    have HF:=h_ (show R=false by rw[hr];simpa using h64);clear hr hall;go_wp2;go_ret;exact⟨by rw[HF.out]<;>rfl,rfl⟩
def LaidB (W : World) : Prop := Laid W ∧ Lib.TabIs prog W "strings.asciiSpace" .u8 Lib.asciiSpaceTab ∧ ∃ m, W.cell? ⟨3, 0, none⟩ = some (.int .i64 m)
theorem gSpace : prog.globalNamed "strings.asciiSpace" = some 0 := by kernel_rfl
theorem LaidB.below{W W':World}(h:LaidB W)(hb:Below W.heap.size W W'):LaidB W':=by
 obtain⟨h1,h2,m,h3⟩:=h;refine⟨h1.below hb,?_,m,cell1_below h3 hb⟩;unfold Lib.TabIs at h2 ⊢;exact Joins.var_stays gSpace h2 hb (Nat.le_refl _)
theorem Fields_of(s:ByteArray)(F:List (List UInt8))(n:Nat)(hF:Lib.fields s.data.toList=F)(hn:F.length=n)(hs:s.size<4294967281)(ha:s.data.toList.all (fun b=>decide (b.toNat<128))=true)(w:World)(hB:LaidB w):
  Calls prog 83 #[.string s] w fun e w'=>e=.returned (.slice (some ⟨w.heap.size,0,none⟩) n n)∧w'=w.alloc (.cells (F.map strV).toArray 9):=by
 subst hF hn;refine(Tryz.strings_Fields s w hs ?_ hB.2.1).mono ?_
 ·intro j b hj
  have:=List.all_eq_true.1 ha b (List.mem_of_getElem? hj);simpa using this
 ·rintro e w' ⟨rfl,rfl⟩
  exact⟨rfl,rfl⟩
theorem strs_at{F:List (List UInt8)}{k:Nat}(h:k<F.length):(F.map strV).toArray[k]? = some (.string (bs (F.getD k []))):=by
 simp only[List.getElem?_toArray,List.getElem?_map,List.getElem?_eq_getElem h,Option.map_some,List.getD_eq_getElem?_getD,Option.getD_some];rfl
theorem nameS_in{k:Nat}(h:k<14):nameS ((k:Int)+1)=OPN.getD k []:=by
 unfold nameS;rw[if_pos ⟨by omega,by omega⟩];congr 1;omega
theorem nameS_out{op:Int}(h:op<1∨14<op):nameS op=[]:=by unfold nameS;rw[if_neg (by omega)]
theorem OPN_ne:∀k,k<14→OPN.getD k []≠[]:=by decide
theorem nameS_ne{op:Int}(h1:1≤op)(h2:op≤14):nameS op≠[]:=by
 obtain⟨k,rfl⟩:∃k:Nat,op=(k:Int)+1:=⟨(op-1).toNat,by omega⟩;rw[nameS_in (by omega)];exact OPN_ne k (by omega)
theorem Name_any(op:Int)(w:World)(hB:LaidB w):
  Calls prog 45 #[.int .i64 op] w fun e w'=>e=.returned (.string (bs (nameS op)))∧Below w.heap.size w w':=by
 by_cases h1:op<1
 ·rw[nameS_out (.inl h1)]
  go_enter func45,ntmps45;go_wp2;go_ret;exact⟨rfl,Below.refl _ _⟩
 by_cases h2:14<op
 ·rw[nameS_out (.inr h2)]
  go_enter func45,ntmps45;go_wp2;go_ret;exact⟨rfl,Below.refl _ _⟩
 obtain⟨k,rfl⟩:∃k:Nat,op=(k:Int)+1:=⟨(op-1).toNat,by omega⟩
 have hk:k<14:=by omega
 rw[nameS_in hk]
 have hw1:IntKind.i64.wrap ((k:Int)+1-1)=(k:Int):=by rw[IntKind.wrap_i64];omega
 have hk':(k:Int)<14:=by omega
 go_enter func45,ntmps45;go_wp2_with fail;refine(Fields_of _ OPN 14 (by kernel_rfl) rfl (of_decide_eq_true (by kernel_rfl)) (by kernel_rfl) _ hB).mono ?_;rintro er w1 ⟨rfl,rfl⟩;have HX:=h_ (Bx.new w (OPN.map strV).toArray 9);have HB:=h_ ((Below.refl w.heap.size w).alloc (Nat.le_refl _) (.cells (OPN.map strV).toArray 9));generalize hW:w.alloc (.cells (OPN.map strV).toArray 9)=v1 at HX HB ⊢;clear hW
 have c0:v1.cell? ⟨w.heap.size,k,none⟩=some (.string (bs (OPN.getD k []))):=by rw[HX.out.cell k];exact strs_at (by show k<14;exact hk)
 go_wp2;go_ret;exact⟨rfl,HB.out⟩
theorem names_any(w:World):
  Calls prog 124 #[] w fun e w'=>e=.returned (.slice (some ⟨w.heap.size,0,none⟩) 14 14)∧w'=w.alloc (.cells (OPN.map strV).toArray 9):=by
 go_enter func124,ntmps124;go_wp2;go_ret;exact⟨rfl,rfl⟩
theorem RName_any(op:Int)(w:World):
  Calls prog 99 #[.int .i64 op] w fun e w'=>e=.returned (.string (bs (nameS op)))∧Below w.heap.size w w':=by
 by_cases h1:op<1
 ·rw[nameS_out (.inl h1)]
  go_enter func99,ntmps99;go_wp2;go_ret;exact⟨rfl,Below.refl _ _⟩
 by_cases h2:14<op
 ·rw[nameS_out (.inr h2)]
  go_enter func99,ntmps99;go_wp2;go_ret;exact⟨rfl,Below.refl _ _⟩
 obtain⟨k,rfl⟩:∃k:Nat,op=(k:Int)+1:=⟨(op-1).toNat,by omega⟩
 have hk:k<14:=by omega
 rw[nameS_in hk]
 have hw1:IntKind.i64.wrap ((k:Int)+1-1)=(k:Int):=by rw[IntKind.wrap_i64];omega
 have hk':(k:Int)<14:=by omega
 go_enter func99,ntmps99;go_wp2_with fail;refine(names_any _).mono ?_;rintro er w1 ⟨rfl,rfl⟩;have HX:=h_ (Bx.new w (OPN.map strV).toArray 9);have HB:=h_ ((Below.refl w.heap.size w).alloc (Nat.le_refl _) (.cells (OPN.map strV).toArray 9));generalize hW:w.alloc (.cells (OPN.map strV).toArray 9)=v1 at HX HB ⊢;clear hW
 have c0:v1.cell? ⟨w.heap.size,k,none⟩=some (.string (bs (OPN.getD k []))):=by rw[HX.out.cell k];exact strs_at (by show k<14;exact hk)
 go_wp2;go_ret;exact⟨rfl,HB.out⟩
def Grp (op:Int):Prop:=
 (fldS op=4∧uA op=false∧uB op=false∧uN op=true∧uS op=false)∨(fldS op=8∧uA op=false∧uB op=false∧uN op=false∧uS op=true) ∨
 (fldS op=7∧uA op=true∧uB op=true∧uN op=true∧uS op=false)∨(fldS op=1∧uA op=true∧uB op=false∧uN op=false∧uS op=false)∨(fldS op=0∧uA op=false∧uB op=false∧uN op=false∧uS op=false)
instance (op:Int):Decidable (Grp op):=by unfold Grp;infer_instance
theorem grp_any{op:Int}(h1:1≤op)(h2:op≤14):Grp op:=by
 have hop:op=1∨op=2∨op=3∨op=4∨op=5∨op=6∨op=7∨op=8∨op=9∨op=10∨op=11∨op=12∨op=13∨op=14:=by omega
 rcases hop with rfl|rfl|rfl|rfl|rfl|rfl|rfl|rfl|rfl|rfl|rfl|rfl|rfl|rfl<;>decide
theorem unused_any(x:Ins)(h1:1≤x.op)(h2:x.op≤14)(w:World):
  Calls prog 46 #[.agg (insV x)] w fun e w'=>e=.returned (.bool (unuS x))∧Below w.heap.size w w':=by
 obtain⟨op,a,b,n,s⟩:=x;simp only at h1 h2;simp only[insV];obtain⟨V,hV⟩:=ex_ (unuS ⟨op,a,b,n,s⟩);rw[hV];have HV:=h_ hV;clear hV;have hb0:=((Below.refl w.heap.size w).alloc (Nat.le_refl _) (.cells #[.int .i64 op,.int .i64 a,.int .i64 b,.int .i64 n,.string (bs s)] 45));have h_HX:=(Bx.new w #[.int .i64 op,.int .i64 a,.int .i64 b,.int .i64 n,.string (bs s)] 45);have HB:=h_ hb0;have HX:=h_ h_HX;clear hb0 h_HX;go_enter func46,ntmps46;go_upto_region 1 with (fail);generalize hW0:w.alloc (.cells #[.int .i64 op,.int .i64 a,.int .i64 b,.int .i64 n,.string (bs s)] 45)=v0 at HB HX ⊢;clear hW0;obtain⟨x0,x1,x2,x3,x4⟩:=HX.out.d5 0 1 2 3 4;go_wp2_with fail;refine(fields_any op h1 h2 _).mono ?_;rintro er w1 ⟨rfl,hb1⟩;clear x0 x1 x2 x3 x4;have HX:=HX.out.k hb1;have HB:=bt HB hb1;clear hb1;obtain⟨x0,x1,x2,x3,x4⟩:=HX.out.d5 0 1 2 3 4;rcases grp_any h1 h2 with h|h|h|h|h
 ·obtain⟨hF,hA,hB,hN,hS⟩:=h
  rw[hF];by_cases ea:a=0;rotate_left
  ·have ta:(a==0)=false:=by rw[beq_eq_false_iff_ne];exact ea
   have HF:=h_ (show V=false from HV.out.symm.trans (by unfold unuS;simp[hA,hB,hN,hS,ea]));clear hF hA hB hN hS;go_wp2;go_ret;exact⟨by rw[HF.out]<;>rfl,HB.out⟩
  subst ea;by_cases eb:b=0;rotate_left
  ·have tb:(b==0)=false:=by rw[beq_eq_false_iff_ne];exact eb
   have HF:=h_ (show V=false from HV.out.symm.trans (by unfold unuS;simp[hA,hB,hN,hS,eb]));clear hF hA hB hN hS;go_wp2;go_ret;exact⟨by rw[HF.out]<;>rfl,HB.out⟩
  subst eb;by_cases es:s=[];rotate_left
  ·have ts:(s==[])=false:=by rw[beq_eq_false_iff_ne];exact es
   have HF:=h_ (show V=false from HV.out.symm.trans (by unfold unuS;simp[hA,hB,hN,hS,es]));clear hF hA hB hN hS;go_wp2;go_ret;exact⟨by rw[HF.out]<;>rfl,HB.out⟩
  subst es;have HF:=h_ (show V=true from HV.out.symm.trans (by unfold unuS;simp[hA,hB,hN,hS]));clear hF hA hB hN hS;go_wp2;go_ret;exact⟨by rw[HF.out]<;>rfl,HB.out⟩
 ·obtain⟨hF,hA,hB,hN,hS⟩:=h
  rw[hF];by_cases ea:a=0;rotate_left
  ·have ta:(a==0)=false:=by rw[beq_eq_false_iff_ne];exact ea
   have HF:=h_ (show V=false from HV.out.symm.trans (by unfold unuS;simp[hA,hB,hN,hS,ea]));clear hF hA hB hN hS;go_wp2;go_ret;exact⟨by rw[HF.out]<;>rfl,HB.out⟩
  subst ea;by_cases eb:b=0;rotate_left
  ·have tb:(b==0)=false:=by rw[beq_eq_false_iff_ne];exact eb
   have HF:=h_ (show V=false from HV.out.symm.trans (by unfold unuS;simp[hA,hB,hN,hS,eb]));clear hF hA hB hN hS;go_wp2;go_ret;exact⟨by rw[HF.out]<;>rfl,HB.out⟩
  subst eb;by_cases en:n=0;rotate_left
  ·have tn:(n==0)=false:=by rw[beq_eq_false_iff_ne];exact en
   have HF:=h_ (show V=false from HV.out.symm.trans (by unfold unuS;simp[hA,hB,hN,hS,en]));clear hF hA hB hN hS;go_wp2;go_ret;exact⟨by rw[HF.out]<;>rfl,HB.out⟩
  subst en;have HF:=h_ (show V=true from HV.out.symm.trans (by unfold unuS;simp[hA,hB,hN,hS]));clear hF hA hB hN hS;go_wp2;go_ret;exact⟨by rw[HF.out]<;>rfl,HB.out⟩
 ·obtain⟨hF,hA,hB,hN,hS⟩:=h
  rw[hF];by_cases es:s=[];rotate_left
  ·have ts:(s==[])=false:=by rw[beq_eq_false_iff_ne];exact es
   have HF:=h_ (show V=false from HV.out.symm.trans (by unfold unuS;simp[hA,hB,hN,hS,es]));clear hF hA hB hN hS;go_wp2;go_ret;exact⟨by rw[HF.out]<;>rfl,HB.out⟩
  subst es;have HF:=h_ (show V=true from HV.out.symm.trans (by unfold unuS;simp[hA,hB,hN,hS]));clear hF hA hB hN hS;go_wp2;go_ret;exact⟨by rw[HF.out]<;>rfl,HB.out⟩
 ·obtain⟨hF,hA,hB,hN,hS⟩:=h
  rw[hF];by_cases eb:b=0;rotate_left
  ·have tb:(b==0)=false:=by rw[beq_eq_false_iff_ne];exact eb
   have HF:=h_ (show V=false from HV.out.symm.trans (by unfold unuS;simp[hA,hB,hN,hS,eb]));clear hF hA hB hN hS;go_wp2;go_ret;exact⟨by rw[HF.out]<;>rfl,HB.out⟩
  subst eb;by_cases en:n=0;rotate_left
  ·have tn:(n==0)=false:=by rw[beq_eq_false_iff_ne];exact en
   have HF:=h_ (show V=false from HV.out.symm.trans (by unfold unuS;simp[hA,hB,hN,hS,en]));clear hF hA hB hN hS;go_wp2;go_ret;exact⟨by rw[HF.out]<;>rfl,HB.out⟩
  subst en;by_cases es:s=[];rotate_left
  ·have ts:(s==[])=false:=by rw[beq_eq_false_iff_ne];exact es
   have HF:=h_ (show V=false from HV.out.symm.trans (by unfold unuS;simp[hA,hB,hN,hS,es]));clear hF hA hB hN hS;go_wp2;go_ret;exact⟨by rw[HF.out]<;>rfl,HB.out⟩
  subst es;have HF:=h_ (show V=true from HV.out.symm.trans (by unfold unuS;simp[hA,hB,hN,hS]));clear hF hA hB hN hS;go_wp2;go_ret;exact⟨by rw[HF.out]<;>rfl,HB.out⟩
 ·obtain⟨hF,hA,hB,hN,hS⟩:=h
  rw[hF];by_cases ea:a=0;rotate_left
  ·have ta:(a==0)=false:=by rw[beq_eq_false_iff_ne];exact ea
   have HF:=h_ (show V=false from HV.out.symm.trans (by unfold unuS;simp[hA,hB,hN,hS,ea]));clear hF hA hB hN hS;go_wp2;go_ret;exact⟨by rw[HF.out]<;>rfl,HB.out⟩
  subst ea;by_cases eb:b=0;rotate_left
  ·have tb:(b==0)=false:=by rw[beq_eq_false_iff_ne];exact eb
   have HF:=h_ (show V=false from HV.out.symm.trans (by unfold unuS;simp[hA,hB,hN,hS,eb]));clear hF hA hB hN hS;go_wp2;go_ret;exact⟨by rw[HF.out]<;>rfl,HB.out⟩
  subst eb;by_cases en:n=0;rotate_left
  ·have tn:(n==0)=false:=by rw[beq_eq_false_iff_ne];exact en
   have HF:=h_ (show V=false from HV.out.symm.trans (by unfold unuS;simp[hA,hB,hN,hS,en]));clear hF hA hB hN hS;go_wp2;go_ret;exact⟨by rw[HF.out]<;>rfl,HB.out⟩
  subst en;by_cases es:s=[];rotate_left
  ·have ts:(s==[])=false:=by rw[beq_eq_false_iff_ne];exact es
   have HF:=h_ (show V=false from HV.out.symm.trans (by unfold unuS;simp[hA,hB,hN,hS,es]));clear hF hA hB hN hS;go_wp2;go_ret;exact⟨by rw[HF.out]<;>rfl,HB.out⟩
  subst es;have HF:=h_ (show V=true from HV.out.symm.trans (by unfold unuS;simp[hA,hB,hN,hS]));clear hF hA hB hN hS;go_wp2;go_ret;exact⟨by rw[HF.out]<;>rfl,HB.out⟩
theorem inR_lo{a sl:Int}(h:¬0≤a):inR a sl=false:=by unfold inR;rw[decide_eq_false h];rfl
theorem inR_hi{a sl:Int}(h:¬a<sl):inR a sl=false:=by unfold inR;rw[decide_eq_false h,Bool.and_false]
theorem inR_ok{a sl:Int}(h:0≤a)(h2:a<sl):inR a sl=true:=by unfold inR;rw[decide_eq_true h,decide_eq_true h2];rfl
theorem slot_any(b:Nat)(a sl:Int)(w:World)(c1:w.cell? ⟨b,1,none⟩=some (.int .i64 sl)):
  Calls prog 47 #[.int .i64 a,.pointer (some ⟨b,0,none⟩)] w fun e w'=>e=.returned (.bool (inR a sl))∧w'=w:=by
 by_cases h1:0≤a;rotate_left
 ·rw[inR_lo h1]
  go_enter func47,ntmps47;go_wp2;go_ret;exact⟨rfl,rfl⟩
 by_cases h2:a<sl;rotate_left
 ·rw[inR_hi h2]
  go_enter func47,ntmps47;go_wp2;go_ret;exact⟨rfl,rfl⟩
 rw[inR_ok h1 h2];go_enter func47,ntmps47;go_wp2;go_ret;exact⟨rfl,rfl⟩
theorem insS_1{sl n a b m:Int}{s:List UInt8}(h:unuS ⟨1,a,b,m,s⟩=true):insS sl n ⟨1,a,b,m,s⟩=true:=by unfold insS;rw[h];simp
theorem insS_2{sl n a b m:Int}{s:List UInt8}(h:unuS ⟨2,a,b,m,s⟩=true):insS sl n ⟨2,a,b,m,s⟩=plainS s:=by unfold insS;rw[h];simp
theorem insS_3{sl n a b m:Int}{s:List UInt8}(h:unuS ⟨3,a,b,m,s⟩=true):insS sl n ⟨3,a,b,m,s⟩=inR a sl:=by unfold insS;rw[h];simp
theorem insS_4{sl n a b m:Int}{s:List UInt8}(h:unuS ⟨4,a,b,m,s⟩=true):insS sl n ⟨4,a,b,m,s⟩=inR a sl:=by unfold insS;rw[h];simp
theorem insS_5{sl n a b m:Int}{s:List UInt8}(h:unuS ⟨5,a,b,m,s⟩=true):insS sl n ⟨5,a,b,m,s⟩=decide (1≤arS a):=by unfold insS;rw[h];simp
theorem insS_6{sl n a b m:Int}{s:List UInt8}(h:unuS ⟨6,a,b,m,s⟩=true):insS sl n ⟨6,a,b,m,s⟩=inR a n:=by unfold insS;rw[h];simp
theorem insS_7{sl n a b m:Int}{s:List UInt8}(h:unuS ⟨7,a,b,m,s⟩=true):insS sl n ⟨7,a,b,m,s⟩=inR a n:=by unfold insS;rw[h];simp
theorem insS_8{sl n a b m:Int}{s:List UInt8}(h:unuS ⟨8,a,b,m,s⟩=true):insS sl n ⟨8,a,b,m,s⟩=true:=by unfold insS;rw[h];simp
theorem insS_9{sl n a b m:Int}{s:List UInt8}(h:unuS ⟨9,a,b,m,s⟩=true):insS sl n ⟨9,a,b,m,s⟩=true:=by unfold insS;rw[h];simp
theorem insS_10{sl n a b m:Int}{s:List UInt8}(h:unuS ⟨10,a,b,m,s⟩=true):insS sl n ⟨10,a,b,m,s⟩=true:=by unfold insS;rw[h];simp
theorem insS_11{sl n a b m:Int}{s:List UInt8}(h:unuS ⟨11,a,b,m,s⟩=true):insS sl n ⟨11,a,b,m,s⟩=inR a 1000:=by unfold insS;rw[h];simp
theorem insS_12{sl n a b m:Int}{s:List UInt8}(h:unuS ⟨12,a,b,m,s⟩=true):insS sl n ⟨12,a,b,m,s⟩=(inR a sl && (inR b sl && (decide (1≤m) && decide (m≤16)))):=by unfold insS;rw[h];simp
theorem insS_13{sl n a b m:Int}{s:List UInt8}(h:unuS ⟨13,a,b,m,s⟩=true):insS sl n ⟨13,a,b,m,s⟩=true:=by unfold insS;rw[h];simp
theorem insS_14{sl n a b m:Int}{s:List UInt8}(h:unuS ⟨14,a,b,m,s⟩=true):insS sl n ⟨14,a,b,m,s⟩=true:=by unfold insS;rw[h];simp
theorem insS_un{sl n:Int}{x:Ins}(h:unuS x=false):insS sl n x=false:=by unfold insS;rw[h];simp
theorem insS_lo{sl n:Int}{x:Ins}(h:x.op<1):insS sl n x=false:=by unfold insS;rw[decide_eq_false (show ¬1≤x.op by omega)];rfl
theorem insS_hi{sl n:Int}{x:Ins}(h:14<x.op):insS sl n x=false:=by unfold insS;rw[decide_eq_false (show ¬x.op≤14 by omega),Bool.and_false];rfl
theorem validInstr_any(pa ia:Option Addr)(pn pc n ic:Nat)(sl:Int)(x:Ins)(hl:x.s.length≤9223372036854775807)(w:World)(hB:LaidB w):
  Calls prog 27 #[.agg #[.slice pa pn pc,.int .i64 sl,.slice ia n ic],.agg (insV x)] w fun e w'=>e=.returned (.bool (insS sl (n:Int) x))∧Below w.heap.size w w':=by
 obtain⟨op,a,b,m,s⟩:=x;simp only at hl;simp only[insV];obtain⟨V,hV⟩:=ex_ (insS sl (n:Int) ⟨op,a,b,m,s⟩);rw[hV];have HV:=h_ hV;clear hV;obtain⟨nm,hnm⟩:=ex_ (nameS op);have HN:=h_ hnm;clear hnm;obtain⟨u,hu⟩:=ex_ (unuS ⟨op,a,b,m,s⟩);have HU:=h_ hu;clear hu;have hmf:∀(fn:Fn) (first cap:Array Value) (w:World),(Instr.makeFunc fn first cap).run prog w=.ok (.func fn first cap) w:=fun _ _ _ _=>rfl;have hb0:=(((Below.refl w.heap.size w).alloc (Nat.le_refl _) (.cells #[.slice pa pn pc,.int .i64 sl,.slice ia n ic] 25)).alloc (by simp) (.cells #[.int .i64 op,.int .i64 a,.int .i64 b,.int .i64 m,.string (bs s)] 45));have h_HC:=((Bx.new w #[.slice pa pn pc,.int .i64 sl,.slice ia n ic] 25).alloc (.cells #[.int .i64 op,.int .i64 a,.int .i64 b,.int .i64 m,.string (bs s)] 45));have h_HX:=(Bx.new (w.alloc (.cells #[.slice pa pn pc,.int .i64 sl,.slice ia n ic] 25)) #[.int .i64 op,.int .i64 a,.int .i64 b,.int .i64 m,.string (bs s)] 45);rw[show (w.alloc (.cells #[.slice pa pn pc,.int .i64 sl,.slice ia n ic] 25)).heap.size=w.heap.size+1 by simp]at h_HX;have HB:=h_ hb0;have HC:=h_ h_HC;have HX:=h_ h_HX;clear hb0 h_HC h_HX;go_enter func27,ntmps27;go_upto_region 1 with (fail);generalize hW0:(w.alloc (.cells #[.slice pa pn pc,.int .i64 sl,.slice ia n ic] 25)).alloc (.cells #[.int .i64 op,.int .i64 a,.int .i64 b,.int .i64 m,.string (bs s)] 45)=v0 at HB HC HX ⊢;clear hW0;obtain⟨c0,c1,c2⟩:=HC.out.d3 0 1 2;obtain⟨x0,x1,x2,x3,x4⟩:=HX.out.d5 0 1 2 3 4;go_wp2_with fail;refine(Name_any op _ (hB.below HB.out)).mono ?_;rw[HN.out];rintro er w1 ⟨rfl,hb1⟩;clear c0 c1 c2;clear x0 x1 x2 x3 x4;have HC:=HC.out.k hb1;have HX:=HX.out.k hb1;have HB:=bt HB hb1;clear hb1;obtain⟨c0,c1,c2⟩:=HC.out.d3 0 1 2;obtain⟨x0,x1,x2,x3,x4⟩:=HX.out.d5 0 1 2 3 4;by_cases h1:op<1∨14<op
 ·have hn0:nm=[]:=HN.out.symm.trans (nameS_out (op:=op) h1)
  subst hn0;have HF:=h_ (show V=false from HV.out.symm.trans (h1.elim (fun h=>insS_lo h) fun h=>insS_hi h));clear h1;go_wp2;go_ret;exact⟨by rw[HF.out]<;>rfl,HB.out⟩
 obtain⟨hq1,hq2⟩:1≤op∧op≤14:=by omega
 have tn:(nm==[])=false:=by rw[beq_eq_false_iff_ne,←HN.out];exact nameS_ne (by omega) (by omega)
 clear h1;go_wp2_with fail;refine(unused_any ⟨op,a,b,m,s⟩ hq1 hq2 _).mono ?_;rw[HU.out];rintro er w2 ⟨rfl,hb1⟩;clear c0 c1 c2;clear x0 x1 x2 x3 x4;have HC:=HC.out.k hb1;have HX:=HX.out.k hb1;have HB:=bt HB hb1;clear hb1;obtain⟨c0,c1,c2⟩:=HC.out.d3 0 1 2;obtain⟨x0,x1,x2,x3,x4⟩:=HX.out.d5 0 1 2 3 4;cases u
 ·have HF:=h_ (show V=false from HV.out.symm.trans (insS_un HU.out))
  go_wp2;go_ret;exact⟨by rw[HF.out]<;>rfl,HB.out⟩
 go_upto_region 4 with (fail);clear tn HN
 have hop:op=1∨op=2∨op=3∨op=4∨op=5∨op=6∨op=7∨op=8∨op=9∨op=10∨op=11∨op=12∨op=13∨op=14:=by omega
 clear hq1 hq2;rcases hop with rfl|rfl|rfl|rfl|rfl|rfl|rfl|rfl|rfl|rfl|rfl|rfl|rfl|rfl
 ·skip
  have HF:=h_ (show V=true by rw[←HV.out];rw[insS_1 HU.out]);go_wp2;go_ret;exact⟨by rw[HF.out]<;>rfl,HB.out⟩
 ·skip
  obtain⟨R,hR⟩:=ex_ (plainS s);have HR:=h_ hR;clear hR;have HF:=h_ (show V=R by rw[←HV.out,insS_2 HU.out];exact HR.out);go_wp2_with fail;refine(bplain_any s hl _).mono ?_;rw[HR.out];rintro er w3 ⟨rfl,rfl⟩;go_wp2;go_ret;exact⟨by rw[HF.out]<;>rfl,HB.out⟩
 ·skip
  obtain⟨R,hR⟩:=ex_ (inR a sl);have HR:=h_ hR;clear hR;have HF:=h_ (show V=R by rw[←HV.out,insS_3 HU.out];exact HR.out);go_wp2_with fail;refine(slot_any w.heap.size a sl _ c1).mono ?_;rw[HR.out];rintro er w3 ⟨rfl,rfl⟩;go_wp2;go_ret;exact⟨by rw[HF.out]<;>rfl,HB.out⟩
 ·skip
  obtain⟨R,hR⟩:=ex_ (inR a sl);have HR:=h_ hR;clear hR;have HF:=h_ (show V=R by rw[←HV.out,insS_4 HU.out];exact HR.out);go_wp2_with fail;refine(slot_any w.heap.size a sl _ c1).mono ?_;rw[HR.out];rintro er w3 ⟨rfl,rfl⟩;go_wp2;go_ret;exact⟨by rw[HF.out]<;>rfl,HB.out⟩
 ·skip
  obtain⟨R,hR⟩:=ex_ (arS a);have HR:=h_ hR;clear hR;go_wp2_with fail;refine(Arity_any a _).mono ?_;rw[HR.out];rintro er w3 ⟨rfl,rfl⟩;by_cases h3:1≤R
  ·skip
   have HF:=h_ (show V=true by rw[←HV.out,insS_5 HU.out];rw[HR.out];exact decide_eq_true h3);go_wp2;go_ret;exact⟨by rw[HF.out]<;>rfl,HB.out⟩
  have HF:=h_ (show V=decide (1≤R) by rw[←HV.out,insS_5 HU.out];rw[HR.out]);go_wp2;go_ret;exact⟨by rw[HF.out]<;>rfl,HB.out⟩
 ·skip
  by_cases h3:0≤a;rotate_left
  ·skip
   have HF:=h_ (show V=false by rw[←HV.out];rw[insS_6 HU.out];exact inR_lo h3);go_wp2;go_ret;exact⟨by rw[HF.out]<;>rfl,HB.out⟩
  by_cases h4:a<(n:Int);rotate_left
  ·skip
   have HF:=h_ (show V=false by rw[←HV.out];rw[insS_6 HU.out];exact inR_hi h4);go_wp2;go_ret;exact⟨by rw[HF.out]<;>rfl,HB.out⟩
  have HF:=h_ (show V=true by rw[←HV.out];rw[insS_6 HU.out];exact inR_ok h3 h4);go_wp2;go_ret;exact⟨by rw[HF.out]<;>rfl,HB.out⟩
 ·skip
  by_cases h3:0≤a;rotate_left
  ·skip
   have HF:=h_ (show V=false by rw[←HV.out];rw[insS_7 HU.out];exact inR_lo h3);go_wp2;go_ret;exact⟨by rw[HF.out]<;>rfl,HB.out⟩
  by_cases h4:a<(n:Int);rotate_left
  ·skip
   have HF:=h_ (show V=false by rw[←HV.out];rw[insS_7 HU.out];exact inR_hi h4);go_wp2;go_ret;exact⟨by rw[HF.out]<;>rfl,HB.out⟩
  have HF:=h_ (show V=true by rw[←HV.out];rw[insS_7 HU.out];exact inR_ok h3 h4);go_wp2;go_ret;exact⟨by rw[HF.out]<;>rfl,HB.out⟩
 ·skip
  have HF:=h_ (show V=true by rw[←HV.out];rw[insS_8 HU.out]);go_wp2;go_ret;exact⟨by rw[HF.out]<;>rfl,HB.out⟩
 ·skip
  have HF:=h_ (show V=true by rw[←HV.out];rw[insS_9 HU.out]);go_wp2;go_ret;exact⟨by rw[HF.out]<;>rfl,HB.out⟩
 ·skip
  have HF:=h_ (show V=true by rw[←HV.out];rw[insS_10 HU.out]);go_wp2;go_ret;exact⟨by rw[HF.out]<;>rfl,HB.out⟩
 ·skip
  by_cases h3:0≤a;rotate_left
  ·skip
   have HF:=h_ (show V=false by rw[←HV.out];rw[insS_11 HU.out];exact inR_lo h3);go_wp2;go_ret;exact⟨by rw[HF.out]<;>rfl,HB.out⟩
  by_cases h4:a≤999;rotate_left
  ·skip
   have HF:=h_ (show V=false by rw[←HV.out];rw[insS_11 HU.out];exact inR_hi (by omega));go_wp2;go_ret;exact⟨by rw[HF.out]<;>rfl,HB.out⟩
  have HF:=h_ (show V=true by rw[←HV.out];rw[insS_11 HU.out];exact inR_ok h3 (by omega));go_wp2;go_ret;exact⟨by rw[HF.out]<;>rfl,HB.out⟩
 ·skip
  obtain⟨R,hR⟩:=ex_ (inR a sl);obtain⟨Q,hQ⟩:=ex_ (inR b sl);have HR:=h_ hR;have HQ:=h_ hQ;clear hR hQ;go_wp2_with fail;refine(slot_any w.heap.size a sl _ c1).mono ?_;rw[HR.out];rintro er w3 ⟨rfl,rfl⟩;cases R
  ·skip
   have HF:=h_ (show V=false by rw[←HV.out,insS_12 HU.out];rw[HR.out];rfl);go_wp2;go_ret;exact⟨by rw[HF.out]<;>rfl,HB.out⟩
  go_wp2_with fail;refine(slot_any w.heap.size b sl _ c1).mono ?_;rw[HQ.out];rintro er w4 ⟨rfl,rfl⟩;cases Q
  ·skip
   have HF:=h_ (show V=false by rw[←HV.out,insS_12 HU.out];rw[HR.out,HQ.out];rfl);go_wp2;go_ret;exact⟨by rw[HF.out]<;>rfl,HB.out⟩
  by_cases h3:1≤m;rotate_left
  ·skip
   have HF:=h_ (show V=false by rw[←HV.out,insS_12 HU.out];rw[HR.out,HQ.out,decide_eq_false h3];rfl);go_wp2;go_ret;exact⟨by rw[HF.out]<;>rfl,HB.out⟩
  by_cases h4:m≤16;rotate_left
  ·skip
   have HF:=h_ (show V=decide (m≤16) by rw[←HV.out,insS_12 HU.out];rw[HR.out,HQ.out,decide_eq_true h3];rfl);go_wp2;go_ret;exact⟨by rw[HF.out]<;>rfl,HB.out⟩
  have HF:=h_ (show V=true by rw[←HV.out,insS_12 HU.out];rw[HR.out,HQ.out,decide_eq_true h3,decide_eq_true h4];rfl);go_wp2;go_ret;exact⟨by rw[HF.out]<;>rfl,HB.out⟩
 ·skip
  have HF:=h_ (show V=true by rw[←HV.out];rw[insS_13 HU.out]);go_wp2;go_ret;exact⟨by rw[HF.out]<;>rfl,HB.out⟩
 ·skip
  have HF:=h_ (show V=true by rw[←HV.out];rw[insS_14 HU.out]);go_wp2;go_ret;exact⟨by rw[HF.out]<;>rfl,HB.out⟩
theorem Bx.c3{b:Nat}{u0 u1 u2:Value}{T:TypeId}{W:World}(h:Bx b #[u0,u1,u2] T W):W.cell? ⟨b,0,none⟩=some u0∧W.cell? ⟨b,1,none⟩=some u1∧W.cell? ⟨b,2,none⟩=some u2:=⟨h.cell 0,h.cell 1,h.cell 2⟩
theorem Bx.c5{b:Nat}{u0 u1 u2 u3 u4:Value}{T:TypeId}{W:World}(h:Bx b #[u0,u1,u2,u3,u4] T W):W.cell? ⟨b,0,none⟩=some u0∧W.cell? ⟨b,1,none⟩=some u1∧W.cell? ⟨b,2,none⟩=some u2∧W.cell? ⟨b,3,none⟩=some u3∧W.cell? ⟨b,4,none⟩=some u4:=⟨h.cell 0,h.cell 1,h.cell 2,h.cell 3,h.cell 4⟩
theorem boxes2(w:World)(A:Array Value)(S:TypeId)(B:Array Value)(T:TypeId):∃v0,(w.alloc (.cells A S)).alloc (.cells B T)=v0∧Below w.heap.size w v0∧Bx w.heap.size A S v0∧Bx (w.heap.size+1) B T v0:=by
 refine⟨_,rfl,((Below.refl w.heap.size w).alloc (Nat.le_refl _) _).alloc (by simp) _,(Bx.new w A S).alloc _,?_⟩;have h:=Bx.new (w.alloc (.cells A S)) B T;rw[show (w.alloc (.cells A S)).heap.size=w.heap.size+1 by simp]at h;exact h
theorem boxes1(w:World)(A:Array Value)(S:TypeId):∃v0,w.alloc (.cells A S)=v0∧Below w.heap.size w v0∧Bx w.heap.size A S v0:=⟨_,rfl,(Below.refl w.heap.size w).alloc (Nat.le_refl _) _,Bx.new w A S⟩
theorem uses_out(op:Int)(h:op<1∨14<op)(w:World):
  Calls prog 98 #[.int .i64 op] w fun e w'=>e=.returned (.tuple #[.bool false,.bool false,.bool false,.bool false])∧w'=w:=by
 have t1:(op==1)=false:=by rw[beq_eq_false_iff_ne];omega
 have t2:(op==2)=false:=by rw[beq_eq_false_iff_ne];omega
 have t3:(op==3)=false:=by rw[beq_eq_false_iff_ne];omega
 have t4:(op==4)=false:=by rw[beq_eq_false_iff_ne];omega
 have t5:(op==5)=false:=by rw[beq_eq_false_iff_ne];omega
 have t6:(op==6)=false:=by rw[beq_eq_false_iff_ne];omega
 have t7:(op==7)=false:=by rw[beq_eq_false_iff_ne];omega
 have t11:(op==11)=false:=by rw[beq_eq_false_iff_ne];omega
 have t12:(op==12)=false:=by rw[beq_eq_false_iff_ne];omega
 clear h;go_enter func98,ntmps98;go_wp2;refine bodyPost_ret (v:=.tuple #[.bool false,.bool false,.bool false,.bool false]) (by simp[results,results98,go_sem]) rfl ?_;exact⟨rfl,rfl⟩
theorem Rfields_any(pa ia:Option Addr)(pn pc n ic:Nat)(sl:Int)(x:Ins)(hl:x.s.length≤9223372036854775807)(w:World):
  Calls prog 69 #[.agg #[.slice pa pn pc,.int .i64 sl,.slice ia n ic],.agg (insV x)] w fun e w'=>e=.returned (.bool (insS sl (n:Int) x))∧Below w.heap.size w w':=by
 obtain⟨op,a,b,m,s⟩:=x;simp only at hl;simp only[insV];obtain⟨V,hV⟩:=ex_ (insS sl (n:Int) ⟨op,a,b,m,s⟩);rw[hV];have HV:=h_ hV;clear hV;obtain⟨nm,hnm⟩:=ex_ (nameS op);have HN:=h_ hnm;clear hnm;obtain⟨v0,hW0,hb0,hc0,hx0⟩:=boxes2 w #[.slice pa pn pc,.int .i64 sl,.slice ia n ic] 25 #[.int .i64 op,.int .i64 a,.int .i64 b,.int .i64 m,.string (bs s)] 45;have HW:=h_ hW0;have HB:=h_ hb0;have HC:=h_ hc0;have HX:=h_ hx0;clear hW0 hb0 hc0 hx0;go_enter func69,ntmps69;go_upto_region 1 with (fail);rw[HW.out];clear HW;obtain⟨c0,c1,c2⟩:=HC.out.c3;obtain⟨x0,x1,x2,x3,x4⟩:=HX.out.c5;by_cases h1:op<1∨14<op
 ·have hn0:nm=[]:=HN.out.symm.trans (nameS_out (op:=op) h1)
  subst hn0;have HF:=h_ (show V=false from HV.out.symm.trans (h1.elim (fun h=>insS_lo h) fun h=>insS_hi h));have HO:=h_ h1;clear h1;go_wp2_with fail;refine(uses_out op HO.out _).mono ?_;rintro er w1 ⟨rfl,rfl⟩;go_wp2_with fail;refine(RName_any op _).mono ?_;rw[HN.out];rintro er w2 ⟨rfl,hb1⟩;clear c0 c1 c2 x0 x1 x2 x3 x4;have HC:=HC.out.k hb1;have HX:=HX.out.k hb1;have HB:=bt HB hb1;clear hb1;obtain⟨c0,c1,c2⟩:=HC.out.c3;obtain⟨x0,x1,x2,x3,x4⟩:=HX.out.c5;go_wp2;go_ret;exact⟨by first|(rw[HF.out]<;>rfl)|(rw[HF.out,HG.out]<;>rfl),HB.out⟩
 obtain⟨hq1,hq2⟩:1≤op∧op≤14:=by omega
 have tn:(nm==[])=false:=by rw[beq_eq_false_iff_ne,←HN.out];exact nameS_ne (by omega) (by omega)
 clear h1;go_wp2_with fail;refine(uses_any op hq1 hq2 _).mono ?_;rintro er w1 ⟨rfl,rfl⟩;go_wp2_with fail;refine(RName_any op _).mono ?_;rw[HN.out];rintro er w2 ⟨rfl,hb1⟩;clear c0 c1 c2 x0 x1 x2 x3 x4;have HC:=HC.out.k hb1;have HX:=HX.out.k hb1;have HB:=bt HB hb1;clear hb1;obtain⟨c0,c1,c2⟩:=HC.out.c3;obtain⟨x0,x1,x2,x3,x4⟩:=HX.out.c5;clear HN;have hgrp:=grp_any hq1 hq2;by_cases hun:unuS ⟨op,a,b,m,s⟩=true;rotate_left
 ·have HF:=h_ (show V=false from HV.out.symm.trans (insS_un (by simpa using hun)))
  clear hq1 hq2;rcases hgrp with h|h|h|h|h
  ·obtain⟨-,hA,hB,hN,hS⟩:=h
   rw[hA,hB,hN,hS];by_cases ea:a=0;rotate_left
   ·have ta:(a != 0)=true:=by rw[bne_iff_ne];exact ea
    clear hun ea hA hB hN hS;go_wp2;go_ret;exact⟨by first|(rw[HF.out]<;>rfl)|(rw[HF.out,HG.out]<;>rfl),HB.out⟩
   subst ea;by_cases eb:b=0;rotate_left
   ·have tb:(b != 0)=true:=by rw[bne_iff_ne];exact eb
    clear hun eb hA hB hN hS;go_wp2;go_ret;exact⟨by first|(rw[HF.out]<;>rfl)|(rw[HF.out,HG.out]<;>rfl),HB.out⟩
   subst eb;by_cases es:s=[];rotate_left
   ·have ts:(!s.isEmpty)=true:=by cases s<;>simp_all
    clear hun es hA hB hN hS;go_wp2;go_ret;exact⟨by first|(rw[HF.out]<;>rfl)|(rw[HF.out,HG.out]<;>rfl),HB.out⟩
   subst es;exact absurd (by unfold unuS;simp[hA,hB,hN,hS]) hun
  ·obtain⟨-,hA,hB,hN,hS⟩:=h
   rw[hA,hB,hN,hS];by_cases ea:a=0;rotate_left
   ·have ta:(a != 0)=true:=by rw[bne_iff_ne];exact ea
    clear hun ea hA hB hN hS;go_wp2;go_ret;exact⟨by first|(rw[HF.out]<;>rfl)|(rw[HF.out,HG.out]<;>rfl),HB.out⟩
   subst ea;by_cases eb:b=0;rotate_left
   ·have tb:(b != 0)=true:=by rw[bne_iff_ne];exact eb
    clear hun eb hA hB hN hS;go_wp2;go_ret;exact⟨by first|(rw[HF.out]<;>rfl)|(rw[HF.out,HG.out]<;>rfl),HB.out⟩
   subst eb;by_cases em:m=0;rotate_left
   ·have tm:(m != 0)=true:=by rw[bne_iff_ne];exact em
    clear hun em hA hB hN hS;go_wp2;go_ret;exact⟨by first|(rw[HF.out]<;>rfl)|(rw[HF.out,HG.out]<;>rfl),HB.out⟩
   subst em;exact absurd (by unfold unuS;simp[hA,hB,hN,hS]) hun
  ·obtain⟨-,hA,hB,hN,hS⟩:=h
   rw[hA,hB,hN,hS];by_cases es:s=[];rotate_left
   ·have ts:(!s.isEmpty)=true:=by cases s<;>simp_all
    clear hun es hA hB hN hS;go_wp2;go_ret;exact⟨by first|(rw[HF.out]<;>rfl)|(rw[HF.out,HG.out]<;>rfl),HB.out⟩
   subst es;exact absurd (by unfold unuS;simp[hA,hB,hN,hS]) hun
  ·obtain⟨-,hA,hB,hN,hS⟩:=h
   rw[hA,hB,hN,hS];by_cases eb:b=0;rotate_left
   ·have tb:(b != 0)=true:=by rw[bne_iff_ne];exact eb
    clear hun eb hA hB hN hS;go_wp2;go_ret;exact⟨by first|(rw[HF.out]<;>rfl)|(rw[HF.out,HG.out]<;>rfl),HB.out⟩
   subst eb;by_cases em:m=0;rotate_left
   ·have tm:(m != 0)=true:=by rw[bne_iff_ne];exact em
    clear hun em hA hB hN hS;go_wp2;go_ret;exact⟨by first|(rw[HF.out]<;>rfl)|(rw[HF.out,HG.out]<;>rfl),HB.out⟩
   subst em;by_cases es:s=[];rotate_left
   ·have ts:(!s.isEmpty)=true:=by cases s<;>simp_all
    clear hun es hA hB hN hS;go_wp2;go_ret;exact⟨by first|(rw[HF.out]<;>rfl)|(rw[HF.out,HG.out]<;>rfl),HB.out⟩
   subst es;exact absurd (by unfold unuS;simp[hA,hB,hN,hS]) hun
  ·obtain⟨-,hA,hB,hN,hS⟩:=h
   rw[hA,hB,hN,hS];by_cases ea:a=0;rotate_left
   ·have ta:(a != 0)=true:=by rw[bne_iff_ne];exact ea
    clear hun ea hA hB hN hS;go_wp2;go_ret;exact⟨by first|(rw[HF.out]<;>rfl)|(rw[HF.out,HG.out]<;>rfl),HB.out⟩
   subst ea;by_cases eb:b=0;rotate_left
   ·have tb:(b != 0)=true:=by rw[bne_iff_ne];exact eb
    clear hun eb hA hB hN hS;go_wp2;go_ret;exact⟨by first|(rw[HF.out]<;>rfl)|(rw[HF.out,HG.out]<;>rfl),HB.out⟩
   subst eb;by_cases em:m=0;rotate_left
   ·have tm:(m != 0)=true:=by rw[bne_iff_ne];exact em
    clear hun em hA hB hN hS;go_wp2;go_ret;exact⟨by first|(rw[HF.out]<;>rfl)|(rw[HF.out,HG.out]<;>rfl),HB.out⟩
   subst em;by_cases es:s=[];rotate_left
   ·have ts:(!s.isEmpty)=true:=by cases s<;>simp_all
    clear hun es hA hB hN hS;go_wp2;go_ret;exact⟨by first|(rw[HF.out]<;>rfl)|(rw[HF.out,HG.out]<;>rfl),HB.out⟩
   subst es;exact absurd (by unfold unuS;simp[hA,hB,hN,hS]) hun
 clear hgrp
 have hop:op=1∨op=2∨op=3∨op=4∨op=5∨op=6∨op=7∨op=8∨op=9∨op=10∨op=11∨op=12∨op=13∨op=14:=by omega
 clear hq1 hq2;rcases hop with rfl|rfl|rfl|rfl|rfl|rfl|rfl|rfl|rfl|rfl|rfl|rfl|rfl|rfl
 ·have HU:=h_ hun;unfold unuS at hun
  simp[uA,uB,uN,uS]at hun;obtain⟨rfl,rfl,rfl⟩:=hun;rw[show uA 1=false from rfl,show uB 1=false from rfl,show uN 1=true from rfl,show uS 1=false from rfl];have HF:=h_ (show V=true by rw[←HV.out,insS_1 HU.out]);go_wp2;go_ret;exact⟨by first|(rw[HF.out]<;>rfl)|(rw[HF.out,HG.out]<;>rfl),HB.out⟩
 ·have HU:=h_ hun;unfold unuS at hun
  simp[uA,uB,uN,uS]at hun;obtain⟨rfl,rfl,rfl⟩:=hun;rw[show uA 2=false from rfl,show uB 2=false from rfl,show uN 2=false from rfl,show uS 2=true from rfl];obtain⟨R,hR⟩:=ex_ (s.all okc);have HR:=h_ hR;clear hR;by_cases h4:s.length≤64;rotate_left
  ·have h4':¬(s.length:Int)≤64:=by omega
   have HG:=h_ (show false=decide ((s.length:Int)≤64) from(decide_eq_false (by omega)).symm);have HF:=h_ (show V=decide ((s.length:Int)≤64) by rw[←HV.out,insS_2 HU.out];unfold plainS;rw[decide_eq_false h4,decide_eq_false h4',Bool.and_false]);go_wp2;go_ret;exact⟨by first|(rw[HF.out]<;>rfl)|(rw[HF.out,HG.out]<;>rfl),HB.out⟩
  have h4':(s.length:Int)≤64:=by omega
  have HF:=h_ (show V=R by rw[←HV.out,insS_2 HU.out];unfold plainS;rw[decide_eq_true h4,Bool.and_true];exact HR.out);go_wp2_with fail;refine(Printable_any s hl _).mono ?_;rw[HR.out];rintro er w3 ⟨rfl,rfl⟩;go_wp2;go_ret;exact⟨by first|(rw[HF.out]<;>rfl)|(rw[HF.out,HG.out]<;>rfl),HB.out⟩
 ·have HU:=h_ hun;unfold unuS at hun
  simp[uA,uB,uN,uS]at hun;obtain⟨rfl,rfl,rfl⟩:=hun;rw[show uA 3=true from rfl,show uB 3=false from rfl,show uN 3=false from rfl,show uS 3=false from rfl];by_cases h3:0≤a;rotate_left
  ·skip
   have HG:=h_ (show false=decide (0≤a) from(decide_eq_false (by omega)).symm);have HF:=h_ (show V=decide (0≤a) by rw[←HV.out,insS_3 HU.out];exact(inR_lo h3).trans (decide_eq_false h3).symm);go_wp2;go_ret;exact⟨by first|(rw[HF.out]<;>rfl)|(rw[HF.out,HG.out]<;>rfl),HB.out⟩
  by_cases h4:a<sl;rotate_left
  ·skip
   have HG:=h_ (show false=decide (a<sl) from(decide_eq_false (by omega)).symm);have HF:=h_ (show V=decide (a<sl) by rw[←HV.out,insS_3 HU.out];exact(inR_hi h4).trans (decide_eq_false h4).symm);go_wp2;go_ret;exact⟨by first|(rw[HF.out]<;>rfl)|(rw[HF.out,HG.out]<;>rfl),HB.out⟩
  have HF:=h_ (show V=true by rw[←HV.out,insS_3 HU.out];exact inR_ok h3 h4);go_wp2;go_ret;exact⟨by first|(rw[HF.out]<;>rfl)|(rw[HF.out,HG.out]<;>rfl),HB.out⟩
 ·have HU:=h_ hun;unfold unuS at hun
  simp[uA,uB,uN,uS]at hun;obtain⟨rfl,rfl,rfl⟩:=hun;rw[show uA 4=true from rfl,show uB 4=false from rfl,show uN 4=false from rfl,show uS 4=false from rfl];by_cases h3:0≤a;rotate_left
  ·skip
   have HG:=h_ (show false=decide (0≤a) from(decide_eq_false (by omega)).symm);have HF:=h_ (show V=decide (0≤a) by rw[←HV.out,insS_4 HU.out];exact(inR_lo h3).trans (decide_eq_false h3).symm);go_wp2;go_ret;exact⟨by first|(rw[HF.out]<;>rfl)|(rw[HF.out,HG.out]<;>rfl),HB.out⟩
  by_cases h4:a<sl;rotate_left
  ·skip
   have HG:=h_ (show false=decide (a<sl) from(decide_eq_false (by omega)).symm);have HF:=h_ (show V=decide (a<sl) by rw[←HV.out,insS_4 HU.out];exact(inR_hi h4).trans (decide_eq_false h4).symm);go_wp2;go_ret;exact⟨by first|(rw[HF.out]<;>rfl)|(rw[HF.out,HG.out]<;>rfl),HB.out⟩
  have HF:=h_ (show V=true by rw[←HV.out,insS_4 HU.out];exact inR_ok h3 h4);go_wp2;go_ret;exact⟨by first|(rw[HF.out]<;>rfl)|(rw[HF.out,HG.out]<;>rfl),HB.out⟩
 ·have HU:=h_ hun;unfold unuS at hun
  simp[uA,uB,uN,uS]at hun;obtain⟨rfl,rfl,rfl⟩:=hun;rw[show uA 5=true from rfl,show uB 5=false from rfl,show uN 5=false from rfl,show uS 5=false from rfl];obtain⟨R,hR⟩:=ex_ (arS a);have HR:=h_ hR;clear hR;by_cases h3:1≤R
  ·skip
   have HF:=h_ (show V=true by rw[←HV.out,insS_5 HU.out];rw[HR.out];exact decide_eq_true h3);go_wp2_with fail;refine(RArity_any a _).mono ?_;rw[HR.out];rintro er w3 ⟨rfl,rfl⟩;go_wp2;go_ret;exact⟨by first|(rw[HF.out]<;>rfl)|(rw[HF.out,HG.out]<;>rfl),HB.out⟩
  have HG:=h_ (show false=decide (1≤R) from(decide_eq_false (by omega)).symm);have HF:=h_ (show V=decide (1≤R) by rw[←HV.out,insS_5 HU.out];rw[HR.out]);go_wp2_with fail;refine(RArity_any a _).mono ?_;rw[HR.out];rintro er w3 ⟨rfl,rfl⟩;go_wp2;go_ret;exact⟨by first|(rw[HF.out]<;>rfl)|(rw[HF.out,HG.out]<;>rfl),HB.out⟩
 ·have HU:=h_ hun;unfold unuS at hun
  simp[uA,uB,uN,uS]at hun;obtain⟨rfl,rfl,rfl⟩:=hun;rw[show uA 6=true from rfl,show uB 6=false from rfl,show uN 6=false from rfl,show uS 6=false from rfl];by_cases h3:0≤a;rotate_left
  ·skip
   have HG:=h_ (show false=decide (0≤a) from(decide_eq_false (by omega)).symm);have HF:=h_ (show V=decide (0≤a) by rw[←HV.out,insS_6 HU.out];exact(inR_lo h3).trans (decide_eq_false h3).symm);go_wp2;go_ret;exact⟨by first|(rw[HF.out]<;>rfl)|(rw[HF.out,HG.out]<;>rfl),HB.out⟩
  by_cases h4:a<(n:Int);rotate_left
  ·skip
   have HG:=h_ (show false=decide (a<(n:Int)) from(decide_eq_false (by omega)).symm);have HF:=h_ (show V=decide (a<(n:Int)) by rw[←HV.out,insS_6 HU.out];exact(inR_hi h4).trans (decide_eq_false h4).symm);go_wp2;go_ret;exact⟨by first|(rw[HF.out]<;>rfl)|(rw[HF.out,HG.out]<;>rfl),HB.out⟩
  have HF:=h_ (show V=true by rw[←HV.out,insS_6 HU.out];exact inR_ok h3 h4);go_wp2;go_ret;exact⟨by first|(rw[HF.out]<;>rfl)|(rw[HF.out,HG.out]<;>rfl),HB.out⟩
 ·have HU:=h_ hun;unfold unuS at hun
  simp[uA,uB,uN,uS]at hun;obtain⟨rfl,rfl,rfl⟩:=hun;rw[show uA 7=true from rfl,show uB 7=false from rfl,show uN 7=false from rfl,show uS 7=false from rfl];by_cases h3:0≤a;rotate_left
  ·skip
   have HG:=h_ (show false=decide (0≤a) from(decide_eq_false (by omega)).symm);have HF:=h_ (show V=decide (0≤a) by rw[←HV.out,insS_7 HU.out];exact(inR_lo h3).trans (decide_eq_false h3).symm);go_wp2;go_ret;exact⟨by first|(rw[HF.out]<;>rfl)|(rw[HF.out,HG.out]<;>rfl),HB.out⟩
  by_cases h4:a<(n:Int);rotate_left
  ·skip
   have HG:=h_ (show false=decide (a<(n:Int)) from(decide_eq_false (by omega)).symm);have HF:=h_ (show V=decide (a<(n:Int)) by rw[←HV.out,insS_7 HU.out];exact(inR_hi h4).trans (decide_eq_false h4).symm);go_wp2;go_ret;exact⟨by first|(rw[HF.out]<;>rfl)|(rw[HF.out,HG.out]<;>rfl),HB.out⟩
  have HF:=h_ (show V=true by rw[←HV.out,insS_7 HU.out];exact inR_ok h3 h4);go_wp2;go_ret;exact⟨by first|(rw[HF.out]<;>rfl)|(rw[HF.out,HG.out]<;>rfl),HB.out⟩
 ·have HU:=h_ hun;unfold unuS at hun
  simp[uA,uB,uN,uS]at hun;obtain⟨rfl,rfl,rfl,rfl⟩:=hun;rw[show uA 8=false from rfl,show uB 8=false from rfl,show uN 8=false from rfl,show uS 8=false from rfl];have HF:=h_ (show V=true by rw[←HV.out,insS_8 HU.out]);go_wp2;go_ret;exact⟨by first|(rw[HF.out]<;>rfl)|(rw[HF.out,HG.out]<;>rfl),HB.out⟩
 ·have HU:=h_ hun;unfold unuS at hun
  simp[uA,uB,uN,uS]at hun;obtain⟨rfl,rfl,rfl,rfl⟩:=hun;rw[show uA 9=false from rfl,show uB 9=false from rfl,show uN 9=false from rfl,show uS 9=false from rfl];have HF:=h_ (show V=true by rw[←HV.out,insS_9 HU.out]);go_wp2;go_ret;exact⟨by first|(rw[HF.out]<;>rfl)|(rw[HF.out,HG.out]<;>rfl),HB.out⟩
 ·have HU:=h_ hun;unfold unuS at hun
  simp[uA,uB,uN,uS]at hun;obtain⟨rfl,rfl,rfl,rfl⟩:=hun;rw[show uA 10=false from rfl,show uB 10=false from rfl,show uN 10=false from rfl,show uS 10=false from rfl];have HF:=h_ (show V=true by rw[←HV.out,insS_10 HU.out]);go_wp2;go_ret;exact⟨by first|(rw[HF.out]<;>rfl)|(rw[HF.out,HG.out]<;>rfl),HB.out⟩
 ·have HU:=h_ hun;unfold unuS at hun
  simp[uA,uB,uN,uS]at hun;obtain⟨rfl,rfl,rfl⟩:=hun;rw[show uA 11=true from rfl,show uB 11=false from rfl,show uN 11=false from rfl,show uS 11=false from rfl];by_cases h3:0≤a;rotate_left
  ·skip
   have HG:=h_ (show false=decide (0≤a) from(decide_eq_false (by omega)).symm);have HF:=h_ (show V=decide (0≤a) by rw[←HV.out,insS_11 HU.out];exact(inR_lo h3).trans (decide_eq_false h3).symm);go_wp2;go_ret;exact⟨by first|(rw[HF.out]<;>rfl)|(rw[HF.out,HG.out]<;>rfl),HB.out⟩
  by_cases h4:a≤999;rotate_left
  ·skip
   have HG:=h_ (show false=decide (a≤999) from(decide_eq_false (by omega)).symm);have HF:=h_ (show V=decide (a≤999) by rw[←HV.out,insS_11 HU.out];exact(inR_hi (by omega)).trans (decide_eq_false h4).symm);go_wp2;go_ret;exact⟨by first|(rw[HF.out]<;>rfl)|(rw[HF.out,HG.out]<;>rfl),HB.out⟩
  have HF:=h_ (show V=true by rw[←HV.out,insS_11 HU.out];exact inR_ok h3 (by omega));go_wp2;go_ret;exact⟨by first|(rw[HF.out]<;>rfl)|(rw[HF.out,HG.out]<;>rfl),HB.out⟩
 ·have HU:=h_ hun;unfold unuS at hun
  simp[uA,uB,uN,uS]at hun;subst hun;rw[show uA 12=true from rfl,show uB 12=true from rfl,show uN 12=true from rfl,show uS 12=false from rfl];by_cases h3:0≤a;rotate_left
  ·skip
   have HG:=h_ (show false=decide (0≤a) from(decide_eq_false (by omega)).symm);have HF:=h_ (show V=decide (0≤a) by rw[←HV.out,insS_12 HU.out];rw[inR_lo h3,decide_eq_false h3];rfl);go_wp2;go_ret;exact⟨by first|(rw[HF.out]<;>rfl)|(rw[HF.out,HG.out]<;>rfl),HB.out⟩
  by_cases h4:a<sl;rotate_left
  ·skip
   have HG:=h_ (show false=decide (a<sl) from(decide_eq_false (by omega)).symm);have HF:=h_ (show V=decide (a<sl) by rw[←HV.out,insS_12 HU.out];rw[inR_hi h4,decide_eq_false h4];rfl);go_wp2;go_ret;exact⟨by first|(rw[HF.out]<;>rfl)|(rw[HF.out,HG.out]<;>rfl),HB.out⟩
  by_cases h5:0≤b;rotate_left
  ·skip
   have HG:=h_ (show false=decide (0≤b) from(decide_eq_false (by omega)).symm);have HF:=h_ (show V=decide (0≤b) by rw[←HV.out,insS_12 HU.out];rw[inR_ok h3 h4,inR_lo h5,decide_eq_false h5];rfl);go_wp2;go_ret;exact⟨by first|(rw[HF.out]<;>rfl)|(rw[HF.out,HG.out]<;>rfl),HB.out⟩
  by_cases h6:b<sl;rotate_left
  ·skip
   have HG:=h_ (show false=decide (b<sl) from(decide_eq_false (by omega)).symm);have HF:=h_ (show V=decide (b<sl) by rw[←HV.out,insS_12 HU.out];rw[inR_ok h3 h4,inR_hi h6,decide_eq_false h6];rfl);go_wp2;go_ret;exact⟨by first|(rw[HF.out]<;>rfl)|(rw[HF.out,HG.out]<;>rfl),HB.out⟩
  by_cases h7:1≤m;rotate_left
  ·skip
   have HG:=h_ (show false=decide (1≤m) from(decide_eq_false (by omega)).symm);have HF:=h_ (show V=decide (1≤m) by rw[←HV.out,insS_12 HU.out];rw[inR_ok h3 h4,inR_ok h5 h6,decide_eq_false h7];rfl);go_wp2;go_ret;exact⟨by first|(rw[HF.out]<;>rfl)|(rw[HF.out,HG.out]<;>rfl),HB.out⟩
  by_cases h8:m≤16;rotate_left
  ·skip
   have HG:=h_ (show false=decide (m≤16) from(decide_eq_false (by omega)).symm);have HF:=h_ (show V=decide (m≤16) by rw[←HV.out,insS_12 HU.out];rw[inR_ok h3 h4,inR_ok h5 h6,decide_eq_true h7];rfl);go_wp2;go_ret;exact⟨by first|(rw[HF.out]<;>rfl)|(rw[HF.out,HG.out]<;>rfl),HB.out⟩
  have HF:=h_ (show V=true by rw[←HV.out,insS_12 HU.out];rw[inR_ok h3 h4,inR_ok h5 h6,decide_eq_true h7,decide_eq_true h8];rfl);go_wp2;go_ret;exact⟨by first|(rw[HF.out]<;>rfl)|(rw[HF.out,HG.out]<;>rfl),HB.out⟩
 ·have HU:=h_ hun;unfold unuS at hun
  simp[uA,uB,uN,uS]at hun;obtain⟨rfl,rfl,rfl,rfl⟩:=hun;rw[show uA 13=false from rfl,show uB 13=false from rfl,show uN 13=false from rfl,show uS 13=false from rfl];have HF:=h_ (show V=true by rw[←HV.out,insS_13 HU.out]);go_wp2;go_ret;exact⟨by first|(rw[HF.out]<;>rfl)|(rw[HF.out,HG.out]<;>rfl),HB.out⟩
 ·have HU:=h_ hun;unfold unuS at hun
  simp[uA,uB,uN,uS]at hun;obtain⟨rfl,rfl,rfl,rfl⟩:=hun;rw[show uA 14=false from rfl,show uB 14=false from rfl,show uN 14=false from rfl,show uS 14=false from rfl];have HF:=h_ (show V=true by rw[←HV.out,insS_14 HU.out]);go_wp2;go_ret;exact⟨by first|(rw[HF.out]<;>rfl)|(rw[HF.out,HG.out]<;>rfl),HB.out⟩
theorem infoInt:(prog.info? 3).map (fun i=>(i.zero,i.size,i.bytes))=some (some (.int .i64 0),1,8):=by kernel_rfl
theorem insLs_length(L:List Ins):(insLs L).length=L.length * 5:=by
 unfold insLs
 induction L with
 | nil=>rfl
 | cons x r ih=>rw[List.flatMap_cons,List.length_append,ih,List.length_cons];show 5+_=_;omega
theorem intsL_length(L:List Int):(intsL L).length=L.length:=List.length_map ..
theorem intsL_snoc(L:List Int)(x:Int):intsL (L++[x])=intsL L++[.int .i64 x]:=by unfold intsL;rw[List.map_append];rfl
theorem insLs_get:∀(M:List Ins) (k:Nat) (h:k<M.length),(insLs M)[k * 5]? = some (.int .i64 M[k].op)∧(insLs M)[k * 5+1]? = some (.int .i64 M[k].a)∧(insLs M)[k * 5+2]? = some (.int .i64 M[k].b)∧(insLs M)[k * 5+3]? = some (.int .i64 M[k].n)∧(insLs M)[k * 5+4]? = some (.string (bs M[k].s))
 | [],k,h=>by simp at h
 | x::r,0,h=>⟨rfl,rfl,rfl,rfl,rfl⟩
 | x::r,k+1,h=>by
  have ih:=insLs_get r k (by simpa using h)
  have e:∀j,(insLs (x::r))[j+5]? = (insLs r)[j]?:=fun j=>by
   show (insL x++insLs r)[j+5]? = _;rw[List.getElem?_append_right (by show 5≤_;omega)];rfl
  refine⟨?_,?_,?_,?_,?_⟩
  ·rw[show (k+1) * 5=k * 5+5 by omega,e];exact ih.1
  ·rw[show (k+1) * 5+1=(k * 5+1)+5 by omega,e];exact ih.2.1
  ·rw[show (k+1) * 5+2=(k * 5+2)+5 by omega,e];exact ih.2.2.1
  ·rw[show (k+1) * 5+3=(k * 5+3)+5 by omega,e];exact ih.2.2.2.1
  ·rw[show (k+1) * 5+4=(k * 5+4)+5 by omega,e];exact ih.2.2.2.2
theorem ins_cells{W:World}{ad:Option Addr}{n cap:Nat}{M:List Ins}(h:CellsAt W (.slice ad n cap) n (insLs M)){k:Nat}(hk:k<M.length):∃b off,ad=some ⟨b,off,none⟩∧W.cell? ⟨b,off+k * 5,none⟩=some (.int .i64 M[k].op)∧W.cell? ⟨b,off+k * 5+1,none⟩=some (.int .i64 M[k].a)∧W.cell? ⟨b,off+k * 5+2,none⟩=some (.int .i64 M[k].b)∧W.cell? ⟨b,off+k * 5+3,none⟩=some (.int .i64 M[k].n)∧W.cell? ⟨b,off+k * 5+4,none⟩=some (.string (bs M[k].s)):=by
 obtain⟨a,c,hs,hc⟩:=h;obtain⟨b,off,ha,hcell⟩:=hc (by intro e;have:=insLs_length M;rw[e]at this;simp at this;omega);cases hs;obtain⟨h1,h2,h3,h4,h5⟩:=insLs_get M k hk;exact⟨b,off,ha,hcell _ _ h1,by have:=hcell _ _ h2;rwa [←Nat.add_assoc]at this,by have:=hcell _ _ h3;rwa [←Nat.add_assoc]at this,by have:=hcell _ _ h4;rwa [←Nat.add_assoc]at this,by have:=hcell _ _ h5;rwa [←Nat.add_assoc]at this⟩
theorem int_cells{W:World}{ad:Option Addr}{n cap:Nat}{M:List Int}(h:CellsAt W (.slice ad n cap) n (intsL M)){k:Nat}(hk:k<M.length):∃b off,ad=some ⟨b,off,none⟩∧W.cell? ⟨b,off+k,none⟩=some (.int .i64 M[k]):=by
 obtain⟨a,c,hs,hc⟩:=h;obtain⟨b,off,ha,hcell⟩:=hc (by intro e;have:=intsL_length M;rw[e]at this;simp at this;omega);cases hs;exact⟨b,off,ha,hcell k _ (by unfold intsL;rw[List.getElem?_map,List.getElem?_eq_getElem hk];rfl)⟩
theorem cellsAt_int(w:World)(x:Int):CellsAt (w.alloc (.cells #[.int .i64 x] 3)) (.slice (some ⟨w.heap.size,0,none⟩) 1 1) 1 [.int .i64 x]:=by
 refine⟨_,_,rfl,fun _=>⟨_,_,rfl,fun j y hj=>?_⟩⟩;rw[Nat.zero_add];have h:=(Bx.new w #[.int .i64 x] 3).cell j;rw[h];rcases j with _|j
 ·exact hj
 ·simp at hj
theorem wpList_append_int{w1:World}{ops:Array Oper}{rest:List Oper}{o:Oper}{a:Act}{Q:Exit→Act→World→Prop}(hgd:o.guard=none)(s x:Operand)
  (ho:o.op=.call { callee:=.builtin .append,args:=#[s,x],argTypes:=#[22,22] }) (B:Nat) (v:Value) (L:List Int) (y:Int) (hown:w1.ownsRow B 3 1 v L.length (intsL L))
  (hs:a.eval s=v) (hx:a.eval x=.slice (some ⟨w1.heap.size,0,none⟩) 1 1) (hlen:L.length≤1000000) (W0:World) (B0:Nat) (hbel:Below B0 W0 w1) (hB:B≤w1.heap.size) (hB0:B0≤B)
  (h:∀v' w',w'.ownsRow B 3 1 v' (L++[y]).length (intsL (L++[y]))→Below B0 W0 w'→w1.grownBy w' v.ownBlock→wpList prog ops Q rest (a.put o.dst v') w'):
  wpList prog ops Q (o::rest) a (w1.alloc (.cells #[.int .i64 y] 3)):=by
 obtain⟨i0,hi,hz0,hz1,hz2⟩:=info_parts infoInt
 refine wpList_append_any hgd s x 22 ho B 3 i0 (.int .i64 0) 1 8 underlying22 hi hz0 hz1 hz2 rfl (by decide) v _ L.length 1 (intsL L) [.int .i64 y] hs (hown.alloc _) hx (cellsAt_int w1 y) rfl
  (by intro u hu;simp only[List.mem_cons,List.not_mem_nil,or_false]at hu;subst hu;rfl) (by unfold maxLen;omega) (by omega) W0 B0 (hbel.alloc (Nat.le_trans hB0 hB) _) (by simp;omega) hB0 ?_
 intro v2 w2 hown2 hb2 hgrow;refine h v2 w2 (by rw[intsL_snoc,List.length_append];exact hown2) hb2 ?_;exact⟨hgrow.os,hgrow.tape,hgrow.output,Nat.le_trans (by simp) hgrow.size,fun k hk hne=>(hgrow.block k (by simp;omega) hne).trans ((World.grownBy_alloc w1 (.cells #[.int .i64 y] 3) none).block k hk (by simp))⟩
theorem own_intAt{W:World}{B:Nat}{v:Value}{L:List Int}(h:W.ownsRow B 3 1 v L.length (intsL L)):CellsAt W v L.length (intsL L):=by
 rcases own_form h with ⟨rfl,h0⟩|⟨g,cap,rfl,hc,_⟩
 ·have:L=[]:=List.eq_nil_of_length_eq_zero h0
  subst this;exact⟨none,0,rfl,fun hne=>absurd rfl hne⟩
 ·refine⟨_,cap,rfl,fun _=>⟨g,0,rfl,fun j u hj=>?_⟩⟩
  have h1:=h.cells (g:=g) rfl j u hj
  have e:(⟨g,0,none⟩:Addr).add j=⟨g,0+j,none⟩:=by unfold Addr.add;split<;>simp_all
  rw[e]at h1;exact h1
theorem own_nil(W:World)(B:Nat)(e:TypeId)(k:Nat):W.ownsRow B e k (.slice none 0 0) 0 []:=⟨by simp,.inl ⟨rfl,rfl⟩⟩
theorem Bx.grown{b:Nat}{cs:Array Value}{T e:TypeId}{W W':World}{B k n:Nat}{v:Value}{xs:List Value}(h:Bx b cs T W)(hg:W.grownBy W' v.ownBlock)(ho:W.ownsRow B e k v n xs)(hT:T≠e):Bx b cs T W':=by
 refine(hg.block b h.lt ?_).trans h;rcases own_form ho with ⟨rfl,_⟩|⟨g,cap,rfl,_,_⟩
 ·simp[Value.ownBlock]
 ·have:=own_other ho h hT
  simp[Value.ownBlock];omega
theorem dep_bad1{A:List Int}{d:Int}{l:List Ins}{k:Nat}{x:Ins}(hk:k<l.length)(hx:l[k]=x)(h:d<takeI x):depG A d (l.drop k)=([],false):=by
 rw[List.drop_eq_getElem_cons hk,hx];unfold depG;rw[if_pos h]
theorem dep_bad2{A:List Int}{d:Int}{l:List Ins}{k:Nat}{x:Ins}(hk:k<l.length)(hx:l[k]=x)(h:¬d<takeI x)(h2:badI d x=true):depG A d (l.drop k)=([],false):=by
 rw[List.drop_eq_getElem_cons hk,hx];unfold depG;rw[if_neg h,if_pos h2]
theorem dep_ok{A:List Int}{d:Int}{l:List Ins}{k:Nat}{x:Ins}(hk:k<l.length)(hx:l[k]=x)(h:¬d<takeI x)(h2:badI d x=false):depG A d (l.drop k)=depG (A++[d]) (behI d x) (l.drop (k+1)):=by
 rw[List.drop_eq_getElem_cons hk,hx];show (if _ then _ else if _ then _ else _)=_;rw[if_neg h,if_neg (by simp[h2])]
theorem takeI_rng(x:Ins):-1≤takeI x∧takeI x≤2:=by
 unfold takeI;split
 ·omega
 ·split
  ·omega
  ·split
   ·unfold arS
    split
    ·omega
    ·split
     ·omega
     ·split<;>omega
   ·omega
theorem putI_rng(x:Ins):0≤putI x∧putI x≤1:=by unfold putI;split<;>omega
theorem badI_false{d d2:Int}{x:Ins}(h:behI d x=d2)(h64:¬64<d2)(h0:d2=0∨(leaI x=false∧x.op≠7)):badI d x=false:=by
 unfold badI;rw[h,decide_eq_false h64];rcases h0 with rfl|⟨h1,h2⟩
 ·simp
 ·rw[h1,decide_eq_false h2];simp
theorem badI_true{d d2:Int}{x:Ins}(h:behI d x=d2)(h0:64<d2∨(d2≠0∧(leaI x=true∨x.op=7))):badI d x=true:=by
 unfold badI;rw[h];rcases h0 with h1|⟨h1,h2|h2⟩
 ·rw[decide_eq_true h1];rfl
 ·rw[h2];simp[h1]
 ·simp[h1,h2]
theorem depths_any(va:Value)(l:List Ins)(w:World)(hA:CellsAt w va l.length (insLs l))(hM:l.length≤4096):
  Calls prog 28 #[va] w fun e w'=>∃v,e=.returned (.tuple #[v,.bool (depG [] 0 l).2])∧CellsAt w' v (depG [] 0 l).1.length (intsL (depG [] 0 l).1)∧Below w.heap.size w w':=by
 obtain⟨aa,ca,rfl,-⟩:=id hA;obtain⟨⟨D,g⟩,hR⟩:∃R,depG [] 0 l=R:=⟨_,rfl⟩;rw[hR];have HQ:=h_ (show depG [] 0 (l.drop 0)=(D,g) from hR);have HA:=h_ hA;clear hR hA;have HZ:=h_ (own_nil w w.heap.size 3 1);go_enter func28,ntmps28;go_wp2;go_loopw [4,5,10] (fun v s5 i wr=>∃(k:Nat) (A:List Int) (d:Int),k≤l.length∧i=.int .i64 k∧s5=.int .i64 d∧A.length=k∧0≤d∧d≤64∧Hid (depG A d (l.drop k)=(D,g))∧Hid (wr.ownsRow w.heap.size 3 1 v A.length (intsL A))∧Below w.heap.size w wr) (fun _ _ i _=>l.length-(intOf i).toNat)
 case atStart=>exact⟨0,[],0,Nat.zero_le _,rfl,rfl,rfl,by omega,by omega,HQ,HZ,Below.refl _ _⟩
 case round =>
  obtain⟨k,A,d,hk,rfl,rfl,hAk,hd0,hd1,HQ2,HO,hB⟩:=hrel;clear HQ HZ;have HB:=h_ hB;clear hB;by_cases hlt:k<l.length
  ·have hlt':(k:Int)<(l.length:Int):=by omega
   have hw1:IntKind.i64.wrap ((k:Int)+1)=(k:Int)+1:=by rw[IntKind.wrap_i64];omega
   obtain⟨ba,oa,rfl,p0,p1,p2,p3,p4⟩:=ins_cells (HA.out.below HB.out) hlt;obtain⟨⟨op,a,b,n,s⟩,hxe⟩:∃x,l[k]=x:=⟨_,rfl⟩;rw[hxe]at p0 p1 p2 p3 p4;simp only at p0 p1 p2 p3 p4;have HXE:=h_ hxe;clear hxe;have hal:=(Below.refl wr.heap.size wr).alloc (Nat.le_refl _) (.cells #[.int .i64 op,.int .i64 a,.int .i64 b,.int .i64 n,.string (bs s)] 45);have HX:=h_ (Bx.new wr #[.int .i64 op,.int .i64 a,.int .i64 b,.int .i64 n,.string (bs s)] 45);have HB:=bt HB hal;have HO:=h_ (own_below HO.out hal);clear hal;go_upto_region 6 with (fail);clear p0 p1 p2 p3 p4;generalize hW:wr.alloc (.cells #[.int .i64 op,.int .i64 a,.int .i64 b,.int .i64 n,.string (bs s)] 45)=v1 at HX HB HO ⊢;clear hW;obtain⟨tk,htk⟩:=ex_ (takeI ⟨op,a,b,n,s⟩);obtain⟨pt,hpt⟩:=ex_ (putI ⟨op,a,b,n,s⟩);obtain⟨lv,hlv⟩:=ex_ (leaI ⟨op,a,b,n,s⟩);have htr:=takeI_rng ⟨op,a,b,n,s⟩;have hpr:=putI_rng ⟨op,a,b,n,s⟩;rw[htk]at htr;rw[hpt]at hpr;obtain⟨ht0,ht1⟩:=htr;obtain⟨hp0,hp1⟩:=hpr;have HTK:=h_ htk;have HPT:=h_ hpt;have HLV:=h_ hlv;clear htk hpt hlv;go_wp2_with (at_builtin;refine wpList_append_int rfl _ _ rfl w.heap.size _ A d HO.out rfl rfl (by omega) w w.heap.size HB.out HB.out.size (Nat.le_refl _) ?_;intro v5 w5 hown5 hb5 hg5;have HX:=h_ (HX.out.grown hg5 HO.out (by decide));have HB:=h_ hb5;have HO:=h_ hown5;clear hg5 hb5 hown5;have x0:w5.cell? ⟨wr.heap.size,0,none⟩=some (.int .i64 op):=HX.out.cell 0;have x1:w5.cell? ⟨wr.heap.size,1,none⟩=some (.int .i64 a):=HX.out.cell 1;have x2:w5.cell? ⟨wr.heap.size,2,none⟩=some (.int .i64 b):=HX.out.cell 2;have x3:w5.cell? ⟨wr.heap.size,3,none⟩=some (.int .i64 n):=HX.out.cell 3;have x4:w5.cell? ⟨wr.heap.size,4,none⟩=some (.string (bs s)):=HX.out.cell 4);have hcl:=takes_any ⟨op,a,b,n,s⟩;simp only[insV]at hcl;refine(hcl _).mono ?_;rw[HTK.out];clear hcl;rintro er w6 ⟨rfl,hb1⟩;clear x0 x1 x2 x3 x4;have HX:=HX.out.k hb1;have HB:=bt HB hb1;have HO:=h_ (own_below HO.out hb1);clear hb1;by_cases h1:d<tk
   ·skip
    have hT:([],false)=(D,g):=(dep_bad1 hlt HXE.out (by rw[HTK.out];exact h1)).symm.trans HQ2.out;have h1:D=[]:=(congrArg Prod.fst hT).symm;have h2:g=false:=(congrArg Prod.snd hT).symm;have H1:=h_ h1;have H2:=h_ h2;clear hT h1 h2;go_wp2;go_ret2;exact⟨_,by rw[H2.out]<;>rfl,by rw[H1.out];exact⟨none,0,rfl,fun h=>absurd rfl h⟩,HB.out⟩
   have HN1:=h_ h1
   have hw2:IntKind.i64.wrap (pt-tk)=pt-tk:=by rw[IntKind.wrap_i64];omega
   obtain⟨d2,hd2⟩:=ex_ (d+(pt-tk))
   have hw3:IntKind.i64.wrap (d+(pt-tk))=d2:=by rw[IntKind.wrap_i64];omega
   have h20:0≤d2:=by omega
   have h2x:d2≤70:=by omega
   have HBE:=h_ (show behI d ⟨op,a,b,n,s⟩=d2 by unfold behI;rw[HTK.out,HPT.out];exact hd2);clear hd2;have hs0:Bx wr.heap.size #[.int .i64 op,.int .i64 a,.int .i64 b,.int .i64 n,.string (bs s)] 45 w6.drew:=HX.out;have HS0:=h_ hs0;clear hs0;go_upto_region 9 with (fail);go_wp2_with fail;refine wp_region_held_drew (S:=(fun w'=>Bx wr.heap.size #[.int .i64 op,.int .i64 a,.int .i64 b,.int .i64 n,.string (bs s)] 45 w')) (by kernel_rfl) ?_ (fun hHeld=>?_)
   ·exact HS0.out
   refine tkX 0 22 ?_;refine tkY 1 (v:=?vv2) 23 ?yy2 ?_
   case yy2 =>
    intro wq hSw;have c0_0:wq.cell? ⟨wr.heap.size,0,none⟩=some (.int .i64 op):=(hSw).cell 0;have c0_1:wq.cell? ⟨wr.heap.size,1,none⟩=some (.int .i64 a):=(hSw).cell 1;have c0_2:wq.cell? ⟨wr.heap.size,2,none⟩=some (.int .i64 b):=(hSw).cell 2;have c0_3:wq.cell? ⟨wr.heap.size,3,none⟩=some (.int .i64 n):=(hSw).cell 3;have c0_4:wq.cell? ⟨wr.heap.size,4,none⟩=some (.string (bs s)):=(hSw).cell 4;clear hSw;go_simp
    (try with_reducible rfl)
   refine tkY 3 (v:=?vv3) 25 ?yy3 ?_
   case yy3 =>
    intro wq hSw;have c0_0:wq.cell? ⟨wr.heap.size,0,none⟩=some (.int .i64 op):=(hSw).cell 0;have c0_1:wq.cell? ⟨wr.heap.size,1,none⟩=some (.int .i64 a):=(hSw).cell 1;have c0_2:wq.cell? ⟨wr.heap.size,2,none⟩=some (.int .i64 b):=(hSw).cell 2;have c0_3:wq.cell? ⟨wr.heap.size,3,none⟩=some (.int .i64 n):=(hSw).cell 3;have c0_4:wq.cell? ⟨wr.heap.size,4,none⟩=some (.string (bs s)):=(hSw).cell 4;clear hSw;go_simp
    (try with_reducible rfl)
   simp only[sA,sB,sC];refine rd1 2 fun K hK=>?_;go_simp
   (have hcl:=puts_any ⟨op,a,b,n,s⟩;simp only[insV]at hcl;refine(hcl _).mono ?_;rw[HPT.out];clear hcl;rintro er u1 ⟨rfl,hb1⟩)
   (try go_wp2_with fail)
   refine hK.out _ _ (hHeld.call hb1) fun hHeld=>?_;clear hK K
   (try simp only[Act.put,sA,sB,sC])
   refine rd1 4 fun K hK=>?_;go_simp
   (have hcl:=takes_any ⟨op,a,b,n,s⟩;simp only[insV]at hcl;refine(hcl _).mono ?_;rw[HTK.out];clear hcl;rintro er u2 ⟨rfl,hb2⟩)
   (try go_wp2_with fail)
   refine hK.out _ _ (hHeld.call hb2) fun hHeld=>?_;clear hK K
   (try simp only[Act.put,sA,sB,sC])
   refine tkX 5 27 ?_;refine tkX 6 28 ?_;refine tkX 7 5 ?_;simp only[sA,sB,sC];refine wpAnyH_done (by kernel_rfl) ?_ _;have hb0:Below w6.heap.size w6 w6.drew:=(Below.refl w6.heap.size w6).drew;have hb3:=btrans (btrans hb0 hb0.size hb1) (btrans hb0 hb0.size hb1).size hb2;have HX:=HX.out.k hb3;have HB:=bt HB hb3;have HO:=h_ (own_below HO.out hb3);clear hb0 hb1 hb2 hb3 hHeld HS0;by_cases h64:64<d2
   ·skip
    obtain⟨x0,x1,x2,x3,x4⟩:=HX.out.d5 0 1 2 3 4;go_upto_region 11 with (fail);clear x0 x1 x2 x3 x4;have hT:([],false)=(D,g):=(dep_bad2 hlt HXE.out (by rw[HTK.out];have:=HN1.out;omega) (badI_true HBE.out (.inl h64))).symm.trans HQ2.out;have h1:D=[]:=(congrArg Prod.fst hT).symm;have h2:g=false:=(congrArg Prod.snd hT).symm;have H1:=h_ h1;have H2:=h_ h2;clear hT h1 h2;go_wp2;go_ret2;exact⟨_,by rw[H2.out]<;>rfl,by rw[H1.out];exact⟨none,0,rfl,fun h=>absurd rfl h⟩,HB.out⟩
   by_cases h0:d2=0
   ·have t0:(d2 != 0)=false:=by rw[h0];rfl
    have H0:=h_ h0;clear h0;have HN:=h_ ((dep_ok (A:=A) hlt HXE.out (by rw[HTK.out];have:=HN1.out;omega) (badI_false HBE.out (by omega) (.inl H0.out))).symm.trans HQ2.out);rw[HBE.out]at HN;go_wp2;go_roundw
    case rel=>exact⟨k+1,A++[d],d2,by omega,by go_num,rfl,by rw[List.length_append,hAk];rfl,h20,by omega,HN,HO,HB.out⟩
    case measure=>simp[intOf];omega
   have t0:(d2 != 0)=true:=by rw[bne_iff_ne];exact h0
   obtain⟨x0,x1,x2,x3,x4⟩:=HX.out.d5 0 1 2 3 4
   cases lv with
   | true =>
    go_wp2_with fail;have hcl:=leaves_any ⟨op,a,b,n,s⟩;simp only[insV]at hcl;refine(hcl _).mono ?_;rw[HLV.out];clear hcl;rintro er w7 ⟨rfl,hb1⟩;clear x0 x1 x2 x3 x4;have HX:=HX.out.k hb1;have HB:=bt HB hb1;have HO:=h_ (own_below HO.out hb1);clear hb1;go_upto_region 11 with (fail);have hT:([],false)=(D,g):=(dep_bad2 hlt HXE.out (by rw[HTK.out];have:=HN1.out;omega) (badI_true HBE.out (.inr ⟨h0,.inl HLV.out⟩))).symm.trans HQ2.out;have h1:D=[]:=(congrArg Prod.fst hT).symm;have h2:g=false:=(congrArg Prod.snd hT).symm;have H1:=h_ h1;have H2:=h_ h2;clear hT h1 h2;go_wp2;go_ret2;exact⟨_,by rw[H2.out]<;>rfl,by rw[H1.out];exact⟨none,0,rfl,fun h=>absurd rfl h⟩,HB.out⟩
   | false =>
    go_wp2_with fail;have hcl:=leaves_any ⟨op,a,b,n,s⟩;simp only[insV]at hcl;refine(hcl _).mono ?_;rw[HLV.out];clear hcl;rintro er w7 ⟨rfl,hb1⟩;clear x0 x1 x2 x3 x4;have HX:=HX.out.k hb1;have HB:=bt HB hb1;have HO:=h_ (own_below HO.out hb1);clear hb1;obtain⟨x0,x1,x2,x3,x4⟩:=HX.out.d5 0 1 2 3 4;by_cases h7:op=7
    ·have t7:(op==7)=true:=by rw[h7];rfl
     have H7:=h_ h7;clear h7;go_upto_region 11 with (fail);clear x0 x1 x2 x3 x4;have hT:([],false)=(D,g):=(dep_bad2 hlt HXE.out (by rw[HTK.out];have:=HN1.out;omega) (badI_true HBE.out (.inr ⟨h0,.inr H7.out⟩))).symm.trans HQ2.out;have h1:D=[]:=(congrArg Prod.fst hT).symm;have h2:g=false:=(congrArg Prod.snd hT).symm;have H1:=h_ h1;have H2:=h_ h2;clear hT h1 h2;go_wp2;go_ret2;exact⟨_,by rw[H2.out]<;>rfl,by rw[H1.out];exact⟨none,0,rfl,fun h=>absurd rfl h⟩,HB.out⟩
    have t7:(op==7)=false:=by rw[beq_eq_false_iff_ne];exact h7
    have H7:=h_ h7;clear h7;go_upto_region 12 with (fail);clear x0 x1 x2 x3 x4;have HN:=h_ ((dep_ok (A:=A) hlt HXE.out (by rw[HTK.out];have:=HN1.out;omega) (badI_false HBE.out (by omega) (.inr ⟨HLV.out,H7.out⟩))).symm.trans HQ2.out);rw[HBE.out]at HN;go_wp2;go_roundw
    case rel=>exact⟨k+1,A++[d],d2,by omega,by go_num,rfl,by rw[List.length_append,hAk];rfl,h20,by omega,HN,HO,HB.out⟩
    case measure=>simp[intOf];omega
  ·have hlt':¬(k:Int)<(l.length:Int):=by omega
   have hT:(A,true)=(D,g):=(show depG A d (l.drop k)=(A,true) by rw[List.drop_of_length_le (by omega)];rfl).symm.trans HQ2.out;have h1:D=A:=(congrArg Prod.fst hT).symm;have h2:g=true:=(congrArg Prod.snd hT).symm;have H1:=h_ h1;have H2:=h_ h2;clear hT h1 h2;go_wp2;go_ret2;exact⟨_,by rw[H2.out]<;>rfl,by rw[H1.out];exact own_intAt HO.out,HB.out⟩
def kycI (x:Int):Bool:=(decide (97≤x) && decide (x≤122)) || ((decide (48≤x) && decide (x≤57)) || (decide (x=47) || (decide (x=46) || (decide (x=95) || decide (x=45)))))
theorem kyc_int(c:UInt8):kyc c=kycI (c.toNat:Int):=by
 unfold kyc kycI
 have e1:decide (97≤c.toNat)=decide ((97:Int)≤(c.toNat:Int)):=by congr 1;rw[eq_iff_iff];omega
 have e2:decide (c.toNat≤122)=decide ((c.toNat:Int)≤122):=by congr 1;rw[eq_iff_iff];omega
 have e3:decide (48≤c.toNat)=decide ((48:Int)≤(c.toNat:Int)):=by congr 1;rw[eq_iff_iff];omega
 have e4:decide (c.toNat≤57)=decide ((c.toNat:Int)≤57):=by congr 1;rw[eq_iff_iff];omega
 have e5:∀k:Nat,decide (c.toNat=k)=decide ((c.toNat:Int)=(k:Int)):=fun k=>by congr 1;rw[eq_iff_iff];omega
 rw[e1,e2,e3,e4,e5 47,e5 46,e5 95,e5 45];rfl
theorem keyc_any(x:Int)(w:World):
  Calls prog 111 #[.int .u8 x] w fun e w'=>e=.returned (.bool (kycI x))∧w'=w:=by
 by_cases h1:97≤x
 ·by_cases h2:x≤122
  ·skip
   have HK:=h_ (show kycI x=true from by unfold kycI;simp;omega);go_enter func111,ntmps111;go_wp2;go_ret;exact⟨by rw[HK.out]<;>rfl,rfl⟩
  ·have d2:decide (x≤122)=false:=decide_eq_false h2
   have d3:(48:Int)≤x:=by omega
   have d4:decide (x≤57)=false:=decide_eq_false (by omega)
   have n47:(x==47)=false:=by rw[beq_eq_false_iff_ne];omega
   have n46:(x==46)=false:=by rw[beq_eq_false_iff_ne];omega
   have n95:(x==95)=false:=by rw[beq_eq_false_iff_ne];omega
   have n45:(x==45)=false:=by rw[beq_eq_false_iff_ne];omega
   have HK:=h_ (show kycI x=false from by unfold kycI;simp;omega);go_enter func111,ntmps111;go_wp2;go_ret;exact⟨by rw[HK.out]<;>rfl,rfl⟩
 have d1:decide (97≤x)=false:=decide_eq_false h1;by_cases h3:48≤x
 ·by_cases h4:x≤57
  ·skip
   have HK:=h_ (show kycI x=true from by unfold kycI;simp;omega);go_enter func111,ntmps111;go_wp2;go_ret;exact⟨by rw[HK.out]<;>rfl,rfl⟩
  ·have d4:decide (x≤57)=false:=decide_eq_false h4
   by_cases h5:x=95
   ·subst h5
    go_enter func111,ntmps111;go_wp2;go_ret;exact⟨rfl,rfl⟩
   have n47:(x==47)=false:=by rw[beq_eq_false_iff_ne];omega
   have n46:(x==46)=false:=by rw[beq_eq_false_iff_ne];omega
   have n95:(x==95)=false:=by rw[beq_eq_false_iff_ne];omega
   have n45:(x==45)=false:=by rw[beq_eq_false_iff_ne];omega
   have HK:=h_ (show kycI x=false from by unfold kycI;simp;omega);go_enter func111,ntmps111;go_wp2;go_ret;exact⟨by rw[HK.out]<;>rfl,rfl⟩
 have d3:decide (48≤x)=false:=decide_eq_false h3;by_cases e47:x=47
 ·subst e47
  go_enter func111,ntmps111;go_wp2;go_ret;exact⟨rfl,rfl⟩
 by_cases e46:x=46
 ·subst e46
  go_enter func111,ntmps111;go_wp2;go_ret;exact⟨rfl,rfl⟩
 by_cases e45:x=45
 ·subst e45
  go_enter func111,ntmps111;go_wp2;go_ret;exact⟨rfl,rfl⟩
 have n47:(x==47)=false:=by rw[beq_eq_false_iff_ne];omega
 have n46:(x==46)=false:=by rw[beq_eq_false_iff_ne];omega
 have n95:(x==95)=false:=by rw[beq_eq_false_iff_ne];omega
 have n45:(x==45)=false:=by rw[beq_eq_false_iff_ne];omega
 have HK:=h_ (show kycI x=false from by unfold kycI;simp;omega);go_enter func111,ntmps111;go_wp2;go_ret;exact⟨by rw[HK.out]<;>rfl,rfl⟩
def conB (s:List UInt8):Bool:=decide (s.length≤24) && s.all kyc
theorem keyB_con{s:List UInt8}(h:s≠[]):keyB s=conB s:=by
 unfold keyB conB;rw[decide_eq_true (by have:=List.length_pos_iff.2 h;omega),Bool.true_and]
theorem kyc_bad{l:List UInt8}(k:Nat)(hk:k<l.length)(h:kycI (l[k].toNat:Int)=false):l.all kyc=false:=by
 rw[List.all_eq_false];exact⟨l[k],List.getElem_mem hk,by rw[kyc_int,h];simp⟩
theorem kyc_step{l:List UInt8}{k:Nat}(hk:k<l.length)(h:(l.take k).all kyc=true)(h2:kycI (l[k].toNat:Int)=true):(l.take (k+1)).all kyc=true:=by
 rw[List.take_succ_eq_append_getElem hk,List.all_append,h,Bool.true_and,List.all_cons,List.all_nil,Bool.and_true,kyc_int,h2]
theorem consists_any(s:List UInt8)(hs:s.length≤9223372036854775807)(w:World):
  Calls prog 110 #[.string (bs s),.func (.func 111) #[] #[]] w fun e w'=>e=.returned (.bool (conB s))∧Below w.heap.size w w':=by
 obtain⟨R,hR⟩:=ex_ (conB s);rw[hR];have HR:=h_ hR;clear hR;by_cases h24:24<s.length
 ·have h24':(24:Int)<(s.length:Int):=by omega
  have HF:=h_ (show R=false from HR.out.symm.trans (by unfold conB;rw[decide_eq_false (by omega)];rfl));go_enter func110,ntmps110;go_wp2;go_ret;exact⟨by rw[HF.out]<;>rfl,Below.refl _ _⟩
 have h24':¬(24:Int)<(s.length:Int):=by omega
 have HR2:=h_ (show s.all kyc=R from(show conB s=s.all kyc by unfold conB;rw[decide_eq_true (by omega),Bool.true_and]).symm.trans HR.out);go_enter func110,ntmps110;go_wp2;go_loopw [11] (fun i wr=>∃k:Nat,k≤s.length∧i=.int .i64 k∧Hid ((s.take k).all kyc=true)∧wr=w) (fun i _=>s.length-(intOf i).toNat)
 case atStart=>exact⟨0,Nat.zero_le _,by first|exact True.intro|rfl,h_ rfl,by first|exact True.intro|rfl⟩
 case round =>
  obtain⟨k,hk,rfl,HQ,rfl⟩:=hrel;by_cases hlt:k<s.length
  ·have hlt':(k:Int)<(s.length:Int):=by omega
   have hw1:IntKind.i64.wrap ((k:Int)+1)=(k:Int)+1:=by rw[IntKind.wrap_i64];omega
   obtain⟨b,hb⟩:=ex_ (kycI (s[k].toNat:Int));have HBB:=h_ hb;clear hb;go_wp2_with fail;refine(keyc_any (s[k].toNat:Int) _).mono ?_;rw[HBB.out];rintro er w1 ⟨rfl,rfl⟩
   cases b with
   | true =>
    have HN:=h_ (kyc_step hlt HQ.out HBB.out);go_wp2;go_roundw
    case rel=>exact⟨k+1,by omega,by go_num,HN,by first|exact True.intro|rfl⟩
    case measure=>simp[intOf];omega
   | false =>
    have HF:=h_ (show R=false from HR2.out.symm.trans (kyc_bad k hlt HBB.out));go_wp2;go_ret;exact⟨by rw[HF.out]<;>rfl,Below.refl _ _⟩
  ·have hlt':¬(k:Int)<(s.length:Int):=by omega
   have HF:=h_ (show R=true from HR2.out.symm.trans (by have h:=HQ.out;rw[List.take_of_length_le (by omega)]at h;exact h));go_wp2;go_ret;exact⟨by rw[HF.out]<;>rfl,Below.refl _ _⟩
theorem KValid_any(s:List UInt8)(hs:s.length≤9223372036854775807)(w:World):
  Calls prog 88 #[.string (bs s)] w fun e w'=>e=.returned (.bool (keyB s))∧Below w.heap.size w w':=by
 by_cases h0:s=[]
 ·subst h0
  go_enter func88,ntmps88;go_wp2;go_ret;exact⟨rfl,Below.refl _ _⟩
 obtain⟨R,hR⟩:=ex_ (keyB s);rw[hR];have HR:=h_ ((keyB_con h0).symm.trans hR);clear hR
 have t0:(s==[])=false:=by rw[beq_eq_false_iff_ne];exact h0
 clear h0;go_enter func88,ntmps88;go_wp2_with fail;refine(consists_any s hs _).mono ?_;rw[HR.out];rintro er w1 ⟨rfl,hb1⟩;go_wp2;go_ret;exact⟨rfl,hb1⟩
theorem Bx.setCells{b:Nat}{T:TypeId}:∀(vs:List Value) (o:Nat) (cs:Array Value) (W:World),Bx b cs T W→o+vs.length≤cs.size→∃cs',Bx b cs' T (W.setCells b o vs)∧cs'.toList=cs.toList.take o++vs++cs.toList.drop (o+vs.length)
 | [],o,cs,W,h,_=>⟨cs,h,by simp⟩
 | v::r,o,cs,W,h,hs=>by
  simp only[List.length_cons]at hs;obtain⟨cs',h1,h2⟩:=Bx.setCells r (o+1) (cs.setIfInBounds o v) _ (h.set o v) (by rw[Array.size_setIfInBounds];omega);refine⟨cs',h1,?_⟩
  have ho:o<cs.toList.length:=by rw[Array.length_toList];omega
  have hm:(cs.toList.take o).length=o:=by rw[List.length_take];omega
  rw[h2,Array.toList_setIfInBounds,List.set_eq_take_append_cons_drop,if_pos ho]
  have e1:(cs.toList.take o++v::cs.toList.drop (o+1)).take (o+1)=cs.toList.take o++[v]:=by
   rw[show o+1=(cs.toList.take o).length+1 by omega,List.take_length_add_append,hm];rfl
  have e2:(cs.toList.take o++v::cs.toList.drop (o+1)).drop (o+1+r.length)=cs.toList.drop (o+(v::r).length):=by
   rw[show o+1+r.length=(cs.toList.take o).length+(r.length+1) by omega,List.drop_length_add_append,List.drop_succ_cons,List.drop_drop]
   congr 1;simp only[List.length_cons];omega
  rw[e1,e2];simp
theorem Bx.range{b:Nat}{cs:Array Value}{T:TypeId}{W:World}(h:Bx b cs T W)(o:Nat)(vs:List Value)(hv:(cs.toList.drop o).take vs.length=vs):W.rangeAt b o vs:=fun j v hj=>by
 rw[h.cell (o+j),←Array.getElem?_toList];have hl:=(List.getElem?_eq_some_iff.1 hj).1;rw[←hv,List.getElem?_take,if_pos hl,List.getElem?_drop]at hj;exact hj
theorem run_storeAt_cells{W:World}{b o:Nat}{ty:TypeId}{v:Value}(ht:W.there b o v.cells.size)(hi:(prog.info? ty).map (·.size)=some v.cells.size)(h1:v.cells.toList.all (·.oneCell')=true):
  (Instr.storeAt ty (.pointer (some ⟨b,o,none⟩)) v).run prog W=.ok () (W.setCells b o v.cells.toList):=by
 have:=run_storeCells_cells (P:=prog) b o v.cells.toList 0 W (fun j hj=>by simpa using (ht j (by simpa using hj)).1) (fun j hj=>by simpa using (ht j (by simpa using hj)).2)
  (fun v hv=>List.all_eq_true.1 h1 v hv)
 cases hq:prog.info? ty with
 | none=>simp[hq]at hi
 | some i =>
  have hs:v.cells.size=i.size:=by simp[hq]at hi;omega
  simp only[Nat.add_zero]at this;simp[Instr.storeAt,Instr.sureAddr,storeVar,sizeOf,typeInfo,hq,hs,this]
structure Put (b:Nat) (W W':World):Prop where
 size:W'.heap.size=W.heap.size
 other:∀c,c≠b→W'.heap[c]? = W.heap[c]?
 os:W'.os=W.os
 tape:W'.tape=W.tape
 output:W'.output=W.output
theorem Put.bx{b c:Nat}{W W':World}(h:Put b W W')(hne:c≠b){cs:Array Value}{T:TypeId}(hx:Bx c cs T W):Bx c cs T W':=(h.other c hne).trans hx
theorem Put.below{b B:Nat}{W0 W W':World}(h:Put b W W')(hB:B≤b)(hb:Below B W0 W):Below B W0 W':=
 ⟨h.os.trans hb.os,h.tape.trans hb.tape,h.output.trans hb.output,by rw[h.size];exact hb.size,fun k hk=>(h.other k (by omega)).trans (hb.block k hk)⟩
theorem setCells_put(b:Nat):∀(vs:List Value) (o:Nat) (W:World),Put b W (W.setCells b o vs)
 | [],_,_=>⟨rfl,fun _ _=>rfl,rfl,rfl,rfl⟩
 | v::r,o,W=>by
  have h:=setCells_put b r (o+1) (W.setCell ⟨b,o,none⟩ v);have g:=grown_set W ⟨b,o,none⟩ v;refine⟨by show (World.setCells _ b (o+1) r).heap.size=_;rw[h.size];simp,fun c hc=>?_,h.os.trans g.os,h.tape.trans g.tape,h.output.trans g.output⟩;exact(h.other c hc).trans (heap_setCell_other W ⟨b,o,none⟩ c v (fun e=>hc (by simpa using e)))
theorem Bx.sta{b:Nat}{cs:Array Value}{T:TypeId}{W:World}(h:Bx b cs T W)(ty:TypeId)(o:Nat)(v:Value)(cs':Array Value)(hc:cs'.toList=cs.toList.take o++v.cells.toList++cs.toList.drop (o+v.cells.toList.length))(hf:o+v.cells.size≤cs.size)(hi:(prog.info? ty).map (·.size)=some v.cells.size)(h1:v.cells.toList.all (·.oneCell')=true):
  ∃W',(Instr.storeAt ty (.pointer (some ⟨b,o,none⟩)) v).run prog W=.ok () W'∧Bx b cs' T W'∧Put b W W':=by
 refine⟨_,run_storeAt_cells (fun j hj=>⟨?_,h.free _⟩) hi h1,?_,setCells_put b _ o W⟩
 ·rw[h.cell];simp;omega
 ·obtain⟨c2,h2,h3⟩:=Bx.setCells v.cells.toList o cs W h (by simpa using hf)
  have:c2=cs':=by apply Array.ext';rw[h3,hc]
  rw[←this];exact h2
theorem Bx.wld{b:Nat}{cs:Array Value}{T:TypeId}{W:World}(h:Bx b cs T W)(ty:TypeId)(o:Nat)(vs:Array Value)(hv:(cs.toList.drop o).take vs.toList.length=vs.toList){d:TypeDesc}(hu:prog.underlying ty=some d)(hd:d.isRow=true)(hi:(prog.info? ty).map (·.size)=some vs.toList.length)
  {ops:Array Oper} {rest:List Oper} {op:Oper} {a:Act} {Q:Exit→Act→World→Prop} {x:Operand} (hgd:op.guard=none) (ho:op.op=.load ty x) (hx:a.eval x=.pointer (some ⟨b,o,none⟩)) (hk:wpList prog ops Q rest (a.put op.dst (.agg vs)) W):wpList prog ops Q (op::rest) a W:=
 wpList_load_mid hgd ty x ho b o hx vs.toList d (h.range o vs.toList hv) hu hd hi hk
theorem takeL{ops:Array Oper}{Q:Exit→Act→World→Prop}{md:Region.Mode}{S:World→Prop}{i:Nat}{oi:Oper}{fuel:Nat}{listed:Array Bool}{tm:Array Value}{df:List Deferred}{w:World}(d:Nat){b:Nat}{cs:Array Value}{T:TypeId}(hB:∀w,S w→Bx b cs T w)(ty:TypeId)(o:Nat)(vs:Array Value)(hv:(cs.toList.drop o).take vs.toList.length=vs.toList){dd:TypeDesc}(hu:prog.underlying ty=some dd)(hdr:dd.isRow=true)(hsz:(prog.info? ty).map (·.size)=some vs.toList.length)
  (hi:ops[i]? = some oi) (hd:oi.dst=some d) {x:Operand} (ho:oi.op=.load ty x) (hx:Act.eval ⟨tm,df⟩ x=.pointer (some ⟨b,o,none⟩)) (hs:Region.noSelect ops=true) (hf:Region.free md ops listed i=true) (hr:(Region.ready md ops listed).contains i=true) (hw:Region.wanted oi (yielded ops tm)=true)
  (hQ:∀c a w,Q (.panic c) (a.put (some d) (.agg vs)) w→Q (.panic c) a w) (hS:S w)
  (h:wpAnyH prog md ops Q S fuel (listed.setIfInBounds i true) ⟨tm.setIfInBounds d (.agg vs),df⟩ w):wpAnyH prog md ops Q S (fuel+1) listed ⟨tm,df⟩ w:=
 takeH d hi hd hs hf hr hQ (yieldsIf_load_mid hw ty x ho b o hx vs.toList dd (fun w' hw'=>(hB w' hw').range o vs.toList hv) hu hdr hsz) hS h
theorem Bx.wst{b:Nat}{cs:Array Value}{T:TypeId}{W:World}(h:Bx b cs T W)(ty:TypeId)(o:Nat)(v:Value)(cs':Array Value)(hc:cs'.toList=cs.toList.take o++v.cells.toList++cs.toList.drop (o+v.cells.toList.length))(hf:o+v.cells.size≤cs.size)(hi:(prog.info? ty).map (·.size)=some v.cells.size)(h1:v.cells.toList.all (·.oneCell')=true)
  {ops:Array Oper} {rest:List Oper} {op:Oper} {a:Act} {Q:Exit→Act→World→Prop} {x y:Operand} (hgd:op.guard=none) (ho:op.op=.store ty x y) (hx:a.eval x=.pointer (some ⟨b,o,none⟩)) (hy:a.eval y=v) (hk:∀W',Bx b cs' T W'→Put b W W'→wpList prog ops Q rest (a.put op.dst undef) W'):wpList prog ops Q (op::rest) a W:=by
 obtain⟨W',hs,hb,hp⟩:=h.sta ty o v cs' hc hf hi h1;refine wpList_plain hgd fun K hK=>?_;unfold Oper.wp execOp;simp only[ho,hx,hy,Sem.run_bind,hs,Result.andThen_ok,Sem.run_pure];exact hK _ _ (hk W' hb hp)
theorem Bx.ret1{b:Nat}{cs:Array Value}{T:TypeId}{W:World}(h:Bx b cs T W){fn:Func}{p:Tmp}{ty:TypeId}(hr:fn.results=#[.cell p ty]){R:Ending→World→Prop}{a:Act}(hp:a.tmps[p]? = some (.pointer (some ⟨b,0,none⟩)))(hd0:a.defers=[]){d:TypeDesc}(hu:prog.underlying ty=some d)(hd:d.isRow=true)(hi:(prog.info? ty).map (·.size)=some cs.toList.length)(hR:R (.returned (.agg cs)) W):bodyPost prog fn R .ret a W:=by
 refine bodyPost_ret (v:=.agg cs) ?_ hd0 hR;refine results_cell_row hr a.tmps W b T cs (0,0) d ?_ h hu (by cases d<;>first|rfl|exact hd) (by simpa using hi);rw[Array.getD_eq_getD_getElem?,hp];rfl
theorem Bx.rst{b:Nat}{cs:Array Value}{T:TypeId}{W:World}(h:Bx b cs T W)(ty:TypeId)(o:Nat)(v:Value)(cs':Array Value)(hc:cs'.toList=cs.toList.take o++v.cells.toList++cs.toList.drop (o+v.cells.toList.length))(hf:o+v.cells.size≤cs.size)(hi:(prog.info? ty).map (·.size)=some v.cells.size)(h1:v.cells.toList.all (·.oneCell')=true)
  {ops:Array Oper} {op:Oper} {a:Act} {K:Act→World→Prop} {Q:Exit→Act→World→Prop} {E:Prop} {x y:Operand} (hgd:op.guard=none) (ho:op.op=.store ty x y) (hx:a.eval x=.pointer (some ⟨b,o,none⟩)) (hy:a.eval y=v) (hk:∀W',Bx b cs' T W'→Put b W W'→K (a.put op.dst undef) W'):
  if Region.wanted op (yielded ops a.tmps)=true then Oper.wp prog op a W K Q else E:=by
 obtain⟨W',hs,hb,hp⟩:=h.sta ty o v cs' hc hf hi h1
 have hw:Region.wanted op (yielded ops a.tmps)=true:=by simp[Region.wanted,hgd]
 rw[if_pos hw];unfold Oper.wp execOp;simp only[ho,hx,hy,Sem.run_bind,hs,Result.andThen_ok,Sem.run_pure];exact hk W' hb hp
theorem Bx.ret2{b c:Nat}{cs ds:Array Value}{T U:TypeId}{W:World}(h:Bx b cs T W)(h2:Bx c ds U W){fn:Func}{p q:Tmp}{ty tz:TypeId}(hr:fn.results=#[.cell p ty,.cell q tz]){R:Ending→World→Prop}{a:Act}(hp:a.tmps[p]? = some (.pointer (some ⟨b,0,none⟩)))(hq:a.tmps[q]? = some (.pointer (some ⟨c,0,none⟩)))(hd0:a.defers=[]){d e:TypeDesc}(hu:prog.underlying ty=some d)(hd:d.isRow=true)(hi:(prog.info? ty).map (·.size)=some cs.toList.length)(hu2:prog.underlying tz=some e)(hd2:e.isRow=true)(hi2:(prog.info? tz).map (·.size)=some ds.toList.length)(hR:R (.returned (.tuple #[.agg cs,.agg ds])) W):bodyPost prog fn R .ret a W:=by
 have hl:(loadVar ty ⟨b,0,none⟩).run prog W=.ok (.agg cs) W:=run_loadVar_row W b T ty cs (0,0) d h hu (by cases d<;>first|rfl|exact hd) (by simpa using hi);have hl2:(loadVar tz ⟨c,0,none⟩).run prog W=.ok (.agg ds) W:=run_loadVar_row W c U tz ds (0,0) e h2 hu2 (by cases e<;>first|rfl|exact hd2) (by simpa using hi2);refine bodyPost_ret (v:=.tuple #[.agg cs,.agg ds]) ?_ hd0 hR
 have hq1:(a.tmps[p]?).getD undef=.pointer (some ⟨b,0,none⟩):=by rw[hp];rfl
 have hq2:(a.tmps[q]?).getD undef=.pointer (some ⟨c,0,none⟩):=by rw[hq];rfl
 simp[results,hr,hq1,hq2,asAddr,hl,hl2]
theorem own_putb{W W':World}{b B k n:Nat}{e:TypeId}{v:Value}{xs:List Value}(h:W.ownsRow B e k v n xs)(hp:Put b W W')(hne:∀g,v.ownBlock=some g→g≠b):W'.ownsRow B e k v n xs:=by
 refine⟨h.1,?_⟩;rcases h.2 with q|⟨g,c,cur,h1,h2,h3,h4⟩
 ·exact .inl q
 ·exact .inr ⟨g,c,cur,h1,h2,(hp.other g (hne g (by rw[h1];rfl))).trans h3,h4⟩
theorem own_not{W:World}{B b k n:Nat}{e T:TypeId}{v:Value}{xs:List Value}{cs:Array Value}(h:W.ownsRow B e k v n xs)(hx:Bx b cs T W)(hT:e≠T):∀g,v.ownBlock=some g→g≠b:=by
 intro g hg;rcases h.2 with ⟨q,_⟩|⟨g2,c,cur,h1,h2,h3,h4⟩
 ·rw[q]at hg;cases hg
 ·rw[h1]at hg
  have e2:g2=g:=by simpa[Value.ownBlock] using hg
  subst e2;rintro rfl;have h5:=hx;unfold Bx at h5;rw[h5]at h3;cases h3;exact hT rfl
theorem grown_put{w W W':World}{b:Nat}{r:Option Nat}(h:w.grownBy W r)(p:Put b W W')(hb:w.heap.size≤b):w.grownBy W' r:=
 ⟨p.os.trans h.os,p.tape.trans h.tape,p.output.trans h.output,by rw[p.size];exact h.size,fun k hk hn=>(p.other k (by omega)).trans (h.block k hk hn)⟩
theorem Bx.q{b c:Nat}{W W':World}{cs:Array Value}{T:TypeId}(h:Bx c cs T W)(hp:Put b W W')(hne:c≠b:=by omega):Hid (Bx c cs T W'):=Lib.hid (hp.bx hne h)
theorem pb{b B:Nat}{W0 W W':World}(h:Hid (Below B W0 W))(hp:Put b W W')(hB:B≤b:=by omega):Hid (Below B W0 W'):=Lib.hid (hp.below hB h.out)
theorem Bx.wl{b:Nat}{cs:Array Value}{T:TypeId}{W:World}(h:Bx b cs T W){ty:TypeId}(o:Nat)(vs:Array Value){d:TypeDesc}(hu:prog.underlying ty=some d){ops:Array Oper}{rest:List Oper}{op:Oper}{a:Act}{Q:Exit→Act→World→Prop}{x:Operand}(hk:wpList prog ops Q rest (a.put op.dst (.agg vs)) W)
  (hgd:op.guard=none:=by exact rfl) (ho:op.op=.load ty x:=by exact rfl) (hx:a.eval x=.pointer (some ⟨b,o,none⟩):=by exact rfl) (hv:(cs.toList.drop o).take vs.toList.length=vs.toList:=by exact rfl) (hd:d.isRow=true:=by exact rfl) (hi:(prog.info? ty).map (·.size)=some vs.toList.length:=by kernel_rfl):wpList prog ops Q (op::rest) a W:=
 h.wld ty o vs hv hu hd hi hgd ho hx hk
theorem Bx.ws{b:Nat}{cs:Array Value}{T:TypeId}{W:World}(h:Bx b cs T W){ty:TypeId}(o:Nat)(v:Value)(cs':Array Value){ops:Array Oper}{rest:List Oper}{op:Oper}{a:Act}{Q:Exit→Act→World→Prop}{x y:Operand}(hk:∀W',Hid (Bx b cs' T W')→Put b W W'→wpList prog ops Q rest (a.put op.dst undef) W')
  (hgd:op.guard=none:=by exact rfl) (ho:op.op=.store ty x y:=by exact rfl) (hx:a.eval x=.pointer (some ⟨b,o,none⟩):=by exact rfl) (hy:a.eval y=v:=by exact rfl) (hc:cs'.toList=cs.toList.take o++v.cells.toList++cs.toList.drop (o+v.cells.toList.length):=by exact rfl) (hf:o+v.cells.size≤cs.size:=by exact Nat.le_of_ble_eq_true rfl) (hi:(prog.info? ty).map (·.size)=some v.cells.size:=by kernel_rfl) (h1:v.cells.toList.all (·.oneCell')=true:=by exact rfl):wpList prog ops Q (op::rest) a W:=
 h.wst ty o v cs' hc hf hi h1 hgd ho hx hy fun W' q p=>hk W' (Lib.hid q) p
theorem Bx.wa{b:Nat}{cs:Array Value}{T:TypeId}{W:World}(h:Bx b cs T W){ty:TypeId}(cs':Array Value){ops:Array Oper}{rest:List Oper}{op:Oper}{a:Act}{Q:Exit→Act→World→Prop}{x y:Operand}(hk:∀W',Hid (Bx b cs' T W')→Put b W W'→wpList prog ops Q rest (a.put op.dst undef) W')
  (hgd:op.guard=none:=by exact rfl) (ho:op.op=.store ty x y:=by exact rfl) (hx:a.eval x=.pointer (some ⟨b,0,none⟩):=by exact rfl) (hy:a.eval y=.agg cs':=by exact rfl) (hc:cs'.toList=cs.toList.take 0++(Value.agg cs').cells.toList++cs.toList.drop (0+(Value.agg cs').cells.toList.length):=by exact rfl) (hf:0+(Value.agg cs').cells.size≤cs.size:=by exact Nat.le_of_ble_eq_true rfl) (hi:(prog.info? ty).map (·.size)=some (Value.agg cs').cells.size:=by kernel_rfl) (h1:(Value.agg cs').cells.toList.all (·.oneCell')=true:=by exact rfl):wpList prog ops Q (op::rest) a W:=
 h.ws 0 (.agg cs') cs' hk hgd ho hx hy hc hf hi h1
theorem tkl2{ops:Array Oper}{Q:Exit→Act→World→Prop}{md:Region.Mode}{S:World→Prop}(i:Nat){oi:Oper}{fuel:Nat}{listed:Array Bool}{tm:Array Value}{df:List Deferred}{w:World}(d:Nat){b:Nat}{cs:Array Value}{T:TypeId}(hB:∀w,S w→Bx b cs T w){ty:TypeId}(o:Nat)(vs:Array Value){dd:TypeDesc}(hu:prog.underlying ty=some dd)
  (h:wpAnyH prog md ops Q S fuel (listed.setIfInBounds i true) ⟨tm.setIfInBounds d (.agg vs),df⟩ w) (hi:ops[i]? = some oi:=by exact rfl) (hd:oi.dst=some d:=by exact rfl) {x:Operand} (ho:oi.op=.load ty x:=by exact rfl) (hx:Act.eval ⟨tm,df⟩ x=.pointer (some ⟨b,o,none⟩):=by exact rfl)
  (hv:(cs.toList.drop o).take vs.toList.length=vs.toList:=by exact rfl) (hdr:dd.isRow=true:=by exact rfl) (hsz:(prog.info? ty).map (·.size)=some vs.toList.length:=by kernel_rfl) (hs:Region.noSelect ops=true:=by kernel_rfl) (hf:Region.free md ops listed i=true:=by kernel_rfl) (hr:(Region.ready md ops listed).contains i=true:=by kernel_rfl) (hw:Region.wanted oi (yielded ops tm)=true:=by kernel_rfl)
  (hQ:∀c (a:Act) w,Q (.panic c) (a.put (some d) (.agg vs)) w→Q (.panic c) a w:=by exact fun _ _ _ h=>h) (hS:S w:=by assumption):wpAnyH prog md ops Q S (fuel+1) listed ⟨tm,df⟩ w:=
 takeL d hB ty o vs hv hu hdr hsz hi hd ho hx hs hf hr hw hQ hS h
theorem Bx.r1{b:Nat}{cs:Array Value}{T:TypeId}{W:World}(h:Bx b cs T W){fn:Func}{p:Tmp}{ty:TypeId}{d:TypeDesc}(hu:prog.underlying ty=some d){R:Ending→World→Prop}{a:Act}(hR:R (.returned (.agg cs)) W)(hr:fn.results=#[.cell p ty]:=by exact rfl)(hp:a.tmps[p]? = some (.pointer (some ⟨b,0,none⟩)):=by exact rfl)(hd0:a.defers=[]:=by exact rfl)(hd:d.isRow=true:=by exact rfl)(hi:(prog.info? ty).map (·.size)=some cs.toList.length:=by kernel_rfl):bodyPost prog fn R .ret a W:=h.ret1 hr hp hd0 hu hd hi hR
theorem Bx.r2{b c:Nat}{cs ds:Array Value}{T U:TypeId}{W:World}(h:Bx b cs T W)(h2:Bx c ds U W){fn:Func}{p q:Tmp}{ty tz:TypeId}{d e:TypeDesc}(hu:prog.underlying ty=some d)(hu2:prog.underlying tz=some e){R:Ending→World→Prop}{a:Act}(hR:R (.returned (.tuple #[.agg cs,.agg ds])) W)(hr:fn.results=#[.cell p ty,.cell q tz]:=by exact rfl)(hp:a.tmps[p]? = some (.pointer (some ⟨b,0,none⟩)):=by exact rfl)(hq:a.tmps[q]? = some (.pointer (some ⟨c,0,none⟩)):=by exact rfl)(hd0:a.defers=[]:=by exact rfl)(hd:d.isRow=true:=by exact rfl)(hi:(prog.info? ty).map (·.size)=some cs.toList.length:=by kernel_rfl)(hd2:e.isRow=true:=by exact rfl)(hi2:(prog.info? tz).map (·.size)=some ds.toList.length:=by kernel_rfl):bodyPost prog fn R .ret a W:=h.ret2 h2 hr hp hq hd0 hu hd hi hu2 hd2 hi2 hR
def prL (p:Pr):List Value:=[.string (bs p.key),.int .i64 p.v.k,.int .i64 p.v.n,.string (bs p.v.s)]
def prV (p:Pr):Array Value:=#[.string (bs p.key),.int .i64 p.v.k,.int .i64 p.v.n,.string (bs p.v.s)]
def prLs (L:List Pr):List Value:=L.flatMap prL
def vlL (v:Vl):List Value:=[.int .i64 v.k,.int .i64 v.n,.string (bs v.s)]
def vlLs (L:List Vl):List Value:=L.flatMap vlL
theorem infoPr:(prog.info? 55).map (fun i=>(i.zero,i.size,i.bytes))=some (some (.agg #[.string ⟨#[]⟩,.int .i64 0,.int .i64 0,.string ⟨#[]⟩]),4,48):=by kernel_rfl
theorem infoVl:(prog.info? 52).map (fun i=>(i.zero,i.size,i.bytes))=some (some (.agg #[.int .i64 0,.int .i64 0,.string ⟨#[]⟩]),3,32):=by kernel_rfl
theorem prLs_length(L:List Pr):(prLs L).length=L.length * 4:=by
 unfold prLs
 induction L with
 | nil=>rfl
 | cons x r ih=>rw[List.flatMap_cons,List.length_append,ih,List.length_cons];show 4+_=_;omega
theorem vlLs_length(L:List Vl):(vlLs L).length=L.length * 3:=by
 unfold vlLs
 induction L with
 | nil=>rfl
 | cons x r ih=>rw[List.flatMap_cons,List.length_append,ih,List.length_cons];show 3+_=_;omega
theorem prLs_snoc(L:List Pr)(x:Pr):prLs (L++[x])=prLs L++prL x:=by unfold prLs;rw[List.flatMap_append];simp
theorem vlLs_snoc(L:List Vl)(x:Vl):vlLs (L++[x])=vlLs L++vlL x:=by unfold vlLs;rw[List.flatMap_append];simp
theorem prLs_get:∀(M:List Pr) (k:Nat) (h:k<M.length),(prLs M)[k * 4]? = some (.string (bs M[k].key))∧(prLs M)[k * 4+1]? = some (.int .i64 M[k].v.k)∧(prLs M)[k * 4+2]? = some (.int .i64 M[k].v.n)∧(prLs M)[k * 4+3]? = some (.string (bs M[k].v.s))
 | [],k,h=>by simp at h
 | x::r,0,h=>⟨rfl,rfl,rfl,rfl⟩
 | x::r,k+1,h=>by
  have ih:=prLs_get r k (by simpa using h)
  have e:∀j,(prLs (x::r))[j+4]? = (prLs r)[j]?:=fun j=>by
   show (prL x++prLs r)[j+4]? = _;rw[List.getElem?_append_right (by show 4≤_;omega)];rfl
  refine⟨?_,?_,?_,?_⟩
  ·rw[show (k+1) * 4=k * 4+4 by omega,e];exact ih.1
  ·rw[show (k+1) * 4+1=(k * 4+1)+4 by omega,e];exact ih.2.1
  ·rw[show (k+1) * 4+2=(k * 4+2)+4 by omega,e];exact ih.2.2.1
  ·rw[show (k+1) * 4+3=(k * 4+3)+4 by omega,e];exact ih.2.2.2
theorem vlLs_get:∀(M:List Vl) (k:Nat) (h:k<M.length),(vlLs M)[k * 3]? = some (.int .i64 M[k].k)∧(vlLs M)[k * 3+1]? = some (.int .i64 M[k].n)∧(vlLs M)[k * 3+2]? = some (.string (bs M[k].s))
 | [],k,h=>by simp at h
 | x::r,0,h=>⟨rfl,rfl,rfl⟩
 | x::r,k+1,h=>by
  have ih:=vlLs_get r k (by simpa using h)
  have e:∀j,(vlLs (x::r))[j+3]? = (vlLs r)[j]?:=fun j=>by
   show (vlL x++vlLs r)[j+3]? = _;rw[List.getElem?_append_right (by show 3≤_;omega)];rfl
  refine⟨?_,?_,?_⟩
  ·rw[show (k+1) * 3=k * 3+3 by omega,e];exact ih.1
  ·rw[show (k+1) * 3+1=(k * 3+1)+3 by omega,e];exact ih.2.1
  ·rw[show (k+1) * 3+2=(k * 3+2)+3 by omega,e];exact ih.2.2
theorem pr_cells{W:World}{ad:Option Addr}{n cap:Nat}{M:List Pr}(h:CellsAt W (.slice ad n cap) n (prLs M)){k:Nat}(hk:k<M.length):∃b off,ad=some ⟨b,off,none⟩∧W.cell? ⟨b,off+k * 4,none⟩=some (.string (bs M[k].key))∧W.cell? ⟨b,off+k * 4+1,none⟩=some (.int .i64 M[k].v.k)∧W.cell? ⟨b,off+k * 4+2,none⟩=some (.int .i64 M[k].v.n)∧W.cell? ⟨b,off+k * 4+3,none⟩=some (.string (bs M[k].v.s)):=by
 obtain⟨a,c,hs,hc⟩:=h;obtain⟨b,off,ha,hcell⟩:=hc (by intro e;have:=prLs_length M;rw[e]at this;simp at this;omega);cases hs;obtain⟨h1,h2,h3,h4⟩:=prLs_get M k hk;exact⟨b,off,ha,hcell _ _ h1,by have:=hcell _ _ h2;rwa [←Nat.add_assoc]at this,by have:=hcell _ _ h3;rwa [←Nat.add_assoc]at this,by have:=hcell _ _ h4;rwa [←Nat.add_assoc]at this⟩
theorem vl_cells{W:World}{ad:Option Addr}{n cap:Nat}{M:List Vl}(h:CellsAt W (.slice ad n cap) n (vlLs M)){k:Nat}(hk:k<M.length):∃b off,ad=some ⟨b,off,none⟩∧W.cell? ⟨b,off+k * 3,none⟩=some (.int .i64 M[k].k)∧W.cell? ⟨b,off+k * 3+1,none⟩=some (.int .i64 M[k].n)∧W.cell? ⟨b,off+k * 3+2,none⟩=some (.string (bs M[k].s)):=by
 obtain⟨a,c,hs,hc⟩:=h;obtain⟨b,off,ha,hcell⟩:=hc (by intro e;have:=vlLs_length M;rw[e]at this;simp at this;omega);cases hs;obtain⟨h1,h2,h3⟩:=vlLs_get M k hk;exact⟨b,off,ha,hcell _ _ h1,by have:=hcell _ _ h2;rwa [←Nat.add_assoc]at this,by have:=hcell _ _ h3;rwa [←Nat.add_assoc]at this⟩
theorem getP_cons(p:Pr)(r:List Pr)(x:List UInt8):getP (p::r) x=if p.key=x then p.v else getP r x:=by
 unfold getP;rw[List.find?_cons];by_cases h:p.key=x
 ·have e:(p.key==x)=true:=by rw[h];exact beq_self_eq_true x
  rw[if_pos h];simp only[e];rfl
 ·have e:(p.key==x)=false:=by rw[beq_eq_false_iff_ne];exact h
  rw[if_neg h];simp only[e]
theorem getP_at{x:List UInt8}:∀(M:List Pr) (k:Nat) (h:k<M.length),x∉(M.take k).map Pr.key→M[k].key=x→getP M x=M[k].v
 | p::r,0,_,_,hx=>by rw[getP_cons];exact if_pos hx
 | p::r,k+1,h,hn,hx=>by
  rw[List.take_succ_cons,List.map_cons,List.mem_cons]at hn;rw[getP_cons,if_neg (fun q=>hn (.inl q.symm)),getP_at r k (by simpa using h) (fun q=>hn (.inr q)) hx];rfl
theorem getP_none{x:List UInt8}:∀(M:List Pr),x∉M.map Pr.key→getP M x=v00
 | [],_=>rfl
 | p::r,hn=>by
  rw[List.map_cons,List.mem_cons]at hn;rw[getP_cons,if_neg (fun q=>hn (.inl q.symm)),getP_none r (fun q=>hn (.inr q))]
theorem notin_pr{x:List UInt8}{M:List Pr}{k:Nat}(h:k<M.length)(hn:x∉(M.take k).map Pr.key)(hx:M[k].key≠x):x∉(M.take (k+1)).map Pr.key:=by
 rw[List.take_succ_eq_append_getElem h,List.map_append,List.mem_append];rintro (q|q)
 ·exact hn q
 ·simp at q;exact hx q.symm
theorem SGet_any(a:Option Addr)(cap:Nat)(M:List Pr)(x:List UInt8)(w:World)(hl:M.length≤9000000000000)(hM:CellsAt w (.slice a M.length cap) M.length (prLs M)):
  Calls prog 90 #[.slice a M.length cap,.string (bs x)] w fun e w'=>e=.returned (.agg (vV (getP M x)))∧Below w.heap.size w w':=by
 obtain⟨R,hR⟩:=ex_ (getP M x);rw[hR];have HR:=h_ hR;have HM:=h_ hM;clear hR hM;obtain⟨v0,hW0,hb0,hr0⟩:=boxes1 w #[.int .i64 0,.int .i64 0,.string ⟨#[]⟩] 52;have HW:=h_ hW0;have HB:=h_ hb0;have HRB:=h_ hr0;clear hW0 hb0 hr0;go_enter func90,ntmps90;go_upto_region 1 with (fail);rw[HW.out];clear HW;go_wp2;go_loopw [9] (fun i wr=>∃k:Nat,k≤M.length∧i=.int .i64 k∧Hid (x∉(M.take k).map Pr.key)∧Hid (Bx w.heap.size #[.int .i64 0,.int .i64 0,.string ⟨#[]⟩] 52 wr)∧Below w.heap.size w wr) (fun i _=>M.length-(intOf i).toNat)
 case atStart=>exact⟨0,Nat.zero_le _,by first|exact True.intro|rfl,h_ (by simp),HRB,HB.out⟩
 case round =>
  clear HB HRB;obtain⟨k,hk,rfl,HQ,HRB,hB⟩:=hrel;have HB:=h_ hB;clear hB;by_cases hlt:k<M.length
  ·have hlt':(k:Int)<(M.length:Int):=by omega
   have hkb:(0:Int)≤(k:Int)∧(k:Int)<(M.length:Int):=⟨by omega,by omega⟩
   have hw1:IntKind.i64.wrap ((k:Int)+1)=(k:Int)+1:=by rw[IntKind.wrap_i64];omega
   obtain⟨b,off,rfl,p0,p1,p2,p3⟩:=pr_cells (HM.out.below HB.out) hlt;obtain⟨m,hm⟩:=ex_ (M[k]);rw[hm]at p0 p1 p2 p3;have HMK:=h_ hm;clear hm;have hal:=(Below.refl wr.heap.size wr).alloc (Nat.le_refl _) (.cells #[.string (bs m.key),.int .i64 m.v.k,.int .i64 m.v.n,.string (bs m.v.s)] 55);have HX:=h_ (Bx.new wr #[.string (bs m.key),.int .i64 m.v.k,.int .i64 m.v.n,.string (bs m.v.s)] 55);have HRB:=HRB.out.k hal;have HB:=bt HB hal;clear hal;go_upto_region 4 with (fail);generalize hW:wr.alloc (.cells #[.string (bs m.key),.int .i64 m.v.k,.int .i64 m.v.n,.string (bs m.v.s)] 55)=v1 at HX HRB HB ⊢;clear hW p0 p1 p2 p3;obtain⟨p0,p1,p2,p3⟩:=HX.out.d4 0 1 2 3;by_cases h1:m.key=x;rotate_left
   ·have t1:(m.key==x)=false:=by rw[beq_eq_false_iff_ne];exact h1
    have HN:=h_ (notin_pr hlt HQ.out (by rw[HMK.out];exact h1));clear h1;go_wp2;go_roundw
    case rel=>exact⟨k+1,by omega,by go_num,HN,HRB,HB.out⟩
    case measure=>simp[intOf];omega
   have HF:=h_ (show R=m.v from HR.out.symm.trans ((getP_at M k hlt HQ.out (by rw[HMK.out];exact h1)).trans (by rw[HMK.out])))
   have t1:(m.key==x)=true:=by rw[h1];exact beq_self_eq_true _
   clear h1;go_wp2_with (refine HRB.out.wa (#[.int .i64 m.v.k,.int .i64 m.v.n,.string (bs m.v.s)]) ?_);intro W9 HRB p9;have HB:=pb HB p9;clear p9;go_wp2;exact HRB.out.r1 underlying52 ⟨by rw[HF.out]<;>rfl,HB.out⟩
  ·have hlt':¬(k:Int)<(M.length:Int):=by omega
   have HF:=h_ (show R=v00 from HR.out.symm.trans (getP_none M (by have h:=HQ.out;rw[List.take_of_length_le (by omega)]at h;exact h)));go_wp2_with (refine HRB.out.wa (#[.int .i64 0,.int .i64 0,.string ⟨#[]⟩]) ?_);intro W9 HRB p9;have HB:=pb HB p9;clear p9;go_wp2;exact HRB.out.r1 underlying52 ⟨by rw[HF.out]<;>rfl,HB.out⟩
theorem RSGet_any(a:Option Addr)(cap:Nat)(M:List Pr)(x:List UInt8)(w:World)(hl:M.length≤9000000000000)(hM:CellsAt w (.slice a M.length cap) M.length (prLs M)):
  Calls prog 17 #[.slice a M.length cap,.string (bs x)] w fun e w'=>e=.returned (.agg (vV (getP M x)))∧Below w.heap.size w w':=by
 obtain⟨R,hR⟩:=ex_ (getP M x);rw[hR];have HR:=h_ hR;have HM:=h_ hM;clear hR hM;obtain⟨v0,hW0,hb0,hr0⟩:=boxes1 w #[.int .i64 0,.int .i64 0,.string ⟨#[]⟩] 52;have HW:=h_ hW0;have HB:=h_ hb0;have HRB:=h_ hr0;clear hW0 hb0 hr0;go_enter func17,ntmps17;go_upto_region 1 with (fail);rw[HW.out];clear HW;go_wp2;go_loopw [5] (fun i wr=>∃k:Nat,k≤M.length∧i=.int .i64 k∧Hid (x∉(M.take k).map Pr.key)∧Hid (Bx w.heap.size #[.int .i64 0,.int .i64 0,.string ⟨#[]⟩] 52 wr)∧Below w.heap.size w wr) (fun i _=>M.length-(intOf i).toNat)
 case atStart=>exact⟨0,Nat.zero_le _,by first|exact True.intro|rfl,h_ (by simp),HRB,HB.out⟩
 case round =>
  clear HB HRB;obtain⟨k,hk,rfl,HQ,HRB,hB⟩:=hrel;have HB:=h_ hB;clear hB;by_cases hlt:k<M.length
  ·have hlt':(k:Int)<(M.length:Int):=by omega
   have hkb:(0:Int)≤(k:Int)∧(k:Int)<(M.length:Int):=⟨by omega,by omega⟩
   have hw1:IntKind.i64.wrap ((k:Int)+1)=(k:Int)+1:=by rw[IntKind.wrap_i64];omega
   obtain⟨b,off,rfl,p0,p1,p2,p3⟩:=pr_cells (HM.out.below HB.out) hlt;obtain⟨m,hm⟩:=ex_ (M[k]);rw[hm]at p0 p1 p2 p3;have HMK:=h_ hm;clear hm;by_cases h1:m.key=x;rotate_left
   ·have t1:(m.key==x)=false:=by rw[beq_eq_false_iff_ne];exact h1
    have HN:=h_ (notin_pr hlt HQ.out (by rw[HMK.out];exact h1));clear h1;go_wp2;go_roundw
    case rel=>exact⟨k+1,by omega,by go_num,HN,HRB,HB.out⟩
    case measure=>simp[intOf];omega
   have HF:=h_ (show R=m.v from HR.out.symm.trans ((getP_at M k hlt HQ.out (by rw[HMK.out];exact h1)).trans (by rw[HMK.out])))
   have t1:(m.key==x)=true:=by rw[h1];exact beq_self_eq_true _
   clear h1;go_wp2_with (refine HRB.out.wa (#[.int .i64 m.v.k,.int .i64 m.v.n,.string (bs m.v.s)]) ?_);intro W9 HRB p9;have HB:=pb HB p9;clear p9;go_wp2;exact HRB.out.r1 underlying52 ⟨by rw[HF.out]<;>rfl,HB.out⟩
  ·have hlt':¬(k:Int)<(M.length:Int):=by omega
   have HF:=h_ (show R=v00 from HR.out.symm.trans (getP_none M (by have h:=HQ.out;rw[List.take_of_length_le (by omega)]at h;exact h)));go_wp2_with (refine HRB.out.wa (#[.int .i64 0,.int .i64 0,.string ⟨#[]⟩]) ?_);intro W9 HRB p9;have HB:=pb HB p9;clear p9;go_wp2;exact HRB.out.r1 underlying52 ⟨by rw[HF.out]<;>rfl,HB.out⟩
def hasK (L:List Pr) (x:List UInt8):Bool:=(L.map Pr.key).contains x
theorem hasK_at{x:List UInt8}{M:List Pr}{k:Nat}(h:k<M.length)(hx:M[k].key=x):hasK M x=true:=by
 unfold hasK;rw[List.contains_iff_mem,List.mem_map];exact⟨M[k],List.getElem_mem h,hx⟩
theorem hasK_none{x:List UInt8}{M:List Pr}(h:x∉M.map Pr.key):hasK M x=false:=by
 unfold hasK;rw[Bool.eq_false_iff];intro q;exact h (List.contains_iff_mem.1 q)
def depR:Int→List Ins→List Int
 | _,[]=>[]
 | d,x::r=>d::depR (if leaI x=true then 0 else behI d x) r
theorem depR_length:∀(d:Int) (l:List Ins),(depR d l).length=l.length
 | _,[]=>rfl
 | d,x::r=>by unfold depR;rw[List.length_cons,depR_length,List.length_cons]
def okP (p:Ins × Int):Bool:=decide (takeI p.1≤p.2) && !badI p.2 p.1
def deepB (l:List Ins) (D:List Int):Bool:=(l.zip D).all fun p=>okP p && jokS D p.1
theorem depG_ok:∀(l:List Ins) (d:Int) (acc:List Int),((l.zip (depR d l)).all okP=true→depG acc d l=(acc++depR d l,true))∧((l.zip (depR d l)).all okP=false→depG acc d l=([],false))
 | [],d,acc=>⟨fun _=>by simp[depG,depR],fun h=>by simp[depR]at h⟩
 | x::r,d,acc=>by
  have ih:=depG_ok r (if leaI x=true then 0 else behI d x) (acc++[d]);show ((((x,d)::r.zip _).all okP=true→_)∧(((x,d)::r.zip _).all okP=false→_));by_cases h1:d<takeI x
  ·have ho:okP (x,d)=false:=by unfold okP;simp;omega
   have hg:depG acc d (x::r)=([],false):=by rw[depG,if_pos h1]
   refine⟨fun h=>by simp[ho]at h,fun _=>hg⟩
  ·by_cases h2:badI d x=true
   ·have ho:okP (x,d)=false:=by unfold okP;simp[h2]
    have hg:depG acc d (x::r)=([],false):=by rw[depG,if_neg h1,if_pos h2]
    refine⟨fun h=>by simp[ho]at h,fun _=>hg⟩
   ·have ho:okP (x,d)=true:=by unfold okP;simp[h2];omega
    have hd:(if leaI x=true then 0 else behI d x)=behI d x:=by
     split
     ·rename_i h3
      unfold badI at h2;simp only[h3,Bool.true_or,Bool.and_true,Bool.or_eq_true,decide_eq_true_eq,not_or,ne_eq,Classical.not_not]at h2;omega
     ·rfl
    have hg:depG acc d (x::r)=depG (acc++[d]) (behI d x) r:=by rw[depG,if_neg h1,if_neg h2]
    rw[hd]at ih;rw[hg,show depR d (x::r)=d::depR (behI d x) r from congrArg (fun q=>d::depR q r) hd];simp only[List.all_cons,ho,Bool.true_and,hd];refine⟨fun h=>by rw[ih.1 h];simp,fun h=>ih.2 h⟩
theorem all_and(l:List (Ins × Int))(f g:Ins × Int→Bool):(l.all fun p=>f p && g p)=(l.all f && l.all g):=by
 induction l with
 | nil=>rfl
 | cons x r ih=>simp only[List.all_cons,ih];cases f x<;>cases g x<;>simp
theorem all_fst(g:Ins→Bool):∀(l:List Ins) (D:List Int),D.length=l.length→((l.zip D).all fun p=>g p.1)=l.all g
 | [],_,_=>by simp
 | x::r,[],h=>by simp at h
 | x::r,d::D,h=>by simp only[List.zip_cons_cons,List.all_cons];rw[all_fst g r D (by simpa using h)]
def valR (c:Cd):Int:=
 if 4096<c.l.length∨64<c.sl then 2 else if c.p.all tyB=false then 23 else if c.sl<(c.p.length:Int) then 23
 else if c.l.all (insS c.sl (c.l.length:Int))=false then 23 else if deepB c.l (depR 0 c.l)=false∨c.l.length=0∨leaI (lastI c.l)=false then 23 else 0
theorem valR_eq(c:Cd):valR c=valC c:=by
 unfold valR valC
 have hD:deepB c.l (depR 0 c.l)=((c.l.zip (depR 0 c.l)).all okP && c.l.all (jokS (depR 0 c.l))):=by
  unfold deepB;rw[all_and,all_fst _ _ _ (depR_length 0 c.l)]
 have hg:=depG_ok c.l 0 [];by_cases h1:4096<c.l.length∨64<c.sl
 ·rw[if_pos h1,if_pos h1]
 rw[if_neg h1,if_neg h1];by_cases h2:c.p.all tyB=false
 ·rw[if_pos h2,if_pos h2]
 rw[if_neg h2,if_neg h2];by_cases h3:c.sl<(c.p.length:Int)
 ·rw[if_pos h3,if_pos (.inl h3)]
 rw[if_neg h3];by_cases h4:c.l.length=0
 ·rw[if_pos (Or.inr h4:c.sl<(c.p.length:Int)∨c.l.length=0)]
  rw[if_pos (Or.inr (Or.inl h4):deepB c.l (depR 0 c.l)=false∨c.l.length=0∨leaI (lastI c.l)=false)];simp
 rw[if_neg (show ¬(c.sl<(c.p.length:Int)∨c.l.length=0) from fun h=>h.elim h3 h4)];by_cases h5:c.l.all (insS c.sl (c.l.length:Int))=false
 ·rw[if_pos h5,if_pos h5]
 rw[if_neg h5,if_neg h5];by_cases h6:(c.l.zip (depR 0 c.l)).all okP=true
 ·rw[hg.1 h6]
  simp only[List.nil_append];rw[hD,h6];simp only[Bool.true_and];by_cases h7:leaI (lastI c.l)=false
  ·rw[if_pos (Or.inr (Or.inr h7)),if_pos (Or.inr h7)]
  ·rw[if_neg (show ¬(true=false∨leaI (lastI c.l)=false) from fun h=>h.elim (by simp) h7)]
   by_cases h8:c.l.all (jokS (depR 0 c.l))=false
   ·rw[if_pos (.inl h8),if_pos h8]
   ·rw[if_neg (show ¬(_∨_∨_) from fun h=>h.elim h8 fun h=>h.elim h4 h7),if_neg h8]
 ·have h6':(c.l.zip (depR 0 c.l)).all okP=false:=by simpa using h6
  rw[hg.2 h6'];rw[hD,h6'];simp
theorem valC_parts{c:Cd}(h:valC c=0):c.l.length≤4096∧c.sl≤64∧c.p.all tyB=true∧(c.p.length:Int)≤c.sl∧c.l.all (insS c.sl (c.l.length:Int))=true∧c.l.length≠0∧(depG [] 0 c.l).2=true∧leaI (lastI c.l)=true∧c.l.all (jokS (depG [] 0 c.l).1)=true:=by
 unfold valC at h;split at h
 ·exact absurd h (by decide)
 rename_i h1;split at h
 ·exact absurd h (by decide)
 rename_i h2;split at h
 ·exact absurd h (by decide)
 rename_i h3;split at h
 ·exact absurd h (by decide)
 rename_i h4;split at h
 ·exact absurd h (by decide)
 rename_i h5;split at h
 ·exact absurd h (by decide)
 rename_i h6;simp only[not_or,Bool.not_eq_false]at h1 h2 h3 h4 h5 h6;exact⟨by omega,by omega,h2,by omega,h4,h3.2,h5.1,h5.2,h6⟩
def depth0 (c:Cd):List Int:=depR 0 c.l
theorem depR_succ:∀(l:List Ins) (d:Int) (k:Nat),k+1<l.length→(depR d l).getD (k+1) 0=if leaI (l.getD k ins0)=true then 0 else behI ((depR d l).getD k 0) (l.getD k ins0)
 | [],_,_,h=>by simp at h
 | [_],_,k,h=>by simp at h
 | x::y::r,d,0,_=>rfl
 | x::y::r,d,k+1,h=>depR_succ (y::r) (if leaI x=true then 0 else behI d x) k (by simpa using h)
theorem all_get{α:Type}{p:α→Bool}{l:List α}(h:l.all p=true){k:Nat}(hk:k<l.length)(d:α):p (l.getD k d)=true:=by
 rw[List.getD_eq_getElem?_getD,List.getElem?_eq_getElem hk];exact List.all_eq_true.1 h _ (List.getElem_mem hk)
theorem zip_get:∀(l:List Ins) (D:List Int) (k:Nat),k<l.length→D.length=l.length→(l.zip D).getD k (ins0,0)=(l.getD k ins0,D.getD k 0)
 | [],_,_,h,_=>by simp at h
 | _::_,[],_,_,h=>by simp at h
 | x::r,d::D,0,_,_=>rfl
 | x::r,d::D,k+1,h,h2=>zip_get r D k (by simpa using h) (by simpa using h2)
theorem last_get{l:List Ins}{k:Nat}(h:k+1=l.length):lastI l=l.getD k ins0:=by
 unfold lastI;rw[List.getLastD_eq_getLast?,List.getLast?_eq_getElem?,List.getD_eq_getElem?_getD];rw[show l.length-1=k by omega]
theorem depR_zero(c:Cd):(depth0 c).getD 0 0=0:=by
 unfold depth0;cases c.l<;>rfl
theorem step_ok{c:Cd}(h:valC c=0){k:Nat}(hk:k<c.l.length):
  takeI (c.l.getD k ins0)≤(depth0 c).getD k 0∧behI ((depth0 c).getD k 0) (c.l.getD k ins0)≤64 ∧
  (leaI (c.l.getD k ins0)=true∨(c.l.getD k ins0).op=7→behI ((depth0 c).getD k 0) (c.l.getD k ins0)=0) ∧
  (jmpI (c.l.getD k ins0)=true→0≤(c.l.getD k ins0).a∧(c.l.getD k ins0).a<(c.l.length:Int)∧(depth0 c).getD (c.l.getD k ins0).a.toNat 0=0) ∧
  (leaI (c.l.getD k ins0)=false→k+1<c.l.length∧(depth0 c).getD (k+1) 0=behI ((depth0 c).getD k 0) (c.l.getD k ins0)):=by
 obtain⟨h1,h2,h3,h4,h5,h6,h7,h8,h9⟩:=valC_parts h;have hg:=depG_ok c.l 0 []
 have ho:(c.l.zip (depR 0 c.l)).all okP=true:=by
  cases e:(c.l.zip (depR 0 c.l)).all okP with
  | true=>rfl
  | false=>rw[hg.2 e]at h7;cases h7
 rw[hg.1 ho]at h9;simp only[List.nil_append]at h9;have hl:=depR_length 0 c.l;have hz:=all_get ho (k:=k) (by rw[List.length_zip,hl];omega) (ins0,0);rw[zip_get _ _ _ hk hl]at hz;have hj:=all_get h9 hk ins0;have hi:=all_get h5 hk ins0;unfold depth0;have hs:=depR_succ c.l 0 k;generalize hx:c.l.getD k ins0=x at hz hj hi hs;generalize (depR 0 c.l).getD k 0=d at hz hs;unfold okP badI at hz;simp only[Bool.and_eq_true,decide_eq_true_eq,Bool.not_eq_true',Bool.or_eq_false_iff,decide_eq_false_iff_not,Bool.and_eq_false_iff,ne_eq,Classical.not_not]at hz;refine⟨hz.1,by omega,fun hq=>?_,fun hq=>?_,fun hq=>?_⟩
 ·rcases hz.2.2 with e|e
  ·exact e
  ·rcases hq with q|q
   ·rw[q]at e;simp at e
   ·exact absurd q (by simpa using e.2)
 ·have hr:0≤x.a∧x.a<(c.l.length:Int):=by
   unfold insS at hi;simp only[Bool.and_eq_true,decide_eq_true_eq]at hi
   have h6:x.op=6∨x.op=7:=by unfold jmpI at hq;simpa using hq
   have h3:=hi.2.2;rw[if_neg (by omega),if_neg (by omega),if_neg (by omega),if_pos h6]at h3;unfold inR at h3;simpa using h3
  refine⟨hr.1,hr.2,?_⟩;unfold jokS at hj;rw[hq]at hj;simp only[Bool.not_true,Bool.false_or,decide_eq_true_eq]at hj;rw[List.getD_eq_getElem?_getD]at hj ⊢;rw[List.getElem?_eq_getElem (by rw[hl];omega)]at hj ⊢;exact hj
 ·have hlt:k+1<c.l.length:=by
   rcases Nat.lt_or_ge (k+1) c.l.length with q|q
   ·exact q
   ·rw[last_get (k:=k) (by omega),hx,hq]at h8;cases h8
  exact⟨hlt,by rw[hs hlt,hq];rfl⟩
theorem all_no{α:Type}{p:α→Bool}{l:List α}{k:Nat}(hk:k<l.length)(h:p l[k]=false):l.all p=false:=by
 rw[←Bool.not_eq_true];intro e;rw[List.all_eq_true]at e;rw[e _ (List.getElem_mem hk)]at h;cases h
theorem all_tk{α:Type}{p:α→Bool}{l:List α}{k:Nat}(hk:k<l.length)(h:(l.take k).all p=true)(h2:p l[k]=true):(l.take (k+1)).all p=true:=by
 rw[List.take_add_one,List.getElem?_eq_getElem hk,List.all_append,h];simp[h2]
theorem all_full{α:Type}{p:α→Bool}{l:List α}{k:Nat}(hk:¬k<l.length)(h:(l.take k).all p=true):l.all p=true:=by
 rw[List.take_of_length_le (by omega)]at h;exact h
theorem depG_len:∀(l:List Ins) (A:List Int) (d:Int),(depG A d l).2=true→(depG A d l).1.length=A.length+l.length
 | [],A,d,_=>rfl
 | x::r,A,d,h=>by
  unfold depG at h ⊢;split at h
  ·cases h
  ·split at h
   ·cases h
   ·rename_i h1 h2
    rw[if_neg h1,if_neg h2,depG_len r _ _ h,List.length_append];simp only[List.length_cons,List.length_nil];omega
theorem val_lim{c:Cd}(h:4096<c.l.length∨64<c.sl):valC c=2:=by unfold valC;rw[if_pos h]
theorem val_bad{c:Cd}(h1:¬(4096<c.l.length∨64<c.sl))(h:c.p.all tyB=false∨(c.sl<(c.p.length:Int)∨c.l.length=0)∨c.l.all (insS c.sl (c.l.length:Int))=false∨((depG [] 0 c.l).2=false∨leaI (lastI c.l)=false)∨c.l.all (jokS (depG [] 0 c.l).1)=false):valC c=23:=by
 unfold valC;rw[if_neg h1];split
 ·rfl
 ·rename_i h2
  split
  ·rfl
  ·rename_i h3
   split
   ·rfl
   ·rename_i h4
    split
    ·rfl
    ·rename_i h5
     split
     ·rfl
     ·rename_i h6
      rcases h with h|h|h|h|h
      ·exact absurd h h2
      ·exact absurd h h3
      ·exact absurd h h4
      ·exact absurd h h5
      ·exact absurd h h6
theorem val_ok{c:Cd}(h1:¬(4096<c.l.length∨64<c.sl))(h2:c.p.all tyB=true)(h3:¬(c.sl<(c.p.length:Int)∨c.l.length=0))(h4:c.l.all (insS c.sl (c.l.length:Int))=true)(h5:(depG [] 0 c.l).2=true)(h6:leaI (lastI c.l)=true)(h7:c.l.all (jokS (depG [] 0 c.l).1)=true):valC c=0:=by
 unfold valC;rw[if_neg h1,if_neg (by simp[h2]),if_neg h3,if_neg (by simp[h4]),if_neg (by simp[h5,h6]),if_neg (by simp[h7])]
theorem ins_tgt{sl n:Int}{x:Ins}(h:insS sl n x=true)(hj:jmpI x=true):0≤x.a∧x.a<n:=by
 unfold insS at h;simp only[Bool.and_eq_true]at h;obtain⟨_,_,h⟩:=h;unfold jmpI at hj;simp only[Bool.or_eq_true,decide_eq_true_eq]at hj;rw[if_neg (by omega),if_neg (by omega),if_neg (by omega),if_pos hj]at h;unfold inR at h;simpa using h
theorem jok_no{D:List Int}{x:Ins}(h:jmpI x=false):jokS D x=true:=by unfold jokS;rw[h];rfl
theorem jok_yes{D:List Int}{x:Ins}{k:Nat}{v:Int}(h:jmpI x=true)(ha:x.a=(k:Int))(hk:k<D.length)(hv:D[k]=v):jokS D x=decide (v=0):=by
 unfold jokS;rw[h,ha,Int.toNat_natCast,List.getD_eq_getElem?_getD,List.getElem?_eq_getElem hk,Option.getD_some,hv];rfl
theorem Validate_any(pa ia:Option Addr)(pc ic:Nat)(P:List Int)(sl:Int)(l:List Ins)(w:World)(hP:CellsAt w (.slice pa P.length pc) P.length (intsL P))(hI:CellsAt w (.slice ia l.length ic) l.length (insLs l))(hp:P.length≤9223372036854775806)(hs:∀x∈l,x.s.length≤9223372036854775807)(hB:LaidB w):
  Calls prog 14 #[.agg #[.slice pa P.length pc,.int .i64 sl,.slice ia l.length ic]] w fun e w'=>e=.returned (.int .i64 (valC ⟨P,sl,l⟩))∧Below w.heap.size w w':=by
 obtain⟨V,hV⟩:=ex_ (valC ⟨P,sl,l⟩);rw[hV];have HV:=h_ hV;clear hV;have HPA:=h_ hP;have HIA:=h_ hI;have HS:=h_ hs;have HLB:=h_ hB;clear hP hI hs hB;obtain⟨v0,hW0,hb0,hc0⟩:=boxes1 w #[.slice pa P.length pc,.int .i64 sl,.slice ia l.length ic] 25;have HW:=h_ hW0;have HB:=h_ hb0;have HC:=h_ hc0;clear hW0 hb0 hc0;go_enter func14,ntmps14;go_upto_region 1 with (fail);rw[HW.out];clear HW;obtain⟨c0,c1,c2⟩:=HC.out.c3;by_cases h1:4096<l.length
 ·have h1':(4096:Int)<(l.length:Int):=by omega
  have hF:V=2:=HV.out.symm.trans (val_lim (.inl h1));have HF:=h_ hF;clear hF;go_wp2;go_ret;exact⟨by rw[HF.out]<;>rfl,HB.out⟩
 have h1':¬(4096:Int)<(l.length:Int):=by omega
 by_cases h2:64<sl
 ·skip
  have hF:V=2:=HV.out.symm.trans (val_lim (.inr h2));have HF:=h_ hF;clear hF;go_wp2;go_ret;exact⟨by rw[HF.out]<;>rfl,HB.out⟩
 have HL:=h_ (show ¬(4096<(⟨P,sl,l⟩:Cd).l.length∨64<(⟨P,sl,l⟩:Cd).sl) from fun h=>h.elim h1 h2)
 have hll:l.length≤4096:=by omega
 clear h1;go_wp2;go_loopw [23] (fun i wr=>∃k:Nat,k≤P.length∧i=.int .i64 k∧wr=v0∧Hid ((P.take k).all tyB=true)) (fun i _=>P.length-(intOf i).toNat)
 case atStart=>exact⟨0,Nat.zero_le _,rfl,rfl,h_ rfl⟩
 case round =>
  obtain⟨k,hk,rfl,rfl,HQ⟩:=hrel;by_cases hlt:k<P.length
  ·have hlt':(k:Int)<(P.length:Int):=by omega
   have hw1:IntKind.i64.wrap ((k:Int)+1)=(k:Int)+1:=by rw[IntKind.wrap_i64];omega
   obtain⟨ba,oa,rfl,p0⟩:=int_cells (HPA.out.below HB.out) hlt;obtain⟨t,ht⟩:=ex_ (P[k]);rw[ht]at p0;have HT:=h_ ht;clear ht;by_cases e1:t=1
   ·have t1:(t != 1)=false:=by rw[e1];rfl
    have H1:=h_ e1;clear e1;have HN:=h_ (all_tk hlt HQ.out (by rw[HT.out];exact by rw[H1.out];rfl));go_wp2;go_roundw
    case rel=>exact⟨k+1,by omega,by go_num,by first|exact True.intro|rfl,HN⟩
    case measure=>simp[intOf];omega
   have t1:(t != 1)=true:=by rw[bne_iff_ne];exact e1
   by_cases e2:t=2
   ·have t2:(t != 2)=false:=by rw[e2];rfl
    have H1:=h_ e2;clear e1 e2;have HN:=h_ (all_tk hlt HQ.out (by rw[HT.out];exact by rw[H1.out];rfl));go_wp2;go_roundw
    case rel=>exact⟨k+1,by omega,by go_num,by first|exact True.intro|rfl,HN⟩
    case measure=>simp[intOf];omega
   have t2:(t != 2)=true:=by rw[bne_iff_ne];exact e2
   have HE:=h_ (show tyB t=false by unfold tyB;rw[decide_eq_false e1,decide_eq_false e2];rfl);clear e1 e2;have hF:V=23:=HV.out.symm.trans (val_bad HL.out (.inl (all_no hlt (by rw[HT.out];exact HE.out))));have HF:=h_ hF;clear hF;go_wp2;go_ret;exact⟨by rw[HF.out]<;>rfl,HB.out⟩
  ·have hlt':¬(k:Int)<(P.length:Int):=by omega
   have HTY:=h_ (all_full hlt HQ.out);clear HQ;by_cases h3:sl<(P.length:Int)
   ·skip
    have hF:V=23:=HV.out.symm.trans (val_bad HL.out (.inr (.inl (.inl h3))));have HF:=h_ hF;clear hF;go_wp2;go_ret;exact⟨by rw[HF.out]<;>rfl,HB.out⟩
   by_cases h4:l.length=0
   ·have h4':((l.length:Int)==0)=true:=by rw[beq_iff_eq];omega
    have H4:=h_ h4;clear h4;have hF:V=23:=HV.out.symm.trans (val_bad HL.out (.inr (.inl (.inr H4.out))));have HF:=h_ hF;clear hF;go_wp2;go_ret;exact⟨by rw[HF.out]<;>rfl,HB.out⟩
   have h4':((l.length:Int)==0)=false:=by rw[beq_eq_false_iff_ne];omega
   have H34:=h_ (show ¬((⟨P,sl,l⟩:Cd).sl<((⟨P,sl,l⟩:Cd).p.length:Int)∨(⟨P,sl,l⟩:Cd).l.length=0) from fun h=>h.elim h3 h4)
   have hpos:0<l.length:=by omega
   clear hlt hk;go_upto_region 11 with (fail);clear h4;go_wp2;go_loopw [49] (fun i wr=>∃k:Nat,k≤l.length∧i=.int .i64 k∧Hid ((l.take k).all (insS sl (l.length:Int))=true)∧Hid (Bx w.heap.size #[.slice pa P.length pc,.int .i64 sl,.slice ia l.length ic] 25 wr)∧Below w.heap.size w wr) (fun i _=>l.length-(intOf i).toNat)
   case atStart=>exact⟨0,Nat.zero_le _,rfl,h_ rfl,HC,HB.out⟩
   case round =>
    clear c0 c1 c2 HB HC;obtain⟨k,hk,rfl,HQ,HC,hB⟩:=hrel;have HB:=h_ hB;clear hB;by_cases hlt:k<l.length
    ·have hlt':(k:Int)<(l.length:Int):=by omega
     have hw1:IntKind.i64.wrap ((k:Int)+1)=(k:Int)+1:=by rw[IntKind.wrap_i64];omega
     obtain⟨ba,oa,rfl,p0,p1,p2,p3,p4⟩:=ins_cells (HIA.out.below HB.out) hlt;have hxs:=HS.out _ (List.getElem_mem hlt);obtain⟨⟨op,a,b,n,s⟩,hxe⟩:∃x,l[k]=x:=⟨_,rfl⟩;rw[hxe]at p0 p1 p2 p3 p4 hxs;simp only at p0 p1 p2 p3 p4 hxs;have HXE:=h_ hxe;clear hxe;have hal:=(Below.refl wr.heap.size wr).alloc (Nat.le_refl _) (.cells #[.int .i64 op,.int .i64 a,.int .i64 b,.int .i64 n,.string (bs s)] 45);have HX:=h_ (Bx.new wr #[.int .i64 op,.int .i64 a,.int .i64 b,.int .i64 n,.string (bs s)] 45);have HB:=bt HB hal;have HC:=HC.out.k hal;clear hal;go_upto_region 14 with (fail);clear p0 p1 p2 p3 p4;generalize hW:wr.alloc (.cells #[.int .i64 op,.int .i64 a,.int .i64 b,.int .i64 n,.string (bs s)] 45)=v1 at HX HB HC  ⊢;clear hW;obtain⟨c0,c1,c2⟩:=HC.out.c3;obtain⟨x0,x1,x2,x3,x4⟩:=HX.out.c5;obtain⟨iv,hiv⟩:=ex_ (insS sl (l.length:Int) ⟨op,a,b,n,s⟩);have HIV:=h_ hiv;clear hiv;go_wp2_with fail;have hcl:=validInstr_any pa (some ⟨ba,oa,none⟩) P.length pc l.length ic sl ⟨op,a,b,n,s⟩ hxs v1 (HLB.out.below HB.out);simp only[insV]at hcl;refine hcl.mono ?_;rw[HIV.out];clear hcl;rintro er w2 ⟨rfl,hb1⟩;clear c0 c1 c2 x0 x1 x2 x3 x4;have HB:=bt HB hb1;have HC:=HC.out.k hb1;clear hb1 HX
     cases iv with
     | false =>
      have hF:V=23:=HV.out.symm.trans (val_bad HL.out (.inr (.inr (.inl (all_no hlt (by rw[HXE.out];exact HIV.out))))));have HF:=h_ hF;clear hF;go_wp2;go_ret;exact⟨by rw[HF.out]<;>rfl,HB.out⟩
     | true =>
      have HN:=h_ (all_tk hlt HQ.out (by rw[HXE.out];exact HIV.out));go_wp2;go_roundw
      case rel=>exact⟨k+1,by omega,by go_num,HN,HC,HB.out⟩
      case measure=>simp[intOf];omega
    ·have hlt':¬(k:Int)<(l.length:Int):=by omega
     have HINS:=h_ (all_full hlt HQ.out);clear HQ hlt hk;obtain⟨c0,c1,c2⟩:=HC.out.c3;obtain⟨⟨D,g⟩,hD⟩:∃R,depG [] 0 l=R:=⟨_,rfl⟩;have HD:=h_ hD;clear hD;go_wp2_with fail;refine(depths_any _ l _ (HIA.out.below HB.out) hll).mono ?_;rw[HD.out];rintro er w3 ⟨v3,rfl,hcd,hb1⟩;simp only at hcd;clear c0 c1 c2;have HB:=bt HB hb1;have HC:=HC.out.k hb1;have HDC:=h_ hcd;clear hb1 hcd;obtain⟨c0,c1,c2⟩:=HC.out.c3
     cases g with
     | false =>
      have HE:=h_ (show (depG [] 0 l).2=false by rw[HD.out]);have hF:V=23:=HV.out.symm.trans (val_bad HL.out (.inr (.inr (.inr (.inl (.inl HE.out))))));have HF:=h_ hF;clear hF;go_wp2;go_ret;exact⟨by rw[HF.out]<;>rfl,HB.out⟩
     | true =>
      have hDl:D.length=l.length:=by have:=depG_len l [] 0 (by rw[HD.out]);rw[HD.out]at this;simpa using this
      have HE:=h_ (show (depG [] 0 l).2=true by rw[HD.out]);have HDl:=h_ hDl;clear hDl
      have hkm:l.length-1<l.length:=by omega
      have hwm:IntKind.i64.wrap ((l.length:Int)-1)=((l.length-1:Nat):Int):=by rw[IntKind.wrap_i64];omega
      obtain⟨bm,om,hiam,p0,p1,p2,p3,p4⟩:=ins_cells (HIA.out.below HB.out) hkm;obtain⟨m,hm⟩:=ex_ (l.length-1)
      have hkm2:m<l.length:=by omega
      have hkm3:(m:Int)<(l.length:Int):=by omega
      obtain⟨⟨op,a,b,n,s⟩,hxe⟩:∃x,l[m]=x:=⟨_,rfl⟩
      have hla:lastI l=⟨op,a,b,n,s⟩:=by rw[last_get (k:=m) (by omega),←hxe,List.getD_eq_getElem?_getD,List.getElem?_eq_getElem hkm2];rfl
      simp only[hm,hxe]at p0 p1 p2 p3 p4 hwm;have HLA:=h_ hla;have HIAM:=h_ hiam;clear hla hkm hm hxe hiam;have hiam2:=HIAM.out;subst hiam2;clear HIAM;obtain⟨lv,hlv⟩:=ex_ (leaI ⟨op,a,b,n,s⟩);have HLV:=h_ hlv;clear hlv;go_wp2_with fail;have hcl:=leaves_any ⟨op,a,b,n,s⟩;simp only[insV]at hcl;refine(hcl _).mono ?_;rw[HLV.out];clear hcl;rintro er w4 ⟨rfl,hb1⟩;clear p0 p1 p2 p3 p4 c0 c1 c2;have HB:=bt HB hb1;have HC:=HC.out.k hb1;have HDC:=h_ (HDC.out.below hb1);clear hb1;obtain⟨c0,c1,c2⟩:=HC.out.c3
      cases lv with
      | false =>
       have hF:V=23:=HV.out.symm.trans (val_bad HL.out (.inr (.inr (.inr (.inl (.inr (by rw[show lastI (⟨P,sl,l⟩:Cd).l=_ from HLA.out];exact HLV.out)))))));have HF:=h_ hF;clear hF;go_wp2;go_ret;exact⟨by rw[HF.out]<;>rfl,HB.out⟩
      | true =>
       have HLL:=h_ (show leaI (lastI l)=true by rw[HLA.out];exact HLV.out);clear HLA HLV hkm2 hkm3 hwm;go_wp2;go_loopw [81] (fun i wr=>∃k:Nat,k≤l.length∧i=.int .i64 k∧Hid ((l.take k).all (jokS D)=true)∧Hid (Bx w.heap.size #[.slice pa P.length pc,.int .i64 sl,.slice (some ⟨bm,om,none⟩) l.length ic] 25 wr)∧Hid (CellsAt wr v3 D.length (intsL D))∧Below w.heap.size w wr) (fun i _=>l.length-(intOf i).toNat)
       case atStart=>exact⟨0,Nat.zero_le _,rfl,h_ rfl,HC,HDC,HB.out⟩
       case round =>
        clear c0 c1 c2 HB HC HDC;obtain⟨k,hk,rfl,HQ,HC,HDC,hB⟩:=hrel;have HB:=h_ hB;clear hB;by_cases hlt:k<l.length
        ·have hlt':(k:Int)<(l.length:Int):=by omega
         have hw1:IntKind.i64.wrap ((k:Int)+1)=(k:Int)+1:=by rw[IntKind.wrap_i64];omega
         obtain⟨pb,po,hpe,p0,p1,p2,p3,p4⟩:=ins_cells (HIA.out.below HB.out) hlt;cases hpe;have hiv:=List.all_eq_true.1 HINS.out _ (List.getElem_mem hlt);obtain⟨⟨jop,ja,jb,jn,js⟩,hxe⟩:∃x,l[k]=x:=⟨_,rfl⟩;rw[hxe]at p0 p1 p2 p3 p4 hiv;simp only at p0 p1 p2 p3 p4;have HXE:=h_ hxe;have HIV:=h_ hiv;clear hxe hiv;have hal:=(Below.refl wr.heap.size wr).alloc (Nat.le_refl _) (.cells #[.int .i64 jop,.int .i64 ja,.int .i64 jb,.int .i64 jn,.string (bs js)] 45);have HX:=h_ (Bx.new wr #[.int .i64 jop,.int .i64 ja,.int .i64 jb,.int .i64 jn,.string (bs js)] 45);have HB:=bt HB hal;have HC:=HC.out.k hal;have HDC:=h_ (HDC.out.below hal);clear hal;go_upto_region 23 with (fail);clear p0 p1 p2 p3 p4;generalize hW:wr.alloc (.cells #[.int .i64 jop,.int .i64 ja,.int .i64 jb,.int .i64 jn,.string (bs js)] 45)=v5 at HX HB HC HDC ⊢;clear hW;obtain⟨x0,x1,x2,x3,x4⟩:=HX.out.c5;obtain⟨jv,hjv⟩:=ex_ (jmpI ⟨jop,ja,jb,jn,js⟩);have HJV:=h_ hjv;clear hjv;go_wp2_with fail;have hcl:=jumps_any ⟨jop,ja,jb,jn,js⟩;simp only[insV]at hcl;refine(hcl _).mono ?_;rw[HJV.out];clear hcl;rintro er w6 ⟨rfl,hb1⟩;clear x0 x1 x2 x3 x4;have HB:=bt HB hb1;have HC:=HC.out.k hb1;have HDC:=h_ (HDC.out.below hb1);have HX:=HX.out.k hb1;clear hb1;obtain⟨x0,x1,x2,x3,x4⟩:=HX.out.c5
         cases jv with
         | false =>
          have HN:=h_ (all_tk hlt HQ.out (by rw[HXE.out];exact jok_no HJV.out));go_wp2;go_roundw
          case rel=>exact⟨k+1,by omega,by go_num,HN,HC,HDC,HB.out⟩
          case measure=>simp[intOf];omega
         | true =>
          obtain⟨ha0,ha1⟩:=ins_tgt HIV.out HJV.out;simp only at ha0 ha1;obtain⟨j,rfl⟩:∃j:Nat,ja=(j:Int):=⟨ja.toNat,by omega⟩
          have hj1:j<D.length:=by rw[HDl.out];omega
          have hj2:(j:Int)<(D.length:Int):=by omega
          obtain⟨ad,cap,hve,-⟩:=id HDC.out;subst hve;obtain⟨bd,od,rfl,d0⟩:=int_cells HDC.out hj1;obtain⟨dv,hdv⟩:=ex_ (D[j]);rw[hdv]at d0;have HDV:=h_ hdv;clear hdv ha0 ha1;by_cases h0:dv=0
          ·have t0:(dv != 0)=false:=by rw[h0];rfl
           have H0:=h_ h0;clear h0;have HN:=h_ (all_tk hlt HQ.out (by rw[HXE.out];exact(jok_yes HJV.out rfl hj1 HDV.out).trans (by rw[H0.out];rfl)));go_wp2;go_roundw
           case rel=>exact⟨k+1,by omega,by go_num,HN,HC,HDC,HB.out⟩
           case measure=>simp[intOf];omega
          have t0:(dv != 0)=true:=by rw[bne_iff_ne];exact h0
          have HE2:=h_ (show (depG [] 0 l).1=D by rw[HD.out]);have H0:=h_ h0;clear h0;have hF:V=23:=HV.out.symm.trans (val_bad HL.out (.inr (.inr (.inr (.inr (all_no hlt (by rw[HXE.out,show (depG [] 0 (⟨P,sl,l⟩:Cd).l).1=D from HE2.out];exact(jok_yes HJV.out rfl hj1 HDV.out).trans (decide_eq_false H0.out))))))));have HF:=h_ hF;clear hF;go_wp2;go_ret;exact⟨by rw[HF.out]<;>rfl,HB.out⟩
        ·have hlt':¬(k:Int)<(l.length:Int):=by omega
         have HJ:=h_ (all_full hlt HQ.out);have HE2:=h_ (show (depG [] 0 l).1=D by rw[HD.out]);have hF:V=0:=HV.out.symm.trans (val_ok HL.out HTY.out H34.out HINS.out HE.out HLL.out (by rw[show (depG [] 0 (⟨P,sl,l⟩:Cd).l).1=D from HE2.out];exact HJ.out));have HF:=h_ hF;clear hF;go_wp2;go_ret;exact⟨by rw[HF.out]<;>rfl,HB.out⟩
def stpK (l:List (List UInt8)) (i:Nat):Bool:=keyB (l.getD i []) && (decide (i=0) || Op.bytesLess (l.getD (i-1) []) (l.getD i []))
def ascK (l:List (List UInt8)):Bool:=(List.range l.length).all (stpK l)
def ascS (l:List (List UInt8)):Bool:=ascK l && decide (l.length≤64)
def ftB (f:Ft):Bool:=if f.all=true then decide (f.rd.length=0) && decide (f.wr.length=0) else ascS f.rd && ascS f.wr
def varB (v:Vl):Bool:=if v.k=3 then (decide (v.n=0) || decide (v.n=1)) && (v.s==[]) else !decide (v.k=0) && vaB v
theorem rng_step{p:Nat→Bool}{k:Nat}(h:(List.range k).all p=true)(h2:p k=true):(List.range (k+1)).all p=true:=by
 rw[List.range_succ,List.all_append,h,Bool.true_and,List.all_cons,List.all_nil,Bool.and_true,h2]
theorem rng_bad{p:Nat→Bool}{k n:Nat}(hk:k<n)(h2:p k=false):(List.range n).all p=false:=by
 rw[List.all_eq_false];exact⟨k,List.mem_range.2 hk,by rw[h2];simp⟩
theorem getD_at{α:Type}{l:List α}{k:Nat}(h:k<l.length)(d:α):l.getD k d=l[k]:=by rw[List.getD_eq_getElem?_getD,List.getElem?_eq_getElem h];rfl
theorem ascend_any(a:Option Addr)(cap:Nat)(M:List (List UInt8))(w:World)(hl:M.length≤9000000000000)(hx:∀q∈M,q.length≤9223372036854775807)(hM:StrS w (.slice a M.length cap) M):
  Calls prog 58 #[.slice a M.length cap] w fun e w'=>e=.returned (.bool (ascS M))∧Below w.heap.size w w':=by
 obtain⟨R,hR⟩:=ex_ (ascS M);rw[hR];have HR:=h_ hR;have HM:=h_ hM;have HX:=h_ hx;clear hR hM hx;go_enter func58,ntmps58;go_wp2;go_loopw [7] (fun i wr=>∃k:Nat,k≤M.length∧i=.int .i64 k∧Hid ((List.range k).all (stpK M)=true)∧Below w.heap.size w wr) (fun i _=>M.length-(intOf i).toNat)
 case atStart=>exact⟨0,Nat.zero_le _,by first|exact True.intro|rfl,h_ rfl,Below.refl _ _⟩
 case round =>
  obtain⟨k,hk,rfl,HQ,hB⟩:=hrel;have HB:=h_ hB;clear hB;by_cases hlt:k<M.length
  ·have hlt':(k:Int)<(M.length:Int):=by omega
   have hw1:IntKind.i64.wrap ((k:Int)+1)=(k:Int)+1:=by rw[IntKind.wrap_i64];omega
   obtain⟨a0,c0,he,_,hc⟩:=HM.out.below HB.out;cases he;obtain⟨b,off,rfl,hcell⟩:=hc (by intro e;rw[e]at hlt;simp at hlt);have p0:=hcell k hlt;unfold strV at p0;obtain⟨m,hm⟩:=ex_ (M[k]);rw[hm]at p0
   have hml:m.length≤9223372036854775807:=by have:=HX.out _ (List.getElem_mem hlt);rw[hm]at this;exact this
   have HMK:=h_ hm;clear hm;obtain⟨kb,hkb⟩:=ex_ (keyB m);have HKB:=h_ hkb;clear hkb
   cases kb with
   | false =>
    have HF:=h_ (show R=false from HR.out.symm.trans (by unfold ascS ascK;rw[rng_bad hlt (by unfold stpK;rw[getD_at hlt,HMK.out,HKB.out];rfl)];rfl));clear hcell hc;rcases k with _|j
    ·rw[Nat.add_zero]at p0
     go_wp2_with fail;refine(KValid_any m hml _).mono ?_;rw[HKB.out];rintro er w1 ⟨rfl,hb1⟩;have HB:=bt HB hb1;clear hb1;go_wp2;go_ret;exact⟨by rw[HF.out]<;>rfl,HB.out⟩
    go_wp2_with fail;refine(KValid_any m hml _).mono ?_;rw[HKB.out];rintro er w1 ⟨rfl,hb1⟩;have HB:=bt HB hb1;clear hb1;go_wp2;go_ret;exact⟨by rw[HF.out]<;>rfl,HB.out⟩
   | true =>
    rcases k with _|j
    ·have HN:=h_ (rng_step HQ.out (show stpK M 0=true by unfold stpK;rw[getD_at hlt,HMK.out,HKB.out];rfl))
     clear hcell hc;rw[Nat.add_zero]at p0;go_wp2_with fail;refine(KValid_any m hml _).mono ?_;rw[HKB.out];rintro er w1 ⟨rfl,hb1⟩;have HB:=bt HB hb1;clear hb1;go_wp2;go_roundw
     case rel=>exact⟨1,by omega,by go_num,HN,HB.out⟩
     case measure=>simp[intOf];omega
    have hj:j<M.length:=by omega
    have p1:=hcell j hj;unfold strV at p1;obtain⟨m2,hm2⟩:=ex_ (M[j]);rw[hm2]at p1;have HMJ:=h_ hm2;clear hm2 hcell hc
    have hwj:IntKind.i64.wrap (((j+1:Nat):Int)-1)=(j:Int):=by rw[IntKind.wrap_i64];omega
    have hwj2:IntKind.i64.wrap ((j:Int)+1-1)=(j:Int):=by rw[IntKind.wrap_i64];omega
    have hgt:(0:Int)<((j+1:Nat):Int):=by omega
    have hgt2:(0:Int)<(j:Int)+1:=by omega
    have hj':(j:Int)<(M.length:Int):=by omega
    obtain⟨lb,hlb⟩:=ex_ (Op.bytesLess m2 m);have HLB:=h_ hlb;go_wp2_with fail;refine(KValid_any m hml _).mono ?_;rw[HKB.out];rintro er w1 ⟨rfl,hb1⟩;have p1:=cell1_below p1 hb1;have p0:=cell1_below p0 hb1;have HB:=bt HB hb1;clear hb1
    cases lb with
    | true =>
     have HN:=h_ (rng_step HQ.out (show stpK M (j+1)=true by unfold stpK;rw[getD_at hlt,HMK.out,HKB.out,Nat.add_sub_cancel,getD_at hj,HMJ.out,HLB.out];simp));go_wp2;go_roundw
     case rel=>exact⟨j+2,by omega,by go_num,HN,HB.out⟩
     case measure=>simp[intOf];omega
    | false =>
     have HF:=h_ (show R=false from HR.out.symm.trans (by unfold ascS ascK;rw[rng_bad hlt (by unfold stpK;rw[getD_at hlt,HMK.out,HKB.out,Nat.add_sub_cancel,getD_at hj,HMJ.out,HLB.out];simp)];rfl));go_wp2;go_ret;exact⟨by rw[HF.out]<;>rfl,HB.out⟩
  ·have hlt':¬(k:Int)<(M.length:Int):=by omega
   have hkl:k=M.length:=by omega
   have HA:=h_ (show ascS M=decide (M.length≤64) by unfold ascS ascK;rw[←hkl,HQ.out,Bool.true_and,hkl]);clear hkl;by_cases h64:M.length≤64
   ·have h64':(M.length:Int)≤64:=by omega
    have HF:=h_ (show R=true from HR.out.symm.trans (HA.out.trans (decide_eq_true h64)));go_wp2;go_ret;exact⟨by rw[HF.out]<;>rfl,HB.out⟩
   have h64':decide ((M.length:Int)≤64)=false:=decide_eq_false (by omega);have HF:=h_ (show R=false from HR.out.symm.trans (HA.out.trans (decide_eq_false h64)));go_wp2;go_ret;exact⟨by rw[HF.out]<;>rfl,HB.out⟩
theorem iascend_any(a:Option Addr)(cap:Nat)(M:List (List UInt8))(w:World)(hl:M.length≤9000000000000)(hx:∀q∈M,q.length≤9223372036854775807)(hM:StrS w (.slice a M.length cap) M):
  Calls prog 133 #[.slice a M.length cap] w fun e w'=>e=.returned (.bool (ascS M))∧Below w.heap.size w w':=by
 obtain⟨R,hR⟩:=ex_ (ascS M);rw[hR];have HR:=h_ hR;have HM:=h_ hM;have HX:=h_ hx;clear hR hM hx;go_enter func133,ntmps133;go_wp2;go_loopw [7] (fun i wr=>∃k:Nat,k≤M.length∧i=.int .i64 k∧Hid ((List.range k).all (stpK M)=true)∧Below w.heap.size w wr) (fun i _=>M.length-(intOf i).toNat)
 case atStart=>exact⟨0,Nat.zero_le _,by first|exact True.intro|rfl,h_ rfl,Below.refl _ _⟩
 case round =>
  obtain⟨k,hk,rfl,HQ,hB⟩:=hrel;have HB:=h_ hB;clear hB;by_cases hlt:k<M.length
  ·have hlt':(k:Int)<(M.length:Int):=by omega
   have hw1:IntKind.i64.wrap ((k:Int)+1)=(k:Int)+1:=by rw[IntKind.wrap_i64];omega
   obtain⟨a0,c0,he,_,hc⟩:=HM.out.below HB.out;cases he;obtain⟨b,off,rfl,hcell⟩:=hc (by intro e;rw[e]at hlt;simp at hlt);have p0:=hcell k hlt;unfold strV at p0;obtain⟨m,hm⟩:=ex_ (M[k]);rw[hm]at p0
   have hml:m.length≤9223372036854775807:=by have:=HX.out _ (List.getElem_mem hlt);rw[hm]at this;exact this
   have HMK:=h_ hm;clear hm;obtain⟨kb,hkb⟩:=ex_ (keyB m);have HKB:=h_ hkb;clear hkb
   cases kb with
   | false =>
    have HF:=h_ (show R=false from HR.out.symm.trans (by unfold ascS ascK;rw[rng_bad hlt (by unfold stpK;rw[getD_at hlt,HMK.out,HKB.out];rfl)];rfl));clear hcell hc;rcases k with _|j
    ·rw[Nat.add_zero]at p0
     go_wp2_with fail;refine(KValid_any m hml _).mono ?_;rw[HKB.out];rintro er w1 ⟨rfl,hb1⟩;have HB:=bt HB hb1;clear hb1;go_wp2;go_ret;exact⟨by rw[HF.out]<;>rfl,HB.out⟩
    go_wp2_with fail;refine(KValid_any m hml _).mono ?_;rw[HKB.out];rintro er w1 ⟨rfl,hb1⟩;have HB:=bt HB hb1;clear hb1;go_wp2;go_ret;exact⟨by rw[HF.out]<;>rfl,HB.out⟩
   | true =>
    rcases k with _|j
    ·have HN:=h_ (rng_step HQ.out (show stpK M 0=true by unfold stpK;rw[getD_at hlt,HMK.out,HKB.out];rfl))
     clear hcell hc;rw[Nat.add_zero]at p0;go_wp2_with fail;refine(KValid_any m hml _).mono ?_;rw[HKB.out];rintro er w1 ⟨rfl,hb1⟩;have HB:=bt HB hb1;clear hb1;go_wp2;go_roundw
     case rel=>exact⟨1,by omega,by go_num,HN,HB.out⟩
     case measure=>simp[intOf];omega
    have hj:j<M.length:=by omega
    have p1:=hcell j hj;unfold strV at p1;obtain⟨m2,hm2⟩:=ex_ (M[j]);rw[hm2]at p1;have HMJ:=h_ hm2;clear hm2 hcell hc
    have hwj:IntKind.i64.wrap (((j+1:Nat):Int)-1)=(j:Int):=by rw[IntKind.wrap_i64];omega
    have hwj2:IntKind.i64.wrap ((j:Int)+1-1)=(j:Int):=by rw[IntKind.wrap_i64];omega
    have hgt:(0:Int)<((j+1:Nat):Int):=by omega
    have hgt2:(0:Int)<(j:Int)+1:=by omega
    have hj':(j:Int)<(M.length:Int):=by omega
    obtain⟨lb,hlb⟩:=ex_ (Op.bytesLess m2 m);have HLB:=h_ hlb;go_wp2_with fail;refine(KValid_any m hml _).mono ?_;rw[HKB.out];rintro er w1 ⟨rfl,hb1⟩;have p1:=cell1_below p1 hb1;have p0:=cell1_below p0 hb1;have HB:=bt HB hb1;clear hb1
    cases lb with
    | true =>
     have HN:=h_ (rng_step HQ.out (show stpK M (j+1)=true by unfold stpK;rw[getD_at hlt,HMK.out,HKB.out,Nat.add_sub_cancel,getD_at hj,HMJ.out,HLB.out];simp));go_wp2;go_roundw
     case rel=>exact⟨j+2,by omega,by go_num,HN,HB.out⟩
     case measure=>simp[intOf];omega
    | false =>
     have HF:=h_ (show R=false from HR.out.symm.trans (by unfold ascS ascK;rw[rng_bad hlt (by unfold stpK;rw[getD_at hlt,HMK.out,HKB.out,Nat.add_sub_cancel,getD_at hj,HMJ.out,HLB.out];simp)];rfl));go_wp2;go_ret;exact⟨by rw[HF.out]<;>rfl,HB.out⟩
  ·have hlt':¬(k:Int)<(M.length:Int):=by omega
   have hkl:k=M.length:=by omega
   have HA:=h_ (show ascS M=decide (M.length≤64) by unfold ascS ascK;rw[←hkl,HQ.out,Bool.true_and,hkl]);clear hkl;by_cases h64:M.length≤64
   ·have h64':(M.length:Int)≤64:=by omega
    have HF:=h_ (show R=true from HR.out.symm.trans (HA.out.trans (decide_eq_true h64)));go_wp2;go_ret;exact⟨by rw[HF.out]<;>rfl,HB.out⟩
   have h64':decide ((M.length:Int)≤64)=false:=decide_eq_false (by omega);have HF:=h_ (show R=false from HR.out.symm.trans (HA.out.trans (decide_eq_false h64)));go_wp2;go_ret;exact⟨by rw[HF.out]<;>rfl,HB.out⟩
theorem Bx.sets8{b:Nat}{T:TypeId}{W:World}{z0 z1 z2 z3 z4 z5 z6 z7:Value}(h:Bx b #[z0,z1,z2,z3,z4,z5,z6,z7] T W)(u0 u1 u2 u3 u4 u5 u6 u7:Value):
  Bx b #[u0,u1,u2,u3,u4,u5,u6,u7] T ((((((((W.setCell ⟨b,0,none⟩ u0).setCell ⟨b,1,none⟩ u1).setCell ⟨b,2,none⟩ u2).setCell ⟨b,3,none⟩ u3).setCell ⟨b,4,none⟩ u4).setCell ⟨b,5,none⟩ u5).setCell ⟨b,6,none⟩ u6).setCell ⟨b,7,none⟩ u7):=((((((((h.set 0 u0).set 1 u1).set 2 u2).set 3 u3).set 4 u4).set 5 u5).set 6 u6).set 7 u7)
theorem below_sets8{B:Nat}{w W:World}(h:Below B w W)(b:Nat)(hb:B≤b)(u0 u1 u2 u3 u4 u5 u6 u7:Value):
  Below B w ((((((((W.setCell ⟨b,0,none⟩ u0).setCell ⟨b,1,none⟩ u1).setCell ⟨b,2,none⟩ u2).setCell ⟨b,3,none⟩ u3).setCell ⟨b,4,none⟩ u4).setCell ⟨b,5,none⟩ u5).setCell ⟨b,6,none⟩ u6).setCell ⟨b,7,none⟩ u7):=(below_set (below_set (below_set (below_set (below_set (below_set (below_set (below_set h b 0 hb u0) b 1 hb u1) b 2 hb u2) b 3 hb u3) b 4 hb u4) b 5 hb u5) b 6 hb u6) b 7 hb u7)
theorem allowed_any(al:Bool)(ra wa:Option Addr)(rc wc:Nat)(rd wr:List (List UInt8))(w:World)(hr:StrS w (.slice ra rd.length rc) rd)(hw:StrS w (.slice wa wr.length wc) wr)(hl:rd.length≤9000000000000∧wr.length≤9000000000000)(hx:∀q∈rd++wr,q.length≤9223372036854775807):
  Calls prog 36 #[.agg #[.bool al,.slice ra rd.length rc,.slice wa wr.length wc]] w fun e w'=>e=.returned (.bool (ftB ⟨al,rd,wr⟩))∧Below w.heap.size w w':=by
 obtain⟨R,hR⟩:=ex_ (ftB ⟨al,rd,wr⟩);rw[hR];have HR:=h_ hR;have HRD:=h_ hr;have HWR:=h_ hw;have HX:=h_ hx;clear hR hr hw hx;obtain⟨hl1,hl2⟩:=hl;obtain⟨v0,hW0,hb0,hx0⟩:=boxes1 w #[.bool al,.slice ra rd.length rc,.slice wa wr.length wc] 29;have HW:=h_ hW0;have HB:=h_ hb0;have HC:=h_ hx0;clear hW0 hb0 hx0;go_enter func36,ntmps36;go_upto_region 1 with (fail);rw[HW.out];clear HW;obtain⟨c0,c1,c2⟩:=HC.out.c3
 cases al with
 | true =>
  have HR2:=h_ (show (decide (rd.length=0) && decide (wr.length=0))=R from HR.out);by_cases h1:rd.length=0
  ·have t1:((rd.length:Int)==0)=true:=by rw[h1];rfl
   by_cases h2:wr.length=0
   ·have t2:((wr.length:Int)==0)=true:=by rw[h2];rfl
    have HF:=h_ (show R=true from HR2.out.symm.trans (by rw[decide_eq_true h1,decide_eq_true h2];rfl));clear h1 h2;go_wp2;go_ret;exact⟨by rw[HF.out]<;>rfl,HB.out⟩
   have t2:((wr.length:Int)==0)=false:=by rw[beq_eq_false_iff_ne];omega
   have HF:=h_ (show R=false from HR2.out.symm.trans (by rw[decide_eq_true h1,decide_eq_false h2];rfl));clear h1 h2;go_wp2;go_ret;exact⟨by rw[HF.out]<;>rfl,HB.out⟩
  have t1:((rd.length:Int)==0)=false:=by rw[beq_eq_false_iff_ne];omega
  have HF:=h_ (show R=false from HR2.out.symm.trans (by rw[decide_eq_false h1];rfl));clear h1;go_wp2;go_ret;exact⟨by rw[HF.out]<;>rfl,HB.out⟩
 | false =>
  have HR2:=h_ (show (ascS rd && ascS wr)=R from HR.out);obtain⟨b1,hb1⟩:=ex_ (ascS rd);obtain⟨b2,hb2⟩:=ex_ (ascS wr);have HB1:=h_ hb1;have HB2:=h_ hb2;clear hb1 hb2;go_wp2_with fail;refine(ascend_any ra rc rd _ hl1 (fun q hq=>HX.out q (List.mem_append_left _ hq)) (HRD.out.below HB.out)).mono ?_;rw[HB1.out];rintro er w1 ⟨rfl,hb1⟩;clear c0 c1 c2;have HC:=HC.out.k hb1;have HB:=bt HB hb1;clear hb1;obtain⟨c0,c1,c2⟩:=HC.out.c3
  cases b1 with
  | false =>
   have HF:=h_ (show R=false from HR2.out.symm.trans (by rw[HB1.out];rfl));go_wp2;go_ret;exact⟨by rw[HF.out]<;>rfl,HB.out⟩
  | true =>
   go_wp2_with fail;refine(ascend_any wa wc wr _ hl2 (fun q hq=>HX.out q (List.mem_append_right _ hq)) (HWR.out.below HB.out)).mono ?_;rw[HB2.out];rintro er w2 ⟨rfl,hb2⟩;have HB:=bt HB hb2;clear hb2;have HF:=h_ (show R=b2 from HR2.out.symm.trans (by rw[HB1.out,HB2.out];rfl));go_wp2;go_ret;exact⟨by rw[HF.out]<;>rfl,HB.out⟩
theorem ivalid_any(al:Bool)(ra wa:Option Addr)(rc wc:Nat)(rd wr:List (List UInt8))(w:World)(hr:StrS w (.slice ra rd.length rc) rd)(hw:StrS w (.slice wa wr.length wc) wr)(hl:rd.length≤9000000000000∧wr.length≤9000000000000)(hx:∀q∈rd++wr,q.length≤9223372036854775807):
  Calls prog 113 #[.agg #[.bool al,.slice ra rd.length rc,.slice wa wr.length wc]] w fun e w'=>e=.returned (.bool (ftB ⟨al,rd,wr⟩))∧Below w.heap.size w w':=by
 obtain⟨R,hR⟩:=ex_ (ftB ⟨al,rd,wr⟩);rw[hR];have HR:=h_ hR;have HRD:=h_ hr;have HWR:=h_ hw;have HX:=h_ hx;clear hR hr hw hx;obtain⟨hl1,hl2⟩:=hl;obtain⟨v0,hW0,hb0,hx0⟩:=boxes1 w #[.bool al,.slice ra rd.length rc,.slice wa wr.length wc] 29;have HW:=h_ hW0;have HB:=h_ hb0;have HC:=h_ hx0;clear hW0 hb0 hx0;go_enter func113,ntmps113;go_upto_region 1 with (fail);rw[HW.out];clear HW;obtain⟨c0,c1,c2⟩:=HC.out.c3
 cases al with
 | true =>
  have HR2:=h_ (show (decide (rd.length=0) && decide (wr.length=0))=R from HR.out);by_cases h1:rd.length=0
  ·have t1:((rd.length:Int)==0)=true:=by rw[h1];rfl
   by_cases h2:wr.length=0
   ·have t2:((wr.length:Int)==0)=true:=by rw[h2];rfl
    have HF:=h_ (show R=true from HR2.out.symm.trans (by rw[decide_eq_true h1,decide_eq_true h2];rfl));clear h1 h2;go_wp2;go_ret;exact⟨by rw[HF.out]<;>rfl,HB.out⟩
   have t2:((wr.length:Int)==0)=false:=by rw[beq_eq_false_iff_ne];omega
   have HF:=h_ (show R=false from HR2.out.symm.trans (by rw[decide_eq_true h1,decide_eq_false h2];rfl));clear h1 h2;go_wp2;go_ret;exact⟨by rw[HF.out]<;>rfl,HB.out⟩
  have t1:((rd.length:Int)==0)=false:=by rw[beq_eq_false_iff_ne];omega
  have HF:=h_ (show R=false from HR2.out.symm.trans (by rw[decide_eq_false h1];rfl));clear h1;go_wp2;go_ret;exact⟨by rw[HF.out]<;>rfl,HB.out⟩
 | false =>
  have HR2:=h_ (show (ascS rd && ascS wr)=R from HR.out);obtain⟨b1,hb1⟩:=ex_ (ascS rd);obtain⟨b2,hb2⟩:=ex_ (ascS wr);have HB1:=h_ hb1;have HB2:=h_ hb2;clear hb1 hb2;go_wp2_with fail;refine(iascend_any ra rc rd _ hl1 (fun q hq=>HX.out q (List.mem_append_left _ hq)) (HRD.out.below HB.out)).mono ?_;rw[HB1.out];rintro er w1 ⟨rfl,hb1⟩;clear c0 c1 c2;have HC:=HC.out.k hb1;have HB:=bt HB hb1;clear hb1;obtain⟨c0,c1,c2⟩:=HC.out.c3
  cases b1 with
  | false =>
   have HF:=h_ (show R=false from HR2.out.symm.trans (by rw[HB1.out];rfl));go_wp2;go_ret;exact⟨by rw[HF.out]<;>rfl,HB.out⟩
  | true =>
   go_wp2_with fail;refine(iascend_any wa wc wr _ hl2 (fun q hq=>HX.out q (List.mem_append_right _ hq)) (HWR.out.below HB.out)).mono ?_;rw[HB2.out];rintro er w2 ⟨rfl,hb2⟩;have HB:=bt HB hb2;clear hb2;have HF:=h_ (show R=b2 from HR2.out.symm.trans (by rw[HB1.out,HB2.out];rfl));go_wp2;go_ret;exact⟨by rw[HF.out]<;>rfl,HB.out⟩
theorem iwrong_any(w:World):
  Calls prog 114 #[] w fun e w'=>e=.returned (.agg #[.int .i64 2,.int .i64 1009,.slice none 0 0,.slice none 0 0,.slice none 0 0,.slice none 0 0,.string ⟨#[]⟩,.int .i64 0])∧Below w.heap.size w w':=by
 obtain⟨v0,hW0,hb0,hr0⟩:=boxes1 w #[.int .i64 0,.int .i64 0,.slice none 0 0,.slice none 0 0,.slice none 0 0,.slice none 0 0,.string ⟨#[]⟩,.int .i64 0] 37;have HW:=h_ hW0;have HB:=h_ hb0;have HRB:=h_ hr0;clear hW0 hb0 hr0;go_enter func114,ntmps114;go_upto_region 1 with (fail);rw[HW.out];clear HW;obtain⟨r0,r1,r2,r3,r4,r5,r6,r7⟩:=HRB.out.d8 0 1 2 3 4 5 6 7;have f0:=HRB.out.free 0;have f1:=HRB.out.free 1;have f2:=HRB.out.free 2;have f3:=HRB.out.free 3;have f4:=HRB.out.free 4;have f5:=HRB.out.free 5;have f6:=HRB.out.free 6;have f7:=HRB.out.free 7;have HK:=h_ (HRB.out.sets8 (.int .i64 2) (.int .i64 1009) (.slice none 0 0) (.slice none 0 0) (.slice none 0 0) (.slice none 0 0) (.string ⟨#[]⟩) (.int .i64 0));go_wp2;have k0:=HK.out.cell 0;have k1:=HK.out.cell 1;have k2:=HK.out.cell 2;have k3:=HK.out.cell 3;have k4:=HK.out.cell 4;have k5:=HK.out.cell 5;have k6:=HK.out.cell 6;have k7:=HK.out.cell 7;simp only[List.getElem?_toArray,List.getElem?_cons_zero,List.getElem?_cons_succ]at k0 k1 k2 k3 k4 k5 k6 k7;refine bodyPost_ret (v:=.agg #[.int .i64 2,.int .i64 1009,.slice none 0 0,.slice none 0 0,.slice none 0 0,.slice none 0 0,.string ⟨#[]⟩,.int .i64 0]) (by simp[results,results114,go_sem,k0,k1,k2,k3,k4,k5,k6,k7]<;>rfl) rfl ⟨rfl,below_sets8 HB.out w.heap.size (Nat.le_refl _) _ _ _ _ _ _ _ _⟩
theorem ivariable_any(v:Vl)(w:World)(hl:v.s.length≤9223372036854775807):
  Calls prog 116 #[.agg (vV v)] w fun e w'=>e=.returned (.bool (varB v))∧Below w.heap.size w w':=by
 obtain⟨k,n,s⟩:=v;simp only at hl;simp only[vV];obtain⟨R,hR⟩:=ex_ (varB ⟨k,n,s⟩);rw[hR];have HR:=h_ hR;clear hR;obtain⟨v0,hW0,hb0,hx0⟩:=boxes1 w #[.int .i64 k,.int .i64 n,.string (bs s)] 52;have HW:=h_ hW0;have HB:=h_ hb0;have HC:=h_ hx0;clear hW0 hb0 hx0;go_enter func116,ntmps116;go_upto_region 1 with (fail);rw[HW.out];clear HW;obtain⟨c0,c1,c2⟩:=HC.out.c3;by_cases h3:k=3
 ·have t3:(k==3)=true:=by rw[h3];rfl
  have HR2:=h_ (show ((decide (n=0) || decide (n=1)) && (s==[]))=R from(show varB ⟨k,n,s⟩=_ from if_pos h3).symm.trans HR.out);clear h3;obtain⟨sb,hsb⟩:=ex_ ((s==[]));rw[hsb]at HR2;by_cases h0:n=0
  ·have t0:(n==0)=true:=by rw[h0];rfl
   have HF:=h_ (show R=sb from HR2.out.symm.trans (by rw[h0];simp));clear h0;go_wp2;go_ret;exact⟨by rw[HF.out]<;>rfl,HB.out⟩
  by_cases h1:n=1
  ·have t0:(n==1)=true:=by rw[h1];rfl
   have t00:(n==0)=false:=by rw[h1];rfl
   have HF:=h_ (show R=sb from HR2.out.symm.trans (by rw[h1];simp));clear h0 h1;go_wp2;go_ret;exact⟨by rw[HF.out]<;>rfl,HB.out⟩
  have t0:(n==0)=false:=by rw[beq_eq_false_iff_ne];exact h0
  have t1:(n==1)=false:=by rw[beq_eq_false_iff_ne];exact h1
  have HF:=h_ (show R=false from HR2.out.symm.trans (by rw[decide_eq_false h0,decide_eq_false h1];rfl));clear h0 h1;go_wp2;go_ret;exact⟨by rw[HF.out]<;>rfl,HB.out⟩
 have t3:(k==3)=false:=by rw[beq_eq_false_iff_ne];exact h3
 have HR2:=h_ (show (!decide (k=0) && vaB ⟨k,n,s⟩)=R from(show varB ⟨k,n,s⟩=_ from if_neg h3).symm.trans HR.out);clear h3;by_cases h0:k=0
 ·have t0:(k != 0)=false:=by rw[h0];rfl
  have HF:=h_ (show R=false from HR2.out.symm.trans (by rw[decide_eq_true h0];rfl));clear h0;go_wp2;go_ret;exact⟨by rw[HF.out]<;>rfl,HB.out⟩
 have t0:(k != 0)=true:=by rw[bne_iff_ne];exact h0
 obtain⟨vb,hvb⟩:=ex_ (vaB ⟨k,n,s⟩);have HVB:=h_ hvb;clear hvb;have HF:=h_ (show R=vb from HR2.out.symm.trans (by rw[decide_eq_false h0,HVB.out];rfl));clear h0;go_wp2_with fail;refine(VValid_any ⟨k,n,s⟩ hl _).mono ?_;rw[HVB.out];rintro er w1 ⟨rfl,hb1⟩;have HB:=bt HB hb1;clear hb1;go_wp2;go_ret;exact⟨by rw[HF.out]<;>rfl,HB.out⟩
def accP (P:List Int) (A:List Vl) (i:Nat):Bool:=decide ((A.getD i v00).k=if P.getD i 0=2 then 2 else 1) && vaB (A.getD i v00)
def accB (P:List Int) (A:List Vl):Bool:=decide (A.length=P.length) && (List.range A.length).all (accP P A)
theorem accepts_any(pa ia aa:Option Addr)(pc ic ac n:Nat)(P:List Int)(sl:Int)(A:List Vl)(w:World)(hP:CellsAt w (.slice pa P.length pc) P.length (intsL P))(hA:CellsAt w (.slice aa A.length ac) A.length (vlLs A))(hl:A.length≤9000000000000)(hx:∀v∈A,v.s.length≤9223372036854775807):
  Calls prog 34 #[.agg #[.slice pa P.length pc,.int .i64 sl,.slice ia n ic],.slice aa A.length ac] w fun e w'=>e=.returned (.bool (accB P A))∧Below w.heap.size w w':=by
 obtain⟨R,hR⟩:=ex_ (accB P A);rw[hR];have HR:=h_ hR;have HPA:=h_ hP;have HAA:=h_ hA;have HX:=h_ hx;clear hR hP hA hx;obtain⟨v0,hW0,hb0,hx0⟩:=boxes1 w #[.slice pa P.length pc,.int .i64 sl,.slice ia n ic] 25;have HW:=h_ hW0;have HB:=h_ hb0;have HC:=h_ hx0;clear hW0 hb0 hx0;go_enter func34,ntmps34;go_upto_region 1 with (fail);rw[HW.out];clear HW;obtain⟨c0,c1,c2⟩:=HC.out.c3;by_cases hne:A.length=P.length;rotate_left
 ·have tn:((A.length:Int) != (P.length:Int))=true:=by rw[bne_iff_ne];omega
  have HF:=h_ (show R=false from HR.out.symm.trans (by unfold accB;rw[decide_eq_false hne];rfl));clear hne;go_wp2;go_ret;exact⟨by rw[HF.out]<;>rfl,HB.out⟩
 have tn:((A.length:Int) != (P.length:Int))=false:=by rw[hne];exact bne_self_eq_false _
 have HR2:=h_ (show (List.range A.length).all (accP P A)=R from(show accB P A=_ by unfold accB;rw[decide_eq_true hne,Bool.true_and]).symm.trans HR.out);have HNE:=h_ hne;clear hne;go_wp2;go_loopw [16] (fun i wr=>∃k:Nat,k≤A.length∧i=.int .i64 k∧Hid ((List.range k).all (accP P A)=true)∧Hid (Bx w.heap.size #[.slice pa P.length pc,.int .i64 sl,.slice ia n ic] 25 wr)∧Below w.heap.size w wr) (fun i _=>A.length-(intOf i).toNat)
 case atStart=>exact⟨0,Nat.zero_le _,by first|exact True.intro|rfl,h_ rfl,HC,HB.out⟩
 case round =>
  clear c0 c1 c2 HC HB;obtain⟨k,hk,rfl,HQ,HC,hB⟩:=hrel;have HB:=h_ hB;clear hB;obtain⟨c0,c1,c2⟩:=HC.out.c3;by_cases hlt:k<A.length
  ·have hlt':(k:Int)<(A.length:Int):=by omega
   have hkb:(0:Int)≤(k:Int)∧(k:Int)<(A.length:Int):=⟨by omega,by omega⟩
   have hlp:k<P.length:=by rw[←HNE.out];exact hlt
   have hlp':(k:Int)<(P.length:Int):=by omega
   have hw1:IntKind.i64.wrap ((k:Int)+1)=(k:Int)+1:=by rw[IntKind.wrap_i64];omega
   obtain⟨b,off,rfl,p0,p1,p2⟩:=vl_cells (HAA.out.below HB.out) hlt;obtain⟨m,hm⟩:=ex_ (A[k]);rw[hm]at p0 p1 p2
   have hml:m.s.length≤9223372036854775807:=by have:=HX.out _ (List.getElem_mem hlt);rw[hm]at this;exact this
   have HMK:=h_ (show A.getD k v00=m by rw[getD_at hlt,hm]);clear hm;have hal:=(Below.refl wr.heap.size wr).alloc (Nat.le_refl _) (.cells #[.int .i64 m.k,.int .i64 m.n,.string (bs m.s)] 52);have HXB:=h_ (Bx.new wr #[.int .i64 m.k,.int .i64 m.n,.string (bs m.s)] 52);have HC:=HC.out.k hal;have HB:=bt HB hal;clear hal;go_upto_region 6 with (fail);generalize hW:wr.alloc (.cells #[.int .i64 m.k,.int .i64 m.n,.string (bs m.s)] 52)=v1 at HXB HC HB ⊢;clear hW p0 p1 p2 c0 c1 c2;obtain⟨c0,c1,c2⟩:=HC.out.c3;obtain⟨x0,x1,x2⟩:=HXB.out.c3;obtain⟨pb,po,rfl,q0⟩:=int_cells (HPA.out.below HB.out) hlp;obtain⟨ty,hty⟩:=ex_ (P[k]);rw[hty]at q0;have HTY:=h_ (show P.getD k 0=ty by rw[getD_at hlp,hty]);clear hty;by_cases h2:ty=2
   ·have t2:(ty==2)=true:=by rw[h2];rfl
    have HAC:=h_ (show accP P A k=(decide (m.k=2) && vaB m) by unfold accP;rw[HMK.out,HTY.out,if_pos h2]);clear h2;by_cases hk2:m.k=2;rotate_left
    ·have tk:(m.k != 2)=true:=by rw[bne_iff_ne];exact hk2
     have HF:=h_ (show R=false from HR2.out.symm.trans (rng_bad hlt (by rw[HAC.out,decide_eq_false hk2];rfl)));clear hk2;go_wp2;go_ret;exact⟨by rw[HF.out]<;>rfl,HB.out⟩
    have tk:(m.k != 2)=false:=by rw[hk2];rfl
    obtain⟨vb,hvb⟩:=ex_ (vaB m);have HVB:=h_ (show accP P A k=vb by rw[HAC.out,decide_eq_true hk2,hvb,Bool.true_and]);have HVV:=h_ hvb;clear hk2 hvb;go_wp2_with fail;refine(VValid_any m hml _).mono ?_;rw[HVV.out];rintro er w1 ⟨rfl,hb1⟩;clear c0 c1 c2 x0 x1 x2 q0;have HC:=HC.out.k hb1;have HB:=bt HB hb1;clear hb1
    cases vb with
    | true =>
     have HN:=h_ (rng_step HQ.out HVB.out);go_wp2;go_roundw
     case rel=>exact⟨k+1,by omega,by go_num,HN,HC,HB.out⟩
     case measure=>simp[intOf];omega
    | false =>
     have HF:=h_ (show R=false from HR2.out.symm.trans (rng_bad hlt HVB.out));go_wp2;go_ret;exact⟨by rw[HF.out]<;>rfl,HB.out⟩
   ·have t2:(ty==2)=false:=by rw[beq_eq_false_iff_ne];exact h2
    have HAC:=h_ (show accP P A k=(decide (m.k=1) && vaB m) by unfold accP;rw[HMK.out,HTY.out,if_neg h2]);clear h2;by_cases hk2:m.k=1;rotate_left
    ·have tk:(m.k != 1)=true:=by rw[bne_iff_ne];exact hk2
     have HF:=h_ (show R=false from HR2.out.symm.trans (rng_bad hlt (by rw[HAC.out,decide_eq_false hk2];rfl)));clear hk2;go_wp2;go_ret;exact⟨by rw[HF.out]<;>rfl,HB.out⟩
    have tk:(m.k != 1)=false:=by rw[hk2];rfl
    obtain⟨vb,hvb⟩:=ex_ (vaB m);have HVB:=h_ (show accP P A k=vb by rw[HAC.out,decide_eq_true hk2,hvb,Bool.true_and]);have HVV:=h_ hvb;clear hk2 hvb;go_wp2_with fail;refine(VValid_any m hml _).mono ?_;rw[HVV.out];rintro er w1 ⟨rfl,hb1⟩;clear c0 c1 c2 x0 x1 x2 q0;have HC:=HC.out.k hb1;have HB:=bt HB hb1;clear hb1
    cases vb with
    | true =>
     have HN:=h_ (rng_step HQ.out HVB.out);go_wp2;go_roundw
     case rel=>exact⟨k+1,by omega,by go_num,HN,HC,HB.out⟩
     case measure=>simp[intOf];omega
    | false =>
     have HF:=h_ (show R=false from HR2.out.symm.trans (rng_bad hlt HVB.out));go_wp2;go_ret;exact⟨by rw[HF.out]<;>rfl,HB.out⟩
  ·have hlt':¬(k:Int)<(A.length:Int):=by omega
   have hkl:k=A.length:=by omega
   have HF:=h_ (show R=true from HR2.out.symm.trans (by rw[←hkl];exact HQ.out));clear hkl;go_wp2;go_ret;exact⟨by rw[HF.out]<;>rfl,HB.out⟩
theorem Bx.c8{b:Nat}{u0 u1 u2 u3 u4 u5 u6 u7:Value}{T:TypeId}{W:World}(h:Bx b #[u0,u1,u2,u3,u4,u5,u6,u7] T W):W.cell? ⟨b,0,none⟩=some u0∧W.cell? ⟨b,1,none⟩=some u1∧W.cell? ⟨b,2,none⟩=some u2∧W.cell? ⟨b,3,none⟩=some u3∧W.cell? ⟨b,4,none⟩=some u4∧W.cell? ⟨b,5,none⟩=some u5∧W.cell? ⟨b,6,none⟩=some u6∧W.cell? ⟨b,7,none⟩=some u7:=⟨h.cell 0,h.cell 1,h.cell 2,h.cell 3,h.cell 4,h.cell 5,h.cell 6,h.cell 7⟩
theorem eq_no{α:Type}[DecidableEq α]{M N:List α}{k:Nat}{R:Bool}(hk:k<M.length)(hn:k<N.length)(h:decide (M.drop k=N.drop k)=R)(hne:M[k]≠N[k]):R=false:=by
 rw[←h,List.drop_eq_getElem_cons hk,List.drop_eq_getElem_cons hn,decide_eq_false];intro e;exact hne (List.cons.inj e).1
theorem eq_go{α:Type}[DecidableEq α]{M N:List α}{k:Nat}{R:Bool}(hk:k<M.length)(hn:k<N.length)(h:decide (M.drop k=N.drop k)=R)(he:M[k]=N[k]):decide (M.drop (k+1)=N.drop (k+1))=R:=by
 rw[←h,List.drop_eq_getElem_cons hk,List.drop_eq_getElem_cons hn,he];congr 1;rw[eq_iff_iff];exact⟨fun e=>by rw[e],fun e=>(List.cons.inj e).2⟩
theorem str_cell{W:World}{ad:Option Addr}{n cap:Nat}{M:List (List UInt8)}(h:StrS W (.slice ad n cap) M){k:Nat}(hk:k<M.length):∃b off,ad=some ⟨b,off,none⟩∧W.cell? ⟨b,off+k,none⟩=some (.string (bs M[k])):=by
 obtain⟨a2,cap2,he,hcap,hcells⟩:=h;simp only[Value.slice.injEq]at he;obtain⟨rfl,rfl,rfl⟩:=he;obtain⟨gb,off,rfl,hc⟩:=hcells (by intro h0;rw[h0]at hk;simp at hk);exact⟨gb,off,rfl,hc k hk⟩
theorem StrS.len2{W:World}{v:Value}{L:List (List UInt8)}(h:StrS W v L):∃a cap,v=.slice a L.length cap:=by
 obtain⟨a2,cap2,he,_⟩:=h;exact⟨a2,cap2,he⟩
end Go.Proofs.YtnglaegofhpleaaGreatDoor
