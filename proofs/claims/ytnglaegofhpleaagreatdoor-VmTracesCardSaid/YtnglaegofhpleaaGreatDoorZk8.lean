/- What the claim needs, part 8. No conditions. -/
import Derived.Test.YtnglaegofhpleaaGreatDoorZk7
set_option maxRecDepth 100000
set_option maxHeartbeats 64000000
namespace Go.Proofs.YtnglaegofhpleaaGreatDoor
open Go.RowKit Go.Proofs.Tryz
theorem Roperate_any(op:Int)(s l:List Vl)(D:Nat→Prop)(R:Ra)(Q:Qa)(Y:Ry)(w:World)(hD:∀k,D k→k<w.heap.size)(hR:Stab D w (QIn R Q Y))(hl:RL Y.x)(hst:Y.x.st=0)(hs:Y.stk=s++l)(hn:arS op=l.length)(hg:∀v∈l,GdV v)(hop:(l.length=1∧(op=9∨op=18∨op=20∨op=21∨op=22∨op=23∨op=24))∨(l.length=2∧((op=4∨op=5∨op=6∨op=7∨op=8)∨op=16∨op=17∨op=19∨(op=10∨op=11∨op=12∨op=13∨op=14∨op=15)))∨l.length=0)(hls:s.length≤10000000):
  Calls prog 76 #[.agg (kvA R Q Y),.int .i64 op] w (KPost D Q { Y with x:=(opsX op l Y.x).2,stk:=s++[(opsX op l Y.x).1] } w):=by
 obtain⟨Z,hZ⟩:=ex_ (opsX op l Y.x);rw[hZ];have HZ:=h_ hZ;clear hZ;have HR:=h_ hR;have HL:=h_ hl;have HST:=h_ hst;have HS:=h_ hs;have HN:=h_ hn;have HG:=h_ hg;have HOP:=h_ hop;clear hR hl hst hs hn hg hop
 have hlen:Y.stk.length=s.length+l.length:=by rw[HS.out,List.length_append]
 have hl2:l.length≤2:=by rcases HOP.out with h|h|h<;>omega
 have hw1:IntKind.i64.wrap ((Y.stk.length:Int)-(l.length:Int))=(s.length:Int):=by rw[IntKind.wrap_i64];omega
 have HLEN:=h_ hlen;clear hlen;obtain⟨v0,hW0,hb0,hHM,hHY⟩:=bxs2 w (kvA R Q Y) (#[.slice none 0 0,.int .i64 0,.slice none 0 0,.slice none 0 0,.bool false,.slice none 0 0,.slice none 0 0,.slice none 0 0,.slice none 0 0,.int .i64 0,.int .i64 0,.slice none 0 0,.slice none 0 0,.slice none 0 0,.slice none 0 0,.string ⟨#[]⟩,.int .i64 0,.slice none 0 0,.slice none 0 0,.int .i64 0,.slice none 0 0,.int .i64 0,.int .i64 0]) 85 85;have HW:=h_ hW0;have HB:=h_ hb0;have HM:=h_ hHM;have HY:=h_ hHY;clear hW0 hb0 hHM hHY;go_enter func76,ntmps76;go_upto_region 1 with (fail);rw[HW.out];clear HW;have HQ:=h_ (HR.out.inn HB.out 2);clear HR;go_wp2_with (fail);refine(RArity_any op _).mono ?_;rw[HN.out];rintro er w1 ⟨rfl,rfl⟩;have x17:=HM.out.cl 17;have HKC:=h_ HQ.out.now.kc;have HSK:=h_ (Nat.le_trans (show s.length≤Y.stk.length by have:=HLEN.out;omega) HKC.out);obtain⟨ad,hsl0,had⟩:=slLo_vl (a:=Q.ka) (cap:=Q.kc) (L:=Y.stk) (k:=s.length) (by have:=HLEN.out;omega);go_wp2_with fail;refine wp_region_held_drew (S:=(fun w'=>Bx w.heap.size (kvA R Q Y) 85 w'∧Below w.heap.size w w')) (by kernel_rfl) ?_ (fun hHeld=>?_)
 ·exact(show ((fun w'=>Bx w.heap.size (kvA R Q Y) 85 w'∧Below w.heap.size w w')) w1.drew from by have hb1:=(Below.refl w1.heap.size w1).drew;have HM:=HM.out.k hb1;have HY:=HY.out.k hb1;have HB:=bt HB hb1;exact⟨HM.out,HB.out⟩)
 have hb1:=(Below.refl w1.heap.size w1).drew;have HM:=HM.out.k hb1;have HY:=HY.out.k hb1;have HQ:=HQ.out.k hb1;have HB:=bt HB hb1;clear hb1;generalize hWd:w1.drew=D1 at hHeld HB HM HY HQ ⊢;clear hWd;clear x17;rw[show Y.stk.length-s.length=l.length by have:=HLEN.out;omega]at hsl0 had;rw[show Y.stk.drop s.length=l by rw[HS.out,List.drop_left]]at had;obtain⟨lc,hlc⟩:=ex_ (Q.kc-s.length);rw[hlc]at hsl0 had;clear hlc;have had2:∀W,CellsAt W (.slice Q.ka Y.stk.length Q.kc) Y.stk.length (vlLs Y.stk)→CellsAt W (.slice ad l.length lc) l.length (vlLs l):=fun W h=>had W h HKC.out;clear had;refine tkX 0 17 ?_;simp only[sA,sB,sC];refine tkl2 1 18 (fun _ h=>h.1) 3 (mvA R Y.x) underlying83 ?_;refine tkX 2 19 ?_;refine tkX 3 20 ?_;refine tkY 4 (v:=?vv4) 21 ?yy4 ?_
 case yy4 =>
  intro wq hSw;have z0:wq.cell? ⟨w.heap.size,17,none⟩=some (.slice Q.ka Y.stk.length Q.kc):=hSw.1.cell 17;clear hSw;go_simp
  (try with_reducible rfl)
 refine tkX 5 22 ?_;refine tkX 6 23 ?_;simp only[sA,sB,sC];refine meet (fun b c (R2:Ra) W2=>b≠c∧D1.heap.size≤b∧D1.heap.size≤c∧W2.heap[b]? = some (.cells (#[.int .i64 0,.int .i64 0,.string ⟨#[]⟩]) 52 (0,0))∧W2.heap[c]? = some (.cells (#[.slice none 0 0,.bool false,.slice none 0 0,.slice none 0 0,.slice none 0 0,.slice none 0 0,.int .i64 0,.int .i64 0,.slice none 0 0,.slice none 0 0,.slice none 0 0,.slice none 0 0,.string ⟨#[]⟩,.int .i64 0]) 83 (0,0))∧Below D1.heap.size D1 W2∧(Stab (moreD (boxD D w 2) b c) W2 (RIn R2 Z.2))) #[true,true,true,true,true,true,true,true,true,true,true,true,true,false,false] (fun b c R2=>[(7,.pointer (some ⟨b,0,none⟩)),(8,.pointer (some ⟨c,0,none⟩)),(24,.tuple #[.agg (vV Z.1),.agg (mvA R2 Z.2)]),(16,.tuple #[.agg (vV Z.1),.agg (mvA R2 Z.2)]),(25,.agg (vV Z.1)),(26,.agg (mvA R2 Z.2))]) 2 ?_ (fun key=>?_);rotate_left
 ·have hbA:=Below.refl D1.heap.size D1
  refine wpAnyH_ready (rs:=[7,11,12]) (by kernel_rfl) (by simp) ?_;refine(AllReadyH.cons rfl (fun K hK=>?_) (AllReadyH.cons rfl (fun K hK=>?_) (AllReadyH.cons rfl (fun K hK=>?_) AllReadyH.nil)))
  ·skip
   go_simp;refine(ROperate_any op l ad lc _ R Y.x _ (bl 2 hD HY) (HQ.out.imp fun W h=>h.r) HL.out HST.out (had2 _ HQ.out.now.k) HG.out HOP.out).mono ?_;rw[HZ.out];rintro er V1 ⟨R2,rfl,hr2,hb1⟩;refine hK.out _ _ ?_ (fun hHeld=>?_)
   ·have HB:=bt HB hb1;have HM:=HM.out.k hb1;have HY:=HY.out.k hb1;exact⟨HM.out,HB.out⟩
   clear hK K
   (try simp only[Act.put,sA,sB,sC])
   have huV:=hbA.size;have hszV1:=hb1.size;have HB:=bt HB hb1;have HM:=HM.out.k hb1;have HY:=HY.out.k hb1;have HQ:=HQ.out.k hb1;have hbA:=hbA.trans (hb1.mono (hbA.size));clear hb1;refine tkX 8 16 ?_;refine tkX 9 25 ?_;refine tkX 10 26 ?_;simp only[sA,sB,sC];refine wpAnyH_ready (rs:=[11,12]) (by kernel_rfl) (by simp) ?_;refine(AllReadyH.cons rfl (fun K hK=>?_) (AllReadyH.cons rfl (fun K hK=>?_) AllReadyH.nil))
   ·skip
    have hal:Below V1.heap.size V1 (V1.alloc (.cells (#[.int .i64 0,.int .i64 0,.string ⟨#[]⟩]) 52)):=(Below.refl _ _).alloc (Nat.le_refl _) _;have hx11:=Bx.new V1 (#[.int .i64 0,.int .i64 0,.string ⟨#[]⟩]) 52;have hu11:=hbA.size;go_simp;refine hK.out _ _ ?_ (fun hHeld=>?_)
    ·have HB:=bt HB hal;have HM:=HM.out.k hal;have HY:=HY.out.k hal;exact⟨HM.out,HB.out⟩
    clear hK K
    (try simp only[Act.put,sA,sB,sC])
    have hz11:V1.heap.size+1≤(V1.alloc (.cells (#[.int .i64 0,.int .i64 0,.string ⟨#[]⟩]) 52)).heap.size:=by simp
    have hszV2:=hal.size;have HB:=bt HB hal;have HM:=HM.out.k hal;have HY:=HY.out.k hal;have HQ:=h_ (HQ.out.more hal (b:=V1.heap.size) (c:=V1.heap.size) (Nat.le_refl _) (Nat.le_refl _));have hbA:=hbA.trans (hal.mono (hbA.size));have hr2:=hr2.more hal (b:=V1.heap.size) (c:=V1.heap.size) (Nat.le_refl _) (Nat.le_refl _);generalize hWq:V1.alloc (.cells (#[.int .i64 0,.int .i64 0,.string ⟨#[]⟩]) 52)=V2 at *;clear hal;refine rd1 12 fun K hK=>?_;have hal:Below V2.heap.size V2 (V2.alloc (.cells (#[.slice none 0 0,.bool false,.slice none 0 0,.slice none 0 0,.slice none 0 0,.slice none 0 0,.int .i64 0,.int .i64 0,.slice none 0 0,.slice none 0 0,.slice none 0 0,.slice none 0 0,.string ⟨#[]⟩,.int .i64 0]) 83)):=(Below.refl _ _).alloc (Nat.le_refl _) _;have hx12:=Bx.new V2 (#[.slice none 0 0,.bool false,.slice none 0 0,.slice none 0 0,.slice none 0 0,.slice none 0 0,.int .i64 0,.int .i64 0,.slice none 0 0,.slice none 0 0,.slice none 0 0,.slice none 0 0,.string ⟨#[]⟩,.int .i64 0]) 83;have hu12:=hbA.size;go_simp;refine hK.out _ _ ?_ (fun hHeld=>?_)
    ·have HB:=bt HB hal;have HM:=HM.out.k hal;have HY:=HY.out.k hal;exact⟨HM.out,HB.out⟩
    clear hK K
    (try simp only[Act.put,sA,sB,sC])
    have hz12:V2.heap.size+1≤(V2.alloc (.cells (#[.slice none 0 0,.bool false,.slice none 0 0,.slice none 0 0,.slice none 0 0,.slice none 0 0,.int .i64 0,.int .i64 0,.slice none 0 0,.slice none 0 0,.slice none 0 0,.slice none 0 0,.string ⟨#[]⟩,.int .i64 0]) 83)).heap.size:=by simp
    have hszV3:=hal.size;have HB:=bt HB hal;have HM:=HM.out.k hal;have HY:=HY.out.k hal;have HQ:=h_ (HQ.out.more hal (b:=V2.heap.size) (c:=V2.heap.size) (Nat.le_refl _) (Nat.le_refl _));have hbA:=hbA.trans (hal.mono (hbA.size));have hx11:=Bx.call hx11 hal;have hr2:=hr2.more hal (b:=V2.heap.size) (c:=V2.heap.size) (Nat.le_refl _) (Nat.le_refl _);generalize hWq:V2.alloc (.cells (#[.slice none 0 0,.bool false,.slice none 0 0,.slice none 0 0,.slice none 0 0,.slice none 0 0,.int .i64 0,.int .i64 0,.slice none 0 0,.slice none 0 0,.slice none 0 0,.slice none 0 0,.string ⟨#[]⟩,.int .i64 0]) 83)=V3 at *;clear hal;exact key _ _ R2 V3 hHeld ⟨by omega,by omega,by omega,hx11,hx12,hbA,hr2.weak (by unfold moreD;intro k h;rcases h with h|h|h;all_goals simp[h])⟩
   ·skip
    have hal:Below V1.heap.size V1 (V1.alloc (.cells (#[.slice none 0 0,.bool false,.slice none 0 0,.slice none 0 0,.slice none 0 0,.slice none 0 0,.int .i64 0,.int .i64 0,.slice none 0 0,.slice none 0 0,.slice none 0 0,.slice none 0 0,.string ⟨#[]⟩,.int .i64 0]) 83)):=(Below.refl _ _).alloc (Nat.le_refl _) _;have hx12:=Bx.new V1 (#[.slice none 0 0,.bool false,.slice none 0 0,.slice none 0 0,.slice none 0 0,.slice none 0 0,.int .i64 0,.int .i64 0,.slice none 0 0,.slice none 0 0,.slice none 0 0,.slice none 0 0,.string ⟨#[]⟩,.int .i64 0]) 83;have hu12:=hbA.size;go_simp;refine hK.out _ _ ?_ (fun hHeld=>?_)
    ·have HB:=bt HB hal;have HM:=HM.out.k hal;have HY:=HY.out.k hal;exact⟨HM.out,HB.out⟩
    clear hK K
    (try simp only[Act.put,sA,sB,sC])
    have hz12:V1.heap.size+1≤(V1.alloc (.cells (#[.slice none 0 0,.bool false,.slice none 0 0,.slice none 0 0,.slice none 0 0,.slice none 0 0,.int .i64 0,.int .i64 0,.slice none 0 0,.slice none 0 0,.slice none 0 0,.slice none 0 0,.string ⟨#[]⟩,.int .i64 0]) 83)).heap.size:=by simp
    have hszV2:=hal.size;have HB:=bt HB hal;have HM:=HM.out.k hal;have HY:=HY.out.k hal;have HQ:=h_ (HQ.out.more hal (b:=V1.heap.size) (c:=V1.heap.size) (Nat.le_refl _) (Nat.le_refl _));have hbA:=hbA.trans (hal.mono (hbA.size));have hr2:=hr2.more hal (b:=V1.heap.size) (c:=V1.heap.size) (Nat.le_refl _) (Nat.le_refl _);generalize hWq:V1.alloc (.cells (#[.slice none 0 0,.bool false,.slice none 0 0,.slice none 0 0,.slice none 0 0,.slice none 0 0,.int .i64 0,.int .i64 0,.slice none 0 0,.slice none 0 0,.slice none 0 0,.slice none 0 0,.string ⟨#[]⟩,.int .i64 0]) 83)=V2 at *;clear hal;refine rd1 11 fun K hK=>?_;have hal:Below V2.heap.size V2 (V2.alloc (.cells (#[.int .i64 0,.int .i64 0,.string ⟨#[]⟩]) 52)):=(Below.refl _ _).alloc (Nat.le_refl _) _;have hx11:=Bx.new V2 (#[.int .i64 0,.int .i64 0,.string ⟨#[]⟩]) 52;have hu11:=hbA.size;go_simp;refine hK.out _ _ ?_ (fun hHeld=>?_)
    ·have HB:=bt HB hal;have HM:=HM.out.k hal;have HY:=HY.out.k hal;exact⟨HM.out,HB.out⟩
    clear hK K
    (try simp only[Act.put,sA,sB,sC])
    have hz11:V2.heap.size+1≤(V2.alloc (.cells (#[.int .i64 0,.int .i64 0,.string ⟨#[]⟩]) 52)).heap.size:=by simp
    have hszV3:=hal.size;have HB:=bt HB hal;have HM:=HM.out.k hal;have HY:=HY.out.k hal;have HQ:=h_ (HQ.out.more hal (b:=V2.heap.size) (c:=V2.heap.size) (Nat.le_refl _) (Nat.le_refl _));have hbA:=hbA.trans (hal.mono (hbA.size));have hx12:=Bx.call hx12 hal;have hr2:=hr2.more hal (b:=V2.heap.size) (c:=V2.heap.size) (Nat.le_refl _) (Nat.le_refl _);generalize hWq:V2.alloc (.cells (#[.int .i64 0,.int .i64 0,.string ⟨#[]⟩]) 52)=V3 at *;clear hal;exact key _ _ R2 V3 hHeld ⟨by omega,by omega,by omega,hx11,hx12,hbA,hr2.weak (by unfold moreD;intro k h;rcases h with h|h|h;all_goals simp[h])⟩
  ·skip
   have hal:Below D1.heap.size D1 (D1.alloc (.cells (#[.int .i64 0,.int .i64 0,.string ⟨#[]⟩]) 52)):=(Below.refl _ _).alloc (Nat.le_refl _) _;have hx11:=Bx.new D1 (#[.int .i64 0,.int .i64 0,.string ⟨#[]⟩]) 52;have hu11:=hbA.size;go_simp;refine hK.out _ _ ?_ (fun hHeld=>?_)
   ·have HB:=bt HB hal;have HM:=HM.out.k hal;have HY:=HY.out.k hal;exact⟨HM.out,HB.out⟩
   clear hK K
   (try simp only[Act.put,sA,sB,sC])
   have hz11:D1.heap.size+1≤(D1.alloc (.cells (#[.int .i64 0,.int .i64 0,.string ⟨#[]⟩]) 52)).heap.size:=by simp
   have hszV1:=hal.size;have HB:=bt HB hal;have HM:=HM.out.k hal;have HY:=HY.out.k hal;have HQ:=h_ (HQ.out.more hal (b:=D1.heap.size) (c:=D1.heap.size) (Nat.le_refl _) (Nat.le_refl _));have hbA:=hbA.trans (hal.mono (hbA.size));generalize hWq:D1.alloc (.cells (#[.int .i64 0,.int .i64 0,.string ⟨#[]⟩]) 52)=V1 at *;clear hal;refine wpAnyH_ready (rs:=[7,12]) (by kernel_rfl) (by simp) ?_;refine(AllReadyH.cons rfl (fun K hK=>?_) (AllReadyH.cons rfl (fun K hK=>?_) AllReadyH.nil))
   ·skip
    go_simp;refine(ROperate_any op l ad lc _ R Y.x _ (moreD_lt (bl 2 hD HY) (Bx.lt hx11) (Bx.lt hx11)) (HQ.out.imp fun W h=>h.r) HL.out HST.out (had2 _ HQ.out.now.k) HG.out HOP.out).mono ?_;rw[HZ.out];rintro er V2 ⟨R2,rfl,hr2,hb1⟩;refine hK.out _ _ ?_ (fun hHeld=>?_)
    ·have HB:=bt HB hb1;have HM:=HM.out.k hb1;have HY:=HY.out.k hb1;exact⟨HM.out,HB.out⟩
    clear hK K
    (try simp only[Act.put,sA,sB,sC])
    have huV:=hbA.size;have hszV2:=hb1.size;have HB:=bt HB hb1;have HM:=HM.out.k hb1;have HY:=HY.out.k hb1;have HQ:=HQ.out.k hb1;have hbA:=hbA.trans (hb1.mono (hbA.size));have hx11:=Bx.call hx11 hb1;clear hb1;refine tkX 8 16 ?_;refine tkX 9 25 ?_;refine tkX 10 26 ?_;simp only[sA,sB,sC];refine rd1 12 fun K hK=>?_;have hal:Below V2.heap.size V2 (V2.alloc (.cells (#[.slice none 0 0,.bool false,.slice none 0 0,.slice none 0 0,.slice none 0 0,.slice none 0 0,.int .i64 0,.int .i64 0,.slice none 0 0,.slice none 0 0,.slice none 0 0,.slice none 0 0,.string ⟨#[]⟩,.int .i64 0]) 83)):=(Below.refl _ _).alloc (Nat.le_refl _) _;have hx12:=Bx.new V2 (#[.slice none 0 0,.bool false,.slice none 0 0,.slice none 0 0,.slice none 0 0,.slice none 0 0,.int .i64 0,.int .i64 0,.slice none 0 0,.slice none 0 0,.slice none 0 0,.slice none 0 0,.string ⟨#[]⟩,.int .i64 0]) 83;have hu12:=hbA.size;go_simp;refine hK.out _ _ ?_ (fun hHeld=>?_)
    ·have HB:=bt HB hal;have HM:=HM.out.k hal;have HY:=HY.out.k hal;exact⟨HM.out,HB.out⟩
    clear hK K
    (try simp only[Act.put,sA,sB,sC])
    have hz12:V2.heap.size+1≤(V2.alloc (.cells (#[.slice none 0 0,.bool false,.slice none 0 0,.slice none 0 0,.slice none 0 0,.slice none 0 0,.int .i64 0,.int .i64 0,.slice none 0 0,.slice none 0 0,.slice none 0 0,.slice none 0 0,.string ⟨#[]⟩,.int .i64 0]) 83)).heap.size:=by simp
    have hszV3:=hal.size;have HB:=bt HB hal;have HM:=HM.out.k hal;have HY:=HY.out.k hal;have HQ:=h_ (HQ.out.more hal (b:=V2.heap.size) (c:=V2.heap.size) (Nat.le_refl _) (Nat.le_refl _));have hbA:=hbA.trans (hal.mono (hbA.size));have hx11:=Bx.call hx11 hal;have hr2:=hr2.more hal (b:=V2.heap.size) (c:=V2.heap.size) (Nat.le_refl _) (Nat.le_refl _);generalize hWq:V2.alloc (.cells (#[.slice none 0 0,.bool false,.slice none 0 0,.slice none 0 0,.slice none 0 0,.slice none 0 0,.int .i64 0,.int .i64 0,.slice none 0 0,.slice none 0 0,.slice none 0 0,.slice none 0 0,.string ⟨#[]⟩,.int .i64 0]) 83)=V3 at *;clear hal;exact key _ _ R2 V3 hHeld ⟨by omega,by omega,by omega,hx11,hx12,hbA,hr2.weak (by unfold moreD;intro k h;rcases h with h|h|h;all_goals simp[h])⟩
   ·skip
    have hal:Below V1.heap.size V1 (V1.alloc (.cells (#[.slice none 0 0,.bool false,.slice none 0 0,.slice none 0 0,.slice none 0 0,.slice none 0 0,.int .i64 0,.int .i64 0,.slice none 0 0,.slice none 0 0,.slice none 0 0,.slice none 0 0,.string ⟨#[]⟩,.int .i64 0]) 83)):=(Below.refl _ _).alloc (Nat.le_refl _) _;have hx12:=Bx.new V1 (#[.slice none 0 0,.bool false,.slice none 0 0,.slice none 0 0,.slice none 0 0,.slice none 0 0,.int .i64 0,.int .i64 0,.slice none 0 0,.slice none 0 0,.slice none 0 0,.slice none 0 0,.string ⟨#[]⟩,.int .i64 0]) 83;have hu12:=hbA.size;go_simp;refine hK.out _ _ ?_ (fun hHeld=>?_)
    ·have HB:=bt HB hal;have HM:=HM.out.k hal;have HY:=HY.out.k hal;exact⟨HM.out,HB.out⟩
    clear hK K
    (try simp only[Act.put,sA,sB,sC])
    have hz12:V1.heap.size+1≤(V1.alloc (.cells (#[.slice none 0 0,.bool false,.slice none 0 0,.slice none 0 0,.slice none 0 0,.slice none 0 0,.int .i64 0,.int .i64 0,.slice none 0 0,.slice none 0 0,.slice none 0 0,.slice none 0 0,.string ⟨#[]⟩,.int .i64 0]) 83)).heap.size:=by simp
    have hszV2:=hal.size;have HB:=bt HB hal;have HM:=HM.out.k hal;have HY:=HY.out.k hal;have HQ:=h_ (HQ.out.more hal (b:=V1.heap.size) (c:=V1.heap.size) (Nat.le_refl _) (Nat.le_refl _));have hbA:=hbA.trans (hal.mono (hbA.size));have hx11:=Bx.call hx11 hal;generalize hWq:V1.alloc (.cells (#[.slice none 0 0,.bool false,.slice none 0 0,.slice none 0 0,.slice none 0 0,.slice none 0 0,.int .i64 0,.int .i64 0,.slice none 0 0,.slice none 0 0,.slice none 0 0,.slice none 0 0,.string ⟨#[]⟩,.int .i64 0]) 83)=V2 at *;clear hal;refine rd1 7 fun K hK=>?_;go_simp;refine(ROperate_any op l ad lc _ R Y.x _ (moreD_lt (moreD_lt (bl 2 hD HY) (Bx.lt hx11) (Bx.lt hx11)) (Bx.lt hx12) (Bx.lt hx12)) (HQ.out.imp fun W h=>h.r) HL.out HST.out (had2 _ HQ.out.now.k) HG.out HOP.out).mono ?_;rw[HZ.out];rintro er V3 ⟨R2,rfl,hr2,hb1⟩;refine hK.out _ _ ?_ (fun hHeld=>?_)
    ·have HB:=bt HB hb1;have HM:=HM.out.k hb1;have HY:=HY.out.k hb1;exact⟨HM.out,HB.out⟩
    clear hK K
    (try simp only[Act.put,sA,sB,sC])
    have huV:=hbA.size;have hszV3:=hb1.size;have HB:=bt HB hb1;have HM:=HM.out.k hb1;have HY:=HY.out.k hb1;have HQ:=HQ.out.k hb1;have hbA:=hbA.trans (hb1.mono (hbA.size));have hx11:=Bx.call hx11 hb1;have hx12:=Bx.call hx12 hb1;clear hb1;refine tkX 8 16 ?_;refine tkX 9 25 ?_;refine tkX 10 26 ?_;simp only[sA,sB,sC];exact key _ _ R2 V3 hHeld ⟨by omega,by omega,by omega,hx11,hx12,hbA,hr2.weak (by unfold moreD;intro k h;rcases h with h|h|h;all_goals simp[h])⟩
  ·skip
   have hal:Below D1.heap.size D1 (D1.alloc (.cells (#[.slice none 0 0,.bool false,.slice none 0 0,.slice none 0 0,.slice none 0 0,.slice none 0 0,.int .i64 0,.int .i64 0,.slice none 0 0,.slice none 0 0,.slice none 0 0,.slice none 0 0,.string ⟨#[]⟩,.int .i64 0]) 83)):=(Below.refl _ _).alloc (Nat.le_refl _) _;have hx12:=Bx.new D1 (#[.slice none 0 0,.bool false,.slice none 0 0,.slice none 0 0,.slice none 0 0,.slice none 0 0,.int .i64 0,.int .i64 0,.slice none 0 0,.slice none 0 0,.slice none 0 0,.slice none 0 0,.string ⟨#[]⟩,.int .i64 0]) 83;have hu12:=hbA.size;go_simp;refine hK.out _ _ ?_ (fun hHeld=>?_)
   ·have HB:=bt HB hal;have HM:=HM.out.k hal;have HY:=HY.out.k hal;exact⟨HM.out,HB.out⟩
   clear hK K
   (try simp only[Act.put,sA,sB,sC])
   have hz12:D1.heap.size+1≤(D1.alloc (.cells (#[.slice none 0 0,.bool false,.slice none 0 0,.slice none 0 0,.slice none 0 0,.slice none 0 0,.int .i64 0,.int .i64 0,.slice none 0 0,.slice none 0 0,.slice none 0 0,.slice none 0 0,.string ⟨#[]⟩,.int .i64 0]) 83)).heap.size:=by simp
   have hszV1:=hal.size;have HB:=bt HB hal;have HM:=HM.out.k hal;have HY:=HY.out.k hal;have HQ:=h_ (HQ.out.more hal (b:=D1.heap.size) (c:=D1.heap.size) (Nat.le_refl _) (Nat.le_refl _));have hbA:=hbA.trans (hal.mono (hbA.size));generalize hWq:D1.alloc (.cells (#[.slice none 0 0,.bool false,.slice none 0 0,.slice none 0 0,.slice none 0 0,.slice none 0 0,.int .i64 0,.int .i64 0,.slice none 0 0,.slice none 0 0,.slice none 0 0,.slice none 0 0,.string ⟨#[]⟩,.int .i64 0]) 83)=V1 at *;clear hal;refine wpAnyH_ready (rs:=[7,11]) (by kernel_rfl) (by simp) ?_;refine(AllReadyH.cons rfl (fun K hK=>?_) (AllReadyH.cons rfl (fun K hK=>?_) AllReadyH.nil))
   ·skip
    go_simp;refine(ROperate_any op l ad lc _ R Y.x _ (moreD_lt (bl 2 hD HY) (Bx.lt hx12) (Bx.lt hx12)) (HQ.out.imp fun W h=>h.r) HL.out HST.out (had2 _ HQ.out.now.k) HG.out HOP.out).mono ?_;rw[HZ.out];rintro er V2 ⟨R2,rfl,hr2,hb1⟩;refine hK.out _ _ ?_ (fun hHeld=>?_)
    ·have HB:=bt HB hb1;have HM:=HM.out.k hb1;have HY:=HY.out.k hb1;exact⟨HM.out,HB.out⟩
    clear hK K
    (try simp only[Act.put,sA,sB,sC])
    have huV:=hbA.size;have hszV2:=hb1.size;have HB:=bt HB hb1;have HM:=HM.out.k hb1;have HY:=HY.out.k hb1;have HQ:=HQ.out.k hb1;have hbA:=hbA.trans (hb1.mono (hbA.size));have hx12:=Bx.call hx12 hb1;clear hb1;refine tkX 8 16 ?_;refine tkX 9 25 ?_;refine tkX 10 26 ?_;simp only[sA,sB,sC];refine rd1 11 fun K hK=>?_;have hal:Below V2.heap.size V2 (V2.alloc (.cells (#[.int .i64 0,.int .i64 0,.string ⟨#[]⟩]) 52)):=(Below.refl _ _).alloc (Nat.le_refl _) _;have hx11:=Bx.new V2 (#[.int .i64 0,.int .i64 0,.string ⟨#[]⟩]) 52;have hu11:=hbA.size;go_simp;refine hK.out _ _ ?_ (fun hHeld=>?_)
    ·have HB:=bt HB hal;have HM:=HM.out.k hal;have HY:=HY.out.k hal;exact⟨HM.out,HB.out⟩
    clear hK K
    (try simp only[Act.put,sA,sB,sC])
    have hz11:V2.heap.size+1≤(V2.alloc (.cells (#[.int .i64 0,.int .i64 0,.string ⟨#[]⟩]) 52)).heap.size:=by simp
    have hszV3:=hal.size;have HB:=bt HB hal;have HM:=HM.out.k hal;have HY:=HY.out.k hal;have HQ:=h_ (HQ.out.more hal (b:=V2.heap.size) (c:=V2.heap.size) (Nat.le_refl _) (Nat.le_refl _));have hbA:=hbA.trans (hal.mono (hbA.size));have hx12:=Bx.call hx12 hal;have hr2:=hr2.more hal (b:=V2.heap.size) (c:=V2.heap.size) (Nat.le_refl _) (Nat.le_refl _);generalize hWq:V2.alloc (.cells (#[.int .i64 0,.int .i64 0,.string ⟨#[]⟩]) 52)=V3 at *;clear hal;exact key _ _ R2 V3 hHeld ⟨by omega,by omega,by omega,hx11,hx12,hbA,hr2.weak (by unfold moreD;intro k h;rcases h with h|h|h;all_goals simp[h])⟩
   ·skip
    have hal:Below V1.heap.size V1 (V1.alloc (.cells (#[.int .i64 0,.int .i64 0,.string ⟨#[]⟩]) 52)):=(Below.refl _ _).alloc (Nat.le_refl _) _;have hx11:=Bx.new V1 (#[.int .i64 0,.int .i64 0,.string ⟨#[]⟩]) 52;have hu11:=hbA.size;go_simp;refine hK.out _ _ ?_ (fun hHeld=>?_)
    ·have HB:=bt HB hal;have HM:=HM.out.k hal;have HY:=HY.out.k hal;exact⟨HM.out,HB.out⟩
    clear hK K
    (try simp only[Act.put,sA,sB,sC])
    have hz11:V1.heap.size+1≤(V1.alloc (.cells (#[.int .i64 0,.int .i64 0,.string ⟨#[]⟩]) 52)).heap.size:=by simp
    have hszV2:=hal.size;have HB:=bt HB hal;have HM:=HM.out.k hal;have HY:=HY.out.k hal;have HQ:=h_ (HQ.out.more hal (b:=V1.heap.size) (c:=V1.heap.size) (Nat.le_refl _) (Nat.le_refl _));have hbA:=hbA.trans (hal.mono (hbA.size));have hx12:=Bx.call hx12 hal;generalize hWq:V1.alloc (.cells (#[.int .i64 0,.int .i64 0,.string ⟨#[]⟩]) 52)=V2 at *;clear hal;refine rd1 7 fun K hK=>?_;go_simp;refine(ROperate_any op l ad lc _ R Y.x _ (moreD_lt (moreD_lt (bl 2 hD HY) (Bx.lt hx12) (Bx.lt hx12)) (Bx.lt hx11) (Bx.lt hx11)) (HQ.out.imp fun W h=>h.r) HL.out HST.out (had2 _ HQ.out.now.k) HG.out HOP.out).mono ?_;rw[HZ.out];rintro er V3 ⟨R2,rfl,hr2,hb1⟩;refine hK.out _ _ ?_ (fun hHeld=>?_)
    ·have HB:=bt HB hb1;have HM:=HM.out.k hb1;have HY:=HY.out.k hb1;exact⟨HM.out,HB.out⟩
    clear hK K
    (try simp only[Act.put,sA,sB,sC])
    have huV:=hbA.size;have hszV3:=hb1.size;have HB:=bt HB hb1;have HM:=HM.out.k hb1;have HY:=HY.out.k hb1;have HQ:=HQ.out.k hb1;have hbA:=hbA.trans (hb1.mono (hbA.size));have hx11:=Bx.call hx11 hb1;have hx12:=Bx.call hx12 hb1;clear hb1;refine tkX 8 16 ?_;refine tkX 9 25 ?_;refine tkX 10 26 ?_;simp only[sA,sB,sC];exact key _ _ R2 V3 hHeld ⟨by omega,by omega,by omega,hx11,hx12,hbA,hr2.weak (by unfold moreD;intro k h;rcases h with h|h|h;all_goals simp[h])⟩
 rintro b7 b8 R2 W1 hHeld ⟨hne,hba,hca,hx,hy,hbl,hr2⟩
 have hlb7:w.heap.size+2≤b7:=by have:=HY.out.lt;omega
 have hlb8:w.heap.size+2≤b8:=by have:=HY.out.lt;omega
 have HM:=HM.out.k hbl;have HY:=HY.out.k hbl;have HQ:=h_ (HQ.out.more hbl (b:=b7) (c:=b8) (by omega) (by omega));have HB:=bt HB hbl;have HA:Hid (Bx b7 (#[.int .i64 0,.int .i64 0,.string ⟨#[]⟩]) 52 W1):=h_ hx;have HX:Hid (Bx b8 (#[.slice none 0 0,.bool false,.slice none 0 0,.slice none 0 0,.slice none 0 0,.slice none 0 0,.int .i64 0,.int .i64 0,.slice none 0 0,.slice none 0 0,.slice none 0 0,.slice none 0 0,.string ⟨#[]⟩,.int .i64 0]) 83 W1):=h_ hy;clear hx hy hbl hba hca;simp only[List.foldl_cons,List.foldl_nil];simp only[sA,sB,sC];have HR2:=h_ hr2;clear hr2;refine rd1 13 fun K hK=>?_;refine Bx.rst HA.out 52 0 (.agg (vV Z.1)) (vV Z.1) rfl (Nat.le_of_ble_eq_true rfl) (by kernel_rfl) rfl rfl rfl rfl rfl ?_;intro W2 hq p2;have HA:=h_ hq;clear hq;have HM:=HM.out.q p2;have HY:=HY.out.q p2;have HX:=HX.out.q p2;have HB:=pb HB p2;have HQ:=HQ.out.q p2;have HR2:=HR2.out.q p2;clear p2;refine hK.out _ _ (⟨HM.out,HB.out⟩) fun hHeld=>?_;clear hK K
 (try simp only[Act.put])
 refine rd1 14 fun K hK=>?_;refine Bx.rst HX.out 83 0 (.agg (mvA R2 Z.2)) (mvA R2 Z.2) rfl (Nat.le_of_ble_eq_true rfl) (by kernel_rfl) rfl rfl rfl rfl rfl ?_;intro W3 hq p3;have HX:=h_ hq;clear hq;have HM:=HM.out.q p3;have HY:=HY.out.q p3;have HA:=HA.out.q p3;have HB:=pb HB p3;have HQ:=HQ.out.q p3;have HR2:=HR2.out.q p3;clear p3;refine hK.out _ _ (⟨HM.out,HB.out⟩) fun hHeld=>?_;clear hK K
 (try simp only[Act.put])
 refine wpAnyH_done (by kernel_rfl) ?_ _;go_wp2_with (first|refine HX.out.wl 0 (mvA R2 Z.2) underlying83 ?_|refine HM.out.ws 3 (.agg (mvA R2 Z.2)) (kvA R2 Q { Y with x:=Z.2 }) ?_);intro W4 HM p4;have HY:=HY.out.q p4;have HA:=HA.out.q p4;have HX:=HX.out.q p4;have HB:=pb HB p4;have HQ:=HQ.out.q p4;have HR2:=HR2.out.q p4;clear p4;have hsh:=slHi_vl (a:=Q.ka) (n:=Y.stk.length) (k:=s.length) (cap:=Q.kc) HSK.out;go_wp2_with fail;refine wp_region_held_drew (S:=(fun w'=>Bx b7 (vV Z.1) 52 w'∧Below w.heap.size w w')) (by kernel_rfl) ?_ (fun hHeld=>?_)
 ·exact(show ((fun w'=>Bx b7 (vV Z.1) 52 w'∧Below w.heap.size w w')) W4.drew from by have hb1:=(Below.refl W4.heap.size W4).drew;have HM:=HM.out.k hb1;have HY:=HY.out.k hb1;have HA:=HA.out.k hb1;have HX:=HX.out.k hb1;have HB:=bt HB hb1;exact⟨HA.out,HB.out⟩)
 have hb1:=(Below.refl W4.heap.size W4).drew;have HM:=HM.out.k hb1;have HY:=HY.out.k hb1;have HA:=HA.out.k hb1;have HX:=HX.out.k hb1;have HQ:=HQ.out.k hb1;have HR2:=HR2.out.k hb1;have HB:=bt HB hb1;clear hb1;generalize hWd:W4.drew=D2 at hHeld HB HM HY HA HX HQ HR2 ⊢;clear hWd;refine tkX 0 29 ?_;refine tkX 2 31 ?_;simp only[sA,sB,sC];refine tkl2 4 33 (fun _ h=>h.1) 0 (vV Z.1) underlying52 ?_;simp only[sA,sB,sC];have z1:=HM.out.cl 17;refine rd1 1 fun K hK=>?_;go_simp;skip
 focus (try go_wp2_with fail)
 refine hK.out _ _ (⟨HA.out,HB.out⟩) fun hHeld=>?_;clear hK K
 (try simp only[Act.put,sA,sB,sC])
 clear z1;refine tkX 3 32 ?_;simp only[sA,sB,sC];have hDc:∀k,(moreD (boxD D w 2) b7 b8) k→k<D2.heap.size:=moreD_lt (bl 2 hD HY) HA.out.lt HX.out.lt;refine rd1 5 fun K hK=>?_;go_simp;refine(Rpushed_any Q.ka Q.kc s Z.1 _ (by have h:=cells_take_vl (k:=s.length) (by have:=HLEN.out;omega) HQ.out.now.k;rw[show Y.stk.take s.length=s by rw[HS.out,List.take_left]]at h;exact h) (by omega)).mono ?_;rintro er w1 ⟨ka,kc,rfl,ho,hb1⟩;have HM:=HM.out.k hb1;have HY:=HY.out.k hb1;have HA:=HA.out.k hb1;have HX:=HX.out.k hb1;have HQ:=HQ.out.k hb1;have HR2:=HR2.out.k hb1;have HB:=bt HB hb1;clear hb1;refine hK.out _ _ (⟨HA.out,HB.out⟩) fun hHeld=>?_;clear hK K
 (try simp only[Act.put,sA,sB,sC])
 have HOK:=h_ (own_stab ho hDc);clear ho hDc;refine tkX 6 35 ?_;simp only[sA,sB,sC];refine rd1 7 fun K hK=>?_;refine Bx.rst HM.out 26 17 (.slice ka (s++[Z.1]).length kc) (kvA R2 { Q with ka:=ka,kc:=kc } { Y with x:=Z.2,stk:=s++[Z.1] }) rfl (Nat.le_of_ble_eq_true rfl) (by kernel_rfl) rfl rfl rfl rfl rfl ?_;intro W5 hq p5;have HM:=h_ hq;clear hq;have HY:=HY.out.q p5;have HA:=HA.out.q p5;have HX:=HX.out.q p5;have HB:=pb HB p5;have HQ:=HQ.out.q p5;have HR2:=HR2.out.q p5;have HOK:=HOK.out.q p5;clear p5;refine hK.out _ _ (⟨HA.out,HB.out⟩) fun hHeld=>?_;clear hK K
 (try simp only[Act.put])
 refine wpAnyH_done (by kernel_rfl) ?_ _;go_wp2_with (first|refine HM.out.wl 0 (kvA R2 { Q with ka:=ka,kc:=kc } { Y with x:=Z.2,stk:=s++[Z.1] }) underlying85 ?_|refine HY.out.wa (kvA R2 { Q with ka:=ka,kc:=kc } { Y with x:=Z.2,stk:=s++[Z.1] }) ?_);intro W6 HY p6;have HM:=HM.out.q p6;have HA:=HA.out.q p6;have HX:=HX.out.q p6;have HB:=pb HB p6;have HQ:=HQ.out.q p6;have HR2:=HR2.out.q p6;have HOK:=HOK.out.q p6;clear p6;go_wp2;exact HY.out.r1 underlying85 ⟨R2,{ Q with ka:=ka,kc:=kc },rfl,((HQ.out.both HR2.out fun W h h2=>And.intro h h2).both HOK.out fun W h h2=>⟨h.2,h.1.P,h.1.I,own_valAt h2,own_le h2,h.1.l⟩).less.out,HB.out,rfl,rfl,rfl⟩
def acc8 (k v:Vl) (X:Rx):Rx:=if k.k≠2∨storedB v=false then abX 1009 X else stX k.s v X
def acc9 (k:Vl) (X:Rx):Rx:=if k.k≠2 then abX 1009 X else stX k.s v00 X
theorem tk1(L:List Vl)(v:Vl)(r:List Vl):(L++v::r).take (L.length+1)=L++[v]:=by rw[List.take_append,List.take_of_length_le (by omega),Nat.add_sub_cancel_left];rfl
def chkX (x:Ins) (p q:Vl) (X:Rx):Rx:=if p.k≠1∨q.k≠1 then abX 1009 X else if p.n<q.n∧x.n<q.n-p.n then abX 1005 X else X
theorem Raccess8_any(s:List Vl)(k v:Vl)(D:Nat→Prop)(R:Ra)(Q:Qa)(Y:Ry)(w:World)(hD:∀k,D k→k<w.heap.size)(hR:Stab D w (QIn R Q Y))(hl:RL Y.x)(hs:Y.stk=s++[k,v])(hk:k.s.length≤9223372036854775807)(hls:s.length≤10000000):
  Calls prog 78 #[.agg (kvA R Q Y),.int .i64 8] w (KPost D Q { Y with x:=acc8 k v Y.x,stk:=s } w):=by
 obtain⟨Z,hZ⟩:=ex_ (acc8 k v Y.x);rw[hZ];have HZ:=h_ hZ;clear hZ;have HR:=h_ hR;have HL:=h_ hl;have HS0:=h_ hs;clear hR hl;obtain⟨L1,hL1⟩:=ex_ (s++[k]);have HS:=h_ (show Y.stk=L1++[v] by rw[←hL1,hs];simp)
 have HL1:=h_ hL1;have hl1:L1.length=s.length+1:=by rw[←hL1];simp
 have HLL:=h_ hl1;clear hL1 hl1 hs;obtain⟨v0,hW0,hb0,hHM,hHY⟩:=bxs2 w (kvA R Q Y) (#[.slice none 0 0,.int .i64 0,.slice none 0 0,.slice none 0 0,.bool false,.slice none 0 0,.slice none 0 0,.slice none 0 0,.slice none 0 0,.int .i64 0,.int .i64 0,.slice none 0 0,.slice none 0 0,.slice none 0 0,.slice none 0 0,.string ⟨#[]⟩,.int .i64 0,.slice none 0 0,.slice none 0 0,.int .i64 0,.slice none 0 0,.int .i64 0,.int .i64 0]) 85 85;have HW:=h_ hW0;have HB:=h_ hb0;have HM:=h_ hHM;have HY:=h_ hHY;clear hW0 hb0 hHM hHY;go_enter func78,ntmps78;go_upto_region 1 with (fail);rw[HW.out];clear HW;have HQ:=h_ (HR.out.inn HB.out 2);clear HR;go_wp2_with (refine wal (z:=#[.int .i64 0,.int .i64 0,.string ⟨#[]⟩]) rfl rfl rfl (by kernel_rfl) ?_);intro b5 W1 hba hx hbl
 have hlb5:w.heap.size+2≤b5:=by have:=HY.out.lt;omega
 have HM:=HM.out.k hbl;have HY:=HY.out.k hbl;have HQ:=h_ (HQ.out.more hbl (b:=b5) (c:=b5) (by omega) (by omega));have HB:=bt HB hbl;have HV:=h_ hx;clear hx hbl hba;go_wp2_with (refine HV.out.ws 0 (.agg (#[.int .i64 0,.int .i64 0,.string ⟨#[]⟩])) (vV v00) ?_);intro W2 HV p2;have HM:=HM.out.q p2;have HY:=HY.out.q p2;have HB:=pb HB p2;have HQ:=HQ.out.q p2;clear p2;have HKC:=h_ HQ.out.now.kc;have HSK:=h_ (Nat.le_trans (show s.length≤Y.stk.length by rw[HS0.out,List.length_append];omega) HKC.out)
 have hlq:Y.stk.length=L1.length+1:=by rw[HS.out];simp
 have hcs:CellsAt W2 (.slice Q.ka (L1.length+1) Q.kc) (L1.length+1) (vlLs (L1++[v])):=by
  have h3:=cells_take_vl (k:=L1.length+1) (by rw[HS.out];simp) HQ.out.now.k;rw[show Y.stk.take (L1.length+1)=L1++[v] by rw[HS.out];exact tk1 _ _ _]at h3;rw[show (L1++[v]).length=L1.length+1 by simp]at h3;exact h3
 have hcc:L1.length+1≤Q.kc:=Nat.le_trans (by rw[HS.out];simp) HKC.out;have HCC:=h_ hcc;have HCS:=h_ hcs;clear hcc hcs
 have x17:W2.cell? ⟨w.heap.size,17,none⟩=some (.slice Q.ka (L1.length+1) Q.kc):=by rw[←hlq];exact HM.out.cell 17
 clear hlq;go_wp2_with (fail);refine(Rtop_any Q.ka Q.kc L1 v _ HCS.out HCC.out (by have:=HLL.out;omega)).mono ?_;rintro er w1 ⟨rfl,hb1⟩;have HM:=HM.out.k hb1;have HY:=HY.out.k hb1;have HV:=HV.out.k hb1;have HQ:=HQ.out.k hb1;have HB:=bt HB hb1;clear hb1;clear x17 HCS HCC;go_wp2_with (refine wal (z:=#[.int .i64 0,.int .i64 0,.string ⟨#[]⟩]) rfl rfl rfl (by kernel_rfl) ?_);intro b6 W3 hba hx hbl
 have hlb6:w.heap.size+2≤b6:=by have:=HY.out.lt;omega
 have hnb6b5:b5≠b6:=by have:=HV.out.lt;omega
 have HM:=HM.out.k hbl;have HY:=HY.out.k hbl;have HV:=HV.out.k hbl;have HQ:=h_ (HQ.out.more hbl (b:=b6) (c:=b6) (by omega) (by omega));have HB:=bt HB hbl;have HW:=h_ hx;clear hx hbl hba;go_wp2_with (refine HW.out.wa (vV v) ?_);intro W4 HW p4;have HM:=HM.out.q p4;have HY:=HY.out.q p4;have HV:=HV.out.q p4;have HB:=pb HB p4;have HQ:=HQ.out.q p4;clear p4;go_wp2_with (first|refine HW.out.wl 0 (vV v) underlying52 ?_|refine HV.out.wa (vV v) ?_);intro W5 HV p5;have HM:=HM.out.q p5;have HY:=HY.out.q p5;have HW:=HW.out.q p5;have HB:=pb HB p5;have HQ:=HQ.out.q p5;clear p5;go_wp2_with (refine HM.out.ws 17 (.slice Q.ka L1.length Q.kc) (kvA R Q { Y with stk:=L1 }) ?_);intro W6 HM p6;have HY:=HY.out.q p6;have HV:=HV.out.q p6;have HW:=HW.out.q p6;have HB:=pb HB p6;have HQ:=HQ.out.q p6;clear p6
 have hlq:L1.length=s.length+1:=by rw[←HL1.out];simp
 have hcs:CellsAt W6 (.slice Q.ka (s.length+1) Q.kc) (s.length+1) (vlLs (s++[k])):=by
  have h3:=cells_take_vl (k:=s.length+1) (by rw[HS.out,←HL1.out];simp) HQ.out.now.k;rw[show Y.stk.take (s.length+1)=s++[k] by rw[HS0.out];exact tk1 _ _ _]at h3;rw[show (s++[k]).length=s.length+1 by simp]at h3;exact h3
 have hcc:s.length+1≤Q.kc:=Nat.le_trans (by rw[HS.out,←HL1.out];simp) HKC.out;have HCC:=h_ hcc;have HCS:=h_ hcs;clear hcc hcs
 have x17:W6.cell? ⟨w.heap.size,17,none⟩=some (.slice Q.ka (s.length+1) Q.kc):=by rw[←hlq];exact HM.out.cell 17
 clear hlq;go_wp2_with (fail);refine(Rtop_any Q.ka Q.kc s k _ HCS.out HCC.out (by omega)).mono ?_;rintro er w1 ⟨rfl,hb1⟩;have HM:=HM.out.k hb1;have HY:=HY.out.k hb1;have HV:=HV.out.k hb1;have HW:=HW.out.k hb1;have HQ:=HQ.out.k hb1;have HB:=bt HB hb1;clear hb1;clear x17 HCS HCC;go_wp2_with (refine wal (z:=#[.int .i64 0,.int .i64 0,.string ⟨#[]⟩]) rfl rfl rfl (by kernel_rfl) ?_);intro b8 W7 hba hx hbl
 have hlb8:w.heap.size+2≤b8:=by have:=HY.out.lt;omega
 have hnb8b5:b5≠b8:=by have:=HV.out.lt;omega
 have hnb8b6:b6≠b8:=by have:=HW.out.lt;omega
 have HM:=HM.out.k hbl;have HY:=HY.out.k hbl;have HV:=HV.out.k hbl;have HW:=HW.out.k hbl;have HQ:=h_ (HQ.out.more hbl (b:=b8) (c:=b8) (by omega) (by omega));have HB:=bt HB hbl;have HK:=h_ hx;clear hx hbl hba;go_wp2_with (refine HK.out.wa (vV k) ?_);intro W8 HK p8;have HM:=HM.out.q p8;have HY:=HY.out.q p8;have HV:=HV.out.q p8;have HW:=HW.out.q p8;have HB:=pb HB p8;have HQ:=HQ.out.q p8;clear p8;go_wp2_with (refine HM.out.ws 17 (.slice Q.ka s.length Q.kc) (kvA R Q { Y with stk:=s }) ?_);intro W9 HM p9;have HY:=HY.out.q p9;have HV:=HV.out.q p9;have HW:=HW.out.q p9;have HK:=HK.out.q p9;have HB:=pb HB p9;have HQ:=HQ.out.q p9;clear p9;have x0:=HK.out.cl 0;obtain⟨y0,y1,y2⟩:=HV.out.d3 0 1 2;by_cases hkk:k.k=2;rotate_left
 ·have t1:(k.k != 2)=true:=by rw[bne_iff_ne];exact hkk
  have hZ2:Z=abX 1009 Y.x:=HZ.out.symm.trans (if_pos (Or.inl hkk));subst hZ2;clear hkk;go_wp2_with (refine HM.out.wl 3 (mvA R Y.x) underlying83 ?_);refine(Rwrong18_any _ R Y.x _ (moreD_lt (moreD_lt (moreD_lt (bl 2 hD HY) HV.out.lt HV.out.lt) HW.out.lt HW.out.lt) HK.out.lt HK.out.lt) (HQ.out.imp fun W h=>h.r)).mono ?_;rintro er w1 ⟨R2,rfl,hr2,hb1⟩;have HM:=HM.out.k hb1;have HY:=HY.out.k hb1;have HV:=HV.out.k hb1;have HW:=HW.out.k hb1;have HK:=HK.out.k hb1;have HQ:=HQ.out.k hb1;have HB:=bt HB hb1;clear hb1;have HR2:=h_ hr2;clear hr2;go_wp2_with (refine HM.out.ws 3 (.agg (mvA R2 (abX 1009 Y.x))) (kvA R2 Q { Y with x:=abX 1009 Y.x,stk:=s }) ?_);intro W10 HM p10;have HY:=HY.out.q p10;have HV:=HV.out.q p10;have HW:=HW.out.q p10;have HK:=HK.out.q p10;have HB:=pb HB p10;have HQ:=HQ.out.q p10;have HR2:=HR2.out.q p10;clear p10;go_wp2_with (first|refine HM.out.wl 0 (kvA R2 Q { Y with x:=abX 1009 Y.x,stk:=s }) underlying85 ?_|refine HY.out.wa (kvA R2 Q { Y with x:=abX 1009 Y.x,stk:=s }) ?_);intro W11 HY p11;have HM:=HM.out.q p11;have HV:=HV.out.q p11;have HW:=HW.out.q p11;have HK:=HK.out.q p11;have HB:=pb HB p11;have HQ:=HQ.out.q p11;have HR2:=HR2.out.q p11;clear p11;go_wp2;exact HY.out.r1 underlying85 ⟨R2,Q,rfl,(HQ.out.both HR2.out fun W h h2=>⟨h2,h.P,h.I,by have h3:=cells_take_vl (k:=s.length) (by rw[HS0.out,List.length_append];omega) h.k;rw[show Y.stk.take s.length=s by rw[HS0.out];simp]at h3;exact h3,HSK.out,h.l⟩).less.less.less.out,HB.out,rfl,rfl,rfl⟩
 have t1:(k.k != 2)=false:=by rw[hkk];rfl
 have HKK:=h_ hkk;clear hkk;obtain⟨sb,hsb⟩:=ex_ (storedB v);have HSB:=h_ hsb;clear hsb;go_wp2_with (fail);refine(Rscalar_any v _).mono ?_;rw[HSB.out];rintro er w1 ⟨rfl,hb1⟩;have HM:=HM.out.k hb1;have HY:=HY.out.k hb1;have HV:=HV.out.k hb1;have HW:=HW.out.k hb1;have HK:=HK.out.k hb1;have HQ:=HQ.out.k hb1;have HB:=bt HB hb1;clear hb1;clear x0 y0 y1 y2
 cases sb with
 | false =>
  have hZ2:Z=abX 1009 Y.x:=HZ.out.symm.trans (if_pos (Or.inr HSB.out));subst hZ2;go_wp2_with (refine HM.out.wl 3 (mvA R Y.x) underlying83 ?_);refine(Rwrong18_any _ R Y.x _ (moreD_lt (moreD_lt (moreD_lt (bl 2 hD HY) HV.out.lt HV.out.lt) HW.out.lt HW.out.lt) HK.out.lt HK.out.lt) (HQ.out.imp fun W h=>h.r)).mono ?_;rintro er w1 ⟨R2,rfl,hr2,hb1⟩;have HM:=HM.out.k hb1;have HY:=HY.out.k hb1;have HV:=HV.out.k hb1;have HW:=HW.out.k hb1;have HK:=HK.out.k hb1;have HQ:=HQ.out.k hb1;have HB:=bt HB hb1;clear hb1;have HR2:=h_ hr2;clear hr2;go_wp2_with (refine HM.out.ws 3 (.agg (mvA R2 (abX 1009 Y.x))) (kvA R2 Q { Y with x:=abX 1009 Y.x,stk:=s }) ?_);intro W10 HM p10;have HY:=HY.out.q p10;have HV:=HV.out.q p10;have HW:=HW.out.q p10;have HK:=HK.out.q p10;have HB:=pb HB p10;have HQ:=HQ.out.q p10;have HR2:=HR2.out.q p10;clear p10;go_wp2_with (first|refine HM.out.wl 0 (kvA R2 Q { Y with x:=abX 1009 Y.x,stk:=s }) underlying85 ?_|refine HY.out.wa (kvA R2 Q { Y with x:=abX 1009 Y.x,stk:=s }) ?_);intro W11 HY p11;have HM:=HM.out.q p11;have HV:=HV.out.q p11;have HW:=HW.out.q p11;have HK:=HK.out.q p11;have HB:=pb HB p11;have HQ:=HQ.out.q p11;have HR2:=HR2.out.q p11;clear p11;go_wp2;exact HY.out.r1 underlying85 ⟨R2,Q,rfl,(HQ.out.both HR2.out fun W h h2=>⟨h2,h.P,h.I,by have h3:=cells_take_vl (k:=s.length) (by rw[HS0.out,List.length_append];omega) h.k;rw[show Y.stk.take s.length=s by rw[HS0.out];simp]at h3;exact h3,HSK.out,h.l⟩).less.less.less.out,HB.out,rfl,rfl,rfl⟩
 | true =>
  have hZ2:Z=stX k.s v Y.x:=HZ.out.symm.trans (if_neg (by rintro (q|q);exact q HKK.out;rw[HSB.out]at q;cases q));subst hZ2;have x2:=HK.out.cl 2;go_wp2_with (first|refine HM.out.wl 3 (mvA R Y.x) underlying83 ?_|refine HV.out.wl 0 (vV v) underlying52 ?_);refine(RStore_any k.s v _ R Y.x _ (moreD_lt (moreD_lt (moreD_lt (bl 2 hD HY) HV.out.lt HV.out.lt) HW.out.lt HW.out.lt) HK.out.lt HK.out.lt) (HQ.out.imp fun W h=>h.r) HL.out hk).mono ?_;rintro er w1 ⟨R2,rfl,hr2,hb1⟩;have HM:=HM.out.k hb1;have HY:=HY.out.k hb1;have HV:=HV.out.k hb1;have HW:=HW.out.k hb1;have HK:=HK.out.k hb1;have HQ:=HQ.out.k hb1;have HB:=bt HB hb1;clear hb1;have HR2:=h_ hr2;clear hr2;go_wp2_with (refine HM.out.ws 3 (.agg (mvA R2 (stX k.s v Y.x))) (kvA R2 Q { Y with x:=stX k.s v Y.x,stk:=s }) ?_);intro W10 HM p10;have HY:=HY.out.q p10;have HV:=HV.out.q p10;have HW:=HW.out.q p10;have HK:=HK.out.q p10;have HB:=pb HB p10;have HQ:=HQ.out.q p10;have HR2:=HR2.out.q p10;clear p10;go_wp2_with (first|refine HM.out.wl 0 (kvA R2 Q { Y with x:=stX k.s v Y.x,stk:=s }) underlying85 ?_|refine HY.out.wa (kvA R2 Q { Y with x:=stX k.s v Y.x,stk:=s }) ?_);intro W11 HY p11;have HM:=HM.out.q p11;have HV:=HV.out.q p11;have HW:=HW.out.q p11;have HK:=HK.out.q p11;have HB:=pb HB p11;have HQ:=HQ.out.q p11;have HR2:=HR2.out.q p11;clear p11;go_wp2;exact HY.out.r1 underlying85 ⟨R2,Q,rfl,(HQ.out.both HR2.out fun W h h2=>⟨h2,h.P,h.I,by have h3:=cells_take_vl (k:=s.length) (by rw[HS0.out,List.length_append];omega) h.k;rw[show Y.stk.take s.length=s by rw[HS0.out];simp]at h3;exact h3,HSK.out,h.l⟩).less.less.less.out,HB.out,rfl,rfl,rfl⟩
theorem Raccess9_any(s:List Vl)(k:Vl)(D:Nat→Prop)(R:Ra)(Q:Qa)(Y:Ry)(w:World)(hD:∀k,D k→k<w.heap.size)(hR:Stab D w (QIn R Q Y))(hl:RL Y.x)(hs:Y.stk=s++[k])(hk:k.s.length≤9223372036854775807)(hls:s.length≤10000000):
  Calls prog 78 #[.agg (kvA R Q Y),.int .i64 9] w (KPost D Q { Y with x:=acc9 k Y.x,stk:=s } w):=by
 obtain⟨Z,hZ⟩:=ex_ (acc9 k Y.x);rw[hZ];have HZ:=h_ hZ;clear hZ;have HR:=h_ hR;have HL:=h_ hl;have HS0:=h_ hs;clear hR hl;have HS:=h_ hs;clear hs;obtain⟨v0,hW0,hb0,hHM,hHY⟩:=bxs2 w (kvA R Q Y) (#[.slice none 0 0,.int .i64 0,.slice none 0 0,.slice none 0 0,.bool false,.slice none 0 0,.slice none 0 0,.slice none 0 0,.slice none 0 0,.int .i64 0,.int .i64 0,.slice none 0 0,.slice none 0 0,.slice none 0 0,.slice none 0 0,.string ⟨#[]⟩,.int .i64 0,.slice none 0 0,.slice none 0 0,.int .i64 0,.slice none 0 0,.int .i64 0,.int .i64 0]) 85 85;have HW:=h_ hW0;have HB:=h_ hb0;have HM:=h_ hHM;have HY:=h_ hHY;clear hW0 hb0 hHM hHY;go_enter func78,ntmps78;go_upto_region 1 with (fail);rw[HW.out];clear HW;have HQ:=h_ (HR.out.inn HB.out 2);clear HR;go_wp2_with (refine wal (z:=#[.int .i64 0,.int .i64 0,.string ⟨#[]⟩]) rfl rfl rfl (by kernel_rfl) ?_);intro b5 W1 hba hx hbl
 have hlb5:w.heap.size+2≤b5:=by have:=HY.out.lt;omega
 have HM:=HM.out.k hbl;have HY:=HY.out.k hbl;have HQ:=h_ (HQ.out.more hbl (b:=b5) (c:=b5) (by omega) (by omega));have HB:=bt HB hbl;have HV:=h_ hx;clear hx hbl hba;go_wp2_with (refine HV.out.ws 0 (.agg (#[.int .i64 0,.int .i64 0,.string ⟨#[]⟩])) (vV v00) ?_);intro W2 HV p2;have HM:=HM.out.q p2;have HY:=HY.out.q p2;have HB:=pb HB p2;have HQ:=HQ.out.q p2;clear p2;have HKC:=h_ HQ.out.now.kc;have HSK:=h_ (Nat.le_trans (show s.length≤Y.stk.length by rw[HS0.out,List.length_append];omega) HKC.out)
 have hlq:Y.stk.length=s.length+1:=by rw[HS.out];simp
 have hcs:CellsAt W2 (.slice Q.ka (s.length+1) Q.kc) (s.length+1) (vlLs (s++[k])):=by
  have h3:=cells_take_vl (k:=s.length+1) (by rw[HS.out];simp) HQ.out.now.k;rw[show Y.stk.take (s.length+1)=s++[k] by rw[HS0.out];exact tk1 _ _ _]at h3;rw[show (s++[k]).length=s.length+1 by simp]at h3;exact h3
 have hcc:s.length+1≤Q.kc:=Nat.le_trans (by rw[HS.out];simp) HKC.out;have HCC:=h_ hcc;have HCS:=h_ hcs;clear hcc hcs
 have x17:W2.cell? ⟨w.heap.size,17,none⟩=some (.slice Q.ka (s.length+1) Q.kc):=by rw[←hlq];exact HM.out.cell 17
 clear hlq;go_wp2_with (fail);refine(Rtop_any Q.ka Q.kc s k _ HCS.out HCC.out (by omega)).mono ?_;rintro er w1 ⟨rfl,hb1⟩;have HM:=HM.out.k hb1;have HY:=HY.out.k hb1;have HV:=HV.out.k hb1;have HQ:=HQ.out.k hb1;have HB:=bt HB hb1;clear hb1;clear x17 HCS HCC;go_wp2_with (refine wal (z:=#[.int .i64 0,.int .i64 0,.string ⟨#[]⟩]) rfl rfl rfl (by kernel_rfl) ?_);intro b8 W3 hba hx hbl
 have hlb8:w.heap.size+2≤b8:=by have:=HY.out.lt;omega
 have hnb8b5:b5≠b8:=by have:=HV.out.lt;omega
 have HM:=HM.out.k hbl;have HY:=HY.out.k hbl;have HV:=HV.out.k hbl;have HQ:=h_ (HQ.out.more hbl (b:=b8) (c:=b8) (by omega) (by omega));have HB:=bt HB hbl;have HK:=h_ hx;clear hx hbl hba;go_wp2_with (refine HK.out.wa (vV k) ?_);intro W4 HK p4;have HM:=HM.out.q p4;have HY:=HY.out.q p4;have HV:=HV.out.q p4;have HB:=pb HB p4;have HQ:=HQ.out.q p4;clear p4;go_wp2_with (refine HM.out.ws 17 (.slice Q.ka s.length Q.kc) (kvA R Q { Y with stk:=s }) ?_);intro W5 HM p5;have HY:=HY.out.q p5;have HV:=HV.out.q p5;have HK:=HK.out.q p5;have HB:=pb HB p5;have HQ:=HQ.out.q p5;clear p5;have x0:=HK.out.cl 0;by_cases hkk:k.k=2;rotate_left
 ·have t1:(k.k != 2)=true:=by rw[bne_iff_ne];exact hkk
  have hZ2:Z=abX 1009 Y.x:=HZ.out.symm.trans (if_pos (hkk));subst hZ2;clear hkk;go_wp2_with (refine HM.out.wl 3 (mvA R Y.x) underlying83 ?_);refine(Rwrong18_any _ R Y.x _ (moreD_lt (moreD_lt (bl 2 hD HY) HV.out.lt HV.out.lt) HK.out.lt HK.out.lt) (HQ.out.imp fun W h=>h.r)).mono ?_;rintro er w1 ⟨R2,rfl,hr2,hb1⟩;have HM:=HM.out.k hb1;have HY:=HY.out.k hb1;have HV:=HV.out.k hb1;have HK:=HK.out.k hb1;have HQ:=HQ.out.k hb1;have HB:=bt HB hb1;clear hb1;have HR2:=h_ hr2;clear hr2;go_wp2_with (refine HM.out.ws 3 (.agg (mvA R2 (abX 1009 Y.x))) (kvA R2 Q { Y with x:=abX 1009 Y.x,stk:=s }) ?_);intro W6 HM p6;have HY:=HY.out.q p6;have HV:=HV.out.q p6;have HK:=HK.out.q p6;have HB:=pb HB p6;have HQ:=HQ.out.q p6;have HR2:=HR2.out.q p6;clear p6;go_wp2_with (first|refine HM.out.wl 0 (kvA R2 Q { Y with x:=abX 1009 Y.x,stk:=s }) underlying85 ?_|refine HY.out.wa (kvA R2 Q { Y with x:=abX 1009 Y.x,stk:=s }) ?_);intro W7 HY p7;have HM:=HM.out.q p7;have HV:=HV.out.q p7;have HK:=HK.out.q p7;have HB:=pb HB p7;have HQ:=HQ.out.q p7;have HR2:=HR2.out.q p7;clear p7;go_wp2;exact HY.out.r1 underlying85 ⟨R2,Q,rfl,(HQ.out.both HR2.out fun W h h2=>⟨h2,h.P,h.I,by have h3:=cells_take_vl (k:=s.length) (by rw[HS0.out,List.length_append];omega) h.k;rw[show Y.stk.take s.length=s by rw[HS0.out];simp]at h3;exact h3,HSK.out,h.l⟩).less.less.out,HB.out,rfl,rfl,rfl⟩
 have t1:(k.k != 2)=false:=by rw[hkk];rfl
 have HKK:=h_ hkk;clear hkk;have hZ2:Z=stX k.s v00 Y.x:=HZ.out.symm.trans (if_neg (fun q=>q HKK.out));subst hZ2;have x2:=HK.out.cl 2;go_wp2_with (first|refine HM.out.wl 3 (mvA R Y.x) underlying83 ?_|refine HV.out.wl 0 (vV v00) underlying52 ?_);refine(RStore_any k.s v00 _ R Y.x _ (moreD_lt (moreD_lt (bl 2 hD HY) HV.out.lt HV.out.lt) HK.out.lt HK.out.lt) (HQ.out.imp fun W h=>h.r) HL.out hk).mono ?_;rintro er w1 ⟨R2,rfl,hr2,hb1⟩;have HM:=HM.out.k hb1;have HY:=HY.out.k hb1;have HV:=HV.out.k hb1;have HK:=HK.out.k hb1;have HQ:=HQ.out.k hb1;have HB:=bt HB hb1;clear hb1;have HR2:=h_ hr2;clear hr2;go_wp2_with (refine HM.out.ws 3 (.agg (mvA R2 (stX k.s v00 Y.x))) (kvA R2 Q { Y with x:=stX k.s v00 Y.x,stk:=s }) ?_);intro W6 HM p6;have HY:=HY.out.q p6;have HV:=HV.out.q p6;have HK:=HK.out.q p6;have HB:=pb HB p6;have HQ:=HQ.out.q p6;have HR2:=HR2.out.q p6;clear p6;go_wp2_with (first|refine HM.out.wl 0 (kvA R2 Q { Y with x:=stX k.s v00 Y.x,stk:=s }) underlying85 ?_|refine HY.out.wa (kvA R2 Q { Y with x:=stX k.s v00 Y.x,stk:=s }) ?_);intro W7 HY p7;have HM:=HM.out.q p7;have HV:=HV.out.q p7;have HK:=HK.out.q p7;have HB:=pb HB p7;have HQ:=HQ.out.q p7;have HR2:=HR2.out.q p7;clear p7;go_wp2;exact HY.out.r1 underlying85 ⟨R2,Q,rfl,(HQ.out.both HR2.out fun W h h2=>⟨h2,h.P,h.I,by have h3:=cells_take_vl (k:=s.length) (by rw[HS0.out,List.length_append];omega) h.k;rw[show Y.stk.take s.length=s by rw[HS0.out];simp]at h3;exact h3,HSK.out,h.l⟩).less.less.out,HB.out,rfl,rfl,rfl⟩
theorem Rcheck_any(x:Ins)(a b:Nat)(p q:Vl)(D:Nat→Prop)(R:Ra)(Q:Qa)(Y:Ry)(w:World)(hD:∀k,D k→k<w.heap.size)(hR:Stab D w (QIn R Q Y))(ha:x.a=(a:Int))(hb:x.b=(b:Int))(ha2:∃h:a<Y.slo.length,Y.slo[a]=p)(hb2:∃h:b<Y.slo.length,Y.slo[b]=q)(hp:fits p.n=true)(hq:fits q.n=true)(hx:fits x.n=true)(hx0:0≤x.n):
  Calls prog 81 #[.agg (kvA R Q Y),.agg (insV x)] w (KPost D Q { Y with x:=chkX x p q Y.x } w):=by
 obtain⟨Z,hZ⟩:=ex_ (chkX x p q Y.x);rw[hZ];have HZ:=h_ hZ;clear hZ;have HR:=h_ hR;have HP:=h_ hp;have HQ2:=h_ hq;have HX:=h_ hx;clear hR hp hq hx;obtain⟨hla,hpa⟩:=ha2;obtain⟨hlb,hqb⟩:=hb2;have HPA:=h_ hpa;have HQB:=h_ hqb;have HXA:=h_ ha;have HXB:=h_ hb;clear hpa hqb ha hb;obtain⟨v0,hW0,hb0,hHM,hHI,hHY⟩:=bxs3 w (kvA R Q Y) (insV x) (#[.slice none 0 0,.int .i64 0,.slice none 0 0,.slice none 0 0,.bool false,.slice none 0 0,.slice none 0 0,.slice none 0 0,.slice none 0 0,.int .i64 0,.int .i64 0,.slice none 0 0,.slice none 0 0,.slice none 0 0,.slice none 0 0,.string ⟨#[]⟩,.int .i64 0,.slice none 0 0,.slice none 0 0,.int .i64 0,.slice none 0 0,.int .i64 0,.int .i64 0]) 85 45 85;have HW:=h_ hW0;have HB:=h_ hb0;have HM:=h_ hHM;have HI:=h_ hHI;have HY:=h_ hHY;clear hW0 hb0 hHM hHI hHY;go_enter func81,ntmps81;go_upto_region 1 with (fail);rw[HW.out];clear HW;have HQ:=h_ (HR.out.inn HB.out 3);clear HR;obtain⟨lb,lo,hlx,-⟩:=vl_cells HQ.out.now.l hla;have HLX:=h_ hlx;clear hlx;have hia:(0:Int)≤(a:Int)∧(a:Int)<(Y.slo.length:Int):=⟨by omega,by omega⟩;have hib:(0:Int)≤(b:Int)∧(b:Int)<(Y.slo.length:Int):=⟨by omega,by omega⟩;go_wp2_with fail;refine wp_region_held_drew (S:=(fun w'=>Bx w.heap.size (kvA R Q Y) 85 w'∧Bx (w.heap.size+1) (insV x) 45 w'∧QIn R Q Y w'∧Below w.heap.size w w')) (by kernel_rfl) ?_ (fun hHeld=>?_)
 ·exact(show ((fun w'=>Bx w.heap.size (kvA R Q Y) 85 w'∧Bx (w.heap.size+1) (insV x) 45 w'∧QIn R Q Y w'∧Below w.heap.size w w')) v0.drew from by have hb1:=(Below.refl v0.heap.size v0).drew;have HM:=HM.out.k hb1;have HI:=HI.out.k hb1;have HY:=HY.out.k hb1;have HQ:=HQ.out.k hb1;have HB:=bt HB hb1;exact⟨HM.out,HI.out,HQ.out.now,HB.out⟩)
 have hb1:=(Below.refl v0.heap.size v0).drew;have HM:=HM.out.k hb1;have HI:=HI.out.k hb1;have HY:=HY.out.k hb1;have HQ:=HQ.out.k hb1;have HB:=bt HB hb1;clear hb1;generalize hWd:v0.drew=D1 at hHeld HB HM HI HY HQ ⊢;clear hWd;refine tkX 0 9 ?_;refine tkY 1 (v:=?vv2) 10 ?yy2 ?_
 case yy2 =>
  intro wq hSw
  have z0:wq.cell? ⟨w.heap.size,18,none⟩=some (.slice (some ⟨lb,lo,none⟩) Y.slo.length Q.lc):=by rw[←HLX.out];exact hSw.1.cell 18
  clear hSw;go_simp
  (try with_reducible rfl)
 refine tkX 2 11 ?_;refine tkY 3 (v:=?vv4) 12 ?yy4 ?_
 case yy4 =>
  intro wq hSw
  have z0:wq.cell? ⟨w.heap.size+1,1,none⟩=some (.int .i64 (a:Int)):=by rw[←HXA.out];exact hSw.2.1.cell 1
  clear hSw;go_simp
  (try with_reducible rfl)
 refine tkX 4 13 ?_;refine tkY 5 (v:=?vv6) 14 ?yy6 ?_
 case yy6 =>
  intro wq hSw;obtain⟨b2,o2,e2,z0,z1,z2⟩:=vl_cells hSw.2.2.1.l hla;rw[HLX.out]at e2;cases e2;rw[HPA.out]at z0 z1 z2;clear hSw;go_simp
  (try with_reducible rfl)
 refine tkX 6 15 ?_;refine tkY 7 (v:=?vv8) 16 ?yy8 ?_
 case yy8 =>
  intro wq hSw
  have z0:wq.cell? ⟨w.heap.size,18,none⟩=some (.slice (some ⟨lb,lo,none⟩) Y.slo.length Q.lc):=by rw[←HLX.out];exact hSw.1.cell 18
  clear hSw;go_simp
  (try with_reducible rfl)
 refine tkX 8 17 ?_;refine tkY 9 (v:=?vv10) 18 ?yy10 ?_
 case yy10 =>
  intro wq hSw
  have z0:wq.cell? ⟨w.heap.size+1,2,none⟩=some (.int .i64 (b:Int)):=by rw[←HXB.out];exact hSw.2.1.cell 2
  clear hSw;go_simp
  (try with_reducible rfl)
 refine tkX 10 19 ?_;refine tkY 11 (v:=?vv12) 20 ?yy12 ?_
 case yy12 =>
  intro wq hSw;obtain⟨b2,o2,e2,z0,z1,z2⟩:=vl_cells hSw.2.2.1.l hlb;rw[HLX.out]at e2;cases e2;rw[HQB.out]at z0 z1 z2;clear hSw;go_simp
  (try with_reducible rfl)
 simp only[sA,sB,sC];refine race2 (i:=12) (j:=13) 5 6 (vi:=fun b=>.pointer (some ⟨b,0,none⟩)) (vj:=fun b=>.pointer (some ⟨b,0,none⟩)) (Oi:=.cells (#[.int .i64 0,.int .i64 0,.string ⟨#[]⟩]) 52) (Oj:=.cells (#[.int .i64 0,.int .i64 0,.string ⟨#[]⟩]) 52) rfl rfl rfl rfl rfl rfl (by decide) (by kernel_rfl) (by kernel_rfl) (by kernel_rfl) (by decide) (fun _ w' _=>run_allocT rfl (by kernel_rfl) _ w') (fun _ w' _=>run_allocT rfl (by kernel_rfl) _ w') (by assumption) (fun W2 _ hbl=>?_) ?_
 ·have HM:=HM.out.k hbl;have HI:=HI.out.k hbl;have HY:=HY.out.k hbl;have HQ:=HQ.out.k hbl;have HB:=bt HB hbl;exact⟨HM.out,HI.out,HQ.out.now,HB.out⟩
 intro b5 b6 W1 hne hba hca hx hy hbl hHeld
 have hlb5:w.heap.size+3≤b5:=by have:=HY.out.lt;omega
 have hlb6:w.heap.size+3≤b6:=by have:=HY.out.lt;omega
 have HM:=HM.out.k hbl;have HI:=HI.out.k hbl;have HY:=HY.out.k hbl;have HQ:=h_ (HQ.out.more hbl (b:=b5) (c:=b6) (by omega) (by omega));have HB:=bt HB hbl;have HA:Hid (Bx b5 (#[.int .i64 0,.int .i64 0,.string ⟨#[]⟩]) 52 W1):=h_ hx;have HC:Hid (Bx b6 (#[.int .i64 0,.int .i64 0,.string ⟨#[]⟩]) 52 W1):=h_ hy;clear hx hy hbl hba hca;simp only[sA,sB,sC];refine rd1 14 fun K hK=>?_;refine Bx.rst HA.out 52 0 (.agg (vV p)) (vV p) rfl (Nat.le_of_ble_eq_true rfl) (by kernel_rfl) rfl rfl rfl rfl rfl ?_;intro W2 hq p2;have HA:=h_ hq;clear hq;have HM:=HM.out.q p2;have HI:=HI.out.q p2;have HY:=HY.out.q p2;have HC:=HC.out.q p2;have HB:=pb HB p2;have HQ:=HQ.out.q p2;clear p2;refine hK.out _ _ (⟨HM.out,HI.out,HQ.out.now,HB.out⟩) fun hHeld=>?_;clear hK K
 (try simp only[Act.put])
 refine rd1 15 fun K hK=>?_;refine Bx.rst HC.out 52 0 (.agg (vV q)) (vV q) rfl (Nat.le_of_ble_eq_true rfl) (by kernel_rfl) rfl rfl rfl rfl rfl ?_;intro W3 hq p3;have HC:=h_ hq;clear hq;have HM:=HM.out.q p3;have HI:=HI.out.q p3;have HY:=HY.out.q p3;have HA:=HA.out.q p3;have HB:=pb HB p3;have HQ:=HQ.out.q p3;clear p3;refine hK.out _ _ (⟨HM.out,HI.out,HQ.out.now,HB.out⟩) fun hHeld=>?_;clear hK K
 (try simp only[Act.put])
 refine wpAnyH_done (by kernel_rfl) ?_ _;clear hHeld;have x0:=HA.out.cl 0;have y0:=HC.out.cl 0;have x1:=HA.out.cl 1;have y1:=HC.out.cl 1;have i3:=HI.out.cl 3;by_cases hp1:p.k=1;rotate_left
 ·have tp:(p.k != 1)=true:=by rw[bne_iff_ne];exact hp1
  have hZ2:Z=abX 1009 Y.x:=HZ.out.symm.trans (if_pos (Or.inl hp1));subst hZ2;clear hp1;go_wp2_with (refine HM.out.wl 3 (mvA R Y.x) underlying83 ?_);refine(Rwrong18_any _ R Y.x _ (moreD_lt (bl 3 hD HY) HA.out.lt HC.out.lt) (HQ.out.imp fun W h=>h.r)).mono ?_;rintro er w1 ⟨R2,rfl,hr2,hb1⟩;have HM:=HM.out.k hb1;have HI:=HI.out.k hb1;have HY:=HY.out.k hb1;have HA:=HA.out.k hb1;have HC:=HC.out.k hb1;have HQ:=HQ.out.k hb1;have HB:=bt HB hb1;clear hb1;have HR2:=h_ hr2;clear hr2;go_wp2_with (refine HM.out.ws 3 (.agg (mvA R2 (abX 1009 Y.x))) (kvA R2 Q { Y with x:=abX 1009 Y.x }) ?_);intro W4 HM p4;have HI:=HI.out.q p4;have HY:=HY.out.q p4;have HA:=HA.out.q p4;have HC:=HC.out.q p4;have HB:=pb HB p4;have HQ:=HQ.out.q p4;have HR2:=HR2.out.q p4;clear p4;go_wp2_with (first|refine HM.out.wl 0 (kvA R2 Q { Y with x:=abX 1009 Y.x }) underlying85 ?_|refine HY.out.wa (kvA R2 Q { Y with x:=abX 1009 Y.x }) ?_);intro W5 HY p5;have HM:=HM.out.q p5;have HI:=HI.out.q p5;have HA:=HA.out.q p5;have HC:=HC.out.q p5;have HB:=pb HB p5;have HQ:=HQ.out.q p5;have HR2:=HR2.out.q p5;clear p5;go_wp2;exact HY.out.r1 underlying85 ⟨R2,Q,rfl,(HQ.out.both HR2.out fun W h h2=>⟨h2,h.P,h.I,h.k,h.kc,h.l⟩).less.out,HB.out,rfl,rfl,rfl⟩
 have tp:(p.k != 1)=false:=by rw[hp1];rfl
 have HNp:=h_ hp1;clear hp1;by_cases hq1:q.k=1;rotate_left
 ·have tq:(q.k != 1)=true:=by rw[bne_iff_ne];exact hq1
  have hZ2:Z=abX 1009 Y.x:=HZ.out.symm.trans (if_pos (Or.inr hq1));subst hZ2;clear hq1;go_wp2_with (refine HM.out.wl 3 (mvA R Y.x) underlying83 ?_);refine(Rwrong18_any _ R Y.x _ (moreD_lt (bl 3 hD HY) HA.out.lt HC.out.lt) (HQ.out.imp fun W h=>h.r)).mono ?_;rintro er w1 ⟨R2,rfl,hr2,hb1⟩;have HM:=HM.out.k hb1;have HI:=HI.out.k hb1;have HY:=HY.out.k hb1;have HA:=HA.out.k hb1;have HC:=HC.out.k hb1;have HQ:=HQ.out.k hb1;have HB:=bt HB hb1;clear hb1;have HR2:=h_ hr2;clear hr2;go_wp2_with (refine HM.out.ws 3 (.agg (mvA R2 (abX 1009 Y.x))) (kvA R2 Q { Y with x:=abX 1009 Y.x }) ?_);intro W4 HM p4;have HI:=HI.out.q p4;have HY:=HY.out.q p4;have HA:=HA.out.q p4;have HC:=HC.out.q p4;have HB:=pb HB p4;have HQ:=HQ.out.q p4;have HR2:=HR2.out.q p4;clear p4;go_wp2_with (first|refine HM.out.wl 0 (kvA R2 Q { Y with x:=abX 1009 Y.x }) underlying85 ?_|refine HY.out.wa (kvA R2 Q { Y with x:=abX 1009 Y.x }) ?_);intro W5 HY p5;have HM:=HM.out.q p5;have HI:=HI.out.q p5;have HA:=HA.out.q p5;have HC:=HC.out.q p5;have HB:=pb HB p5;have HQ:=HQ.out.q p5;have HR2:=HR2.out.q p5;clear p5;go_wp2;exact HY.out.r1 underlying85 ⟨R2,Q,rfl,(HQ.out.both HR2.out fun W h h2=>⟨h2,h.P,h.I,h.k,h.kc,h.l⟩).less.out,HB.out,rfl,rfl,rfl⟩
 have tq:(q.k != 1)=false:=by rw[hq1];rfl
 have HNq:=h_ hq1;clear hq1
 have hZ3:Z=if p.n<q.n∧x.n<q.n-p.n then abX 1005 Y.x else Y.x:=HZ.out.symm.trans (if_neg (by rintro (h|h);exact h HNp.out;exact h HNq.out))
 have HZ3:=h_ hZ3;clear hZ3;obtain⟨hp1,hp2⟩:=(fits_iff p.n).1 HP.out;obtain⟨hq1,hq2⟩:=(fits_iff q.n).1 HQ2.out;obtain⟨hx1,hx2⟩:=(fits_iff x.n).1 HX.out;by_cases hft:fits (q.n-p.n)=true
 ·have hsub:subS q.n p.n=(q.n-p.n,0):=by unfold subS;rw[if_pos hft]
  obtain⟨hf1,hf2⟩:=(fits_iff _).1 hft;have HSU:=h_ hsub;clear hsub hft;go_wp2_with (fail);refine(RSub_any q.n p.n _ hq1 hq2 hp1 hp2).mono ?_;rw[HSU.out];rintro er w1 ⟨rfl,rfl⟩;obtain⟨d,hd⟩:=ex_ (q.n-p.n);rw[hd];have HDD:=h_ hd;clear hd;by_cases hg:x.n<d
  ·have hZ2:Z=abX 1005 Y.x:=HZ3.out.trans (if_pos ⟨by have:=HDD.out;omega,by rw[HDD.out];exact hg⟩)
   subst hZ2;go_wp2_with (refine HM.out.wl 3 (mvA R Y.x) underlying83 ?_);refine(RAbort_any 1005 _ R Y.x _ (moreD_lt (bl 3 hD HY) HA.out.lt HC.out.lt) (HQ.out.imp fun W h=>h.r)).mono ?_;rintro er w1 ⟨R2,rfl,hr2,hb1⟩;have HM:=HM.out.k hb1;have HI:=HI.out.k hb1;have HY:=HY.out.k hb1;have HA:=HA.out.k hb1;have HC:=HC.out.k hb1;have HQ:=HQ.out.k hb1;have HB:=bt HB hb1;clear hb1;have HR2:=h_ hr2;clear hr2;go_wp2_with (refine HM.out.ws 3 (.agg (mvA R2 (abX 1005 Y.x))) (kvA R2 Q { Y with x:=abX 1005 Y.x }) ?_);intro W4 HM p4;have HI:=HI.out.q p4;have HY:=HY.out.q p4;have HA:=HA.out.q p4;have HC:=HC.out.q p4;have HB:=pb HB p4;have HQ:=HQ.out.q p4;have HR2:=HR2.out.q p4;clear p4;go_wp2_with (first|refine HM.out.wl 0 (kvA R2 Q { Y with x:=abX 1005 Y.x }) underlying85 ?_|refine HY.out.wa (kvA R2 Q { Y with x:=abX 1005 Y.x }) ?_);intro W5 HY p5;have HM:=HM.out.q p5;have HI:=HI.out.q p5;have HA:=HA.out.q p5;have HC:=HC.out.q p5;have HB:=pb HB p5;have HQ:=HQ.out.q p5;have HR2:=HR2.out.q p5;clear p5;go_wp2;exact HY.out.r1 underlying85 ⟨R2,Q,rfl,(HQ.out.both HR2.out fun W h h2=>⟨h2,h.P,h.I,h.k,h.kc,h.l⟩).less.out,HB.out,rfl,rfl,rfl⟩
  ·have hZ2:Z=Y.x:=HZ3.out.trans (if_neg (by rw[HDD.out];exact fun h=>hg h.2))
   subst hZ2;go_wp2_with (first|refine HM.out.wl 0 (kvA R Q Y) underlying85 ?_|refine HY.out.wa (kvA R Q Y) ?_);intro W4 HY p4;have HM:=HM.out.q p4;have HI:=HI.out.q p4;have HA:=HA.out.q p4;have HC:=HC.out.q p4;have HB:=pb HB p4;have HQ:=HQ.out.q p4;clear p4;go_wp2;exact HY.out.r1 underlying85 ⟨R,Q,rfl,(HQ.out).less.out,HB.out,rfl,rfl,rfl⟩
 ·have hsub:subS q.n p.n=(0,3):=by unfold subS;rw[if_neg hft]
  have HSU:=h_ hsub;have HFT:=h_ hft;clear hsub hft;go_wp2_with (fail);refine(RSub_any q.n p.n _ hq1 hq2 hp1 hp2).mono ?_;rw[HSU.out];rintro er w1 ⟨rfl,rfl⟩;by_cases hg:p.n<q.n
  ·have hZ2:Z=abX 1005 Y.x:=HZ3.out.trans (if_pos ⟨hg,by have h1:=HFT.out;rw[fits_iff]at h1;omega⟩)
   subst hZ2;go_wp2_with (refine HM.out.wl 3 (mvA R Y.x) underlying83 ?_);refine(RAbort_any 1005 _ R Y.x _ (moreD_lt (bl 3 hD HY) HA.out.lt HC.out.lt) (HQ.out.imp fun W h=>h.r)).mono ?_;rintro er w1 ⟨R2,rfl,hr2,hb1⟩;have HM:=HM.out.k hb1;have HI:=HI.out.k hb1;have HY:=HY.out.k hb1;have HA:=HA.out.k hb1;have HC:=HC.out.k hb1;have HQ:=HQ.out.k hb1;have HB:=bt HB hb1;clear hb1;have HR2:=h_ hr2;clear hr2;go_wp2_with (refine HM.out.ws 3 (.agg (mvA R2 (abX 1005 Y.x))) (kvA R2 Q { Y with x:=abX 1005 Y.x }) ?_);intro W4 HM p4;have HI:=HI.out.q p4;have HY:=HY.out.q p4;have HA:=HA.out.q p4;have HC:=HC.out.q p4;have HB:=pb HB p4;have HQ:=HQ.out.q p4;have HR2:=HR2.out.q p4;clear p4;go_wp2_with (first|refine HM.out.wl 0 (kvA R2 Q { Y with x:=abX 1005 Y.x }) underlying85 ?_|refine HY.out.wa (kvA R2 Q { Y with x:=abX 1005 Y.x }) ?_);intro W5 HY p5;have HM:=HM.out.q p5;have HI:=HI.out.q p5;have HA:=HA.out.q p5;have HC:=HC.out.q p5;have HB:=pb HB p5;have HQ:=HQ.out.q p5;have HR2:=HR2.out.q p5;clear p5;go_wp2;exact HY.out.r1 underlying85 ⟨R2,Q,rfl,(HQ.out.both HR2.out fun W h h2=>⟨h2,h.P,h.I,h.k,h.kc,h.l⟩).less.out,HB.out,rfl,rfl,rfl⟩
  ·have hZ2:Z=Y.x:=HZ3.out.trans (if_neg fun h=>hg h.1)
   subst hZ2;go_wp2_with (first|refine HM.out.wl 0 (kvA R Q Y) underlying85 ?_|refine HY.out.wa (kvA R Q Y) ?_);intro W4 HY p4;have HM:=HM.out.q p4;have HI:=HI.out.q p4;have HA:=HA.out.q p4;have HC:=HC.out.q p4;have HB:=pb HB p4;have HQ:=HQ.out.q p4;clear p4;go_wp2;exact HY.out.r1 underlying85 ⟨R,Q,rfl,(HQ.out).less.out,HB.out,rfl,rfl,rfl⟩
inductive StepY (x:Ins) (Y:Ry):Ry→Prop
 | int (h:x.op=1):StepY x Y { Y with pc:=Y.pc+1,stk:=Y.stk++[numV x.n] }
 | str (h:x.op=2):StepY x Y { Y with pc:=Y.pc+1,stk:=Y.stk++[strVl x.s] }
 | load (h:x.op=3) (a:Nat) (ha:x.a=(a:Int)) (v:Vl) (hv:∃h:a<Y.slo.length,Y.slo[a]=v):StepY x Y { Y with pc:=Y.pc+1,stk:=Y.stk++[v] }
 | store (h:x.op=4) (a:Nat) (ha:x.a=(a:Int)) (hlt:a<Y.slo.length) (s:List Vl) (v:Vl) (hs:Y.stk=s++[v]):StepY x Y { Y with pc:=Y.pc+1,stk:=s,slo:=Y.slo.set a v }
 | oper (h:x.op=5) (s l:List Vl) (hst:Y.x.st=0) (hs:Y.stk=s++l) (hn:arS x.a=l.length) (hg:∀v∈l,GdV v) (hop:(l.length=1∧(x.a=9∨x.a=18∨x.a=20∨x.a=21∨x.a=22∨x.a=23∨x.a=24))∨(l.length=2∧((x.a=4∨x.a=5∨x.a=6∨x.a=7∨x.a=8)∨x.a=16∨x.a=17∨x.a=19∨(x.a=10∨x.a=11∨x.a=12∨x.a=13∨x.a=14∨x.a=15)))∨l.length=0):StepY x Y { Y with pc:=Y.pc+1,x:=(opsX x.a l Y.x).2,stk:=s++[(opsX x.a l Y.x).1] }
 | jump (h:x.op=6):StepY x Y { Y with pc:=x.a }
 | falW (h:x.op=7) (s:List Vl) (v:Vl) (hs:Y.stk=s++[v]) (hv:v.k≠3):StepY x Y { Y with pc:=Y.pc+1,stk:=s,x:=abX 1009 Y.x }
 | falJ (h:x.op=7) (s:List Vl) (v:Vl) (hs:Y.stk=s++[v]) (hv:v.k=3) (hn:v.n=0):StepY x Y { Y with pc:=x.a,stk:=s }
 | falN (h:x.op=7) (s:List Vl) (v:Vl) (hs:Y.stk=s++[v]) (hv:v.k=3) (hn:v.n≠0):StepY x Y { Y with pc:=Y.pc+1,stk:=s }
 | put (h:x.op=8) (s:List Vl) (k v:Vl) (hs:Y.stk=s++[k,v]) (hk:k.s.length≤9223372036854775807):StepY x Y { Y with pc:=Y.pc+1,x:=acc8 k v Y.x,stk:=s }
 | del (h:x.op=9) (s:List Vl) (k:Vl) (hs:Y.stk=s++[k]) (hk:k.s.length≤9223372036854775807):StepY x Y { Y with pc:=Y.pc+1,x:=acc9 k Y.x,stk:=s }
 | emitW (h:x.op=10) (s:List Vl) (v:Vl) (hs:Y.stk=s++[v]) (hv:storedB v=false):StepY x Y { Y with pc:=Y.pc+1,x:=abX 1009 Y.x,stk:=s }
 | emit (h:x.op=10) (s:List Vl) (v:Vl) (hs:Y.stk=s++[v]) (hv:storedB v=true):StepY x Y { Y with pc:=Y.pc+1,x:=emX v Y.x,stk:=s }
 | abort (h:x.op=11):StepY x Y { Y with pc:=Y.pc+1,x:=abX x.a Y.x }
 | loop (h:x.op=12) (a b:Nat) (p q:Vl) (ha:x.a=(a:Int)) (hb:x.b=(b:Int)) (ha2:∃h:a<Y.slo.length,Y.slo[a]=p) (hb2:∃h:b<Y.slo.length,Y.slo[b]=q) (hp:fits p.n=true) (hq:fits q.n=true) (hx:fits x.n=true) (hx0:0≤x.n):StepY x Y { Y with pc:=Y.pc+1,x:=chkX x p q Y.x }
 | tick (h:x.op=14) (h0:0≤Y.x.steps) (h1:Y.x.steps≤16384):StepY x Y { Y with pc:=Y.pc+1,x:=tickX Y.x }
theorem Rstep_any(x:Ins)(pc:Nat)(Y Y2:Ry)(hY:StepY x Y Y2)(D:Nat→Prop)(R:Ra)(Q:Qa)(w:World)(hD:∀k,D k→k<w.heap.size)(hR:Stab D w (QIn R Q Y))(hl:RL Y.x)(hpc:Y.pc=(pc:Int))(hx:∃h:pc<Y.c.l.length,Y.c.l[pc]=x)(hp2:pc≤100000000)(hls:Y.stk.length≤10000000)(hsl:Y.slo.length≤10000000):
  Calls prog 44 #[.agg (kvA R Q Y)] w (KPost D Q Y2 w):=by
 have HR:=h_ hR;have HL:=h_ hl;have HPC:=h_ hpc;have HYY:=h_ hY;clear hR hl hpc hY;obtain⟨hxl,hxe⟩:=hx;have HXE:=h_ hxe;clear hxe;obtain⟨v0,hW0,hb0,hHM,hHY⟩:=bxs2 w (kvA R Q Y) (#[.slice none 0 0,.int .i64 0,.slice none 0 0,.slice none 0 0,.bool false,.slice none 0 0,.slice none 0 0,.slice none 0 0,.slice none 0 0,.int .i64 0,.int .i64 0,.slice none 0 0,.slice none 0 0,.slice none 0 0,.slice none 0 0,.string ⟨#[]⟩,.int .i64 0,.slice none 0 0,.slice none 0 0,.int .i64 0,.slice none 0 0,.int .i64 0,.int .i64 0]) 85 85;have HW:=h_ hW0;have HB:=h_ hb0;have HM:=h_ hHM;have HY:=h_ hHY;clear hW0 hb0 hHM hHY;go_enter func44,ntmps44;go_upto_region 1 with (fail);rw[HW.out];clear HW;have HQ:=h_ (HR.out.inn HB.out 2);clear HR;obtain⟨ib,io,hix,c0,c1,c2,c3,c4⟩:=ins_cells HQ.out.now.I hxl;rw[HXE.out]at c0 c1 c2 c3 c4;have hkb:(0:Int)≤(pc:Int)∧(pc:Int)<(Y.c.l.length:Int):=⟨by omega,by omega⟩
 have hw1:IntKind.i64.wrap ((pc:Int)+1)=(pc:Int)+1:=by rw[IntKind.wrap_i64];omega
 have x2:v0.cell? ⟨w.heap.size,2,none⟩=some (.slice (some ⟨ib,io,none⟩) Y.c.l.length Q.ic):=by rw[←hix];exact HM.out.cell 2
 have x19:v0.cell? ⟨w.heap.size,19,none⟩=some (.int .i64 (pc:Int)):=by rw[←HPC.out];exact HM.out.cell 19
 clear hix;go_wp2_with (refine wal (z:=#[.int .i64 0,.int .i64 0,.int .i64 0,.int .i64 0,.string ⟨#[]⟩]) rfl rfl rfl (by kernel_rfl) ?_);intro b3 W1 hba hx hbl
 have hlb3:w.heap.size+2≤b3:=by have:=HY.out.lt;omega
 have HM:=HM.out.k hbl;have HY:=HY.out.k hbl;have HQ:=h_ (HQ.out.more hbl (b:=b3) (c:=b3) (by omega) (by omega));have HB:=bt HB hbl;have HI:=h_ hx;clear hx hbl hba;clear x2 x19 c0 c1 c2 c3 c4;go_wp2_with (refine HI.out.wa (insV x) ?_);intro W2 HI p2;have HM:=HM.out.q p2;have HY:=HY.out.q p2;have HB:=pb HB p2;have HQ:=HQ.out.q p2;clear p2;have x19:=HM.out.cl 19;rw[←HPC.out]at hw1;go_wp2_with (refine HM.out.ws 19 (.int .i64 (Y.pc+1)) (kvA R Q { Y with pc:=Y.pc+1 }) ?_);intro W3 HM p3;have HY:=HY.out.q p3;have HI:=HI.out.q p3;have HB:=pb HB p3;have HQ:=HQ.out.q p3;clear p3;clear x19;have hyy:=HYY.out;clear HYY
 cases hyy with
 | int hop =>
  have i0:W3.cell? ⟨b3,0,none⟩=some (.int .i64 1):=by rw[←hop];exact HI.out.cell 0
  have HOPX:=h_ hop;clear hop;have x17:=HM.out.cl 17;have i3:=HI.out.cl 3;obtain⟨L2,hL2⟩:=ex_ (Y.stk++[numV x.n]);have HL2:=h_ hL2;clear hL2;have hDc:∀k,(moreD (boxD D w 2) b3 b3) k→k<W3.heap.size:=moreD_lt (bl 2 hD HY) HI.out.lt HI.out.lt;go_wp2_with (fail);refine(Rpushed_any Q.ka Q.kc Y.stk (numV x.n) _ HQ.out.now.k (by omega)).mono ?_;rw[HL2.out];rintro er w1 ⟨ka,kc,rfl,ho,hb1⟩;have HM:=HM.out.k hb1;have HY:=HY.out.k hb1;have HI:=HI.out.k hb1;have HQ:=HQ.out.k hb1;have HB:=bt HB hb1;clear hb1;have HOK:=h_ (own_stab ho hDc);clear ho hDc;clear x17 i0 i3;go_wp2_with (refine HM.out.ws 17 (.slice ka L2.length kc) (kvA R { Q with ka:=ka,kc:=kc } { Y with pc:=Y.pc+1,stk:=L2 }) ?_);intro W4 HM p4;have HY:=HY.out.q p4;have HI:=HI.out.q p4;have HB:=pb HB p4;have HQ:=HQ.out.q p4;have HOK:=HOK.out.q p4;clear p4;go_wp2_with (first|refine HM.out.wl 0 (kvA R { Q with ka:=ka,kc:=kc } { Y with pc:=Y.pc+1,stk:=L2 }) underlying85 ?_|refine HY.out.wa (kvA R { Q with ka:=ka,kc:=kc } { Y with pc:=Y.pc+1,stk:=L2 }) ?_);intro W5 HY p5;have HM:=HM.out.q p5;have HI:=HI.out.q p5;have HB:=pb HB p5;have HQ:=HQ.out.q p5;have HOK:=HOK.out.q p5;clear p5;have h:=HL2.out;subst h;go_wp2;exact HY.out.r1 underlying85 ⟨R,{ Q with ka:=ka,kc:=kc },rfl,(HQ.out.both HOK.out fun W h h2=>⟨h.r,h.P,h.I,own_valAt h2,own_le h2,h.l⟩).less.out,HB.out,rfl,rfl,rfl⟩
 | str hop =>
  have i0:W3.cell? ⟨b3,0,none⟩=some (.int .i64 2):=by rw[←hop];exact HI.out.cell 0
  have HOPX:=h_ hop;clear hop;have x17:=HM.out.cl 17;have i4:=HI.out.cl 4;obtain⟨L2,hL2⟩:=ex_ (Y.stk++[strVl x.s]);have HL2:=h_ hL2;clear hL2;have hDc:∀k,(moreD (boxD D w 2) b3 b3) k→k<W3.heap.size:=moreD_lt (bl 2 hD HY) HI.out.lt HI.out.lt;go_wp2_with (fail);refine(Rpushed_any Q.ka Q.kc Y.stk (strVl x.s) _ HQ.out.now.k (by omega)).mono ?_;rw[HL2.out];rintro er w1 ⟨ka,kc,rfl,ho,hb1⟩;have HM:=HM.out.k hb1;have HY:=HY.out.k hb1;have HI:=HI.out.k hb1;have HQ:=HQ.out.k hb1;have HB:=bt HB hb1;clear hb1;have HOK:=h_ (own_stab ho hDc);clear ho hDc;clear x17 i0 i4;go_wp2_with (refine HM.out.ws 17 (.slice ka L2.length kc) (kvA R { Q with ka:=ka,kc:=kc } { Y with pc:=Y.pc+1,stk:=L2 }) ?_);intro W4 HM p4;have HY:=HY.out.q p4;have HI:=HI.out.q p4;have HB:=pb HB p4;have HQ:=HQ.out.q p4;have HOK:=HOK.out.q p4;clear p4;go_wp2_with (first|refine HM.out.wl 0 (kvA R { Q with ka:=ka,kc:=kc } { Y with pc:=Y.pc+1,stk:=L2 }) underlying85 ?_|refine HY.out.wa (kvA R { Q with ka:=ka,kc:=kc } { Y with pc:=Y.pc+1,stk:=L2 }) ?_);intro W5 HY p5;have HM:=HM.out.q p5;have HI:=HI.out.q p5;have HB:=pb HB p5;have HQ:=HQ.out.q p5;have HOK:=HOK.out.q p5;clear p5;have h:=HL2.out;subst h;go_wp2;exact HY.out.r1 underlying85 ⟨R,{ Q with ka:=ka,kc:=kc },rfl,(HQ.out.both HOK.out fun W h h2=>⟨h.r,h.P,h.I,own_valAt h2,own_le h2,h.l⟩).less.out,HB.out,rfl,rfl,rfl⟩
 | load hop a ha v hv =>
  have i0:W3.cell? ⟨b3,0,none⟩=some (.int .i64 3):=by rw[←hop];exact HI.out.cell 0
  have HOPX:=h_ hop;clear hop;obtain⟨hla,hva⟩:=hv;have HVA:=h_ hva;have HXA:=h_ ha;clear hva ha;obtain⟨lb,lo,hlx,-⟩:=vl_cells HQ.out.now.l hla;have HLX:=h_ hlx;clear hlx;have hia:(0:Int)≤(a:Int)∧(a:Int)<(Y.slo.length:Int):=⟨by omega,by omega⟩;go_wp2_with fail;refine wp_region_held_drew (S:=(fun w'=>w'.cell? ⟨w.heap.size,18,none⟩=some (.slice (some ⟨lb,lo,none⟩) Y.slo.length Q.lc)∧Bx b3 (insV x) 45 w'∧QIn R Q Y w'∧Below w.heap.size w w')) (by kernel_rfl) ?_ (fun hHeld=>?_)
  ·exact(show ((fun w'=>w'.cell? ⟨w.heap.size,18,none⟩=some (.slice (some ⟨lb,lo,none⟩) Y.slo.length Q.lc)∧Bx b3 (insV x) 45 w'∧QIn R Q Y w'∧Below w.heap.size w w')) W3.drew from by have hb1:=(Below.refl W3.heap.size W3).drew;have HM:=HM.out.k hb1;have HY:=HY.out.k hb1;have HI:=HI.out.k hb1;have HQ:=HQ.out.k hb1;have HB:=bt HB hb1;exact⟨by rw[←HLX.out];exact HM.out.cell 18,HI.out,HQ.out.now,HB.out⟩)
  have hb1:=(Below.refl W3.heap.size W3).drew;have HM:=HM.out.k hb1;have HY:=HY.out.k hb1;have HI:=HI.out.k hb1;have HQ:=HQ.out.k hb1;have HB:=bt HB hb1;clear hb1;generalize hWd:W3.drew=D1 at hHeld HB HM HY HI HQ ⊢;clear hWd;clear i0;refine tkX 0 43 ?_;refine tkX 2 45 ?_;refine tkY 3 (v:=?vv3) 46 ?yy3 ?_
  case yy3 =>
   intro wq hSw;have z0:=hSw.1;clear hSw;go_simp
   (try with_reducible rfl)
  refine tkX 4 47 ?_;refine tkY 5 (v:=?vv5) 48 ?yy5 ?_
  case yy5 =>
   intro wq hSw
   have z0:wq.cell? ⟨b3,1,none⟩=some (.int .i64 (a:Int)):=by rw[←HXA.out];exact hSw.2.1.cell 1
   clear hSw;go_simp
   (try with_reducible rfl)
  refine tkX 6 49 ?_;refine tkY 7 (v:=?vv7) 50 ?yy7 ?_
  case yy7 =>
   intro wq hSw;obtain⟨b2,o2,e2,z0,z1,z2⟩:=vl_cells hSw.2.2.1.l hla;rw[HLX.out]at e2;cases e2;rw[HVA.out]at z0 z1 z2;clear hSw;go_simp
   (try with_reducible rfl)
  simp only[sA,sB,sC];have z1:=HM.out.cl 17;refine rd1 1 fun K hK=>?_;go_simp;skip
  focus (try go_wp2_with fail)
  refine hK.out _ _ (⟨by rw[←HLX.out];exact HM.out.cell 18,HI.out,HQ.out.now,HB.out⟩) fun hHeld=>?_;clear hK K
  (try simp only[Act.put,sA,sB,sC])
  clear z1;have hDc:∀k,(moreD (boxD D w 2) b3 b3) k→k<D1.heap.size:=moreD_lt (bl 2 hD HY) HI.out.lt HI.out.lt;refine rd1 8 fun K hK=>?_;go_simp;refine(Rpushed_any Q.ka Q.kc Y.stk v _ HQ.out.now.k (by omega)).mono ?_;rintro er w1 ⟨ka,kc,rfl,ho,hb1⟩;have HM:=HM.out.k hb1;have HY:=HY.out.k hb1;have HI:=HI.out.k hb1;have HQ:=HQ.out.k hb1;have HB:=bt HB hb1;clear hb1;refine hK.out _ _ (⟨by rw[←HLX.out];exact HM.out.cell 18,HI.out,HQ.out.now,HB.out⟩) fun hHeld=>?_;clear hK K
  (try simp only[Act.put,sA,sB,sC])
  have HOK:=h_ (own_stab ho hDc);clear ho hDc;refine tkX 9 52 ?_;simp only[sA,sB,sC];refine rd1 10 fun K hK=>?_;refine Bx.rst HM.out 26 17 (.slice ka (Y.stk++[v]).length kc) (kvA R { Q with ka:=ka,kc:=kc } { Y with pc:=Y.pc+1,stk:=Y.stk++[v] }) rfl (Nat.le_of_ble_eq_true rfl) (by kernel_rfl) rfl rfl rfl rfl rfl ?_;intro W4 hq p4;have HM:=h_ hq;clear hq;have HY:=HY.out.q p4;have HI:=HI.out.q p4;have HB:=pb HB p4;have HQ:=HQ.out.q p4;have HOK:=HOK.out.q p4;clear p4;refine hK.out _ _ (⟨by rw[←HLX.out];exact HM.out.cell 18,HI.out,HQ.out.now,HB.out⟩) fun hHeld=>?_;clear hK K
  (try simp only[Act.put])
  refine wpAnyH_done (by kernel_rfl) ?_ _;clear hHeld;go_wp2_with (first|refine HM.out.wl 0 (kvA R { Q with ka:=ka,kc:=kc } { Y with pc:=Y.pc+1,stk:=Y.stk++[v] }) underlying85 ?_|refine HY.out.wa (kvA R { Q with ka:=ka,kc:=kc } { Y with pc:=Y.pc+1,stk:=Y.stk++[v] }) ?_);intro W5 HY p5;have HM:=HM.out.q p5;have HI:=HI.out.q p5;have HB:=pb HB p5;have HQ:=HQ.out.q p5;have HOK:=HOK.out.q p5;clear p5;go_wp2;exact HY.out.r1 underlying85 ⟨R,{ Q with ka:=ka,kc:=kc },rfl,(HQ.out.both HOK.out fun W h h2=>⟨h.r,h.P,h.I,own_valAt h2,own_le h2,h.l⟩).less.out,HB.out,rfl,rfl,rfl⟩
 | store hop a ha hlt s v hs =>
  have i0:W3.cell? ⟨b3,0,none⟩=some (.int .i64 4):=by rw[←hop];exact HI.out.cell 0
  have HOPX:=h_ hop;clear hop;have HXA:=h_ ha;clear ha
  have hl1:s.length+1≤Y.stk.length:=by rw[hs,List.length_append];exact Nat.le_refl _
  have HS:=h_ hs;have hss:s.length≤10000000:=(by omega);clear hs;have HKC:=h_ HQ.out.now.kc;have HSK:=h_ (show s.length≤Q.kc from Nat.le_trans (by omega) HKC.out)
  have hlq:Y.stk.length=s.length+1:=by rw[HS.out,List.length_append];rfl
  have hcs:CellsAt W3 (.slice Q.ka (s.length+1) Q.kc) (s.length+1) (vlLs (s++[v])):=by rw[←HS.out,←hlq];exact HQ.out.now.k
  have HCC:=h_ (show s.length+1≤Q.kc from Nat.le_trans hl1 HKC.out);have HCS:=h_ hcs;clear hcs hl1
  have x17:W3.cell? ⟨w.heap.size,17,none⟩=some (.slice Q.ka (s.length+1) Q.kc):=by rw[←hlq];exact HM.out.cell 17
  clear hlq;go_wp2_with (fail);refine(Rtop_any Q.ka Q.kc s v _ HCS.out HCC.out (by omega)).mono ?_;rintro er w1 ⟨rfl,hb1⟩;have HM:=HM.out.k hb1;have HY:=HY.out.k hb1;have HI:=HI.out.k hb1;have HQ:=HQ.out.k hb1;have HB:=bt HB hb1;clear hb1;clear x17 HCS HCC i0;go_wp2_with (refine wal (z:=#[.int .i64 0,.int .i64 0,.string ⟨#[]⟩]) rfl rfl rfl (by kernel_rfl) ?_);intro b4 W4 hba hx hbl
  have hlb4:w.heap.size+2≤b4:=by have:=HY.out.lt;omega
  have hnb4b3:b3≠b4:=by have:=HI.out.lt;omega
  have HM:=HM.out.k hbl;have HY:=HY.out.k hbl;have HI:=HI.out.k hbl;have HQ:=h_ (HQ.out.more hbl (b:=b4) (c:=b4) (by omega) (by omega));have HB:=bt HB hbl;have HV:=h_ hx;clear hx hbl hba;go_wp2_with (refine HV.out.wa (vV v) ?_);intro W5 HV p5;have HM:=HM.out.q p5;have HY:=HY.out.q p5;have HI:=HI.out.q p5;have HB:=pb HB p5;have HQ:=HQ.out.q p5;clear p5;go_wp2_with (refine HM.out.ws 17 (.slice Q.ka s.length Q.kc) (kvA R Q { Y with pc:=Y.pc+1,stk:=s }) ?_);intro W6 HM p6;have HY:=HY.out.q p6;have HI:=HI.out.q p6;have HV:=HV.out.q p6;have HB:=pb HB p6;have HQ:=HQ.out.q p6;clear p6;have x18:=HM.out.cl 18
  have i1:W6.cell? ⟨b3,1,none⟩=some (.int .i64 (a:Int)):=by rw[←HXA.out];exact HI.out.cell 1
  obtain⟨L2,hL2⟩:=ex_ (Y.slo.set a v);have HL2:=h_ hL2;clear hL2;have hDc:∀k,(moreD (moreD (boxD D w 2) b3 b3) b4 b4) k→k<W6.heap.size:=moreD_lt (moreD_lt (bl 2 hD HY) HI.out.lt HI.out.lt) HV.out.lt HV.out.lt;go_wp2_with (refine HV.out.wl 0 (vV v) underlying52 ?_);refine(Rstored_any Q.la Q.lc a Y.slo v _ HQ.out.now.l (by omega) hlt).mono ?_;rw[HL2.out];rintro er w1 ⟨ka,kc,rfl,ho,hb1⟩;have HM:=HM.out.k hb1;have HY:=HY.out.k hb1;have HI:=HI.out.k hb1;have HV:=HV.out.k hb1;have HQ:=HQ.out.k hb1;have HB:=bt HB hb1;clear hb1;have HOK:=h_ (own_stab ho hDc);clear ho hDc;clear x18 i1;go_wp2_with (refine HM.out.ws 18 (.slice ka L2.length kc) (kvA R { Q with la:=ka,lc:=kc } { Y with pc:=Y.pc+1,stk:=s,slo:=L2 }) ?_);intro W7 HM p7;have HY:=HY.out.q p7;have HI:=HI.out.q p7;have HV:=HV.out.q p7;have HB:=pb HB p7;have HQ:=HQ.out.q p7;have HOK:=HOK.out.q p7;clear p7;go_wp2_with (first|refine HM.out.wl 0 (kvA R { Q with la:=ka,lc:=kc } { Y with pc:=Y.pc+1,stk:=s,slo:=L2 }) underlying85 ?_|refine HY.out.wa (kvA R { Q with la:=ka,lc:=kc } { Y with pc:=Y.pc+1,stk:=s,slo:=L2 }) ?_);intro W8 HY p8;have HM:=HM.out.q p8;have HI:=HI.out.q p8;have HV:=HV.out.q p8;have HB:=pb HB p8;have HQ:=HQ.out.q p8;have HOK:=HOK.out.q p8;clear p8;have h:=HL2.out;subst h;go_wp2;exact HY.out.r1 underlying85 ⟨R,{ Q with la:=ka,lc:=kc },rfl,(HQ.out.both HOK.out fun W h h2=>⟨h.r,h.P,h.I,by have h3:=cells_take_vl (k:=s.length) (by rw[HS.out,List.length_append];omega) h.k;rw[show Y.stk.take s.length=s by rw[HS.out];simp]at h3;exact h3,HSK.out,own_valAt h2⟩).less.less.out,HB.out,rfl,rfl,rfl⟩
 | oper hop s l hst hs hn hg hop2 =>
  have i0:W3.cell? ⟨b3,0,none⟩=some (.int .i64 5):=by rw[←hop];exact HI.out.cell 0
  have HOPX:=h_ hop;clear hop;have i1:=HI.out.cl 1
  have hss:s.length≤10000000:=by rw[hs,List.length_append]at hls;omega
  have HS:=h_ hs;clear hs;go_wp2_with (refine HM.out.wl 0 (kvA R Q { Y with pc:=Y.pc+1 }) underlying85 ?_);refine(Roperate_any x.a s l _ R Q { Y with pc:=Y.pc+1 } _ (moreD_lt (bl 2 hD HY) HI.out.lt HI.out.lt) (HQ.out.imp fun W h=>⟨h.r,h.P,h.I,h.k,h.kc,h.l⟩) HL.out hst HS.out hn hg hop2 hss).mono ?_;rintro er w1 ⟨R2,Q2,rfl,hr2,hb1,hz⟩;have HM:=HM.out.k hb1;have HY:=HY.out.k hb1;have HI:=HI.out.k hb1;have HQ:=HQ.out.k hb1;have HB:=bt HB hb1;clear hb1;have HR2:=h_ hr2;have HZ2:=h_ hz;clear hr2 hz;go_wp2_with (refine HY.out.wa (kvA R2 Q2 { Y with pc:=Y.pc+1,x:=(opsX x.a l Y.x).2,stk:=s++[(opsX x.a l Y.x).1] }) ?_);intro W4 HY p4;have HM:=HM.out.q p4;have HI:=HI.out.q p4;have HB:=pb HB p4;have HR2:=HR2.out.q p4;clear p4;go_wp2;exact HY.out.r1 underlying85 ⟨R2,Q2,rfl,(HR2.out).less.out,HB.out,HZ2.out⟩
 | jump hop =>
  have i0:W3.cell? ⟨b3,0,none⟩=some (.int .i64 6):=by rw[←hop];exact HI.out.cell 0
  have HOPX:=h_ hop;clear hop;have i1:=HI.out.cl 1;go_wp2_with (refine HM.out.ws 19 (.int .i64 x.a) (kvA R Q { Y with pc:=x.a }) ?_);intro W4 HM p4;have HY:=HY.out.q p4;have HI:=HI.out.q p4;have HB:=pb HB p4;have HQ:=HQ.out.q p4;clear p4;clear i0 i1;go_wp2_with (first|refine HM.out.wl 0 (kvA R Q { Y with pc:=x.a }) underlying85 ?_|refine HY.out.wa (kvA R Q { Y with pc:=x.a }) ?_);intro W5 HY p5;have HM:=HM.out.q p5;have HI:=HI.out.q p5;have HB:=pb HB p5;have HQ:=HQ.out.q p5;clear p5;go_wp2;exact HY.out.r1 underlying85 ⟨R,Q,rfl,(HQ.out.imp fun W h=>⟨h.r,h.P,h.I,h.k,h.kc,h.l⟩).less.out,HB.out,rfl,rfl,rfl⟩
 | falW hop s v hs hv =>
  have i0:W3.cell? ⟨b3,0,none⟩=some (.int .i64 7):=by rw[←hop];exact HI.out.cell 0
  have HOPX:=h_ hop;clear hop
  have hl1:s.length+1≤Y.stk.length:=by rw[hs,List.length_append];exact Nat.le_refl _
  have HS:=h_ hs;have hss:s.length≤10000000:=(by omega);clear hs;have HKC:=h_ HQ.out.now.kc;have HSK:=h_ (show s.length≤Q.kc from Nat.le_trans (by omega) HKC.out)
  have hlq:Y.stk.length=s.length+1:=by rw[HS.out,List.length_append];rfl
  have hcs:CellsAt W3 (.slice Q.ka (s.length+1) Q.kc) (s.length+1) (vlLs (s++[v])):=by rw[←HS.out,←hlq];exact HQ.out.now.k
  have HCC:=h_ (show s.length+1≤Q.kc from Nat.le_trans hl1 HKC.out);have HCS:=h_ hcs;clear hcs hl1
  have x17:W3.cell? ⟨w.heap.size,17,none⟩=some (.slice Q.ka (s.length+1) Q.kc):=by rw[←hlq];exact HM.out.cell 17
  clear hlq;go_wp2_with (fail);refine(Rtop_any Q.ka Q.kc s v _ HCS.out HCC.out (by omega)).mono ?_;rintro er w1 ⟨rfl,hb1⟩;have HM:=HM.out.k hb1;have HY:=HY.out.k hb1;have HI:=HI.out.k hb1;have HQ:=HQ.out.k hb1;have HB:=bt HB hb1;clear hb1;clear x17 HCS HCC i0;go_wp2_with (refine wal (z:=#[.int .i64 0,.int .i64 0,.string ⟨#[]⟩]) rfl rfl rfl (by kernel_rfl) ?_);intro b6 W4 hba hx hbl
  have hlb6:w.heap.size+2≤b6:=by have:=HY.out.lt;omega
  have hnb6b3:b3≠b6:=by have:=HI.out.lt;omega
  have HM:=HM.out.k hbl;have HY:=HY.out.k hbl;have HI:=HI.out.k hbl;have HQ:=h_ (HQ.out.more hbl (b:=b6) (c:=b6) (by omega) (by omega));have HB:=bt HB hbl;have HV:=h_ hx;clear hx hbl hba;go_wp2_with (refine HV.out.wa (vV v) ?_);intro W5 HV p5;have HM:=HM.out.q p5;have HY:=HY.out.q p5;have HI:=HI.out.q p5;have HB:=pb HB p5;have HQ:=HQ.out.q p5;clear p5;go_wp2_with (refine HM.out.ws 17 (.slice Q.ka s.length Q.kc) (kvA R Q { Y with pc:=Y.pc+1,stk:=s }) ?_);intro W6 HM p6;have HY:=HY.out.q p6;have HI:=HI.out.q p6;have HV:=HV.out.q p6;have HB:=pb HB p6;have HQ:=HQ.out.q p6;clear p6;obtain⟨v0c,v1c⟩:=HV.out.d2 0 1
  have t1:(v.k != 3)=true:=by rw[bne_iff_ne];exact hv
  clear hv;go_wp2_with (refine HM.out.wl 3 (mvA R Y.x) underlying83 ?_);refine(Rwrong18_any _ R Y.x _ (moreD_lt (moreD_lt (bl 2 hD HY) HI.out.lt HI.out.lt) HV.out.lt HV.out.lt) (HQ.out.imp fun W h=>h.r)).mono ?_;rintro er w1 ⟨R2,rfl,hr2,hb1⟩;have HM:=HM.out.k hb1;have HY:=HY.out.k hb1;have HI:=HI.out.k hb1;have HV:=HV.out.k hb1;have HQ:=HQ.out.k hb1;have HB:=bt HB hb1;clear hb1;have HR2:=h_ hr2;clear hr2;go_wp2_with (refine HM.out.ws 3 (.agg (mvA R2 (abX 1009 Y.x))) (kvA R2 Q { Y with pc:=Y.pc+1,x:=abX 1009 Y.x,stk:=s }) ?_);intro W7 HM p7;have HY:=HY.out.q p7;have HI:=HI.out.q p7;have HV:=HV.out.q p7;have HB:=pb HB p7;have HQ:=HQ.out.q p7;have HR2:=HR2.out.q p7;clear p7;go_wp2_with (first|refine HM.out.wl 0 (kvA R2 Q { Y with pc:=Y.pc+1,x:=abX 1009 Y.x,stk:=s }) underlying85 ?_|refine HY.out.wa (kvA R2 Q { Y with pc:=Y.pc+1,x:=abX 1009 Y.x,stk:=s }) ?_);intro W8 HY p8;have HM:=HM.out.q p8;have HI:=HI.out.q p8;have HV:=HV.out.q p8;have HB:=pb HB p8;have HQ:=HQ.out.q p8;have HR2:=HR2.out.q p8;clear p8;go_wp2;exact HY.out.r1 underlying85 ⟨R2,Q,rfl,(HQ.out.both HR2.out fun W h h2=>⟨h2,h.P,h.I,by have h3:=cells_take_vl (k:=s.length) (by rw[HS.out,List.length_append];omega) h.k;rw[show Y.stk.take s.length=s by rw[HS.out];simp]at h3;exact h3,HSK.out,h.l⟩).less.less.out,HB.out,rfl,rfl,rfl⟩
 | falJ hop s v hs hv hn =>
  have i0:W3.cell? ⟨b3,0,none⟩=some (.int .i64 7):=by rw[←hop];exact HI.out.cell 0
  have HOPX:=h_ hop;clear hop
  have hl1:s.length+1≤Y.stk.length:=by rw[hs,List.length_append];exact Nat.le_refl _
  have HS:=h_ hs;have hss:s.length≤10000000:=(by omega);clear hs;have HKC:=h_ HQ.out.now.kc;have HSK:=h_ (show s.length≤Q.kc from Nat.le_trans (by omega) HKC.out)
  have hlq:Y.stk.length=s.length+1:=by rw[HS.out,List.length_append];rfl
  have hcs:CellsAt W3 (.slice Q.ka (s.length+1) Q.kc) (s.length+1) (vlLs (s++[v])):=by rw[←HS.out,←hlq];exact HQ.out.now.k
  have HCC:=h_ (show s.length+1≤Q.kc from Nat.le_trans hl1 HKC.out);have HCS:=h_ hcs;clear hcs hl1
  have x17:W3.cell? ⟨w.heap.size,17,none⟩=some (.slice Q.ka (s.length+1) Q.kc):=by rw[←hlq];exact HM.out.cell 17
  clear hlq;go_wp2_with (fail);refine(Rtop_any Q.ka Q.kc s v _ HCS.out HCC.out (by omega)).mono ?_;rintro er w1 ⟨rfl,hb1⟩;have HM:=HM.out.k hb1;have HY:=HY.out.k hb1;have HI:=HI.out.k hb1;have HQ:=HQ.out.k hb1;have HB:=bt HB hb1;clear hb1;clear x17 HCS HCC i0;go_wp2_with (refine wal (z:=#[.int .i64 0,.int .i64 0,.string ⟨#[]⟩]) rfl rfl rfl (by kernel_rfl) ?_);intro b6 W4 hba hx hbl
  have hlb6:w.heap.size+2≤b6:=by have:=HY.out.lt;omega
  have hnb6b3:b3≠b6:=by have:=HI.out.lt;omega
  have HM:=HM.out.k hbl;have HY:=HY.out.k hbl;have HI:=HI.out.k hbl;have HQ:=h_ (HQ.out.more hbl (b:=b6) (c:=b6) (by omega) (by omega));have HB:=bt HB hbl;have HV:=h_ hx;clear hx hbl hba;go_wp2_with (refine HV.out.wa (vV v) ?_);intro W5 HV p5;have HM:=HM.out.q p5;have HY:=HY.out.q p5;have HI:=HI.out.q p5;have HB:=pb HB p5;have HQ:=HQ.out.q p5;clear p5;go_wp2_with (refine HM.out.ws 17 (.slice Q.ka s.length Q.kc) (kvA R Q { Y with pc:=Y.pc+1,stk:=s }) ?_);intro W6 HM p6;have HY:=HY.out.q p6;have HI:=HI.out.q p6;have HV:=HV.out.q p6;have HB:=pb HB p6;have HQ:=HQ.out.q p6;clear p6;obtain⟨v0c,v1c⟩:=HV.out.d2 0 1
  have t1:(v.k != 3)=false:=by rw[hv];rfl
  clear hv
  have t2:(v.n==0)=true:=by rw[hn];rfl
  clear hn;have i1:=HI.out.cl 1;go_wp2_with (refine HM.out.ws 19 (.int .i64 x.a) (kvA R Q { Y with pc:=x.a,stk:=s }) ?_);intro W7 HM p7;have HY:=HY.out.q p7;have HI:=HI.out.q p7;have HV:=HV.out.q p7;have HB:=pb HB p7;have HQ:=HQ.out.q p7;clear p7;go_wp2_with (first|refine HM.out.wl 0 (kvA R Q { Y with pc:=x.a,stk:=s }) underlying85 ?_|refine HY.out.wa (kvA R Q { Y with pc:=x.a,stk:=s }) ?_);intro W8 HY p8;have HM:=HM.out.q p8;have HI:=HI.out.q p8;have HV:=HV.out.q p8;have HB:=pb HB p8;have HQ:=HQ.out.q p8;clear p8;go_wp2;exact HY.out.r1 underlying85 ⟨R,Q,rfl,(HQ.out.imp fun W h=>⟨h.r,h.P,h.I,by have h3:=cells_take_vl (k:=s.length) (by rw[HS.out,List.length_append];omega) h.k;rw[show Y.stk.take s.length=s by rw[HS.out];simp]at h3;exact h3,HSK.out,h.l⟩).less.less.out,HB.out,rfl,rfl,rfl⟩
 | falN hop s v hs hv hn =>
  have i0:W3.cell? ⟨b3,0,none⟩=some (.int .i64 7):=by rw[←hop];exact HI.out.cell 0
  have HOPX:=h_ hop;clear hop
  have hl1:s.length+1≤Y.stk.length:=by rw[hs,List.length_append];exact Nat.le_refl _
  have HS:=h_ hs;have hss:s.length≤10000000:=(by omega);clear hs;have HKC:=h_ HQ.out.now.kc;have HSK:=h_ (show s.length≤Q.kc from Nat.le_trans (by omega) HKC.out)
  have hlq:Y.stk.length=s.length+1:=by rw[HS.out,List.length_append];rfl
  have hcs:CellsAt W3 (.slice Q.ka (s.length+1) Q.kc) (s.length+1) (vlLs (s++[v])):=by rw[←HS.out,←hlq];exact HQ.out.now.k
  have HCC:=h_ (show s.length+1≤Q.kc from Nat.le_trans hl1 HKC.out);have HCS:=h_ hcs;clear hcs hl1
  have x17:W3.cell? ⟨w.heap.size,17,none⟩=some (.slice Q.ka (s.length+1) Q.kc):=by rw[←hlq];exact HM.out.cell 17
  clear hlq;go_wp2_with (fail);refine(Rtop_any Q.ka Q.kc s v _ HCS.out HCC.out (by omega)).mono ?_;rintro er w1 ⟨rfl,hb1⟩;have HM:=HM.out.k hb1;have HY:=HY.out.k hb1;have HI:=HI.out.k hb1;have HQ:=HQ.out.k hb1;have HB:=bt HB hb1;clear hb1;clear x17 HCS HCC i0;go_wp2_with (refine wal (z:=#[.int .i64 0,.int .i64 0,.string ⟨#[]⟩]) rfl rfl rfl (by kernel_rfl) ?_);intro b6 W4 hba hx hbl
  have hlb6:w.heap.size+2≤b6:=by have:=HY.out.lt;omega
  have hnb6b3:b3≠b6:=by have:=HI.out.lt;omega
  have HM:=HM.out.k hbl;have HY:=HY.out.k hbl;have HI:=HI.out.k hbl;have HQ:=h_ (HQ.out.more hbl (b:=b6) (c:=b6) (by omega) (by omega));have HB:=bt HB hbl;have HV:=h_ hx;clear hx hbl hba;go_wp2_with (refine HV.out.wa (vV v) ?_);intro W5 HV p5;have HM:=HM.out.q p5;have HY:=HY.out.q p5;have HI:=HI.out.q p5;have HB:=pb HB p5;have HQ:=HQ.out.q p5;clear p5;go_wp2_with (refine HM.out.ws 17 (.slice Q.ka s.length Q.kc) (kvA R Q { Y with pc:=Y.pc+1,stk:=s }) ?_);intro W6 HM p6;have HY:=HY.out.q p6;have HI:=HI.out.q p6;have HV:=HV.out.q p6;have HB:=pb HB p6;have HQ:=HQ.out.q p6;clear p6;obtain⟨v0c,v1c⟩:=HV.out.d2 0 1
  have t1:(v.k != 3)=false:=by rw[hv];rfl
  clear hv
  have t2:(v.n==0)=false:=by rw[beq_eq_false_iff_ne];exact hn
  clear hn;go_wp2_with (first|refine HM.out.wl 0 (kvA R Q { Y with pc:=Y.pc+1,stk:=s }) underlying85 ?_|refine HY.out.wa (kvA R Q { Y with pc:=Y.pc+1,stk:=s }) ?_);intro W7 HY p7;have HM:=HM.out.q p7;have HI:=HI.out.q p7;have HV:=HV.out.q p7;have HB:=pb HB p7;have HQ:=HQ.out.q p7;clear p7;go_wp2;exact HY.out.r1 underlying85 ⟨R,Q,rfl,(HQ.out.imp fun W h=>⟨h.r,h.P,h.I,by have h3:=cells_take_vl (k:=s.length) (by rw[HS.out,List.length_append];omega) h.k;rw[show Y.stk.take s.length=s by rw[HS.out];simp]at h3;exact h3,HSK.out,h.l⟩).less.less.out,HB.out,rfl,rfl,rfl⟩
 | put hop s k v hs hk =>
  have i0:W3.cell? ⟨b3,0,none⟩=some (.int .i64 8):=by rw[←hop];exact HI.out.cell 0
  have HOPX:=h_ hop;clear hop
  have hss:s.length≤10000000:=by rw[hs,List.length_append]at hls;omega
  have HS:=h_ hs;clear hs;go_wp2_with (refine HM.out.wl 0 (kvA R Q { Y with pc:=Y.pc+1 }) underlying85 ?_);refine(Raccess8_any s k v _ R Q { Y with pc:=Y.pc+1 } _ (moreD_lt (bl 2 hD HY) HI.out.lt HI.out.lt) (HQ.out.imp fun W h=>⟨h.r,h.P,h.I,h.k,h.kc,h.l⟩) HL.out HS.out hk hss).mono ?_;rintro er w1 ⟨R2,Q2,rfl,hr2,hb1,hz⟩;have HM:=HM.out.k hb1;have HY:=HY.out.k hb1;have HI:=HI.out.k hb1;have HQ:=HQ.out.k hb1;have HB:=bt HB hb1;clear hb1;have HR2:=h_ hr2;have HZ2:=h_ hz;clear hr2 hz;go_wp2_with (refine HY.out.wa (kvA R2 Q2 { Y with pc:=Y.pc+1,x:=acc8 k v Y.x,stk:=s }) ?_);intro W4 HY p4;have HM:=HM.out.q p4;have HI:=HI.out.q p4;have HB:=pb HB p4;have HR2:=HR2.out.q p4;clear p4;go_wp2;exact HY.out.r1 underlying85 ⟨R2,Q2,rfl,(HR2.out).less.out,HB.out,HZ2.out⟩
 | del hop s k hs hk =>
  have i0:W3.cell? ⟨b3,0,none⟩=some (.int .i64 9):=by rw[←hop];exact HI.out.cell 0
  have HOPX:=h_ hop;clear hop
  have hss:s.length≤10000000:=by rw[hs,List.length_append]at hls;omega
  have HS:=h_ hs;clear hs;go_wp2_with (refine HM.out.wl 0 (kvA R Q { Y with pc:=Y.pc+1 }) underlying85 ?_);refine(Raccess9_any s k _ R Q { Y with pc:=Y.pc+1 } _ (moreD_lt (bl 2 hD HY) HI.out.lt HI.out.lt) (HQ.out.imp fun W h=>⟨h.r,h.P,h.I,h.k,h.kc,h.l⟩) HL.out HS.out hk hss).mono ?_;rintro er w1 ⟨R2,Q2,rfl,hr2,hb1,hz⟩;have HM:=HM.out.k hb1;have HY:=HY.out.k hb1;have HI:=HI.out.k hb1;have HQ:=HQ.out.k hb1;have HB:=bt HB hb1;clear hb1;have HR2:=h_ hr2;have HZ2:=h_ hz;clear hr2 hz;go_wp2_with (refine HY.out.wa (kvA R2 Q2 { Y with pc:=Y.pc+1,x:=acc9 k Y.x,stk:=s }) ?_);intro W4 HY p4;have HM:=HM.out.q p4;have HI:=HI.out.q p4;have HB:=pb HB p4;have HR2:=HR2.out.q p4;clear p4;go_wp2;exact HY.out.r1 underlying85 ⟨R2,Q2,rfl,(HR2.out).less.out,HB.out,HZ2.out⟩
 | emitW hop s v hs hv =>
  have i0:W3.cell? ⟨b3,0,none⟩=some (.int .i64 10):=by rw[←hop];exact HI.out.cell 0
  have HOPX:=h_ hop;clear hop
  have hl1:s.length+1≤Y.stk.length:=by rw[hs,List.length_append];exact Nat.le_refl _
  have HS:=h_ hs;have hss:s.length≤10000000:=(by omega);clear hs;have HKC:=h_ HQ.out.now.kc;have HSK:=h_ (show s.length≤Q.kc from Nat.le_trans (by omega) HKC.out)
  have hlq:Y.stk.length=s.length+1:=by rw[HS.out,List.length_append];rfl
  have hcs:CellsAt W3 (.slice Q.ka (s.length+1) Q.kc) (s.length+1) (vlLs (s++[v])):=by rw[←HS.out,←hlq];exact HQ.out.now.k
  have HCC:=h_ (show s.length+1≤Q.kc from Nat.le_trans hl1 HKC.out);have HCS:=h_ hcs;clear hcs hl1
  have x17:W3.cell? ⟨w.heap.size,17,none⟩=some (.slice Q.ka (s.length+1) Q.kc):=by rw[←hlq];exact HM.out.cell 17
  clear hlq;go_wp2_with (fail);refine(Rtop_any Q.ka Q.kc s v _ HCS.out HCC.out (by omega)).mono ?_;rintro er w1 ⟨rfl,hb1⟩;have HM:=HM.out.k hb1;have HY:=HY.out.k hb1;have HI:=HI.out.k hb1;have HQ:=HQ.out.k hb1;have HB:=bt HB hb1;clear hb1;clear x17 HCS HCC i0;go_wp2_with (refine wal (z:=#[.int .i64 0,.int .i64 0,.string ⟨#[]⟩]) rfl rfl rfl (by kernel_rfl) ?_);intro b8 W4 hba hx hbl
  have hlb8:w.heap.size+2≤b8:=by have:=HY.out.lt;omega
  have hnb8b3:b3≠b8:=by have:=HI.out.lt;omega
  have HM:=HM.out.k hbl;have HY:=HY.out.k hbl;have HI:=HI.out.k hbl;have HQ:=h_ (HQ.out.more hbl (b:=b8) (c:=b8) (by omega) (by omega));have HB:=bt HB hbl;have HV:=h_ hx;clear hx hbl hba;go_wp2_with (refine HV.out.wa (vV v) ?_);intro W5 HV p5;have HM:=HM.out.q p5;have HY:=HY.out.q p5;have HI:=HI.out.q p5;have HB:=pb HB p5;have HQ:=HQ.out.q p5;clear p5;go_wp2_with (refine HM.out.ws 17 (.slice Q.ka s.length Q.kc) (kvA R Q { Y with pc:=Y.pc+1,stk:=s }) ?_);intro W6 HM p6;have HY:=HY.out.q p6;have HI:=HI.out.q p6;have HV:=HV.out.q p6;have HB:=pb HB p6;have HQ:=HQ.out.q p6;clear p6;have HSB:=h_ hv;clear hv;go_wp2_with (refine HV.out.wl 0 (vV v) underlying52 ?_);refine(Rscalar_any v _).mono ?_;rw[HSB.out];rintro er w1 ⟨rfl,hb1⟩;have HM:=HM.out.k hb1;have HY:=HY.out.k hb1;have HI:=HI.out.k hb1;have HV:=HV.out.k hb1;have HQ:=HQ.out.k hb1;have HB:=bt HB hb1;clear hb1;go_wp2_with (refine HM.out.wl 3 (mvA R Y.x) underlying83 ?_);refine(Rwrong18_any _ R Y.x _ (moreD_lt (moreD_lt (bl 2 hD HY) HI.out.lt HI.out.lt) HV.out.lt HV.out.lt) (HQ.out.imp fun W h=>h.r)).mono ?_;rintro er w1 ⟨R2,rfl,hr2,hb1⟩;have HM:=HM.out.k hb1;have HY:=HY.out.k hb1;have HI:=HI.out.k hb1;have HV:=HV.out.k hb1;have HQ:=HQ.out.k hb1;have HB:=bt HB hb1;clear hb1;have HR2:=h_ hr2;clear hr2;go_wp2_with (refine HM.out.ws 3 (.agg (mvA R2 (abX 1009 Y.x))) (kvA R2 Q { Y with pc:=Y.pc+1,x:=abX 1009 Y.x,stk:=s }) ?_);intro W7 HM p7;have HY:=HY.out.q p7;have HI:=HI.out.q p7;have HV:=HV.out.q p7;have HB:=pb HB p7;have HQ:=HQ.out.q p7;have HR2:=HR2.out.q p7;clear p7;go_wp2_with (first|refine HM.out.wl 0 (kvA R2 Q { Y with pc:=Y.pc+1,x:=abX 1009 Y.x,stk:=s }) underlying85 ?_|refine HY.out.wa (kvA R2 Q { Y with pc:=Y.pc+1,x:=abX 1009 Y.x,stk:=s }) ?_);intro W8 HY p8;have HM:=HM.out.q p8;have HI:=HI.out.q p8;have HV:=HV.out.q p8;have HB:=pb HB p8;have HQ:=HQ.out.q p8;have HR2:=HR2.out.q p8;clear p8;go_wp2;exact HY.out.r1 underlying85 ⟨R2,Q,rfl,(HQ.out.both HR2.out fun W h h2=>⟨h2,h.P,h.I,by have h3:=cells_take_vl (k:=s.length) (by rw[HS.out,List.length_append];omega) h.k;rw[show Y.stk.take s.length=s by rw[HS.out];simp]at h3;exact h3,HSK.out,h.l⟩).less.less.out,HB.out,rfl,rfl,rfl⟩
 | emit hop s v hs hv =>
  have i0:W3.cell? ⟨b3,0,none⟩=some (.int .i64 10):=by rw[←hop];exact HI.out.cell 0
  have HOPX:=h_ hop;clear hop
  have hl1:s.length+1≤Y.stk.length:=by rw[hs,List.length_append];exact Nat.le_refl _
  have HS:=h_ hs;have hss:s.length≤10000000:=(by omega);clear hs;have HKC:=h_ HQ.out.now.kc;have HSK:=h_ (show s.length≤Q.kc from Nat.le_trans (by omega) HKC.out)
  have hlq:Y.stk.length=s.length+1:=by rw[HS.out,List.length_append];rfl
  have hcs:CellsAt W3 (.slice Q.ka (s.length+1) Q.kc) (s.length+1) (vlLs (s++[v])):=by rw[←HS.out,←hlq];exact HQ.out.now.k
  have HCC:=h_ (show s.length+1≤Q.kc from Nat.le_trans hl1 HKC.out);have HCS:=h_ hcs;clear hcs hl1
  have x17:W3.cell? ⟨w.heap.size,17,none⟩=some (.slice Q.ka (s.length+1) Q.kc):=by rw[←hlq];exact HM.out.cell 17
  clear hlq;go_wp2_with (fail);refine(Rtop_any Q.ka Q.kc s v _ HCS.out HCC.out (by omega)).mono ?_;rintro er w1 ⟨rfl,hb1⟩;have HM:=HM.out.k hb1;have HY:=HY.out.k hb1;have HI:=HI.out.k hb1;have HQ:=HQ.out.k hb1;have HB:=bt HB hb1;clear hb1;clear x17 HCS HCC i0;go_wp2_with (refine wal (z:=#[.int .i64 0,.int .i64 0,.string ⟨#[]⟩]) rfl rfl rfl (by kernel_rfl) ?_);intro b8 W4 hba hx hbl
  have hlb8:w.heap.size+2≤b8:=by have:=HY.out.lt;omega
  have hnb8b3:b3≠b8:=by have:=HI.out.lt;omega
  have HM:=HM.out.k hbl;have HY:=HY.out.k hbl;have HI:=HI.out.k hbl;have HQ:=h_ (HQ.out.more hbl (b:=b8) (c:=b8) (by omega) (by omega));have HB:=bt HB hbl;have HV:=h_ hx;clear hx hbl hba;go_wp2_with (refine HV.out.wa (vV v) ?_);intro W5 HV p5;have HM:=HM.out.q p5;have HY:=HY.out.q p5;have HI:=HI.out.q p5;have HB:=pb HB p5;have HQ:=HQ.out.q p5;clear p5;go_wp2_with (refine HM.out.ws 17 (.slice Q.ka s.length Q.kc) (kvA R Q { Y with pc:=Y.pc+1,stk:=s }) ?_);intro W6 HM p6;have HY:=HY.out.q p6;have HI:=HI.out.q p6;have HV:=HV.out.q p6;have HB:=pb HB p6;have HQ:=HQ.out.q p6;clear p6;have HSB:=h_ hv;clear hv;go_wp2_with (refine HV.out.wl 0 (vV v) underlying52 ?_);refine(Rscalar_any v _).mono ?_;rw[HSB.out];rintro er w1 ⟨rfl,hb1⟩;have HM:=HM.out.k hb1;have HY:=HY.out.k hb1;have HI:=HI.out.k hb1;have HV:=HV.out.k hb1;have HQ:=HQ.out.k hb1;have HB:=bt HB hb1;clear hb1;go_wp2_with (first|refine HM.out.wl 3 (mvA R Y.x) underlying83 ?_|refine HV.out.wl 0 (vV v) underlying52 ?_);refine(REmit_any v _ R Y.x _ (moreD_lt (moreD_lt (bl 2 hD HY) HI.out.lt HI.out.lt) HV.out.lt HV.out.lt) (HQ.out.imp fun W h=>h.r) HL.out).mono ?_;rintro er w1 ⟨R2,rfl,hr2,hb1⟩;have HM:=HM.out.k hb1;have HY:=HY.out.k hb1;have HI:=HI.out.k hb1;have HV:=HV.out.k hb1;have HQ:=HQ.out.k hb1;have HB:=bt HB hb1;clear hb1;have HR2:=h_ hr2;clear hr2;go_wp2_with (refine HM.out.ws 3 (.agg (mvA R2 (emX v Y.x))) (kvA R2 Q { Y with pc:=Y.pc+1,x:=emX v Y.x,stk:=s }) ?_);intro W7 HM p7;have HY:=HY.out.q p7;have HI:=HI.out.q p7;have HV:=HV.out.q p7;have HB:=pb HB p7;have HQ:=HQ.out.q p7;have HR2:=HR2.out.q p7;clear p7;go_wp2_with (first|refine HM.out.wl 0 (kvA R2 Q { Y with pc:=Y.pc+1,x:=emX v Y.x,stk:=s }) underlying85 ?_|refine HY.out.wa (kvA R2 Q { Y with pc:=Y.pc+1,x:=emX v Y.x,stk:=s }) ?_);intro W8 HY p8;have HM:=HM.out.q p8;have HI:=HI.out.q p8;have HV:=HV.out.q p8;have HB:=pb HB p8;have HQ:=HQ.out.q p8;have HR2:=HR2.out.q p8;clear p8;go_wp2;exact HY.out.r1 underlying85 ⟨R2,Q,rfl,(HQ.out.both HR2.out fun W h h2=>⟨h2,h.P,h.I,by have h3:=cells_take_vl (k:=s.length) (by rw[HS.out,List.length_append];omega) h.k;rw[show Y.stk.take s.length=s by rw[HS.out];simp]at h3;exact h3,HSK.out,h.l⟩).less.less.out,HB.out,rfl,rfl,rfl⟩
 | abort hop =>
  have i0:W3.cell? ⟨b3,0,none⟩=some (.int .i64 11):=by rw[←hop];exact HI.out.cell 0
  have HOPX:=h_ hop;clear hop;have i1:=HI.out.cl 1;go_wp2_with (refine HM.out.wl 3 (mvA R Y.x) underlying83 ?_);refine(RAbort_any x.a _ R Y.x _ (moreD_lt (bl 2 hD HY) HI.out.lt HI.out.lt) (HQ.out.imp fun W h=>h.r)).mono ?_;rintro er w1 ⟨R2,rfl,hr2,hb1⟩;have HM:=HM.out.k hb1;have HY:=HY.out.k hb1;have HI:=HI.out.k hb1;have HQ:=HQ.out.k hb1;have HB:=bt HB hb1;clear hb1;have HR2:=h_ hr2;clear hr2;go_wp2_with (refine HM.out.ws 3 (.agg (mvA R2 (abX x.a Y.x))) (kvA R2 Q { Y with pc:=Y.pc+1,x:=abX x.a Y.x }) ?_);intro W4 HM p4;have HY:=HY.out.q p4;have HI:=HI.out.q p4;have HB:=pb HB p4;have HQ:=HQ.out.q p4;have HR2:=HR2.out.q p4;clear p4;go_wp2_with (first|refine HM.out.wl 0 (kvA R2 Q { Y with pc:=Y.pc+1,x:=abX x.a Y.x }) underlying85 ?_|refine HY.out.wa (kvA R2 Q { Y with pc:=Y.pc+1,x:=abX x.a Y.x }) ?_);intro W5 HY p5;have HM:=HM.out.q p5;have HI:=HI.out.q p5;have HB:=pb HB p5;have HQ:=HQ.out.q p5;have HR2:=HR2.out.q p5;clear p5;go_wp2;exact HY.out.r1 underlying85 ⟨R2,Q,rfl,(HQ.out.both HR2.out fun W h h2=>⟨h2,h.P,h.I,h.k,h.kc,h.l⟩).less.out,HB.out,rfl,rfl,rfl⟩
 | loop hop a b p q ha hb ha2 hb2 hp hq hx hx0 =>
  have i0:W3.cell? ⟨b3,0,none⟩=some (.int .i64 12):=by rw[←hop];exact HI.out.cell 0
  have HOPX:=h_ hop;clear hop;go_wp2_with (first|refine HM.out.wl 0 (kvA R Q { Y with pc:=Y.pc+1 }) underlying85 ?_|refine HI.out.wl 0 (insV x) underlying45 ?_);refine(Rcheck_any x a b p q _ R Q { Y with pc:=Y.pc+1 } _ (moreD_lt (bl 2 hD HY) HI.out.lt HI.out.lt) (HQ.out.imp fun W h=>⟨h.r,h.P,h.I,h.k,h.kc,h.l⟩) ha hb ha2 hb2 hp hq hx hx0).mono ?_;rintro er w1 ⟨R2,Q2,rfl,hr2,hb1,hz⟩;have HM:=HM.out.k hb1;have HY:=HY.out.k hb1;have HI:=HI.out.k hb1;have HQ:=HQ.out.k hb1;have HB:=bt HB hb1;clear hb1;have HR2:=h_ hr2;have HZ2:=h_ hz;clear hr2 hz;go_wp2_with (refine HY.out.wa (kvA R2 Q2 { Y with pc:=Y.pc+1,x:=chkX x p q Y.x }) ?_);intro W4 HY p4;have HM:=HM.out.q p4;have HI:=HI.out.q p4;have HB:=pb HB p4;have HR2:=HR2.out.q p4;clear p4;go_wp2;exact HY.out.r1 underlying85 ⟨R2,Q2,rfl,(HR2.out).less.out,HB.out,HZ2.out⟩
 | tick hop h0 h1 =>
  have i0:W3.cell? ⟨b3,0,none⟩=some (.int .i64 14):=by rw[←hop];exact HI.out.cell 0
  have HOPX:=h_ hop;clear hop;go_wp2_with (refine HM.out.wl 3 (mvA R Y.x) underlying83 ?_);refine(RTick_any _ R Y.x _ (moreD_lt (bl 2 hD HY) HI.out.lt HI.out.lt) (HQ.out.imp fun W h=>h.r) h0 h1).mono ?_;rintro er w1 ⟨R2,rfl,hr2,hb1⟩;have HM:=HM.out.k hb1;have HY:=HY.out.k hb1;have HI:=HI.out.k hb1;have HQ:=HQ.out.k hb1;have HB:=bt HB hb1;clear hb1;have HR2:=h_ hr2;clear hr2;go_wp2_with (refine HM.out.ws 3 (.agg (mvA R2 (tickX Y.x))) (kvA R2 Q { Y with pc:=Y.pc+1,x:=tickX Y.x }) ?_);intro W4 HM p4;have HY:=HY.out.q p4;have HI:=HI.out.q p4;have HB:=pb HB p4;have HQ:=HQ.out.q p4;have HR2:=HR2.out.q p4;clear p4;go_wp2_with (first|refine HM.out.wl 0 (kvA R2 Q { Y with pc:=Y.pc+1,x:=tickX Y.x }) underlying85 ?_|refine HY.out.wa (kvA R2 Q { Y with pc:=Y.pc+1,x:=tickX Y.x }) ?_);intro W5 HY p5;have HM:=HM.out.q p5;have HI:=HI.out.q p5;have HB:=pb HB p5;have HQ:=HQ.out.q p5;have HR2:=HR2.out.q p5;clear p5;go_wp2;exact HY.out.r1 underlying85 ⟨R2,Q,rfl,(HQ.out.both HR2.out fun W h h2=>⟨h2,h.P,h.I,h.k,h.kc,h.l⟩).less.out,HB.out,rfl,rfl,rfl⟩
theorem keyCl_any(p:Pr)(kb:Nat)(k:Vl)(w:World)(hK:Bx kb #[.int .i64 k.k,.int .i64 k.n,.string (bs k.s)] 52 w):
  Calls prog 97 #[.agg (prV p),.pointer (some ⟨kb,0,none⟩)] w fun e w'=>e=.returned (.bool (keyP k.s p))∧Below w.heap.size w w':=by
 simp only[prV];obtain⟨v0,hW0,hb0,hx0⟩:=boxes1 w #[.string (bs p.key),.int .i64 p.v.k,.int .i64 p.v.n,.string (bs p.v.s)] 55;have HW:=h_ hW0;have HB:=h_ hb0;have HC:=h_ hx0;have HK:=h_ (hK.call hb0);clear hW0 hb0 hx0 hK;go_enter func97,ntmps97;go_upto_region 1 with (fail);rw[HW.out];clear HW;obtain⟨c0,c1,c2,c3⟩:=HC.out.c4;obtain⟨k0,k1,k2⟩:=HK.out.c3;obtain⟨tb,t0⟩:=ex_ ((p.key==k.s));have HF:=h_ (show keyP k.s p=tb from t0);go_wp2;go_ret;exact⟨by rw[HF.out]<;>rfl,HB.out⟩
theorem idxKey_any(a:Option Addr)(cap:Nat)(M:List Pr)(kb:Nat)(qv:Vl)(w:World)(hl:M.length≤9000000000000)(hK:Bx kb #[.int .i64 qv.k,.int .i64 qv.n,.string (bs qv.s)] 52 w)(hM:CellsAt w (.slice a M.length cap) M.length (prLs M)):
  Calls prog 89 #[.slice a M.length cap,.func (.func 97) #[] #[.pointer (some ⟨kb,0,none⟩)]] w fun e w'=>e=.returned (.int .i64 (idxP (keyP qv.s) M))∧Below w.heap.size w w':=by
 obtain⟨p,hp⟩:∃p,p=(keyP qv.s):=⟨_,rfl⟩;rw[←hp];have HPP:=h_ hp;clear hp;obtain⟨R,hR⟩:=ex_ (idxP p M);rw[hR];have HR:=h_ hR;have HM:=h_ hM;clear hR hM;have HK:=h_ hK;clear hK;go_enter func89,ntmps89;go_wp2;go_loopw [8] (fun i wr=>∃k:Nat,k≤M.length∧i=.int .i64 k∧Hid ((M.take k).any p=false)∧Below w.heap.size w wr) (fun i _=>M.length-(intOf i).toNat)
 case atStart=>exact⟨0,Nat.zero_le _,by first|exact True.intro|rfl,h_ rfl,Below.refl _ _⟩
 case round =>
  obtain⟨k,hk,rfl,HQ,hB⟩:=hrel;have HB:=h_ hB;clear hB;by_cases hlt:k<M.length
  ·have hlt':(k:Int)<(M.length:Int):=by omega
   have hkb:(0:Int)≤(k:Int)∧(k:Int)<(M.length:Int):=⟨by omega,by omega⟩
   have hw1:IntKind.i64.wrap ((k:Int)+1)=(k:Int)+1:=by rw[IntKind.wrap_i64];omega
   obtain⟨b,off,rfl,p0,p1,p2,p3⟩:=pr_cells (HM.out.below HB.out) hlt;obtain⟨m,hm⟩:=ex_ (M[k]);rw[hm]at p0 p1 p2 p3;have HMK:=h_ hm;clear hm;obtain⟨pb,hpb⟩:=ex_ (p m);have HPB:=h_ hpb;have HPB2:=h_ (show (keyP qv.s) m=pb by rw[←HPP.out];exact hpb);clear hpb;go_wp2_with fail;refine(keyCl_any m kb qv _ (HK.out.call HB.out)).mono ?_;have hpe:=HPB2.out
   (try simp only at hpe)
   rw[hpe];clear hpe;rintro er w1 ⟨rfl,hb1⟩;have HB:=bt HB hb1;clear hb1 p0 p1 p2 p3
   cases pb with
   | true =>
    have HF:=h_ (show R=(k:Int) from HR.out.symm.trans (idxP_at hlt HQ.out (by rw[HMK.out];exact HPB.out)));go_wp2;go_ret;exact⟨by rw[HF.out]<;>rfl,HB.out⟩
   | false =>
    have HN:=h_ (any_step hlt HQ.out (by rw[HMK.out];exact HPB.out));go_wp2;go_roundw
    case rel=>exact⟨k+1,by omega,by go_num,HN,HB.out⟩
    case measure=>simp[intOf];omega
  ·have hlt':¬(k:Int)<(M.length:Int):=by omega
   have HF:=h_ (show R = -1 from HR.out.symm.trans (idxP_none (by have h:=HQ.out;rw[List.take_of_length_le (by omega)]at h;exact h)));go_wp2;go_ret;exact⟨by rw[HF.out]<;>rfl,HB.out⟩
theorem opCl_any(p:Pr)(lb:Nat)(la:Option Addr)(lc:Nat)(L:List Vl)(hL:0<L.length)(w:World)(hK:Bx lb #[.slice la L.length lc] 26 w)(hV:CellsAt w (.slice la L.length lc) L.length (vlLs L)):
  Calls prog 91 #[.agg (prV p),.pointer (some ⟨lb,0,none⟩)] w fun e w'=>e=.returned (.bool (keyP (L.headD v00).s p))∧Below w.heap.size w w':=by
 simp only[prV];obtain⟨v0,hW0,hb0,hx0⟩:=boxes1 w #[.string (bs p.key),.int .i64 p.v.k,.int .i64 p.v.n,.string (bs p.v.s)] 55;have hll:=hL;obtain⟨b,off,rfl,p0,p1,p2⟩:=vl_cells (hV.below hb0) hL;obtain⟨k,hk⟩:=ex_ (L[0])
 have hh:L.headD v00=k:=by cases L with|nil=>simp at hL|cons x r=>exact hk
 rw[hk]at p0 p1 p2;rw[hh];clear hh hk;rw[Nat.zero_mul,Nat.add_zero]at p0 p1 p2;have HW:=h_ hW0;have HB:=h_ hb0;have HC:=h_ hx0;have HK:=h_ (hK.call hb0);clear hW0 hb0 hx0 hK hV;go_enter func91,ntmps91;go_upto_region 1 with (fail);rw[HW.out];clear HW;obtain⟨tb,t0⟩:=ex_ ((p.key==k.s));have HF:=h_ (show keyP k.s p=tb from t0);have HS0:=h_ (show ((fun w'=>Bx w.heap.size #[.string (bs p.key),.int .i64 p.v.k,.int .i64 p.v.n,.string (bs p.v.s)] 55 w'∧Bx lb #[.slice (some ⟨b,off,none⟩) L.length lc] 26 w'∧w'.cell? ⟨b,off+2,none⟩=some (.string (bs k.s)))) v0.drew from⟨HC.out,HK.out,p2⟩);clear p0 p1 p2
 have hli:(0:Int)<(L.length:Int):=by omega
 refine wp_region_held_drew (S:=(fun w'=>Bx w.heap.size #[.string (bs p.key),.int .i64 p.v.k,.int .i64 p.v.n,.string (bs p.v.s)] 55 w'∧Bx lb #[.slice (some ⟨b,off,none⟩) L.length lc] 26 w'∧w'.cell? ⟨b,off+2,none⟩=some (.string (bs k.s)))) (by kernel_rfl) ?_ (fun hHeld=>?_)
 ·exact HS0.out
 refine tkX 0 4 ?_;refine tkY 1 (v:=?vv2) 5 ?yy2 ?_
 case yy2 =>
  intro wq hSw;obtain⟨d0,d1,d2,d3⟩:=hSw.1.c4;clear hSw;go_simp
  (try with_reducible rfl)
 refine tkY 2 (v:=?vv3) 6 ?yy3 ?_
 case yy3 =>
  intro wq hSw;have d0:=hSw.2.1.cell 0;simp only[List.getElem?_toArray,List.getElem?_cons_zero]at d0;clear hSw;go_simp
  (try with_reducible rfl)
 refine tkX 3 7 ?_;refine tkX 4 8 ?_;refine tkY 5 (v:=?vv6) 9 ?yy6 ?_
 case yy6 =>
  intro wq hSw;have d0:=hSw.2.2;clear hSw;go_simp
  (try with_reducible rfl)
 refine tkX 6 10 ?_;refine tkX 7 3 ?_;simp only[sA,sB,sC];refine wpAnyH_done (by kernel_rfl) ?_ _;clear hHeld HS0;go_wp2;go_ret;exact⟨by rw[HF.out]<;>rfl,HB.out.drew⟩
theorem idxOp_any(a:Option Addr)(cap:Nat)(M:List Pr)(lb:Nat)(la:Option Addr)(lc:Nat)(L:List Vl)(hL:0<L.length)(w:World)(hl:M.length≤9000000000000)(hK:Bx lb #[.slice la L.length lc] 26 w)(hV:CellsAt w (.slice la L.length lc) L.length (vlLs L))(hM:CellsAt w (.slice a M.length cap) M.length (prLs M)):
  Calls prog 89 #[.slice a M.length cap,.func (.func 91) #[] #[.pointer (some ⟨lb,0,none⟩)]] w fun e w'=>e=.returned (.int .i64 (idxP (keyP (L.headD v00).s) M))∧Below w.heap.size w w':=by
 obtain⟨p,hp⟩:∃p,p=(keyP (L.headD v00).s):=⟨_,rfl⟩;rw[←hp];have HPP:=h_ hp;clear hp;obtain⟨R,hR⟩:=ex_ (idxP p M);rw[hR];have HR:=h_ hR;have HM:=h_ hM;clear hR hM;have HK:=h_ hK;have HV:=h_ hV;clear hK hV;go_enter func89,ntmps89;go_wp2;go_loopw [8] (fun i wr=>∃k:Nat,k≤M.length∧i=.int .i64 k∧Hid ((M.take k).any p=false)∧Below w.heap.size w wr) (fun i _=>M.length-(intOf i).toNat)
 case atStart=>exact⟨0,Nat.zero_le _,by first|exact True.intro|rfl,h_ rfl,Below.refl _ _⟩
 case round =>
  obtain⟨k,hk,rfl,HQ,hB⟩:=hrel;have HB:=h_ hB;clear hB;by_cases hlt:k<M.length
  ·have hlt':(k:Int)<(M.length:Int):=by omega
   have hkb:(0:Int)≤(k:Int)∧(k:Int)<(M.length:Int):=⟨by omega,by omega⟩
   have hw1:IntKind.i64.wrap ((k:Int)+1)=(k:Int)+1:=by rw[IntKind.wrap_i64];omega
   obtain⟨b,off,rfl,p0,p1,p2,p3⟩:=pr_cells (HM.out.below HB.out) hlt;obtain⟨m,hm⟩:=ex_ (M[k]);rw[hm]at p0 p1 p2 p3;have HMK:=h_ hm;clear hm;obtain⟨pb,hpb⟩:=ex_ (p m);have HPB:=h_ hpb;have HPB2:=h_ (show (keyP (L.headD v00).s) m=pb by rw[←HPP.out];exact hpb);clear hpb;go_wp2_with fail;refine(opCl_any m lb la lc L hL _ (HK.out.call HB.out) (HV.out.below HB.out)).mono ?_;have hpe:=HPB2.out
   (try simp only at hpe)
   rw[hpe];clear hpe;rintro er w1 ⟨rfl,hb1⟩;have HB:=bt HB hb1;clear hb1 p0 p1 p2 p3
   cases pb with
   | true =>
    have HF:=h_ (show R=(k:Int) from HR.out.symm.trans (idxP_at hlt HQ.out (by rw[HMK.out];exact HPB.out)));go_wp2;go_ret;exact⟨by rw[HF.out]<;>rfl,HB.out⟩
   | false =>
    have HN:=h_ (any_step hlt HQ.out (by rw[HMK.out];exact HPB.out));go_wp2;go_roundw
    case rel=>exact⟨k+1,by omega,by go_num,HN,HB.out⟩
    case measure=>simp[intOf];omega
  ·have hlt':¬(k:Int)<(M.length:Int):=by omega
   have HF:=h_ (show R = -1 from HR.out.symm.trans (idxP_none (by have h:=HQ.out;rw[List.take_of_length_le (by omega)]at h;exact h)));go_wp2;go_ret;exact⟨by rw[HF.out]<;>rfl,HB.out⟩
structure GivH (H:Nat→Value) (W0:World) (M:List Pr) (F:Ft):Prop where
 st:∃a c,H 3=.slice a M.length c∧CellsAt W0 (.slice a M.length c) M.length (prLs M)
 al:H 4=.bool F.all
 rd:∃a c,H 5=.slice a F.rd.length c∧StrS W0 (.slice a F.rd.length c) F.rd
 wr:∃a c,H 6=.slice a F.wr.length c∧StrS W0 (.slice a F.wr.length c) F.wr
 len:M.length≤9000000000000∧F.rd.length≤9000000000000∧F.wr.length≤9000000000000
 str:(∀p∈M,p.key.length≤9223372036854775807∧p.v.s.length≤9223372036854775807)∧∀q∈F.rd++F.wr,q.length≤9223372036854775807
theorem idx_found{p:Pr→Bool}{M:List Pr}(h:M.findIdx p<M.length):idxP p M=(M.findIdx p:Int):=if_pos h
theorem idx_lost{p:Pr→Bool}{M:List Pr}(h:¬M.findIdx p<M.length):idxP p M = -1:=if_neg h
theorem setP_found{L:List Pr}{k:List UInt8}{v:Vl}(h:L.findIdx (keyP k)<L.length):setP L k v=L.set (L.findIdx (keyP k)) ⟨k,v⟩:=if_pos h
theorem setP_lost{L:List Pr}{k:List UInt8}{v:Vl}(h:¬L.findIdx (keyP k)<L.length):setP L k v=L++[⟨k,v⟩]:=if_neg h
theorem VMB.below{B mb:Nat}{S:Nat→Prop}{H:Nat→Value}{m:Mc}{R:Rw}{w w' W0:World}{S':Nat→Prop}(h:VMB B mb S H m R w)(hb:Below B W0 w)(k:FrS S S' w w'):Below B W0 w':=
 FrS.below hb k (by have h1:=h.rng mb h.mS;omega) (fun j hj=>(h.rng j hj).1)
theorem prLs_set(v:Vl):∀(L:List Pr) (x:Nat) (h:x<L.length),(((prLs L).set (x * 4+1) (.int .i64 v.k)).set (x * 4+1+1) (.int .i64 v.n)).set (x * 4+1+2) (.string (bs v.s))=prLs (L.set x ⟨L[x].key,v⟩)
 | p::r,0,_=>rfl
 | p::r,x+1,h=>by
  have hr:x<r.length:=by simpa using h
  have ih:=prLs_set v r x hr;rw[show (x+1) * 4+1=x * 4+1+4 by omega,show x * 4+1+4+1=x * 4+1+1+4 by omega,show x * 4+1+4+2=x * 4+1+2+4 by omega];show (prL p++(((prLs r).set (x * 4+1) (.int .i64 v.k)).set (x * 4+1+1) (.int .i64 v.n)).set (x * 4+1+2) (.string (bs v.s)))=prL p++prLs (r.set x ⟨r[x].key,v⟩);rw[ih]
theorem VMB.inOwn{B mb:Nat}{S:Nat→Prop}{H:Nat→Value}{m:Mc}{R:Rw}{W W':World}(h:VMB B mb S H m R W)(L:List Pr)(hg:W.grownBy W' R.ov.ownBlock)(ho:W'.ownsRow B 55 4 R.ov L.length (prLs L)):VMB B mb S H { m with own:=L } R W'∧FrS S S W W':=by
 have hm:=h.bf.grow hg (h.bf.row_ne h.own.1 (by decide))
 have ht:tailM { m with own:=L } R=tailM m R:=by funext k;unfold tailM;rfl
 refine⟨⟨h.mS,fun j hj=>⟨(h.rng j hj).1,Nat.lt_of_lt_of_le (h.rng j hj).2 hg.size⟩,hm.congr (fun j _=>by unfold mcf;rw[ht]),⟨ho,h.own.2⟩,h.out.grow hg (own_apart h.out.1 h.own.1 (by decide)) (fun _ q=>q),h.rds.grow hg (own_apart h.rds.1 h.own.1 (by decide)) (fun _ q=>q),h.puts.grow hg (own_apart h.puts.1 h.own.1 (by decide)) (fun _ q=>q),h.wrs.grow hg h.apart2 (fun _ q=>q),h.apart,h.apart2⟩,
  ⟨hg.os,hg.tape,hg.output,hg.size,fun k hk hn=>hg.block k hk (fun e=>hn (h.own.2 k e.symm)),fun k hk=>.inl hk⟩⟩
theorem VMB.ownSet{B mb:Nat}{S:Nat→Prop}{H:Nat→Value}{m:Mc}{R:Rw}{W:World}(h:VMB B mb S H m R W){g oc x:Nat}(hov:R.ov=.slice (some ⟨g,0,none⟩) m.own.length oc)(hx:x<m.own.length)(v:Vl):
  VMB B mb S H { m with own:=m.own.set x ⟨m.own[x].key,v⟩ } R (((W.setCell ⟨g,x * 4+1,none⟩ (.int .i64 v.k)).setCell ⟨g,x * 4+1+1,none⟩ (.int .i64 v.n)).setCell ⟨g,x * 4+1+2,none⟩ (.string (bs v.s))) ∧
  FrS S S W (((W.setCell ⟨g,x * 4+1,none⟩ (.int .i64 v.k)).setCell ⟨g,x * 4+1+1,none⟩ (.int .i64 v.n)).setCell ⟨g,x * 4+1+2,none⟩ (.string (bs v.s))):=by
 have ho:=h.own.1;rw[hov]at ho;refine h.inOwn _ ?_ ?_
 ·rw[hov]
  exact((grown_set W ⟨g,x * 4+1,none⟩ (.int .i64 v.k)).trans (grown_set _ ⟨g,x * 4+1+1,none⟩ (.int .i64 v.n))).trans (grown_set _ ⟨g,x * 4+1+2,none⟩ (.string (bs v.s)))
 ·rw[hov,List.length_set,←prLs_set v m.own x hx]
  exact own_put (own_put (own_put ho _ _) _ _) _ _
theorem store_any(W0:World)(mb:Nat)(S:Nat→Prop)(H:Nat→Value)(m:Mc)(R:Rw)(M:List Pr)(F:Ft)(k v:Vl)(hG:GivH H W0 M F)(hk:k.s.length≤1000000)(hs:SortK m.puts)(hl:m.puts.length≤100000000∧m.own.length≤100000000)(w:World)(h:VMB W0.heap.size mb S H m R w)(hb0:Below W0.heap.size W0 w):
  Calls prog 65 #[.pointer (some ⟨mb,0,none⟩),.agg (vV k),.agg (vV v)] w (VPost W0.heap.size mb S H (storeM F k v m) (.tuple #[]) w):=by
 simp only[vV];have HG:=h_ hG;clear hG;obtain⟨v0,hW0,hbe,hx0,hy0⟩:=boxes2 w #[.int .i64 k.k,.int .i64 k.n,.string (bs k.s)] 52 #[.int .i64 v.k,.int .i64 v.n,.string (bs v.s)] 52;have HM:=h_ (h.call hbe);have HF:=h_ (FrS.of_below (S:=S) hbe);have HN:=h_ h.not;have HL:=h_ (fun j hj=>(h.rng j hj).2);have HBW:=h_ (btrans hb0 hb0.size hbe);have hmw:=h.bf.lt;have HMS:=h_ h.mS;have HW:=h_ hW0;have HK:=h_ hx0;have HV:=h_ hy0;have HSO:=h_ hs;clear hW0 hbe hx0 hy0 h hb0 hs;go_enter func65,ntmps65;go_upto_region 6 with (fail);rw[HW.out];clear HW;obtain⟨c0,c1,c2⟩:=HK.out.c3;by_cases h1:k.k=2;rotate_left
 ·have t1:(k.k != 2)=true:=by rw[bne_iff_ne];exact h1
  have E1:=h_ h1;clear h1;go_wp2_with fail;refine(vabort_any _ mb S H m R 1009 _ HM.out).mono ?_;rintro e w2 ⟨rfl,S',R',h1,h2⟩;have H1:=h_ h1;have H2:=h_ h2;clear h1 h2;go_wp2;exact⟨(by first|exact True.intro|rfl),.tuple #[],results_none rfl _ _ _,rfl,S',R',by unfold storeM;rw[if_pos E1.out];exact H1.out,HF.out.then H2.out⟩
 have t1:(k.k != 2)=false:=by rw[h1];rfl
 have E1:=h_ h1;clear h1;obtain⟨kb,hkb⟩:=ex_ (keyB k.s);have HKB:=h_ hkb;clear hkb;go_wp2_with fail;refine(KValid_any k.s (by omega) _).mono ?_;rw[HKB.out];rintro er w1 ⟨rfl,hb1⟩;have HM:=HM.out.k hb1;have HK:=HK.out.k hb1;have HV:=HV.out.k hb1;have HF:=h_ (HF.out.then (FrS.of_below hb1));have HBW:=h_ (btrans HBW.out HBW.out.size hb1);clear hb1 c0 c1 c2
 cases kb with
 | false =>
  go_wp2_with fail;refine(vabort_any _ mb S H m R 1004 _ HM.out).mono ?_;rintro e w2 ⟨rfl,S',R',h1,h2⟩;have H1:=h_ h1;have H2:=h_ h2;clear h1 h2;go_wp2;exact⟨(by first|exact True.intro|rfl),.tuple #[],results_none rfl _ _ _,rfl,S',R',by unfold storeM;rw[if_neg (by simp[E1.out]),if_pos HKB.out];exact H1.out,HF.out.then H2.out⟩
 | true =>
  obtain⟨wa,wq,hw6,hws⟩:=HG.out.wr
  have HWS:=h_ hws;have c6:w1.cell? ⟨mb,6,none⟩=some (.slice wa F.wr.length wq):=by rw[←hw6];exact HM.out.hd 6 (by decide)
  have c4:w1.cell? ⟨mb,4,none⟩=some (.bool F.all):=by rw[←HG.out.al];exact HM.out.hd 4 (by decide)
  clear hw6 hws;obtain⟨al,hal⟩:=ex_ (F.all);have HAL:=h_ hal;rw[hal]at c4;clear hal;have HS0:=h_ (show ((fun w'=>w'.cell? ⟨mb,4,none⟩=some (.bool al)∧w'.cell? ⟨mb,6,none⟩=some (.slice wa F.wr.length wq)∧Bx w.heap.size #[.int .i64 k.k,.int .i64 k.n,.string (bs k.s)] 52 w')) w1.drew from⟨c4,c6,HK.out⟩);clear c4 c6;go_wp2_with fail;go_cut [61] from 62 to 82 (fun s61 W=>s61=.bool (!al && !(F.wr.contains k.s))∧W=w1.drew)
  case first =>
   cases al with
   | true =>
    refine wp_region_held_drew (S:=(fun w'=>w'.cell? ⟨mb,4,none⟩=some (.bool true)∧w'.cell? ⟨mb,6,none⟩=some (.slice wa F.wr.length wq)∧Bx w.heap.size #[.int .i64 k.k,.int .i64 k.n,.string (bs k.s)] 52 w')) (by kernel_rfl) ?_ (fun hHeld=>?_)
    ·exact HS0.out
    refine tkX 0 62 ?_;refine tkX 1 63 ?_;refine tkX 2 64 ?_;refine tkX 3 65 ?_;refine tkY 4 (v:=?vv5) 66 ?yy5 ?_
    case yy5 =>
     intro wq hSw;have d0:=hSw.1;clear hSw;go_simp
     (try with_reducible rfl)
    refine tkX 5 67 ?_;refine tkX 6 68 ?_;refine tkZ 7 69 ?_;refine tkZ 8 70 ?_;refine tkZ 9 71 ?_;refine tkZ 10 72 ?_;refine tkZ 11 73 ?_;refine tkZ 12 74 ?_;refine tkZ 13 75 ?_;refine tkZ 14 76 ?_;refine tkZ 15 77 ?_;refine tkX 16 78 ?_;refine tkX 17 61 ?_;simp only[sA,sB,sC];refine wpAnyH_done (by kernel_rfl) ?_ _;go_wp2_with fail
    go_meet
    exact⟨by simp,by first|exact True.intro|rfl⟩
   | false =>
    refine wp_region_held_drew (S:=(fun w'=>w'.cell? ⟨mb,4,none⟩=some (.bool false)∧w'.cell? ⟨mb,6,none⟩=some (.slice wa F.wr.length wq)∧Bx w.heap.size #[.int .i64 k.k,.int .i64 k.n,.string (bs k.s)] 52 w')) (by kernel_rfl) ?_ (fun hHeld=>?_)
    ·exact HS0.out
    refine tkX 0 62 ?_;refine tkX 1 63 ?_;refine tkX 2 64 ?_;refine tkX 3 65 ?_;refine tkY 4 (v:=?vv14) 66 ?yy14 ?_
    case yy14 =>
     intro wq hSw;have d0:=hSw.1;clear hSw;go_simp
     (try with_reducible rfl)
    refine tkX 5 67 ?_;refine tkX 6 68 ?_;refine tkX 7 69 ?_;refine tkX 8 70 ?_;refine tkX 9 71 ?_;refine tkX 10 72 ?_;refine tkY 11 (v:=?vv21) 73 ?yy21 ?_
    case yy21 =>
     intro wq hSw;have d0:=hSw.2.1;clear hSw;go_simp
     (try with_reducible rfl)
    refine tkX 12 74 ?_;refine tkY 13 (v:=?vv23) 75 ?yy23 ?_
    case yy23 =>
     intro wq hSw;obtain⟨d0,d1,d2⟩:=hSw.2.2.c3;clear hSw;go_simp
     (try with_reducible rfl)
    simp only[sA,sB,sC];obtain⟨cb,hcb⟩:=ex_ (F.wr.contains k.s);have HCB:=h_ hcb;clear hcb;refine rd1 14 fun K hK=>?_;go_simp;refine(Cont_any wa wq F.wr k.s w1.drew HG.out.len.2.2 (HWS.out.below HBW.out.drew)).mono ?_;rw[HCB.out];rintro er w2 ⟨rfl,rfl⟩;refine hK.out _ _ (HS0.out) fun hHeld=>?_;clear hK K
    (try simp only[Act.put,sA,sB,sC])
    refine tkX 15 77 ?_;refine tkX 16 78 ?_;refine tkX 17 61 ?_;simp only[sA,sB,sC];refine wpAnyH_done (by kernel_rfl) ?_ _;go_wp2_with fail
    go_meet
    exact⟨by rw[HCB.out]<;>simp,by first|exact True.intro|rfl⟩
  case rest =>
   obtain⟨rfl,hwc⟩:=hcut;subst hwc;have HM:=h_ HM.out.drew;have HK:=h_ HK.out.drew;have HV:=h_ HV.out.drew;have HF:=h_ HF.out.drew;have HBW:=h_ HBW.out.drew;generalize hW:w1.drew=w3 at HM HK HV HF HBW ⊢;clear hW HS0;obtain⟨rb,hrb⟩:=ex_ ((!al && !(F.wr.contains k.s)));rw[hrb];have HRB:=h_ hrb;clear hrb
   cases rb with
   | true =>
    have hre:F.all=false∧F.wr.contains k.s=false:=by have:=HRB.out;rw[HAL.out];simpa using this
    have HRE:=h_ hre;clear hre;obtain⟨c0,c1,c2⟩:=HK.out.c3;go_wp2_with fail;refine(endN_any _ mb S H m R 3 0 k.s (by decide) _ HM.out).mono ?_;rintro e w2 ⟨rfl,S',R',h1,h2⟩;have H1:=h_ h1;have H2:=h_ h2;clear h1 h2 c0 c1 c2;go_wp2;exact⟨(by first|exact True.intro|rfl),.tuple #[],results_none rfl _ _ _,rfl,S',R',by unfold storeM;rw[if_neg (by simp[E1.out]),if_neg (by rw[HKB.out];simp),if_pos HRE.out];exact H1.out,HF.out.then H2.out⟩
   | false =>
    have hre:¬(F.all=false∧F.wr.contains k.s=false):=by have:=HRB.out;rw[HAL.out];intro q;rw[q.1,q.2]at this;cases this
    have HRE:=h_ (show storeM F k v m={ m with puts:=withK m.puts k.s,own:=setP m.own k.s v } by unfold storeM;rw[if_neg (by simp[E1.out]),if_neg (by rw[HKB.out];simp),if_neg hre]);clear hre HRB;obtain⟨pa,pq,hpv⟩:=own_sl HM.out.puts.1;have HPV:=h_ hpv
    have c5:w3.cell? ⟨mb,397,none⟩=some (.slice pa m.puts.length pq):=by rw[←hpv];exact HM.out.tl 5 (by decide)
    have HC5:=h_ c5;clear c5 hpv;go_upto_region 1 with (fail);have HS0:=h_ (show ((fun w'=>Bx w.heap.size #[.int .i64 k.k,.int .i64 k.n,.string (bs k.s)] 52 w')) w3.drew from HK.out);refine wp_region_held_drew (S:=(fun w'=>Bx w.heap.size #[.int .i64 k.k,.int .i64 k.n,.string (bs k.s)] 52 w')) (by kernel_rfl) ?_ (fun hHeld=>?_)
    ·exact HS0.out
    refine tkX 0 7 ?_;refine tkX 1 8 ?_;refine tkX 2 9 ?_;refine tkX 3 10 ?_;refine tkX 4 11 ?_;refine tkX 6 13 ?_;refine tkY 7 (v:=?vv33) 14 ?yy33 ?_
    case yy33 =>
     intro wq hSw;obtain⟨d0,d1,d2⟩:=hSw.c3;clear hSw;go_simp
     (try with_reducible rfl)
    simp only[sA,sB,sC];refine rd1 5 fun K hK=>?_;have d0:w3.cell? ⟨mb,397,none⟩=some (.slice pa m.puts.length pq):=HC5.out;go_simp;skip;refine hK.out _ _ (HS0.out) fun hHeld=>?_;clear hK K
    (try simp only[Act.put,sA,sB,sC])
    clear d0;refine rd1 8 fun K hK=>?_;go_simp;have HOP:=h_ HM.out.puts.1;rw[HPV.out]at HOP;refine(vwith_any W0.heap.size (.slice pa m.puts.length pq) m.puts k.s w3.drew HSO.out HOP.out HBW.out.size (by omega)).mono ?_;rintro er w4 ⟨rv0,rfl,ho4,hg4,hv4⟩;obtain⟨ra4,rq4,hrv4⟩:=own_sl ho4;subst hrv4;have hrow:=HM.out.drew.rowPuts (W':=w4) (.slice ra4 (withK m.puts k.s).length rq4) (withK m.puts k.s) (by rw[HPV.out];exact hg4) ho4 (by rw[HPV.out];exact hv4);have HROW:=h_ hrow;clear hrow
    have hne4:∀b,b=w.heap.size∨b=w.heap.size+1→¬S b:=by rintro b (rfl|rfl) q<;>have:=HL.out _ q<;>omega
    have HNE4:=h_ hne4;clear hne4;have hvl3:=HV.out.lt
    have hsn:∀b,b=w.heap.size∨b=w.heap.size+1→¬addB S (.slice ra4 (withK m.puts k.s).length rq4) b:=by
     rintro b hb (q|q)
     ·exact HNE4.out b hb q
     ·rcases hv4 with e|⟨c,e,hc⟩
      ·exact HNE4.out b hb (HM.out.puts.2 b (by rw[HPV.out];exact e.symm.trans q))
      ·have hcb:c=b:=by rw[e]at q;exact Option.some.inj q
       subst hcb;have hc2:w3.heap.size≤c:=hc;rcases hb with rfl|rfl<;>omega
    have HSN:=h_ hsn;clear hsn;have hk4:=HK.out.drew.kept (row:=(Value.slice pa m.puts.length pq).ownBlock) hg4 (by intro e;exact HNE4.out _ (.inl rfl) (HM.out.puts.2 _ (by rw[HPV.out];exact e)));have hv4b:=HV.out.drew.kept (row:=(Value.slice pa m.puts.length pq).ownBlock) hg4 (by intro e;exact HNE4.out _ (.inr rfl) (HM.out.puts.2 _ (by rw[HPV.out];exact e)));have HK4:=h_ hk4;have HV4:=h_ hv4b;clear hk4 hv4b ho4 hg4 hv4;refine hK.out _ _ (HK4.out) fun hHeld=>?_;clear hK K hHeld
    (try simp only[Act.put,sA,sB,sC])
    refine tkX 9 16 ?_;refine tkX 10 17 ?_;refine tkX 11 18 ?_;simp only[sA,sB,sC]
    have c5:w4.cell? ⟨mb,397,none⟩=some (.slice pa m.puts.length pq):=by rw[HROW.out.1.cell 397 (by decide),←HPV.out];rfl
    have f5:=HROW.out.1.free 397;have hnm:mb≠w.heap.size∧mb≠w.heap.size+1:=⟨by omega,by omega⟩;refine rd1 12 fun K hK=>?_;go_simp;refine hK.out _ _ (HK4.out.other (c:=mb) (i:=397) (Ne.symm hnm.1) (.slice ra4 (withK m.puts k.s).length rq4)) fun hHeld=>?_;clear hK K hHeld c5 f5
    (try simp only[Act.put,sA,sB,sC])
    refine wpAnyH_done (by kernel_rfl) ?_ _;have HM6:=h_ HROW.out.2.1;have HF6:=h_ (HF.out.drew.then HROW.out.2.2);have HK6:=h_ (HK4.out.other (c:=mb) (i:=397) (Ne.symm hnm.1) (.slice ra4 (withK m.puts k.s).length rq4));have HV6:=h_ (HV4.out.other (c:=mb) (i:=397) (Ne.symm hnm.2) (.slice ra4 (withK m.puts k.s).length rq4));have HB6:=h_ (HM.out.drew.below HBW.out.drew HROW.out.2.2);clear HROW HK4 HV4 HM HF HK HV HBW HS0;generalize hW:w4.setCell ⟨mb,397,none⟩ (.slice ra4 (withK m.puts k.s).length rq4)=w6 at HM6 HF6 HK6 HV6 HB6 ⊢;clear hW;generalize hS1:addB S (.slice ra4 (withK m.puts k.s).length rq4)=S1 at HM6 HF6 HSN;clear hS1;obtain⟨oa,oc,hov⟩:=own_sl HM6.out.own.1;have HOV:=h_ (show R.ov=.slice oa m.own.length oc from hov)
    have c0:w6.cell? ⟨mb,392,none⟩=some (.slice oa m.own.length oc):=by rw[←HOV.out];exact HM6.out.tl 0 (by decide)
    clear hov
    have hOC:CellsAt w6 (.slice oa m.own.length oc) m.own.length (prLs m.own):=by
     have ho:w6.ownsRow W0.heap.size 55 4 R.ov m.own.length (prLs m.own):=HM6.out.own.1;rw[HOV.out]at ho;exact own_prAt ho
    have HOC:=h_ hOC;clear hOC;obtain⟨ix,hix⟩:=ex_ (idxP (keyP k.s) m.own);have HIX:=h_ hix;clear hix;have hmf:∀(fn:Fn) (first cap:Array Value) (w:World),(Instr.makeFunc fn first cap).run prog w=.ok (.func fn first cap) w:=fun _ _ _ _=>rfl;go_wp2_with fail;refine(idxKey_any oa oc m.own w.heap.size k _ (by omega) HK6.out HOC.out).mono ?_;rw[HIX.out];rintro er w7 ⟨rfl,hb7⟩;have HM6:=HM6.out.k hb7;have HK6:=HK6.out.k hb7;have HV6:=HV6.out.k hb7;have HF6:=h_ (HF6.out.then (FrS.of_below hb7));have HB6:=h_ (btrans HB6.out HB6.out.size hb7);clear hb7 c0 HOC hmf;by_cases hfx:m.own.findIdx (keyP k.s)<m.own.length;rotate_left
    ·have hi1:ix = -1:=HIX.out.symm.trans (idx_lost hfx)
     subst hi1;have HST:=h_ (show storeM F k v m={ m with puts:=withK m.puts k.s,own:=m.own++[⟨k.s,v⟩] } from by rw[HRE.out,setP_lost hfx]);clear hfx HIX HRE;obtain⟨i0,hi,hz0,hz1,hz2⟩:=info_parts infoPr
     have c0:w7.cell? ⟨mb,392,none⟩=some (.slice oa m.own.length oc):=by rw[←HOV.out];exact HM6.out.tl 0 (by decide)
     have HC0:=h_ c0;clear c0;go_upto_region 4 with (fail);have HS0:=h_ (show ((fun w'=>Bx w.heap.size #[.int .i64 k.k,.int .i64 k.n,.string (bs k.s)] 52 w'∧Bx (w.heap.size+1) #[.int .i64 v.k,.int .i64 v.n,.string (bs v.s)] 52 w')) w7.drew from⟨HK6.out,HV6.out⟩);refine wp_region_held_drew (S:=(fun w'=>Bx w.heap.size #[.int .i64 k.k,.int .i64 k.n,.string (bs k.s)] 52 w'∧Bx (w.heap.size+1) #[.int .i64 v.k,.int .i64 v.n,.string (bs v.s)] 52 w')) (by kernel_rfl) ?_ (fun hHeld=>?_)
     ·exact HS0.out
     refine tkX 0 27 ?_;refine tkX 1 28 ?_;refine tkX 2 29 ?_;refine tkX 3 30 ?_;refine tkX 5 32 ?_;refine tkY 6 (v:=?vv42) 33 ?yy42 ?_
     case yy42 =>
      intro wq hSw;obtain⟨d0,d1,d2⟩:=hSw.1.c3;clear hSw;go_simp
      (try with_reducible rfl)
     refine tkY 7 (v:=?vv43) 34 ?yy43 ?_
     case yy43 =>
      intro wq hSw;obtain⟨d0,d1,d2⟩:=hSw.2.c3;clear hSw;go_simp
      (try with_reducible rfl)
     refine tkX 8 35 ?_;simp only[sA,sB,sC];refine wpAnyH_ready (rs:=[4,9]) (by kernel_rfl) (by simp) ?_;refine(AllReadyH.cons rfl (fun K hK=>?_) (AllReadyH.cons rfl (fun K hK=>?_) AllReadyH.nil));have d0:w7.cell? ⟨mb,392,none⟩=some (.slice oa m.own.length oc):=HC0.out;go_simp;skip;refine hK.out _ _ (hHeld) fun hHeld=>?_;clear hK K
     (try simp only[Act.put,sA,sB,sC])
     refine rd1 9 fun K hK=>?_;go_simp;skip
     focus (try go_wp2_with fail)
     refine hK.out _ _ (⟨hHeld.1.alloc _,hHeld.2.alloc _⟩) fun hHeld=>?_;clear hK K
     (try simp only[Act.put,sA,sB,sC])
     rotate_left;go_simp;skip
     focus (try go_wp2_with fail)
     refine hK.out _ _ (⟨hHeld.1.alloc _,hHeld.2.alloc _⟩) fun hHeld=>?_;clear hK K
     (try simp only[Act.put,sA,sB,sC])
     refine rd1 4 fun K hK=>?_;have d0:(w7.alloc (.cells #[.string (bs k.s),.int .i64 v.k,.int .i64 v.n,.string (bs v.s)] 55)).cell? ⟨mb,392,none⟩=some (.slice oa m.own.length oc):=cell1_below HC0.out ((Below.refl w7.heap.size w7).alloc (Nat.le_refl _) (.cells #[.string (bs k.s),.int .i64 v.k,.int .i64 v.n,.string (bs v.s)] 55));go_simp;skip;refine hK.out _ _ (hHeld) fun hHeld=>?_;clear hK K
     (try simp only[Act.put,sA,sB,sC])
     all_goals
      have HMA:=h_ (VMB.drew (HM6.out.call ((Below.refl w7.heap.size w7).alloc (Nat.le_refl _) (.cells #[.string (bs k.s),.int .i64 v.k,.int .i64 v.n,.string (bs v.s)] 55))));have HFA:=h_ (FrS.drew (HF6.out.then (FrS.of_below (S:=S1) ((Below.refl w7.heap.size w7).alloc (Nat.le_refl _) (.cells #[.string (bs k.s),.int .i64 v.k,.int .i64 v.n,.string (bs v.s)] 55)))));have HKA:=h_ (HK6.out.alloc (.cells #[.string (bs k.s),.int .i64 v.k,.int .i64 v.n,.string (bs v.s)] 55)).drew;have HVA:=h_ (HV6.out.alloc (.cells #[.string (bs k.s),.int .i64 v.k,.int .i64 v.n,.string (bs v.s)] 55)).drew;have HNW:=h_ (Bx.new w7 #[.string (bs k.s),.int .i64 v.k,.int .i64 v.n,.string (bs v.s)] 55).drew;clear hHeld;generalize hW:(w7.alloc (.cells #[.string (bs k.s),.int .i64 v.k,.int .i64 v.n,.string (bs v.s)] 55)).drew=u1 at HMA HFA HKA HVA HNW ⊢;clear hW;obtain⟨nb,hnb⟩:=ex_ (w7.heap.size);rw[hnb]at HNW
      (try rw[hnb])
      have hone:∀y∈prL ⟨k.s,v⟩,y.oneCell'=true:=by intro y hy;simp only[prL,List.mem_cons,List.not_mem_nil,or_false]at hy;rcases hy with rfl|rfl|rfl|rfl<;>rfl
      have hoA:=HMA.out.own.1;simp only[HOV.out]at hoA
      have hBu:W0.heap.size≤u1.heap.size:=by have:=HMA.out.rng mb HMA.out.mS;omega
      refine rd1 10 fun K hK=>?_;refine step_append_lies u1 (by rfl) _ _ 32 (by rfl) W0.heap.size 55 i0 (.agg #[.string ⟨#[]⟩,.int .i64 0,.int .i64 0,.string ⟨#[]⟩]) 4 48 underlying32 hi hz0 hz1 hz2 rfl (by decide) (.slice oa m.own.length oc) m.own.length (prLs m.own) (by rfl) hoA ⟨nb,0,none⟩ 1 1 (prL ⟨k.s,v⟩) (by rfl) rfl (World.news_of_block HNW.out) hone (by decide) (by unfold maxLen;omega) (by omega) hBu _ rfl ?_;intro g5 cap5 w8 hown5 hgrow hat hlt5;have hrow:=HMA.out.rowOwn (W':=w8) (.slice (some ⟨g5,0,none⟩) (m.own.length+1) cap5) (m.own++[⟨k.s,v⟩]) (by show u1.grownBy w8 R.ov.ownBlock;rw[HOV.out];exact hgrow) (by rw[prLs_snoc,List.length_append];exact hown5) (by show _=R.ov.ownBlock∨_;rw[HOV.out];rcases hat with q|q;exact .inl q.symm;exact .inr ⟨g5,rfl,by omega⟩);have HROW:=h_ hrow;clear hrow;skip;have hk8:=HKA.out.kept (row:=(Value.slice oa m.own.length oc).ownBlock) hgrow (fun e=>absurd (HMA.out.own.2 _ (show R.ov.ownBlock=_ by rw[HOV.out];exact e)) (HSN.out _ (.inl rfl)));have hv8:=HVA.out.kept (row:=(Value.slice oa m.own.length oc).ownBlock) hgrow (fun e=>absurd (HMA.out.own.2 _ (show R.ov.ownBlock=_ by rw[HOV.out];exact e)) (HSN.out _ (.inr rfl)))
      have c0:w8.cell? ⟨mb,392,none⟩=some (.slice oa m.own.length oc):=by rw[HROW.out.1.cell 392 (by decide),←HOV.out];rfl
      have f0:=HROW.out.1.free 392;refine hK.out _ _ (⟨hk8,hv8⟩) fun hHeld=>?_;clear hK K;simp only[Act.put,List.setIfInBounds_toArray];refine tkX 11 38 ?_;refine tkX 12 39 ?_;simp only[sA,sB,sC];refine rd1 13 fun K hK=>?_;go_simp;refine hK.out _ _ (⟨hk8.other (c:=mb) (i:=392) (Ne.symm hnm.1) _,hv8.other (c:=mb) (i:=392) (Ne.symm hnm.2) _⟩) fun hHeld=>?_;clear hK K hHeld c0 f0
      (try simp only[Act.put,sA,sB,sC])
      refine wpAnyH_done (by kernel_rfl) ?_ _;have HM9:=h_ HROW.out.2.1;have HF9:=h_ (HFA.out.then HROW.out.2.2);clear HROW hk8 hv8;generalize hW:w8.setCell ⟨mb,392,none⟩ (.slice (some ⟨g5,0,none⟩) (m.own.length+1) cap5)=w9 at HM9 HF9 ⊢;clear hW;go_wp2;exact⟨(by first|exact True.intro|rfl),.tuple #[],results_none rfl _ _ _,rfl,_,_,by rw[HST.out];exact HM9.out,HF9.out⟩
    have hi1:ix=(m.own.findIdx (keyP k.s):Int):=HIX.out.symm.trans (idx_found hfx);have HST:=h_ (show storeM F k v m={ m with puts:=withK m.puts k.s,own:=m.own.set (m.own.findIdx (keyP k.s)) ⟨k.s,v⟩ } from by rw[HRE.out,setP_found hfx]);have hkx:keyP k.s m.own[m.own.findIdx (keyP k.s)]=true:=List.findIdx_getElem (w:=hfx);obtain⟨x,hx⟩:=ex_ (m.own.findIdx (keyP k.s));simp only[hx]at hi1 hkx
    have hxl:x<m.own.length:=by rw[←hx];exact hfx
    rw[hx]at HST;subst hi1;have HKX:=h_ (show m.own[x].key=k.s from by have:=hkx;unfold keyP at this;simpa using this);clear hfx HIX HRE hkx hx;have hxi:(0:Int)≤(x:Int)∧(x:Int)<(m.own.length:Int):=⟨by omega,by omega⟩
    have hx0:¬(x:Int)<0:=by omega
    obtain⟨g,hoa⟩:∃g,oa=some ⟨g,0,none⟩:=by
     have ho:w7.ownsRow W0.heap.size 55 4 R.ov m.own.length (prLs m.own):=HM6.out.own.1;rw[HOV.out]at ho;rcases ho.2 with ⟨h1,h2⟩|⟨g,cap,cur,h1,_⟩
     ·omega
     ·exact⟨g,by injection h1⟩
    subst hoa
    obtain⟨cur,hgb⟩:∃cur,Bx g cur 55 w7:=by
     have ho:w7.ownsRow W0.heap.size 55 4 R.ov m.own.length (prLs m.own):=HM6.out.own.1;rw[HOV.out]at ho;rcases ho.2 with ⟨h1,h2⟩|⟨g,cap,cur,h1,_,h3,_⟩
     ·omega
     ·cases h1;exact⟨cur,h3⟩
    have HGB:=h_ hgb;clear hgb
    have hOC:CellsAt w7 (.slice (some ⟨g,0,none⟩) m.own.length oc) m.own.length (prLs m.own):=by
     have ho:w7.ownsRow W0.heap.size 55 4 R.ov m.own.length (prLs m.own):=HM6.out.own.1;rw[HOV.out]at ho;exact own_prAt ho
    obtain⟨gg,off,hgg,-,p1,p2,p3⟩:=pr_cells hOC hxl;cases hgg;rw[Nat.zero_add]at p1 p2 p3;have HP3:=h_ (And.intro p1 (And.intro p2 p3));clear p1 p2 p3 hOC
    have c0:w7.cell? ⟨mb,392,none⟩=some (.slice (some ⟨g,0,none⟩) m.own.length oc):=by rw[←HOV.out];exact HM6.out.tl 0 (by decide)
    have HS0:=h_ (show ((fun w'=>w'.cell? ⟨mb,392,none⟩=some (.slice (some ⟨g,0,none⟩) m.own.length oc)∧Bx (w.heap.size+1) #[.int .i64 v.k,.int .i64 v.n,.string (bs v.s)] 52 w')) w7.drew from⟨c0,HV6.out⟩);clear c0;go_upto_region 5 with (fail);refine wp_region_held_drew (S:=(fun w'=>w'.cell? ⟨mb,392,none⟩=some (.slice (some ⟨g,0,none⟩) m.own.length oc)∧Bx (w.heap.size+1) #[.int .i64 v.k,.int .i64 v.n,.string (bs v.s)] 52 w')) (by kernel_rfl) ?_ (fun hHeld=>?_)
    ·exact HS0.out
    refine tkX 0 40 ?_;refine tkX 1 41 ?_;refine tkX 2 42 ?_;refine tkY 3 (v:=?vv50) 43 ?yy50 ?_
    case yy50 =>
     intro wq hSw;have d0:=hSw.1;clear hSw;go_simp
     (try with_reducible rfl)
    refine tkX 4 44 ?_;refine tkY 5 (v:=?vv52) 45 ?yy52 ?_
    case yy52 =>
     intro wq hSw;obtain⟨d0,d1,d2⟩:=hSw.2.c3;clear hSw;go_simp
     (try with_reducible rfl)
    refine tkX 6 46 ?_;refine tkX 7 47 ?_;simp only[sA,sB,sC];refine rd1 8 fun K hK=>?_;obtain⟨p1,p2,p3⟩:=HP3.out;have f1:=HGB.out.free (x * 4+1);have f2:=HGB.out.free (x * 4+2);have f3:=HGB.out.free (x * 4+3);have f2b:=HGB.out.free (x * 4+1+1);have f3b:=HGB.out.free (x * 4+1+2);have p2b:w7.cell? ⟨g,x * 4+1+1,none⟩=_:=p2;have p3b:w7.cell? ⟨g,x * 4+1+2,none⟩=_:=p3;go_simp;have hset:=HM6.out.ownSet HOV.out hxl v;rw[HKX.out]at hset;have HSET:=h_ hset;clear hset
    have hgn:w.heap.size+1≠g:=by intro e;exact HSN.out _ (.inr rfl) (HM6.out.own.2 _ (by rw[HOV.out,e];rfl))
    have hgm:mb≠g:=by intro e;exact HM6.out.bf.row_ne HM6.out.own.1 (by decide) (by rw[HOV.out,e];rfl)
    have HSF:=h_ (show ((fun w'=>w'.cell? ⟨mb,392,none⟩=some (.slice (some ⟨g,0,none⟩) m.own.length oc)∧Bx (w.heap.size+1) #[.int .i64 v.k,.int .i64 v.n,.string (bs v.s)] 52 w')) (((w7.setCell ⟨g,x * 4+1,none⟩ (.int .i64 v.k)).setCell ⟨g,x * 4+1+1,none⟩ (.int .i64 v.n)).setCell ⟨g,x * 4+1+2,none⟩ (.string (bs v.s))) from⟨by rw[HSET.out.1.bf.cell 392 (by decide),←HOV.out];rfl,((HV6.out.other (c:=g) (i:=x * 4+1) hgn _).other (c:=g) (i:=x * 4+1+1) hgn _).other (c:=g) (i:=x * 4+1+2) hgn _⟩);refine hK.out _ _ (HSF.out) fun hHeld=>?_;clear hK K hHeld p1 p2 p3 p2b p3b f1 f2 f3 f2b f3b
    (try simp only[Act.put,sA,sB,sC])
    refine wpAnyH_done (by kernel_rfl) ?_ _;have HM9:=h_ HSET.out.1.drew;have HF9:=h_ (HF6.out.then HSET.out.2).drew;clear HSET HSF;generalize hW:World.drew (((w7.setCell ⟨g,x * 4+1,none⟩ (.int .i64 v.k)).setCell ⟨g,x * 4+1+1,none⟩ (.int .i64 v.n)).setCell ⟨g,x * 4+1+2,none⟩ (.string (bs v.s)))=w9 at HM9 HF9 ⊢;clear hW;go_wp2;exact⟨(by first|exact True.intro|rfl),.tuple #[],results_none rfl _ _ _,rfl,_,_,by rw[HST.out];exact HM9.out,HF9.out⟩
theorem cells3_al{W:World}{b i:Nat}{o:Obj}{u0 u1 u2:Value}(h:W.cell? ⟨b,i,none⟩=some u0∧W.cell? ⟨b,i+1,none⟩=some u1∧W.cell? ⟨b,i+2,none⟩=some u2):(W.alloc o).cell? ⟨b,i,none⟩=some u0∧(W.alloc o).cell? ⟨b,i+1,none⟩=some u1∧(W.alloc o).cell? ⟨b,i+2,none⟩=some u2:=by
 have hb:=(Below.refl W.heap.size W).alloc (Nat.le_refl _) o;exact⟨cell1_below h.1 hb,cell1_below h.2.1 hb,cell1_below h.2.2 hb⟩
theorem cells3_st{W:World}{b i c:Nat}{u0 u1 u2:Value}(hne:c≠b)(h:W.cell? ⟨b,i,none⟩=some u0∧W.cell? ⟨b,i+1,none⟩=some u1∧W.cell? ⟨b,i+2,none⟩=some u2)(x y z:Value):
  (((W.setCell ⟨c,0,none⟩ x).setCell ⟨c,1,none⟩ y).setCell ⟨c,2,none⟩ z).cell? ⟨b,i,none⟩=some u0∧(((W.setCell ⟨c,0,none⟩ x).setCell ⟨c,1,none⟩ y).setCell ⟨c,2,none⟩ z).cell? ⟨b,i+1,none⟩=some u1∧(((W.setCell ⟨c,0,none⟩ x).setCell ⟨c,1,none⟩ y).setCell ⟨c,2,none⟩ z).cell? ⟨b,i+2,none⟩=some u2:=
 ⟨cell1_set _ hne (cell1_set _ hne (cell1_set _ hne h.1)),cell1_set _ hne (cell1_set _ hne (cell1_set _ hne h.2.1)),cell1_set _ hne (cell1_set _ hne (cell1_set _ hne h.2.2))⟩
theorem loop_any(B mb:Nat)(S:Nat→Prop)(H:Nat→Value)(m:Mc)(R:Rw)(x:Ins)(a b:Nat)(hxa:x.a=(a:Int))(hxb:x.b=(b:Int))(ha:a<64)(hb:b<64)(hn:1≤x.n∧x.n≤16)(hs:∀i,OkV (m.slo i))(w:World)(h:VMB B mb S H m R w):
  Calls prog 67 #[.pointer (some ⟨mb,0,none⟩),.agg (insV x)] w (VPost B mb S H (loopM x m) (.tuple #[]) w):=by
 simp only[insV];obtain⟨p,hp⟩:=ex_ (m.slo a);obtain⟨q,hq⟩:=ex_ (m.slo b);have hok1:=hs a;rw[hp]at hok1;have hok2:=hs b;rw[hq]at hok2;obtain⟨R0,hR0⟩:=ex_ (loopM x m);have HRR:=h_ (show (if p.k≠1∨q.k≠1 then endM 2 1009 [] m else if p.n<q.n∧x.n<q.n-p.n then endM 2 1005 [] m else m)=R0 from by rw[←hR0];unfold loopM;rw[hxa,hxb,Int.toNat_natCast,Int.toNat_natCast,hp,hq]);rw[hR0];clear hR0 hs;rw[hxa,hxb];clear hxa hxb;obtain⟨v0,hW0,hb0,hx0⟩:=boxes1 w #[.int .i64 x.op,.int .i64 (a:Int),.int .i64 (b:Int),.int .i64 x.n,.string (bs x.s)] 45;have HM:=h_ (h.call hb0);have HF:=h_ (FrS.of_below (S:=S) hb0);have HN:=h_ (show ∀j,w.heap.size≤j→¬S j from fun j hj e=>by have:=(h.rng j e).2;omega);have HW:=h_ hW0;have HX:=h_ hx0;clear hW0 hb0 hx0 h;go_enter func67,ntmps67;go_upto_region 1 with (fail);rw[HW.out];clear HW;have hla:=HM.out.lc ha;rw[hp]at hla;have hlb:=HM.out.lc hb;rw[hq]at hlb;have HP:=h_ hp;have HQ:=h_ hq;clear hp hq;go_cut [4,5] from 6 to 51 (fun s4 s5 W=>∃ab bb,s4=.pointer (some ⟨ab,0,none⟩)∧s5=.pointer (some ⟨bb,0,none⟩)∧Bx ab #[.int .i64 p.k,.int .i64 p.n,.string (bs p.s)] 52 W∧Bx bb #[.int .i64 q.k,.int .i64 q.n,.string (bs q.s)] 52 W∧Bx w.heap.size #[.int .i64 x.op,.int .i64 (a:Int),.int .i64 (b:Int),.int .i64 x.n,.string (bs x.s)] 45 W∧VMB B mb S H m R W∧FrS S S w W)
 case first =>
  have HS0:=h_ (show ((fun w'=>Bx w.heap.size #[.int .i64 x.op,.int .i64 (a:Int),.int .i64 (b:Int),.int .i64 x.n,.string (bs x.s)] 45 w'∧(w'.cell? ⟨mb,200+a * 3,none⟩=some (.int .i64 p.k)∧w'.cell? ⟨mb,200+a * 3+1,none⟩=some (.int .i64 p.n)∧w'.cell? ⟨mb,200+a * 3+2,none⟩=some (.string (bs p.s)))∧(w'.cell? ⟨mb,200+b * 3,none⟩=some (.int .i64 q.k)∧w'.cell? ⟨mb,200+b * 3+1,none⟩=some (.int .i64 q.n)∧w'.cell? ⟨mb,200+b * 3+2,none⟩=some (.string (bs q.s))))) v0.drew from⟨HX.out,hla,hlb⟩);clear hla hlb;have hxl:=HX.out.lt;have hml:=HM.out.bf.lt
  have hai:(0:Int)≤(a:Int)∧(a:Int)<64:=by omega
  have hbi:(0:Int)≤(b:Int)∧(b:Int)<64:=by omega
  refine wp_region_held_drew (S:=(fun w'=>Bx w.heap.size #[.int .i64 x.op,.int .i64 (a:Int),.int .i64 (b:Int),.int .i64 x.n,.string (bs x.s)] 45 w'∧(w'.cell? ⟨mb,200+a * 3,none⟩=some (.int .i64 p.k)∧w'.cell? ⟨mb,200+a * 3+1,none⟩=some (.int .i64 p.n)∧w'.cell? ⟨mb,200+a * 3+2,none⟩=some (.string (bs p.s)))∧(w'.cell? ⟨mb,200+b * 3,none⟩=some (.int .i64 q.k)∧w'.cell? ⟨mb,200+b * 3+1,none⟩=some (.int .i64 q.n)∧w'.cell? ⟨mb,200+b * 3+2,none⟩=some (.string (bs q.s))))) (by kernel_rfl) ?_ (fun hHeld=>?_)
  ·exact HS0.out
  refine tkX 0 6 ?_;refine tkX 1 7 ?_;refine tkY 2 (v:=?vv3) 8 ?yy3 ?_
  case yy3 =>
   intro wq hSw;obtain⟨z0,z1,z2,z3,z4⟩:=hSw.1.c5;clear hSw;go_simp
   (try with_reducible rfl)
  refine tkX 3 9 ?_;refine tkX 4 10 ?_;refine tkX 5 11 ?_;refine tkY 6 (v:=?vv7) 12 ?yy7 ?_
  case yy7 =>
   intro wq hSw;obtain⟨z0,z1,z2⟩:=hSw.2.1;clear hSw;go_simp
   (try with_reducible rfl)
  refine tkX 7 13 ?_;refine tkX 8 14 ?_;refine tkY 9 (v:=?vv10) 15 ?yy10 ?_
  case yy10 =>
   intro wq hSw;obtain⟨z0,z1,z2,z3,z4⟩:=hSw.1.c5;clear hSw;go_simp
   (try with_reducible rfl)
  refine tkX 10 16 ?_;refine tkX 11 17 ?_;refine tkX 12 18 ?_;refine tkY 13 (v:=?vv14) 19 ?yy14 ?_
  case yy14 =>
   intro wq hSw;obtain⟨z0,z1,z2⟩:=hSw.2.2;clear hSw;go_simp
   (try with_reducible rfl)
  simp only[sA,sB,sC];refine wpAnyH_ready (rs:=[14,15]) (by kernel_rfl) (by simp) ?_;refine(AllReadyH.cons rfl (fun K hK=>?_) (AllReadyH.cons rfl (fun K hK=>?_) AllReadyH.nil))
  ·skip
   go_simp;skip
   focus (try go_wp2_with fail)
   refine hK.out _ _ (⟨hHeld.1.alloc _,cells3_al hHeld.2.1,cells3_al hHeld.2.2⟩) fun hHeld=>?_;clear hK K
   (try simp only[Act.put,sA,sB,sC])
   refine rd1 15 fun K hK=>?_;go_simp;skip
   focus (try go_wp2_with fail)
   refine hK.out _ _ (⟨hHeld.1.alloc _,cells3_al hHeld.2.1,cells3_al hHeld.2.2⟩) fun hHeld=>?_;clear hK K
   (try simp only[Act.put,sA,sB,sC])
   obtain⟨u1,hu0,hub,hu1,hu2⟩:=boxes2 v0 #[.int .i64 0,.int .i64 0,.string ⟨#[]⟩] 52 #[.int .i64 0,.int .i64 0,.string ⟨#[]⟩] 52;have HUB:=HM.out.k hub.drew;have HUF:=h_ (HF.out.then (FrS.of_below hub)).drew;have HU1:=h_ hu1.drew;have HU2:=h_ hu2.drew;clear hub hu1 hu2;rw[hu0]at hHeld;have HH:=h_ hHeld;clear hHeld;rw[hu0];clear hu0;generalize hW:u1.drew=u0 at HUB HUF HU1 HU2 HH ⊢;clear hW;obtain⟨r0,r1,r2⟩:=HU1.out.d3 0 1 2;have f0:=HU1.out.free 0;have f1:=HU1.out.free 1;have f2:=HU1.out.free 2;have HH1:=h_ (show ((fun w'=>Bx w.heap.size #[.int .i64 x.op,.int .i64 (a:Int),.int .i64 (b:Int),.int .i64 x.n,.string (bs x.s)] 45 w'∧(w'.cell? ⟨mb,200+a * 3,none⟩=some (.int .i64 p.k)∧w'.cell? ⟨mb,200+a * 3+1,none⟩=some (.int .i64 p.n)∧w'.cell? ⟨mb,200+a * 3+2,none⟩=some (.string (bs p.s)))∧(w'.cell? ⟨mb,200+b * 3,none⟩=some (.int .i64 q.k)∧w'.cell? ⟨mb,200+b * 3+1,none⟩=some (.int .i64 q.n)∧w'.cell? ⟨mb,200+b * 3+2,none⟩=some (.string (bs q.s))))) (((u0.setCell ⟨v0.heap.size,0,none⟩ (.int .i64 p.k)).setCell ⟨v0.heap.size,1,none⟩ (.int .i64 p.n)).setCell ⟨v0.heap.size,2,none⟩ (.string (bs p.s))) from⟨((HH.out.1.other (c:=v0.heap.size) (i:=0) (by omega) _).other (c:=v0.heap.size) (i:=1) (by omega) _).other (c:=v0.heap.size) (i:=2) (by omega) _,cells3_st (by omega) HH.out.2.1 _ _ _,cells3_st (by omega) HH.out.2.2 _ _ _⟩);have HA1:=h_ (HU1.out.sets3 (.int .i64 p.k) (.int .i64 p.n) (.string (bs p.s)));have HB1:=h_ (((HU2.out.other (c:=v0.heap.size) (i:=0) (by omega) (.int .i64 p.k)).other (c:=v0.heap.size) (i:=1) (by omega) (.int .i64 p.n)).other (c:=v0.heap.size) (i:=2) (by omega) (.string (bs p.s)));have HM1:=h_ (vm_sets3 HUB.out v0.heap.size (HN.out _ (by omega)) (.int .i64 p.k) (.int .i64 p.n) (.string (bs p.s)));have HF1:=h_ (((HUF.out.set v0.heap.size 0 (.int .i64 p.k) (.inr (by omega))).set v0.heap.size 1 (.int .i64 p.n) (.inr (by omega))).set v0.heap.size 2 (.string (bs p.s)) (.inr (by omega)));refine rd1 16 fun K hK=>?_;go_simp;refine hK.out _ _ (HH1.out) fun hHeld=>?_;clear hK K r0 r1 r2 f0 f1 f2
   (try simp only[Act.put,sA,sB,sC])
   clear hHeld;have HA2:=h_ (((HA1.out.other (c:=(v0.heap.size+1)) (i:=0) (by omega) (.int .i64 q.k)).other (c:=(v0.heap.size+1)) (i:=1) (by omega) (.int .i64 q.n)).other (c:=(v0.heap.size+1)) (i:=2) (by omega) (.string (bs q.s)));have HB2:=h_ (HB1.out.sets3 (.int .i64 q.k) (.int .i64 q.n) (.string (bs q.s)));have HM2:=h_ (vm_sets3 HM1.out (v0.heap.size+1) (HN.out _ (by omega)) (.int .i64 q.k) (.int .i64 q.n) (.string (bs q.s)));have HF2:=h_ (((HF1.out.set (v0.heap.size+1) 0 (.int .i64 q.k) (.inr (by omega))).set (v0.heap.size+1) 1 (.int .i64 q.n) (.inr (by omega))).set (v0.heap.size+1) 2 (.string (bs q.s)) (.inr (by omega)));have HH2:=h_ (show ((fun w'=>Bx w.heap.size #[.int .i64 x.op,.int .i64 (a:Int),.int .i64 (b:Int),.int .i64 x.n,.string (bs x.s)] 45 w'∧(w'.cell? ⟨mb,200+a * 3,none⟩=some (.int .i64 p.k)∧w'.cell? ⟨mb,200+a * 3+1,none⟩=some (.int .i64 p.n)∧w'.cell? ⟨mb,200+a * 3+2,none⟩=some (.string (bs p.s)))∧(w'.cell? ⟨mb,200+b * 3,none⟩=some (.int .i64 q.k)∧w'.cell? ⟨mb,200+b * 3+1,none⟩=some (.int .i64 q.n)∧w'.cell? ⟨mb,200+b * 3+2,none⟩=some (.string (bs q.s))))) ((((((u0.setCell ⟨v0.heap.size,0,none⟩ (.int .i64 p.k)).setCell ⟨v0.heap.size,1,none⟩ (.int .i64 p.n)).setCell ⟨v0.heap.size,2,none⟩ (.string (bs p.s))).setCell ⟨(v0.heap.size+1),0,none⟩ (.int .i64 q.k)).setCell ⟨(v0.heap.size+1),1,none⟩ (.int .i64 q.n)).setCell ⟨(v0.heap.size+1),2,none⟩ (.string (bs q.s))) from⟨((HH1.out.1.other (c:=(v0.heap.size+1)) (i:=0) (by omega) _).other (c:=(v0.heap.size+1)) (i:=1) (by omega) _).other (c:=(v0.heap.size+1)) (i:=2) (by omega) _,cells3_st (by omega) HH1.out.2.1 _ _ _,cells3_st (by omega) HH1.out.2.2 _ _ _⟩);obtain⟨r0,r1,r2⟩:=HB1.out.c3;have f0:=HB1.out.free 0;have f1:=HB1.out.free 1;have f2:=HB1.out.free 2;refine rd1 17 fun K hK=>?_;go_simp;refine hK.out _ _ (HH2.out) fun hHeld=>?_;clear hK K r0 r1 r2 f0 f1 f2
   (try simp only[Act.put,sA,sB,sC])
   have HX2:=h_ HH2.out.1;clear hHeld HH1 HH2 HA1 HB1 HM1 HF1;refine wpAnyH_done (by kernel_rfl) ?_ _;go_wp2_with fail
   go_meet
   exact⟨v0.heap.size,(v0.heap.size+1),rfl,rfl,HA2.out,HB2.out,HX2.out,HM2.out,HF2.out⟩
  ·skip
   go_simp;skip
   focus (try go_wp2_with fail)
   refine hK.out _ _ (⟨hHeld.1.alloc _,cells3_al hHeld.2.1,cells3_al hHeld.2.2⟩) fun hHeld=>?_;clear hK K
   (try simp only[Act.put,sA,sB,sC])
   refine rd1 14 fun K hK=>?_;go_simp;skip
   focus (try go_wp2_with fail)
   refine hK.out _ _ (⟨hHeld.1.alloc _,cells3_al hHeld.2.1,cells3_al hHeld.2.2⟩) fun hHeld=>?_;clear hK K
   (try simp only[Act.put,sA,sB,sC])
   obtain⟨u1,hu0,hub,hu1,hu2⟩:=boxes2 v0 #[.int .i64 0,.int .i64 0,.string ⟨#[]⟩] 52 #[.int .i64 0,.int .i64 0,.string ⟨#[]⟩] 52;have HUB:=HM.out.k hub.drew;have HUF:=h_ (HF.out.then (FrS.of_below hub)).drew;have HU1:=h_ hu1.drew;have HU2:=h_ hu2.drew;clear hub hu1 hu2;rw[hu0]at hHeld;have HH:=h_ hHeld;clear hHeld;rw[hu0];clear hu0;generalize hW:u1.drew=u0 at HUB HUF HU1 HU2 HH ⊢;clear hW;obtain⟨r0,r1,r2⟩:=HU2.out.d3 0 1 2;have f0:=HU2.out.free 0;have f1:=HU2.out.free 1;have f2:=HU2.out.free 2;have HH1:=h_ (show ((fun w'=>Bx w.heap.size #[.int .i64 x.op,.int .i64 (a:Int),.int .i64 (b:Int),.int .i64 x.n,.string (bs x.s)] 45 w'∧(w'.cell? ⟨mb,200+a * 3,none⟩=some (.int .i64 p.k)∧w'.cell? ⟨mb,200+a * 3+1,none⟩=some (.int .i64 p.n)∧w'.cell? ⟨mb,200+a * 3+2,none⟩=some (.string (bs p.s)))∧(w'.cell? ⟨mb,200+b * 3,none⟩=some (.int .i64 q.k)∧w'.cell? ⟨mb,200+b * 3+1,none⟩=some (.int .i64 q.n)∧w'.cell? ⟨mb,200+b * 3+2,none⟩=some (.string (bs q.s))))) (((u0.setCell ⟨(v0.heap.size+1),0,none⟩ (.int .i64 p.k)).setCell ⟨(v0.heap.size+1),1,none⟩ (.int .i64 p.n)).setCell ⟨(v0.heap.size+1),2,none⟩ (.string (bs p.s))) from⟨((HH.out.1.other (c:=(v0.heap.size+1)) (i:=0) (by omega) _).other (c:=(v0.heap.size+1)) (i:=1) (by omega) _).other (c:=(v0.heap.size+1)) (i:=2) (by omega) _,cells3_st (by omega) HH.out.2.1 _ _ _,cells3_st (by omega) HH.out.2.2 _ _ _⟩);have HA1:=h_ (HU2.out.sets3 (.int .i64 p.k) (.int .i64 p.n) (.string (bs p.s)));have HB1:=h_ (((HU1.out.other (c:=(v0.heap.size+1)) (i:=0) (by omega) (.int .i64 p.k)).other (c:=(v0.heap.size+1)) (i:=1) (by omega) (.int .i64 p.n)).other (c:=(v0.heap.size+1)) (i:=2) (by omega) (.string (bs p.s)));have HM1:=h_ (vm_sets3 HUB.out (v0.heap.size+1) (HN.out _ (by omega)) (.int .i64 p.k) (.int .i64 p.n) (.string (bs p.s)));have HF1:=h_ (((HUF.out.set (v0.heap.size+1) 0 (.int .i64 p.k) (.inr (by omega))).set (v0.heap.size+1) 1 (.int .i64 p.n) (.inr (by omega))).set (v0.heap.size+1) 2 (.string (bs p.s)) (.inr (by omega)));refine rd1 16 fun K hK=>?_;go_simp;refine hK.out _ _ (HH1.out) fun hHeld=>?_;clear hK K r0 r1 r2 f0 f1 f2
   (try simp only[Act.put,sA,sB,sC])
   clear hHeld;have HA2:=h_ (((HA1.out.other (c:=v0.heap.size) (i:=0) (by omega) (.int .i64 q.k)).other (c:=v0.heap.size) (i:=1) (by omega) (.int .i64 q.n)).other (c:=v0.heap.size) (i:=2) (by omega) (.string (bs q.s)));have HB2:=h_ (HB1.out.sets3 (.int .i64 q.k) (.int .i64 q.n) (.string (bs q.s)));have HM2:=h_ (vm_sets3 HM1.out v0.heap.size (HN.out _ (by omega)) (.int .i64 q.k) (.int .i64 q.n) (.string (bs q.s)));have HF2:=h_ (((HF1.out.set v0.heap.size 0 (.int .i64 q.k) (.inr (by omega))).set v0.heap.size 1 (.int .i64 q.n) (.inr (by omega))).set v0.heap.size 2 (.string (bs q.s)) (.inr (by omega)));have HH2:=h_ (show ((fun w'=>Bx w.heap.size #[.int .i64 x.op,.int .i64 (a:Int),.int .i64 (b:Int),.int .i64 x.n,.string (bs x.s)] 45 w'∧(w'.cell? ⟨mb,200+a * 3,none⟩=some (.int .i64 p.k)∧w'.cell? ⟨mb,200+a * 3+1,none⟩=some (.int .i64 p.n)∧w'.cell? ⟨mb,200+a * 3+2,none⟩=some (.string (bs p.s)))∧(w'.cell? ⟨mb,200+b * 3,none⟩=some (.int .i64 q.k)∧w'.cell? ⟨mb,200+b * 3+1,none⟩=some (.int .i64 q.n)∧w'.cell? ⟨mb,200+b * 3+2,none⟩=some (.string (bs q.s))))) ((((((u0.setCell ⟨(v0.heap.size+1),0,none⟩ (.int .i64 p.k)).setCell ⟨(v0.heap.size+1),1,none⟩ (.int .i64 p.n)).setCell ⟨(v0.heap.size+1),2,none⟩ (.string (bs p.s))).setCell ⟨v0.heap.size,0,none⟩ (.int .i64 q.k)).setCell ⟨v0.heap.size,1,none⟩ (.int .i64 q.n)).setCell ⟨v0.heap.size,2,none⟩ (.string (bs q.s))) from⟨((HH1.out.1.other (c:=v0.heap.size) (i:=0) (by omega) _).other (c:=v0.heap.size) (i:=1) (by omega) _).other (c:=v0.heap.size) (i:=2) (by omega) _,cells3_st (by omega) HH1.out.2.1 _ _ _,cells3_st (by omega) HH1.out.2.2 _ _ _⟩);obtain⟨r0,r1,r2⟩:=HB1.out.c3;have f0:=HB1.out.free 0;have f1:=HB1.out.free 1;have f2:=HB1.out.free 2;refine rd1 17 fun K hK=>?_;go_simp;refine hK.out _ _ (HH2.out) fun hHeld=>?_;clear hK K r0 r1 r2 f0 f1 f2
   (try simp only[Act.put,sA,sB,sC])
   have HX2:=h_ HH2.out.1;clear hHeld HH1 HH2 HA1 HB1 HM1 HF1;refine wpAnyH_done (by kernel_rfl) ?_ _;go_wp2_with fail
   go_meet
   exact⟨(v0.heap.size+1),v0.heap.size,rfl,rfl,HA2.out,HB2.out,HX2.out,HM2.out,HF2.out⟩
 case rest =>
  obtain⟨ab,bb,rfl,rfl,h1,h2,h3,h4,h5⟩:=hcut;have HA:=h_ h1;have HB:=h_ h2;have HX:=h_ h3;have HM:=h_ h4;have HF:=h_ h5;clear h1 h2 h3 h4 h5 hla hlb;obtain⟨a0,a1,a2⟩:=HA.out.c3;obtain⟨b0,b1,b2⟩:=HB.out.c3;by_cases e1:p.k=1;rotate_left
  ·have t1:(p.k != 1)=true:=by rw[bne_iff_ne];exact e1
   have E1:=h_ e1;clear e1;have HR:=h_ (show R0=endM 2 1009 [] m from HRR.out.symm.trans (if_pos (.inl E1.out)));go_wp2_with fail;refine(vabort_any _ mb S H m R 1009 _ HM.out).mono ?_;rintro e w2 ⟨rfl,S',R',h1,h2⟩;have H1:=h_ h1;have H2:=h_ h2;clear h1 h2;go_wp2;exact⟨(by first|exact True.intro|rfl),.tuple #[],results_none rfl _ _ _,rfl,S',R',by rw[HR.out];exact H1.out,HF.out.then H2.out⟩
  have t1:(p.k != 1)=false:=by rw[e1];rfl
  by_cases e2:q.k=1;rotate_left
  ·have t2:(q.k != 1)=true:=by rw[bne_iff_ne];exact e2
   have E2:=h_ e2;clear e1 e2;have HR:=h_ (show R0=endM 2 1009 [] m from HRR.out.symm.trans (if_pos (.inr E2.out)));go_wp2_with fail;refine(vabort_any _ mb S H m R 1009 _ HM.out).mono ?_;rintro e w2 ⟨rfl,S',R',h1,h2⟩;have H1:=h_ h1;have H2:=h_ h2;clear h1 h2;go_wp2;exact⟨(by first|exact True.intro|rfl),.tuple #[],results_none rfl _ _ _,rfl,S',R',by rw[HR.out];exact H1.out,HF.out.then H2.out⟩
  have t2:(q.k != 1)=false:=by rw[e2];rfl
  have HE:=h_ (show ¬(p.k≠1∨q.k≠1) from by rintro (e|e);exact e e1;exact e e2);clear e1 e2;obtain⟨x0,x1,x2,x3,x4⟩:=HX.out.c5;obtain⟨o1,o2,o3⟩:=hok1;obtain⟨o4,o5,o6⟩:=hok2;by_cases h1:p.n<q.n;rotate_left
  ·have hh1:¬p.n<q.n:=h1
   have HR:=h_ (show R0=m from HRR.out.symm.trans ((if_neg HE.out).trans (if_neg (fun e=>hh1 e.1))));go_wp2;exact⟨(by first|exact True.intro|rfl),.tuple #[],results_none rfl _ _ _,rfl,S,R,by rw[HR.out];exact HM.out,HF.out⟩
  have hu1:IntKind.u64.wrap (IntKind.u64.wrap q.n-IntKind.u64.wrap p.n)=q.n-p.n:=by unfold IntKind.wrap;simp[IntKind.signed,IntKind.bits];omega
  have hu2:IntKind.u64.wrap x.n=x.n:=by unfold IntKind.wrap;simp[IntKind.signed,IntKind.bits];omega
  by_cases h2:x.n<q.n-p.n
  ·have HH:=h_ (And.intro h1 h2)
   have HR:=h_ (show R0=endM 2 1005 [] m from HRR.out.symm.trans ((if_neg HE.out).trans (if_pos HH.out)));go_wp2_with fail;refine(vabort_any _ mb S H m R 1005 _ HM.out).mono ?_;rintro e w2 ⟨rfl,S',R',h1,h2⟩;have H1:=h_ h1;have H2:=h_ h2;clear h1 h2;go_wp2;exact⟨(by first|exact True.intro|rfl),.tuple #[],results_none rfl _ _ _,rfl,S',R',by rw[HR.out];exact H1.out,HF.out.then H2.out⟩
  have hh2:¬x.n<q.n-p.n:=h2;have HR:=h_ (show R0=m from HRR.out.symm.trans ((if_neg HE.out).trans (if_neg (fun e=>hh2 e.2))));go_wp2;exact⟨(by first|exact True.intro|rfl),.tuple #[],results_none rfl _ _ _,rfl,S,R,by rw[HR.out];exact HM.out,HF.out⟩
end Go.Proofs.YtnglaegofhpleaaGreatDoor
