/- What the claim needs, part 1. No conditions. -/
import Derived.Test.YtnglaegofhpleaaGreatDoorRows
import Derived.WalkKit
import Derived.WalkSpells
import Derived.WalkLawsBesides
import Derived.Lib.SlBytesRow
import Derived.Lib.Hide
import Derived.Deep.RegionHeld3
import Derived.Outline
import Derived.Deep.Cut
import Derived.Deep.CutRange
import Derived.Deep.DeepCutAuto
import Derived.Deep.RegionLaw
import Derived.Lib.ParseIntBTie
import Derived.Lib.ItoaLen
import Derived.Shelf.Small.Strs
import Derived.Shelf.Small.Wraps
import Derived.Shelf.Strconv.Itoa0
import Derived.Shelf.Strconv.Itoa1
import Derived.Shelf.LaysM
import Derived.Shelf.Strconv.Itoa2
import Derived.Shelf.Strconv.Itoa3
import Derived.Shelf.Strconv.Itoa4
import Derived.Shelf.Strings.Fields
import Derived.Shelf.Slices.Turned
import Derived.Lib.SmallJoins
import Derived.Lib.AppendIntMem
import Derived.Lib.Builder
import Derived.Lib.AppendStr
import Derived.Lib.UnsafeStr
import Derived.Laws.Externs
import Derived.Laws.AppendOwnNone
import Derived.Deep.DeepAppendWide
import Derived.Laws.RangeAny
import Derived.Lib.IndexLaws
import Derived.Lib.LaidTab
import Derived.Deep.MidRow
import Derived.Shelf.Spec.SlicesInsert
import Derived.Shelf.Spec.SlicesInsertGrow
import Derived.Shelf.Spec.SearchS
import Derived.OrdersIn
import Derived.TacticsIn
import Derived.BigQuiet
import Derived.Tactics
import Derived.Tactics2
import Derived.Defers
import Derived.Recover
import Derived.Laws.Pointers
import Derived.Deep.AppendLies
import Derived.Laws.ResultCell
import Derived.Laws.CopyOwn
import Derived.Stop.LaidErr
import Derived.LaidMore
import Derived.Deep.Slices
import Derived.OpenShut
import Derived.ProofKit
import Derived.SizedLaws
import Derived.SliceStrings
import Derived.HandedShaped
import Derived.Shelf.Vars
set_option maxRecDepth 100000
set_option maxHeartbeats 64000000
namespace Go.Proofs.YtnglaegofhpleaaGreatDoor
open Go.RowKit Go.Proofs.Tryz
def bs (l:List UInt8):ByteArray:=⟨l.toArray⟩
theorem bs_toList'(l:List UInt8):(bs l).toList=l:=by rw[ByteArray.toList_eq];simp[bs]
theorem bs_size(l:List UInt8):(bs l).size=l.length:=by simp[bs,ByteArray.size]
theorem bs_get(l:List UInt8)(j:Nat)(h:j<(bs l).size):(bs l)[j]=l[j]'(by rw[bs_size]at h;exact h):=rfl
theorem bs_toList(s:ByteArray):bs s.data.toList=s:=by cases s;simp[bs]
theorem toList_bs(l:List UInt8):(bs l).data.toList=l:=by simp[bs]
theorem bs_inj{a b:List UInt8}(h:bs a=bs b):a=b:=by simpa[bs] using h
theorem toList_inj{a b:ByteArray}(h:a.data.toList=b.data.toList):a=b:=by rw[←bs_toList a,←bs_toList b,h]
theorem bs_append(l r:List UInt8):bs l++bs r=bs (l++r):=by
 apply ByteArray.ext;simp[bs]
theorem toList_append(s t:ByteArray):(s++t).data.toList=s.data.toList++t.data.toList:=by simp
theorem extract_bs(s:ByteArray)(a b:Nat):s.extract a b=bs ((s.data.toList.take b).drop a):=by
 apply toList_inj;rw[Lib.extract_data,toList_bs,List.drop_take]
theorem bs_extract(l:List UInt8)(a b:Nat):(bs l).extract a b=bs ((l.take b).drop a):=by rw[extract_bs,toList_bs]
attribute [go_sem] bs_toList' bs_size bs_get bs_append bs_extract
theorem ltake_snoc(l:List UInt8)(k:Nat)(h:k<l.length):l.take (k+1)=l.take k++[l[k]]:=List.take_succ_eq_append_getElem h
theorem ltake_all(l:List UInt8){k:Nat}(h:¬k<l.length):l.take k=l:=List.take_of_length_le (by omega)
theorem ret_bs{a b:List UInt8}(h:a=b):Ending.returned (.string (bs a))=.returned (.string (bs b)):=by rw[h]
theorem bcell{W w1:World}(hb:Below W.heap.size W w1):(∀b o,b<W.heap.size→w1.cell? ⟨b,o,none⟩=W.cell? ⟨b,o,none⟩)∧(∀b o,b<W.heap.size→w1.frozen? ⟨b,o,none⟩=W.frozen? ⟨b,o,none⟩):=
 ⟨fun b o h=>hb.cell (p:=⟨b,o,none⟩) h,fun b o h=>hb.frozen (p:=⟨b,o,none⟩) h⟩
theorem btrans{B:Nat}{W w1 w2:World}(h:Below B W w1)(hB:B≤w1.heap.size)(h2:Below w1.heap.size w1 w2):Below B W w2:=h.trans (h2.mono hB)
theorem run_str_new{P:Program}(w:World)(C:Array Value)(e src dst:TypeId)(s:ByteArray)(n cap:Nat)(hs:P.underlying src=some (.slice e))(he:P.underlying e=some (.int .u8))(hd:P.underlying dst=some .string)
  (hn:s.size=n) (h:∀j (hj:j<s.size),C[j]? = some (.int .u8 (s[j].toNat:Int))):
  (convert src dst (.slice (some ⟨w.heap.size,0,none⟩) n cap)).run P (w.alloc (.cells C e))=.ok (.string s) (w.alloc (.cells C e)):=by
 subst hn;refine Lib.run_convert_whole (P:=P) _ src e dst hs he hd w.heap.size 0 s ?_ cap;intro i hi;rw[World.cell?_alloc_at _ _ _ _ rfl,Nat.zero_add];exact h i hi
def byt (v:Int):UInt8:=UInt8.ofNat v.toNat
theorem byt_toNat(v:Int)(h0:0≤v)(h1:v<256):((byt v).toNat:Int)=v:=by
 unfold byt;rw[UInt8.toNat_ofNat'];omega
theorem run_str_one{P:Program}(w:World)(v:Int)(e src dst:TypeId)(cap:Nat)(hs:P.underlying src=some (.slice e))(he:P.underlying e=some (.int .u8))(hd:P.underlying dst=some .string)
  (h0:0≤v) (h1:v<256):
  (convert src dst (.slice (some ⟨w.heap.size,0,none⟩) 1 cap)).run P (w.alloc (.cells #[.int .u8 v] e))=.ok (.string (bs [byt v])) (w.alloc (.cells #[.int .u8 v] e)):=by
 refine run_str_new w _ e src dst (bs [byt v]) 1 cap hs he hd rfl ?_;intro j hj
 have hj0:j=0:=by rw[bs_size]at hj;simp at hj;exact hj
 subst hj0;rw[bs_get];simp[byt_toNat v h0 h1]
theorem takeH{P:Program}{ops:Array Oper}{Q:Exit→Act→World→Prop}{md:Region.Mode}{S:World→Prop}{i:Nat}{oi:Oper}{v:Value}{fuel:Nat}{listed:Array Bool}{tm:Array Value}{df:List Deferred}{w:World}(d:Nat)(hi:ops[i]? = some oi)(hd:oi.dst=some d)
  (hs:Region.noSelect ops=true) (hf:Region.free md ops listed i=true) (hr:(Region.ready md ops listed).contains i=true)
  (hQ:∀c a w,Q (.panic c) (a.put (some d) v) w→Q (.panic c) a w) (hy:YieldsIf P ops S oi v ⟨tm,df⟩) (hS:S w)
  (h:wpAnyH P md ops Q S fuel (listed.setIfInBounds i true) ⟨tm.setIfInBounds d v,df⟩ w):wpAnyH P md ops Q S (fuel+1) listed ⟨tm,df⟩ w:=
 wpAnyH_take hi hs hf hr (by rw[hd];exact hQ) hy hS (by rw[hd];exact h)
theorem lt_heap{W:World}{b:Nat}{o:Obj}(h:W.heap[b]? = some o):b<W.heap.size:=by
 rcases Nat.lt_or_ge b W.heap.size with h1|h1
 ·exact h1
 ·rw[Array.getElem?_eq_none h1]at h;cases h
def Bx (b:Nat) (cs:Array Value) (T:TypeId) (W:World):Prop:=W.heap[b]? = some (.cells cs T (0,0))
theorem Bx.lt{b:Nat}{cs:Array Value}{T:TypeId}{W:World}(h:Bx b cs T W):b<W.heap.size:=lt_heap h
theorem Bx.new(w:World)(cs:Array Value)(T:TypeId):Bx w.heap.size cs T (w.alloc (.cells cs T)):=heap_alloc_new w _
theorem Bx.below{b B:Nat}{cs:Array Value}{T:TypeId}{W W':World}(h:Bx b cs T W)(hb:Below B W W')(hB:b<B):Bx b cs T W':=(hb.block _ hB).trans h
theorem Bx.call{b:Nat}{cs:Array Value}{T:TypeId}{W W':World}(h:Bx b cs T W)(hb:Below W.heap.size W W'):Bx b cs T W':=h.below hb h.lt
theorem Bx.alloc{b:Nat}{cs:Array Value}{T:TypeId}{W:World}(h:Bx b cs T W)(o:Obj):Bx b cs T (W.alloc o):=h.call ((Below.refl _ _).alloc (Nat.le_refl _) _)
theorem Bx.drew{b:Nat}{cs:Array Value}{T:TypeId}{W:World}(h:Bx b cs T W):Bx b cs T W.drew:=h
theorem Bx.cell{b:Nat}{cs:Array Value}{T:TypeId}{W:World}(h:Bx b cs T W)(i:Nat):W.cell? ⟨b,i,none⟩=cs[i]?:=by
 unfold Bx at h;simp[World.cell?,h]
theorem Bx.free{b:Nat}{cs:Array Value}{T:TypeId}{W:World}(h:Bx b cs T W)(i:Nat):W.frozen? ⟨b,i,none⟩=false:=by
 unfold Bx at h;simp[World.frozen?,h]
theorem Bx.set{b:Nat}{cs:Array Value}{T:TypeId}{W:World}(h:Bx b cs T W)(i:Nat)(v:Value):Bx b (cs.setIfInBounds i v) T (W.setCell ⟨b,i,none⟩ v):=
 heap_setCell_same W b i cs T v h
theorem Bx.other{b c i:Nat}{cs:Array Value}{T:TypeId}{W:World}(h:Bx b cs T W)(hne:b≠c)(v:Value):Bx b cs T (W.setCell ⟨c,i,none⟩ v):=
 (heap_setCell_other W ⟨c,i,none⟩ b v (fun e=>hne (by simpa using e))).trans h
theorem grown_set(w:World)(a:Addr)(u:Value):w.grownBy (w.setCell a u) (some a.block):=
 ⟨rfl,rfl,rfl,by simp,fun k _ hk=>heap_setCell_other w a k u (fun e=>hk (by rw[e]))⟩
theorem own_set{B:Nat}{e:TypeId}{k:Nat}{v:Value}{n:Nat}{xs:List Value}{w:World}(h:w.ownsRow B e k v n xs)(b i:Nat)(hb:b<B)(u:Value):(w.setCell ⟨b,i,none⟩ u).ownsRow B e k v n xs:=by
 refine h.kept (grown_set w ⟨b,i,none⟩ u) ?_
 cases hv:v.ownBlock with
 | none=>exact .inl rfl
 | some g =>
  refine .inr (fun e=>?_);have h2:=(h.lt g hv).1
  have h3:g=b:=by simpa using e
  omega
theorem Bx.drewN{b:Nat}{cs:Array Value}{T:TypeId}{W:World}(h:Bx b cs T W)(n:Nat):Bx b cs T (W.drewN n):=h
theorem bdrewN{B:Nat}{w W:World}(h:Below B w W)(n:Nat):Below B w (W.drewN n):=h.trans ⟨rfl,rfl,rfl,Nat.le_refl _,fun _ _=>rfl⟩
theorem cell1_below{W W':World}{b i:Nat}{u:Value}(h:W.cell? ⟨b,i,none⟩=some u)(hb:Below W.heap.size W W'):W'.cell? ⟨b,i,none⟩=some u:=by
 rw[(bcell hb).1 _ _ (World.block_lt_of_cell? W _ h)];exact h
theorem cell1_set{W:World}{b i c j:Nat}{u:Value}(v:Value)(h1:c≠b)(h:W.cell? ⟨b,i,none⟩=some u):(W.setCell ⟨c,j,none⟩ v).cell? ⟨b,i,none⟩=some u:=by
 rw[World.cell?_setCell_far _ _ _ _ h1];exact h
theorem Bx.new1(w:World)(a:Obj)(cs:Array Value)(T:TypeId):Bx (w.heap.size+1) cs T ((w.alloc a).alloc (.cells cs T)):=by
 have:=Bx.new (w.alloc a) cs T;simpa using this
theorem Bx.new2(w:World)(a b:Obj)(cs:Array Value)(T:TypeId):Bx (w.heap.size+2) cs T (((w.alloc a).alloc b).alloc (.cells cs T)):=by
 have:=Bx.new ((w.alloc a).alloc b) cs T;simpa using this
theorem below_set{B:Nat}{w W:World}(h:Below B w W)(b i:Nat)(hb:B≤b)(u:Value):Below B w (W.setCell ⟨b,i,none⟩ u):=h.setCell hb u
theorem Bx.sets3{b:Nat}{T:TypeId}{W:World}{z0 z1 z2:Value}(h:Bx b #[z0,z1,z2] T W)(u0 u1 u2:Value):
  Bx b #[u0,u1,u2] T (((W.setCell ⟨b,0,none⟩ u0).setCell ⟨b,1,none⟩ u1).setCell ⟨b,2,none⟩ u2):=by
 have:=((h.set 0 u0).set 1 u1).set 2 u2;simpa using this
theorem Bx.sets3_ne{b c:Nat}{cs:Array Value}{T:TypeId}{W:World}(h:Bx b cs T W)(hne:b≠c)(u0 u1 u2:Value):
  Bx b cs T (((W.setCell ⟨c,0,none⟩ u0).setCell ⟨c,1,none⟩ u1).setCell ⟨c,2,none⟩ u2):=((h.other hne u0).other hne u1).other hne u2
theorem below_sets3{B:Nat}{w W:World}(h:Below B w W)(b:Nat)(hb:B≤b)(u0 u1 u2:Value):
  Below B w (((W.setCell ⟨b,0,none⟩ u0).setCell ⟨b,1,none⟩ u1).setCell ⟨b,2,none⟩ u2):=below_set (below_set (below_set h b 0 hb u0) b 1 hb u1) b 2 hb u2
theorem h_{p:Prop}(h:p):Hid p:=Lib.hid h
theorem ex_{α:Sort _}(a:α):∃x,a=x:=⟨a,rfl⟩
theorem bt{W w1 w2:World}(h:Hid (Below W.heap.size W w1))(h2:Below w1.heap.size w1 w2):Hid (Below W.heap.size W w2):=Lib.hid (btrans h.out h.out.size h2)
theorem Bx.cl{b:Nat}{cs:Array Value}{T:TypeId}{W:World}(h:Bx b cs T W)(i:Nat){v:Value}(hv:cs.toList[i]? = some v:=by exact rfl):W.cell? ⟨b,i,none⟩=some v:=by rw[h.cell,←Array.getElem?_toList];exact hv
theorem Bx.d2{b:Nat}{cs:Array Value}{T:TypeId}{W:World}(h:Bx b cs T W)(i0 i1:Nat){v0 v1:Value}(h0:cs.toList[i0]? = some v0:=by exact rfl)(h1:cs.toList[i1]? = some v1:=by exact rfl):W.cell? ⟨b,i0,none⟩=some v0∧W.cell? ⟨b,i1,none⟩=some v1:=⟨h.cl i0 h0,h.cl i1 h1⟩
theorem Bx.d3{b:Nat}{cs:Array Value}{T:TypeId}{W:World}(h:Bx b cs T W)(i0 i1 i2:Nat){v0 v1 v2:Value}(h0:cs.toList[i0]? = some v0:=by exact rfl)(h1:cs.toList[i1]? = some v1:=by exact rfl)(h2:cs.toList[i2]? = some v2:=by exact rfl):W.cell? ⟨b,i0,none⟩=some v0∧W.cell? ⟨b,i1,none⟩=some v1∧W.cell? ⟨b,i2,none⟩=some v2:=⟨h.cl i0 h0,h.cl i1 h1,h.cl i2 h2⟩
theorem Bx.d4{b:Nat}{cs:Array Value}{T:TypeId}{W:World}(h:Bx b cs T W)(i0 i1 i2 i3:Nat){v0 v1 v2 v3:Value}(h0:cs.toList[i0]? = some v0:=by exact rfl)(h1:cs.toList[i1]? = some v1:=by exact rfl)(h2:cs.toList[i2]? = some v2:=by exact rfl)(h3:cs.toList[i3]? = some v3:=by exact rfl):W.cell? ⟨b,i0,none⟩=some v0∧W.cell? ⟨b,i1,none⟩=some v1∧W.cell? ⟨b,i2,none⟩=some v2∧W.cell? ⟨b,i3,none⟩=some v3:=⟨h.cl i0 h0,h.cl i1 h1,h.cl i2 h2,h.cl i3 h3⟩
theorem Bx.d5{b:Nat}{cs:Array Value}{T:TypeId}{W:World}(h:Bx b cs T W)(i0 i1 i2 i3 i4:Nat){v0 v1 v2 v3 v4:Value}(h0:cs.toList[i0]? = some v0:=by exact rfl)(h1:cs.toList[i1]? = some v1:=by exact rfl)(h2:cs.toList[i2]? = some v2:=by exact rfl)(h3:cs.toList[i3]? = some v3:=by exact rfl)(h4:cs.toList[i4]? = some v4:=by exact rfl):W.cell? ⟨b,i0,none⟩=some v0∧W.cell? ⟨b,i1,none⟩=some v1∧W.cell? ⟨b,i2,none⟩=some v2∧W.cell? ⟨b,i3,none⟩=some v3∧W.cell? ⟨b,i4,none⟩=some v4:=⟨h.cl i0 h0,h.cl i1 h1,h.cl i2 h2,h.cl i3 h3,h.cl i4 h4⟩
theorem Bx.d6{b:Nat}{cs:Array Value}{T:TypeId}{W:World}(h:Bx b cs T W)(i0 i1 i2 i3 i4 i5:Nat){v0 v1 v2 v3 v4 v5:Value}(h0:cs.toList[i0]? = some v0:=by exact rfl)(h1:cs.toList[i1]? = some v1:=by exact rfl)(h2:cs.toList[i2]? = some v2:=by exact rfl)(h3:cs.toList[i3]? = some v3:=by exact rfl)(h4:cs.toList[i4]? = some v4:=by exact rfl)(h5:cs.toList[i5]? = some v5:=by exact rfl):W.cell? ⟨b,i0,none⟩=some v0∧W.cell? ⟨b,i1,none⟩=some v1∧W.cell? ⟨b,i2,none⟩=some v2∧W.cell? ⟨b,i3,none⟩=some v3∧W.cell? ⟨b,i4,none⟩=some v4∧W.cell? ⟨b,i5,none⟩=some v5:=⟨h.cl i0 h0,h.cl i1 h1,h.cl i2 h2,h.cl i3 h3,h.cl i4 h4,h.cl i5 h5⟩
theorem Bx.d7{b:Nat}{cs:Array Value}{T:TypeId}{W:World}(h:Bx b cs T W)(i0 i1 i2 i3 i4 i5 i6:Nat){v0 v1 v2 v3 v4 v5 v6:Value}(h0:cs.toList[i0]? = some v0:=by exact rfl)(h1:cs.toList[i1]? = some v1:=by exact rfl)(h2:cs.toList[i2]? = some v2:=by exact rfl)(h3:cs.toList[i3]? = some v3:=by exact rfl)(h4:cs.toList[i4]? = some v4:=by exact rfl)(h5:cs.toList[i5]? = some v5:=by exact rfl)(h6:cs.toList[i6]? = some v6:=by exact rfl):W.cell? ⟨b,i0,none⟩=some v0∧W.cell? ⟨b,i1,none⟩=some v1∧W.cell? ⟨b,i2,none⟩=some v2∧W.cell? ⟨b,i3,none⟩=some v3∧W.cell? ⟨b,i4,none⟩=some v4∧W.cell? ⟨b,i5,none⟩=some v5∧W.cell? ⟨b,i6,none⟩=some v6:=⟨h.cl i0 h0,h.cl i1 h1,h.cl i2 h2,h.cl i3 h3,h.cl i4 h4,h.cl i5 h5,h.cl i6 h6⟩
theorem Bx.d8{b:Nat}{cs:Array Value}{T:TypeId}{W:World}(h:Bx b cs T W)(i0 i1 i2 i3 i4 i5 i6 i7:Nat){v0 v1 v2 v3 v4 v5 v6 v7:Value}(h0:cs.toList[i0]? = some v0:=by exact rfl)(h1:cs.toList[i1]? = some v1:=by exact rfl)(h2:cs.toList[i2]? = some v2:=by exact rfl)(h3:cs.toList[i3]? = some v3:=by exact rfl)(h4:cs.toList[i4]? = some v4:=by exact rfl)(h5:cs.toList[i5]? = some v5:=by exact rfl)(h6:cs.toList[i6]? = some v6:=by exact rfl)(h7:cs.toList[i7]? = some v7:=by exact rfl):W.cell? ⟨b,i0,none⟩=some v0∧W.cell? ⟨b,i1,none⟩=some v1∧W.cell? ⟨b,i2,none⟩=some v2∧W.cell? ⟨b,i3,none⟩=some v3∧W.cell? ⟨b,i4,none⟩=some v4∧W.cell? ⟨b,i5,none⟩=some v5∧W.cell? ⟨b,i6,none⟩=some v6∧W.cell? ⟨b,i7,none⟩=some v7:=⟨h.cl i0 h0,h.cl i1 h1,h.cl i2 h2,h.cl i3 h3,h.cl i4 h4,h.cl i5 h5,h.cl i6 h6,h.cl i7 h7⟩
theorem Bx.k{b:Nat}{cs:Array Value}{T:TypeId}{W W':World}(h:Bx b cs T W)(hb:Below W.heap.size W W'):Hid (Bx b cs T W'):=Lib.hid (h.call hb)
theorem sA{α:Type _}{l:List α}{i:Nat}{x:α}:(l.toArray).setIfInBounds i x=(l.set i x).toArray:=List.setIfInBounds_toArray ..
theorem sB{α:Type _}{x y:α}{l:List α}:(x::l).set 0 y=y::l:=List.set_cons_zero
theorem sC{α:Type _}{x y:α}{l:List α}{n:Nat}:(x::l).set (n+1) y=x::l.set n y:=List.set_cons_succ
theorem tkY{P:Program}{ops:Array Oper}{Q:Exit→Act→World→Prop}{md:Region.Mode}{S:World→Prop}(i:Nat){oi:Oper}{v:Value}{fuel:Nat}{listed:Array Bool}{tm:Array Value}{df:List Deferred}{w:World}(d:Nat)
  (hy:∀w,S w→(execOp (Act.mk tm df).eval oi).run P w=.ok (.value v) w) (h:wpAnyH P md ops Q S fuel (listed.setIfInBounds i true) ⟨tm.setIfInBounds d v,df⟩ w)
  (hi:ops[i]? = some oi:=by exact rfl) (hd:oi.dst=some d:=by exact rfl) (hs:Region.noSelect ops=true:=by kernel_rfl) (hf:Region.free md ops listed i=true:=by kernel_rfl) (hr:(Region.ready md ops listed).contains i=true:=by kernel_rfl)
  (hw:Region.wanted oi (yielded ops tm)=true:=by kernel_rfl) (hQ:∀c (a:Act) w,Q (.panic c) (a.put (some d) v) w→Q (.panic c) a w:=by exact fun _ _ _ h=>h) (hS:S w:=by assumption):wpAnyH P md ops Q S (fuel+1) listed ⟨tm,df⟩ w:=
 takeH d hi hd hs hf hr hQ (Or.inl ⟨hw,hy⟩) hS h
theorem tkX{P:Program}{ops:Array Oper}{Q:Exit→Act→World→Prop}{md:Region.Mode}{S:World→Prop}(i:Nat){oi:Oper}{v:Value}{fuel:Nat}{listed:Array Bool}{tm:Array Value}{df:List Deferred}{w:World}(d:Nat)
  (h:wpAnyH P md ops Q S fuel (listed.setIfInBounds i true) ⟨tm.setIfInBounds d v,df⟩ w)
  (hi:ops[i]? = some oi:=by exact rfl) (hd:oi.dst=some d:=by exact rfl) (hs:Region.noSelect ops=true:=by kernel_rfl) (hf:Region.free md ops listed i=true:=by kernel_rfl) (hr:(Region.ready md ops listed).contains i=true:=by kernel_rfl)
  (hw:Region.wanted oi (yielded ops tm)=true:=by kernel_rfl) (hQ:∀c (a:Act) w,Q (.panic c) (a.put (some d) v) w→Q (.panic c) a w:=by exact fun _ _ _ h=>h) (hS:S w:=by assumption)
  (hy:∀w,S w→(execOp (Act.mk tm df).eval oi).run P w=.ok (.value v) w:=by intro w hSw;(try dsimp only at hSw);go_simp;(try with_reducible rfl)):wpAnyH P md ops Q S (fuel+1) listed ⟨tm,df⟩ w:=
 takeH d hi hd hs hf hr hQ (Or.inl ⟨hw,hy⟩) hS h
theorem tkZ{P:Program}{ops:Array Oper}{Q:Exit→Act→World→Prop}{md:Region.Mode}{S:World→Prop}(i:Nat){oi:Oper}{fuel:Nat}{listed:Array Bool}{tm:Array Value}{df:List Deferred}{w:World}(d:Nat)
  (h:wpAnyH P md ops Q S fuel (listed.setIfInBounds i true) ⟨tm.setIfInBounds d undef,df⟩ w)
  (hi:ops[i]? = some oi:=by exact rfl) (hd:oi.dst=some d:=by exact rfl) (hs:Region.noSelect ops=true:=by kernel_rfl) (hf:Region.free md ops listed i=true:=by kernel_rfl) (hr:(Region.ready md ops listed).contains i=true:=by kernel_rfl)
  (hw:Region.wanted oi (yielded ops tm)=false:=by kernel_rfl) (hQ:∀c (a:Act) w,Q (.panic c) (a.put (some d) undef) w→Q (.panic c) a w:=by exact fun _ _ _ h=>h) (hS:S w:=by assumption):wpAnyH P md ops Q S (fuel+1) listed ⟨tm,df⟩ w:=
 takeH d hi hd hs hf hr hQ (Or.inr ⟨hw,rfl⟩) hS h
theorem rd1{P:Program}{ops:Array Oper}{Q:Exit→Act→World→Prop}{md:Region.Mode}{S:World→Prop}(i:Nat){o:Oper}{fuel:Nat}{listed:Array Bool}{a:Act}{w:World}
  (h:∀K':Act→World→Prop,Shut (∀a w,S w→(S w→wpAnyH P md ops Q S fuel (listed.setIfInBounds i true) a w)→K' a w)→if Region.wanted o (yielded ops a.tmps)=true then Oper.wp P o a w K' Q else K' (a.put o.dst undef) w)
  (ho:ops[i]? = some o:=by exact rfl) (hr:Region.ready md ops listed=[i]:=by kernel_rfl):wpAnyH P md ops Q S (fuel+1) listed a w:=wpAnyH_ready hr (by simp) (AllReadyH.cons ho h AllReadyH.nil)
end Go.Proofs.YtnglaegofhpleaaGreatDoor
namespace Go.Proofs.YtnglaegofhpleaaGreatDoor
def fits (x:Int):Bool:=decide (-9223372036854775808≤x) && decide (x≤9223372036854775807)
theorem fits_iff(x:Int):fits x=true↔-9223372036854775808≤x∧x≤9223372036854775807:=by unfold fits;simp
theorem fits_no(x:Int):fits x=false↔x < -9223372036854775808∨9223372036854775807<x:=by unfold fits;simp;omega
def addS (a b:Int):Int × Int:=if fits (a+b)=true then (a+b,0) else (0,3)
def subS (a b:Int):Int × Int:=if fits (a-b)=true then (a-b,0) else (0,3)
def negS (a:Int):Int × Int:=subS 0 a
def mulS (a b:Int):Int × Int:=if fits (a * b)=true then (a * b,0) else (0,3)
def divS (a b:Int):Int × Int:=if b=0 then (0,4) else if fits (a.fdiv b)=true then (a.fdiv b,0) else (0,3)
def modS (a b:Int):Int × Int:=if b=0 then (0,4) else (a.fmod b,0)
theorem fdiv_eq(a b:Int)(hb:b≠0):a.fdiv b=a.tdiv b-(if a.tmod b≠0∧¬(a<0↔b<0) then 1 else 0):=by
 rw[Int.fdiv_eq_tdiv];by_cases hd:b ∣ a
 ·have h0:a.tmod b=0:=Int.tmod_eq_zero_of_dvd hd
  rw[if_pos hd,if_neg (fun h=>h.1 h0)]
 ·have h0:a.tmod b≠0:=fun h=>hd (Int.dvd_of_tmod_eq_zero h)
  have ha:a≠0:=fun h=>hd (by rw[h];exact Int.dvd_zero b);rw[if_neg hd];by_cases h2:0<b
  ·have hs:b.sign=1:=Int.sign_eq_one_of_pos h2
   have hb0:0≤b:=by omega
   by_cases h1:0≤a
   ·rw[if_pos h1,if_pos hb0,if_neg (fun h=>h.2 (by omega))]
   ·rw[if_neg h1,if_pos hb0,hs,if_pos (And.intro h0 (by omega))]
  ·have hs:b.sign = -1:=Int.sign_eq_neg_one_of_neg (by omega)
   have hb0:¬0≤b:=by omega
   by_cases h1:0≤a
   ·rw[if_pos h1,if_neg hb0,if_pos (And.intro h0 (by omega))]
   ·rw[if_neg h1,if_neg hb0,hs,if_neg (fun h=>h.2 (by omega))];rfl
theorem fmod_eq(a b:Int)(hb:b≠0):a.fmod b=a.tmod b+(if a.tmod b≠0∧¬(a<0↔b<0) then b else 0):=by
 have h1:=Int.fmod_def a b;have h2:=Int.tmod_def a b;rw[fdiv_eq a b hb]at h1;rw[Int.mul_sub]at h1;split at h1
 ·rename_i hc
  rw[if_pos hc];omega
 ·rename_i hc
  rw[if_neg hc];omega
theorem tmod_le(a b:Int)(h:a≤0):a.tmod b≤0:=by
 have:=Int.tmod_nonneg b (show 0≤-a by omega);rw[Int.neg_tmod]at this;omega
theorem mul_back(a b:Int)(hb:b≠0):(a * b).tdiv b=a:=Int.mul_tdiv_cancel a hb
theorem wrap_back(a b p k:Int)(hb:b≠0)(hb1:-9223372036854775808≤b)(hb2:b≤9223372036854775807)(hp:p=a * b+k * 18446744073709551616)(h:p.tdiv b=a):p=a * b:=by
 have h1:=Int.mul_tdiv_add_tmod p b;rw[h]at h1
 have h2:(p.tmod b).natAbs<b.natAbs:=by rw[Int.natAbs_tmod];exact Nat.mod_lt _ (by omega)
 have h3:p.tmod b=k * 18446744073709551616:=by rw[Int.mul_comm b a]at h1;omega
 have h4:k=0:=by omega
 rw[hp,h4];omega
/-! ### numerals -/
def isDig (c:UInt8):Bool:=decide (48≤c.toNat) && decide (c.toNat≤57)
theorem isDig_iff(c:UInt8):isDig c=true↔48≤c.toNat∧c.toNat≤57:=by unfold isDig;simp
def val (l:List UInt8):Nat:=l.foldl (fun a c=>a * 10+(c.toNat-48)) 0
theorem decDigits_step(u:Nat):Lib.decDigits u=(if u<10 then [] else Lib.decDigits (u / 10))++[UInt8.ofNat (48+u % 10)]:=by
 rw[Lib.decDigits];by_cases h:u<10
 ·rw[dif_pos h,if_pos h,Nat.mod_eq_of_lt h];rfl
 ·rw[dif_neg h,if_neg h]
theorem dig_toNat(k:Nat)(h:k<10):(UInt8.ofNat (48+k)).toNat=48+k:=by rw[UInt8.toNat_ofNat'];omega
theorem decDigits_all(u:Nat):(Lib.decDigits u).all isDig=true:=by
 induction u using Nat.strongRecOn with
 | _ u ih =>
  rw[decDigits_step,List.all_append]
  have hl:isDig (UInt8.ofNat (48+u % 10))=true:=by rw[isDig_iff,dig_toNat _ (by omega)];omega
  rw[List.all_cons,hl];by_cases h:u<10
  ·rw[if_pos h];rfl
  ·rw[if_neg h,ih (u / 10) (by omega)];rfl
end Go.Proofs.YtnglaegofhpleaaGreatDoor
namespace Go.Proofs.YtnglaegofhpleaaGreatDoor
open Go.RowKit Go.Proofs.Tryz
theorem w64_some(x:Int):∃k:Int,wrap64 x=x+k * 18446744073709551616∧-9223372036854775808≤wrap64 x∧wrap64 x≤9223372036854775807:=by
 refine⟨-((x+9223372036854775808) / 18446744073709551616),?_,?_,?_⟩<;>unfold wrap64<;>omega
theorem fits_mk{x:Int}(h1:-9223372036854775808≤x)(h2:x≤9223372036854775807):fits x=true:=(fits_iff x).2 ⟨h1,h2⟩
theorem add_ok{a b:Int}(h:fits (a+b)=true):addS a b=(a+b,0):=by unfold addS;rw[if_pos h]
theorem add_no{a b:Int}(h:fits (a+b)=false):addS a b=(0,3):=by unfold addS;rw[h];rfl
theorem sub_ok{a b:Int}(h:fits (a-b)=true):subS a b=(a-b,0):=by unfold subS;rw[if_pos h]
theorem sub_no{a b:Int}(h:fits (a-b)=false):subS a b=(0,3):=by unfold subS;rw[h];rfl
theorem mul_ok{a b:Int}(h:fits (a * b)=true):mulS a b=(a * b,0):=by unfold mulS;rw[if_pos h]
theorem mul_no{a b:Int}(h:fits (a * b)=false):mulS a b=(0,3):=by unfold mulS;rw[h];rfl
theorem Add_any(a b:Int)(w:World)(ha1:-9223372036854775808≤a)(ha2:a≤9223372036854775807)(hb1:-9223372036854775808≤b)(hb2:b≤9223372036854775807):
  Calls prog 176 #[.int .i64 a,.int .i64 b] w fun e w'=>e=.returned (.tuple #[.int .i64 (addS a b).1,.int .i64 (addS a b).2])∧w=w':=by
 by_cases hf:fits (a+b)=true
 ·have hfin:=add_ok hf
  rw[hfin];obtain⟨h1,h2⟩:=(fits_iff _).1 hf;clear hf hfin;rcases Int.lt_trichotomy b 0 with hb|hb|hb
  all_goals
   (try have hb':¬(0<b):=by omega)
   (try have hb'':¬(b<0):=by omega)
   go_enter func176,ntmps176;go_wp2;go_ret2;exact⟨rfl,rfl⟩
 ·have hf':fits (a+b)=false:=by simpa using hf
  have hfin:=add_no hf';rw[hfin];obtain⟨k,hk,hk1,hk2⟩:=w64_some (a+b);obtain⟨s,hs⟩:∃s,s=wrap64 (a+b):=⟨_,rfl⟩;rw[←hs]at hk hk1 hk2;have hs':=hs.symm;have hno:=(fits_no _).1 hf'
  have hc:(0<b∧s<a)∨(b<0∧a<s):=by omega
  clear hf hf' hfin hno hk hs;rcases hc with ⟨hb,hl⟩|⟨hb,hl⟩
  all_goals
   (try have hb':¬(0<b):=by omega)
   go_enter func176,ntmps176;go_wp2;go_ret2;exact⟨rfl,rfl⟩
theorem Sub_any(a b:Int)(w:World)(ha1:-9223372036854775808≤a)(ha2:a≤9223372036854775807)(hb1:-9223372036854775808≤b)(hb2:b≤9223372036854775807):
  Calls prog 177 #[.int .i64 a,.int .i64 b] w fun e w'=>e=.returned (.tuple #[.int .i64 (subS a b).1,.int .i64 (subS a b).2])∧w=w':=by
 by_cases hf:fits (a-b)=true
 ·have hfin:=sub_ok hf
  rw[hfin];obtain⟨h1,h2⟩:=(fits_iff _).1 hf;clear hf hfin;rcases Int.lt_trichotomy b 0 with hb|hb|hb
  all_goals
   (try have hb':¬(0<b):=by omega)
   (try have hb'':¬(b<0):=by omega)
   go_enter func177,ntmps177;go_wp2;go_ret2;exact⟨rfl,rfl⟩
 ·have hf':fits (a-b)=false:=by simpa using hf
  have hfin:=sub_no hf';rw[hfin];obtain⟨k,hk,hk1,hk2⟩:=w64_some (a-b);obtain⟨s,hs⟩:∃s,s=wrap64 (a-b):=⟨_,rfl⟩;rw[←hs]at hk hk1 hk2;have hs':=hs.symm;have hno:=(fits_no _).1 hf'
  have hc:(0<b∧a<s)∨(b<0∧s<a):=by omega
  clear hf hf' hfin hno hk hs;rcases hc with ⟨hb,hl⟩|⟨hb,hl⟩
  all_goals
   (try have hb':¬(0<b):=by omega)
   go_enter func177,ntmps177;go_wp2;go_ret2;exact⟨rfl,rfl⟩
theorem Neg_any(a:Int)(w:World)(ha1:-9223372036854775808≤a)(ha2:a≤9223372036854775807):
  Calls prog 157 #[.int .i64 a] w fun e w'=>e=.returned (.tuple #[.int .i64 (negS a).1,.int .i64 (negS a).2])∧w=w':=by
 by_cases hm:a = -9223372036854775808
 ·subst hm
  have hfin:negS (-9223372036854775808)=(0,3):=by unfold negS subS;rw[(fits_no _).2 (by omega)];rfl
  rw[hfin];clear hfin;go_enter func157,ntmps157;go_wp2;go_ret2;exact⟨rfl,rfl⟩
 ·have hfin:negS a=(-a,0):=by unfold negS;rw[sub_ok (fits_mk (by omega) (by omega)),Int.zero_sub]
  rw[hfin]
  have hne:(a==-9223372036854775808)=false:=by rw[beq_eq_false_iff_ne];exact hm
  have hlo:-9223372036854775807≤a:=by omega
  clear hfin hm;go_enter func157,ntmps157;go_wp2;go_ret2;exact⟨rfl,rfl⟩
theorem tdiv_half(a b:Int)(hb0:b≠0)(hb1:b≠-1)(hb2:b≠1):2 * (a.tdiv b).natAbs≤a.natAbs:=by
 rw[Int.natAbs_tdiv]
 have h2:2≤b.natAbs:=by omega
 have h3:a.natAbs / b.natAbs≤a.natAbs / 2:=Nat.div_le_div_left h2 (by decide);show 2 * (a.natAbs / b.natAbs)≤a.natAbs;omega
theorem tdiv_bd(a b:Int)(h1:-9223372036854775808≤a)(h2:a≤9223372036854775807)(hb0:b≠0)(hb1:b≠-1):-9223372036854775808≤a.tdiv b∧a.tdiv b≤9223372036854775807:=by
 by_cases hb2:b=1
 ·subst hb2;rw[Int.tdiv_one];exact⟨h1,h2⟩
 ·have:=tdiv_half a b hb0 hb1 hb2
  omega
theorem tdiv_bd2(a b:Int)(h1:-9223372036854775808≤a)(h2:a≤9223372036854775807)(hb0:b≠0)(hb1:b≠-1)(hr:a.tmod b≠0):-9223372036854775808≤a.tdiv b-1:=by
 have hb2:b≠1:=by intro h;subst h;exact hr (Int.tmod_one a)
 have:=tdiv_half a b hb0 hb1 hb2;omega
theorem div_neg1(a:Int):divS a (-1)=negS a:=by
 unfold divS negS subS;rw[if_neg (by decide),Int.zero_sub,show a.fdiv (-1) = -a from by rw[fdiv_eq a (-1) (by decide)];simp]
theorem div_keep{a b:Int}(h1:-9223372036854775808≤a)(h2:a≤9223372036854775807)(hb0:b≠0)(hb1:b≠-1)(hc:a.tmod b=0∨(a<0↔b<0)):divS a b=(a.tdiv b,0):=by
 have h:=tdiv_bd a b h1 h2 hb0 hb1
 have e:a.fdiv b=a.tdiv b:=by
  rw[fdiv_eq a b hb0,if_neg,Int.sub_zero];rintro ⟨h3,h4⟩;exact hc.elim h3 h4
 unfold divS;rw[if_neg hb0,e,if_pos (fits_mk h.1 h.2)]
theorem div_down{a b:Int}(h1:-9223372036854775808≤a)(h2:a≤9223372036854775807)(hb0:b≠0)(hb1:b≠-1)(hr:a.tmod b≠0)(hs:¬(a<0↔b<0)):divS a b=(a.tdiv b-1,0):=by
 have h:=tdiv_bd a b h1 h2 hb0 hb1;have h3:=tdiv_bd2 a b h1 h2 hb0 hb1 hr
 have e:a.fdiv b=a.tdiv b-1:=by rw[fdiv_eq a b hb0,if_pos ⟨hr,hs⟩]
 unfold divS;rw[if_neg hb0,e,if_pos (fits_mk h3 (by omega))]
theorem mod_neg1(a:Int):modS a (-1)=(0,0):=by
 unfold modS;rw[if_neg (by decide),show a.fmod (-1)=0 from by rw[fmod_eq a (-1) (by decide)];simp]
theorem mod_keep{a b:Int}(hb0:b≠0)(hc:a.tmod b=0∨(a<0↔b<0)):modS a b=(a.tmod b,0):=by
 unfold modS;rw[if_neg hb0,fmod_eq a b hb0,if_neg,Int.add_zero];rintro ⟨h3,h4⟩;exact hc.elim h3 h4
theorem mod_up{a b:Int}(hb0:b≠0)(hr:a.tmod b≠0)(hs:¬(a<0↔b<0)):modS a b=(a.tmod b+b,0):=by
 unfold modS;rw[if_neg hb0,fmod_eq a b hb0,if_pos ⟨hr,hs⟩]
theorem tmod_bd(a b:Int)(hb0:b≠0):(0≤a→0≤a.tmod b)∧(a≤0→a.tmod b≤0)∧(a.tmod b).natAbs<b.natAbs:=by
 refine⟨fun h=>Int.tmod_nonneg b h,fun h=>tmod_le a b h,?_⟩;rw[Int.natAbs_tmod];exact Nat.mod_lt _ (by omega)
theorem Div_any(a b:Int)(w:World)(ha1:-9223372036854775808≤a)(ha2:a≤9223372036854775807)(hb1:-9223372036854775808≤b)(hb2:b≤9223372036854775807):
  Calls prog 179 #[.int .i64 a,.int .i64 b] w fun e w'=>e=.returned (.tuple #[.int .i64 (divS a b).1,.int .i64 (divS a b).2])∧w=w':=by
 by_cases hb0:b=0
 ·subst hb0
  have hfin:divS a 0=(0,4):=rfl;rw[hfin];clear hfin;go_enter func179,ntmps179;go_wp2;go_ret2;exact⟨rfl,rfl⟩
 ·have hb0':(b==0)=false:=by rw[beq_eq_false_iff_ne];exact hb0
  by_cases hb1:b = -1
  ·subst hb1
   rw[div_neg1];clear hb0 hb0';go_enter func179,ntmps179;go_wp2_with (go_at_call 157;refine(Neg_any _ _ ha1 ha2).mono ?_;rintro e w' ⟨rfl,rfl⟩);go_ret2;exact⟨rfl,rfl⟩
  ·have hb1':(b==-1)=false:=by rw[beq_eq_false_iff_ne];exact hb1
   obtain⟨q1,q2⟩:=tdiv_bd a b ha1 ha2 hb0 hb1;by_cases hr:a.tmod b=0
   ·have hfin:=div_keep ha1 ha2 hb0 hb1 (Or.inl hr)
    rw[hfin]
    have hrt:(a.tmod b != 0)=false:=by rw[hr];rfl
    have HR:=h_ hr;clear hfin hr;by_cases h0:0≤a
    ·have hm:a.tmod b=a % b:=Int.tmod_eq_emod_of_nonneg h0
     rw[hm]at hrt;by_cases h1:0<b
     ·have hd:a.tdiv b=a / b:=Int.tdiv_eq_ediv_of_nonneg h0
      rw[hd]at q1 q2 ⊢;clear hm hd hb1;go_enter func179,ntmps179;go_wp2;go_ret2;exact⟨rfl,rfl⟩
     ·clear hm hb1
      go_enter func179,ntmps179;go_wp2;go_ret2;exact⟨rfl,rfl⟩
    ·clear hb1
     go_enter func179,ntmps179;go_wp2;go_ret2;exact⟨rfl,rfl⟩
   ·have hrt:(a.tmod b != 0)=true:=by rw[bne_iff_ne];exact hr
    have q3:=tdiv_bd2 a b ha1 ha2 hb0 hb1 hr;have HR:=h_ hr;clear hr;by_cases h0:0≤a
    ·have hm:a.tmod b=a % b:=Int.tmod_eq_emod_of_nonneg h0
     rw[hm]at hrt;clear hm
     have h0':¬a<0:=by omega
     by_cases h1:0<b
     ·have h1':¬b<0:=by omega
      have hfin:=div_keep ha1 ha2 hb0 hb1 (Or.inr (by omega));rw[hfin];have hd:a.tdiv b=a / b:=Int.tdiv_eq_ediv_of_nonneg h0;rw[hd]at q1 q2 q3 ⊢;clear hd hb1 hfin;go_enter func179,ntmps179;go_wp2;go_ret2;exact⟨rfl,rfl⟩
     ·have h1':b<0:=by omega
      have hfin:=div_down ha1 ha2 hb0 hb1 HR.out (by omega);rw[hfin];clear hb0 hb1 hfin;go_enter func179,ntmps179;go_wp2;go_ret2;exact⟨rfl,rfl⟩
    ·have h0':a<0:=by omega
     by_cases h1:0<b
     ·have h1':¬b<0:=by omega
      have hfin:=div_down ha1 ha2 hb0 hb1 HR.out (by omega);rw[hfin];clear hb0 hb1 hfin;go_enter func179,ntmps179;go_wp2;go_ret2;exact⟨rfl,rfl⟩
     ·have h1':b<0:=by omega
      have hfin:=div_keep ha1 ha2 hb0 hb1 (Or.inr (by omega));rw[hfin];clear hb0 hb1 hfin;go_enter func179,ntmps179;go_wp2;go_ret2;exact⟨rfl,rfl⟩
theorem Mod_any(a b:Int)(w:World)(ha1:-9223372036854775808≤a)(ha2:a≤9223372036854775807)(hb1:-9223372036854775808≤b)(hb2:b≤9223372036854775807):
  Calls prog 180 #[.int .i64 a,.int .i64 b] w fun e w'=>e=.returned (.tuple #[.int .i64 (modS a b).1,.int .i64 (modS a b).2])∧w=w':=by
 by_cases hb0:b=0
 ·subst hb0
  have hfin:modS a 0=(0,4):=rfl;rw[hfin];clear hfin;go_enter func180,ntmps180;go_wp2;go_ret2;exact⟨rfl,rfl⟩
 ·have hb0':(b==0)=false:=by rw[beq_eq_false_iff_ne];exact hb0
  by_cases hb1:b = -1
  ·subst hb1
   rw[mod_neg1];clear hb0 hb0';go_enter func180,ntmps180;go_wp2;go_ret2;exact⟨rfl,rfl⟩
  ·have hb1':(b==-1)=false:=by rw[beq_eq_false_iff_ne];exact hb1
   obtain⟨m1,m2,m3⟩:=tmod_bd a b hb0;by_cases h0:0≤a
   ·have hm:a.tmod b=a % b:=Int.tmod_eq_emod_of_nonneg h0
    have m4:0≤a % b:=by rw[←hm];exact m1 h0
    have m5:a % b≤9223372036854775807:=by rw[←hm];omega
    have m5':a % b≤(b.natAbs:Int):=by rw[←hm];omega
    have h0':¬a % b<0:=by omega
    by_cases hr:a.tmod b=0
    ·have hrt:(a % b != 0)=false:=by rw[←hm,hr];rfl
     have hfin:=mod_keep (a:=a) hb0 (Or.inl hr);rw[hfin,hm];clear hfin hr hb1 hm m1 m2 m3;go_enter func180,ntmps180;go_wp2;go_ret2;exact⟨rfl,rfl⟩
    ·have hrt:(a % b != 0)=true:=by rw[bne_iff_ne,←hm];exact hr
     by_cases h1:0<b
     ·have hfin:=mod_keep (a:=a) hb0 (Or.inr (by omega))
      have h1':¬b<0:=by omega
      rw[hfin,hm];clear hfin hr hb1 hm m1 m2 m3;go_enter func180,ntmps180;go_wp2;go_ret2;exact⟨rfl,rfl⟩
     ·have hfin:=mod_up hb0 hr (by omega)
      have h1':b<0:=by omega
      rw[hfin,hm];clear hfin hr hb1 hm m1 m2 m3;go_enter func180,ntmps180;go_wp2;go_ret2;exact⟨rfl,rfl⟩
   ·have m4:a.tmod b≤0:=m2 (by omega)
    have m5:-9223372036854775808≤a.tmod b:=by omega
    by_cases hr:a.tmod b=0
    ·have hrt:(a.tmod b != 0)=false:=by rw[hr];rfl
     have hfin:=mod_keep (a:=a) hb0 (Or.inl hr);rw[hfin];clear hfin hr hb1 m1 m2 m3;go_enter func180,ntmps180;go_wp2;go_ret2;exact⟨rfl,rfl⟩
    ·have hrt:(a.tmod b != 0)=true:=by rw[bne_iff_ne];exact hr
     have h0':a.tmod b<0:=by omega
     by_cases h1:0<b
     ·have hfin:=mod_up hb0 hr (by omega)
      have h1':¬b<0:=by omega
      have m6:-9223372036854775808≤a.tmod b+b:=by omega
      have m7:a.tmod b+b≤9223372036854775807:=by omega
      rw[hfin];clear hfin hr hb1 m1 m2 m3;go_enter func180,ntmps180;go_wp2;go_ret2;exact⟨rfl,rfl⟩
     ·have hfin:=mod_keep (a:=a) hb0 (Or.inr (by omega))
      have h1':b<0:=by omega
      rw[hfin];clear hfin hr hb1 m1 m2 m3;go_enter func180,ntmps180;go_wp2;go_ret2;exact⟨rfl,rfl⟩
theorem mul_zero1(b:Int):mulS 0 b=(0,0):=by unfold mulS;rw[Int.zero_mul,if_pos (by decide)]
theorem mul_zero2(a:Int):mulS a 0=(0,0):=by unfold mulS;rw[Int.mul_zero,if_pos (by decide)]
theorem mul_neg1(b:Int):mulS (-1) b=negS b:=by unfold mulS negS subS;rw[Int.neg_mul,Int.one_mul,Int.zero_sub]
theorem mul_neg2(a:Int):mulS a (-1)=negS a:=by unfold mulS negS subS;rw[Int.mul_neg,Int.mul_one,Int.zero_sub]
theorem Mul_any(a b:Int)(w:World)(ha1:-9223372036854775808≤a)(ha2:a≤9223372036854775807)(hb1:-9223372036854775808≤b)(hb2:b≤9223372036854775807):
  Calls prog 178 #[.int .i64 a,.int .i64 b] w fun e w'=>e=.returned (.tuple #[.int .i64 (mulS a b).1,.int .i64 (mulS a b).2])∧w=w':=by
 by_cases hz:a=0
 ·subst hz
  rw[mul_zero1];go_enter func178,ntmps178;go_wp2;go_ret2;exact⟨rfl,rfl⟩
 have hz':(a==0)=false:=by rw[beq_eq_false_iff_ne];exact hz
 by_cases hb0:b=0
 ·subst hb0
  rw[mul_zero2];clear hz;go_enter func178,ntmps178;go_wp2;go_ret2;exact⟨rfl,rfl⟩
 have hb0':(b==0)=false:=by rw[beq_eq_false_iff_ne];exact hb0
 by_cases hn:a = -1
 ·subst hn
  rw[mul_neg1];clear hz hz';go_enter func178,ntmps178;go_wp2_with (go_at_call 157;refine(Neg_any _ _ hb1 hb2).mono ?_;rintro e w' ⟨rfl,rfl⟩);go_ret2;exact⟨rfl,rfl⟩
 have hn':(a==-1)=false:=by rw[beq_eq_false_iff_ne];exact hn
 by_cases hm:b = -1
 ·subst hm
  rw[mul_neg2];clear hz hn hb0';go_enter func178,ntmps178;go_wp2_with (go_at_call 157;refine(Neg_any _ _ ha1 ha2).mono ?_;rintro e w' ⟨rfl,rfl⟩);go_ret2;exact⟨rfl,rfl⟩
 have hm':(b==-1)=false:=by rw[beq_eq_false_iff_ne];exact hm
 obtain⟨k,hk,hk1,hk2⟩:=w64_some (a * b);obtain⟨p,hp⟩:=ex_ (wrap64 (a * b));rw[hp]at hk hk1 hk2;obtain⟨q1,q2⟩:=tdiv_bd p b hk1 hk2 hb0 hm;obtain⟨q,hq⟩:=ex_ (p.tdiv b);by_cases hf:fits (a * b)=true
 ·have hfin:=mul_ok hf
  have hpe:p=a * b:=by rw[←hp];exact IntWalk.wrap64_in _ ((fits_iff _).1 hf)
  rw[hfin,←hpe]
  have hqa:(q != a)=false:=by rw[←hq,hpe,mul_back a b hb0];simp
  have HP:=h_ hp;rw[hq]at q1 q2;clear hf hfin hpe hk hz hn hm;by_cases h0:0≤p∧1≤b
  ·obtain⟨h1,h2⟩:=h0
   rw[Int.tdiv_eq_ediv_of_nonneg h1]at hq;go_enter func178,ntmps178;go_wp2;go_ret2
   first|exact⟨rfl,rfl⟩|(refine⟨?_,rfl⟩;show Ending.returned (.tuple #[.int .i64 (wrap64 (a * b)),.int .i64 0])=_;rw[HP.out])
  ·go_enter func178,ntmps178
   go_wp2;go_ret2
   first|exact⟨rfl,rfl⟩|(refine⟨?_,rfl⟩;show Ending.returned (.tuple #[.int .i64 (wrap64 (a * b)),.int .i64 0])=_;rw[HP.out])
 ·have hf':fits (a * b)=false:=by simpa using hf
  have hfin:=mul_no hf';rw[hfin]
  have hqa:(q != a)=true:=by
   rw[bne_iff_ne];intro h;have:=wrap_back a b p k hb0 hb1 hb2 hk (by rw[hq,h]);rw[←this]at hf;exact hf (fits_mk hk1 hk2)
  have HP:=h_ hp;rw[hq]at q1 q2;clear hf hf' hfin hk hz hn hm;by_cases h0:0≤p∧1≤b
  ·obtain⟨h1,h2⟩:=h0
   rw[Int.tdiv_eq_ediv_of_nonneg h1]at hq;go_enter func178,ntmps178;go_wp2;go_ret2;exact⟨rfl,rfl⟩
  ·go_enter func178,ntmps178
   go_wp2;go_ret2;exact⟨rfl,rfl⟩
theorem RAdd_any(a b:Int)(w:World)(ha1:-9223372036854775808≤a)(ha2:a≤9223372036854775807)(hb1:-9223372036854775808≤b)(hb2:b≤9223372036854775807):
  Calls prog 166 #[.int .i64 a,.int .i64 b] w fun e w'=>e=.returned (.tuple #[.int .i64 (addS a b).1,.int .i64 (addS a b).2])∧w=w':=by
 by_cases hf:fits (a+b)=true
 ·have hfin:=add_ok hf
  rw[hfin];obtain⟨h1,h2⟩:=(fits_iff _).1 hf;clear hf hfin;rcases Int.lt_trichotomy b 0 with hb|hb|hb
  all_goals
   (try have hb':¬(0<b):=by omega)
   (try have hb'':¬(b<0):=by omega)
   go_enter func166,ntmps166;go_wp2;go_ret2;exact⟨rfl,rfl⟩
 ·have hf':fits (a+b)=false:=by simpa using hf
  have hfin:=add_no hf';rw[hfin];have hno:=(fits_no _).1 hf'
  have hc:(0<b∧9223372036854775807-b<a)∨(b<0∧a < -9223372036854775808-b):=by omega
  clear hf hf' hfin hno;rcases hc with ⟨hb,hl⟩|⟨hb,hl⟩
  all_goals
   (try have hb':¬(0<b):=by omega)
   (try have hb':¬(b<0):=by omega)
   go_enter func166,ntmps166;go_wp2;go_ret2;exact⟨rfl,rfl⟩
theorem RSub_any(a b:Int)(w:World)(ha1:-9223372036854775808≤a)(ha2:a≤9223372036854775807)(hb1:-9223372036854775808≤b)(hb2:b≤9223372036854775807):
  Calls prog 107 #[.int .i64 a,.int .i64 b] w fun e w'=>e=.returned (.tuple #[.int .i64 (subS a b).1,.int .i64 (subS a b).2])∧w=w':=by
 by_cases hf:fits (a-b)=true
 ·have hfin:=sub_ok hf
  rw[hfin];obtain⟨h1,h2⟩:=(fits_iff _).1 hf;clear hf hfin;rcases Int.lt_trichotomy b 0 with hb|hb|hb
  all_goals
   (try have hb':¬(0<b):=by omega)
   (try have hb'':¬(b<0):=by omega)
   go_enter func107,ntmps107;go_wp2;go_ret2;exact⟨rfl,rfl⟩
 ·have hf':fits (a-b)=false:=by simpa using hf
  have hfin:=sub_no hf';rw[hfin];have hno:=(fits_no _).1 hf'
  have hc:(b<0∧9223372036854775807+b<a)∨(0<b∧a < -9223372036854775808+b):=by omega
  clear hf hf' hfin hno;rcases hc with ⟨hb,hl⟩|⟨hb,hl⟩
  all_goals
   (try have hb':¬(0<b):=by omega)
   (try have hb':¬(b<0):=by omega)
   go_enter func107,ntmps107;go_wp2;go_ret2;exact⟨rfl,rfl⟩
theorem RNeg_any(a:Int)(w:World)(ha1:-9223372036854775808≤a)(ha2:a≤9223372036854775807):
  Calls prog 148 #[.int .i64 a] w fun e w'=>e=.returned (.tuple #[.int .i64 (negS a).1,.int .i64 (negS a).2])∧w=w':=by
 go_enter func148,ntmps148;go_wp2_with (go_at_call 107;refine(RSub_any _ _ _ (by omega) (by omega) ha1 ha2).mono ?_;rintro e w' ⟨rfl,rfl⟩);go_ret2;exact⟨rfl,rfl⟩
theorem RDiv_any(a b:Int)(w:World)(ha1:-9223372036854775808≤a)(ha2:a≤9223372036854775807)(hb1:-9223372036854775808≤b)(hb2:b≤9223372036854775807):
  Calls prog 168 #[.int .i64 a,.int .i64 b] w fun e w'=>e=.returned (.tuple #[.int .i64 (divS a b).1,.int .i64 (divS a b).2])∧w=w':=by
 by_cases hb0:b=0
 ·subst hb0
  have hfin:divS a 0=(0,4):=rfl;rw[hfin];clear hfin;go_enter func168,ntmps168;go_wp2;go_ret2;exact⟨rfl,rfl⟩
 ·have hb0':(b==0)=false:=by rw[beq_eq_false_iff_ne];exact hb0
  by_cases hb1:b = -1
  ·subst hb1
   rw[div_neg1];clear hb0 hb0';go_enter func168,ntmps168;go_wp2_with (go_at_call 148;refine(RNeg_any _ _ ha1 ha2).mono ?_;rintro e w' ⟨rfl,rfl⟩);go_ret2;exact⟨rfl,rfl⟩
  ·have hb1':(b==-1)=false:=by rw[beq_eq_false_iff_ne];exact hb1
   obtain⟨q1,q2⟩:=tdiv_bd a b ha1 ha2 hb0 hb1;by_cases hr:a.tmod b=0
   ·have hfin:=div_keep ha1 ha2 hb0 hb1 (Or.inl hr)
    rw[hfin]
    have hrt:(a.tmod b != 0)=false:=by rw[hr];rfl
    have HR:=h_ hr;clear hfin hr;by_cases h0:0≤a
    ·have hm:a.tmod b=a % b:=Int.tmod_eq_emod_of_nonneg h0
     rw[hm]at hrt;by_cases h1:0<b
     ·have hd:a.tdiv b=a / b:=Int.tdiv_eq_ediv_of_nonneg h0
      rw[hd]at q1 q2 ⊢;clear hm hd hb1;go_enter func168,ntmps168;go_wp2;go_ret2;exact⟨rfl,rfl⟩
     ·clear hm hb1
      go_enter func168,ntmps168;go_wp2;go_ret2;exact⟨rfl,rfl⟩
    ·clear hb1
     go_enter func168,ntmps168;go_wp2;go_ret2;exact⟨rfl,rfl⟩
   ·have hrt:(a.tmod b != 0)=true:=by rw[bne_iff_ne];exact hr
    have q3:=tdiv_bd2 a b ha1 ha2 hb0 hb1 hr;have HR:=h_ hr;clear hr;by_cases h0:0≤a
    ·have hm:a.tmod b=a % b:=Int.tmod_eq_emod_of_nonneg h0
     rw[hm]at hrt;clear hm
     have h0':¬a<0:=by omega
     by_cases h1:0<b
     ·have h1':¬b<0:=by omega
      have hfin:=div_keep ha1 ha2 hb0 hb1 (Or.inr (by omega));rw[hfin];have hd:a.tdiv b=a / b:=Int.tdiv_eq_ediv_of_nonneg h0;rw[hd]at q1 q2 q3 ⊢;clear hd hb1 hfin;go_enter func168,ntmps168;go_wp2;go_ret2;exact⟨rfl,rfl⟩
     ·have h1':b<0:=by omega
      have hfin:=div_down ha1 ha2 hb0 hb1 HR.out (by omega);rw[hfin];clear hb0 hb1 hfin;go_enter func168,ntmps168;go_wp2;go_ret2;exact⟨rfl,rfl⟩
    ·have h0':a<0:=by omega
     by_cases h1:0<b
     ·have h1':¬b<0:=by omega
      have hfin:=div_down ha1 ha2 hb0 hb1 HR.out (by omega);rw[hfin];clear hb0 hb1 hfin;go_enter func168,ntmps168;go_wp2;go_ret2;exact⟨rfl,rfl⟩
     ·have h1':b<0:=by omega
      have hfin:=div_keep ha1 ha2 hb0 hb1 (Or.inr (by omega));rw[hfin];clear hb0 hb1 hfin;go_enter func168,ntmps168;go_wp2;go_ret2;exact⟨rfl,rfl⟩
theorem RMod_any(a b:Int)(w:World)(ha1:-9223372036854775808≤a)(ha2:a≤9223372036854775807)(hb1:-9223372036854775808≤b)(hb2:b≤9223372036854775807):
  Calls prog 169 #[.int .i64 a,.int .i64 b] w fun e w'=>e=.returned (.tuple #[.int .i64 (modS a b).1,.int .i64 (modS a b).2])∧w=w':=by
 by_cases hb0:b=0
 ·subst hb0
  have hfin:modS a 0=(0,4):=rfl;rw[hfin];clear hfin;go_enter func169,ntmps169;go_wp2;go_ret2;exact⟨rfl,rfl⟩
 ·have hb0':(b==0)=false:=by rw[beq_eq_false_iff_ne];exact hb0
  by_cases hb1:b = -1
  ·subst hb1
   rw[mod_neg1];clear hb0 hb0';go_enter func169,ntmps169;go_wp2;go_ret2;exact⟨rfl,rfl⟩
  ·have hb1':(b==-1)=false:=by rw[beq_eq_false_iff_ne];exact hb1
   obtain⟨m1,m2,m3⟩:=tmod_bd a b hb0;by_cases h0:0≤a
   ·have hm:a.tmod b=a % b:=Int.tmod_eq_emod_of_nonneg h0
    have m4:0≤a % b:=by rw[←hm];exact m1 h0
    have m5:a % b≤9223372036854775807:=by rw[←hm];omega
    have m5':a % b≤(b.natAbs:Int):=by rw[←hm];omega
    have h0':¬a % b<0:=by omega
    by_cases hr:a.tmod b=0
    ·have hrt:(a % b != 0)=false:=by rw[←hm,hr];rfl
     have hfin:=mod_keep (a:=a) hb0 (Or.inl hr);rw[hfin,hm];clear hfin hr hb1 hm m1 m2 m3;go_enter func169,ntmps169;go_wp2;go_ret2;exact⟨rfl,rfl⟩
    ·have hrt:(a % b != 0)=true:=by rw[bne_iff_ne,←hm];exact hr
     by_cases h1:0<b
     ·have hfin:=mod_keep (a:=a) hb0 (Or.inr (by omega))
      have h1':¬b<0:=by omega
      rw[hfin,hm];clear hfin hr hb1 hm m1 m2 m3;go_enter func169,ntmps169;go_wp2;go_ret2;exact⟨rfl,rfl⟩
     ·have hfin:=mod_up hb0 hr (by omega)
      have h1':b<0:=by omega
      rw[hfin,hm];clear hfin hr hb1 hm m1 m2 m3;go_enter func169,ntmps169;go_wp2;go_ret2;exact⟨rfl,rfl⟩
   ·have m4:a.tmod b≤0:=m2 (by omega)
    have m5:-9223372036854775808≤a.tmod b:=by omega
    by_cases hr:a.tmod b=0
    ·have hrt:(a.tmod b != 0)=false:=by rw[hr];rfl
     have hfin:=mod_keep (a:=a) hb0 (Or.inl hr);rw[hfin];clear hfin hr hb1 m1 m2 m3;go_enter func169,ntmps169;go_wp2;go_ret2;exact⟨rfl,rfl⟩
    ·have hrt:(a.tmod b != 0)=true:=by rw[bne_iff_ne];exact hr
     have h0':a.tmod b<0:=by omega
     by_cases h1:0<b
     ·have hfin:=mod_up hb0 hr (by omega)
      have h1':¬b<0:=by omega
      have m6:-9223372036854775808≤a.tmod b+b:=by omega
      have m7:a.tmod b+b≤9223372036854775807:=by omega
      rw[hfin];clear hfin hr hb1 m1 m2 m3;go_enter func169,ntmps169;go_wp2;go_ret2;exact⟨rfl,rfl⟩
     ·have hfin:=mod_keep (a:=a) hb0 (Or.inr (by omega))
      have h1':b<0:=by omega
      rw[hfin];clear hfin hr hb1 m1 m2 m3;go_enter func169,ntmps169;go_wp2;go_ret2;exact⟨rfl,rfl⟩
theorem u64_neg(a:Int)(h1:-9223372036854775808≤a)(h2:a<0):IntKind.u64.wrap (0-IntKind.u64.wrap a)=(a.natAbs:Int):=by
 simp only[IntKind.wrap,IntKind.signed,IntKind.bits];simp;omega
theorem Rsize_any(a:Int)(w:World)(ha1:-9223372036854775808≤a)(ha2:a≤9223372036854775807):
  Calls prog 170 #[.int .i64 a] w fun e w'=>e=.returned (.int .u64 (a.natAbs:Int))∧w=w':=by
 by_cases hn:a<0
 ·obtain⟨u,hu⟩:=ex_ (IntKind.u64.wrap a)
  have hm:=u64_neg a ha1 hn;rw[hu,Int.zero_sub]at hm;obtain⟨m,hm2⟩:∃m:Int,(a.natAbs:Int)=m:=⟨_,rfl⟩;rw[hm2]at hm ⊢;clear hm2;go_enter func170,ntmps170;go_wp2;go_ret;exact⟨rfl,rfl⟩
 ·have hm:(a.natAbs:Int)=a:=by omega
  rw[hm];clear hm
  have h0:0≤a:=by omega
  have hu:IntKind.u64.wrap a=a:=by
   simp only[IntKind.wrap,IntKind.signed,IntKind.bits];simp;omega
  go_enter func170,ntmps170;go_wp2;go_ret;exact⟨rfl,rfl⟩
theorem mul_lim1{a b:Int}(hb:b≠0)(hs:a<0↔b<0):fits (a * b)=true↔¬(9223372036854775807 / (b.natAbs:Int)<(a.natAbs:Int)):=by
 have e:a * b=(a.natAbs:Int) * (b.natAbs:Int):=by
  by_cases h:a<0
  ·have h2:=hs.1 h
   rw[show (a.natAbs:Int) = -a by omega,show (b.natAbs:Int) = -b by omega,Int.neg_mul_neg]
  ·rw[show (a.natAbs:Int)=a by omega,show (b.natAbs:Int)=b by omega]
 have hb':(0:Int)<(b.natAbs:Int):=by omega
 have h1:=Int.le_ediv_iff_mul_le (a:=(a.natAbs:Int)) (b:=9223372036854775807) hb';have h0:0≤(a.natAbs:Int) * (b.natAbs:Int):=Int.mul_nonneg (by omega) (by omega);rw[fits_iff,e];omega
theorem mul_lim2{a b:Int}(hb:b≠0)(hs:¬(a<0↔b<0)):fits (a * b)=true↔¬(9223372036854775808 / (b.natAbs:Int)<(a.natAbs:Int)):=by
 have e:a * b = -((a.natAbs:Int) * (b.natAbs:Int)):=by
  by_cases h:a<0
  ·rw[show (a.natAbs:Int) = -a by omega,show (b.natAbs:Int)=b by omega,Int.neg_mul,Int.neg_neg]
  ·rw[show (a.natAbs:Int)=a by omega,show (b.natAbs:Int) = -b by omega,Int.mul_neg,Int.neg_neg]
 have hb':(0:Int)<(b.natAbs:Int):=by omega
 have h1:=Int.le_ediv_iff_mul_le (a:=(a.natAbs:Int)) (b:=9223372036854775808) hb';have h0:0≤(a.natAbs:Int) * (b.natAbs:Int):=Int.mul_nonneg (by omega) (by omega);rw[fits_iff,e];omega
theorem RMul_any(a b:Int)(w:World)(ha1:-9223372036854775808≤a)(ha2:a≤9223372036854775807)(hb1:-9223372036854775808≤b)(hb2:b≤9223372036854775807):
  Calls prog 167 #[.int .i64 a,.int .i64 b] w fun e w'=>e=.returned (.tuple #[.int .i64 (mulS a b).1,.int .i64 (mulS a b).2])∧w=w':=by
 by_cases hz:a=0
 ·subst hz
  rw[mul_zero1];go_enter func167,ntmps167;go_wp2;go_ret2;exact⟨rfl,rfl⟩
 have hz':(a==0)=false:=by rw[beq_eq_false_iff_ne];exact hz
 by_cases hb0:b=0
 ·subst hb0
  rw[mul_zero2];clear hz;go_enter func167,ntmps167;go_wp2;go_ret2;exact⟨rfl,rfl⟩
 have hb0':(b==0)=false:=by rw[beq_eq_false_iff_ne];exact hb0
 obtain⟨x,hx⟩:∃x:Int,(a.natAbs:Int)=x:=⟨_,rfl⟩;obtain⟨y,hy⟩:∃y:Int,(b.natAbs:Int)=y:=⟨_,rfl⟩
 have hx0:0≤x:=by omega
 have hy0:1≤y:=by omega
 have hx1:x≤9223372036854775808:=by omega
 have hy1:y≤9223372036854775808:=by omega
 have hyn:¬y=0:=by omega
 by_cases ha:a<0
 ·by_cases hb:b<0
  ·skip
   by_cases hf:fits (a * b)=true
   ·have hfin:=mul_ok hf
    rw[hfin];have hl:=(mul_lim1 hb0 (by omega)).1 hf;rw[hx,hy]at hl;have hw:wrap64 (a * b)=a * b:=IntWalk.wrap64_in _ ((fits_iff _).1 hf);obtain⟨f1,f2⟩:=(fits_iff _).1 hf;have HX:=h_ hx;clear hx;have HY:=h_ hy;clear hy;clear hf hfin;go_enter func167,ntmps167;go_wp2_with (go_at_call 170;refine(Rsize_any _ _ (by assumption) (by assumption)).mono ?_;(first|rw[HX.out]|rw[HY.out]);rintro e w' ⟨rfl,rfl⟩);go_ret2;exact⟨rfl,rfl⟩
   ·have hfin:=mul_no (a:=a) (b:=b) (by simpa using hf)
    rw[hfin]
    have hl:9223372036854775807 / y<x:=by
     have:=fun h=>hf ((mul_lim1 hb0 (by omega)).2 h);rw[hx,hy]at this;exact Decidable.not_not.1 this
    have HX:=h_ hx;clear hx;have HY:=h_ hy;clear hy;clear hf hfin;go_enter func167,ntmps167;go_wp2_with (go_at_call 170;refine(Rsize_any _ _ (by assumption) (by assumption)).mono ?_;(first|rw[HX.out]|rw[HY.out]);rintro e w' ⟨rfl,rfl⟩);go_ret2;exact⟨rfl,rfl⟩
  ·skip
   by_cases hf:fits (a * b)=true
   ·have hfin:=mul_ok hf
    rw[hfin];have hl:=(mul_lim2 hb0 (by omega)).1 hf;rw[hx,hy]at hl;have hw:wrap64 (a * b)=a * b:=IntWalk.wrap64_in _ ((fits_iff _).1 hf);obtain⟨f1,f2⟩:=(fits_iff _).1 hf;have HX:=h_ hx;clear hx;have HY:=h_ hy;clear hy;clear hf hfin;go_enter func167,ntmps167;go_wp2_with (go_at_call 170;refine(Rsize_any _ _ (by assumption) (by assumption)).mono ?_;(first|rw[HX.out]|rw[HY.out]);rintro e w' ⟨rfl,rfl⟩);go_ret2;exact⟨rfl,rfl⟩
   ·have hfin:=mul_no (a:=a) (b:=b) (by simpa using hf)
    rw[hfin]
    have hl:9223372036854775808 / y<x:=by
     have:=fun h=>hf ((mul_lim2 hb0 (by omega)).2 h);rw[hx,hy]at this;exact Decidable.not_not.1 this
    have HX:=h_ hx;clear hx;have HY:=h_ hy;clear hy;clear hf hfin;go_enter func167,ntmps167;go_wp2_with (go_at_call 170;refine(Rsize_any _ _ (by assumption) (by assumption)).mono ?_;(first|rw[HX.out]|rw[HY.out]);rintro e w' ⟨rfl,rfl⟩);go_ret2;exact⟨rfl,rfl⟩
 ·by_cases hb:b<0
  ·skip
   by_cases hf:fits (a * b)=true
   ·have hfin:=mul_ok hf
    rw[hfin];have hl:=(mul_lim2 hb0 (by omega)).1 hf;rw[hx,hy]at hl;have hw:wrap64 (a * b)=a * b:=IntWalk.wrap64_in _ ((fits_iff _).1 hf);obtain⟨f1,f2⟩:=(fits_iff _).1 hf;have HX:=h_ hx;clear hx;have HY:=h_ hy;clear hy;clear hf hfin;go_enter func167,ntmps167;go_wp2_with (go_at_call 170;refine(Rsize_any _ _ (by assumption) (by assumption)).mono ?_;(first|rw[HX.out]|rw[HY.out]);rintro e w' ⟨rfl,rfl⟩);go_ret2;exact⟨rfl,rfl⟩
   ·have hfin:=mul_no (a:=a) (b:=b) (by simpa using hf)
    rw[hfin]
    have hl:9223372036854775808 / y<x:=by
     have:=fun h=>hf ((mul_lim2 hb0 (by omega)).2 h);rw[hx,hy]at this;exact Decidable.not_not.1 this
    have HX:=h_ hx;clear hx;have HY:=h_ hy;clear hy;clear hf hfin;go_enter func167,ntmps167;go_wp2_with (go_at_call 170;refine(Rsize_any _ _ (by assumption) (by assumption)).mono ?_;(first|rw[HX.out]|rw[HY.out]);rintro e w' ⟨rfl,rfl⟩);go_ret2;exact⟨rfl,rfl⟩
  ·skip
   by_cases hf:fits (a * b)=true
   ·have hfin:=mul_ok hf
    rw[hfin];have hl:=(mul_lim1 hb0 (by omega)).1 hf;rw[hx,hy]at hl;have hw:wrap64 (a * b)=a * b:=IntWalk.wrap64_in _ ((fits_iff _).1 hf);obtain⟨f1,f2⟩:=(fits_iff _).1 hf;have HX:=h_ hx;clear hx;have HY:=h_ hy;clear hy;clear hf hfin;go_enter func167,ntmps167;go_wp2_with (go_at_call 170;refine(Rsize_any _ _ (by assumption) (by assumption)).mono ?_;(first|rw[HX.out]|rw[HY.out]);rintro e w' ⟨rfl,rfl⟩);go_ret2;exact⟨rfl,rfl⟩
   ·have hfin:=mul_no (a:=a) (b:=b) (by simpa using hf)
    rw[hfin]
    have hl:9223372036854775807 / y<x:=by
     have:=fun h=>hf ((mul_lim1 hb0 (by omega)).2 h);rw[hx,hy]at this;exact Decidable.not_not.1 this
    have HX:=h_ hx;clear hx;have HY:=h_ hy;clear hy;clear hf hfin;go_enter func167,ntmps167;go_wp2_with (go_at_call 170;refine(Rsize_any _ _ (by assumption) (by assumption)).mono ?_;(first|rw[HX.out]|rw[HY.out]);rintro e w' ⟨rfl,rfl⟩);go_ret2;exact⟨rfl,rfl⟩
end Go.Proofs.YtnglaegofhpleaaGreatDoor
namespace Go.Proofs
open Go.Shelf
def Tryz.slashName0 : String := Go.Proofs.YtnglaegofhpleaaGreatDoor.Rows.vmRunsRow.named.getD 2 ""
def Tryz.laysM173_ren:Go.Shelf.Ren:=⟨fun|173=>173|246=>186|283=>190|284=>191|285=>192|286=>193|129=>198|317=>197|318=>199|319=>200|320=>201|337=>204|338=>205|n=>n,fun|2=>2|3=>3|9=>9|4=>4|171=>207|0=>0|53=>121|37=>195|5=>5|173=>210|212=>215|51=>162|20=>20|213=>216|46=>170|232=>220|233=>221|n=>n,fun|17=>2|18=>4|19=>5|n=>n⟩
theorem Tryz.laysM173:Go.Proofs.LaysM.n173 Tryz.prog Tryz.laysM173_ren:={
 mixed:=by kernel_rfl
 f129:=Tryz.func198.trans (congrArg some (by kernel_rfl))
 f173:=Tryz.func173.trans (congrArg some (by kernel_rfl))
 f246:=Tryz.func186.trans (congrArg some (by kernel_rfl))
 f283:=Tryz.func190.trans (congrArg some (by kernel_rfl))
 f284:=Tryz.func191.trans (congrArg some (by kernel_rfl))
 f285:=Tryz.func192.trans (congrArg some (by kernel_rfl))
 f286:=Tryz.func193.trans (congrArg some (by kernel_rfl))
 f317:=Tryz.func197.trans (congrArg some (by kernel_rfl))
 f318:=Tryz.func199.trans (congrArg some (by kernel_rfl))
 f319:=Tryz.func200.trans (congrArg some (by kernel_rfl))
 f320:=Tryz.func201.trans (congrArg some (by kernel_rfl))
 f337:=Tryz.func204.trans (congrArg some (by kernel_rfl))
 f338:=Tryz.func205.trans (congrArg some (by kernel_rfl))
 t0:=Tryz.underlying0
 a0:=Tryz.isAgg0
 z0:=Tryz.sizeOf0
 v0:=Tryz.zeroValue0
 t2:=Tryz.underlying2
 a2:=Tryz.isAgg2
 z2:=Tryz.sizeOf2
 v2:=Tryz.zeroValue2
 t3:=Tryz.underlying3
 a3:=Tryz.isAgg3
 z3:=Tryz.sizeOf3
 v3:=Tryz.zeroValue3
 t4:=Tryz.underlying4
 a4:=Tryz.isAgg4
 z4:=Tryz.sizeOf4
 v4:=Tryz.zeroValue4
 t5:=Tryz.underlying5
 a5:=Tryz.isAgg5
 z5:=Tryz.sizeOf5
 v5:=Tryz.zeroValue5
 t9:=Tryz.underlying9
 a9:=Tryz.isAgg9
 z9:=Tryz.sizeOf9
 v9:=Tryz.zeroValue9
 t20:=Tryz.underlying20
 a20:=Tryz.isAgg20
 z20:=Tryz.sizeOf20
 v20:=Tryz.zeroValue20
 t37:=Tryz.underlying195
 a37:=Tryz.isAgg195
 z37:=Tryz.sizeOf195
 v37:=Tryz.zeroValue195
 t46:=Tryz.underlying170
 a46:=Tryz.isAgg170
 z46:=Tryz.sizeOf170
 v46:=Tryz.zeroValue170
 t51:=Tryz.underlying162
 a51:=Tryz.isAgg162
 z51:=Tryz.sizeOf162
 v51:=Tryz.zeroValue162
 t53:=Tryz.underlying121
 a53:=Tryz.isAgg121
 z53:=Tryz.sizeOf121
 v53:=Tryz.zeroValue121
 t171:=Tryz.underlying207
 a171:=Tryz.isAgg207
 z171:=Tryz.sizeOf207
 v171:=Tryz.zeroValue207
 t173:=Tryz.underlying210
 a173:=Tryz.isAgg210
 z173:=Tryz.sizeOf210
 v173:=Tryz.zeroValue210
 t212:=Tryz.underlying215
 a212:=Tryz.isAgg215
 z212:=Tryz.sizeOf215
 v212:=Tryz.zeroValue215
 t213:=Tryz.underlying216
 a213:=Tryz.isAgg216
 z213:=Tryz.sizeOf216
 t232:=Tryz.underlying220
 a232:=Tryz.isAgg220
 z232:=Tryz.sizeOf220
 v232:=Tryz.zeroValue220
 t233:=Tryz.underlying221
 a233:=Tryz.isAgg221
 z233:=Tryz.sizeOf221
 v233:=Tryz.zeroValue221
 g17:=by kernel_rfl
 g18:=by kernel_rfl
 g19:=by kernel_rfl
 i0:=by kernel_rfl
 i2:=by kernel_rfl
 i3:=by kernel_rfl
 i4:=by kernel_rfl
 i5:=by kernel_rfl
 i9:=by kernel_rfl
 i20:=by kernel_rfl
 i37:=by kernel_rfl
 i46:=by kernel_rfl
 i51:=by kernel_rfl
 i53:=by kernel_rfl
 i171:=by kernel_rfl
 i173:=by kernel_rfl
 i212:=by kernel_rfl
 i232:=by kernel_rfl
 i233:=by kernel_rfl
 m17:=by kernel_rfl
 m18:=by kernel_rfl
 m19:=by kernel_rfl }
open Go.RowKit Go.Sort Go.Lib in
theorem Tryz.strconv_FormatInt_10(n:Int)(h0:-9223372036854775808≤n)(h1:n≤9223372036854775807)(w:World)(htab:Lib.TabIs Tryz.prog w Tryz.slashName0 .u64 Lib.pow10Tab):
  Calls Tryz.prog 173 #[.int .i64 n,.int .i64 10] w fun e w'=>e=.returned (.string ⟨(Lib.itoa n).toArray⟩)∧∃k os,w'=grow (w.drewN k) os:=Any.strconv_FormatInt_10 Tryz.laysM173 n h0 h1 w htab
def Tryz.lays106_ren:Go.Shelf.Ren:=⟨fun|106=>196|213=>203|265=>206|n=>n,fun|9=>9|3=>3|n=>n,fun|n=>n⟩
theorem Tryz.lays106:Go.Proofs.Lays.n106 Tryz.prog Tryz.lays106_ren:={
 mixed:=by kernel_rfl
 f106:=Tryz.func196.trans (congrArg some (by kernel_rfl))
 f213:=Tryz.func203.trans (congrArg some (by kernel_rfl))
 f265:=Tryz.func206.trans (congrArg some (by kernel_rfl))
 t3:=Tryz.underlying3
 a3:=Tryz.isAgg3
 z3:=Tryz.sizeOf3
 v3:=Tryz.zeroValue3
 t9:=Tryz.underlying9
 a9:=Tryz.isAgg9
 z9:=Tryz.sizeOf9
 v9:=Tryz.zeroValue9 }
open Go.RowKit in
theorem Tryz.strings_Compare(a b:ByteArray)(w:World):
  Calls Tryz.prog 196 #[.string a,.string b] w fun e w'=>e=.returned (.int .i64 (Lib.compareBytes a.data.toList b.data.toList))∧w'=w:=Any.strings_Compare Tryz.lays106 a b w
def Tryz.lays122_ren:Go.Shelf.Ren:=⟨fun|122=>187|215=>194|n=>n,fun|3=>3|4=>4|n=>n,fun|n=>n⟩
theorem Tryz.lays122:Go.Proofs.Lays.n122 Tryz.prog Tryz.lays122_ren:={
 mixed:=by kernel_rfl
 f122:=Tryz.func187.trans (congrArg some (by kernel_rfl))
 f215:=Tryz.func194.trans (congrArg some (by kernel_rfl))
 t3:=Tryz.underlying3
 a3:=Tryz.isAgg3
 z3:=Tryz.sizeOf3
 v3:=Tryz.zeroValue3
 t4:=Tryz.underlying4
 a4:=Tryz.isAgg4
 z4:=Tryz.sizeOf4
 v4:=Tryz.zeroValue4 }
open Go.RowKit in
theorem Tryz.cmp_Compare_int(x y:Int)(w:World):
  Calls Tryz.prog 187 #[.int .i64 x,.int .i64 y] w fun e w'=>e=.returned (.int .i64 (Lib.compareInt x y))∧w'=w:=Any.cmp_Compare_int Tryz.lays122 x y w
def Tryz.lays157_ren:Go.Shelf.Ren:=⟨fun|157=>83|229=>108|199=>109|261=>131|311=>153|312=>154|n=>n,fun|9=>9|31=>27|3=>3|5=>5|4=>4|119=>130|0=>0|40=>132|152=>159|21=>21|154=>161|51=>162|141=>164|196=>183|193=>180|198=>186|49=>184|194=>181|201=>189|226=>196|46=>170|227=>197|n=>n,fun|0=>0|6=>1|n=>n⟩
theorem Tryz.lays157:Go.Proofs.Lays.n157 Tryz.prog Tryz.lays157_ren:={
 mixed:=by kernel_rfl
 f157:=Tryz.func83.trans (congrArg some (by kernel_rfl))
 f199:=Tryz.func109.trans (congrArg some (by kernel_rfl))
 f229:=Tryz.func108.trans (congrArg some (by kernel_rfl))
 f261:=Tryz.func131.trans (congrArg some (by kernel_rfl))
 f311:=Tryz.func153.trans (congrArg some (by kernel_rfl))
 f312:=Tryz.func154.trans (congrArg some (by kernel_rfl))
 t0:=Tryz.underlying0
 a0:=Tryz.isAgg0
 z0:=Tryz.sizeOf0
 v0:=Tryz.zeroValue0
 t3:=Tryz.underlying3
 a3:=Tryz.isAgg3
 z3:=Tryz.sizeOf3
 v3:=Tryz.zeroValue3
 t4:=Tryz.underlying4
 a4:=Tryz.isAgg4
 z4:=Tryz.sizeOf4
 v4:=Tryz.zeroValue4
 t5:=Tryz.underlying5
 a5:=Tryz.isAgg5
 z5:=Tryz.sizeOf5
 v5:=Tryz.zeroValue5
 t9:=Tryz.underlying9
 a9:=Tryz.isAgg9
 z9:=Tryz.sizeOf9
 v9:=Tryz.zeroValue9
 t21:=Tryz.underlying21
 a21:=Tryz.isAgg21
 z21:=Tryz.sizeOf21
 v21:=Tryz.zeroValue21
 t31:=Tryz.underlying27
 a31:=Tryz.isAgg27
 z31:=Tryz.sizeOf27
 v31:=Tryz.zeroValue27
 t40:=Tryz.underlying132
 a40:=Tryz.isAgg132
 z40:=Tryz.sizeOf132
 v40:=Tryz.zeroValue132
 t46:=Tryz.underlying170
 a46:=Tryz.isAgg170
 z46:=Tryz.sizeOf170
 v46:=Tryz.zeroValue170
 t49:=Tryz.underlying184
 a49:=Tryz.isAgg184
 z49:=Tryz.sizeOf184
 v49:=Tryz.zeroValue184
 t51:=Tryz.underlying162
 a51:=Tryz.isAgg162
 z51:=Tryz.sizeOf162
 v51:=Tryz.zeroValue162
 t119:=Tryz.underlying130
 a119:=Tryz.isAgg130
 z119:=Tryz.sizeOf130
 t141:=Tryz.underlying164
 a141:=Tryz.isAgg164
 z141:=Tryz.sizeOf164
 v141:=Tryz.zeroValue164
 t152:=Tryz.underlying159
 a152:=Tryz.isAgg159
 z152:=Tryz.sizeOf159
 v152:=Tryz.zeroValue159
 t154:=Tryz.underlying161
 a154:=Tryz.isAgg161
 z154:=Tryz.sizeOf161
 v154:=Tryz.zeroValue161
 t193:=Tryz.underlying180
 a193:=Tryz.isAgg180
 z193:=Tryz.sizeOf180
 v193:=Tryz.zeroValue180
 t194:=Tryz.underlying181
 a194:=Tryz.isAgg181
 z194:=Tryz.sizeOf181
 v194:=Tryz.zeroValue181
 t196:=Tryz.underlying183
 a196:=Tryz.isAgg183
 z196:=Tryz.sizeOf183
 v196:=Tryz.zeroValue183
 t198:=Tryz.underlying186
 a198:=Tryz.isAgg186
 z198:=Tryz.sizeOf186
 v198:=Tryz.zeroValue186
 t201:=Tryz.underlying189
 a201:=Tryz.isAgg189
 z201:=Tryz.sizeOf189
 v201:=Tryz.zeroValue189
 t226:=Tryz.underlying196
 a226:=Tryz.isAgg196
 z226:=Tryz.sizeOf196
 v226:=Tryz.zeroValue196
 t227:=Tryz.underlying197
 a227:=Tryz.isAgg197
 z227:=Tryz.sizeOf197
 v227:=Tryz.zeroValue197
 g0:=by kernel_rfl
 g6:=by kernel_rfl }
open Go.RowKit Go.Lib in
theorem Tryz.strings_Fields (s : ByteArray) (w : World) (hs : s.size < 4294967281) (hascii : ∀ (j : Nat) b, s.data.toList[j]? = some b → b.toNat < 128) (htab : Lib.TabIs Tryz.prog w "strings.asciiSpace" .u8 Lib.asciiSpaceTab) :
  Calls Tryz.prog 83 #[.string s] w fun e w' =>
   e=.returned (.slice (some ⟨w.heap.size,0,none⟩) (Lib.fields s.data.toList).length (Lib.fields s.data.toList).length)∧w'=w.alloc (.cells ((Lib.fields s.data.toList).map fun l=>Value.string ⟨l.toArray⟩).toArray 9):=Any.strings_Fields Tryz.lays157 (by kernel_rfl) (by kernel_rfl) s w hs hascii htab
def Tryz.lays110_ren:Go.Shelf.Ren:=⟨fun|110=>96|109=>123|n=>n,fun|31=>27|9=>9|4=>4|3=>3|0=>0|n=>n,fun|n=>n⟩
theorem Tryz.lays110:Go.Proofs.Lays.n110 Tryz.prog Tryz.lays110_ren:={
 mixed:=by kernel_rfl
 f109:=Tryz.func123.trans (congrArg some (by kernel_rfl))
 f110:=Tryz.func96.trans (congrArg some (by kernel_rfl))
 t0:=Tryz.underlying0
 a0:=Tryz.isAgg0
 z0:=Tryz.sizeOf0
 v0:=Tryz.zeroValue0
 t3:=Tryz.underlying3
 a3:=Tryz.isAgg3
 z3:=Tryz.sizeOf3
 v3:=Tryz.zeroValue3
 t4:=Tryz.underlying4
 a4:=Tryz.isAgg4
 z4:=Tryz.sizeOf4
 v4:=Tryz.zeroValue4
 t9:=Tryz.underlying9
 a9:=Tryz.isAgg9
 z9:=Tryz.sizeOf9
 v9:=Tryz.zeroValue9
 t31:=Tryz.underlying27
 a31:=Tryz.isAgg27
 z31:=Tryz.sizeOf27
 v31:=Tryz.zeroValue27 }
open Go.Lib in
theorem Tryz.slices_Contains_string(b off n c:Nat)(zs:List ByteArray)(x:ByteArray)(w:World)(hz:n≤zs.length)(hbig:n≤9223372036854775807)(hc:∀j,j<zs.length→w.cell? ⟨b,off+j,none⟩=some (.string (zs.getD j ByteArray.empty))):
  Calls Tryz.prog 96 #[.slice (some ⟨b,off,none⟩) n c,.string x] w fun e w'=>e=.returned (.bool (Lib.containsS (zs.take n) x))∧w'=w:=Any.slices_Contains_string Tryz.lays110 b off n c zs x w hz hbig hc
open Go.Lib in
theorem Tryz.slices_Contains_string_empty(a:Option Addr)(c:Nat)(x:ByteArray)(w:World):
  Calls Tryz.prog 96 #[.slice a 0 c,.string x] w fun e w'=>e=.returned (.bool false)∧w'=w:=Any.slices_Contains_string_empty Tryz.lays110 a c x w
end Go.Proofs
namespace Go.Proofs.YtnglaegofhpleaaGreatDoor
open Go.RowKit Go.Proofs.Tryz
def Laid (W:World):Prop:=Lib.TabIs prog W Tryz.slashName0 .u64 Lib.pow10Tab∧True
theorem gTab:prog.globalNamed Tryz.slashName0=some 2:=by kernel_rfl
theorem Laid.below{W W':World}(h:Laid W)(hb:Below W.heap.size W W'):Laid W':=by
 obtain⟨h1,_⟩:=h;refine⟨?_,True.intro⟩;unfold Lib.TabIs at h1 ⊢;exact Joins.var_stays gTab h1 hb (Nat.le_refl _)
theorem Format_any(n:Int)(w:World)(h0:-9223372036854775808≤n)(h1:n≤9223372036854775807)(hL:Laid w):
  Calls prog 160 #[.int .i64 n] w fun e w'=>e=.returned (.string (bs (Lib.itoa n)))∧Below w.heap.size w w':=by
 go_enter func160,ntmps160;go_wp2_with (go_at_call 173;refine(Tryz.strconv_FormatInt_10 _ h0 h1 _ hL.1).mono ?_;rintro e w' ⟨rfl,k,os,rfl⟩);go_ret;exact⟨rfl,Lib.below_grow _ _ (Nat.le_refl _) _ _⟩
def fin (u:Nat) (l:List UInt8):List UInt8:=if u=0∧l≠[] then l else Lib.decDigits u++l
def dgt (u:Nat):UInt8:=UInt8.ofNat (48+u % 10)
theorem fin_step(u:Nat)(l:List UInt8)(h:¬(u=0∧l≠[])):fin (u / 10) (dgt u::l)=fin u l:=by
 unfold fin dgt;rw[if_neg h,decDigits_step u];by_cases h1:u<10
 ·rw[if_pos h1,if_pos ⟨by omega,by simp⟩];rfl
 ·rw[if_neg h1,if_neg (by intro h2;omega)];simp
theorem byt_dig(u:Nat):byt (48+(u:Int) % 10)=dgt u:=by
 unfold byt dgt;rw[show (48+(u:Int) % 10).toNat=48+u % 10 by omega]
def fmtMu (u s:Value):Nat:=(intOf u).toNat+(match s with|.string s=>(if s.size=0 then 1 else 0)|_=>0)
theorem itoa_cases(n:Int):Lib.itoa n=if n<0 then 45::Lib.decDigits n.natAbs else Lib.decDigits n.natAbs:=by
 unfold Lib.itoa;by_cases h:n<0
 ·rw[if_pos h,if_pos h]
 ·rw[if_neg h,if_neg h,show n.toNat=n.natAbs by omega]
theorem RFormat_any(n:Int)(w:World)(h0:-9223372036854775808≤n)(h1:n≤9223372036854775807):
  Calls prog 149 #[.int .i64 n] w fun e w'=>e=.returned (.string (bs (Lib.itoa n)))∧Below w.heap.size w w':=by
 obtain⟨N,hN⟩:=ex_ (n.natAbs)
 have hN1:N≤9223372036854775808:=by omega
 have hfin:=itoa_cases n;rw[hN]at hfin;rw[hfin];have HN:=h_ hN;clear hN hfin
 have hs0:fin N []=Lib.decDigits N:=by unfold fin;rw[if_neg (by simp)];simp
 have HS0:=h_ hs0;clear hs0;go_enter func149,ntmps149;go_wp2_with (go_at_call 170;refine(Rsize_any _ _ h0 h1).mono ?_;rw[HN.out];rintro e w' ⟨rfl,rfl⟩);go_loopw [3,4] (fun t3 t4 wr=>∃(u:Nat) (l:List UInt8),t3=.int .u64 (u:Int)∧t4=.string (bs l)∧u≤9223372036854775808∧fin u l=Lib.decDigits N∧Below w.heap.size w wr) (fun t3 t4 _=>fmtMu t3 t4)
 case atStart=>exact⟨N,[],rfl,rfl,hN1,HS0.out,Below.refl _ _⟩
 case round =>
  obtain⟨u,l,rfl,rfl,hu,hf,hb⟩:=hrel
  have hl:l.length≤20:=by
   have h2:l.length≤(fin u l).length:=by
    unfold fin;split
    ·exact Nat.le_refl _
    ·rw[List.length_append];omega
   rw[hf,Lib.decDigits_length]at h2;exact Nat.le_trans h2 (Lib.nDigits_le20 N (by omega))
  have HF:=h_ hf;clear hf;have hcv:=fun (W:World) cap=>run_str_one (P:=prog) W (48+(u:Int) % 10) 5 195 9 cap underlying195 underlying5 underlying9 (by omega) (by omega);rw[byt_dig]at hcv;by_cases hgo:u=0∧l≠[]
  ·obtain⟨hu0,hl0⟩:=hgo
   have he:l.isEmpty=false:=by simpa using hl0
   have hle:l=Lib.decDigits N:=by rw[←HF.out];unfold fin;rw[if_pos ⟨hu0,hl0⟩]
   have HLE:=h_ hle;clear hle hl0 HF hcv
   have hu1:¬(0:Int)<(u:Int):=by omega
   clear hu0;by_cases hn:n<0
   ·go_wp2
    go_ret;exact⟨ret_bs (by(try rw[if_pos hn]);(try rw[toList_bs]);rw[HLE.out];rfl),hb⟩
   ·go_wp2
    go_ret;exact⟨ret_bs (by(try rw[if_neg (Int.not_lt.2 hn)]);rw[HLE.out]),hb⟩
  ·have hst:=fin_step u l hgo
   rw[HF.out]at hst;have HST:=h_ hst;clear hst
   have hmu:fmtMu (.int .u64 ((u / 10:Nat):Int)) (.string (bs (dgt u::l)))<fmtMu (.int .u64 (u:Int)) (.string (bs l)):=by
    unfold fmtMu;by_cases h0:l=[]
    ·subst h0;simp[intOf,bs_size];omega
    ·have h1:u≠0:=fun h=>hgo ⟨h,h0⟩
     have h2:l.length≠0:=by simpa using h0
     simp[intOf,bs_size,h2];omega
   have HMU:=h_ hmu;clear hmu;by_cases hu0:0<u
   ·have hpos:(0:Int)<(u:Int):=by omega
    clear hgo;go_wp2;go_roundw
    case rel=>exact⟨u / 10,_,by go_num,rfl,by omega,HST.out,hb.alloc hb.size _⟩
    case measure=>exact HMU.out
   ·have hpos:¬(0:Int)<(u:Int):=by omega
    have he:l.isEmpty=true:=by
     by_cases h0:l=[]
     ·rw[h0];rfl
     ·exact absurd ⟨by omega,h0⟩ hgo
    clear hgo;go_wp2;go_roundw
    case rel=>exact⟨u / 10,_,by go_num,rfl,by omega,HST.out,hb.alloc hb.size _⟩
    case measure=>exact HMU.out
theorem Tryz.info9:(prog.info? 9).map (fun i=>(i.zero,i.size,i.bytes))=some (some (.string ⟨#[]⟩),1,16):=by kernel_rfl
def strV (l:List UInt8):Value:=.string (bs l)
theorem own_below{B:Nat}{e:TypeId}{k:Nat}{v:Value}{n:Nat}{xs:List Value}{w w':World}(h:w.ownsRow B e k v n xs)(hb:Below w.heap.size w w'):w'.ownsRow B e k v n xs:=
 h.kept (row:=none) ⟨hb.os,hb.tape,hb.output,hb.size,fun j hj _=>hb.block j hj⟩ (by cases hv:v.ownBlock<;>simp)
theorem own_mono{w:World}{base base' size n:Nat}{e:TypeId}{v:Value}{xs:List Value}(h:w.ownsRow base e size v n xs)(hb:base'≤base):w.ownsRow base' e size v n xs:=by
 refine⟨h.1,?_⟩;rcases h.2 with hn|⟨g,cap,cur,h1,h2,h3⟩
 ·exact .inl hn
 ·exact .inr ⟨g,cap,cur,h1,by omega,h3⟩
theorem own_form{w:World}{base size n:Nat}{e:TypeId}{v:Value}{xs:List Value}(h:w.ownsRow base e size v n xs):(v=.slice none 0 0∧n=0)∨∃g cap,v=.slice (some ⟨g,0,none⟩) n cap∧n≤cap∧base≤g:=by
 rcases h.2 with hn|⟨g,cap,cur,h1,h2,h3,h4,_⟩
 ·exact .inl hn
 ·exact .inr ⟨g,cap,h1,h4,h2⟩
def StrS (W:World) (v:Value) (L:List (List UInt8)):Prop:=
 ∃a cap,v=.slice a L.length cap∧L.length≤cap∧(L≠[]→∃b off,a=some ⟨b,off,none⟩∧∀i (h:i<L.length),W.cell? ⟨b,off+i,none⟩=some (strV L[i]))
theorem StrS.below{W W':World}{v:Value}{L:List (List UInt8)}(h:StrS W v L)(hb:Below W.heap.size W W'):StrS W' v L:=by
 obtain⟨a,cap,rfl,hc,hL⟩:=h;refine⟨a,cap,rfl,hc,fun hne=>?_⟩;obtain⟨b,off,rfl,hcell⟩:=hL hne;refine⟨b,off,rfl,fun i hi=>?_⟩;have:=hcell i hi;rw[(bcell hb).1 _ _ (World.block_lt_of_cell? W _ this)];exact this
theorem StrS.of_own{W:World}{B:Nat}{v:Value}{L:List (List UInt8)}(h:W.ownsRow B 9 1 v L.length (L.map strV)):StrS W v L:=by
 rcases own_form h with ⟨rfl,h0⟩|⟨g,cap,rfl,hc,_⟩
 ·have:L=[]:=List.eq_nil_of_length_eq_zero h0
  subst this;exact⟨none,0,rfl,Nat.le_refl _,fun hne=>absurd rfl hne⟩
 ·refine⟨_,cap,rfl,hc,fun _=>⟨g,0,rfl,fun i hi=>?_⟩⟩
  have:=h.cells (g:=g) rfl i (strV L[i]) (by simp[hi])
  have e:(⟨g,0,none⟩:Addr).add i=⟨g,0+i,none⟩:=by unfold Addr.add;split<;>simp_all
  rw[←e];exact this
theorem wpList_append_str{w1:World}{ops:Array Oper}{rest:List Oper}{o:Oper}{a:Act}{Q:Exit→Act→World→Prop}(hgd:o.guard=none)(s x:Operand)
  (ho:o.op=.call { callee:=.builtin .append,args:=#[s,x],argTypes:=#[27,27] }) (B:Nat) (v:Value) (L:List (List UInt8)) (y:List UInt8) (hown:w1.ownsRow B 9 1 v L.length (L.map strV))
  (hs:a.eval s=v) (hx:a.eval x=.slice (some ⟨w1.heap.size,0,none⟩) 1 1) (hlen:L.length≤1000000000000) (W0:World) (hbel:Below B W0 w1) (hB:B≤w1.heap.size)
  (h:∀v' w',w'.ownsRow B 9 1 v' (L++[y]).length ((L++[y]).map strV)→Below B W0 w'→w1.grownBy w' v.ownBlock→wpList prog ops Q rest (a.put o.dst v') w'):
  wpList prog ops Q (o::rest) a (w1.alloc (.cells #[.string (bs y)] 9)):=by
 obtain⟨i0,hi,hz0,hz1,hz2⟩:=info_parts Tryz.info9;refine wpList_append_own _ hgd s x 27 ho B 9 i0 (.string ⟨#[]⟩) 1 16 underlying27 hi hz0 hz1 hz2 rfl (by decide) v L.length (L.map strV) hs (hown.alloc _) ⟨w1.heap.size,0,none⟩ 1 1 [strV y] hx rfl ?_ ?_ ?_ ?_ ?_ ?_
 ·exact cell_one_new _ _ _
 ·intro u hu;simp at hu;subst hu;rfl
 ·unfold maxLen;omega
 ·omega
 ·simp;omega
 ·intro v' w2 hown2 hgrow _
  refine h v' w2 (by simpa using hown2) ?_ ?_
  ·refine(hbel.alloc hB _).grown hgrow (by simp;omega) ?_
   intro k hk;exact(hown.lt k hk).1
  ·exact⟨hgrow.os,hgrow.tape,hgrow.output,Nat.le_trans (by simp) hgrow.size,fun k hk hne=>(hgrow.block k (by simp;omega) hne).trans ((World.grownBy_alloc w1 (.cells #[.string (bs y)] 9) none).block k hk (by simp))⟩
theorem run_append_none_cap{P:Program}{w:World}(base:Nat)(t ty e:TypeId)(i:TypeInfo)(size:Nat)(ht:P.underlying t=some (.slice e))(hi:P.info? e=some i)
  (v:Value) (n c:Nat) (xs:List Value) (hown:w.ownsRow base e size v n xs):(Builtin.append_ #[t,t] ty #[v,.slice none 0 c]).run P w=.ok v w:=by
 rcases hown.2 with ⟨rfl,rfl⟩|⟨g,cap,cur,rfl,_,_,hnc,_⟩
 ·simp[Builtin.append_,run_underlying ht,sizeOf,typeInfo,hi,Builtin.lenOf,Builtin.firstCells]
 ·simp[Builtin.append_,run_underlying ht,sizeOf,typeInfo,hi,Builtin.lenOf,Builtin.firstCells,hnc,storeCells]
theorem wpList_append_strs{w1:World}{ops:Array Oper}{rest:List Oper}{o:Oper}{a:Act}{Q:Exit→Act→World→Prop}(hgd:o.guard=none)(s x:Operand)
  (ho:o.op=.call { callee:=.builtin .append,args:=#[s,x],argTypes:=#[27,27] }) (B:Nat) (v u:Value) (L M:List (List UInt8)) (hown:w1.ownsRow B 9 1 v L.length (L.map strV)) (hS:StrS w1 u M)
  (hs:a.eval s=v) (hx:a.eval x=u) (hlen:L.length≤1000000000000) (hlen2:M.length≤1000000000000) (W0:World) (hbel:Below B W0 w1) (hB:B≤w1.heap.size)
  (h:∀v' w',w'.ownsRow B 9 1 v' (L++M).length ((L++M).map strV)→Below B W0 w'→wpList prog ops Q rest (a.put o.dst v') w'):
  wpList prog ops Q (o::rest) a w1:=by
 obtain⟨i0,hi,hz0,hz1,hz2⟩:=info_parts Tryz.info9;obtain⟨ad,cap,rfl,hcap,hcell⟩:=hS
 cases ad with
 | none =>
  have hM:M=[]:=by
   rcases M with _|⟨m,M'⟩
   ·rfl
   ·obtain⟨b,off,hh,_⟩:=hcell (by simp)
    cases hh
  subst hM;refine wpList_plain hgd fun K hK=>?_;have hrun:=run_append_none_cap (P:=prog) (w:=w1) B 27 o.type 9 i0 1 underlying27 hi v L.length cap (L.map strV) hown;unfold Oper.wp;simp[execOp,ho,resolve,invoke,builtin,hs,hx,hrun,Result.andThen];exact hK _ _ (h v w1 (by simpa using hown) hbel)
 | some ad =>
  have hnews:∀j y,(M.map strV)[j]? = some y→w1.cell? (ad.add j)=some y:=by
   intro j y hj;rw[List.getElem?_map]at hj;rcases Nat.lt_or_ge j M.length with hjl|hjl
   ·rw[List.getElem?_eq_getElem hjl]at hj
    simp only[Option.map_some,Option.some.injEq]at hj;subst hj;obtain⟨b,off,hh,hc⟩:=hcell (by intro h0;rw[h0]at hjl;simp at hjl);cases hh
    have e:(⟨b,off,none⟩:Addr).add j=⟨b,off+j,none⟩:=by unfold Addr.add;split<;>simp_all
    rw[e];exact hc j hjl
   ·rw[List.getElem?_eq_none hjl]at hj;cases hj
  refine wpList_append_own _ hgd s x 27 ho B 9 i0 (.string ⟨#[]⟩) 1 16 underlying27 hi hz0 hz1 hz2 rfl (by decide) v L.length (L.map strV) hs hown ad M.length cap (M.map strV) hx (by simp) hnews ?_ ?_ ?_ hB ?_
  ·intro y hy
   obtain⟨z,_,rfl⟩:=List.mem_map.1 hy;rfl
  ·unfold maxLen;omega
  ·omega
  ·intro v' w2 hown2 hgrow _
   refine h v' w2 (by simpa using hown2) (hbel.grown hgrow hB ?_);intro k hk;exact(hown.lt k hk).1
def CellsAt (W:World) (u:Value) (n:Nat) (xs:List Value):Prop:=
 ∃ad cap,u=.slice ad n cap∧(xs≠[]→∃b off,ad=some ⟨b,off,none⟩∧∀j y,xs[j]? = some y→W.cell? ⟨b,off+j,none⟩=some y)
theorem CellsAt.below{W W':World}{u:Value}{n:Nat}{xs:List Value}(h:CellsAt W u n xs)(hb:Below W.heap.size W W'):CellsAt W' u n xs:=by
 obtain⟨ad,cap,rfl,hx⟩:=h;refine⟨ad,cap,rfl,fun hne=>?_⟩;obtain⟨b,off,rfl,hc⟩:=hx hne;refine⟨b,off,rfl,fun j y hj=>?_⟩;have:=hc j y hj;rw[(bcell hb).1 _ _ (World.block_lt_of_cell? W _ this)];exact this
theorem wpList_append_any{P:Program}{w1:World}{ops:Array Oper}{rest:List Oper}{o:Oper}{a:Act}{Q:Exit→Act→World→Prop}(hgd:o.guard=none)(s x:Operand)(t:TypeId)
  (ho:o.op=.call { callee:=.builtin .append,args:=#[s,x],argTypes:=#[t,t] })
  (B:Nat) (e:TypeId) (i:TypeInfo) (z:Value) (size bytes:Nat) (ht:P.underlying t=some (.slice e)) (hi:P.info? e=some i) (hz:i.zero=some z)
  (hsize:i.size=size) (hby:i.bytes=bytes) (hzs:z.cells.size=size) (hsz:0<size)
  (v u:Value) (n m:Nat) (xs ys:List Value) (hs:a.eval s=v) (hown:w1.ownsRow B e size v n xs) (hx:a.eval x=u) (hU:CellsAt w1 u m ys) (hl:ys.length=m * size) (h1:∀y∈ys,y.oneCell'=true)
  (h63:n+m≤maxLen) (hbytes:((n+m)+(n+m) / 4+192) * bytes≤281474976710656) (W0:World) (B0:Nat) (hbel:Below B0 W0 w1) (hB:B≤w1.heap.size) (hB0:B0≤B)
  (h:∀v' w',w'.ownsRow B e size v' (n+m) (xs++ys)→Below B0 W0 w'→w1.grownBy w' v.ownBlock→wpList P ops Q rest (a.put o.dst v') w'):
  wpList P ops Q (o::rest) a w1:=by
 obtain⟨ad,cap,rfl,hcell⟩:=hU
 cases ad with
 | none =>
  have hM:ys=[]:=by
   rcases ys with _|⟨y,r⟩
   ·rfl
   ·obtain⟨b,off,hh,_⟩:=hcell (by simp)
    cases hh
  subst hM
  have hm:m=0:=by
   rcases Nat.eq_zero_or_pos m with h0|h0
   ·exact h0
   ·have:=Nat.mul_pos h0 hsz;rw[←hl]at this;simp at this
  subst hm;refine wpList_plain hgd fun K hK=>?_
  have hrun:(Builtin.append_ #[t,t] o.type #[v,.slice none 0 cap]).run P w1=.ok v w1:=by
   rcases hown.2 with ⟨rfl,rfl⟩|⟨g,cap,cur,rfl,_,_,hnc,_⟩
   ·simp[Builtin.append_,run_underlying ht,sizeOf,typeInfo,hi,Builtin.lenOf,Builtin.firstCells]
   ·simp[Builtin.append_,run_underlying ht,sizeOf,typeInfo,hi,Builtin.lenOf,Builtin.firstCells,hnc,storeCells]
  unfold Oper.wp;simp[execOp,ho,resolve,invoke,builtin,hs,hx,hrun,Result.andThen];exact hK _ _ (h v w1 (by simpa using hown) hbel ⟨rfl,rfl,rfl,Nat.le_refl _,fun _ _ _=>rfl⟩)
 | some ad =>
  have hnews:∀j y,ys[j]? = some y→w1.cell? (ad.add j)=some y:=by
   intro j y hj;obtain⟨b,off,hh,hc⟩:=hcell (by intro h0;rw[h0]at hj;simp at hj);cases hh
   have e:(⟨b,off,none⟩:Addr).add j=⟨b,off+j,none⟩:=by unfold Addr.add;split<;>simp_all
   rw[e];exact hc j y hj
  refine wpList_append_own_wide _ hgd s x t ho B e i z size bytes ht hi hz hsize hby hzs hsz v n xs hs hown ad m cap ys hx hl hnews h1 h63 hbytes hB ?_;intro v' w2 hown2 hgrow _;refine h v' w2 hown2 (hbel.grown hgrow (by have:=hbel.size;omega) ?_) hgrow;intro k hk;have:=(hown.lt k hk).1;omega
theorem own_other{w1:World}{B:Nat}{e T:TypeId}{k n g cap b:Nat}{xs:List Value}{cs:Array Value}(h:w1.ownsRow B e k (.slice (some ⟨g,0,none⟩) n cap) n xs)(hb:w1.heap[b]? = some (.cells cs T (0,0)))(hT:T≠e):g≠b:=by
 intro hgb;subst hgb;rcases h.2 with ⟨h1,_⟩|⟨g2,c2,cur,h1,_,h3,_⟩
 ·cases h1
 ·cases h1
  rw[hb]at h3;cases h3;exact hT rfl
def okc (c:UInt8):Bool:=decide (32≤c.toNat) && decide (c.toNat≤126)
theorem okc_iff(c:UInt8):okc c=true↔32≤c.toNat∧c.toNat≤126:=by unfold okc;simp
theorem okc_lo{c:UInt8}(h:(c.toNat:Int)<32):okc c=false:=by rw[Bool.eq_false_iff];intro h2;have:=(okc_iff c).1 h2;omega
theorem okc_hi{c:UInt8}(h:(126:Int)<(c.toNat:Int)):okc c=false:=by rw[Bool.eq_false_iff];intro h2;have:=(okc_iff c).1 h2;omega
theorem all_bad{l:List UInt8}(k:Nat)(hk:k<l.length)(h:okc l[k]=false):l.all okc=false:=by
 rw[List.all_eq_false];exact⟨l[k],List.getElem_mem hk,by rw[h];simp⟩
def ltr (c:UInt8):Bool:=decide (97≤c.toNat) && decide (c.toNat≤122)
theorem ltr_iff(c:UInt8):ltr c=true↔97≤c.toNat∧c.toNat≤122:=by unfold ltr;simp
def prt (c:UInt8):Bool:=ltr c || (isDig c || c==95)
theorem prt_iff(c:UInt8):prt c=true↔(97≤c.toNat∧c.toNat≤122)∨(48≤c.toNat∧c.toNat≤57)∨c.toNat=95:=by
 unfold prt;rw[Bool.or_eq_true,Bool.or_eq_true,ltr_iff,isDig_iff,beq_iff_eq];constructor
 ·rintro (h|h|h)
  ·exact .inl h
  ·exact .inr (.inl h)
  ·subst h;exact .inr (.inr rfl)
 ·rintro (h|h|h)
  ·exact .inl h
  ·exact .inr (.inl h)
  ·exact .inr (.inr (UInt8.toNat_inj.1 h))
def wlen (l:List UInt8):Nat:=(l.takeWhile prt).length
def KW:List (List UInt8):=[[112,114,111,99],[108,101,116],[112,117,116],[100,101,108,101,116,101],[105,102],[101,108,115,101],[102,111,114],[116,111],[109,97,120],[101,109,105,116],[97,98,111,114,116],[110,111,116],[97,110,100],[111,114],[105,110,116],[115,116,114],[98,111,111,108],[116,101,120,116],[108,101,110],[103,101,116,105,110,116],[103,101,116,115,116,114],[104,97,115],[110,111,119],[114,97,110,100,111,109],[110,111,100,101]]
def isKw (l:List UInt8):Bool:=decide (l∈KW)
def isNm (l:List UInt8):Bool:=match l with
 | []=>false
 | c::r=>decide ((c::r).length≤16) && (ltr c && (decide (wlen (c::r)=(c::r).length) && !isKw (c::r)))
structure Vl where
 k:Int
 n:Int
 s:List UInt8
deriving DecidableEq
def vV (v:Vl):Array Value:=#[.int .i64 v.k,.int .i64 v.n,.string (bs v.s)]
def v00:Vl:=⟨0,0,[]⟩
def plB (l:List UInt8):Bool:=l.all okc && decide (l.length≤64)
theorem plB_bad{l:List UInt8}(k:Nat)(hk:k<l.length)(h:okc l[k]=false):plB l=false:=by unfold plB;rw[all_bad k hk h];rfl
def vaB (v:Vl):Bool:=if v.k=0 then decide (v.n=0) && (v.s==[]) else if v.k=1 then (v.s==[]) else if v.k=2 then decide (v.n=0) && plB v.s else false
def cmpV (a b:Vl):Int:=if a.k=b.k then (if a.n=b.n then Lib.compareBytes a.s b.s else Lib.compareInt a.n b.n) else Lib.compareInt a.k b.k
theorem vplain_any(l:List UInt8)(w:World)(hl:l.length≤9223372036854775807):
  Calls prog 87 #[.string (bs l)] w fun e w'=>e=.returned (.bool (plB l))∧w=w':=by
 go_enter func87,ntmps87;go_wp2
 go_loop [3] (fun i=>∃k:Nat,k≤l.length∧i=.int .i64 k∧(l.take k).all okc=true) (fun i=>l.length-(intOf i).toNat)
 case atStart=>exact⟨0,Nat.zero_le _,rfl,rfl⟩
 case round =>
  obtain⟨k,hk,rfl,hall⟩:=hrel;have HA:=h_ hall;clear hall;by_cases hlt:k<l.length
  ·have hlt':(k:Int)<(l.length:Int):=by omega
   by_cases h1:(l[k].toNat:Int)<32
   ·have HF:=h_ (plB_bad k hlt (okc_lo h1))
    go_wp2;go_ret;exact⟨by rw[HF.out]<;>rfl,rfl⟩
   ·by_cases h2:(126:Int)<(l[k].toNat:Int)
    ·have HF:=h_ (plB_bad k hlt (okc_hi h2))
     go_wp2;go_ret;exact⟨by rw[HF.out]<;>rfl,rfl⟩
    ·have hA2:(l.take (k+1)).all okc=true:=by
      rw[ltake_snoc l k hlt,List.all_append,HA.out];have:okc l[k]=true:=(okc_iff _).2 (by omega);simp[this]
     have HA2:=h_ hA2;clear hA2;go_wp2
     go_round
     case rel=>exact⟨k+1,by omega,by go_num,HA2.out⟩
     case measure=>simp[intOf];omega
  ·have hall:=HA.out
   rw[ltake_all l hlt]at hall;have HF:=h_ (show plB l=decide ((l.length:Int)≤64) by unfold plB;rw[hall,Bool.true_and];congr 1;rw[eq_iff_iff];omega);clear hall;go_wp2;go_ret;exact⟨by rw[HF.out]<;>rfl,rfl⟩
theorem RPlain_any(l:List UInt8)(w:World)(hl:l.length≤9223372036854775807):
  Calls prog 85 #[.string (bs l)] w fun e w'=>e=.returned (.bool (plB l))∧w=w':=by
 by_cases h64:(64:Int)<(l.length:Int)
 ·have HF:=h_ (show plB l=false by unfold plB;rw[decide_eq_false (by omega)];simp)
  go_enter func85,ntmps85;go_wp2;go_ret;exact⟨by rw[HF.out]<;>rfl,rfl⟩
 ·go_enter func85,ntmps85
  go_wp2
  go_loop [3] (fun i=>∃k:Nat,k≤l.length∧i=.int .i64 k∧(l.take k).all okc=true) (fun i=>l.length-(intOf i).toNat)
  case atStart=>exact⟨0,Nat.zero_le _,rfl,rfl⟩
  case round =>
   obtain⟨k,hk,rfl,hall⟩:=hrel;have HA:=h_ hall;clear hall;by_cases hlt:k<l.length
   ·have hlt':(k:Int)<(l.length:Int):=by omega
    by_cases h1:(l[k].toNat:Int)<32
    ·have HF:=h_ (plB_bad k hlt (okc_lo h1))
     go_wp2;go_ret;exact⟨by rw[HF.out]<;>rfl,rfl⟩
    ·by_cases h2:(126:Int)<(l[k].toNat:Int)
     ·have HF:=h_ (plB_bad k hlt (okc_hi h2))
      go_wp2;go_ret;exact⟨by rw[HF.out]<;>rfl,rfl⟩
     ·have hA2:(l.take (k+1)).all okc=true:=by
       rw[ltake_snoc l k hlt,List.all_append,HA.out];have:okc l[k]=true:=(okc_iff _).2 (by omega);simp[this]
      have HA2:=h_ hA2;clear hA2;go_wp2
      go_round
      case rel=>exact⟨k+1,by omega,by go_num,HA2.out⟩
      case measure=>simp[intOf];omega
   ·have hall:=HA.out
    rw[ltake_all l hlt]at hall;have HF:=h_ (show plB l=true by unfold plB;rw[hall,decide_eq_true (by omega)];rfl);clear hall;go_wp2;go_ret;exact⟨by rw[HF.out]<;>rfl,rfl⟩
theorem vaB_zero(n:Int)(s:List UInt8):vaB ⟨0,n,s⟩=(decide (n=0) && (s==[])):=rfl
theorem vaB_one(n:Int)(s:List UInt8):vaB ⟨1,n,s⟩=(s==[]):=rfl
theorem vaB_two(n:Int)(s:List UInt8):vaB ⟨2,n,s⟩=(decide (n=0) && plB s):=rfl
theorem vaB_else(k n:Int)(s:List UInt8)(h0:k≠0)(h1:k≠1)(h2:k≠2):vaB ⟨k,n,s⟩=false:=by unfold vaB;simp only;rw[if_neg h0,if_neg h1,if_neg h2]
theorem VValid_any(v:Vl)(hl:v.s.length≤9223372036854775807)(w:World):
  Calls prog 54 #[.agg (vV v)] w fun e w'=>e=.returned (.bool (vaB v))∧Below w.heap.size w w':=by
 obtain⟨k,n,s⟩:=v;simp only at hl;simp only[vV];by_cases h0:k=0
 ·subst h0
  by_cases hn:n=0
  ·subst hn
   by_cases hs:s=[]
   ·subst hs
    have hv:vaB ⟨0,0,[]⟩=true:=by rfl
    rw[hv];clear hv;have hb0:=((Below.refl w.heap.size w).alloc (Nat.le_refl _) (.cells #[.int .i64 0,.int .i64 0,.string (bs [])] 52));have h_HX:=(Bx.new w #[.int .i64 0,.int .i64 0,.string (bs [])] 52);have HB:=h_ hb0;have HX:=h_ h_HX;clear hb0 h_HX;go_enter func54,ntmps54;go_upto_region 1 with (fail);generalize hW0:w.alloc (.cells #[.int .i64 0,.int .i64 0,.string (bs [])] 52)=v0 at HB HX ⊢;clear hW0;obtain⟨x0,x1,x2⟩:=HX.out.d3 0 1 2;go_wp2;go_ret;exact⟨rfl,HB.out⟩
   ·have ts:(s==[])=false:=by rw[beq_eq_false_iff_ne];exact hs
    have hv:vaB ⟨0,0,s⟩=false:=by rw[vaB_zero,ts];rfl
    rw[hv];clear hv;have hb0:=((Below.refl w.heap.size w).alloc (Nat.le_refl _) (.cells #[.int .i64 0,.int .i64 0,.string (bs s)] 52));have h_HX:=(Bx.new w #[.int .i64 0,.int .i64 0,.string (bs s)] 52);have HB:=h_ hb0;have HX:=h_ h_HX;clear hb0 h_HX;go_enter func54,ntmps54;go_upto_region 1 with (fail);generalize hW0:w.alloc (.cells #[.int .i64 0,.int .i64 0,.string (bs s)] 52)=v0 at HB HX ⊢;clear hW0;obtain⟨x0,x1,x2⟩:=HX.out.d3 0 1 2;go_wp2;go_ret;exact⟨rfl,HB.out⟩
  ·have tn:(n==0)=false:=by rw[beq_eq_false_iff_ne];exact hn
   have hv:vaB ⟨0,n,s⟩=false:=by rw[vaB_zero,decide_eq_false hn];rfl
   rw[hv];clear hv;have hb0:=((Below.refl w.heap.size w).alloc (Nat.le_refl _) (.cells #[.int .i64 0,.int .i64 n,.string (bs s)] 52));have h_HX:=(Bx.new w #[.int .i64 0,.int .i64 n,.string (bs s)] 52);have HB:=h_ hb0;have HX:=h_ h_HX;clear hb0 h_HX;go_enter func54,ntmps54;go_upto_region 1 with (fail);generalize hW0:w.alloc (.cells #[.int .i64 0,.int .i64 n,.string (bs s)] 52)=v0 at HB HX ⊢;clear hW0;obtain⟨x0,x1,x2⟩:=HX.out.d3 0 1 2;go_wp2;go_ret;exact⟨rfl,HB.out⟩
 by_cases h1:k=1
 ·subst h1
  obtain⟨ts,hts⟩:=ex_ ((s==[]))
  have hv:vaB ⟨1,n,s⟩=ts:=by rw[vaB_one,hts]
  rw[hv];clear hv;have hb0:=((Below.refl w.heap.size w).alloc (Nat.le_refl _) (.cells #[.int .i64 1,.int .i64 n,.string (bs s)] 52));have h_HX:=(Bx.new w #[.int .i64 1,.int .i64 n,.string (bs s)] 52);have HB:=h_ hb0;have HX:=h_ h_HX;clear hb0 h_HX;go_enter func54,ntmps54;go_upto_region 1 with (fail);generalize hW0:w.alloc (.cells #[.int .i64 1,.int .i64 n,.string (bs s)] 52)=v0 at HB HX ⊢;clear hW0;obtain⟨x0,x1,x2⟩:=HX.out.d3 0 1 2;go_wp2;go_ret;exact⟨rfl,HB.out⟩
 have t0:(k==0)=false:=by rw[beq_eq_false_iff_ne];exact h0
 have t1:(k==1)=false:=by rw[beq_eq_false_iff_ne];exact h1
 by_cases h2:k=2
 ·subst h2
  by_cases hn:n=0
  ·subst hn
   obtain⟨tp,htp⟩:=ex_ (plB s);have HP:=h_ htp
   have hv:vaB ⟨2,0,s⟩=tp:=by rw[vaB_two,htp];rfl
   rw[hv];clear hv;have hb0:=((Below.refl w.heap.size w).alloc (Nat.le_refl _) (.cells #[.int .i64 2,.int .i64 0,.string (bs s)] 52));have h_HX:=(Bx.new w #[.int .i64 2,.int .i64 0,.string (bs s)] 52);have HB:=h_ hb0;have HX:=h_ h_HX;clear hb0 h_HX;go_enter func54,ntmps54;go_upto_region 1 with (fail);generalize hW0:w.alloc (.cells #[.int .i64 2,.int .i64 0,.string (bs s)] 52)=v0 at HB HX ⊢;clear hW0;obtain⟨x0,x1,x2⟩:=HX.out.d3 0 1 2;go_wp2_with fail;refine(vplain_any s _ hl).mono ?_;rw[HP.out];rintro er w1 ⟨rfl,rfl⟩;go_wp2_with fail;go_ret;exact⟨rfl,HB.out⟩
  ·have tn:(n==0)=false:=by rw[beq_eq_false_iff_ne];exact hn
   have hv:vaB ⟨2,n,s⟩=false:=by rw[vaB_two,decide_eq_false hn];rfl
   rw[hv];clear hv;have hb0:=((Below.refl w.heap.size w).alloc (Nat.le_refl _) (.cells #[.int .i64 2,.int .i64 n,.string (bs s)] 52));have h_HX:=(Bx.new w #[.int .i64 2,.int .i64 n,.string (bs s)] 52);have HB:=h_ hb0;have HX:=h_ h_HX;clear hb0 h_HX;go_enter func54,ntmps54;go_upto_region 1 with (fail);generalize hW0:w.alloc (.cells #[.int .i64 2,.int .i64 n,.string (bs s)] 52)=v0 at HB HX ⊢;clear hW0;obtain⟨x0,x1,x2⟩:=HX.out.d3 0 1 2;go_wp2;go_ret;exact⟨rfl,HB.out⟩
 have t2:(k==2)=false:=by rw[beq_eq_false_iff_ne];exact h2
 have hv:vaB ⟨k,n,s⟩=false:=vaB_else k n s h0 h1 h2;rw[hv];clear hv h0 h1 h2;have hb0:=((Below.refl w.heap.size w).alloc (Nat.le_refl _) (.cells #[.int .i64 k,.int .i64 n,.string (bs s)] 52));have h_HX:=(Bx.new w #[.int .i64 k,.int .i64 n,.string (bs s)] 52);have HB:=h_ hb0;have HX:=h_ h_HX;clear hb0 h_HX;go_enter func54,ntmps54;go_upto_region 1 with (fail);generalize hW0:w.alloc (.cells #[.int .i64 k,.int .i64 n,.string (bs s)] 52)=v0 at HB HX ⊢;clear hW0;obtain⟨x0,x1,x2⟩:=HX.out.d3 0 1 2;go_wp2;go_ret;exact⟨rfl,HB.out⟩
theorem RVValid_any(v:Vl)(hl:v.s.length≤9223372036854775807)(w:World):
  Calls prog 52 #[.agg (vV v)] w fun e w'=>e=.returned (.bool (vaB v))∧Below w.heap.size w w':=by
 obtain⟨k,n,s⟩:=v;simp only at hl;simp only[vV];by_cases h0:k=0
 ·subst h0
  by_cases hn:n=0
  ·subst hn
   by_cases hs:s=[]
   ·subst hs
    have hv:vaB ⟨0,0,[]⟩=true:=by rfl
    rw[hv];clear hv;have hb0:=((Below.refl w.heap.size w).alloc (Nat.le_refl _) (.cells #[.int .i64 0,.int .i64 0,.string (bs [])] 52));have h_HX:=(Bx.new w #[.int .i64 0,.int .i64 0,.string (bs [])] 52);have HB:=h_ hb0;have HX:=h_ h_HX;clear hb0 h_HX;go_enter func52,ntmps52;go_upto_region 1 with (fail);generalize hW0:w.alloc (.cells #[.int .i64 0,.int .i64 0,.string (bs [])] 52)=v0 at HB HX ⊢;clear hW0;obtain⟨x0,x1,x2⟩:=HX.out.d3 0 1 2;go_wp2;go_ret;exact⟨rfl,HB.out⟩
   ·have ts:(s==[])=false:=by rw[beq_eq_false_iff_ne];exact hs
    have hv:vaB ⟨0,0,s⟩=false:=by rw[vaB_zero,ts];rfl
    rw[hv];clear hv;have hb0:=((Below.refl w.heap.size w).alloc (Nat.le_refl _) (.cells #[.int .i64 0,.int .i64 0,.string (bs s)] 52));have h_HX:=(Bx.new w #[.int .i64 0,.int .i64 0,.string (bs s)] 52);have HB:=h_ hb0;have HX:=h_ h_HX;clear hb0 h_HX;go_enter func52,ntmps52;go_upto_region 1 with (fail);generalize hW0:w.alloc (.cells #[.int .i64 0,.int .i64 0,.string (bs s)] 52)=v0 at HB HX ⊢;clear hW0;obtain⟨x0,x1,x2⟩:=HX.out.d3 0 1 2;go_wp2;go_ret;exact⟨rfl,HB.out⟩
  ·have tn:(n==0)=false:=by rw[beq_eq_false_iff_ne];exact hn
   have hv:vaB ⟨0,n,s⟩=false:=by rw[vaB_zero,decide_eq_false hn];rfl
   rw[hv];clear hv;have hb0:=((Below.refl w.heap.size w).alloc (Nat.le_refl _) (.cells #[.int .i64 0,.int .i64 n,.string (bs s)] 52));have h_HX:=(Bx.new w #[.int .i64 0,.int .i64 n,.string (bs s)] 52);have HB:=h_ hb0;have HX:=h_ h_HX;clear hb0 h_HX;go_enter func52,ntmps52;go_upto_region 1 with (fail);generalize hW0:w.alloc (.cells #[.int .i64 0,.int .i64 n,.string (bs s)] 52)=v0 at HB HX ⊢;clear hW0;obtain⟨x0,x1,x2⟩:=HX.out.d3 0 1 2;go_wp2;go_ret;exact⟨rfl,HB.out⟩
 by_cases h1:k=1
 ·subst h1
  obtain⟨ts,hts⟩:=ex_ ((s==[]))
  have hv:vaB ⟨1,n,s⟩=ts:=by rw[vaB_one,hts]
  rw[hv];clear hv;have hb0:=((Below.refl w.heap.size w).alloc (Nat.le_refl _) (.cells #[.int .i64 1,.int .i64 n,.string (bs s)] 52));have h_HX:=(Bx.new w #[.int .i64 1,.int .i64 n,.string (bs s)] 52);have HB:=h_ hb0;have HX:=h_ h_HX;clear hb0 h_HX;go_enter func52,ntmps52;go_upto_region 1 with (fail);generalize hW0:w.alloc (.cells #[.int .i64 1,.int .i64 n,.string (bs s)] 52)=v0 at HB HX ⊢;clear hW0;obtain⟨x0,x1,x2⟩:=HX.out.d3 0 1 2;go_wp2;go_ret;exact⟨rfl,HB.out⟩
 have t0:(k==0)=false:=by rw[beq_eq_false_iff_ne];exact h0
 have t1:(k==1)=false:=by rw[beq_eq_false_iff_ne];exact h1
 by_cases h2:k=2
 ·subst h2
  by_cases hn:n=0
  ·subst hn
   obtain⟨tp,htp⟩:=ex_ (plB s);have HP:=h_ htp
   have hv:vaB ⟨2,0,s⟩=tp:=by rw[vaB_two,htp];rfl
   rw[hv];clear hv;have hb0:=((Below.refl w.heap.size w).alloc (Nat.le_refl _) (.cells #[.int .i64 2,.int .i64 0,.string (bs s)] 52));have h_HX:=(Bx.new w #[.int .i64 2,.int .i64 0,.string (bs s)] 52);have HB:=h_ hb0;have HX:=h_ h_HX;clear hb0 h_HX;go_enter func52,ntmps52;go_upto_region 1 with (fail);generalize hW0:w.alloc (.cells #[.int .i64 2,.int .i64 0,.string (bs s)] 52)=v0 at HB HX ⊢;clear hW0;obtain⟨x0,x1,x2⟩:=HX.out.d3 0 1 2;go_wp2_with fail;refine(RPlain_any s _ hl).mono ?_;rw[HP.out];rintro er w1 ⟨rfl,rfl⟩;go_wp2_with fail;go_ret;exact⟨rfl,HB.out⟩
  ·have tn:(n==0)=false:=by rw[beq_eq_false_iff_ne];exact hn
   have hv:vaB ⟨2,n,s⟩=false:=by rw[vaB_two,decide_eq_false hn];rfl
   rw[hv];clear hv;have hb0:=((Below.refl w.heap.size w).alloc (Nat.le_refl _) (.cells #[.int .i64 2,.int .i64 n,.string (bs s)] 52));have h_HX:=(Bx.new w #[.int .i64 2,.int .i64 n,.string (bs s)] 52);have HB:=h_ hb0;have HX:=h_ h_HX;clear hb0 h_HX;go_enter func52,ntmps52;go_upto_region 1 with (fail);generalize hW0:w.alloc (.cells #[.int .i64 2,.int .i64 n,.string (bs s)] 52)=v0 at HB HX ⊢;clear hW0;obtain⟨x0,x1,x2⟩:=HX.out.d3 0 1 2;go_wp2;go_ret;exact⟨rfl,HB.out⟩
 have t2:(k==2)=false:=by rw[beq_eq_false_iff_ne];exact h2
 have hv:vaB ⟨k,n,s⟩=false:=vaB_else k n s h0 h1 h2;rw[hv];clear hv h0 h1 h2;have hb0:=((Below.refl w.heap.size w).alloc (Nat.le_refl _) (.cells #[.int .i64 k,.int .i64 n,.string (bs s)] 52));have h_HX:=(Bx.new w #[.int .i64 k,.int .i64 n,.string (bs s)] 52);have HB:=h_ hb0;have HX:=h_ h_HX;clear hb0 h_HX;go_enter func52,ntmps52;go_upto_region 1 with (fail);generalize hW0:w.alloc (.cells #[.int .i64 k,.int .i64 n,.string (bs s)] 52)=v0 at HB HX ⊢;clear hW0;obtain⟨x0,x1,x2⟩:=HX.out.d3 0 1 2;go_wp2;go_ret;exact⟨rfl,HB.out⟩
theorem nan64_any(x:Int)(w:World):
  Calls prog 202 #[.int .i64 x] w fun e w'=>e=.returned (.bool false)∧w'=w:=by
 go_enter func202,ntmps202;go_wp2;go_ret;exact⟨by simp,rfl⟩
theorem cmp64_any(x y:Int)(w:World):
  Calls prog 195 #[.int .i64 x,.int .i64 y] w fun e w'=>e=.returned (.int .i64 (Lib.compareInt x y))∧w'=w:=by
 have hc:Lib.compareInt x y=if x<y then -1 else if y<x then 1 else 0:=rfl
 rw[hc];clear hc;by_cases h1:x<y
 ·rw[if_pos h1]
  go_enter func195,ntmps195;go_wp2_with fail;refine(nan64_any x _).mono ?_;rintro er w1 ⟨rfl,rfl⟩;go_wp2_with fail;refine(nan64_any y _).mono ?_;rintro er w2 ⟨rfl,rfl⟩;go_wp2;go_ret;exact⟨rfl,rfl⟩
 rw[if_neg h1];by_cases h2:y<x
 ·rw[if_pos h2]
  go_enter func195,ntmps195;go_wp2_with fail;refine(nan64_any x _).mono ?_;rintro er w1 ⟨rfl,rfl⟩;go_wp2_with fail;refine(nan64_any y _).mono ?_;rintro er w2 ⟨rfl,rfl⟩;go_wp2;go_ret;exact⟨rfl,rfl⟩
 rw[if_neg h2];go_enter func195,ntmps195;go_wp2_with fail;refine(nan64_any x _).mono ?_;rintro er w1 ⟨rfl,rfl⟩;go_wp2_with fail;refine(nan64_any y _).mono ?_;rintro er w2 ⟨rfl,rfl⟩;go_wp2;go_ret;exact⟨rfl,rfl⟩
theorem numbers_any(a b:Vl)(w:World):
  Calls prog 188 #[.agg #[.int .i64 a.k,.int .i64 a.n,.string (bs a.s),.int .i64 b.k,.int .i64 b.n,.string (bs b.s)]] w fun e w'=>e=.returned (.int .i64 (Lib.compareInt a.n b.n))∧Below w.heap.size w w':=by
 have hb0:=((Below.refl w.heap.size w).alloc (Nat.le_refl _) (.cells #[.int .i64 a.k,.int .i64 a.n,.string (bs a.s),.int .i64 b.k,.int .i64 b.n,.string (bs b.s)] 205));have h_HX:=(Bx.new w #[.int .i64 a.k,.int .i64 a.n,.string (bs a.s),.int .i64 b.k,.int .i64 b.n,.string (bs b.s)] 205);have HB:=h_ hb0;have HX:=h_ h_HX;clear hb0 h_HX;go_enter func188,ntmps188;go_upto_region 1 with (fail);generalize hW0:w.alloc (.cells #[.int .i64 a.k,.int .i64 a.n,.string (bs a.s),.int .i64 b.k,.int .i64 b.n,.string (bs b.s)] 205)=v0 at HB HX ⊢;clear hW0;obtain⟨x1,x4⟩:=HX.out.d2 1 4;go_wp2_with fail;refine(cmp64_any a.n b.n _).mono ?_;rintro er w1 ⟨rfl,rfl⟩;go_wp2;go_ret;exact⟨rfl,HB.out⟩
theorem strings_any(a b:Vl)(w:World):
  Calls prog 189 #[.agg #[.int .i64 a.k,.int .i64 a.n,.string (bs a.s),.int .i64 b.k,.int .i64 b.n,.string (bs b.s)]] w fun e w'=>e=.returned (.int .i64 (Lib.compareBytes a.s b.s))∧Below w.heap.size w w':=by
 have hb0:=((Below.refl w.heap.size w).alloc (Nat.le_refl _) (.cells #[.int .i64 a.k,.int .i64 a.n,.string (bs a.s),.int .i64 b.k,.int .i64 b.n,.string (bs b.s)] 205));have h_HX:=(Bx.new w #[.int .i64 a.k,.int .i64 a.n,.string (bs a.s),.int .i64 b.k,.int .i64 b.n,.string (bs b.s)] 205);have HB:=h_ hb0;have HX:=h_ h_HX;clear hb0 h_HX;go_enter func189,ntmps189;go_upto_region 1 with (fail);generalize hW0:w.alloc (.cells #[.int .i64 a.k,.int .i64 a.n,.string (bs a.s),.int .i64 b.k,.int .i64 b.n,.string (bs b.s)] 205)=v0 at HB HX ⊢;clear hW0;obtain⟨x2,x5⟩:=HX.out.d2 2 5;go_wp2_with fail;refine(Tryz.strings_Compare (bs a.s) (bs b.s) _).mono ?_;rw[toList_bs,toList_bs];rintro er w1 ⟨rfl,rfl⟩;go_wp2;go_ret;exact⟨rfl,HB.out⟩
theorem VCompare_any(a b:Vl)(w:World):
  Calls prog 181 #[.agg (vV a),.agg (vV b)] w fun e w'=>e=.returned (.int .i64 (cmpV a b))∧Below w.heap.size w w':=by
 simp only[vV];by_cases hk:a.k=b.k;rotate_left
 ·have hr:cmpV a b=Lib.compareInt a.k b.k:=by unfold cmpV;rw[if_neg hk]
  rw[hr];clear hr
  have t1:(a.k != b.k)=true:=by rw[bne_iff_ne];exact hk
  have HK:=h_ hk;clear hk;have hb0:=(((Below.refl w.heap.size w).alloc (Nat.le_refl _) (.cells #[.int .i64 a.k,.int .i64 a.n,.string (bs a.s)] 52)).alloc (by simp) (.cells #[.int .i64 b.k,.int .i64 b.n,.string (bs b.s)] 52));have h_HX:=((Bx.new w #[.int .i64 a.k,.int .i64 a.n,.string (bs a.s)] 52).alloc (.cells #[.int .i64 b.k,.int .i64 b.n,.string (bs b.s)] 52));have h_HY:=(Bx.new (w.alloc (.cells #[.int .i64 a.k,.int .i64 a.n,.string (bs a.s)] 52)) #[.int .i64 b.k,.int .i64 b.n,.string (bs b.s)] 52);rw[show (w.alloc (.cells #[.int .i64 a.k,.int .i64 a.n,.string (bs a.s)] 52)).heap.size=w.heap.size+1 by simp]at h_HY;have HB:=h_ hb0;have HX:=h_ h_HX;have HY:=h_ h_HY;clear hb0 h_HX h_HY;go_enter func181,ntmps181;go_upto_region 1 with (fail);generalize hW0:(w.alloc (.cells #[.int .i64 a.k,.int .i64 a.n,.string (bs a.s)] 52)).alloc (.cells #[.int .i64 b.k,.int .i64 b.n,.string (bs b.s)] 52)=v0 at HB HX HY ⊢;clear hW0;obtain⟨x0,x1,x2⟩:=HX.out.d3 0 1 2;obtain⟨y0,y1,y2⟩:=HY.out.d3 0 1 2;go_wp2_with fail;refine(Tryz.cmp_Compare_int a.k b.k _).mono ?_;rintro er w1 ⟨rfl,rfl⟩;go_wp2;go_ret;exact⟨rfl,HB.out⟩
 have t1:(a.k != b.k)=false:=by rw[hk];simp
 have HK:=h_ hk;clear hk;have hmf:∀(fn:Fn) (first cap:Array Value) (w:World),(Instr.makeFunc fn first cap).run prog w=.ok (.func fn first cap) w:=fun _ _ _ _=>rfl;by_cases hn:a.n=b.n
 ·have hr:cmpV a b=Lib.compareBytes a.s b.s:=by unfold cmpV;rw[if_pos HK.out,if_pos hn]
  rw[hr];clear hr
  have t2:(a.n==b.n)=true:=by rw[hn];simp
  have HN:=h_ hn;clear hn;have hb0:=(((Below.refl w.heap.size w).alloc (Nat.le_refl _) (.cells #[.int .i64 a.k,.int .i64 a.n,.string (bs a.s)] 52)).alloc (by simp) (.cells #[.int .i64 b.k,.int .i64 b.n,.string (bs b.s)] 52));have h_HX:=((Bx.new w #[.int .i64 a.k,.int .i64 a.n,.string (bs a.s)] 52).alloc (.cells #[.int .i64 b.k,.int .i64 b.n,.string (bs b.s)] 52));have h_HY:=(Bx.new (w.alloc (.cells #[.int .i64 a.k,.int .i64 a.n,.string (bs a.s)] 52)) #[.int .i64 b.k,.int .i64 b.n,.string (bs b.s)] 52);rw[show (w.alloc (.cells #[.int .i64 a.k,.int .i64 a.n,.string (bs a.s)] 52)).heap.size=w.heap.size+1 by simp]at h_HY;have HB:=h_ hb0;have HX:=h_ h_HX;have HY:=h_ h_HY;clear hb0 h_HX h_HY;go_enter func181,ntmps181;go_upto_region 1 with (fail);generalize hW0:(w.alloc (.cells #[.int .i64 a.k,.int .i64 a.n,.string (bs a.s)] 52)).alloc (.cells #[.int .i64 b.k,.int .i64 b.n,.string (bs b.s)] 52)=v0 at HB HX HY ⊢;clear hW0;obtain⟨x0,x1,x2⟩:=HX.out.d3 0 1 2;obtain⟨y0,y1,y2⟩:=HY.out.d3 0 1 2;have hal:=(Below.refl v0.heap.size v0).alloc (Nat.le_refl _) (.cells #[.int .i64 a.k,.int .i64 a.n,.string (bs a.s),.int .i64 b.k,.int .i64 b.n,.string (bs b.s)] 205);have HP:=h_ (Bx.new v0 #[.int .i64 a.k,.int .i64 a.n,.string (bs a.s),.int .i64 b.k,.int .i64 b.n,.string (bs b.s)] 205);have HX:=HX.out.k hal;have HY:=HY.out.k hal;have HB:=bt HB hal;clear hal;go_upto_region 4 with (fail);clear x0 x1 x2;clear y0 y1 y2;generalize hW:v0.alloc (.cells #[.int .i64 a.k,.int .i64 a.n,.string (bs a.s),.int .i64 b.k,.int .i64 b.n,.string (bs b.s)] 205)=v1 at HX HY HP HB ⊢;clear hW;obtain⟨p0,p1,p2,p3,p4,p5⟩:=HP.out.d6 0 1 2 3 4 5;have x1:=HX.out.cl 1;have y1:=HY.out.cl 1;go_wp2_with fail;refine(strings_any a b _).mono ?_;rintro er w1 ⟨rfl,hb1⟩;go_wp2;go_ret;exact⟨rfl,btrans HB.out HB.out.size hb1⟩
 have hr:cmpV a b=Lib.compareInt a.n b.n:=by unfold cmpV;rw[if_pos HK.out,if_neg hn]
 rw[hr];clear hr
 have t2:(a.n==b.n)=false:=by rw[beq_eq_false_iff_ne];exact hn
 have HN:=h_ hn;clear hn;have hb0:=(((Below.refl w.heap.size w).alloc (Nat.le_refl _) (.cells #[.int .i64 a.k,.int .i64 a.n,.string (bs a.s)] 52)).alloc (by simp) (.cells #[.int .i64 b.k,.int .i64 b.n,.string (bs b.s)] 52));have h_HX:=((Bx.new w #[.int .i64 a.k,.int .i64 a.n,.string (bs a.s)] 52).alloc (.cells #[.int .i64 b.k,.int .i64 b.n,.string (bs b.s)] 52));have h_HY:=(Bx.new (w.alloc (.cells #[.int .i64 a.k,.int .i64 a.n,.string (bs a.s)] 52)) #[.int .i64 b.k,.int .i64 b.n,.string (bs b.s)] 52);rw[show (w.alloc (.cells #[.int .i64 a.k,.int .i64 a.n,.string (bs a.s)] 52)).heap.size=w.heap.size+1 by simp]at h_HY;have HB:=h_ hb0;have HX:=h_ h_HX;have HY:=h_ h_HY;clear hb0 h_HX h_HY;go_enter func181,ntmps181;go_upto_region 1 with (fail);generalize hW0:(w.alloc (.cells #[.int .i64 a.k,.int .i64 a.n,.string (bs a.s)] 52)).alloc (.cells #[.int .i64 b.k,.int .i64 b.n,.string (bs b.s)] 52)=v0 at HB HX HY ⊢;clear hW0;obtain⟨x0,x1,x2⟩:=HX.out.d3 0 1 2;obtain⟨y0,y1,y2⟩:=HY.out.d3 0 1 2;have hal:=(Below.refl v0.heap.size v0).alloc (Nat.le_refl _) (.cells #[.int .i64 a.k,.int .i64 a.n,.string (bs a.s),.int .i64 b.k,.int .i64 b.n,.string (bs b.s)] 205);have HP:=h_ (Bx.new v0 #[.int .i64 a.k,.int .i64 a.n,.string (bs a.s),.int .i64 b.k,.int .i64 b.n,.string (bs b.s)] 205);have HX:=HX.out.k hal;have HY:=HY.out.k hal;have HB:=bt HB hal;clear hal;go_upto_region 4 with (fail);clear x0 x1 x2;clear y0 y1 y2;generalize hW:v0.alloc (.cells #[.int .i64 a.k,.int .i64 a.n,.string (bs a.s),.int .i64 b.k,.int .i64 b.n,.string (bs b.s)] 205)=v1 at HX HY HP HB ⊢;clear hW;obtain⟨p0,p1,p2,p3,p4,p5⟩:=HP.out.d6 0 1 2 3 4 5;have x1:=HX.out.cl 1;have y1:=HY.out.cl 1;go_wp2_with fail;refine(numbers_any a b _).mono ?_;rintro er w1 ⟨rfl,hb1⟩;go_wp2;go_ret;exact⟨rfl,btrans HB.out HB.out.size hb1⟩
structure Ins where
 op:Int
 a:Int
 b:Int
 n:Int
 s:List UInt8
deriving DecidableEq
structure Cd where
 p:List Int
 sl:Int
 l:List Ins
deriving DecidableEq
def ins0:Ins:=⟨0,0,0,0,[]⟩
def insL (x:Ins):List Value:=[.int .i64 x.op,.int .i64 x.a,.int .i64 x.b,.int .i64 x.n,.string (bs x.s)]
def insV (x:Ins):Array Value:=#[.int .i64 x.op,.int .i64 x.a,.int .i64 x.b,.int .i64 x.n,.string (bs x.s)]
def insLs (L:List Ins):List Value:=L.flatMap insL
def intsL (L:List Int):List Value:=L.map (Value.int .i64)
def OPN:List (List UInt8):=[[105,110,116],[115,116,114],[108,111,97,100],[115,116,111,114,101],[111,112],[106,117,109,112],[102,97,108,115,101],[112,117,116],[100,101,108],[101,109,105,116],[97,98,111,114,116],[108,111,111,112],[101,110,100],[116,105,99,107]]
def nameS (op:Int):List UInt8:=if 1≤op∧op≤14 then OPN.getD (op-1).toNat [] else []
def arS (op:Int):Int:=if op<1∨27<op then -1 else if op≤3∨25≤op then 0 else if op=9∨op=18∨20≤op then 1 else 2
def uA (op:Int):Bool:=(decide (3≤op) && decide (op≤7)) || (decide (op=11) || decide (op=12))
def uB (op:Int):Bool:=decide (op=12)
def uN (op:Int):Bool:=decide (op=1) || decide (op=12)
def uS (op:Int):Bool:=decide (op=2)
def fldS (op:Int):Int:=(if uA op then 1 else 0)+(if uB op then 2 else 0)+(if uN op then 4 else 0)+(if uS op then 8 else 0)
def takeI (x:Ins):Int:=if x.op=4∨x.op=7∨x.op=9∨x.op=10 then 1 else if x.op=8 then 2 else if x.op=5 then arS x.a else 0
def putI (x:Ins):Int:=if x.op=1∨x.op=2∨x.op=3∨x.op=5 then 1 else 0
def plainS (s:List UInt8):Bool:=s.all okc && decide (s.length≤64)
def unuS (x:Ins):Bool:=(uA x.op || decide (x.a=0)) && ((uB x.op || decide (x.b=0)) && ((uN x.op || decide (x.n=0)) && (uS x.op || decide (x.s=[]))))
def inR (v hi:Int):Bool:=decide (0≤v) && decide (v<hi)
def insS (sl n:Int) (x:Ins):Bool:=
 (decide (1≤x.op) && decide (x.op≤14)) && (unuS x &&
 (if x.op=2 then plainS x.s else if x.op=3∨x.op=4 then inR x.a sl else if x.op=5 then decide (1≤arS x.a) else if x.op=6∨x.op=7 then inR x.a n
  else if x.op=11 then inR x.a 1000 else if x.op=12 then inR x.a sl && (inR x.b sl && (decide (1≤x.n) && decide (x.n≤16))) else true))
def leaI (x:Ins):Bool:=decide (x.op=6) || (decide (x.op=11) || decide (x.op=13))
def jmpI (x:Ins):Bool:=decide (x.op=6) || decide (x.op=7)
def behI (d:Int) (x:Ins):Int:=d+(putI x-takeI x)
def badI (d:Int) (x:Ins):Bool:=decide (64<behI d x) || (decide (behI d x≠0) && (leaI x || decide (x.op=7)))
def depG:List Int→Int→List Ins→List Int × Bool
 | acc,_,[]=>(acc,true)
 | acc,d,x::r=>if d<takeI x then ([],false) else if badI d x=true then ([],false) else depG (acc++[d]) (behI d x) r
def jokS (B:List Int) (x:Ins):Bool:=!jmpI x || decide (B.getD x.a.toNat 1=0)
def tyB (t:Int):Bool:=decide (t=1) || decide (t=2)
def lastI (l:List Ins):Ins:=l.getLastD ins0
def valC (c:Cd):Int:=
 if 4096<c.l.length∨64<c.sl then 2 else if c.p.all tyB=false then 23 else if c.sl<(c.p.length:Int)∨c.l.length=0 then 23
 else if c.l.all (insS c.sl (c.l.length:Int))=false then 23 else if (depG [] 0 c.l).2=false∨leaI (lastI c.l)=false then 23
 else if c.l.all (jokS (depG [] 0 c.l).1)=false then 23 else 0
structure Pr where
 key:List UInt8
 v:Vl
deriving DecidableEq
structure Ft where
 all:Bool
 rd:List (List UInt8)
 wr:List (List UInt8)
inductive Rs where
 | ok (v:Vl)
 | ab (c:Int)
 | re (k:List UInt8)
def numV (n:Int):Vl:=⟨1,n,[]⟩
def truV (b:Bool):Vl:=⟨3,if b then 1 else 0,[]⟩
def strVl (s:List UInt8):Vl:=⟨2,0,s⟩
def exS (x:Int × Int):Rs:=if x.2=0 then .ok (numV x.1) else if x.2=4 then .ab 1002 else .ab 1001
def txS (s:List UInt8):Rs:=if 64<s.length then .ab 1006 else .ok (strVl s)
def ariS (op a b:Int):Int × Int:=if op=4 then addS a b else if op=5 then subS a b else if op=6 then mulS a b else if op=7 then divS a b else modS a b
def cmpB (op c:Int):Bool:=if op=10 then decide (c=0) else if op=11 then decide (c≠0) else if op=12 then decide (c<0) else if op=13 then decide (c≤0) else if op=14 then decide (0<c) else decide (0≤c)
def cmpS (op:Int) (a b:Vl):Rs:=if a.k=b.k∧(a.k=1∨a.k=2∨(a.k=3∧op≤11)) then .ok (truV (cmpB op (cmpV a b))) else .ab 1009
def binS (op:Int) (a b:Vl):Rs:=
 if op=4∨op=5∨op=6∨op=7∨op=8 then (if a.k=1∧b.k=1 then exS (ariS op a.n b.n) else .ab 1009)
 else if op=16 then (if a.k=3∧b.k=3 then .ok (truV (decide (a.n=1) && decide (b.n=1))) else .ab 1009)
 else if op=17 then (if a.k=3∧b.k=3 then .ok (truV (decide (a.n=1) || decide (b.n=1))) else .ab 1009)
 else if op=19 then (if a.k=2∧b.k=2 then txS (a.s++b.s) else .ab 1009)
 else cmpS op a b
def unS (op:Int) (a:Vl):Rs:=
 if op=9 then (if a.k=1 then exS (negS a.n) else .ab 1009)
 else if op=18 then (if a.k=3 then .ok (truV (decide (a.n=0))) else .ab 1009)
 else if op=20 then (if a.k=1 then txS (Lib.itoa a.n) else .ab 1009)
 else (if a.k=2 then .ok (numV (a.s.length:Int)) else .ab 1009)
def gotS (op:Int) (v:Vl):Rs:=
 if op=24 then .ok (truV (decide (v.k≠0))) else if v.k=0 then .ok (if op=22 then numV 0 else strVl []) else if v.k=(if op=22 then 1 else 2) then .ok v else .ab 1003
def kyc (c:UInt8):Bool:=(decide (97≤c.toNat) && decide (c.toNat≤122)) || ((decide (48≤c.toNat) && decide (c.toNat≤57)) || (decide (c.toNat=47) || (decide (c.toNat=46) || (decide (c.toNat=95) || decide (c.toNat=45)))))
def keyB (k:List UInt8):Bool:=decide (1≤k.length) && (decide (k.length≤24) && k.all kyc)
def getP (l:List Pr) (k:List UInt8):Vl:=((l.find? fun p=>p.key==k).map Pr.v).getD v00
def stopE (st c:Int) (k:List UInt8):PanicEntry:={ v:=.iface 145 (.agg #[.int .i64 st,.int .i64 c,.slice none 0 0,.string (bs k)]),recovered:=false }
def endR:Rs→Ending
 | .ok v=>.returned (.agg (vV v))
 | .ab c=>.panicked [stopE 2 c []]
 | .re k=>.panicked [stopE 3 0 k]
theorem kw_no{l:List UInt8}(h:¬l=[112,114,111,99]∧¬l=[108,101,116]∧¬l=[112,117,116]∧¬l=[100,101,108,101,116,101]∧¬l=[105,102]∧¬l=[101,108,115,101]∧¬l=[102,111,114]∧¬l=[116,111]∧¬l=[109,97,120]∧¬l=[101,109,105,116]∧¬l=[97,98,111,114,116]∧¬l=[110,111,116]∧¬l=[97,110,100]∧¬l=[111,114]∧¬l=[105,110,116]∧¬l=[115,116,114]∧¬l=[98,111,111,108]∧¬l=[116,101,120,116]∧¬l=[108,101,110]∧¬l=[103,101,116,105,110,116]∧¬l=[103,101,116,115,116,114]∧¬l=[104,97,115]∧¬l=[110,111,119]∧¬l=[114,97,110,100,111,109]∧¬l=[110,111,100,101]):isKw l=false:=by
 unfold isKw KW;rw[decide_eq_false];simp only[List.mem_cons,List.not_mem_nil,or_false];simpa[not_or] using h
def ltrI (c:Int):Bool:=decide (97≤c) && decide (c≤122)
theorem ltrI_byte(c:UInt8):ltrI (c.toNat:Int)=ltr c:=by
 unfold ltrI ltr;congr 1<;>(congr 1;rw[eq_iff_iff];omega)
theorem wlen_cons(c:UInt8)(r:List UInt8):wlen (c::r)=if prt c=true then wlen r+1 else 0:=by
 unfold wlen;rw[List.takeWhile_cons];split<;>simp
theorem wl_go{l:List UInt8}{k R:Nat}(h:k+wlen (l.drop k)=R)(hk:k<l.length)(hp:prt l[k]=true):k+1+wlen (l.drop (k+1))=R:=by
 rw[List.drop_eq_getElem_cons hk,wlen_cons,if_pos hp]at h;omega
theorem wl_stop{l:List UInt8}{k R:Nat}(h:k+wlen (l.drop k)=R)(hk:k<l.length)(hp:¬prt l[k]=true):R=k:=by
 rw[List.drop_eq_getElem_cons hk,wlen_cons,if_neg hp]at h;omega
theorem wl_end{l:List UInt8}{k R:Nat}(h:k+wlen (l.drop k)=R)(hk:¬k<l.length):R=k:=by
 rw[List.drop_of_length_le (by omega)]at h;simp[wlen]at h;omega
theorem IsKeyword_any(l:List UInt8)(w:World):
  Calls prog 185 #[.string (bs l)] w fun e w'=>e=.returned (.bool (isKw l))∧w=w':=by
 by_cases h0:l=[112,114,111,99]
 ·subst h0
  have hr:isKw [112,114,111,99]=true:=by decide
  rw[hr];clear hr;go_enter func185,ntmps185;go_wp2;go_ret;exact⟨rfl,rfl⟩
 have t0:(l==[112,114,111,99])=false:=by rw[beq_eq_false_iff_ne];exact h0
 by_cases h1:l=[108,101,116]
 ·subst h1
  have hr:isKw [108,101,116]=true:=by decide
  rw[hr];clear hr;clear h0 t0;go_enter func185,ntmps185;go_wp2;go_ret;exact⟨rfl,rfl⟩
 have t1:(l==[108,101,116])=false:=by rw[beq_eq_false_iff_ne];exact h1
 by_cases h2:l=[112,117,116]
 ·subst h2
  have hr:isKw [112,117,116]=true:=by decide
  rw[hr];clear hr;clear h0 h1 t0 t1;go_enter func185,ntmps185;go_wp2;go_ret;exact⟨rfl,rfl⟩
 have t2:(l==[112,117,116])=false:=by rw[beq_eq_false_iff_ne];exact h2
 by_cases h3:l=[100,101,108,101,116,101]
 ·subst h3
  have hr:isKw [100,101,108,101,116,101]=true:=by decide
  rw[hr];clear hr;clear h0 h1 h2 t0 t1 t2;go_enter func185,ntmps185;go_wp2;go_ret;exact⟨rfl,rfl⟩
 have t3:(l==[100,101,108,101,116,101])=false:=by rw[beq_eq_false_iff_ne];exact h3
 by_cases h4:l=[105,102]
 ·subst h4
  have hr:isKw [105,102]=true:=by decide
  rw[hr];clear hr;clear h0 h1 h2 h3 t0 t1 t2 t3;go_enter func185,ntmps185;go_wp2;go_ret;exact⟨rfl,rfl⟩
 have t4:(l==[105,102])=false:=by rw[beq_eq_false_iff_ne];exact h4
 by_cases h5:l=[101,108,115,101]
 ·subst h5
  have hr:isKw [101,108,115,101]=true:=by decide
  rw[hr];clear hr;clear h0 h1 h2 h3 h4 t0 t1 t2 t3 t4;go_enter func185,ntmps185;go_wp2;go_ret;exact⟨rfl,rfl⟩
 have t5:(l==[101,108,115,101])=false:=by rw[beq_eq_false_iff_ne];exact h5
 by_cases h6:l=[102,111,114]
 ·subst h6
  have hr:isKw [102,111,114]=true:=by decide
  rw[hr];clear hr;clear h0 h1 h2 h3 h4 h5 t0 t1 t2 t3 t4 t5;go_enter func185,ntmps185;go_wp2;go_ret;exact⟨rfl,rfl⟩
 have t6:(l==[102,111,114])=false:=by rw[beq_eq_false_iff_ne];exact h6
 by_cases h7:l=[116,111]
 ·subst h7
  have hr:isKw [116,111]=true:=by decide
  rw[hr];clear hr;clear h0 h1 h2 h3 h4 h5 h6 t0 t1 t2 t3 t4 t5 t6;go_enter func185,ntmps185;go_wp2;go_ret;exact⟨rfl,rfl⟩
 have t7:(l==[116,111])=false:=by rw[beq_eq_false_iff_ne];exact h7
 by_cases h8:l=[109,97,120]
 ·subst h8
  have hr:isKw [109,97,120]=true:=by decide
  rw[hr];clear hr;clear h0 h1 h2 h3 h4 h5 h6 h7 t0 t1 t2 t3 t4 t5 t6 t7;go_enter func185,ntmps185;go_wp2;go_ret;exact⟨rfl,rfl⟩
 have t8:(l==[109,97,120])=false:=by rw[beq_eq_false_iff_ne];exact h8
 by_cases h9:l=[101,109,105,116]
 ·subst h9
  have hr:isKw [101,109,105,116]=true:=by decide
  rw[hr];clear hr;clear h0 h1 h2 h3 h4 h5 h6 h7 h8 t0 t1 t2 t3 t4 t5 t6 t7 t8;go_enter func185,ntmps185;go_wp2;go_ret;exact⟨rfl,rfl⟩
 have t9:(l==[101,109,105,116])=false:=by rw[beq_eq_false_iff_ne];exact h9
 by_cases h10:l=[97,98,111,114,116]
 ·subst h10
  have hr:isKw [97,98,111,114,116]=true:=by decide
  rw[hr];clear hr;clear h0 h1 h2 h3 h4 h5 h6 h7 h8 h9 t0 t1 t2 t3 t4 t5 t6 t7 t8 t9;go_enter func185,ntmps185;go_wp2;go_ret;exact⟨rfl,rfl⟩
 have t10:(l==[97,98,111,114,116])=false:=by rw[beq_eq_false_iff_ne];exact h10
 by_cases h11:l=[110,111,116]
 ·subst h11
  have hr:isKw [110,111,116]=true:=by decide
  rw[hr];clear hr;clear h0 h1 h2 h3 h4 h5 h6 h7 h8 h9 h10 t0 t1 t2 t3 t4 t5 t6 t7 t8 t9 t10;go_enter func185,ntmps185;go_wp2;go_ret;exact⟨rfl,rfl⟩
 have t11:(l==[110,111,116])=false:=by rw[beq_eq_false_iff_ne];exact h11
 by_cases h12:l=[97,110,100]
 ·subst h12
  have hr:isKw [97,110,100]=true:=by decide
  rw[hr];clear hr;clear h0 h1 h2 h3 h4 h5 h6 h7 h8 h9 h10 h11 t0 t1 t2 t3 t4 t5 t6 t7 t8 t9 t10 t11;go_enter func185,ntmps185;go_wp2;go_ret;exact⟨rfl,rfl⟩
 have t12:(l==[97,110,100])=false:=by rw[beq_eq_false_iff_ne];exact h12
 by_cases h13:l=[111,114]
 ·subst h13
  have hr:isKw [111,114]=true:=by decide
  rw[hr];clear hr;clear h0 h1 h2 h3 h4 h5 h6 h7 h8 h9 h10 h11 h12 t0 t1 t2 t3 t4 t5 t6 t7 t8 t9 t10 t11 t12;go_enter func185,ntmps185;go_wp2;go_ret;exact⟨rfl,rfl⟩
 have t13:(l==[111,114])=false:=by rw[beq_eq_false_iff_ne];exact h13
 by_cases h14:l=[105,110,116]
 ·subst h14
  have hr:isKw [105,110,116]=true:=by decide
  rw[hr];clear hr;clear h0 h1 h2 h3 h4 h5 h6 h7 h8 h9 h10 h11 h12 h13 t0 t1 t2 t3 t4 t5 t6 t7 t8 t9 t10 t11 t12 t13;go_enter func185,ntmps185;go_wp2;go_ret;exact⟨rfl,rfl⟩
 have t14:(l==[105,110,116])=false:=by rw[beq_eq_false_iff_ne];exact h14
 by_cases h15:l=[115,116,114]
 ·subst h15
  have hr:isKw [115,116,114]=true:=by decide
  rw[hr];clear hr;clear h0 h1 h2 h3 h4 h5 h6 h7 h8 h9 h10 h11 h12 h13 h14 t0 t1 t2 t3 t4 t5 t6 t7 t8 t9 t10 t11 t12 t13 t14;go_enter func185,ntmps185;go_wp2;go_ret;exact⟨rfl,rfl⟩
 have t15:(l==[115,116,114])=false:=by rw[beq_eq_false_iff_ne];exact h15
 by_cases h16:l=[98,111,111,108]
 ·subst h16
  have hr:isKw [98,111,111,108]=true:=by decide
  rw[hr];clear hr;clear h0 h1 h2 h3 h4 h5 h6 h7 h8 h9 h10 h11 h12 h13 h14 h15 t0 t1 t2 t3 t4 t5 t6 t7 t8 t9 t10 t11 t12 t13 t14 t15;go_enter func185,ntmps185;go_wp2;go_ret;exact⟨rfl,rfl⟩
 have t16:(l==[98,111,111,108])=false:=by rw[beq_eq_false_iff_ne];exact h16
 by_cases h17:l=[116,101,120,116]
 ·subst h17
  have hr:isKw [116,101,120,116]=true:=by decide
  rw[hr];clear hr;clear h0 h1 h2 h3 h4 h5 h6 h7 h8 h9 h10 h11 h12 h13 h14 h15 h16 t0 t1 t2 t3 t4 t5 t6 t7 t8 t9 t10 t11 t12 t13 t14 t15 t16;go_enter func185,ntmps185;go_wp2;go_ret;exact⟨rfl,rfl⟩
 have t17:(l==[116,101,120,116])=false:=by rw[beq_eq_false_iff_ne];exact h17
 by_cases h18:l=[108,101,110]
 ·subst h18
  have hr:isKw [108,101,110]=true:=by decide
  rw[hr];clear hr;clear h0 h1 h2 h3 h4 h5 h6 h7 h8 h9 h10 h11 h12 h13 h14 h15 h16 h17 t0 t1 t2 t3 t4 t5 t6 t7 t8 t9 t10 t11 t12 t13 t14 t15 t16 t17;go_enter func185,ntmps185;go_wp2;go_ret;exact⟨rfl,rfl⟩
 have t18:(l==[108,101,110])=false:=by rw[beq_eq_false_iff_ne];exact h18
 by_cases h19:l=[103,101,116,105,110,116]
 ·subst h19
  have hr:isKw [103,101,116,105,110,116]=true:=by decide
  rw[hr];clear hr;clear h0 h1 h2 h3 h4 h5 h6 h7 h8 h9 h10 h11 h12 h13 h14 h15 h16 h17 h18 t0 t1 t2 t3 t4 t5 t6 t7 t8 t9 t10 t11 t12 t13 t14 t15 t16 t17 t18;go_enter func185,ntmps185;go_wp2;go_ret;exact⟨rfl,rfl⟩
 have t19:(l==[103,101,116,105,110,116])=false:=by rw[beq_eq_false_iff_ne];exact h19
 by_cases h20:l=[103,101,116,115,116,114]
 ·subst h20
  have hr:isKw [103,101,116,115,116,114]=true:=by decide
  rw[hr];clear hr;clear h0 h1 h2 h3 h4 h5 h6 h7 h8 h9 h10 h11 h12 h13 h14 h15 h16 h17 h18 h19 t0 t1 t2 t3 t4 t5 t6 t7 t8 t9 t10 t11 t12 t13 t14 t15 t16 t17 t18 t19;go_enter func185,ntmps185;go_wp2;go_ret;exact⟨rfl,rfl⟩
 have t20:(l==[103,101,116,115,116,114])=false:=by rw[beq_eq_false_iff_ne];exact h20
 by_cases h21:l=[104,97,115]
 ·subst h21
  have hr:isKw [104,97,115]=true:=by decide
  rw[hr];clear hr;clear h0 h1 h2 h3 h4 h5 h6 h7 h8 h9 h10 h11 h12 h13 h14 h15 h16 h17 h18 h19 h20 t0 t1 t2 t3 t4 t5 t6 t7 t8 t9 t10 t11 t12 t13 t14 t15 t16 t17 t18 t19 t20;go_enter func185,ntmps185;go_wp2;go_ret;exact⟨rfl,rfl⟩
 have t21:(l==[104,97,115])=false:=by rw[beq_eq_false_iff_ne];exact h21
 by_cases h22:l=[110,111,119]
 ·subst h22
  have hr:isKw [110,111,119]=true:=by decide
  rw[hr];clear hr;clear h0 h1 h2 h3 h4 h5 h6 h7 h8 h9 h10 h11 h12 h13 h14 h15 h16 h17 h18 h19 h20 h21 t0 t1 t2 t3 t4 t5 t6 t7 t8 t9 t10 t11 t12 t13 t14 t15 t16 t17 t18 t19 t20 t21;go_enter func185,ntmps185;go_wp2;go_ret;exact⟨rfl,rfl⟩
 have t22:(l==[110,111,119])=false:=by rw[beq_eq_false_iff_ne];exact h22
 by_cases h23:l=[114,97,110,100,111,109]
 ·subst h23
  have hr:isKw [114,97,110,100,111,109]=true:=by decide
  rw[hr];clear hr;clear h0 h1 h2 h3 h4 h5 h6 h7 h8 h9 h10 h11 h12 h13 h14 h15 h16 h17 h18 h19 h20 h21 h22 t0 t1 t2 t3 t4 t5 t6 t7 t8 t9 t10 t11 t12 t13 t14 t15 t16 t17 t18 t19 t20 t21 t22;go_enter func185,ntmps185;go_wp2;go_ret;exact⟨rfl,rfl⟩
 have t23:(l==[114,97,110,100,111,109])=false:=by rw[beq_eq_false_iff_ne];exact h23
 by_cases h24:l=[110,111,100,101]
 ·subst h24
  have hr:isKw [110,111,100,101]=true:=by decide
  rw[hr];clear hr;clear h0 h1 h2 h3 h4 h5 h6 h7 h8 h9 h10 h11 h12 h13 h14 h15 h16 h17 h18 h19 h20 h21 h22 h23 t0 t1 t2 t3 t4 t5 t6 t7 t8 t9 t10 t11 t12 t13 t14 t15 t16 t17 t18 t19 t20 t21 t22 t23;go_enter func185,ntmps185;go_wp2;go_ret;exact⟨rfl,rfl⟩
 have t24:(l==[110,111,100,101])=false:=by rw[beq_eq_false_iff_ne];exact h24
 have hr:=kw_no ⟨h0,h1,h2,h3,h4,h5,h6,h7,h8,h9,h10,h11,h12,h13,h14,h15,h16,h17,h18,h19,h20,h21,h22,h23,h24⟩;rw[hr];clear hr h0 h1 h2 h3 h4 h5 h6 h7 h8 h9 h10 h11 h12 h13 h14 h15 h16 h17 h18 h19 h20 h21 h22 h23 h24;go_enter func185,ntmps185;go_wp2;go_ret;exact⟨rfl,rfl⟩
theorem letter_any(c:Int)(w:World):
  Calls prog 183 #[.int .i32 c] w fun e w'=>e=.returned (.bool (ltrI c))∧w=w':=by
 by_cases h1:97≤c
 ·by_cases h2:c≤122
  ·have hr:ltrI c=true:=by unfold ltrI;rw[decide_eq_true (by omega),decide_eq_true (by omega)];rfl
   rw[hr];clear hr;go_enter func183,ntmps183;go_wp2;go_ret;exact⟨rfl,rfl⟩
  ·have hr:ltrI c=false:=by unfold ltrI;rw[decide_eq_true (by omega),decide_eq_false (by omega)];rfl
   rw[hr];clear hr;go_enter func183,ntmps183;go_wp2;go_ret;exact⟨rfl,rfl⟩
 ·have hr:ltrI c=false:=by unfold ltrI;rw[decide_eq_false (by omega)];rfl
  rw[hr];clear hr;go_enter func183,ntmps183;go_wp2;go_ret;exact⟨rfl,rfl⟩
theorem word_any(l:List UInt8)(w:World):
  Calls prog 184 #[.string (bs l)] w fun e w'=>e=.returned (.int .i64 ((wlen l:Nat):Int))∧Below w.heap.size w w':=by
 obtain⟨R,hR⟩:=ex_ (wlen l);rw[hR];have HR:=h_ (show 0+wlen (l.drop 0)=R by rw[List.drop_zero,hR,Nat.zero_add]);clear hR;go_enter func184,ntmps184;go_wp2;go_loopw [] (fun wr=>∃k:Nat,k≤l.length∧wr=w.iter (bs l) k∧k+wlen (l.drop k)=R) (fun wr=>l.length-wr.iterPos w.heap.size)
 case atStart=>exact⟨0,Nat.zero_le _,rfl,HR.out⟩
 case round =>
  obtain⟨k,hk,rfl,hR⟩:=hrel;clear HR;have HR:=h_ hR;clear hR;by_cases hlt:k<l.length
  ·by_cases ha:l[k].toNat<128
   ·have hnx:∀ty,(Instr.next (.pointer (some ⟨w.heap.size,0,none⟩)) true ty).run prog (w.iter (bs l) k)=.ok (.tuple #[.bool true,.int .i64 (k:Int),.int .i32 (l[k].toNat:Int)]) (w.iter (bs l) (k+1)):=fun ty=>run_next_ascii w (bs l) k ty (by rw[bs_size];exact hlt) ha
    by_cases h1:ltr l[k]=true
    ·have H1:=h_ ((ltrI_byte l[k]).trans h1)
     have hp:prt l[k]=true:=by unfold prt;rw[h1];rfl
     have HN:=h_ (wl_go HR.out hlt hp);clear hp;clear h1;go_wp2_with fail;refine(letter_any _ _).mono ?_;rw[H1.out];rintro er w1 ⟨rfl,rfl⟩;go_wp2;go_roundw
     case rel=>exact⟨k+1,by omega,rfl,HN.out⟩
     case measure=>simp;omega
    have h1f:ltr l[k]=false:=by rw[Bool.eq_false_iff];exact h1
    have H1:=h_ ((ltrI_byte l[k]).trans h1f);have hno:¬(97≤l[k].toNat∧l[k].toNat≤122):=fun h=>h1 ((ltr_iff _).2 h);clear h1 h1f;by_cases h2:(l[k].toNat:Int)<48
    ·have t95:((l[k].toNat:Int) != 95)=true:=by rw[bne_iff_ne];omega
     have HS:=h_ (wl_stop HR.out hlt (by rw[prt_iff];omega));clear hno;go_wp2_with fail;refine(letter_any _ _).mono ?_;rw[H1.out];rintro er w1 ⟨rfl,rfl⟩;go_wp2;go_ret;exact⟨by rw[HS.out]<;>rfl,(Below.refl _ _).alloc (Nat.le_refl _) _⟩
    by_cases h3:(57:Int)<(l[k].toNat:Int)
    ·by_cases h4:(l[k].toNat:Int)=95
     ·have t95:((l[k].toNat:Int) != 95)=false:=by rw[h4];rfl
      have hp:prt l[k]=true:=by rw[prt_iff];omega
      have HN:=h_ (wl_go HR.out hlt hp);clear hp;have H4:=h_ h4;clear h4 hno;go_wp2_with fail;refine(letter_any _ _).mono ?_;rw[H1.out];rintro er w1 ⟨rfl,rfl⟩;go_wp2;go_roundw
      case rel=>exact⟨k+1,by omega,rfl,HN.out⟩
      case measure=>simp;omega
     have t95:((l[k].toNat:Int) != 95)=true:=by rw[bne_iff_ne];exact h4
     have HS:=h_ (wl_stop HR.out hlt (by rw[prt_iff];omega));clear hno h4;go_wp2_with fail;refine(letter_any _ _).mono ?_;rw[H1.out];rintro er w1 ⟨rfl,rfl⟩;go_wp2;go_ret;exact⟨by rw[HS.out]<;>rfl,(Below.refl _ _).alloc (Nat.le_refl _) _⟩
    have hp:prt l[k]=true:=by rw[prt_iff];omega
    have HN:=h_ (wl_go HR.out hlt hp);clear hp;clear hno;go_wp2_with fail;refine(letter_any _ _).mono ?_;rw[H1.out];rintro er w1 ⟨rfl,rfl⟩;go_wp2;go_roundw
    case rel=>exact⟨k+1,by omega,rfl,HN.out⟩
    case measure=>simp;omega
   ·obtain⟨c,hc⟩:=ex_ ((Utf8.decode (bs l) k).1)
    have hsz:k<(bs l).size:=by rw[bs_size];exact hlt
    have hd:=decode_high (bs l) k hsz (by show 128≤l[k].toNat;omega);have hd2:=decode_le (bs l) k;rw[hc]at hd hd2;obtain⟨q,hq⟩:=ex_ (k+(Utf8.decode (bs l) k).2)
    have hnx:∀ty,(Instr.next (.pointer (some ⟨w.heap.size,0,none⟩)) true ty).run prog (w.iter (bs l) k)=.ok (.tuple #[.bool true,.int .i64 (k:Int),.int .i32 (c:Int)]) (w.iter (bs l) q):=fun ty=>by rw[run_next_any w (bs l) k ty hsz,hc,hq]
    have H1:=h_ (show ltrI (c:Int)=false by unfold ltrI;rw[decide_eq_false (p:=(c:Int)≤122) (by omega)];simp)
    have g1:¬(c:Int)<48:=by omega
    have g2:(57:Int)<(c:Int):=by omega
    have t95:((c:Int) != 95)=true:=by rw[bne_iff_ne];omega
    have HS:=h_ (wl_stop HR.out hlt (by rw[prt_iff];omega));clear hc hq hd hd2;go_wp2_with fail;refine(letter_any _ _).mono ?_;rw[H1.out];rintro er w1 ⟨rfl,rfl⟩;go_wp2;go_ret;exact⟨by rw[HS.out]<;>rfl,(Below.refl _ _).alloc (Nat.le_refl _) _⟩
  ·have hnx:∀ty,(Instr.next (.pointer (some ⟨w.heap.size,0,none⟩)) true ty).run prog (w.iter (bs l) k)=.ok (.tuple #[.bool false]) (w.iter (bs l) k):=fun ty=>run_next_end w (bs l) k ty (by rw[bs_size];exact hlt)
   have hR:=wl_end HR.out hlt
   have hkl:k=l.length:=by omega
   have HS:=h_ (hR.trans hkl);clear hR hkl;go_wp2;go_ret;exact⟨by rw[HS.out]<;>rfl,(Below.refl _ _).alloc (Nat.le_refl _) _⟩
theorem Printable_any(l:List UInt8)(hl:l.length≤9223372036854775807)(w:World):
  Calls prog 100 #[.string (bs l)] w fun e w'=>e=.returned (.bool (l.all okc))∧w=w':=by
 go_enter func100,ntmps100;go_wp2
 go_loop [3] (fun i=>∃k:Nat,k≤l.length∧i=.int .i64 k∧(l.take k).all okc=true) (fun i=>l.length-(intOf i).toNat)
 case atStart=>exact⟨0,Nat.zero_le _,rfl,rfl⟩
 case round =>
  obtain⟨k,hk,rfl,hall⟩:=hrel;have HA:=h_ hall;clear hall;by_cases hlt:k<l.length
  ·have hlt':(k:Int)<(l.length:Int):=by omega
   by_cases h1:(l[k].toNat:Int)<32
   ·have HF:=h_ (all_bad k hlt (okc_lo h1))
    go_wp2;go_ret;exact⟨by rw[HF.out]<;>rfl,rfl⟩
   by_cases h2:(126:Int)<(l[k].toNat:Int)
   ·have HF:=h_ (all_bad k hlt (okc_hi h2))
    go_wp2;go_ret;exact⟨by rw[HF.out]<;>rfl,rfl⟩
   have hA2:(l.take (k+1)).all okc=true:=by
    rw[ltake_snoc l k hlt,List.all_append,HA.out];have:okc l[k]=true:=(okc_iff _).2 (by omega);simp[this]
   have HA2:=h_ hA2;clear hA2;go_wp2
   go_round
   case rel=>exact⟨k+1,by omega,by go_num,HA2.out⟩
   case measure=>simp[intOf];omega
  ·have hall:=HA.out
   rw[ltake_all l hlt]at hall;have HF:=h_ hall;clear hall;go_wp2;go_ret;exact⟨by rw[HF.out]<;>rfl,rfl⟩
theorem isNm_eq(l:List UInt8)(h:0<l.length):isNm l=(decide (l.length≤16) && (ltr l[0] && (decide (wlen l=l.length) && !isKw l))):=by
 cases l with
 | nil=>simp at h
 | cons c r=>rfl
theorem IsName_any(l:List UInt8)(hl:l.length≤1000000)(w:World):
  Calls prog 171 #[.string (bs l)] w fun e w'=>e=.returned (.bool (isNm l))∧Below w.heap.size w w':=by
 by_cases h0:0<l.length;rotate_left
 ·have:l=[]:=List.eq_nil_of_length_eq_zero (by omega)
  subst this;have hr:isNm []=false:=rfl;rw[hr];clear hr;go_enter func171,ntmps171;go_wp2;go_ret;exact⟨rfl,Below.refl _ _⟩
 rw[isNm_eq l h0]
 have h0i:(1:Int)≤(l.length:Int):=by omega
 have e0:l.isEmpty=false:=by cases l with|nil=>simp at h0|cons c r=>rfl
 have hc0:IntKind.i32.wrap (l[0].toNat:Int)=(l[0].toNat:Int):=by have:=l[0].toNat_lt;simp only[IntKind.wrap,IntKind.signed,IntKind.bits];simp;omega
 by_cases h16:l.length≤16;rotate_left
 ·have hr:(decide (l.length≤16) && (ltr l[0] && (decide (wlen l=l.length) && !isKw l)))=false:=by rw[decide_eq_false h16];rfl
  rw[hr];clear hr
  have h16':¬(l.length:Int)≤16:=by omega
  go_enter func171,ntmps171;go_wp2;go_ret;exact⟨rfl,Below.refl _ _⟩
 have h16':(l.length:Int)≤16:=by omega
 rw[decide_eq_true h16,Bool.true_and]
 cases h1:ltr l[0] with
 | false =>
  have H1:=h_ ((ltrI_byte l[0]).trans h1);clear h1;go_enter func171,ntmps171;go_wp2_with fail;refine(letter_any _ _).mono ?_;rw[H1.out];rintro er w1 ⟨rfl,rfl⟩;go_wp2;go_ret;exact⟨rfl,Below.refl _ _⟩
 | true =>
  have H1:=h_ ((ltrI_byte l[0]).trans h1);clear h1;obtain⟨m,hm⟩:=ex_ (wlen l);rw[hm,Bool.true_and];by_cases he:m=l.length;rotate_left
  ·have te:((m:Int)==(l.length:Int))=false:=by rw[beq_eq_false_iff_ne];omega
   have hr:(decide (m=l.length) && !isKw l)=false:=by rw[decide_eq_false he];rfl
   rw[hr];have HM:=h_ hm;have HE:=h_ he;clear hr hm he;go_enter func171,ntmps171;go_wp2_with fail;refine(letter_any _ _).mono ?_;rw[H1.out];rintro er w1 ⟨rfl,rfl⟩;go_wp2_with fail;refine(word_any l _).mono ?_;rw[HM.out];rintro er w2 ⟨rfl,hb1⟩;go_wp2;go_ret;exact⟨rfl,hb1⟩
  have te:((m:Int)==(l.length:Int))=true:=by rw[beq_iff_eq];omega
  obtain⟨b,hb⟩:=ex_ (isKw l)
  have hr:(decide (m=l.length) && !isKw l)=!b:=by rw[decide_eq_true he,hb];rfl
  rw[hr];have HM:=h_ hm;have HE:=h_ he;have HK:=h_ hb;clear hr hm he hb;go_enter func171,ntmps171;go_wp2_with fail;refine(letter_any _ _).mono ?_;rw[H1.out];rintro er w1 ⟨rfl,rfl⟩;go_wp2_with fail;refine(word_any l _).mono ?_;rw[HM.out];rintro er w2 ⟨rfl,hb1⟩;go_wp2_with fail;refine(IsKeyword_any l _).mono ?_;rw[HK.out];rintro er w3 ⟨rfl,rfl⟩;go_wp2;go_ret;exact⟨rfl,hb1⟩
theorem Arity_any(op:Int)(w:World):
  Calls prog 49 #[.int .i64 op] w fun e w'=>e=.returned (.int .i64 (arS op))∧w'=w:=by
 by_cases h1:op<1
 ·skip
  have hr:arS op = -1:=by unfold arS;rw[if_pos (.inl h1)]
  rw[hr];clear hr;go_enter func49,ntmps49;go_wp2;go_ret;exact⟨rfl,rfl⟩
 by_cases h2:27<op
 ·skip
  have hr:arS op = -1:=by unfold arS;rw[if_pos (.inr h2)]
  rw[hr];clear hr;go_enter func49,ntmps49;go_wp2;go_ret;exact⟨rfl,rfl⟩
 by_cases h3:op≤3
 ·skip
  have hr:arS op=0:=by unfold arS;rw[if_neg (by omega),if_pos (.inl h3)]
  rw[hr];clear hr;go_enter func49,ntmps49;go_wp2;go_ret;exact⟨rfl,rfl⟩
 by_cases h4:25≤op
 ·skip
  have hr:arS op=0:=by unfold arS;rw[if_neg (by omega),if_pos (.inr h4)]
  rw[hr];clear hr;go_enter func49,ntmps49;go_wp2;go_ret;exact⟨rfl,rfl⟩
 by_cases h5:op=9
 ·subst h5
  have hr:arS 9=1:=by rfl
  rw[hr];clear hr;go_enter func49,ntmps49;go_wp2;go_ret;exact⟨rfl,rfl⟩
 by_cases h6:op=18
 ·subst h6
  have hr:arS 18=1:=by rfl
  rw[hr];clear hr;go_enter func49,ntmps49;go_wp2;go_ret;exact⟨rfl,rfl⟩
 have t5:(op==9)=false:=by rw[beq_eq_false_iff_ne];exact h5
 have t6:(op==18)=false:=by rw[beq_eq_false_iff_ne];exact h6
 by_cases h7:20≤op
 ·skip
  have hr:arS op=1:=by unfold arS;rw[if_neg (by omega),if_neg (by omega),if_pos (.inr (.inr h7))]
  rw[hr];clear hr;go_enter func49,ntmps49;go_wp2;go_ret;exact⟨rfl,rfl⟩
 have hr:arS op=2:=by unfold arS;rw[if_neg (by omega),if_neg (by omega),if_neg (by omega)]
 rw[hr];clear hr;go_enter func49,ntmps49;go_wp2;go_ret;exact⟨rfl,rfl⟩
theorem RArity_any(op:Int)(w:World):
  Calls prog 101 #[.int .i64 op] w fun e w'=>e=.returned (.int .i64 (arS op))∧w'=w:=by
 by_cases e1:op=1
 ·subst e1
  have hr:arS 1=0:=by rfl
  rw[hr];clear hr;go_enter func101,ntmps101;go_wp2;go_ret;exact⟨rfl,rfl⟩
 have t1:(op==1)=false:=by rw[beq_eq_false_iff_ne];exact e1
 by_cases e2:op=2
 ·subst e2
  have hr:arS 2=0:=by rfl
  rw[hr];clear hr;go_enter func101,ntmps101;go_wp2;go_ret;exact⟨rfl,rfl⟩
 have t2:(op==2)=false:=by rw[beq_eq_false_iff_ne];exact e2
 by_cases e3:op=3
 ·subst e3
  have hr:arS 3=0:=by rfl
  rw[hr];clear hr;go_enter func101,ntmps101;go_wp2;go_ret;exact⟨rfl,rfl⟩
 have t3:(op==3)=false:=by rw[beq_eq_false_iff_ne];exact e3
 by_cases e25:op=25
 ·subst e25
  have hr:arS 25=0:=by rfl
  rw[hr];clear hr;go_enter func101,ntmps101;go_wp2;go_ret;exact⟨rfl,rfl⟩
 have t25:(op==25)=false:=by rw[beq_eq_false_iff_ne];exact e25
 by_cases e26:op=26
 ·subst e26
  have hr:arS 26=0:=by rfl
  rw[hr];clear hr;go_enter func101,ntmps101;go_wp2;go_ret;exact⟨rfl,rfl⟩
 have t26:(op==26)=false:=by rw[beq_eq_false_iff_ne];exact e26
 by_cases e27:op=27
 ·subst e27
  have hr:arS 27=0:=by rfl
  rw[hr];clear hr;go_enter func101,ntmps101;go_wp2;go_ret;exact⟨rfl,rfl⟩
 have t27:(op==27)=false:=by rw[beq_eq_false_iff_ne];exact e27
 by_cases e9:op=9
 ·subst e9
  have hr:arS 9=1:=by rfl
  rw[hr];clear hr;go_enter func101,ntmps101;go_wp2;go_ret;exact⟨rfl,rfl⟩
 have t9:(op==9)=false:=by rw[beq_eq_false_iff_ne];exact e9
 by_cases e18:op=18
 ·subst e18
  have hr:arS 18=1:=by rfl
  rw[hr];clear hr;go_enter func101,ntmps101;go_wp2;go_ret;exact⟨rfl,rfl⟩
 have t18:(op==18)=false:=by rw[beq_eq_false_iff_ne];exact e18
 by_cases e20:op=20
 ·subst e20
  have hr:arS 20=1:=by rfl
  rw[hr];clear hr;go_enter func101,ntmps101;go_wp2;go_ret;exact⟨rfl,rfl⟩
 have t20:(op==20)=false:=by rw[beq_eq_false_iff_ne];exact e20
 by_cases e21:op=21
 ·subst e21
  have hr:arS 21=1:=by rfl
  rw[hr];clear hr;go_enter func101,ntmps101;go_wp2;go_ret;exact⟨rfl,rfl⟩
 have t21:(op==21)=false:=by rw[beq_eq_false_iff_ne];exact e21
 by_cases e22:op=22
 ·subst e22
  have hr:arS 22=1:=by rfl
  rw[hr];clear hr;go_enter func101,ntmps101;go_wp2;go_ret;exact⟨rfl,rfl⟩
 have t22:(op==22)=false:=by rw[beq_eq_false_iff_ne];exact e22
 by_cases e23:op=23
 ·subst e23
  have hr:arS 23=1:=by rfl
  rw[hr];clear hr;go_enter func101,ntmps101;go_wp2;go_ret;exact⟨rfl,rfl⟩
 have t23:(op==23)=false:=by rw[beq_eq_false_iff_ne];exact e23
 by_cases e24:op=24
 ·subst e24
  have hr:arS 24=1:=by rfl
  rw[hr];clear hr;go_enter func101,ntmps101;go_wp2;go_ret;exact⟨rfl,rfl⟩
 have t24:(op==24)=false:=by rw[beq_eq_false_iff_ne];exact e24
 by_cases h1:4≤op;rotate_left
 ·skip
  have hr:arS op = -1:=by unfold arS;rw[if_pos (.inl (by omega))]
  rw[hr];clear hr;go_enter func101,ntmps101;go_wp2;go_ret;exact⟨rfl,rfl⟩
 by_cases h2:op≤19;rotate_left
 ·skip
  have hr:arS op = -1:=by unfold arS;rw[if_pos (.inr (by omega))]
  rw[hr];clear hr;go_enter func101,ntmps101;go_wp2;go_ret;exact⟨rfl,rfl⟩
 have hr:arS op=2:=by unfold arS;rw[if_neg (by omega),if_neg (by omega),if_neg (by omega)]
 rw[hr];clear hr;go_enter func101,ntmps101;go_wp2;go_ret;exact⟨rfl,rfl⟩
theorem takes_any(x:Ins)(w:World):
  Calls prog 50 #[.agg (insV x)] w fun e w'=>e=.returned (.int .i64 (takeI x))∧Below w.heap.size w w':=by
 obtain⟨op,a,b,n,s⟩:=x;simp only[insV];by_cases e4:op=4
 ·subst e4
  have hr:takeI ⟨4,a,b,n,s⟩=1:=by rfl
  rw[hr];clear hr;have hb0:=((Below.refl w.heap.size w).alloc (Nat.le_refl _) (.cells #[.int .i64 4,.int .i64 a,.int .i64 b,.int .i64 n,.string (bs s)] 45));have h_HX:=(Bx.new w #[.int .i64 4,.int .i64 a,.int .i64 b,.int .i64 n,.string (bs s)] 45);have HB:=h_ hb0;have HX:=h_ h_HX;clear hb0 h_HX;go_enter func50,ntmps50;go_upto_region 1 with (fail);generalize hW0:w.alloc (.cells #[.int .i64 4,.int .i64 a,.int .i64 b,.int .i64 n,.string (bs s)] 45)=v0 at HB HX ⊢;clear hW0;obtain⟨x0,x1,x2,x3,x4⟩:=HX.out.d5 0 1 2 3 4;go_wp2;go_ret;exact⟨rfl,HB.out⟩
 have t4:(op==4)=false:=by rw[beq_eq_false_iff_ne];exact e4
 by_cases e7:op=7
 ·subst e7
  have hr:takeI ⟨7,a,b,n,s⟩=1:=by rfl
  rw[hr];clear hr;have hb0:=((Below.refl w.heap.size w).alloc (Nat.le_refl _) (.cells #[.int .i64 7,.int .i64 a,.int .i64 b,.int .i64 n,.string (bs s)] 45));have h_HX:=(Bx.new w #[.int .i64 7,.int .i64 a,.int .i64 b,.int .i64 n,.string (bs s)] 45);have HB:=h_ hb0;have HX:=h_ h_HX;clear hb0 h_HX;go_enter func50,ntmps50;go_upto_region 1 with (fail);generalize hW0:w.alloc (.cells #[.int .i64 7,.int .i64 a,.int .i64 b,.int .i64 n,.string (bs s)] 45)=v0 at HB HX ⊢;clear hW0;obtain⟨x0,x1,x2,x3,x4⟩:=HX.out.d5 0 1 2 3 4;go_wp2;go_ret;exact⟨rfl,HB.out⟩
 have t7:(op==7)=false:=by rw[beq_eq_false_iff_ne];exact e7
 by_cases e9:op=9
 ·subst e9
  have hr:takeI ⟨9,a,b,n,s⟩=1:=by rfl
  rw[hr];clear hr;have hb0:=((Below.refl w.heap.size w).alloc (Nat.le_refl _) (.cells #[.int .i64 9,.int .i64 a,.int .i64 b,.int .i64 n,.string (bs s)] 45));have h_HX:=(Bx.new w #[.int .i64 9,.int .i64 a,.int .i64 b,.int .i64 n,.string (bs s)] 45);have HB:=h_ hb0;have HX:=h_ h_HX;clear hb0 h_HX;go_enter func50,ntmps50;go_upto_region 1 with (fail);generalize hW0:w.alloc (.cells #[.int .i64 9,.int .i64 a,.int .i64 b,.int .i64 n,.string (bs s)] 45)=v0 at HB HX ⊢;clear hW0;obtain⟨x0,x1,x2,x3,x4⟩:=HX.out.d5 0 1 2 3 4;go_wp2;go_ret;exact⟨rfl,HB.out⟩
 have t9:(op==9)=false:=by rw[beq_eq_false_iff_ne];exact e9
 by_cases e10:op=10
 ·subst e10
  have hr:takeI ⟨10,a,b,n,s⟩=1:=by rfl
  rw[hr];clear hr;have hb0:=((Below.refl w.heap.size w).alloc (Nat.le_refl _) (.cells #[.int .i64 10,.int .i64 a,.int .i64 b,.int .i64 n,.string (bs s)] 45));have h_HX:=(Bx.new w #[.int .i64 10,.int .i64 a,.int .i64 b,.int .i64 n,.string (bs s)] 45);have HB:=h_ hb0;have HX:=h_ h_HX;clear hb0 h_HX;go_enter func50,ntmps50;go_upto_region 1 with (fail);generalize hW0:w.alloc (.cells #[.int .i64 10,.int .i64 a,.int .i64 b,.int .i64 n,.string (bs s)] 45)=v0 at HB HX ⊢;clear hW0;obtain⟨x0,x1,x2,x3,x4⟩:=HX.out.d5 0 1 2 3 4;go_wp2;go_ret;exact⟨rfl,HB.out⟩
 have t10:(op==10)=false:=by rw[beq_eq_false_iff_ne];exact e10
 by_cases e8:op=8
 ·subst e8
  have hr:takeI ⟨8,a,b,n,s⟩=2:=by rfl
  rw[hr];clear hr;have hb0:=((Below.refl w.heap.size w).alloc (Nat.le_refl _) (.cells #[.int .i64 8,.int .i64 a,.int .i64 b,.int .i64 n,.string (bs s)] 45));have h_HX:=(Bx.new w #[.int .i64 8,.int .i64 a,.int .i64 b,.int .i64 n,.string (bs s)] 45);have HB:=h_ hb0;have HX:=h_ h_HX;clear hb0 h_HX;go_enter func50,ntmps50;go_upto_region 1 with (fail);generalize hW0:w.alloc (.cells #[.int .i64 8,.int .i64 a,.int .i64 b,.int .i64 n,.string (bs s)] 45)=v0 at HB HX ⊢;clear hW0;obtain⟨x0,x1,x2,x3,x4⟩:=HX.out.d5 0 1 2 3 4;go_wp2;go_ret;exact⟨rfl,HB.out⟩
 have t8:(op==8)=false:=by rw[beq_eq_false_iff_ne];exact e8
 by_cases e5:op=5
 ·subst e5
  have hr:takeI ⟨5,a,b,n,s⟩=arS a:=by rfl
  rw[hr];clear hr;have hb0:=((Below.refl w.heap.size w).alloc (Nat.le_refl _) (.cells #[.int .i64 5,.int .i64 a,.int .i64 b,.int .i64 n,.string (bs s)] 45));have h_HX:=(Bx.new w #[.int .i64 5,.int .i64 a,.int .i64 b,.int .i64 n,.string (bs s)] 45);have HB:=h_ hb0;have HX:=h_ h_HX;clear hb0 h_HX;go_enter func50,ntmps50;go_upto_region 1 with (fail);generalize hW0:w.alloc (.cells #[.int .i64 5,.int .i64 a,.int .i64 b,.int .i64 n,.string (bs s)] 45)=v0 at HB HX ⊢;clear hW0;obtain⟨x0,x1,x2,x3,x4⟩:=HX.out.d5 0 1 2 3 4;go_wp2_with fail;refine(Arity_any a _).mono ?_;rintro er w1 ⟨rfl,rfl⟩;go_wp2;go_ret;exact⟨rfl,HB.out⟩
 have t5:(op==5)=false:=by rw[beq_eq_false_iff_ne];exact e5
 have hr:takeI ⟨op,a,b,n,s⟩=0:=by unfold takeI;simp[e4,e7,e9,e10,e8,e5]
 rw[hr];clear hr;have hb0:=((Below.refl w.heap.size w).alloc (Nat.le_refl _) (.cells #[.int .i64 op,.int .i64 a,.int .i64 b,.int .i64 n,.string (bs s)] 45));have h_HX:=(Bx.new w #[.int .i64 op,.int .i64 a,.int .i64 b,.int .i64 n,.string (bs s)] 45);have HB:=h_ hb0;have HX:=h_ h_HX;clear hb0 h_HX;go_enter func50,ntmps50;go_upto_region 1 with (fail);generalize hW0:w.alloc (.cells #[.int .i64 op,.int .i64 a,.int .i64 b,.int .i64 n,.string (bs s)] 45)=v0 at HB HX ⊢;clear hW0;obtain⟨x0,x1,x2,x3,x4⟩:=HX.out.d5 0 1 2 3 4;go_wp2;go_ret;exact⟨rfl,HB.out⟩
theorem Rtakes_any(x:Ins)(w:World):
  Calls prog 103 #[.agg (insV x)] w fun e w'=>e=.returned (.int .i64 (takeI x))∧Below w.heap.size w w':=by
 obtain⟨op,a,b,n,s⟩:=x;simp only[insV];by_cases e4:op=4
 ·subst e4
  have hr:takeI ⟨4,a,b,n,s⟩=1:=by rfl
  rw[hr];clear hr;have hb0:=((Below.refl w.heap.size w).alloc (Nat.le_refl _) (.cells #[.int .i64 4,.int .i64 a,.int .i64 b,.int .i64 n,.string (bs s)] 45));have h_HX:=(Bx.new w #[.int .i64 4,.int .i64 a,.int .i64 b,.int .i64 n,.string (bs s)] 45);have HB:=h_ hb0;have HX:=h_ h_HX;clear hb0 h_HX;go_enter func103,ntmps103;go_upto_region 1 with (fail);generalize hW0:w.alloc (.cells #[.int .i64 4,.int .i64 a,.int .i64 b,.int .i64 n,.string (bs s)] 45)=v0 at HB HX ⊢;clear hW0;obtain⟨x0,x1,x2,x3,x4⟩:=HX.out.d5 0 1 2 3 4;go_wp2;go_ret;exact⟨rfl,HB.out⟩
 have t4:(op==4)=false:=by rw[beq_eq_false_iff_ne];exact e4
 by_cases e7:op=7
 ·subst e7
  have hr:takeI ⟨7,a,b,n,s⟩=1:=by rfl
  rw[hr];clear hr;have hb0:=((Below.refl w.heap.size w).alloc (Nat.le_refl _) (.cells #[.int .i64 7,.int .i64 a,.int .i64 b,.int .i64 n,.string (bs s)] 45));have h_HX:=(Bx.new w #[.int .i64 7,.int .i64 a,.int .i64 b,.int .i64 n,.string (bs s)] 45);have HB:=h_ hb0;have HX:=h_ h_HX;clear hb0 h_HX;go_enter func103,ntmps103;go_upto_region 1 with (fail);generalize hW0:w.alloc (.cells #[.int .i64 7,.int .i64 a,.int .i64 b,.int .i64 n,.string (bs s)] 45)=v0 at HB HX ⊢;clear hW0;obtain⟨x0,x1,x2,x3,x4⟩:=HX.out.d5 0 1 2 3 4;go_wp2;go_ret;exact⟨rfl,HB.out⟩
 have t7:(op==7)=false:=by rw[beq_eq_false_iff_ne];exact e7
 by_cases e9:op=9
 ·subst e9
  have hr:takeI ⟨9,a,b,n,s⟩=1:=by rfl
  rw[hr];clear hr;have hb0:=((Below.refl w.heap.size w).alloc (Nat.le_refl _) (.cells #[.int .i64 9,.int .i64 a,.int .i64 b,.int .i64 n,.string (bs s)] 45));have h_HX:=(Bx.new w #[.int .i64 9,.int .i64 a,.int .i64 b,.int .i64 n,.string (bs s)] 45);have HB:=h_ hb0;have HX:=h_ h_HX;clear hb0 h_HX;go_enter func103,ntmps103;go_upto_region 1 with (fail);generalize hW0:w.alloc (.cells #[.int .i64 9,.int .i64 a,.int .i64 b,.int .i64 n,.string (bs s)] 45)=v0 at HB HX ⊢;clear hW0;obtain⟨x0,x1,x2,x3,x4⟩:=HX.out.d5 0 1 2 3 4;go_wp2;go_ret;exact⟨rfl,HB.out⟩
 have t9:(op==9)=false:=by rw[beq_eq_false_iff_ne];exact e9
 by_cases e10:op=10
 ·subst e10
  have hr:takeI ⟨10,a,b,n,s⟩=1:=by rfl
  rw[hr];clear hr;have hb0:=((Below.refl w.heap.size w).alloc (Nat.le_refl _) (.cells #[.int .i64 10,.int .i64 a,.int .i64 b,.int .i64 n,.string (bs s)] 45));have h_HX:=(Bx.new w #[.int .i64 10,.int .i64 a,.int .i64 b,.int .i64 n,.string (bs s)] 45);have HB:=h_ hb0;have HX:=h_ h_HX;clear hb0 h_HX;go_enter func103,ntmps103;go_upto_region 1 with (fail);generalize hW0:w.alloc (.cells #[.int .i64 10,.int .i64 a,.int .i64 b,.int .i64 n,.string (bs s)] 45)=v0 at HB HX ⊢;clear hW0;obtain⟨x0,x1,x2,x3,x4⟩:=HX.out.d5 0 1 2 3 4;go_wp2;go_ret;exact⟨rfl,HB.out⟩
 have t10:(op==10)=false:=by rw[beq_eq_false_iff_ne];exact e10
 by_cases e8:op=8
 ·subst e8
  have hr:takeI ⟨8,a,b,n,s⟩=2:=by rfl
  rw[hr];clear hr;have hb0:=((Below.refl w.heap.size w).alloc (Nat.le_refl _) (.cells #[.int .i64 8,.int .i64 a,.int .i64 b,.int .i64 n,.string (bs s)] 45));have h_HX:=(Bx.new w #[.int .i64 8,.int .i64 a,.int .i64 b,.int .i64 n,.string (bs s)] 45);have HB:=h_ hb0;have HX:=h_ h_HX;clear hb0 h_HX;go_enter func103,ntmps103;go_upto_region 1 with (fail);generalize hW0:w.alloc (.cells #[.int .i64 8,.int .i64 a,.int .i64 b,.int .i64 n,.string (bs s)] 45)=v0 at HB HX ⊢;clear hW0;obtain⟨x0,x1,x2,x3,x4⟩:=HX.out.d5 0 1 2 3 4;go_wp2;go_ret;exact⟨rfl,HB.out⟩
 have t8:(op==8)=false:=by rw[beq_eq_false_iff_ne];exact e8
 by_cases e5:op=5
 ·subst e5
  have hr:takeI ⟨5,a,b,n,s⟩=arS a:=by rfl
  rw[hr];clear hr;have hb0:=((Below.refl w.heap.size w).alloc (Nat.le_refl _) (.cells #[.int .i64 5,.int .i64 a,.int .i64 b,.int .i64 n,.string (bs s)] 45));have h_HX:=(Bx.new w #[.int .i64 5,.int .i64 a,.int .i64 b,.int .i64 n,.string (bs s)] 45);have HB:=h_ hb0;have HX:=h_ h_HX;clear hb0 h_HX;go_enter func103,ntmps103;go_upto_region 1 with (fail);generalize hW0:w.alloc (.cells #[.int .i64 5,.int .i64 a,.int .i64 b,.int .i64 n,.string (bs s)] 45)=v0 at HB HX ⊢;clear hW0;obtain⟨x0,x1,x2,x3,x4⟩:=HX.out.d5 0 1 2 3 4;go_wp2_with fail;refine(RArity_any a _).mono ?_;rintro er w1 ⟨rfl,rfl⟩;go_wp2;go_ret;exact⟨rfl,HB.out⟩
 have t5:(op==5)=false:=by rw[beq_eq_false_iff_ne];exact e5
 have hr:takeI ⟨op,a,b,n,s⟩=0:=by unfold takeI;simp[e4,e7,e9,e10,e8,e5]
 rw[hr];clear hr;have hb0:=((Below.refl w.heap.size w).alloc (Nat.le_refl _) (.cells #[.int .i64 op,.int .i64 a,.int .i64 b,.int .i64 n,.string (bs s)] 45));have h_HX:=(Bx.new w #[.int .i64 op,.int .i64 a,.int .i64 b,.int .i64 n,.string (bs s)] 45);have HB:=h_ hb0;have HX:=h_ h_HX;clear hb0 h_HX;go_enter func103,ntmps103;go_upto_region 1 with (fail);generalize hW0:w.alloc (.cells #[.int .i64 op,.int .i64 a,.int .i64 b,.int .i64 n,.string (bs s)] 45)=v0 at HB HX ⊢;clear hW0;obtain⟨x0,x1,x2,x3,x4⟩:=HX.out.d5 0 1 2 3 4;go_wp2;go_ret;exact⟨rfl,HB.out⟩
theorem puts_any(x:Ins)(w:World):
  Calls prog 51 #[.agg (insV x)] w fun e w'=>e=.returned (.int .i64 (putI x))∧Below w.heap.size w w':=by
 obtain⟨op,a,b,n,s⟩:=x;simp only[insV];by_cases e1:op=1
 ·subst e1
  have hr:putI ⟨1,a,b,n,s⟩=1:=by rfl
  rw[hr];clear hr;have hb0:=((Below.refl w.heap.size w).alloc (Nat.le_refl _) (.cells #[.int .i64 1,.int .i64 a,.int .i64 b,.int .i64 n,.string (bs s)] 45));have h_HX:=(Bx.new w #[.int .i64 1,.int .i64 a,.int .i64 b,.int .i64 n,.string (bs s)] 45);have HB:=h_ hb0;have HX:=h_ h_HX;clear hb0 h_HX;go_enter func51,ntmps51;go_upto_region 1 with (fail);generalize hW0:w.alloc (.cells #[.int .i64 1,.int .i64 a,.int .i64 b,.int .i64 n,.string (bs s)] 45)=v0 at HB HX ⊢;clear hW0;obtain⟨x0,x1,x2,x3,x4⟩:=HX.out.d5 0 1 2 3 4;go_wp2;go_ret;exact⟨rfl,HB.out⟩
 have t1:(op==1)=false:=by rw[beq_eq_false_iff_ne];exact e1
 by_cases e2:op=2
 ·subst e2
  have hr:putI ⟨2,a,b,n,s⟩=1:=by rfl
  rw[hr];clear hr;have hb0:=((Below.refl w.heap.size w).alloc (Nat.le_refl _) (.cells #[.int .i64 2,.int .i64 a,.int .i64 b,.int .i64 n,.string (bs s)] 45));have h_HX:=(Bx.new w #[.int .i64 2,.int .i64 a,.int .i64 b,.int .i64 n,.string (bs s)] 45);have HB:=h_ hb0;have HX:=h_ h_HX;clear hb0 h_HX;go_enter func51,ntmps51;go_upto_region 1 with (fail);generalize hW0:w.alloc (.cells #[.int .i64 2,.int .i64 a,.int .i64 b,.int .i64 n,.string (bs s)] 45)=v0 at HB HX ⊢;clear hW0;obtain⟨x0,x1,x2,x3,x4⟩:=HX.out.d5 0 1 2 3 4;go_wp2;go_ret;exact⟨rfl,HB.out⟩
 have t2:(op==2)=false:=by rw[beq_eq_false_iff_ne];exact e2
 by_cases e3:op=3
 ·subst e3
  have hr:putI ⟨3,a,b,n,s⟩=1:=by rfl
  rw[hr];clear hr;have hb0:=((Below.refl w.heap.size w).alloc (Nat.le_refl _) (.cells #[.int .i64 3,.int .i64 a,.int .i64 b,.int .i64 n,.string (bs s)] 45));have h_HX:=(Bx.new w #[.int .i64 3,.int .i64 a,.int .i64 b,.int .i64 n,.string (bs s)] 45);have HB:=h_ hb0;have HX:=h_ h_HX;clear hb0 h_HX;go_enter func51,ntmps51;go_upto_region 1 with (fail);generalize hW0:w.alloc (.cells #[.int .i64 3,.int .i64 a,.int .i64 b,.int .i64 n,.string (bs s)] 45)=v0 at HB HX ⊢;clear hW0;obtain⟨x0,x1,x2,x3,x4⟩:=HX.out.d5 0 1 2 3 4;go_wp2;go_ret;exact⟨rfl,HB.out⟩
 have t3:(op==3)=false:=by rw[beq_eq_false_iff_ne];exact e3
 by_cases e5:op=5
 ·subst e5
  have hr:putI ⟨5,a,b,n,s⟩=1:=by rfl
  rw[hr];clear hr;have hb0:=((Below.refl w.heap.size w).alloc (Nat.le_refl _) (.cells #[.int .i64 5,.int .i64 a,.int .i64 b,.int .i64 n,.string (bs s)] 45));have h_HX:=(Bx.new w #[.int .i64 5,.int .i64 a,.int .i64 b,.int .i64 n,.string (bs s)] 45);have HB:=h_ hb0;have HX:=h_ h_HX;clear hb0 h_HX;go_enter func51,ntmps51;go_upto_region 1 with (fail);generalize hW0:w.alloc (.cells #[.int .i64 5,.int .i64 a,.int .i64 b,.int .i64 n,.string (bs s)] 45)=v0 at HB HX ⊢;clear hW0;obtain⟨x0,x1,x2,x3,x4⟩:=HX.out.d5 0 1 2 3 4;go_wp2;go_ret;exact⟨rfl,HB.out⟩
 have t5:(op==5)=false:=by rw[beq_eq_false_iff_ne];exact e5
 have hr:putI ⟨op,a,b,n,s⟩=0:=by unfold putI;simp[e1,e2,e3,e5]
 rw[hr];clear hr;have hb0:=((Below.refl w.heap.size w).alloc (Nat.le_refl _) (.cells #[.int .i64 op,.int .i64 a,.int .i64 b,.int .i64 n,.string (bs s)] 45));have h_HX:=(Bx.new w #[.int .i64 op,.int .i64 a,.int .i64 b,.int .i64 n,.string (bs s)] 45);have HB:=h_ hb0;have HX:=h_ h_HX;clear hb0 h_HX;go_enter func51,ntmps51;go_upto_region 1 with (fail);generalize hW0:w.alloc (.cells #[.int .i64 op,.int .i64 a,.int .i64 b,.int .i64 n,.string (bs s)] 45)=v0 at HB HX ⊢;clear hW0;obtain⟨x0,x1,x2,x3,x4⟩:=HX.out.d5 0 1 2 3 4;go_wp2;go_ret;exact⟨rfl,HB.out⟩
theorem Rputs_any(x:Ins)(w:World):
  Calls prog 104 #[.agg (insV x)] w fun e w'=>e=.returned (.int .i64 (putI x))∧Below w.heap.size w w':=by
 obtain⟨op,a,b,n,s⟩:=x;simp only[insV];by_cases e1:op=1
 ·subst e1
  have hr:putI ⟨1,a,b,n,s⟩=1:=by rfl
  rw[hr];clear hr;have hb0:=((Below.refl w.heap.size w).alloc (Nat.le_refl _) (.cells #[.int .i64 1,.int .i64 a,.int .i64 b,.int .i64 n,.string (bs s)] 45));have h_HX:=(Bx.new w #[.int .i64 1,.int .i64 a,.int .i64 b,.int .i64 n,.string (bs s)] 45);have HB:=h_ hb0;have HX:=h_ h_HX;clear hb0 h_HX;go_enter func104,ntmps104;go_upto_region 1 with (fail);generalize hW0:w.alloc (.cells #[.int .i64 1,.int .i64 a,.int .i64 b,.int .i64 n,.string (bs s)] 45)=v0 at HB HX ⊢;clear hW0;obtain⟨x0,x1,x2,x3,x4⟩:=HX.out.d5 0 1 2 3 4;go_wp2;go_ret;exact⟨rfl,HB.out⟩
 have t1:(op==1)=false:=by rw[beq_eq_false_iff_ne];exact e1
 by_cases e2:op=2
 ·subst e2
  have hr:putI ⟨2,a,b,n,s⟩=1:=by rfl
  rw[hr];clear hr;have hb0:=((Below.refl w.heap.size w).alloc (Nat.le_refl _) (.cells #[.int .i64 2,.int .i64 a,.int .i64 b,.int .i64 n,.string (bs s)] 45));have h_HX:=(Bx.new w #[.int .i64 2,.int .i64 a,.int .i64 b,.int .i64 n,.string (bs s)] 45);have HB:=h_ hb0;have HX:=h_ h_HX;clear hb0 h_HX;go_enter func104,ntmps104;go_upto_region 1 with (fail);generalize hW0:w.alloc (.cells #[.int .i64 2,.int .i64 a,.int .i64 b,.int .i64 n,.string (bs s)] 45)=v0 at HB HX ⊢;clear hW0;obtain⟨x0,x1,x2,x3,x4⟩:=HX.out.d5 0 1 2 3 4;go_wp2;go_ret;exact⟨rfl,HB.out⟩
 have t2:(op==2)=false:=by rw[beq_eq_false_iff_ne];exact e2
 by_cases e3:op=3
 ·subst e3
  have hr:putI ⟨3,a,b,n,s⟩=1:=by rfl
  rw[hr];clear hr;have hb0:=((Below.refl w.heap.size w).alloc (Nat.le_refl _) (.cells #[.int .i64 3,.int .i64 a,.int .i64 b,.int .i64 n,.string (bs s)] 45));have h_HX:=(Bx.new w #[.int .i64 3,.int .i64 a,.int .i64 b,.int .i64 n,.string (bs s)] 45);have HB:=h_ hb0;have HX:=h_ h_HX;clear hb0 h_HX;go_enter func104,ntmps104;go_upto_region 1 with (fail);generalize hW0:w.alloc (.cells #[.int .i64 3,.int .i64 a,.int .i64 b,.int .i64 n,.string (bs s)] 45)=v0 at HB HX ⊢;clear hW0;obtain⟨x0,x1,x2,x3,x4⟩:=HX.out.d5 0 1 2 3 4;go_wp2;go_ret;exact⟨rfl,HB.out⟩
 have t3:(op==3)=false:=by rw[beq_eq_false_iff_ne];exact e3
 by_cases e5:op=5
 ·subst e5
  have hr:putI ⟨5,a,b,n,s⟩=1:=by rfl
  rw[hr];clear hr;have hb0:=((Below.refl w.heap.size w).alloc (Nat.le_refl _) (.cells #[.int .i64 5,.int .i64 a,.int .i64 b,.int .i64 n,.string (bs s)] 45));have h_HX:=(Bx.new w #[.int .i64 5,.int .i64 a,.int .i64 b,.int .i64 n,.string (bs s)] 45);have HB:=h_ hb0;have HX:=h_ h_HX;clear hb0 h_HX;go_enter func104,ntmps104;go_upto_region 1 with (fail);generalize hW0:w.alloc (.cells #[.int .i64 5,.int .i64 a,.int .i64 b,.int .i64 n,.string (bs s)] 45)=v0 at HB HX ⊢;clear hW0;obtain⟨x0,x1,x2,x3,x4⟩:=HX.out.d5 0 1 2 3 4;go_wp2;go_ret;exact⟨rfl,HB.out⟩
 have t5:(op==5)=false:=by rw[beq_eq_false_iff_ne];exact e5
 have hr:putI ⟨op,a,b,n,s⟩=0:=by unfold putI;simp[e1,e2,e3,e5]
 rw[hr];clear hr;have hb0:=((Below.refl w.heap.size w).alloc (Nat.le_refl _) (.cells #[.int .i64 op,.int .i64 a,.int .i64 b,.int .i64 n,.string (bs s)] 45));have h_HX:=(Bx.new w #[.int .i64 op,.int .i64 a,.int .i64 b,.int .i64 n,.string (bs s)] 45);have HB:=h_ hb0;have HX:=h_ h_HX;clear hb0 h_HX;go_enter func104,ntmps104;go_upto_region 1 with (fail);generalize hW0:w.alloc (.cells #[.int .i64 op,.int .i64 a,.int .i64 b,.int .i64 n,.string (bs s)] 45)=v0 at HB HX ⊢;clear hW0;obtain⟨x0,x1,x2,x3,x4⟩:=HX.out.d5 0 1 2 3 4;go_wp2;go_ret;exact⟨rfl,HB.out⟩
theorem leaves_any(x:Ins)(w:World):
  Calls prog 29 #[.agg (insV x)] w fun e w'=>e=.returned (.bool (leaI x))∧Below w.heap.size w w':=by
 obtain⟨op,a,b,n,s⟩:=x;simp only[insV];by_cases e6:op=6
 ·subst e6
  have hr:leaI ⟨6,a,b,n,s⟩=true:=by rfl
  rw[hr];clear hr;have hb0:=((Below.refl w.heap.size w).alloc (Nat.le_refl _) (.cells #[.int .i64 6,.int .i64 a,.int .i64 b,.int .i64 n,.string (bs s)] 45));have h_HX:=(Bx.new w #[.int .i64 6,.int .i64 a,.int .i64 b,.int .i64 n,.string (bs s)] 45);have HB:=h_ hb0;have HX:=h_ h_HX;clear hb0 h_HX;go_enter func29,ntmps29;go_upto_region 1 with (fail);generalize hW0:w.alloc (.cells #[.int .i64 6,.int .i64 a,.int .i64 b,.int .i64 n,.string (bs s)] 45)=v0 at HB HX ⊢;clear hW0;obtain⟨x0,x1,x2,x3,x4⟩:=HX.out.d5 0 1 2 3 4;go_wp2;go_ret;exact⟨rfl,HB.out⟩
 have t6:(op==6)=false:=by rw[beq_eq_false_iff_ne];exact e6
 by_cases e11:op=11
 ·subst e11
  have hr:leaI ⟨11,a,b,n,s⟩=true:=by rfl
  rw[hr];clear hr;have hb0:=((Below.refl w.heap.size w).alloc (Nat.le_refl _) (.cells #[.int .i64 11,.int .i64 a,.int .i64 b,.int .i64 n,.string (bs s)] 45));have h_HX:=(Bx.new w #[.int .i64 11,.int .i64 a,.int .i64 b,.int .i64 n,.string (bs s)] 45);have HB:=h_ hb0;have HX:=h_ h_HX;clear hb0 h_HX;go_enter func29,ntmps29;go_upto_region 1 with (fail);generalize hW0:w.alloc (.cells #[.int .i64 11,.int .i64 a,.int .i64 b,.int .i64 n,.string (bs s)] 45)=v0 at HB HX ⊢;clear hW0;obtain⟨x0,x1,x2,x3,x4⟩:=HX.out.d5 0 1 2 3 4;go_wp2;go_ret;exact⟨rfl,HB.out⟩
 have t11:(op==11)=false:=by rw[beq_eq_false_iff_ne];exact e11
 by_cases e13:op=13
 ·subst e13
  have hr:leaI ⟨13,a,b,n,s⟩=true:=by rfl
  rw[hr];clear hr;have hb0:=((Below.refl w.heap.size w).alloc (Nat.le_refl _) (.cells #[.int .i64 13,.int .i64 a,.int .i64 b,.int .i64 n,.string (bs s)] 45));have h_HX:=(Bx.new w #[.int .i64 13,.int .i64 a,.int .i64 b,.int .i64 n,.string (bs s)] 45);have HB:=h_ hb0;have HX:=h_ h_HX;clear hb0 h_HX;go_enter func29,ntmps29;go_upto_region 1 with (fail);generalize hW0:w.alloc (.cells #[.int .i64 13,.int .i64 a,.int .i64 b,.int .i64 n,.string (bs s)] 45)=v0 at HB HX ⊢;clear hW0;obtain⟨x0,x1,x2,x3,x4⟩:=HX.out.d5 0 1 2 3 4;go_wp2;go_ret;exact⟨rfl,HB.out⟩
 have t13:(op==13)=false:=by rw[beq_eq_false_iff_ne];exact e13
 have hr:leaI ⟨op,a,b,n,s⟩=false:=by unfold leaI;simp[e6,e11,e13]
 rw[hr];clear hr;have hb0:=((Below.refl w.heap.size w).alloc (Nat.le_refl _) (.cells #[.int .i64 op,.int .i64 a,.int .i64 b,.int .i64 n,.string (bs s)] 45));have h_HX:=(Bx.new w #[.int .i64 op,.int .i64 a,.int .i64 b,.int .i64 n,.string (bs s)] 45);have HB:=h_ hb0;have HX:=h_ h_HX;clear hb0 h_HX;go_enter func29,ntmps29;go_upto_region 1 with (fail);generalize hW0:w.alloc (.cells #[.int .i64 op,.int .i64 a,.int .i64 b,.int .i64 n,.string (bs s)] 45)=v0 at HB HX ⊢;clear hW0;obtain⟨x0,x1,x2,x3,x4⟩:=HX.out.d5 0 1 2 3 4;go_wp2;go_ret;exact⟨rfl,HB.out⟩
theorem Rfinal_any(x:Ins)(w:World):
  Calls prog 71 #[.agg (insV x)] w fun e w'=>e=.returned (.bool (leaI x))∧Below w.heap.size w w':=by
 obtain⟨op,a,b,n,s⟩:=x;simp only[insV];by_cases e6:op=6
 ·subst e6
  have hr:leaI ⟨6,a,b,n,s⟩=true:=by rfl
  rw[hr];clear hr;have hb0:=((Below.refl w.heap.size w).alloc (Nat.le_refl _) (.cells #[.int .i64 6,.int .i64 a,.int .i64 b,.int .i64 n,.string (bs s)] 45));have h_HX:=(Bx.new w #[.int .i64 6,.int .i64 a,.int .i64 b,.int .i64 n,.string (bs s)] 45);have HB:=h_ hb0;have HX:=h_ h_HX;clear hb0 h_HX;go_enter func71,ntmps71;go_upto_region 1 with (fail);generalize hW0:w.alloc (.cells #[.int .i64 6,.int .i64 a,.int .i64 b,.int .i64 n,.string (bs s)] 45)=v0 at HB HX ⊢;clear hW0;obtain⟨x0,x1,x2,x3,x4⟩:=HX.out.d5 0 1 2 3 4;go_wp2;go_ret;exact⟨rfl,HB.out⟩
 have t6:(op==6)=false:=by rw[beq_eq_false_iff_ne];exact e6
 by_cases e11:op=11
 ·subst e11
  have hr:leaI ⟨11,a,b,n,s⟩=true:=by rfl
  rw[hr];clear hr;have hb0:=((Below.refl w.heap.size w).alloc (Nat.le_refl _) (.cells #[.int .i64 11,.int .i64 a,.int .i64 b,.int .i64 n,.string (bs s)] 45));have h_HX:=(Bx.new w #[.int .i64 11,.int .i64 a,.int .i64 b,.int .i64 n,.string (bs s)] 45);have HB:=h_ hb0;have HX:=h_ h_HX;clear hb0 h_HX;go_enter func71,ntmps71;go_upto_region 1 with (fail);generalize hW0:w.alloc (.cells #[.int .i64 11,.int .i64 a,.int .i64 b,.int .i64 n,.string (bs s)] 45)=v0 at HB HX ⊢;clear hW0;obtain⟨x0,x1,x2,x3,x4⟩:=HX.out.d5 0 1 2 3 4;go_wp2;go_ret;exact⟨rfl,HB.out⟩
 have t11:(op==11)=false:=by rw[beq_eq_false_iff_ne];exact e11
 by_cases e13:op=13
 ·subst e13
  have hr:leaI ⟨13,a,b,n,s⟩=true:=by rfl
  rw[hr];clear hr;have hb0:=((Below.refl w.heap.size w).alloc (Nat.le_refl _) (.cells #[.int .i64 13,.int .i64 a,.int .i64 b,.int .i64 n,.string (bs s)] 45));have h_HX:=(Bx.new w #[.int .i64 13,.int .i64 a,.int .i64 b,.int .i64 n,.string (bs s)] 45);have HB:=h_ hb0;have HX:=h_ h_HX;clear hb0 h_HX;go_enter func71,ntmps71;go_upto_region 1 with (fail);generalize hW0:w.alloc (.cells #[.int .i64 13,.int .i64 a,.int .i64 b,.int .i64 n,.string (bs s)] 45)=v0 at HB HX ⊢;clear hW0;obtain⟨x0,x1,x2,x3,x4⟩:=HX.out.d5 0 1 2 3 4;go_wp2;go_ret;exact⟨rfl,HB.out⟩
 have t13:(op==13)=false:=by rw[beq_eq_false_iff_ne];exact e13
 have hr:leaI ⟨op,a,b,n,s⟩=false:=by unfold leaI;simp[e6,e11,e13]
 rw[hr];clear hr;have hb0:=((Below.refl w.heap.size w).alloc (Nat.le_refl _) (.cells #[.int .i64 op,.int .i64 a,.int .i64 b,.int .i64 n,.string (bs s)] 45));have h_HX:=(Bx.new w #[.int .i64 op,.int .i64 a,.int .i64 b,.int .i64 n,.string (bs s)] 45);have HB:=h_ hb0;have HX:=h_ h_HX;clear hb0 h_HX;go_enter func71,ntmps71;go_upto_region 1 with (fail);generalize hW0:w.alloc (.cells #[.int .i64 op,.int .i64 a,.int .i64 b,.int .i64 n,.string (bs s)] 45)=v0 at HB HX ⊢;clear hW0;obtain⟨x0,x1,x2,x3,x4⟩:=HX.out.d5 0 1 2 3 4;go_wp2;go_ret;exact⟨rfl,HB.out⟩
end Go.Proofs.YtnglaegofhpleaaGreatDoor
