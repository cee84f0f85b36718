/- The plain functions of the sector layer: bytes with the highest first, the sealed sector; a row of bytes in memory, and what copy, a store and a conversion do to it. No conditions. -/
import Derived.Test.YtkpfkknldeafkaaCrcWalk
import Derived.Test.YtkpfkknldeafkaaBytes
import Derived.Laws.CopyOwn
import Derived.Lib.BufferWrite
import Derived.Deep.RegionLaw
namespace Go.Proofs.Ytkpfkknldeafkaa
open Go.RowKit

/-! ### bytes, the highest first -/
def be (u n : Nat) : List UInt8 := (lit u n).reverse
theorem be_length (u n : Nat) : (be u n).length = n := by simp [be, lit_length]
attribute [go_sem] lit_length be_length
theorem be_get (u n j : Nat) (h : j < (be u n).length) : (be u n)[j] = UInt8.ofNat (u / 256 ^ (n - 1 - j)) := by
  have hj : j < n := by rw [be_length] at h; exact h
  simp only [be, List.getElem_reverse]
  rw [lit_get]
  simp only [lit_length]
theorem be_inj (n : Nat) {u v : Nat} (hu : u < 256 ^ n) (hv : v < 256 ^ n) (h : be u n = be v n) : u = v :=
  lit_inj n hu hv (List.reverse_inj.1 h)
theorem be_succ (u n : Nat) : be u (n + 1) = be (u / 256) n ++ [UInt8.ofNat u] := by simp [be, lit]

/-- the number of some bytes, the highest first -/
def numS (x : Nat) (c : UInt8) : Nat := x * 256 + c.toNat
def num (l : List UInt8) : Nat := l.foldl numS 0
theorem num_snoc (l : List UInt8) (c : UInt8) : num (l ++ [c]) = num l * 256 + c.toNat := by unfold num; rw [List.foldl_append]; rfl
set_option maxRecDepth 100000 in
theorem num_lt (l : List UInt8) : num l < 256 ^ l.length := by
  induction hn : l.length generalizing l with
  | zero => rw [List.eq_nil_of_length_eq_zero hn]; simp [num]
  | succ n ih =>
    obtain ⟨r, c, rfl⟩ : ∃ r c, l = r ++ [c] := ⟨l.dropLast, l.getLast (by intro h; rw [h] at hn; simp at hn), (List.dropLast_concat_getLast _).symm⟩
    have hr : r.length = n := by simpa using hn
    have := ih r hr
    have hc := c.toNat_lt
    rw [num_snoc, Nat.pow_succ]; omega
set_option maxRecDepth 100000 in
theorem be_num (l : List UInt8) : be (num l) l.length = l := by
  induction hn : l.length generalizing l with
  | zero => rw [List.eq_nil_of_length_eq_zero hn]; rfl
  | succ n ih =>
    obtain ⟨r, c, rfl⟩ : ∃ r c, l = r ++ [c] := ⟨l.dropLast, l.getLast (by intro h; rw [h] at hn; simp at hn), (List.dropLast_concat_getLast _).symm⟩
    have hr : r.length = n := by simpa using hn
    have hc := c.toNat_lt
    rw [num_snoc, be_succ, show (num r * 256 + c.toNat) / 256 = num r by omega, ih r hr]
    congr 2
    apply UInt8.toNat_inj.1
    rw [UInt8.toNat_ofNat']; omega
theorem num_be (u n : Nat) (h : u < 256 ^ n) : num (be u n) = u :=
  be_inj n (by have := num_lt (be u n); rwa [be_length] at this) h (by have := be_num (be u n); rwa [be_length] at this)

/-! ### a row of bytes in memory -/
theorem bcs_splice (L : List UInt8) (o : Nat) (l : List UInt8) : (bcs L).take o ++ bcs l ++ (bcs L).drop (o + l.length) = bcs (splice L o l) := by
  simp [bcs, splice, List.map_take, List.map_drop, List.append_assoc]
theorem byteCells_eq (L : List UInt8) : Lib.byteCells L = bcs L := rfl

/-- block g is a row that holds the bytes L -/
def RowB (W : World) (g : Nat) (T : TypeId) (L : List UInt8) : Prop := W.heap[g]? = some (.cells (bcs L).toArray T (0, 0))
theorem RowB.cell {W : World} {g : Nat} {T : TypeId} {L : List UInt8} (h : RowB W g T L) (j : Nat) (hj : j < L.length) : W.cell? ⟨g, j, none⟩ = some (.int .u8 (L[j].toNat : Int)) := by
  simp [World.cell?, RowB] at h ⊢
  simp [h, bcs, hj]
theorem RowB.frozen {W : World} {g : Nat} {T : TypeId} {L : List UInt8} (h : RowB W g T L) (j : Nat) : W.frozen? ⟨g, j, none⟩ = false := by
  unfold RowB at h
  simp [World.frozen?, h]
theorem RowB.bytes {W : World} {g : Nat} {T : TypeId} {L : List UInt8} (h : RowB W g T L) : Lib.Bytes W g 0 (bs L) := by
  intro i hi
  rw [Nat.zero_add, h.cell i (by rw [bs_size] at hi; exact hi), bs_get]
theorem RowB.lt {W : World} {g : Nat} {T : TypeId} {L : List UInt8} (h : RowB W g T L) : g < W.heap.size := by
  unfold RowB at h
  rcases Nat.lt_or_ge g W.heap.size with h' | h'
  · exact h'
  · rw [Array.getElem?_eq_none h'] at h; cases h
theorem RowB.below {W W' : World} {g B : Nat} {T : TypeId} {L : List UInt8} (h : RowB W g T L) (hb : Below B W W') (hg : g < B) : RowB W' g T L := by
  unfold RowB at h ⊢; rw [hb.block g hg]; exact h
theorem RowB.drew {W : World} {g : Nat} {T : TypeId} {L : List UInt8} (h : RowB W g T L) : RowB W.drew g T L := h
theorem RowB.store {W : World} {g : Nat} {T : TypeId} {L : List UInt8} (h : RowB W g T L) (j : Nat) (b : UInt8) : RowB (W.setCell ⟨g, j, none⟩ (.int .u8 (b.toNat : Int))) g T (L.set j b) := by
  unfold RowB at h ⊢
  rw [Lib.heap_setCell_same h]
  simp [bcs, List.map_set]
set_option maxRecDepth 100000 in
/-- 'string(b[j:j+n])' of a row of bytes -/
theorem RowB.conv {P : Program} {W : World} {g : Nat} {T : TypeId} {L : List UInt8} (h : RowB W g T L) (src e dst : TypeId) (hs : P.underlying src = some (.slice e)) (he : P.underlying e = some (.int .u8)) (hd : P.underlying dst = some .string)
    (j n cap : Nat) (hj : j + n ≤ L.length) : (convert src dst (.slice (some ⟨g, j, none⟩) n cap)).run P W = .ok (.string (bs ((L.drop j).take n))) W := by
  have := Lib.run_convert_window (P := P) W src e dst hs he hd g 0 (bs L) h.bytes j n cap (by rw [bs_size]; exact hj)
  rw [Nat.zero_add] at this
  rw [this, bs_extract, List.drop_take, show j + n - j = n by omega]

set_option maxRecDepth 100000 in
/-- 'copy(b[o:..], s)': one step of a region that draws its order, and of one that does not -/
theorem step_copy_bytes {P : Program} {ops : Array Oper} {o : Oper} {a : Act} {w : World} {K : Act → World → Prop} {Q : Exit → Act → World → Prop} {E : Prop} (hgd : o.guard = none) (d s : Operand) (dT sT : TypeId)
    (ho : o.op = .call { callee := .builtin .copy, args := #[d, s], argTypes := #[dT, sT] }) (elem : TypeId) (hu : P.underlying dT = some (.slice elem)) (hsz : (P.info? elem).map (·.size) = some 1)
    (g off dLen dCap : Nat) (l : List UInt8) (hd : a.eval d = .slice (some ⟨g, off, none⟩) dLen dCap) (hs : a.eval s = .string (bs l)) (T : TypeId) (L : List UInt8) (hg : RowB w g T L) (hle : l.length ≤ dLen) (hfit : off + l.length ≤ L.length)
    (h : ∀ w', RowB w' g T (splice L off l) → (∀ B, B ≤ g → ∀ w0, Below B w0 w → Below B w0 w') → (∀ k, k ≠ g → w'.heap[k]? = w.heap[k]?) → K (a.put o.dst (goInt l.length)) w') :
    if Region.wanted o (yielded ops a.tmps) = true then Oper.wp P o a w K Q else E := by
  have hw : Region.wanted o (yielded ops a.tmps) = true := by simp [Region.wanted, hgd]
  rw [if_pos hw]
  have hrun := Lib.run_copy_row_string (P := P) w dT sT o.type elem g off dLen dCap (bs l) (bcs L).toArray T hu hsz hg (by rw [bs_size]; exact hle) (by rw [bs_size]; simpa [bcs] using hfit)
  rw [toList_bs, bs_size, byteCells_eq] at hrun
  simp only [bcs_splice] at hrun
  unfold Oper.wp
  simp only [execOp, ho, resolve, invoke, builtin]
  simp [hd, hs, hrun, Result.andThen]
  refine h _ ?_ (fun B hB w0 hb => below_setRow hb hB _) (fun k hk => setRow_other w g k _ hk)
  show _ = _
  rw [setRow_heap w g _ _ T _ hg]
set_option maxRecDepth 100000 in
theorem wpList_copy_bytes {P : Program} {w : World} {ops : Array Oper} {rest : List Oper} {o : Oper} {a : Act} {Q : Exit → Act → World → Prop} (hgd : o.guard = none) (d s : Operand) (dT sT : TypeId)
    (ho : o.op = .call { callee := .builtin .copy, args := #[d, s], argTypes := #[dT, sT] }) (elem : TypeId) (hu : P.underlying dT = some (.slice elem)) (hsz : (P.info? elem).map (·.size) = some 1)
    (g off dLen dCap : Nat) (l : List UInt8) (hd : a.eval d = .slice (some ⟨g, off, none⟩) dLen dCap) (hs : a.eval s = .string (bs l)) (T : TypeId) (L : List UInt8) (hg : RowB w g T L) (hle : l.length ≤ dLen) (hfit : off + l.length ≤ L.length)
    (h : ∀ w', RowB w' g T (splice L off l) → (∀ B, B ≤ g → ∀ w0, Below B w0 w → Below B w0 w') → (∀ k, k ≠ g → w'.heap[k]? = w.heap[k]?) → wpList P ops Q rest (a.put o.dst (goInt l.length)) w') :
    wpList P ops Q (o :: rest) a w := by
  refine wpList_plain hgd fun K hK => ?_
  have hrun := Lib.run_copy_row_string (P := P) w dT sT o.type elem g off dLen dCap (bs l) (bcs L).toArray T hu hsz hg (by rw [bs_size]; exact hle) (by rw [bs_size]; simpa [bcs] using hfit)
  rw [toList_bs, bs_size, byteCells_eq] at hrun
  simp only [bcs_splice] at hrun
  unfold Oper.wp
  simp only [execOp, ho, resolve, invoke, builtin]
  simp [hd, hs, hrun, Result.andThen]
  refine hK _ _ (h _ ?_ (fun B hB w0 hb => below_setRow hb hB _) (fun k hk => setRow_other w g k _ hk))
  show _ = _
  rw [setRow_heap w g _ _ T _ hg]

/-! ### the sealed sector -/
def headL (g p q n : Nat) : List UInt8 := be g 6 ++ be p 2 ++ be q 2 ++ be n 2
def bodyL (l : List UInt8) : List UInt8 := l ++ List.replicate (40 - l.length) 0
def markL (g p : Nat) : List UInt8 := be g 6 ++ be p 2
def sealedL (g p q : Nat) (l : List UInt8) : List UInt8 :=
  headL g p q l.length ++ lit (crc (headL g p q l.length ++ bodyL l)) 4 ++ bodyL l ++ markL g p
theorem headL_length (g p q n : Nat) : (headL g p q n).length = 12 := by simp [headL, be_length]
theorem bodyL_length (l : List UInt8) (h : l.length ≤ 40) : (bodyL l).length = 40 := by simp [bodyL]; omega
theorem markL_length (g p : Nat) : (markL g p).length = 8 := by simp [markL, be_length]
theorem sealedL_length (g p q : Nat) (l : List UInt8) (h : l.length ≤ 40) : (sealedL g p q l).length = 64 := by
  simp only [sealedL, List.length_append, headL_length, lit_length, bodyL_length l h, markL_length]
attribute [go_sem] headL_length markL_length
set_option maxRecDepth 100000 in
theorem splice_at {α : Type} (A X C Y : List α) (o : Nat) (ho : o = A.length) (hX : X.length = Y.length) : splice (A ++ (X ++ C)) o Y = A ++ (Y ++ C) := by
  subst ho
  unfold splice
  rw [List.take_left', List.drop_append]
  · congr 2
    rw [List.drop_of_length_le (by omega), List.nil_append, show A.length + Y.length - A.length = X.length by omega, List.drop_left']
    rfl
  · rfl
/-- 64 bytes 0 -/
def Z64 : List UInt8 := List.replicate 64 0
def zs (n : Nat) : List UInt8 := List.replicate n 0
theorem zs_add (a b : Nat) : zs (a + b) = zs a ++ zs b := by simp [zs]
theorem zs_length (n : Nat) : (zs n).length = n := by simp [zs]
def L1 (g p : Nat) : List UInt8 := markL g p ++ zs 56
def L2 (g p q : Nat) : List UInt8 := (markL g p ++ be q 2) ++ zs 54
def L3 (g p q n : Nat) : List UInt8 := headL g p q n ++ zs 52
def L4 (g p q : Nat) (l : List UInt8) : List UInt8 := headL g p q l.length ++ (zs 4 ++ (bodyL l ++ zs 8))
def L5 (g p q : Nat) (l : List UInt8) : List UInt8 := headL g p q l.length ++ (zs 4 ++ (bodyL l ++ markL g p))
theorem step1 (g p : Nat) : splice Z64 0 (markL g p) = L1 g p := by
  have := splice_at [] (zs 8) (zs 56) (markL g p) 0 rfl (by rw [markL_length, zs_length])
  exact this
theorem L1_length (g p : Nat) : (L1 g p).length = 64 := by simp [L1, markL_length, zs_length]
theorem L2_length (g p q : Nat) : (L2 g p q).length = 64 := by simp [L2, markL_length, be_length, zs_length]
theorem L3_length (g p q n : Nat) : (L3 g p q n).length = 64 := by simp [L3, headL_length, zs_length]
theorem L4_length (g p q : Nat) (l : List UInt8) (hl : l.length ≤ 40) : (L4 g p q l).length = 64 := by simp [L4, headL_length, zs_length, bodyL_length l hl]
theorem step2 (g p q : Nat) : splice (L1 g p) 8 (be q 2) = L2 g p q := by
  unfold L1 L2
  rw [show zs 56 = zs 2 ++ zs 54 from zs_add 2 54, splice_at _ _ _ _ 8 (by rw [markL_length]) (by rw [be_length, zs_length]), List.append_assoc]
theorem step3 (g p q n : Nat) : splice (L2 g p q) 10 (be n 2) = L3 g p q n := by
  unfold L2 L3 headL
  rw [show zs 54 = zs 2 ++ zs 52 from zs_add 2 52, splice_at _ _ _ _ 10 (by simp [markL_length, be_length]) (by rw [be_length, zs_length])]
  simp [markL, List.append_assoc]
theorem step4 (g p q : Nat) (l : List UInt8) (hl : l.length ≤ 40) : splice (L3 g p q l.length) 16 l = L4 g p q l := by
  unfold L3 L4 bodyL
  rw [show zs 52 = zs 4 ++ (zs l.length ++ (zs (40 - l.length) ++ zs 8)) by rw [← zs_add, ← zs_add, ← zs_add]; congr 1; omega]
  rw [← List.append_assoc (headL g p q l.length), splice_at _ _ _ _ 16 (by simp [headL_length, zs_length]) (by rw [zs_length])]
  simp [zs, List.append_assoc]
theorem step5 (g p q : Nat) (l : List UInt8) (hl : l.length ≤ 40) : splice (L4 g p q l) 56 (markL g p) = L5 g p q l := by
  unfold L4 L5
  have h := splice_at (headL g p q l.length ++ (zs 4 ++ bodyL l)) (zs 8) [] (markL g p) 56 (by simp [headL_length, zs_length, bodyL_length l hl]) (by rw [zs_length, markL_length])
  simpa [List.append_assoc] using h
theorem L5_length (g p q : Nat) (l : List UInt8) (hl : l.length ≤ 40) : (L5 g p q l).length = 64 := by
  simp [L5, headL_length, zs_length, bodyL_length l hl, markL_length]
theorem L5_head (g p q : Nat) (l : List UInt8) : ((L5 g p q l).drop 0).take 12 = headL g p q l.length := by
  unfold L5
  rw [List.drop_zero, List.take_left' (headL_length _ _ _ _)]
theorem L5_body (g p q : Nat) (l : List UInt8) (hl : l.length ≤ 40) : ((L5 g p q l).drop 16).take 40 = bodyL l := by
  unfold L5
  rw [← List.append_assoc, List.drop_left' (by simp [headL_length, zs_length]), List.take_left' (bodyL_length l hl)]
/-- with k bytes of the checksum stored -/
def L6 (g p q : Nat) (l : List UInt8) (k : Nat) : List UInt8 :=
  headL g p q l.length ++ ((lit (crc (headL g p q l.length ++ bodyL l)) 4).take k ++ (zs (4 - k) ++ (bodyL l ++ markL g p)))
theorem L6_zero (g p q : Nat) (l : List UInt8) : L6 g p q l 0 = L5 g p q l := by simp [L6, L5]
theorem L6_four (g p q : Nat) (l : List UInt8) : L6 g p q l 4 = sealedL g p q l := by
  unfold L6 sealedL
  rw [List.take_of_length_le (by rw [lit_length]; omega)]
  simp [zs, List.append_assoc]
set_option maxRecDepth 100000 in
theorem L6_succ (g p q : Nat) (l : List UInt8) (k : Nat) (hk : k < 4) : (L6 g p q l k).set (12 + k) (UInt8.ofNat (crc (headL g p q l.length ++ bodyL l) / 256 ^ k)) = L6 g p q l (k + 1) := by
  unfold L6
  have hlen : (lit (crc (headL g p q l.length ++ bodyL l)) 4).length = 4 := lit_length _ _
  have hget := lit_get (crc (headL g p q l.length ++ bodyL l)) 4 k (by rw [hlen]; exact hk)
  rw [← hget]
  generalize hS : lit (crc (headL g p q l.length ++ bodyL l)) 4 = S at *
  rw [List.set_append_right _ _ (by rw [headL_length]; omega), headL_length, show 12 + k - 12 = k by omega]
  rw [List.set_append_right _ _ (by rw [List.length_take]; omega), List.length_take, show k - min k S.length = 0 by omega]
  rw [show zs (4 - k) = 0 :: zs (4 - (k + 1)) by rw [show 4 - k = (4 - (k + 1)) + 1 by omega]; rfl]
  rw [List.cons_append, List.set_cons_zero, List.take_succ_eq_append_getElem (by omega), List.append_assoc]
  rfl
theorem L6_length (g p q : Nat) (l : List UInt8) (hl : l.length ≤ 40) (k : Nat) (hk : k ≤ 4) : (L6 g p q l k).length = 64 := by
  simp [L6, headL_length, lit_length, zs_length, bodyL_length l hl, markL_length]; omega
end Go.Proofs.Ytkpfkknldeafkaa
